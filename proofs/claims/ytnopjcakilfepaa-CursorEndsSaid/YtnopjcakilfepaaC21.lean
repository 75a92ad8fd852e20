import Derived.Test.YtnopjcakilfepaaCE
import Derived.Test.YtnopjcakilfepaaC17
namespace Go.Proofs.Ytnopjcakilfepaa.QS
set_option linter.unusedVariables false
set_option linter.unusedSimpArgs false
open Go.RowKit Go.Proofs.Ytnopjcakilfepaa.SS Go.Proofs.Ytnopjcakilfepaa.Hp Go.Proofs.YtnopjcakilfepaaW.PrintWords Go.Proofs.YtnopjcakilfepaaW.PrintLast Go.Proofs.YtnopjcakilfepaaW.PrintMore
def ends8.T8 : Bool × List (List Nat × List Nat) := (true, [([], []), ([], []), ([1], [1]), ([], []), ([3], [3]), ([], []), ([5], [5]), ([6], [6]), ([7, 7], [7]), ([], []), ([9], [9]), ([2, 4, 8, 10], [2, 4, 8, 10]), ([11], [11]), ([0, 12, 8], [0, 12]), ([13, 13, 0, 1, 2, 3, 4, 5, 6, 7, 8, 9, 10, 11, 12, 13], [0, 13])])
def ends8.B8 : List Nat := [0, 0, 2, 0, 8, 0, 32, 96, 224, 0, 512, 2046, 4094, 8191, 16383]
theorem ends8.tab8 : rtab .any (opsOf Try.f10 8) = ends8.T8 := by kernel_rfl
theorem ends8.bits8 : waitsOk ends8.T8.2 ends8.B8 = true := by kernel_rfl
def ends27.T27 : Bool × List (List Nat × List Nat) := (true, [([], []), ([], []), ([], []), ([1, 2], [1, 2]), ([], []), ([4], [4]), ([3, 5, 3], [3, 5]), ([0, 6, 6], [0, 6]), ([7], [7]), ([8], [8]), ([8], [8]), ([8], [8]), ([], []), ([12, 9, 7, 0, 1, 2, 3, 4, 5, 6, 7, 8, 9, 12], [9, 12]), ([10, 13, 0, 1, 2, 3, 4, 5, 6, 7, 8, 9, 10, 12, 13], [10]), ([11, 14, 0, 1, 2, 3, 4, 5, 6, 7, 8, 9, 10, 11, 12, 13, 14], [11])])
def ends27.B27 : List Nat := [0, 0, 0, 6, 0, 16, 62, 127, 255, 511, 511, 511, 0, 5119, 14335, 32767]
theorem ends27.tab27 : rtab .any (opsOf Try.f10 27) = ends27.T27 := by kernel_rfl
theorem ends27.bits27 : waitsOk ends27.T27.2 ends27.B27 = true := by kernel_rfl
set_option maxHeartbeats 2000000 in
set_option maxRecDepth 100000 in
theorem ends_calls (l : List R0) (A : Option Addr) (cp : Nat) (hcp : l.length ≤ cp) (hm : l.length ≤ 9223372036854775807) (w : World) (hC : Kd.C k29 w A l.length l) :
    Calls Try.prog 10 #[.slice A l.length cp] w fun e w' => e = .returned (.bool true) ∧ Below w.heap.size w w' := by
  have HLI := Aside0.mk (fun W hW => light33_calls l A cp hcp W (Kd.C_below hC hW) hm)
  have HR := Aside0.mk hC
  have HAW := Aside0.mk (fun W => awake33_calls W)
  have B0 := Aside0.mk (Below.refl w.heap.size w)
  clear hcp hC hm
  cases hlb : light33B l with
  | false =>
    rw [hlb] at HLI
    clear hlb
    go_enter Try.func10, Try.ntmps10
    go_wp2_with (first | (go_at_call 42; refine (HLI.out _ B0.out).mono ?_; rintro e w2 ⟨rfl, hb⟩; replace B0 := Aside0.mk (below_then B0.out B0.out.size hb); clear hb) | (go_at_call 41; refine (HAW.out _).mono ?_; rintro e w2 ⟨rfl, hb⟩; replace B0 := Aside0.mk (below_then B0.out B0.out.size hb); clear hb))
    go_ret
    exact ⟨rfl, B0.out⟩
  | true =>
    have HL40 := Aside0.mk (light33_L hlb)
    rw [hlb] at HLI
    clear hlb
    go_enter Try.func10, Try.ntmps10
    go_wp2_with (go_at_call 42; refine (HLI.out _ B0.out).mono ?_; rintro e W1 ⟨rfl, hb⟩; replace B0 := Aside0.mk (below_then B0.out B0.out.size hb); clear hb)
    have HR1 := Aside0.mk (Kd.C_below HR.out B0.out)
    clear HLI HR
    go_loopg [3, 4] (l.length + 1) (fun kq v3 v4 w' => ∃ i : Nat, v4 = .int .i64 (i : Int) ∧ Aside0 (i ≤ l.length ∧ kq + i = l.length + 1) ∧ Aside0 (w'.ownsRow W1.heap.size 29 8 v3 i (encP ((allOf l).take i))) ∧ Aside0 (Below W1.heap.size W1 w'))
    case atStart => exact ⟨0, rfl, ⟨Nat.zero_le _, rfl⟩, ⟨World.ownsRow_nil _ _ _ _⟩, ⟨Below.refl _ _⟩⟩
    case round =>
      obtain ⟨i, rfl, HI, HO, BB⟩ := hrel
      by_cases hi : i < l.length
      case neg =>
        have hie : i = l.length := by have := HI.out; omega
        subst hie
        have t1 : decide ((l.length : Int) < (l.length : Int)) = false := decide_eq_false (by omega)
        have hrow : wr.ownsRow W1.heap.size 29 8 u3 (allOf l).length (encP (allOf l)) := by
          have := HO.out
          rw [List.take_of_length_le (by rw [allOf_len]; exact Nat.le_refl _)] at this
          rwa [allOf_len]
        have hgs : W1.heap.size ≤ wr.heap.size := BB.out.size
        have hz6 := heap_alloc_new wr (.cells #[.bool false, .bool false, .int .u64 0, .int .i64 0] 65)
        have hb6 := below_alloc BB.out (.cells #[.bool false, .bool false, .int .u64 0, .int .i64 0] 65)
        have ho6 := World.ownsRow.alloc hrow (.cells #[.bool false, .bool false, .int .u64 0, .int .i64 0] 65)
        have hne6 : u3.ownBlock ≠ some wr.heap.size := fun h => absurd (own_lt hrow _ h) (Nat.lt_irrefl _)
        have hlt6 : wr.heap.size < (wr.alloc (.cells #[.bool false, .bool false, .int .u64 0, .int .i64 0] 65)).heap.size := by simp
        have hll := allOf_len l
        have hgd := allOf_good l
        have HAL := Aside0.mk (show (allOf l).length ≤ 40 by have := HL40.out; omega)
        generalize allOf l = all0 at ho6 hll hgd HAL
        clear hi HO BB HR1 t1 hrow
        go_upto_region 10 with fail
        generalize wr.alloc (.cells #[.bool false, .bool false, .int .u64 0, .int .i64 0] 65) = W2 at hz6 hb6 ho6 hlt6 ⊢
        generalize wr.heap.size = g6 at hz6 hne6 hlt6 hgs ⊢
        obtain ⟨A3, c3, rfl, hc3, hC3⟩ := encP_C hgd (by have := HAL.out; omega) ho6
        have hcz : CurOk all0 false 0 0 := .inl ⟨rfl, rfl, rfl⟩
        have htr := tot_range hgd.frs
        have hle := left_eq hgd (by have := HAL.out; omega) hcz (by have := HAL.out; omega) htr.1
        have HLE := Aside0.mk (left_calls all0 (hgd.light (by have := HAL.out; omega)) false false 0 0 A3 c3 W2 hC3)
        rw [hle, Int.sub_zero] at HLE
        have c0 := blk_cell hz6 0
        have c1 := blk_cell hz6 1
        have c2 := blk_cell hz6 2
        have c3' := blk_cell hz6 3
        have HH := Aside0.mk (And.intro hz6 (And.intro hb6 (And.intro ho6 (And.intro hne6 (And.intro hlt6 hgs)))))
        have HG := Aside0.mk (And.intro hgd (And.intro hcz htr))
        obtain ⟨n0, hn0⟩ : ∃ n0, n0 = tot all0 := ⟨_, rfl⟩
        rw [← hn0] at HLE
        have HN0 := Aside0.mk hn0
        have HLL := Aside0.mk hll
        clear hz6 hb6 ho6 hne6 hlt6 hgs hgd hcz htr hle hC3 hc3 hn0 hll
        go_wp2_with (go_at_call 45; refine HLE.out.mono ?_; rintro e w3 ⟨rfl, hb⟩; have HB := Aside0.mk hb; clear hb c0 c1 c2 c3')
        have HO3 := Aside0.mk (pw_own_below HH.out.2.2.1 HB.out)
        have HZ3 := Aside0.mk (blk_below HH.out.1 HB.out)
        have HB3 := Aside0.mk (below_then HH.out.2.1 HH.out.2.1.size HB.out)
        have HG3 : Aside0 (g6 < w3.heap.size) := ⟨Nat.lt_of_lt_of_le HH.out.2.2.2.2.1 HB.out.size⟩
        go_loopg [3, 8] (n0.toNat + 1) (fun kq v3 v8 w' => ∃ (all : List R0) (on : Bool) (id I : Int), v8 = .int .i64 (tot all - I) ∧ Aside0 (Good all ∧ all.length ≤ 40 ∧ CurOk all on id I ∧ (kq : Int) = tot all - I + 1) ∧ Aside0 (w'.ownsRow W1.heap.size 29 8 v3 all.length (encP all)) ∧ Aside0 (v3.ownBlock ≠ some g6 ∧ g6 < w'.heap.size) ∧ Aside0 (w'.heap[g6]? = some (.cells #[.bool on, .bool false, .int .u64 id, .int .i64 I] 65 (0, 0))) ∧ Aside0 (Below W1.heap.size W1 w'))
        case atStart => exact ⟨all0, false, 0, 0, by rw [HN0.out, Int.sub_zero], ⟨HG.out.1, HAL.out, HG.out.2.1, by have := HG.out.2.2.1; have := HN0.out; omega⟩, HO3, ⟨HH.out.2.2.2.1, HG3.out⟩, HZ3, HB3⟩
        case round =>
          have HGS := Aside0.mk HH.out.2.2.2.2.2
          clear HO3 HZ3 HB3 HG3 HH HB HG HN0 HLE HAL HLL
          obtain ⟨all, on, id, I, rfl, HA, HO, HNE, HZ, BB⟩ := hrel
          obtain ⟨A3', c3n, rfl, hc3, hC3⟩ := encP_C HA.out.1 (by have := HA.out.2.1; omega) HO.out
          have HC3 := Aside0.mk hC3
          have hct := CurOk.tot HA.out.1 HA.out.2.2.1
          clear hc3 hC3
          obtain ⟨n, hn⟩ : ∃ n, n = tot all - I := ⟨_, rfl⟩
          rw [← hn]
          by_cases hpos : n > 0
          case neg =>
            have tp : decide (n > 0) = false := decide_eq_false hpos
            obtain ⟨rfl, rfl, rfl⟩ := hct.2.2 (by omega)
            have ht0 : tot all = 0 := by omega
            have hlt := HA.out.1.light (by have := HA.out.2.1; omega)
            have HNX := Aside0.mk (cnext_calls all hlt false false 0 0 A3' c3n wr HC3.out)
            have hle := left_eq HA.out.1 (by have := HA.out.2.1; omega) (.inl ⟨rfl, rfl, rfl⟩ : CurOk all false 0 0) (by omega) (by omega)
            have HLE : Aside0 (∀ W, Below wr.heap.size wr W → Calls Try.prog 45 #[.slice A3' all.length c3n, .agg #[.bool false, .bool false, .int .u64 0, .int .i64 0]] W fun e w' => e = .returned (.int .i64 0) ∧ Below W.heap.size W w') := ⟨fun W hW => by
              have := left_calls all hlt false false 0 0 A3' c3n W (Kd.C_below HC3.out hW)
              rwa [hle, ht0, Int.sub_zero] at this⟩
            have HNE := Aside0.mk (next_end HA.out.1 ht0)
            have HB1 := Aside0.mk (below_then B0.out B0.out.size BB.out)
            have c0 := blk_cell HZ.out 0
            have c1 := blk_cell HZ.out 1
            have c2 := blk_cell HZ.out 2
            have c3 := blk_cell HZ.out 3
            clear hct ht0 hlt hle hpos hn HC3 HO BB
            go_upto_region 32 with (go_at_call 46; refine HNX.out.mono ?_; rintro e w5 ⟨A7, c7, x, i, b, hno, rfl, -, -, hb⟩)
            obtain rfl : b = false := by have := HNE.out; rw [hno] at this; exact this
            have hb6 := below_alloc hb (.cells #[.int .u64 x.f0, .int .u64 x.f1, .int .i64 x.f2, .int .i64 x.f3, .int .u64 x.f4, .bool x.f5, .int .i64 x.f6, .slice A7 x.f7.length c7] 29)
            have hz6 := blk_alloc (blk_below HZ.out hb) (.cells #[.int .u64 x.f0, .int .u64 x.f1, .int .i64 x.f2, .int .i64 x.f3, .int .u64 x.f4, .bool x.f5, .int .i64 x.f6, .slice A7 x.f7.length c7] 29)
            generalize w5.alloc (.cells #[.int .u64 x.f0, .int .u64 x.f1, .int .i64 x.f2, .int .i64 x.f3, .int .u64 x.f4, .bool x.f5, .int .i64 x.f6, .slice A7 x.f7.length c7] 29) = W6 at hb6 hz6 ⊢
            have HB6 := Aside0.mk hb6
            have HZ6 := Aside0.mk hz6
            clear c0 c1 c2 c3 hno hb hb6 hz6 HNX HNE
            go_wp2_with (first | (go_at_call 41; refine (HAW.out _).mono ?_; rintro e w7 ⟨rfl, hb⟩; have hz7 := blk_below HZ6.out hb; have HB7 := Aside0.mk (below_then HB6.out HB6.out.size hb); have c0 := blk_cell hz7 0; have c1 := blk_cell hz7 1; have c2 := blk_cell hz7 2; have c3 := blk_cell hz7 3; clear hb hz7) | (go_at_call 45; refine (HLE.out _ HB7.out).mono ?_; rintro e w8 ⟨rfl, hb⟩; have HB8 := Aside0.mk (below_then HB7.out HB7.out.size hb); clear hb))
            go_ret
            exact ⟨rfl, below_then HB1.out HB1.out.size HB8.out⟩
          case pos =>
            have tp : decide (n > 0) = true := decide_eq_true hpos
            have hlt := HA.out.1.light (by have := HA.out.2.1; omega)
            have htr := tot_range HA.out.1.frs
            have hle := left_eq HA.out.1 (by have := HA.out.2.1; omega) HA.out.2.2.1 (by have := HA.out.2.1; omega) htr.1
            rw [← hn] at hle
            have HLE := Aside0.mk (left_calls all hlt on false id I A3' c3n wr HC3.out)
            rw [hle] at HLE
            have HNX := Aside0.mk (fun W hW => cnext_calls all hlt on false id I A3' c3n W (Kd.C_below HC3.out hW))
            have HST := Aside0.mk (fun W hW => cstep_calls all hlt on false id I A3' c3n W (Kd.C_below HC3.out hW))
            obtain ⟨k, p, q, hk, h1, h2, h3, h4, hnext, hid, hst⟩ := step_law HA.out.1 HA.out.2.2.1 (by omega)
            have HK := Aside0.mk (And.intro hk (And.intro h1 (And.intro h2 (And.intro h3 (And.intro h4 (And.intro hid hst))))))
            have HNO := Aside0.mk hnext
            have HNN := Aside0.mk hn
            have HPOS := Aside0.mk hpos
            have c0 := blk_cell HZ.out 0
            have c1 := blk_cell HZ.out 1
            have c2 := blk_cell HZ.out 2
            have c3 := blk_cell HZ.out 3
            clear hct htr hle hk h1 h2 h3 h4 hnext hid hst hn hpos
            go_upto_region 16 with (go_at_call 45; refine HLE.out.mono ?_; rintro e w4 ⟨rfl, hb⟩; have HB4 := Aside0.mk hb; have hz4 := blk_below HZ.out hb; clear hb c0 c1 c2 c3)
            have c0 := blk_cell hz4 0
            have c1 := blk_cell hz4 1
            have c2 := blk_cell hz4 2
            have c3 := blk_cell hz4 3
            go_upto_region 17 with (go_at_call 46; refine (HNX.out _ HB4.out).mono ?_; rintro e w5 ⟨A7, c7, x, i, b, hno, rfl, -, -, hb⟩; have HB5 := Aside0.mk (below_then HB4.out HB4.out.size hb); have HZ5 := Aside0.mk (blk_below hz4 hb); clear hb c0 c1 c2 c3 hz4)
            obtain rfl : b = true := by rw [HNO.out] at hno; injection hno with e1 e2; injection e2 with e2 e3; exact e3.symm
            obtain rfl : I = i := by rw [HNO.out] at hno; injection hno with e1 e2; injection e2 with e2 e3
            have hxe : x = mk33 k p q false := by rw [HNO.out] at hno; injection hno with e1 e2; exact e1.symm
            have hb6 := below_alloc HB5.out (.cells #[.int .u64 x.f0, .int .u64 x.f1, .int .i64 x.f2, .int .i64 x.f3, .int .u64 x.f4, .bool x.f5, .int .i64 x.f6, .slice A7 x.f7.length c7] 29)
            have hz6 := blk_alloc HZ5.out (.cells #[.int .u64 x.f0, .int .u64 x.f1, .int .i64 x.f2, .int .i64 x.f3, .int .u64 x.f4, .bool x.f5, .int .i64 x.f6, .slice A7 x.f7.length c7] 29)
            have hx6 := heap_alloc_new w5 (.cells #[.int .u64 x.f0, .int .u64 x.f1, .int .i64 x.f2, .int .i64 x.f3, .int .u64 x.f4, .bool x.f5, .int .i64 x.f6, .slice A7 x.f7.length c7] 29)
            generalize w5.alloc (.cells #[.int .u64 x.f0, .int .u64 x.f1, .int .i64 x.f2, .int .i64 x.f3, .int .u64 x.f4, .bool x.f5, .int .i64 x.f6, .slice A7 x.f7.length c7] 29) = W6 at hb6 hz6 hx6 ⊢
            generalize w5.heap.size = h9 at hx6 ⊢
            rw [hxe] at hx6
            have HX6 : Aside0 (W6.heap[h9]? = some (.cells #[.int .u64 (k : Int), .int .u64 0, .int .i64 p, .int .i64 q, .int .u64 0, .bool false, .int .i64 0, .slice A7 0 c7] 29 (0, 0))) := ⟨hx6⟩
            have HZ6 := Aside0.mk hz6
            have HB6 := Aside0.mk hb6
            clear hno hxe hb6 hz6 hx6 HB5 HZ5 HB4 HLE HNX
            have c0 := blk_cell HZ6.out 0
            have c1 := blk_cell HZ6.out 1
            have c2 := blk_cell HZ6.out 2
            have c3 := blk_cell HZ6.out 3
            have x0 := blk_cell HX6.out 0
            have x3 := blk_cell HX6.out 3
            cases on with
            | false =>
              go_upto_region 19 with fail
              go_upto_region 20 with (go_at_call 47; refine (HST.out _ HB6.out).mono ?_; rintro e w7 ⟨s0, s1, s2, s3, s4, hs, rfl, hb⟩; have HB7 := Aside0.mk (below_then HB6.out HB6.out.size hb); have HZ7 := Aside0.mk (blk_below HZ6.out hb); have HX7 := Aside0.mk (blk_below HX6.out hb); clear hb c0 c1 c2 c3 x0 x3)
              have hb8 := below_alloc HB7.out (.cells #[.bool s0, .bool s1, .int .u64 s2, .int .i64 s3] 65)
              have hz8 := blk_alloc HZ7.out (.cells #[.bool s0, .bool s1, .int .u64 s2, .int .i64 s3] 65)
              have hx8 := blk_alloc HX7.out (.cells #[.bool s0, .bool s1, .int .u64 s2, .int .i64 s3] 65)
              have hd8 := heap_alloc_new w7 (.cells #[.bool s0, .bool s1, .int .u64 s2, .int .i64 s3] 65)
              generalize w7.alloc (.cells #[.bool s0, .bool s1, .int .u64 s2, .int .i64 s3] 65) = W8 at hb8 hz8 hx8 hd8 ⊢
              generalize w7.heap.size = h12 at hd8 ⊢
              replace hb8 := Aside0.mk hb8
              replace hz8 := Aside0.mk hz8
              replace hx8 := Aside0.mk hx8
              replace hd8 := Aside0.mk hd8
              have x3 := blk_cell hx8.out 3
              have HFR := Aside0.mk (fun W => frames27_calls HK.out.2.1 HK.out.2.2.1 W)
              clear HB6 HZ6 HX6 HB7 HZ7 HX7 HST
              have HWF : IntKind.i64.wrap (fr q - 1) = fr q - 1 := by have := fr_range HK.out.2.1 HK.out.2.2.1; rw [i64_w]; unfold wrap64; omega
              rcases HK.out.2.2.2.2.2.2 with hend | hend
              case inl =>
                obtain ⟨rfl, rfl, rfl, rfl, rfl⟩ : s0 = false ∧ s1 = false ∧ s2 = 0 ∧ s3 = 0 ∧ s4 = true := by rw [hend.2] at hs; injection hs with e0 hs; injection hs with e1 hs; injection hs with e2 hs; injection hs with e3 e4; exact ⟨e0.symm, e1.symm, e2.symm, e3.symm, e4.symm⟩
                have tI : (I == fr q - 1) = true := by have := hend.1; simp; omega
                have HEN := Aside0.mk hend.1
                clear hs hend
                go_upto_region 23 with (go_at_call 25; refine (HFR.out _).mono ?_; rintro e w9 ⟨rfl, hb⟩; have HB9 := Aside0.mk hb; clear hb x3)
                have HX9 := Aside0.mk (blk_below hx8.out HB9.out)
                have HB90 := Aside0.mk (below_then hb8.out hb8.out.size HB9.out)
                have HZ9 := Aside0.mk (blk_below hz8.out HB9.out)
                have HD9 := Aside0.mk (blk_below hd8.out HB9.out)
                have HO9 := Aside0.mk (pw_own_below HO.out HB90.out)
                have BB9 := Aside0.mk (below_then BB.out BB.out.size HB90.out)
                have hkl : k < all.length := (List.getElem?_eq_some_iff.1 HK.out.1).1
                have HKL := Aside0.mk hkl
                have HWK : IntKind.i64.wrap (k : Int) = (k : Int) := by have := HA.out.2.1; rw [i64_w]; unfold wrap64; omega
                have x0 := blk_cell HX9.out 0
                clear hb8 hz8 hx8 hd8 HB9 HFR HWF tI tp hkl
                go_upto_region 24 with fail
                have HM := Aside0.mk (all_app HO9.out (by have := HA.out.2.1; omega) W1.heap.size (w9.alloc (.cells #[] 29)) (below_alloc (Below.refl _ _) _) (by have := BB9.out.size; simp; omega) w9.heap.size (World.ownsRow_made w9 #[] 0 BB9.out.size (Nat.zero_le _) rfl))
                go_upto_region 25 with (at_builtin; obtain ⟨v15, w15, hr, ho15, hb15, hat⟩ := HM.out; go_loud (refine app_wp rfl _ _ 22 rfl rfl rfl hr ?_); have HO15 := Aside0.mk ho15; have HB15 := Aside0.mk hb15; have HAT := Aside0.mk hat; clear hr ho15 hb15 hat x0)
                obtain ⟨g15, cap15, rfl, hg15, hg15b⟩ := HO15.out.form (Nat.lt_of_le_of_lt (Nat.zero_le _) HKL.out)
                have hat' : g15 = w9.heap.size ∨ g15 = (w9.alloc (.cells #[] 29)).heap.size := by
                  rcases HAT.out with h | h
                  · exact .inl (Option.some.inj h)
                  · exact .inr (Option.some.inj h)
                have l6 := blk_lt HZ9.out
                have l12 := blk_lt HD9.out
                have lal : (w9.alloc (.cells #[] 29)).heap.size = w9.heap.size + 1 := by simp
                have HGN : Aside0 (g15 ≠ g6 ∧ g15 ≠ h12) := ⟨by rw [lal] at hat'; omega, by rw [lal] at hat'; omega⟩
                have HX15 := Aside0.mk (blk_below (blk_alloc HX9.out (.cells #[] 29)) HB15.out)
                have HZ15 := Aside0.mk (blk_below (blk_alloc HZ9.out (.cells #[] 29)) HB15.out)
                have HD15 := Aside0.mk (blk_below (blk_alloc HD9.out (.cells #[] 29)) HB15.out)
                have HBB15 := Aside0.mk (below_then (below_alloc BB9.out (.cells #[] 29)) (below_alloc BB9.out (.cells #[] 29)).size HB15.out)
                clear HM HX9 HZ9 HD9 HO9 HAT hat' l6 l12 lal hg15 hg15b HB15 BB9
                have x0 := blk_cell HX15.out 0
                have x2 := blk_cell HX15.out 2
                have x3 := blk_cell HX15.out 3
                have p1 := eq_true (show (0 : Int) ≤ (k : Int) by omega)
                have q1 := eq_true (show (k : Int) < (all.length : Int) by have := HKL.out; omega)
                have f0 := HO15.out.frozenAt (k * 8)
                have f1 := HO15.out.frozenAt (k * 8 + 1)
                have f2 := HO15.out.frozenAt (k * 8 + 2)
                have f3 := HO15.out.frozenAt (k * 8 + 3)
                have f4 := HO15.out.frozenAt (k * 8 + 4)
                have f5 := HO15.out.frozenAt (k * 8 + 5)
                have f6 := HO15.out.frozenAt (k * 8 + 6)
                have f7 := HO15.out.frozenAt (k * 8 + 7)
                have y0 := encP_cell HO15.out HK.out.1 0 rfl
                have y1 := encP_cell HO15.out HK.out.1 1 rfl
                have y2 := encP_cell HO15.out HK.out.1 2 rfl
                have y3 := encP_cell HO15.out HK.out.1 3 rfl
                have y4 := encP_cell HO15.out HK.out.1 4 rfl
                have y5 := encP_cell HO15.out HK.out.1 5 rfl
                have y6 := encP_cell HO15.out HK.out.1 6 rfl
                have y7 := encP_cell HO15.out HK.out.1 7 rfl
                rw [Nat.add_zero] at y0
                go_upto_region 26 with fail
                have hst : ((((((((w15.setCell ⟨g15, k * 8, none⟩ (.int .u64 (k : Int))).setCell ⟨g15, k * 8 + 1, none⟩ (.int .u64 0)).setCell ⟨g15, k * 8 + 2, none⟩ (.int .i64 p)).setCell ⟨g15, k * 8 + 3, none⟩ (.int .i64 q)).setCell ⟨g15, k * 8 + 4, none⟩ (.int .u64 0)).setCell ⟨g15, k * 8 + 5, none⟩ (.bool true)).setCell ⟨g15, k * 8 + 6, none⟩ (.int .i64 0)).setCell ⟨g15, k * 8 + 7, none⟩ (.slice none 0 0)).ownsRow W1.heap.size 29 8 (.slice (some ⟨g15, 0, none⟩) all.length cap15) all.length (encP (all.set k (mk33 k p q true))) ∧ w15.grownBy ((((((((w15.setCell ⟨g15, k * 8, none⟩ (.int .u64 (k : Int))).setCell ⟨g15, k * 8 + 1, none⟩ (.int .u64 0)).setCell ⟨g15, k * 8 + 2, none⟩ (.int .i64 p)).setCell ⟨g15, k * 8 + 3, none⟩ (.int .i64 q)).setCell ⟨g15, k * 8 + 4, none⟩ (.int .u64 0)).setCell ⟨g15, k * 8 + 5, none⟩ (.bool true)).setCell ⟨g15, k * 8 + 6, none⟩ (.int .i64 0)).setCell ⟨g15, k * 8 + 7, none⟩ (.slice none 0 0)) (some g15) := row_put8 HO15.out HKL.out (mk33 k p q true)
                generalize (((((((w15.setCell ⟨g15, k * 8, none⟩ (.int .u64 (k : Int))).setCell ⟨g15, k * 8 + 1, none⟩ (.int .u64 0)).setCell ⟨g15, k * 8 + 2, none⟩ (.int .i64 p)).setCell ⟨g15, k * 8 + 3, none⟩ (.int .i64 q)).setCell ⟨g15, k * 8 + 4, none⟩ (.int .u64 0)).setCell ⟨g15, k * 8 + 5, none⟩ (.bool true)).setCell ⟨g15, k * 8 + 6, none⟩ (.int .i64 0)).setCell ⟨g15, k * 8 + 7, none⟩ (.slice none 0 0) = W16 at hst ⊢
                have HZ16 := Aside0.mk (blk_grown HZ15.out hst.2 (fun e => HGN.out.1 (Option.some.inj e).symm))
                have HD16 := Aside0.mk (blk_grown HD15.out hst.2 (fun e => HGN.out.2 (Option.some.inj e).symm))
                have BB16 := Aside0.mk (pw_below_grown HBB15.out _ HBB15.out.size hst.2 (own_base HO15.out))
                have HO16 := Aside0.mk hst.1
                clear x0 x2 x3 p1 q1 f0 f1 f2 f3 f4 f5 f6 f7 y0 y1 y2 y3 y4 y5 y6 y7 hst HZ15 HD15 HBB15 HO15 HX15
                have d0 := blk_cell HZ16.out 0
                have d1 := blk_cell HZ16.out 1
                have d2 := blk_cell HZ16.out 2
                have d3 := blk_cell HZ16.out 3
                have f0 := blk_frozen HZ16.out 0
                have f1 := blk_frozen HZ16.out 1
                have f2 := blk_frozen HZ16.out 2
                have f3 := blk_frozen HZ16.out 3
                have c0 := blk_cell HD16.out 0
                have c1 := blk_cell HD16.out 1
                have c2 := blk_cell HD16.out 2
                have c3 := blk_cell HD16.out 3
                go_upto_region 13 with fail
                have hp4 := put4 (g := g6) false false 0 0 HZ16.out HGS.out BB16.out
                have hne4 : some g6 ≠ (Value.slice (some ⟨g15, 0, none⟩) all.length cap15).ownBlock := fun e => HGN.out.1 (Option.some.inj e).symm
                have hO17 := own_setCell (p := ⟨g6, 3, none⟩) (own_setCell (p := ⟨g6, 2, none⟩) (own_setCell (p := ⟨g6, 1, none⟩) (own_setCell (p := ⟨g6, 0, none⟩) HO16.out hne4 (.bool false)) hne4 (.bool false)) hne4 (.int .u64 0)) hne4 (.int .i64 0)
                generalize (((W16.setCell ⟨g6, 0, none⟩ (.bool false)).setCell ⟨g6, 1, none⟩ (.bool false)).setCell ⟨g6, 2, none⟩ (.int .u64 0)).setCell ⟨g6, 3, none⟩ (.int .i64 0) = W17 at hp4 hO17 ⊢
                have HO17 := Aside0.mk hO17
                have HB17 := Aside0.mk hp4.1
                have HZ17 := Aside0.mk hp4.2
                have hrn := CurOk.tot HA.out.1 HA.out.2.2.1
                have HWN : IntKind.i64.wrap (n - 1) = n - 1 := by have := HNN.out; have := (tot_range HA.out.1.frs).2; have := HA.out.2.1; rw [i64_w]; unfold wrap64; omega
                clear d0 d1 d2 d3 f0 f1 f2 f3 c0 c1 c2 c3 hp4 hO17 hne4 hrn HO16 HZ16 HD16 BB16
                go_wp2_with fail
                have HTS : Aside0 (tot (all.set k (mk33 k p q true)) = n - 1) := ⟨by have h1 := tot_set (y := mk33 k p q true) HK.out.1 rfl rfl; have h2 : fr (mk33 k p q false).f3 = fr q := rfl; have := HNN.out; have := HEN.out; omega⟩
                go_roundg n.toNat
                case measure => have := HA.out.2.2.2; have := HNN.out; have := HPOS.out; omega
                case rel => exact ⟨all.set k (mk33 k p q true), false, 0, 0, by rw [HTS.out, Int.sub_zero], ⟨HA.out.1.set HK.out.1 true, by rw [List.length_set]; exact HA.out.2.1, .inl ⟨rfl, rfl, rfl⟩, by have := HTS.out; have := HPOS.out; omega⟩, ⟨by rw [List.length_set]; exact HO17.out⟩, ⟨fun e => HGN.out.1 (Option.some.inj e), blk_lt HZ17.out⟩, HZ17, HB17⟩
              case inr =>
                obtain ⟨rfl, rfl, rfl, rfl, rfl⟩ : s0 = true ∧ s1 = false ∧ s2 = (k : Int) ∧ s3 = I + 1 ∧ s4 = false := by rw [hend.2] at hs; injection hs with e0 hs; injection hs with e1 hs; injection hs with e2 hs; injection hs with e3 e4; exact ⟨e0.symm, e1.symm, e2.symm, e3.symm, e4.symm⟩
                have tI : (I == fr q - 1) = false := by have := hend.1; simp; omega
                replace hend := Aside0.mk hend.1
                clear hs
                go_upto_region 27 with (go_at_call 25; refine (HFR.out _).mono ?_; rintro e w9 ⟨rfl, hb⟩; have HB9 := Aside0.mk hb; clear hb x3)
                have HX9 := Aside0.mk (blk_below hx8.out HB9.out)
                have HB90 := Aside0.mk (below_then hb8.out hb8.out.size HB9.out)
                have HZ9 := Aside0.mk (blk_below hz8.out HB9.out)
                have HD9 := Aside0.mk (blk_below hd8.out HB9.out)
                have HO9 := Aside0.mk (pw_own_below HO.out HB90.out)
                have BB9 := Aside0.mk (below_then BB.out BB.out.size HB90.out)
                obtain ⟨rn, hrn⟩ : ∃ rn, rn = mk33 k p q false := ⟨_, rfl⟩
                have HAP : Aside0 (∀ W, Below w9.heap.size w9 W → ∀ g, W.ownsRow w9.heap.size 29 8 (.slice (some ⟨g, 0, none⟩) 0 0) 0 [] → ∃ v' w', (Builtin.append_ #[22, 22] 22 #[.slice (some ⟨g, 0, none⟩) 0 0, .slice A3' all.length c3n]).run Try.prog W = .ok v' w' ∧ w'.ownsRow w9.heap.size 29 8 v' all.length (encP all) ∧ Below W.heap.size W w' ∧ (v'.ownBlock = some g ∨ v'.ownBlock = some W.heap.size)) := ⟨fun W hW g hg => all_app HO9.out (by have := HA.out.2.1; omega) w9.heap.size W hW hW.size g hg⟩
                have HAQ : Aside0 (∀ W, Below w9.heap.size w9 W → ∀ v gx, W.ownsRow w9.heap.size 29 8 v all.length (encP all) → W.heap[gx]? = some (.cells #[.int .u64 1000, .int .u64 0, .int .i64 9, .int .i64 1, .int .u64 0, .bool false, .int .i64 0, .slice none 0 0] 29 (0, 0)) → ∃ v' w', (Builtin.append_ #[22, 22] 22 #[v, .slice (some ⟨gx, 0, none⟩) 1 1]).run Try.prog W = .ok v' w' ∧ w'.ownsRow w9.heap.size 29 8 v' (all.length + 1) (encP (all ++ [extra33])) ∧ W.grownBy w' v.ownBlock) := ⟨fun W hW v gx ho hz => snoc_app ho hz (by have := HA.out.2.1; omega) hW.size⟩
                have HN2 := Aside0.mk (fun (W : World) (A : Option Addr) (c : Nat) (ho : W.ownsRow w9.heap.size 29 8 (.slice A (all.length + 1) c) (all.length + 1) (encP (all ++ [extra33]))) => extra_next HA.out.1 (by have := HA.out.2.1; omega) HK.out.1 (by have := HK.out.2.2.2.1; omega : 0 ≤ I + 1) hend.out hrn W A c ho)
                have B00 := B0
                have B0 := Aside0.mk (below_drew1 (Below.refl w9.heap.size w9))
                have HRN := Aside0.mk hrn
                clear hb8 hz8 hx8 hd8 HB9 HFR HWF tI tp hrn
                refine start_ (n := 16) (S := fun w' => True) (ds := []) #[false, false, false, false, false, false, false, false, false, false, false, false, false, false, false, false] (by kernel_rfl) rfl rfl trivial (fun hHeld => ?_)
                refine with_tabW ends27.tab27 ends27.bits27 (fun HT_ HW_ => ?_)
                generalize w9.drew = wq at B0 hHeld ⊢
                refine inv_at [0, 1, 2, 3, 4, 5, 6, 7, 8, 9, 10, 11, 12, 13, 14, 15] (fun a0_ b a w' => ∃ (g0 : Nat) (gx : Nat) (g9 : Nat) (v126 : Value) (A129 : Option Addr) (c129 : Nat) (A9 : Option Addr) (c9 : Nat) (m1_ : Value) (m5_ : Value) (m6_ : Value) (m7_ : Value) (m8_ : Value) (m9_ : Value) (m12_ : Value), a = putSel a0_ b [(0, 123, .agg #[.bool true, .bool false, .int .u64 (k : Int), .int .i64 (I + 1)]), (1, 124, m1_), (2, 125, .slice A3' all.length c3n), (3, 126, v126), (4, 127, .agg #[.int .u64 1000, .int .u64 0, .int .i64 9, .int .i64 1, .int .u64 0, .bool false, .int .i64 0, .slice none 0 0]), (5, 128, m5_), (6, 129, m6_), (7, 130, m7_), (8, 122, m8_), (9, 131, m9_), (10, 132, .int .i64 (I + 1)), (11, 133, .bool true), (12, 16, m12_), (14, 17, .int .i64 (I + 1)), (15, 18, .bool true)] ∧ (Below w9.heap.size w9 w') ∧ (b 1 = true → b 3 = false → w'.ownsRow w9.heap.size 29 8 (.slice (some ⟨g0, 0, none⟩) 0 0) 0 []) ∧ (b 3 = true → b 6 = false → w'.ownsRow w9.heap.size 29 8 v126 all.length (encP all)) ∧ (b 6 = true → b 7 = false → w'.ownsRow w9.heap.size 29 8 (.slice A129 (all.length + 1) c129) (all.length + 1) (encP (all ++ [extra33]))) ∧ (b 5 = true → b 6 = false → w'.heap[gx]? = some (.cells #[.int .u64 1000, .int .u64 0, .int .i64 9, .int .i64 1, .int .u64 0, .bool false, .int .i64 0, .slice none 0 0] 29 (0, 0))) ∧ (b 12 = true → b 13 = false → w'.heap[g9]? = some (.cells #[.int .u64 0, .int .u64 0, .int .i64 0, .int .i64 0, .int .u64 0, .bool false, .int .i64 0, .slice none 0 0] 29 (0, 0)) ∧ w9.heap.size ≤ g9) ∧ (b 13 = true → w'.heap[g9]? = some (.cells #[.int .u64 rn.f0, .int .u64 rn.f1, .int .i64 rn.f2, .int .i64 rn.f3, .int .u64 rn.f4, .bool rn.f5, .int .i64 rn.f6, .slice A9 rn.f7.length c9] 29 (0, 0))) ∧ (b 1 = true → b 12 = true → b 3 = false → g0 ≠ g9) ∧ (b 3 = true → b 12 = true → b 6 = false → v126.ownBlock ≠ some g9) ∧ (b 1 = true → (m1_ : Value) = .slice (some ⟨g0, 0, none⟩) 0 0) ∧ (b 5 = true → (m5_ : Value) = .slice (some ⟨gx, 0, none⟩) 1 1) ∧ (b 6 = true → (m6_ : Value) = .slice A129 (all.length + 1) c129) ∧ (b 7 = true → (m7_ : Value) = .tuple #[.agg #[.int .u64 rn.f0, .int .u64 rn.f1, .int .i64 rn.f2, .int .i64 rn.f3, .int .u64 rn.f4, .bool rn.f5, .int .i64 rn.f6, .slice A9 rn.f7.length c9], .int .i64 (I + 1), .bool true]) ∧ (b 8 = true → (m8_ : Value) = .tuple #[.agg #[.int .u64 rn.f0, .int .u64 rn.f1, .int .i64 rn.f2, .int .i64 rn.f3, .int .u64 rn.f4, .bool rn.f5, .int .i64 rn.f6, .slice A9 rn.f7.length c9], .int .i64 (I + 1), .bool true]) ∧ (b 9 = true → (m9_ : Value) = .agg #[.int .u64 rn.f0, .int .u64 rn.f1, .int .i64 rn.f2, .int .i64 rn.f3, .int .u64 rn.f4, .bool rn.f5, .int .i64 rn.f6, .slice A9 rn.f7.length c9]) ∧ (b 12 = true → (m12_ : Value) = .pointer (some ⟨g9, 0, none⟩))) HT_.out HW_.out (by kernel_rfl) (by kernel_rfl) ?_ ?_ ?_
                · exact ⟨0, 0, 0, .bool false, none, 0, none, 0, .bool false, .bool false, .bool false, .bool false, .bool false, .bool false, .bool false, by simp only [putSel, Bool.false_eq_true, if_false], B0.out, fun h_ => absurd h_ (by decide), fun h_ => absurd h_ (by decide), fun h_ => absurd h_ (by decide), fun h_ => absurd h_ (by decide), fun h_ => absurd h_ (by decide), fun h_ => absurd h_ (by decide), fun h_ => absurd h_ (by decide), fun h_ => absurd h_ (by decide), fun h_ => absurd h_ (by decide), fun h_ => absurd h_ (by decide), fun h_ => absurd h_ (by decide), fun h_ => absurd h_ (by decide), fun h_ => absurd h_ (by decide), fun h_ => absurd h_ (by decide), fun h_ => absurd h_ (by decide)⟩
                · skip
                  clear B0
                  refine steps_cons ?_ ?_
                  · rintro b a w' ⟨g0, gx, g9, v126, A129, c129, A9, c9, m1_, m5_, m6_, m7_, m8_, m9_, m12_, ha, Q_B0, Q_O0, Q_O2, Q_O6, Q_G5, Q_H9, Q_HX, Q_N3, Q_N2, Q_X1_, Q_X5_, Q_X6_, Q_X7_, Q_X8_, Q_X9_, Q_X12_⟩ hb_ hon hoff
                    refine ⟨_, rfl, fun K hK => ?_⟩
                    have e12 : a.tmps[12]? = some (.pointer (some ⟨h12, 0, none⟩)) := by rw [ha]; exact (putSel_off rfl).trans rfl
                    replace ha := Aside0.mk ha
                    have B0 := Aside0.mk Q_B0
                    have hz_ := blk_below HD9.out B0.out
                    have c0_ := blk_cell hz_ 0
                    have c1_ := blk_cell hz_ 1
                    have c2_ := blk_cell hz_ 2
                    have c3_ := blk_cell hz_ 3
                    clear hz_
                    refine value_ (w1 := w') (v := .agg #[.bool true, .bool false, .int .u64 (k : Int), .int .i64 (I + 1)]) (by rfl) rfl ?_ ?_
                    · go_simp
                      (try simp only [i64_w])
                      try rfl
                    refine hK.out _ _ ⟨g0, gx, g9, v126, A129, c129, A9, c9, m1_, m5_, m6_, m7_, m8_, m9_, m12_, (by rw [ha.out]; exact putSel_upk 0 hb_ rfl rfl rfl), Q_B0, Q_O0, Q_O2, Q_O6, Q_G5, Q_H9, fun h0_ => absurd ((hoff 13 (by kernel_rfl)).symm.trans h0_) (by decide), Q_N3, Q_N2, Q_X1_, Q_X5_, Q_X6_, fun h0_ => absurd ((hoff 7 (by kernel_rfl)).symm.trans h0_) (by decide), fun h0_ => absurd ((hoff 8 (by kernel_rfl)).symm.trans h0_) (by decide), fun h0_ => absurd ((hoff 9 (by kernel_rfl)).symm.trans h0_) (by decide), Q_X12_⟩
                  refine steps_cons ?_ ?_
                  · rintro b a w' ⟨g0, gx, g9, v126, A129, c129, A9, c9, m1_, m5_, m6_, m7_, m8_, m9_, m12_, ha, Q_B0, Q_O0, Q_O2, Q_O6, Q_G5, Q_H9, Q_HX, Q_N3, Q_N2, Q_X1_, Q_X5_, Q_X6_, Q_X7_, Q_X8_, Q_X9_, Q_X12_⟩ hb_ hon hoff
                    refine ⟨_, rfl, fun K hK => ?_⟩
                    replace ha := Aside0.mk ha
                    have B0 := Aside0.mk Q_B0
                    refine value_ (w1 := w'.alloc (Obj.cells #[] 29)) (v := .slice (some ⟨w'.heap.size, 0, none⟩) 0 0) (by rfl) rfl (by first | (go_simp; done) | (go_simp; rfl)) ?_
                    have hb := below_alloc (Below.refl w'.heap.size w') (Obj.cells #[] 29)
                    refine hK.out _ _ ⟨w'.heap.size, gx, g9, v126, A129, c129, A9, c9, (.slice (some ⟨w'.heap.size, 0, none⟩) 0 0), m5_, m6_, m7_, m8_, m9_, m12_, (by rw [ha.out]; exact putSel_upk 1 hb_ rfl rfl rfl), below_then B0.out B0.out.size hb, fun _ _ => World.ownsRow_made w' #[] 0 B0.out.size (Nat.zero_le _) rfl, fun h0_ _ => absurd ((hoff 3 (by kernel_rfl)).symm.trans h0_) (by decide), fun h0_ _ => absurd ((hoff 6 (by kernel_rfl)).symm.trans h0_) (by decide), fun h0_ h1_ => blk_below (Q_G5 h0_ h1_) hb, fun h0_ h1_ => ⟨blk_below (Q_H9 h0_ h1_).1 hb, (Q_H9 h0_ h1_).2⟩, fun h0_ => absurd ((hoff 13 (by kernel_rfl)).symm.trans h0_) (by decide), fun _ h1_ _ => Nat.ne_of_gt (blk_lt (Q_H9 h1_ (hoff 13 (by kernel_rfl))).1), fun h0_ _ _ => absurd ((hoff 3 (by kernel_rfl)).symm.trans h0_) (by decide), fun _ => rfl, Q_X5_, fun h0_ => absurd ((hoff 6 (by kernel_rfl)).symm.trans h0_) (by decide), fun h0_ => absurd ((hoff 7 (by kernel_rfl)).symm.trans h0_) (by decide), fun h0_ => absurd ((hoff 8 (by kernel_rfl)).symm.trans h0_) (by decide), fun h0_ => absurd ((hoff 9 (by kernel_rfl)).symm.trans h0_) (by decide), Q_X12_⟩
                  refine steps_cons ?_ ?_
                  · rintro b a w' ⟨g0, gx, g9, v126, A129, c129, A9, c9, m1_, m5_, m6_, m7_, m8_, m9_, m12_, ha, Q_B0, Q_O0, Q_O2, Q_O6, Q_G5, Q_H9, Q_HX, Q_N3, Q_N2, Q_X1_, Q_X5_, Q_X6_, Q_X7_, Q_X8_, Q_X9_, Q_X12_⟩ hb_ hon hoff
                    refine ⟨_, rfl, fun K hK => ?_⟩
                    have e3 : a.tmps[3]? = some (.slice A3' all.length c3n) := by rw [ha]; exact (putSel_off rfl).trans rfl
                    replace ha := Aside0.mk ha
                    have B0 := Aside0.mk Q_B0
                    refine value_ (w1 := w') (v := .slice A3' all.length c3n) (by rfl) rfl ?_ ?_
                    · go_simp
                      (try simp only [i64_w])
                      try rfl
                    refine hK.out _ _ ⟨g0, gx, g9, v126, A129, c129, A9, c9, m1_, m5_, m6_, m7_, m8_, m9_, m12_, (by rw [ha.out]; exact putSel_upk 2 hb_ rfl rfl rfl), Q_B0, Q_O0, fun h0_ _ => absurd ((hoff 3 (by kernel_rfl)).symm.trans h0_) (by decide), fun h0_ _ => absurd ((hoff 6 (by kernel_rfl)).symm.trans h0_) (by decide), Q_G5, Q_H9, fun h0_ => absurd ((hoff 13 (by kernel_rfl)).symm.trans h0_) (by decide), Q_N3, fun h0_ _ _ => absurd ((hoff 3 (by kernel_rfl)).symm.trans h0_) (by decide), Q_X1_, Q_X5_, fun h0_ => absurd ((hoff 6 (by kernel_rfl)).symm.trans h0_) (by decide), fun h0_ => absurd ((hoff 7 (by kernel_rfl)).symm.trans h0_) (by decide), fun h0_ => absurd ((hoff 8 (by kernel_rfl)).symm.trans h0_) (by decide), fun h0_ => absurd ((hoff 9 (by kernel_rfl)).symm.trans h0_) (by decide), Q_X12_⟩
                  refine steps_cons ?_ ?_
                  · rintro b a w' ⟨g0, gx, g9, v126, A129, c129, A9, c9, m1_, m5_, m6_, m7_, m8_, m9_, m12_, ha, Q_B0, Q_O0, Q_O2, Q_O6, Q_G5, Q_H9, Q_HX, Q_N3, Q_N2, Q_X1_, Q_X5_, Q_X6_, Q_X7_, Q_X8_, Q_X9_, Q_X12_⟩ hb_ hon hoff
                    refine ⟨_, rfl, fun K hK => ?_⟩
                    have e124 : a.tmps[124]? = some (m1_) := by rw [ha]; exact putSel_on (e := (1, 124, m1_)) 1 rfl rfl (hon 1 (by kernel_rfl)) rfl
                    rw [Q_X1_ (hon 1 (by kernel_rfl))] at e124
                    have e125 : a.tmps[125]? = some (.slice A3' all.length c3n) := by rw [ha]; exact putSel_on (e := (2, 125, .slice A3' all.length c3n)) 2 rfl rfl (hon 2 (by kernel_rfl)) rfl
                    replace ha := Aside0.mk ha
                    have B0 := Aside0.mk Q_B0
                    have O0 := Aside0.mk (Q_O0 (hon 1 (by kernel_rfl)) hb_)
                    obtain ⟨v_, w2, hr_, ho_, hb, hat_⟩ := HAP.out _ B0.out g0 O0.out
                    refine app_step (by rfl) rfl rfl e124 e125 hr_ ?_
                    refine hK.out _ _ ⟨g0, gx, g9, v_, A129, c129, A9, c9, m1_, m5_, m6_, m7_, m8_, m9_, m12_, (by rw [ha.out]; exact putSel_upk 3 hb_ rfl rfl rfl), below_then B0.out B0.out.size hb, fun _ h1_ => absurd ((up_self b 3).symm.trans h1_) (by decide), fun _ _ => ho_, fun h0_ _ => absurd ((hoff 6 (by kernel_rfl)).symm.trans h0_) (by decide), fun h0_ h1_ => blk_below (Q_G5 h0_ h1_) hb, fun h0_ h1_ => ⟨blk_below (Q_H9 h0_ h1_).1 hb, (Q_H9 h0_ h1_).2⟩, fun h0_ => absurd ((hoff 13 (by kernel_rfl)).symm.trans h0_) (by decide), fun _ _ h2_ => absurd ((up_self b 3).symm.trans h2_) (by decide), fun _ h1_ _ => ne_of_hat hat_ (Q_N3 (hon 1 (by kernel_rfl)) h1_ hb_) (blk_lt (Q_H9 h1_ (hoff 13 (by kernel_rfl))).1), Q_X1_, Q_X5_, fun h0_ => absurd ((hoff 6 (by kernel_rfl)).symm.trans h0_) (by decide), fun h0_ => absurd ((hoff 7 (by kernel_rfl)).symm.trans h0_) (by decide), fun h0_ => absurd ((hoff 8 (by kernel_rfl)).symm.trans h0_) (by decide), fun h0_ => absurd ((hoff 9 (by kernel_rfl)).symm.trans h0_) (by decide), Q_X12_⟩
                  refine steps_cons ?_ ?_
                  · rintro b a w' ⟨g0, gx, g9, v126, A129, c129, A9, c9, m1_, m5_, m6_, m7_, m8_, m9_, m12_, ha, Q_B0, Q_O0, Q_O2, Q_O6, Q_G5, Q_H9, Q_HX, Q_N3, Q_N2, Q_X1_, Q_X5_, Q_X6_, Q_X7_, Q_X8_, Q_X9_, Q_X12_⟩ hb_ hon hoff
                    refine ⟨_, rfl, fun K hK => ?_⟩
                    replace ha := Aside0.mk ha
                    have B0 := Aside0.mk Q_B0
                    refine value_ (w1 := w') (v := .agg #[.int .u64 1000, .int .u64 0, .int .i64 9, .int .i64 1, .int .u64 0, .bool false, .int .i64 0, .slice none 0 0]) (by rfl) rfl ?_ ?_
                    · go_simp
                      (try simp only [i64_w])
                      try rfl
                    refine hK.out _ _ ⟨g0, gx, g9, v126, A129, c129, A9, c9, m1_, m5_, m6_, m7_, m8_, m9_, m12_, (by rw [ha.out]; exact putSel_upk 4 hb_ rfl rfl rfl), Q_B0, Q_O0, Q_O2, fun h0_ _ => absurd ((hoff 6 (by kernel_rfl)).symm.trans h0_) (by decide), fun h0_ _ => absurd ((hoff 5 (by kernel_rfl)).symm.trans h0_) (by decide), Q_H9, fun h0_ => absurd ((hoff 13 (by kernel_rfl)).symm.trans h0_) (by decide), Q_N3, Q_N2, Q_X1_, fun h0_ => absurd ((hoff 5 (by kernel_rfl)).symm.trans h0_) (by decide), fun h0_ => absurd ((hoff 6 (by kernel_rfl)).symm.trans h0_) (by decide), fun h0_ => absurd ((hoff 7 (by kernel_rfl)).symm.trans h0_) (by decide), fun h0_ => absurd ((hoff 8 (by kernel_rfl)).symm.trans h0_) (by decide), fun h0_ => absurd ((hoff 9 (by kernel_rfl)).symm.trans h0_) (by decide), Q_X12_⟩
                  refine steps_cons ?_ ?_
                  · rintro b a w' ⟨g0, gx, g9, v126, A129, c129, A9, c9, m1_, m5_, m6_, m7_, m8_, m9_, m12_, ha, Q_B0, Q_O0, Q_O2, Q_O6, Q_G5, Q_H9, Q_HX, Q_N3, Q_N2, Q_X1_, Q_X5_, Q_X6_, Q_X7_, Q_X8_, Q_X9_, Q_X12_⟩ hb_ hon hoff
                    refine ⟨_, rfl, fun K hK => ?_⟩
                    have e127 : a.tmps[127]? = some (.agg #[.int .u64 1000, .int .u64 0, .int .i64 9, .int .i64 1, .int .u64 0, .bool false, .int .i64 0, .slice none 0 0]) := by rw [ha]; exact putSel_on (e := (4, 127, .agg #[.int .u64 1000, .int .u64 0, .int .i64 9, .int .i64 1, .int .u64 0, .bool false, .int .i64 0, .slice none 0 0])) 4 rfl rfl (hon 4 (by kernel_rfl)) rfl
                    replace ha := Aside0.mk ha
                    have B0 := Aside0.mk Q_B0
                    refine value_ (w1 := w'.alloc (Obj.cells #[.int .u64 1000, .int .u64 0, .int .i64 9, .int .i64 1, .int .u64 0, .bool false, .int .i64 0, .slice none 0 0] 29)) (v := .slice (some ⟨w'.heap.size, 0, none⟩) 1 1) (by rfl) rfl (by first | (go_simp; done) | (go_simp; rfl)) ?_
                    have hb := below_alloc (Below.refl w'.heap.size w') (Obj.cells #[.int .u64 1000, .int .u64 0, .int .i64 9, .int .i64 1, .int .u64 0, .bool false, .int .i64 0, .slice none 0 0] 29)
                    refine hK.out _ _ ⟨g0, w'.heap.size, g9, v126, A129, c129, A9, c9, m1_, (.slice (some ⟨w'.heap.size, 0, none⟩) 1 1), m6_, m7_, m8_, m9_, m12_, (by rw [ha.out]; exact putSel_upk 5 hb_ rfl rfl rfl), below_then B0.out B0.out.size hb, fun h0_ h1_ => World.ownsRow.alloc ((Q_O0 h0_ h1_)) _, fun h0_ h1_ => World.ownsRow.alloc ((Q_O2 h0_ h1_)) _, fun h0_ _ => absurd ((hoff 6 (by kernel_rfl)).symm.trans h0_) (by decide), fun _ _ => heap_alloc_new w' _, fun h0_ h1_ => ⟨blk_below (Q_H9 h0_ h1_).1 hb, (Q_H9 h0_ h1_).2⟩, fun h0_ => absurd ((hoff 13 (by kernel_rfl)).symm.trans h0_) (by decide), Q_N3, Q_N2, Q_X1_, fun _ => rfl, fun h0_ => absurd ((hoff 6 (by kernel_rfl)).symm.trans h0_) (by decide), fun h0_ => absurd ((hoff 7 (by kernel_rfl)).symm.trans h0_) (by decide), fun h0_ => absurd ((hoff 8 (by kernel_rfl)).symm.trans h0_) (by decide), fun h0_ => absurd ((hoff 9 (by kernel_rfl)).symm.trans h0_) (by decide), Q_X12_⟩
                  refine steps_cons ?_ ?_
                  · rintro b a w' ⟨g0, gx, g9, v126, A129, c129, A9, c9, m1_, m5_, m6_, m7_, m8_, m9_, m12_, ha, Q_B0, Q_O0, Q_O2, Q_O6, Q_G5, Q_H9, Q_HX, Q_N3, Q_N2, Q_X1_, Q_X5_, Q_X6_, Q_X7_, Q_X8_, Q_X9_, Q_X12_⟩ hb_ hon hoff
                    refine ⟨_, rfl, fun K hK => ?_⟩
                    have e126 : a.tmps[126]? = some (v126) := by rw [ha]; exact putSel_on (e := (3, 126, v126)) 3 rfl rfl (hon 3 (by kernel_rfl)) rfl
                    have e128 : a.tmps[128]? = some (m5_) := by rw [ha]; exact putSel_on (e := (5, 128, m5_)) 5 rfl rfl (hon 5 (by kernel_rfl)) rfl
                    rw [Q_X5_ (hon 5 (by kernel_rfl))] at e128
                    replace ha := Aside0.mk ha
                    have B0 := Aside0.mk Q_B0
                    have O2 := Aside0.mk (Q_O2 (hon 3 (by kernel_rfl)) hb_)
                    have G5 := Aside0.mk (Q_G5 (hon 5 (by kernel_rfl)) hb_)
                    obtain ⟨v_, w2, hr_, ho_, hg_⟩ := HAQ.out _ B0.out v126 gx O2.out G5.out
                    obtain ⟨A_, c_, rfl⟩ := own_slice ho_
                    refine app_step (by rfl) rfl rfl e126 e128 hr_ ?_
                    refine hK.out _ _ ⟨g0, gx, g9, v126, A_, c_, A9, c9, m1_, m5_, (.slice A_ (all.length + 1) c_), m7_, m8_, m9_, m12_, (by rw [ha.out]; exact putSel_upk 6 hb_ rfl rfl rfl), pw_below_grown B0.out _ B0.out.size hg_ (own_base O2.out), fun _ h1_ => absurd ((hon 3 (by kernel_rfl)).symm.trans h1_) (by decide), fun _ h1_ => absurd ((up_self b 6).symm.trans h1_) (by decide), fun _ _ => ho_, fun _ h1_ => absurd ((up_self b 6).symm.trans h1_) (by decide), fun h0_ h1_ => ⟨blk_grown (Q_H9 h0_ h1_).1 hg_ (Ne.symm (Q_N2 (hon 3 (by kernel_rfl)) h0_ hb_)), (Q_H9 h0_ h1_).2⟩, fun h0_ => absurd ((hoff 13 (by kernel_rfl)).symm.trans h0_) (by decide), fun _ _ h2_ => absurd ((hon 3 (by kernel_rfl)).symm.trans h2_) (by decide), fun _ _ h2_ => absurd ((up_self b 6).symm.trans h2_) (by decide), Q_X1_, Q_X5_, fun _ => rfl, fun h0_ => absurd ((hoff 7 (by kernel_rfl)).symm.trans h0_) (by decide), fun h0_ => absurd ((hoff 8 (by kernel_rfl)).symm.trans h0_) (by decide), fun h0_ => absurd ((hoff 9 (by kernel_rfl)).symm.trans h0_) (by decide), Q_X12_⟩
                  refine steps_cons ?_ ?_
                  · rintro b a w' ⟨g0, gx, g9, v126, A129, c129, A9, c9, m1_, m5_, m6_, m7_, m8_, m9_, m12_, ha, Q_B0, Q_O0, Q_O2, Q_O6, Q_G5, Q_H9, Q_HX, Q_N3, Q_N2, Q_X1_, Q_X5_, Q_X6_, Q_X7_, Q_X8_, Q_X9_, Q_X12_⟩ hb_ hon hoff
                    refine ⟨_, rfl, fun K hK => ?_⟩
                    have e123 : a.tmps[123]? = some (.agg #[.bool true, .bool false, .int .u64 (k : Int), .int .i64 (I + 1)]) := by rw [ha]; exact putSel_on (e := (0, 123, .agg #[.bool true, .bool false, .int .u64 (k : Int), .int .i64 (I + 1)])) 0 rfl rfl (hon 0 (by kernel_rfl)) rfl
                    have e129 : a.tmps[129]? = some (m6_) := by rw [ha]; exact putSel_on (e := (6, 129, m6_)) 6 rfl rfl (hon 6 (by kernel_rfl)) rfl
                    rw [Q_X6_ (hon 6 (by kernel_rfl))] at e129
                    replace ha := Aside0.mk ha
                    have B0 := Aside0.mk Q_B0
                    have O6 := Aside0.mk (Q_O6 (hon 6 (by kernel_rfl)) hb_)
                    refine goes_ Try.func46 (by kernel_rfl) rfl #[.agg #[.bool true, .bool false, .int .u64 (k : Int), .int .i64 (I + 1)], .slice A129 (all.length + 1) c129] (by rfl) rfl rfl (by first | (simp only [List.map_toArray, List.map_cons, List.map_nil, Act.eval, Array.getD_eq_getD_getElem?, Option.getD_some, e123, e129]; done) | (simp only [List.map_toArray, List.map_cons, List.map_nil, Act.eval, Array.getD_eq_getD_getElem?, Option.getD_some, e123, e129]; rfl)) ?_
                    with_reducible refine (HN2.out _ A129 c129 O6.out).mono ?_
                    rintro e w2 ⟨A_, c_, rfl, hb⟩
                    refine ⟨_, rfl, ?_⟩
                    refine hK.out _ _ ⟨g0, gx, g9, v126, A129, c129, A_, c_, m1_, m5_, m6_, (.tuple #[.agg #[.int .u64 rn.f0, .int .u64 rn.f1, .int .i64 rn.f2, .int .i64 rn.f3, .int .u64 rn.f4, .bool rn.f5, .int .i64 rn.f6, .slice A_ rn.f7.length c_], .int .i64 (I + 1), .bool true]), m8_, m9_, m12_, (by rw [ha.out]; exact putSel_upk 7 hb_ rfl rfl rfl), below_then B0.out B0.out.size hb, fun _ h1_ => absurd ((hon 3 (by kernel_rfl)).symm.trans h1_) (by decide), fun _ h1_ => absurd ((hon 6 (by kernel_rfl)).symm.trans h1_) (by decide), fun _ h1_ => absurd ((up_self b 7).symm.trans h1_) (by decide), fun _ h1_ => absurd ((hon 6 (by kernel_rfl)).symm.trans h1_) (by decide), fun h0_ h1_ => ⟨blk_below (Q_H9 h0_ h1_).1 hb, (Q_H9 h0_ h1_).2⟩, fun h0_ => absurd ((hoff 13 (by kernel_rfl)).symm.trans h0_) (by decide), fun _ _ h2_ => absurd ((hon 3 (by kernel_rfl)).symm.trans h2_) (by decide), fun _ _ h2_ => absurd ((hon 6 (by kernel_rfl)).symm.trans h2_) (by decide), Q_X1_, Q_X5_, Q_X6_, fun _ => rfl, fun h0_ => absurd ((hoff 8 (by kernel_rfl)).symm.trans h0_) (by decide), fun h0_ => absurd ((hoff 9 (by kernel_rfl)).symm.trans h0_) (by decide), Q_X12_⟩
                  refine steps_cons ?_ ?_
                  · rintro b a w' ⟨g0, gx, g9, v126, A129, c129, A9, c9, m1_, m5_, m6_, m7_, m8_, m9_, m12_, ha, Q_B0, Q_O0, Q_O2, Q_O6, Q_G5, Q_H9, Q_HX, Q_N3, Q_N2, Q_X1_, Q_X5_, Q_X6_, Q_X7_, Q_X8_, Q_X9_, Q_X12_⟩ hb_ hon hoff
                    refine ⟨_, rfl, fun K hK => ?_⟩
                    have e130 : a.tmps[130]? = some (m7_) := by rw [ha]; exact putSel_on (e := (7, 130, m7_)) 7 rfl rfl (hon 7 (by kernel_rfl)) rfl
                    rw [Q_X7_ (hon 7 (by kernel_rfl))] at e130
                    replace ha := Aside0.mk ha
                    have B0 := Aside0.mk Q_B0
                    refine value_ (w1 := w') (v := .tuple #[.agg #[.int .u64 rn.f0, .int .u64 rn.f1, .int .i64 rn.f2, .int .i64 rn.f3, .int .u64 rn.f4, .bool rn.f5, .int .i64 rn.f6, .slice A9 rn.f7.length c9], .int .i64 (I + 1), .bool true]) (by rfl) rfl ?_ ?_
                    · go_simp
                      (try simp only [i64_w])
                      try rfl
                    refine hK.out _ _ ⟨g0, gx, g9, v126, A129, c129, A9, c9, m1_, m5_, m6_, m7_, (.tuple #[.agg #[.int .u64 rn.f0, .int .u64 rn.f1, .int .i64 rn.f2, .int .i64 rn.f3, .int .u64 rn.f4, .bool rn.f5, .int .i64 rn.f6, .slice A9 rn.f7.length c9], .int .i64 (I + 1), .bool true]), m9_, m12_, (by rw [ha.out]; exact putSel_upk 8 hb_ rfl rfl rfl), Q_B0, fun _ h1_ => absurd ((hon 3 (by kernel_rfl)).symm.trans h1_) (by decide), fun _ h1_ => absurd ((hon 6 (by kernel_rfl)).symm.trans h1_) (by decide), fun _ h1_ => absurd ((hon 7 (by kernel_rfl)).symm.trans h1_) (by decide), fun _ h1_ => absurd ((hon 6 (by kernel_rfl)).symm.trans h1_) (by decide), Q_H9, fun h0_ => absurd ((hoff 13 (by kernel_rfl)).symm.trans h0_) (by decide), fun _ _ h2_ => absurd ((hon 3 (by kernel_rfl)).symm.trans h2_) (by decide), fun _ _ h2_ => absurd ((hon 6 (by kernel_rfl)).symm.trans h2_) (by decide), Q_X1_, Q_X5_, Q_X6_, Q_X7_, fun _ => rfl, fun h0_ => absurd ((hoff 9 (by kernel_rfl)).symm.trans h0_) (by decide), Q_X12_⟩
                  refine steps_cons ?_ ?_
                  · rintro b a w' ⟨g0, gx, g9, v126, A129, c129, A9, c9, m1_, m5_, m6_, m7_, m8_, m9_, m12_, ha, Q_B0, Q_O0, Q_O2, Q_O6, Q_G5, Q_H9, Q_HX, Q_N3, Q_N2, Q_X1_, Q_X5_, Q_X6_, Q_X7_, Q_X8_, Q_X9_, Q_X12_⟩ hb_ hon hoff
                    refine ⟨_, rfl, fun K hK => ?_⟩
                    have e122 : a.tmps[122]? = some (m8_) := by rw [ha]; exact putSel_on (e := (8, 122, m8_)) 8 rfl rfl (hon 8 (by kernel_rfl)) rfl
                    rw [Q_X8_ (hon 8 (by kernel_rfl))] at e122
                    replace ha := Aside0.mk ha
                    have B0 := Aside0.mk Q_B0
                    refine value_ (w1 := w') (v := .agg #[.int .u64 rn.f0, .int .u64 rn.f1, .int .i64 rn.f2, .int .i64 rn.f3, .int .u64 rn.f4, .bool rn.f5, .int .i64 rn.f6, .slice A9 rn.f7.length c9]) (by rfl) rfl ?_ ?_
                    · go_simp
                      (try simp only [i64_w])
                      try rfl
                    refine hK.out _ _ ⟨g0, gx, g9, v126, A129, c129, A9, c9, m1_, m5_, m6_, m7_, m8_, (.agg #[.int .u64 rn.f0, .int .u64 rn.f1, .int .i64 rn.f2, .int .i64 rn.f3, .int .u64 rn.f4, .bool rn.f5, .int .i64 rn.f6, .slice A9 rn.f7.length c9]), m12_, (by rw [ha.out]; exact putSel_upk 9 hb_ rfl rfl rfl), Q_B0, fun _ h1_ => absurd ((hon 3 (by kernel_rfl)).symm.trans h1_) (by decide), fun _ h1_ => absurd ((hon 6 (by kernel_rfl)).symm.trans h1_) (by decide), fun _ h1_ => absurd ((hon 7 (by kernel_rfl)).symm.trans h1_) (by decide), fun _ h1_ => absurd ((hon 6 (by kernel_rfl)).symm.trans h1_) (by decide), Q_H9, fun h0_ => absurd ((hoff 13 (by kernel_rfl)).symm.trans h0_) (by decide), fun _ _ h2_ => absurd ((hon 3 (by kernel_rfl)).symm.trans h2_) (by decide), fun _ _ h2_ => absurd ((hon 6 (by kernel_rfl)).symm.trans h2_) (by decide), Q_X1_, Q_X5_, Q_X6_, Q_X7_, Q_X8_, fun _ => rfl, Q_X12_⟩
                  refine steps_cons ?_ ?_
                  · rintro b a w' ⟨g0, gx, g9, v126, A129, c129, A9, c9, m1_, m5_, m6_, m7_, m8_, m9_, m12_, ha, Q_B0, Q_O0, Q_O2, Q_O6, Q_G5, Q_H9, Q_HX, Q_N3, Q_N2, Q_X1_, Q_X5_, Q_X6_, Q_X7_, Q_X8_, Q_X9_, Q_X12_⟩ hb_ hon hoff
                    refine ⟨_, rfl, fun K hK => ?_⟩
                    have e122 : a.tmps[122]? = some (m8_) := by rw [ha]; exact putSel_on (e := (8, 122, m8_)) 8 rfl rfl (hon 8 (by kernel_rfl)) rfl
                    rw [Q_X8_ (hon 8 (by kernel_rfl))] at e122
                    replace ha := Aside0.mk ha
                    have B0 := Aside0.mk Q_B0
                    refine value_ (w1 := w') (v := .int .i64 (I + 1)) (by rfl) rfl ?_ ?_
                    · go_simp
                      (try simp only [i64_w])
                      try rfl
                    refine hK.out _ _ ⟨g0, gx, g9, v126, A129, c129, A9, c9, m1_, m5_, m6_, m7_, m8_, m9_, m12_, (by rw [ha.out]; exact putSel_upk 10 hb_ rfl rfl rfl), Q_B0, fun _ h1_ => absurd ((hon 3 (by kernel_rfl)).symm.trans h1_) (by decide), fun _ h1_ => absurd ((hon 6 (by kernel_rfl)).symm.trans h1_) (by decide), fun _ h1_ => absurd ((hon 7 (by kernel_rfl)).symm.trans h1_) (by decide), fun _ h1_ => absurd ((hon 6 (by kernel_rfl)).symm.trans h1_) (by decide), Q_H9, Q_HX, fun _ _ h2_ => absurd ((hon 3 (by kernel_rfl)).symm.trans h2_) (by decide), fun _ _ h2_ => absurd ((hon 6 (by kernel_rfl)).symm.trans h2_) (by decide), Q_X1_, Q_X5_, Q_X6_, Q_X7_, Q_X8_, Q_X9_, Q_X12_⟩
                  refine steps_cons ?_ ?_
                  · rintro b a w' ⟨g0, gx, g9, v126, A129, c129, A9, c9, m1_, m5_, m6_, m7_, m8_, m9_, m12_, ha, Q_B0, Q_O0, Q_O2, Q_O6, Q_G5, Q_H9, Q_HX, Q_N3, Q_N2, Q_X1_, Q_X5_, Q_X6_, Q_X7_, Q_X8_, Q_X9_, Q_X12_⟩ hb_ hon hoff
                    refine ⟨_, rfl, fun K hK => ?_⟩
                    have e122 : a.tmps[122]? = some (m8_) := by rw [ha]; exact putSel_on (e := (8, 122, m8_)) 8 rfl rfl (hon 8 (by kernel_rfl)) rfl
                    rw [Q_X8_ (hon 8 (by kernel_rfl))] at e122
                    replace ha := Aside0.mk ha
                    have B0 := Aside0.mk Q_B0
                    refine value_ (w1 := w') (v := .bool true) (by rfl) rfl ?_ ?_
                    · go_simp
                      (try simp only [i64_w])
                      try rfl
                    refine hK.out _ _ ⟨g0, gx, g9, v126, A129, c129, A9, c9, m1_, m5_, m6_, m7_, m8_, m9_, m12_, (by rw [ha.out]; exact putSel_upk 11 hb_ rfl rfl rfl), Q_B0, fun _ h1_ => absurd ((hon 3 (by kernel_rfl)).symm.trans h1_) (by decide), fun _ h1_ => absurd ((hon 6 (by kernel_rfl)).symm.trans h1_) (by decide), fun _ h1_ => absurd ((hon 7 (by kernel_rfl)).symm.trans h1_) (by decide), fun _ h1_ => absurd ((hon 6 (by kernel_rfl)).symm.trans h1_) (by decide), Q_H9, Q_HX, fun _ _ h2_ => absurd ((hon 3 (by kernel_rfl)).symm.trans h2_) (by decide), fun _ _ h2_ => absurd ((hon 6 (by kernel_rfl)).symm.trans h2_) (by decide), Q_X1_, Q_X5_, Q_X6_, Q_X7_, Q_X8_, Q_X9_, Q_X12_⟩
                  refine steps_cons ?_ ?_
                  · rintro b a w' ⟨g0, gx, g9, v126, A129, c129, A9, c9, m1_, m5_, m6_, m7_, m8_, m9_, m12_, ha, Q_B0, Q_O0, Q_O2, Q_O6, Q_G5, Q_H9, Q_HX, Q_N3, Q_N2, Q_X1_, Q_X5_, Q_X6_, Q_X7_, Q_X8_, Q_X9_, Q_X12_⟩ hb_ hon hoff
                    refine ⟨_, rfl, fun K hK => ?_⟩
                    replace ha := Aside0.mk ha
                    have B0 := Aside0.mk Q_B0
                    refine value_ (w1 := w'.alloc (Obj.cells #[.int .u64 0, .int .u64 0, .int .i64 0, .int .i64 0, .int .u64 0, .bool false, .int .i64 0, .slice none 0 0] 29)) (v := .pointer (some ⟨w'.heap.size, 0, none⟩)) (by rfl) rfl (by first | (go_simp; done) | (go_simp; rfl)) ?_
                    have hb := below_alloc (Below.refl w'.heap.size w') (Obj.cells #[.int .u64 0, .int .u64 0, .int .i64 0, .int .i64 0, .int .u64 0, .bool false, .int .i64 0, .slice none 0 0] 29)
                    refine hK.out _ _ ⟨g0, gx, w'.heap.size, v126, A129, c129, A9, c9, m1_, m5_, m6_, m7_, m8_, m9_, (.pointer (some ⟨w'.heap.size, 0, none⟩)), (by rw [ha.out]; exact putSel_upk 12 hb_ rfl rfl rfl), below_then B0.out B0.out.size hb, fun h0_ h1_ => World.ownsRow.alloc ((Q_O0 h0_ h1_)) _, fun h0_ h1_ => World.ownsRow.alloc ((Q_O2 h0_ h1_)) _, fun h0_ h1_ => World.ownsRow.alloc ((Q_O6 h0_ h1_)) _, fun h0_ h1_ => blk_below (Q_G5 h0_ h1_) hb, fun _ _ => ⟨heap_alloc_new w' _, B0.out.size⟩, fun h0_ => absurd ((hoff 13 (by kernel_rfl)).symm.trans h0_) (by decide), fun h0_ _ h2_ => Nat.ne_of_lt (own_lt (Q_O0 h0_ h2_) _ rfl), fun h0_ _ h2_ e_ => absurd (own_lt (Q_O2 h0_ h2_) _ e_) (Nat.lt_irrefl _), Q_X1_, Q_X5_, Q_X6_, Q_X7_, Q_X8_, Q_X9_, fun _ => rfl⟩
                  refine steps_cons ?_ ?_
                  · rintro b a w' ⟨g0, gx, g9, v126, A129, c129, A9, c9, m1_, m5_, m6_, m7_, m8_, m9_, m12_, ha, Q_B0, Q_O0, Q_O2, Q_O6, Q_G5, Q_H9, Q_HX, Q_N3, Q_N2, Q_X1_, Q_X5_, Q_X6_, Q_X7_, Q_X8_, Q_X9_, Q_X12_⟩ hb_ hon hoff
                    refine ⟨_, rfl, fun K hK => ?_⟩
                    have e16 : a.tmps[16]? = some (m12_) := by rw [ha]; exact putSel_on (e := (12, 16, m12_)) 12 rfl rfl (hon 12 (by kernel_rfl)) rfl
                    rw [Q_X12_ (hon 12 (by kernel_rfl))] at e16
                    have e131 : a.tmps[131]? = some (m9_) := by rw [ha]; exact putSel_on (e := (9, 131, m9_)) 9 rfl rfl (hon 9 (by kernel_rfl)) rfl
                    rw [Q_X9_ (hon 9 (by kernel_rfl))] at e131
                    replace ha := Aside0.mk ha
                    have B0 := Aside0.mk Q_B0
                    have H9 := Aside0.mk (Q_H9 (hon 12 (by kernel_rfl)) hb_)
                    have d0 := blk_cell H9.out.1 0
                    have d1 := blk_cell H9.out.1 1
                    have d2 := blk_cell H9.out.1 2
                    have d3 := blk_cell H9.out.1 3
                    have d4 := blk_cell H9.out.1 4
                    have d5 := blk_cell H9.out.1 5
                    have d6 := blk_cell H9.out.1 6
                    have d7 := blk_cell H9.out.1 7
                    have f0 := blk_frozen H9.out.1 0
                    have f1 := blk_frozen H9.out.1 1
                    have f2 := blk_frozen H9.out.1 2
                    have f3 := blk_frozen H9.out.1 3
                    have f4 := blk_frozen H9.out.1 4
                    have f5 := blk_frozen H9.out.1 5
                    have f6 := blk_frozen H9.out.1 6
                    have f7 := blk_frozen H9.out.1 7
                    have hst := store8 rn A9 c9 H9.out B0.out
                    refine skip_ (w1 := ?_) (by rfl) rfl ?_ ?_
                    rotate_left
                    · go_simp
                      rfl
                    refine hK.out _ _ ⟨g0, gx, g9, v126, A129, c129, A9, c9, m1_, m5_, m6_, m7_, m8_, m9_, m12_, (by rw [ha.out]; exact putSel_none (v := undef) rfl), hst.1, fun _ h1_ => absurd ((hon 3 (by kernel_rfl)).symm.trans h1_) (by decide), fun _ h1_ => absurd ((hon 6 (by kernel_rfl)).symm.trans h1_) (by decide), fun _ h1_ => absurd ((hon 7 (by kernel_rfl)).symm.trans h1_) (by decide), fun _ h1_ => absurd ((hon 6 (by kernel_rfl)).symm.trans h1_) (by decide), fun _ h1_ => absurd ((up_self b 13).symm.trans h1_) (by decide), fun _ => hst.2, fun _ _ h2_ => absurd ((hon 3 (by kernel_rfl)).symm.trans h2_) (by decide), fun _ _ h2_ => absurd ((hon 6 (by kernel_rfl)).symm.trans h2_) (by decide), Q_X1_, Q_X5_, Q_X6_, Q_X7_, Q_X8_, Q_X9_, Q_X12_⟩
                  refine steps_cons ?_ ?_
                  · rintro b a w' ⟨g0, gx, g9, v126, A129, c129, A9, c9, m1_, m5_, m6_, m7_, m8_, m9_, m12_, ha, Q_B0, Q_O0, Q_O2, Q_O6, Q_G5, Q_H9, Q_HX, Q_N3, Q_N2, Q_X1_, Q_X5_, Q_X6_, Q_X7_, Q_X8_, Q_X9_, Q_X12_⟩ hb_ hon hoff
                    refine ⟨_, rfl, fun K hK => ?_⟩
                    have e132 : a.tmps[132]? = some (.int .i64 (I + 1)) := by rw [ha]; exact putSel_on (e := (10, 132, .int .i64 (I + 1))) 10 rfl rfl (hon 10 (by kernel_rfl)) rfl
                    replace ha := Aside0.mk ha
                    have B0 := Aside0.mk Q_B0
                    have HX := Aside0.mk (Q_HX (hon 13 (by kernel_rfl)))
                    refine value_ (w1 := w') (v := .int .i64 (I + 1)) (by rfl) rfl ?_ ?_
                    · go_simp
                      (try simp only [i64_w])
                      try rfl
                    refine hK.out _ _ ⟨g0, gx, g9, v126, A129, c129, A9, c9, m1_, m5_, m6_, m7_, m8_, m9_, m12_, (by rw [ha.out]; exact putSel_upk 13 hb_ rfl rfl rfl), Q_B0, fun _ h1_ => absurd ((hon 3 (by kernel_rfl)).symm.trans h1_) (by decide), fun _ h1_ => absurd ((hon 6 (by kernel_rfl)).symm.trans h1_) (by decide), fun _ h1_ => absurd ((hon 7 (by kernel_rfl)).symm.trans h1_) (by decide), fun _ h1_ => absurd ((hon 6 (by kernel_rfl)).symm.trans h1_) (by decide), fun _ h1_ => absurd ((hon 13 (by kernel_rfl)).symm.trans h1_) (by decide), Q_HX, fun _ _ h2_ => absurd ((hon 3 (by kernel_rfl)).symm.trans h2_) (by decide), fun _ _ h2_ => absurd ((hon 6 (by kernel_rfl)).symm.trans h2_) (by decide), Q_X1_, Q_X5_, Q_X6_, Q_X7_, Q_X8_, Q_X9_, Q_X12_⟩
                  refine steps_cons ?_ ?_
                  · rintro b a w' ⟨g0, gx, g9, v126, A129, c129, A9, c9, m1_, m5_, m6_, m7_, m8_, m9_, m12_, ha, Q_B0, Q_O0, Q_O2, Q_O6, Q_G5, Q_H9, Q_HX, Q_N3, Q_N2, Q_X1_, Q_X5_, Q_X6_, Q_X7_, Q_X8_, Q_X9_, Q_X12_⟩ hb_ hon hoff
                    refine ⟨_, rfl, fun K hK => ?_⟩
                    have e133 : a.tmps[133]? = some (.bool true) := by rw [ha]; exact putSel_on (e := (11, 133, .bool true)) 11 rfl rfl (hon 11 (by kernel_rfl)) rfl
                    replace ha := Aside0.mk ha
                    have B0 := Aside0.mk Q_B0
                    have HX := Aside0.mk (Q_HX (hon 13 (by kernel_rfl)))
                    refine value_ (w1 := w') (v := .bool true) (by rfl) rfl ?_ ?_
                    · go_simp
                      (try simp only [i64_w])
                      try rfl
                    refine hK.out _ _ ⟨g0, gx, g9, v126, A129, c129, A9, c9, m1_, m5_, m6_, m7_, m8_, m9_, m12_, (by rw [ha.out]; exact putSel_upk 14 hb_ rfl rfl rfl), Q_B0, fun _ h1_ => absurd ((hon 3 (by kernel_rfl)).symm.trans h1_) (by decide), fun _ h1_ => absurd ((hon 6 (by kernel_rfl)).symm.trans h1_) (by decide), fun _ h1_ => absurd ((hon 7 (by kernel_rfl)).symm.trans h1_) (by decide), fun _ h1_ => absurd ((hon 6 (by kernel_rfl)).symm.trans h1_) (by decide), fun _ h1_ => absurd ((hon 13 (by kernel_rfl)).symm.trans h1_) (by decide), Q_HX, fun _ _ h2_ => absurd ((hon 3 (by kernel_rfl)).symm.trans h2_) (by decide), fun _ _ h2_ => absurd ((hon 6 (by kernel_rfl)).symm.trans h2_) (by decide), Q_X1_, Q_X5_, Q_X6_, Q_X7_, Q_X8_, Q_X9_, Q_X12_⟩
                  exact steps_nil
                rintro b a wl hall ⟨g0, gx, g9, v126, A129, c129, A9, c9, m1_, m5_, m6_, m7_, m8_, m9_, m12_, ha, Q_B0, Q_O0, Q_O2, Q_O6, Q_G5, Q_H9, Q_HX, Q_N3, Q_N2, Q_X1_, Q_X5_, Q_X6_, Q_X7_, Q_X8_, Q_X9_, Q_X12_⟩
                clear B0
                have hb0_ := hall 0 (by kernel_rfl)
                have hb1_ := hall 1 (by kernel_rfl)
                have hb2_ := hall 2 (by kernel_rfl)
                have hb3_ := hall 3 (by kernel_rfl)
                have hb4_ := hall 4 (by kernel_rfl)
                have hb5_ := hall 5 (by kernel_rfl)
                have hb6_ := hall 6 (by kernel_rfl)
                have hb7_ := hall 7 (by kernel_rfl)
                have hb8_ := hall 8 (by kernel_rfl)
                have hb9_ := hall 9 (by kernel_rfl)
                have hb10_ := hall 10 (by kernel_rfl)
                have hb11_ := hall 11 (by kernel_rfl)
                have hb12_ := hall 12 (by kernel_rfl)
                have hb13_ := hall 13 (by kernel_rfl)
                have hb14_ := hall 14 (by kernel_rfl)
                have hb15_ := hall 15 (by kernel_rfl)
                subst ha
                obtain rfl := Q_X1_ hb1_
                obtain rfl := Q_X5_ hb5_
                obtain rfl := Q_X6_ hb6_
                obtain rfl := Q_X7_ hb7_
                obtain rfl := Q_X8_ hb8_
                obtain rfl := Q_X9_ hb9_
                obtain rfl := Q_X12_ hb12_
                simp only [putSel, hb0_, hb1_, hb2_, hb3_, hb4_, hb5_, hb6_, hb7_, hb8_, hb9_, hb10_, hb11_, hb12_, hb13_, hb14_, hb15_, if_true, Act.put, List.setIfInBounds_toArray, List.set_cons_zero, List.set_cons_succ]
                have B0 := Aside0.mk Q_B0
                clear Q_B0
                clear Q_O0
                clear Q_O2
                clear Q_O6
                clear Q_G5
                clear Q_H9
                have HX := Aside0.mk (Q_HX hb13_)
                clear Q_HX
                clear Q_N3
                clear Q_N2
                clear hall hb0_ hb1_ hb2_ hb3_ hb4_ hb5_ hb6_ hb7_ hb8_ hb9_ hb10_ hb11_ hb12_ hb13_ hb14_ hb15_
                have BB16 := Aside0.mk (below_then BB9.out BB9.out.size B0.out)
                have HZ16 := Aside0.mk (blk_below HZ9.out B0.out)
                have HD16 := Aside0.mk (blk_below HD9.out B0.out)
                have HO16 := Aside0.mk (pw_own_below HO9.out B0.out)
                have hx16 := blk_below HX9.out B0.out
                have x0 := blk_cell hx16 0
                have xn0 := blk_cell HX.out 0
                rw [show rn.f0 = (k : Int) by rw [HRN.out]; rfl] at xn0
                clear HAP HAQ HN2 HX9 HZ9 HD9 HO9 hx16 BB9 HB90
                go_upto_region 30 with fail
                clear x0 xn0
                have d0 := blk_cell HZ16.out 0
                have d1 := blk_cell HZ16.out 1
                have d2 := blk_cell HZ16.out 2
                have d3 := blk_cell HZ16.out 3
                have f0 := blk_frozen HZ16.out 0
                have f1 := blk_frozen HZ16.out 1
                have f2 := blk_frozen HZ16.out 2
                have f3 := blk_frozen HZ16.out 3
                have c0 := blk_cell HD16.out 0
                have c1 := blk_cell HD16.out 1
                have c2 := blk_cell HD16.out 2
                have c3 := blk_cell HD16.out 3
                go_upto_region 13 with fail
                have hp4 := put4 (g := g6) true false (k : Int) (I + 1) HZ16.out HGS.out BB16.out
                have hne4 : some g6 ≠ (Value.slice A3' all.length c3n).ownBlock := fun e => HNE.out.1 e.symm
                have hO17 := own_setCell (p := ⟨g6, 3, none⟩) (own_setCell (p := ⟨g6, 2, none⟩) (own_setCell (p := ⟨g6, 1, none⟩) (own_setCell (p := ⟨g6, 0, none⟩) HO16.out hne4 (.bool true)) hne4 (.bool false)) hne4 (.int .u64 (k : Int))) hne4 (.int .i64 (I + 1))
                generalize (((wl.setCell ⟨g6, 0, none⟩ (.bool true)).setCell ⟨g6, 1, none⟩ (.bool false)).setCell ⟨g6, 2, none⟩ (.int .u64 (k : Int))).setCell ⟨g6, 3, none⟩ (.int .i64 (I + 1)) = W17 at hp4 hO17 ⊢
                have HO17 := Aside0.mk hO17
                have HB17 := Aside0.mk hp4.1
                have HZ17 := Aside0.mk hp4.2
                have HWN : IntKind.i64.wrap (n - 1) = n - 1 := by have := HNN.out; have := (tot_range HA.out.1.frs).2; have := HA.out.2.1; have := (CurOk.tot HA.out.1 HA.out.2.2.1).1; have := HPOS.out; rw [i64_w]; unfold wrap64; omega
                clear d0 d1 d2 d3 f0 f1 f2 f3 c0 c1 c2 c3 hp4 hO17 hne4 HO16 HZ16 HD16 BB16
                go_wp2_with fail
                go_roundg n.toNat
                case measure => have := HA.out.2.2.2; have := HNN.out; have := HPOS.out; omega
                case rel => exact ⟨all, true, (k : Int), I + 1, by have := HNN.out; rw [show tot all - (I + 1) = n - 1 by omega], ⟨HA.out.1, HA.out.2.1, .inr ⟨rfl, k, p, q, rfl, HK.out.1, by have := HK.out.2.2.2.1; omega, hend.out⟩, by have := HNN.out; have := HPOS.out; omega⟩, HO17, ⟨HNE.out.1, blk_lt HZ17.out⟩, HZ17, HB17⟩
            | true =>
              obtain rfl : id = (k : Int) := HK.out.2.2.2.2.2.1 rfl
              go_upto_region 19 with fail
              go_upto_region 20 with (go_at_call 47; refine (HST.out _ HB6.out).mono ?_; rintro e w7 ⟨s0, s1, s2, s3, s4, hs, rfl, hb⟩; have HB7 := Aside0.mk (below_then HB6.out HB6.out.size hb); have HZ7 := Aside0.mk (blk_below HZ6.out hb); have HX7 := Aside0.mk (blk_below HX6.out hb); clear hb c0 c1 c2 c3 x0 x3)
              have hb8 := below_alloc HB7.out (.cells #[.bool s0, .bool s1, .int .u64 s2, .int .i64 s3] 65)
              have hz8 := blk_alloc HZ7.out (.cells #[.bool s0, .bool s1, .int .u64 s2, .int .i64 s3] 65)
              have hx8 := blk_alloc HX7.out (.cells #[.bool s0, .bool s1, .int .u64 s2, .int .i64 s3] 65)
              have hd8 := heap_alloc_new w7 (.cells #[.bool s0, .bool s1, .int .u64 s2, .int .i64 s3] 65)
              generalize w7.alloc (.cells #[.bool s0, .bool s1, .int .u64 s2, .int .i64 s3] 65) = W8 at hb8 hz8 hx8 hd8 ⊢
              generalize w7.heap.size = h12 at hd8 ⊢
              replace hb8 := Aside0.mk hb8
              replace hz8 := Aside0.mk hz8
              replace hx8 := Aside0.mk hx8
              replace hd8 := Aside0.mk hd8
              have x3 := blk_cell hx8.out 3
              have HFR := Aside0.mk (fun W => frames27_calls HK.out.2.1 HK.out.2.2.1 W)
              clear HB6 HZ6 HX6 HB7 HZ7 HX7 HST
              have HWF : IntKind.i64.wrap (fr q - 1) = fr q - 1 := by have := fr_range HK.out.2.1 HK.out.2.2.1; rw [i64_w]; unfold wrap64; omega
              rcases HK.out.2.2.2.2.2.2 with hend | hend
              case inl =>
                obtain ⟨rfl, rfl, rfl, rfl, rfl⟩ : s0 = false ∧ s1 = false ∧ s2 = 0 ∧ s3 = 0 ∧ s4 = true := by rw [hend.2] at hs; injection hs with e0 hs; injection hs with e1 hs; injection hs with e2 hs; injection hs with e3 e4; exact ⟨e0.symm, e1.symm, e2.symm, e3.symm, e4.symm⟩
                have tI : (I == fr q - 1) = true := by have := hend.1; simp; omega
                have HEN := Aside0.mk hend.1
                clear hs hend
                go_upto_region 23 with (go_at_call 25; refine (HFR.out _).mono ?_; rintro e w9 ⟨rfl, hb⟩; have HB9 := Aside0.mk hb; clear hb x3)
                have HX9 := Aside0.mk (blk_below hx8.out HB9.out)
                have HB90 := Aside0.mk (below_then hb8.out hb8.out.size HB9.out)
                have HZ9 := Aside0.mk (blk_below hz8.out HB9.out)
                have HD9 := Aside0.mk (blk_below hd8.out HB9.out)
                have HO9 := Aside0.mk (pw_own_below HO.out HB90.out)
                have BB9 := Aside0.mk (below_then BB.out BB.out.size HB90.out)
                have hkl : k < all.length := (List.getElem?_eq_some_iff.1 HK.out.1).1
                have HKL := Aside0.mk hkl
                have HWK : IntKind.i64.wrap (k : Int) = (k : Int) := by have := HA.out.2.1; rw [i64_w]; unfold wrap64; omega
                have x0 := blk_cell HX9.out 0
                clear hb8 hz8 hx8 hd8 HB9 HFR HWF tI tp hkl
                go_upto_region 24 with fail
                have HM := Aside0.mk (all_app HO9.out (by have := HA.out.2.1; omega) W1.heap.size (w9.alloc (.cells #[] 29)) (below_alloc (Below.refl _ _) _) (by have := BB9.out.size; simp; omega) w9.heap.size (World.ownsRow_made w9 #[] 0 BB9.out.size (Nat.zero_le _) rfl))
                go_upto_region 25 with (at_builtin; obtain ⟨v15, w15, hr, ho15, hb15, hat⟩ := HM.out; go_loud (refine app_wp rfl _ _ 22 rfl rfl rfl hr ?_); have HO15 := Aside0.mk ho15; have HB15 := Aside0.mk hb15; have HAT := Aside0.mk hat; clear hr ho15 hb15 hat x0)
                obtain ⟨g15, cap15, rfl, hg15, hg15b⟩ := HO15.out.form (Nat.lt_of_le_of_lt (Nat.zero_le _) HKL.out)
                have hat' : g15 = w9.heap.size ∨ g15 = (w9.alloc (.cells #[] 29)).heap.size := by
                  rcases HAT.out with h | h
                  · exact .inl (Option.some.inj h)
                  · exact .inr (Option.some.inj h)
                have l6 := blk_lt HZ9.out
                have l12 := blk_lt HD9.out
                have lal : (w9.alloc (.cells #[] 29)).heap.size = w9.heap.size + 1 := by simp
                have HGN : Aside0 (g15 ≠ g6 ∧ g15 ≠ h12) := ⟨by rw [lal] at hat'; omega, by rw [lal] at hat'; omega⟩
                have HX15 := Aside0.mk (blk_below (blk_alloc HX9.out (.cells #[] 29)) HB15.out)
                have HZ15 := Aside0.mk (blk_below (blk_alloc HZ9.out (.cells #[] 29)) HB15.out)
                have HD15 := Aside0.mk (blk_below (blk_alloc HD9.out (.cells #[] 29)) HB15.out)
                have HBB15 := Aside0.mk (below_then (below_alloc BB9.out (.cells #[] 29)) (below_alloc BB9.out (.cells #[] 29)).size HB15.out)
                clear HM HX9 HZ9 HD9 HO9 HAT hat' l6 l12 lal hg15 hg15b HB15 BB9
                have x0 := blk_cell HX15.out 0
                have x2 := blk_cell HX15.out 2
                have x3 := blk_cell HX15.out 3
                have p1 := eq_true (show (0 : Int) ≤ (k : Int) by omega)
                have q1 := eq_true (show (k : Int) < (all.length : Int) by have := HKL.out; omega)
                have f0 := HO15.out.frozenAt (k * 8)
                have f1 := HO15.out.frozenAt (k * 8 + 1)
                have f2 := HO15.out.frozenAt (k * 8 + 2)
                have f3 := HO15.out.frozenAt (k * 8 + 3)
                have f4 := HO15.out.frozenAt (k * 8 + 4)
                have f5 := HO15.out.frozenAt (k * 8 + 5)
                have f6 := HO15.out.frozenAt (k * 8 + 6)
                have f7 := HO15.out.frozenAt (k * 8 + 7)
                have y0 := encP_cell HO15.out HK.out.1 0 rfl
                have y1 := encP_cell HO15.out HK.out.1 1 rfl
                have y2 := encP_cell HO15.out HK.out.1 2 rfl
                have y3 := encP_cell HO15.out HK.out.1 3 rfl
                have y4 := encP_cell HO15.out HK.out.1 4 rfl
                have y5 := encP_cell HO15.out HK.out.1 5 rfl
                have y6 := encP_cell HO15.out HK.out.1 6 rfl
                have y7 := encP_cell HO15.out HK.out.1 7 rfl
                rw [Nat.add_zero] at y0
                go_upto_region 26 with fail
                have hst : ((((((((w15.setCell ⟨g15, k * 8, none⟩ (.int .u64 (k : Int))).setCell ⟨g15, k * 8 + 1, none⟩ (.int .u64 0)).setCell ⟨g15, k * 8 + 2, none⟩ (.int .i64 p)).setCell ⟨g15, k * 8 + 3, none⟩ (.int .i64 q)).setCell ⟨g15, k * 8 + 4, none⟩ (.int .u64 0)).setCell ⟨g15, k * 8 + 5, none⟩ (.bool true)).setCell ⟨g15, k * 8 + 6, none⟩ (.int .i64 0)).setCell ⟨g15, k * 8 + 7, none⟩ (.slice none 0 0)).ownsRow W1.heap.size 29 8 (.slice (some ⟨g15, 0, none⟩) all.length cap15) all.length (encP (all.set k (mk33 k p q true))) ∧ w15.grownBy ((((((((w15.setCell ⟨g15, k * 8, none⟩ (.int .u64 (k : Int))).setCell ⟨g15, k * 8 + 1, none⟩ (.int .u64 0)).setCell ⟨g15, k * 8 + 2, none⟩ (.int .i64 p)).setCell ⟨g15, k * 8 + 3, none⟩ (.int .i64 q)).setCell ⟨g15, k * 8 + 4, none⟩ (.int .u64 0)).setCell ⟨g15, k * 8 + 5, none⟩ (.bool true)).setCell ⟨g15, k * 8 + 6, none⟩ (.int .i64 0)).setCell ⟨g15, k * 8 + 7, none⟩ (.slice none 0 0)) (some g15) := row_put8 HO15.out HKL.out (mk33 k p q true)
                generalize (((((((w15.setCell ⟨g15, k * 8, none⟩ (.int .u64 (k : Int))).setCell ⟨g15, k * 8 + 1, none⟩ (.int .u64 0)).setCell ⟨g15, k * 8 + 2, none⟩ (.int .i64 p)).setCell ⟨g15, k * 8 + 3, none⟩ (.int .i64 q)).setCell ⟨g15, k * 8 + 4, none⟩ (.int .u64 0)).setCell ⟨g15, k * 8 + 5, none⟩ (.bool true)).setCell ⟨g15, k * 8 + 6, none⟩ (.int .i64 0)).setCell ⟨g15, k * 8 + 7, none⟩ (.slice none 0 0) = W16 at hst ⊢
                have HZ16 := Aside0.mk (blk_grown HZ15.out hst.2 (fun e => HGN.out.1 (Option.some.inj e).symm))
                have HD16 := Aside0.mk (blk_grown HD15.out hst.2 (fun e => HGN.out.2 (Option.some.inj e).symm))
                have BB16 := Aside0.mk (pw_below_grown HBB15.out _ HBB15.out.size hst.2 (own_base HO15.out))
                have HO16 := Aside0.mk hst.1
                clear x0 x2 x3 p1 q1 f0 f1 f2 f3 f4 f5 f6 f7 y0 y1 y2 y3 y4 y5 y6 y7 hst HZ15 HD15 HBB15 HO15 HX15
                have d0 := blk_cell HZ16.out 0
                have d1 := blk_cell HZ16.out 1
                have d2 := blk_cell HZ16.out 2
                have d3 := blk_cell HZ16.out 3
                have f0 := blk_frozen HZ16.out 0
                have f1 := blk_frozen HZ16.out 1
                have f2 := blk_frozen HZ16.out 2
                have f3 := blk_frozen HZ16.out 3
                have c0 := blk_cell HD16.out 0
                have c1 := blk_cell HD16.out 1
                have c2 := blk_cell HD16.out 2
                have c3 := blk_cell HD16.out 3
                go_upto_region 13 with fail
                have hp4 := put4 (g := g6) false false 0 0 HZ16.out HGS.out BB16.out
                have hne4 : some g6 ≠ (Value.slice (some ⟨g15, 0, none⟩) all.length cap15).ownBlock := fun e => HGN.out.1 (Option.some.inj e).symm
                have hO17 := own_setCell (p := ⟨g6, 3, none⟩) (own_setCell (p := ⟨g6, 2, none⟩) (own_setCell (p := ⟨g6, 1, none⟩) (own_setCell (p := ⟨g6, 0, none⟩) HO16.out hne4 (.bool false)) hne4 (.bool false)) hne4 (.int .u64 0)) hne4 (.int .i64 0)
                generalize (((W16.setCell ⟨g6, 0, none⟩ (.bool false)).setCell ⟨g6, 1, none⟩ (.bool false)).setCell ⟨g6, 2, none⟩ (.int .u64 0)).setCell ⟨g6, 3, none⟩ (.int .i64 0) = W17 at hp4 hO17 ⊢
                have HO17 := Aside0.mk hO17
                have HB17 := Aside0.mk hp4.1
                have HZ17 := Aside0.mk hp4.2
                have hrn := CurOk.tot HA.out.1 HA.out.2.2.1
                have HWN : IntKind.i64.wrap (n - 1) = n - 1 := by have := HNN.out; have := (tot_range HA.out.1.frs).2; have := HA.out.2.1; rw [i64_w]; unfold wrap64; omega
                clear d0 d1 d2 d3 f0 f1 f2 f3 c0 c1 c2 c3 hp4 hO17 hne4 hrn HO16 HZ16 HD16 BB16
                go_wp2_with fail
                have HTS : Aside0 (tot (all.set k (mk33 k p q true)) = n - 1) := ⟨by have h1 := tot_set (y := mk33 k p q true) HK.out.1 rfl rfl; have h2 : fr (mk33 k p q false).f3 = fr q := rfl; have := HNN.out; have := HEN.out; omega⟩
                go_roundg n.toNat
                case measure => have := HA.out.2.2.2; have := HNN.out; have := HPOS.out; omega
                case rel => exact ⟨all.set k (mk33 k p q true), false, 0, 0, by rw [HTS.out, Int.sub_zero], ⟨HA.out.1.set HK.out.1 true, by rw [List.length_set]; exact HA.out.2.1, .inl ⟨rfl, rfl, rfl⟩, by have := HTS.out; have := HPOS.out; omega⟩, ⟨by rw [List.length_set]; exact HO17.out⟩, ⟨fun e => HGN.out.1 (Option.some.inj e), blk_lt HZ17.out⟩, HZ17, HB17⟩
              case inr =>
                obtain ⟨rfl, rfl, rfl, rfl, rfl⟩ : s0 = true ∧ s1 = false ∧ s2 = (k : Int) ∧ s3 = I + 1 ∧ s4 = false := by rw [hend.2] at hs; injection hs with e0 hs; injection hs with e1 hs; injection hs with e2 hs; injection hs with e3 e4; exact ⟨e0.symm, e1.symm, e2.symm, e3.symm, e4.symm⟩
                have tI : (I == fr q - 1) = false := by have := hend.1; simp; omega
                replace hend := Aside0.mk hend.1
                clear hs
                go_upto_region 27 with (go_at_call 25; refine (HFR.out _).mono ?_; rintro e w9 ⟨rfl, hb⟩; have HB9 := Aside0.mk hb; clear hb x3)
                have HX9 := Aside0.mk (blk_below hx8.out HB9.out)
                have HB90 := Aside0.mk (below_then hb8.out hb8.out.size HB9.out)
                have HZ9 := Aside0.mk (blk_below hz8.out HB9.out)
                have HD9 := Aside0.mk (blk_below hd8.out HB9.out)
                have HO9 := Aside0.mk (pw_own_below HO.out HB90.out)
                have BB9 := Aside0.mk (below_then BB.out BB.out.size HB90.out)
                obtain ⟨rn, hrn⟩ : ∃ rn, rn = mk33 k p q false := ⟨_, rfl⟩
                have HAP : Aside0 (∀ W, Below w9.heap.size w9 W → ∀ g, W.ownsRow w9.heap.size 29 8 (.slice (some ⟨g, 0, none⟩) 0 0) 0 [] → ∃ v' w', (Builtin.append_ #[22, 22] 22 #[.slice (some ⟨g, 0, none⟩) 0 0, .slice A3' all.length c3n]).run Try.prog W = .ok v' w' ∧ w'.ownsRow w9.heap.size 29 8 v' all.length (encP all) ∧ Below W.heap.size W w' ∧ (v'.ownBlock = some g ∨ v'.ownBlock = some W.heap.size)) := ⟨fun W hW g hg => all_app HO9.out (by have := HA.out.2.1; omega) w9.heap.size W hW hW.size g hg⟩
                have HAQ : Aside0 (∀ W, Below w9.heap.size w9 W → ∀ v gx, W.ownsRow w9.heap.size 29 8 v all.length (encP all) → W.heap[gx]? = some (.cells #[.int .u64 1000, .int .u64 0, .int .i64 9, .int .i64 1, .int .u64 0, .bool false, .int .i64 0, .slice none 0 0] 29 (0, 0)) → ∃ v' w', (Builtin.append_ #[22, 22] 22 #[v, .slice (some ⟨gx, 0, none⟩) 1 1]).run Try.prog W = .ok v' w' ∧ w'.ownsRow w9.heap.size 29 8 v' (all.length + 1) (encP (all ++ [extra33])) ∧ W.grownBy w' v.ownBlock) := ⟨fun W hW v gx ho hz => snoc_app ho hz (by have := HA.out.2.1; omega) hW.size⟩
                have HN2 := Aside0.mk (fun (W : World) (A : Option Addr) (c : Nat) (ho : W.ownsRow w9.heap.size 29 8 (.slice A (all.length + 1) c) (all.length + 1) (encP (all ++ [extra33]))) => extra_next HA.out.1 (by have := HA.out.2.1; omega) HK.out.1 (by have := HK.out.2.2.2.1; omega : 0 ≤ I + 1) hend.out hrn W A c ho)
                have B00 := B0
                have B0 := Aside0.mk (below_drew1 (Below.refl w9.heap.size w9))
                have HRN := Aside0.mk hrn
                clear hb8 hz8 hx8 hd8 HB9 HFR HWF tI tp hrn
                refine start_ (n := 16) (S := fun w' => True) (ds := []) #[false, false, false, false, false, false, false, false, false, false, false, false, false, false, false, false] (by kernel_rfl) rfl rfl trivial (fun hHeld => ?_)
                refine with_tabW ends27.tab27 ends27.bits27 (fun HT_ HW_ => ?_)
                generalize w9.drew = wq at B0 hHeld ⊢
                refine inv_at [0, 1, 2, 3, 4, 5, 6, 7, 8, 9, 10, 11, 12, 13, 14, 15] (fun a0_ b a w' => ∃ (g0 : Nat) (gx : Nat) (g9 : Nat) (v126 : Value) (A129 : Option Addr) (c129 : Nat) (A9 : Option Addr) (c9 : Nat) (m1_ : Value) (m5_ : Value) (m6_ : Value) (m7_ : Value) (m8_ : Value) (m9_ : Value) (m12_ : Value), a = putSel a0_ b [(0, 123, .agg #[.bool true, .bool false, .int .u64 (k : Int), .int .i64 (I + 1)]), (1, 124, m1_), (2, 125, .slice A3' all.length c3n), (3, 126, v126), (4, 127, .agg #[.int .u64 1000, .int .u64 0, .int .i64 9, .int .i64 1, .int .u64 0, .bool false, .int .i64 0, .slice none 0 0]), (5, 128, m5_), (6, 129, m6_), (7, 130, m7_), (8, 122, m8_), (9, 131, m9_), (10, 132, .int .i64 (I + 1)), (11, 133, .bool true), (12, 16, m12_), (14, 17, .int .i64 (I + 1)), (15, 18, .bool true)] ∧ (Below w9.heap.size w9 w') ∧ (b 1 = true → b 3 = false → w'.ownsRow w9.heap.size 29 8 (.slice (some ⟨g0, 0, none⟩) 0 0) 0 []) ∧ (b 3 = true → b 6 = false → w'.ownsRow w9.heap.size 29 8 v126 all.length (encP all)) ∧ (b 6 = true → b 7 = false → w'.ownsRow w9.heap.size 29 8 (.slice A129 (all.length + 1) c129) (all.length + 1) (encP (all ++ [extra33]))) ∧ (b 5 = true → b 6 = false → w'.heap[gx]? = some (.cells #[.int .u64 1000, .int .u64 0, .int .i64 9, .int .i64 1, .int .u64 0, .bool false, .int .i64 0, .slice none 0 0] 29 (0, 0))) ∧ (b 12 = true → b 13 = false → w'.heap[g9]? = some (.cells #[.int .u64 0, .int .u64 0, .int .i64 0, .int .i64 0, .int .u64 0, .bool false, .int .i64 0, .slice none 0 0] 29 (0, 0)) ∧ w9.heap.size ≤ g9) ∧ (b 13 = true → w'.heap[g9]? = some (.cells #[.int .u64 rn.f0, .int .u64 rn.f1, .int .i64 rn.f2, .int .i64 rn.f3, .int .u64 rn.f4, .bool rn.f5, .int .i64 rn.f6, .slice A9 rn.f7.length c9] 29 (0, 0))) ∧ (b 1 = true → b 12 = true → b 3 = false → g0 ≠ g9) ∧ (b 3 = true → b 12 = true → b 6 = false → v126.ownBlock ≠ some g9) ∧ (b 1 = true → (m1_ : Value) = .slice (some ⟨g0, 0, none⟩) 0 0) ∧ (b 5 = true → (m5_ : Value) = .slice (some ⟨gx, 0, none⟩) 1 1) ∧ (b 6 = true → (m6_ : Value) = .slice A129 (all.length + 1) c129) ∧ (b 7 = true → (m7_ : Value) = .tuple #[.agg #[.int .u64 rn.f0, .int .u64 rn.f1, .int .i64 rn.f2, .int .i64 rn.f3, .int .u64 rn.f4, .bool rn.f5, .int .i64 rn.f6, .slice A9 rn.f7.length c9], .int .i64 (I + 1), .bool true]) ∧ (b 8 = true → (m8_ : Value) = .tuple #[.agg #[.int .u64 rn.f0, .int .u64 rn.f1, .int .i64 rn.f2, .int .i64 rn.f3, .int .u64 rn.f4, .bool rn.f5, .int .i64 rn.f6, .slice A9 rn.f7.length c9], .int .i64 (I + 1), .bool true]) ∧ (b 9 = true → (m9_ : Value) = .agg #[.int .u64 rn.f0, .int .u64 rn.f1, .int .i64 rn.f2, .int .i64 rn.f3, .int .u64 rn.f4, .bool rn.f5, .int .i64 rn.f6, .slice A9 rn.f7.length c9]) ∧ (b 12 = true → (m12_ : Value) = .pointer (some ⟨g9, 0, none⟩))) HT_.out HW_.out (by kernel_rfl) (by kernel_rfl) ?_ ?_ ?_
                · exact ⟨0, 0, 0, .bool false, none, 0, none, 0, .bool false, .bool false, .bool false, .bool false, .bool false, .bool false, .bool false, by simp only [putSel, Bool.false_eq_true, if_false], B0.out, fun h_ => absurd h_ (by decide), fun h_ => absurd h_ (by decide), fun h_ => absurd h_ (by decide), fun h_ => absurd h_ (by decide), fun h_ => absurd h_ (by decide), fun h_ => absurd h_ (by decide), fun h_ => absurd h_ (by decide), fun h_ => absurd h_ (by decide), fun h_ => absurd h_ (by decide), fun h_ => absurd h_ (by decide), fun h_ => absurd h_ (by decide), fun h_ => absurd h_ (by decide), fun h_ => absurd h_ (by decide), fun h_ => absurd h_ (by decide), fun h_ => absurd h_ (by decide)⟩
                · skip
                  clear B0
                  refine steps_cons ?_ ?_
                  · rintro b a w' ⟨g0, gx, g9, v126, A129, c129, A9, c9, m1_, m5_, m6_, m7_, m8_, m9_, m12_, ha, Q_B0, Q_O0, Q_O2, Q_O6, Q_G5, Q_H9, Q_HX, Q_N3, Q_N2, Q_X1_, Q_X5_, Q_X6_, Q_X7_, Q_X8_, Q_X9_, Q_X12_⟩ hb_ hon hoff
                    refine ⟨_, rfl, fun K hK => ?_⟩
                    have e12 : a.tmps[12]? = some (.pointer (some ⟨h12, 0, none⟩)) := by rw [ha]; exact (putSel_off rfl).trans rfl
                    replace ha := Aside0.mk ha
                    have B0 := Aside0.mk Q_B0
                    have hz_ := blk_below HD9.out B0.out
                    have c0_ := blk_cell hz_ 0
                    have c1_ := blk_cell hz_ 1
                    have c2_ := blk_cell hz_ 2
                    have c3_ := blk_cell hz_ 3
                    clear hz_
                    refine value_ (w1 := w') (v := .agg #[.bool true, .bool false, .int .u64 (k : Int), .int .i64 (I + 1)]) (by rfl) rfl ?_ ?_
                    · go_simp
                      (try simp only [i64_w])
                      try rfl
                    refine hK.out _ _ ⟨g0, gx, g9, v126, A129, c129, A9, c9, m1_, m5_, m6_, m7_, m8_, m9_, m12_, (by rw [ha.out]; exact putSel_upk 0 hb_ rfl rfl rfl), Q_B0, Q_O0, Q_O2, Q_O6, Q_G5, Q_H9, fun h0_ => absurd ((hoff 13 (by kernel_rfl)).symm.trans h0_) (by decide), Q_N3, Q_N2, Q_X1_, Q_X5_, Q_X6_, fun h0_ => absurd ((hoff 7 (by kernel_rfl)).symm.trans h0_) (by decide), fun h0_ => absurd ((hoff 8 (by kernel_rfl)).symm.trans h0_) (by decide), fun h0_ => absurd ((hoff 9 (by kernel_rfl)).symm.trans h0_) (by decide), Q_X12_⟩
                  refine steps_cons ?_ ?_
                  · rintro b a w' ⟨g0, gx, g9, v126, A129, c129, A9, c9, m1_, m5_, m6_, m7_, m8_, m9_, m12_, ha, Q_B0, Q_O0, Q_O2, Q_O6, Q_G5, Q_H9, Q_HX, Q_N3, Q_N2, Q_X1_, Q_X5_, Q_X6_, Q_X7_, Q_X8_, Q_X9_, Q_X12_⟩ hb_ hon hoff
                    refine ⟨_, rfl, fun K hK => ?_⟩
                    replace ha := Aside0.mk ha
                    have B0 := Aside0.mk Q_B0
                    refine value_ (w1 := w'.alloc (Obj.cells #[] 29)) (v := .slice (some ⟨w'.heap.size, 0, none⟩) 0 0) (by rfl) rfl (by first | (go_simp; done) | (go_simp; rfl)) ?_
                    have hb := below_alloc (Below.refl w'.heap.size w') (Obj.cells #[] 29)
                    refine hK.out _ _ ⟨w'.heap.size, gx, g9, v126, A129, c129, A9, c9, (.slice (some ⟨w'.heap.size, 0, none⟩) 0 0), m5_, m6_, m7_, m8_, m9_, m12_, (by rw [ha.out]; exact putSel_upk 1 hb_ rfl rfl rfl), below_then B0.out B0.out.size hb, fun _ _ => World.ownsRow_made w' #[] 0 B0.out.size (Nat.zero_le _) rfl, fun h0_ _ => absurd ((hoff 3 (by kernel_rfl)).symm.trans h0_) (by decide), fun h0_ _ => absurd ((hoff 6 (by kernel_rfl)).symm.trans h0_) (by decide), fun h0_ h1_ => blk_below (Q_G5 h0_ h1_) hb, fun h0_ h1_ => ⟨blk_below (Q_H9 h0_ h1_).1 hb, (Q_H9 h0_ h1_).2⟩, fun h0_ => absurd ((hoff 13 (by kernel_rfl)).symm.trans h0_) (by decide), fun _ h1_ _ => Nat.ne_of_gt (blk_lt (Q_H9 h1_ (hoff 13 (by kernel_rfl))).1), fun h0_ _ _ => absurd ((hoff 3 (by kernel_rfl)).symm.trans h0_) (by decide), fun _ => rfl, Q_X5_, fun h0_ => absurd ((hoff 6 (by kernel_rfl)).symm.trans h0_) (by decide), fun h0_ => absurd ((hoff 7 (by kernel_rfl)).symm.trans h0_) (by decide), fun h0_ => absurd ((hoff 8 (by kernel_rfl)).symm.trans h0_) (by decide), fun h0_ => absurd ((hoff 9 (by kernel_rfl)).symm.trans h0_) (by decide), Q_X12_⟩
                  refine steps_cons ?_ ?_
                  · rintro b a w' ⟨g0, gx, g9, v126, A129, c129, A9, c9, m1_, m5_, m6_, m7_, m8_, m9_, m12_, ha, Q_B0, Q_O0, Q_O2, Q_O6, Q_G5, Q_H9, Q_HX, Q_N3, Q_N2, Q_X1_, Q_X5_, Q_X6_, Q_X7_, Q_X8_, Q_X9_, Q_X12_⟩ hb_ hon hoff
                    refine ⟨_, rfl, fun K hK => ?_⟩
                    have e3 : a.tmps[3]? = some (.slice A3' all.length c3n) := by rw [ha]; exact (putSel_off rfl).trans rfl
                    replace ha := Aside0.mk ha
                    have B0 := Aside0.mk Q_B0
                    refine value_ (w1 := w') (v := .slice A3' all.length c3n) (by rfl) rfl ?_ ?_
                    · go_simp
                      (try simp only [i64_w])
                      try rfl
                    refine hK.out _ _ ⟨g0, gx, g9, v126, A129, c129, A9, c9, m1_, m5_, m6_, m7_, m8_, m9_, m12_, (by rw [ha.out]; exact putSel_upk 2 hb_ rfl rfl rfl), Q_B0, Q_O0, fun h0_ _ => absurd ((hoff 3 (by kernel_rfl)).symm.trans h0_) (by decide), fun h0_ _ => absurd ((hoff 6 (by kernel_rfl)).symm.trans h0_) (by decide), Q_G5, Q_H9, fun h0_ => absurd ((hoff 13 (by kernel_rfl)).symm.trans h0_) (by decide), Q_N3, fun h0_ _ _ => absurd ((hoff 3 (by kernel_rfl)).symm.trans h0_) (by decide), Q_X1_, Q_X5_, fun h0_ => absurd ((hoff 6 (by kernel_rfl)).symm.trans h0_) (by decide), fun h0_ => absurd ((hoff 7 (by kernel_rfl)).symm.trans h0_) (by decide), fun h0_ => absurd ((hoff 8 (by kernel_rfl)).symm.trans h0_) (by decide), fun h0_ => absurd ((hoff 9 (by kernel_rfl)).symm.trans h0_) (by decide), Q_X12_⟩
                  refine steps_cons ?_ ?_
                  · rintro b a w' ⟨g0, gx, g9, v126, A129, c129, A9, c9, m1_, m5_, m6_, m7_, m8_, m9_, m12_, ha, Q_B0, Q_O0, Q_O2, Q_O6, Q_G5, Q_H9, Q_HX, Q_N3, Q_N2, Q_X1_, Q_X5_, Q_X6_, Q_X7_, Q_X8_, Q_X9_, Q_X12_⟩ hb_ hon hoff
                    refine ⟨_, rfl, fun K hK => ?_⟩
                    have e124 : a.tmps[124]? = some (m1_) := by rw [ha]; exact putSel_on (e := (1, 124, m1_)) 1 rfl rfl (hon 1 (by kernel_rfl)) rfl
                    rw [Q_X1_ (hon 1 (by kernel_rfl))] at e124
                    have e125 : a.tmps[125]? = some (.slice A3' all.length c3n) := by rw [ha]; exact putSel_on (e := (2, 125, .slice A3' all.length c3n)) 2 rfl rfl (hon 2 (by kernel_rfl)) rfl
                    replace ha := Aside0.mk ha
                    have B0 := Aside0.mk Q_B0
                    have O0 := Aside0.mk (Q_O0 (hon 1 (by kernel_rfl)) hb_)
                    obtain ⟨v_, w2, hr_, ho_, hb, hat_⟩ := HAP.out _ B0.out g0 O0.out
                    refine app_step (by rfl) rfl rfl e124 e125 hr_ ?_
                    refine hK.out _ _ ⟨g0, gx, g9, v_, A129, c129, A9, c9, m1_, m5_, m6_, m7_, m8_, m9_, m12_, (by rw [ha.out]; exact putSel_upk 3 hb_ rfl rfl rfl), below_then B0.out B0.out.size hb, fun _ h1_ => absurd ((up_self b 3).symm.trans h1_) (by decide), fun _ _ => ho_, fun h0_ _ => absurd ((hoff 6 (by kernel_rfl)).symm.trans h0_) (by decide), fun h0_ h1_ => blk_below (Q_G5 h0_ h1_) hb, fun h0_ h1_ => ⟨blk_below (Q_H9 h0_ h1_).1 hb, (Q_H9 h0_ h1_).2⟩, fun h0_ => absurd ((hoff 13 (by kernel_rfl)).symm.trans h0_) (by decide), fun _ _ h2_ => absurd ((up_self b 3).symm.trans h2_) (by decide), fun _ h1_ _ => ne_of_hat hat_ (Q_N3 (hon 1 (by kernel_rfl)) h1_ hb_) (blk_lt (Q_H9 h1_ (hoff 13 (by kernel_rfl))).1), Q_X1_, Q_X5_, fun h0_ => absurd ((hoff 6 (by kernel_rfl)).symm.trans h0_) (by decide), fun h0_ => absurd ((hoff 7 (by kernel_rfl)).symm.trans h0_) (by decide), fun h0_ => absurd ((hoff 8 (by kernel_rfl)).symm.trans h0_) (by decide), fun h0_ => absurd ((hoff 9 (by kernel_rfl)).symm.trans h0_) (by decide), Q_X12_⟩
                  refine steps_cons ?_ ?_
                  · rintro b a w' ⟨g0, gx, g9, v126, A129, c129, A9, c9, m1_, m5_, m6_, m7_, m8_, m9_, m12_, ha, Q_B0, Q_O0, Q_O2, Q_O6, Q_G5, Q_H9, Q_HX, Q_N3, Q_N2, Q_X1_, Q_X5_, Q_X6_, Q_X7_, Q_X8_, Q_X9_, Q_X12_⟩ hb_ hon hoff
                    refine ⟨_, rfl, fun K hK => ?_⟩
                    replace ha := Aside0.mk ha
                    have B0 := Aside0.mk Q_B0
                    refine value_ (w1 := w') (v := .agg #[.int .u64 1000, .int .u64 0, .int .i64 9, .int .i64 1, .int .u64 0, .bool false, .int .i64 0, .slice none 0 0]) (by rfl) rfl ?_ ?_
                    · go_simp
                      (try simp only [i64_w])
                      try rfl
                    refine hK.out _ _ ⟨g0, gx, g9, v126, A129, c129, A9, c9, m1_, m5_, m6_, m7_, m8_, m9_, m12_, (by rw [ha.out]; exact putSel_upk 4 hb_ rfl rfl rfl), Q_B0, Q_O0, Q_O2, fun h0_ _ => absurd ((hoff 6 (by kernel_rfl)).symm.trans h0_) (by decide), fun h0_ _ => absurd ((hoff 5 (by kernel_rfl)).symm.trans h0_) (by decide), Q_H9, fun h0_ => absurd ((hoff 13 (by kernel_rfl)).symm.trans h0_) (by decide), Q_N3, Q_N2, Q_X1_, fun h0_ => absurd ((hoff 5 (by kernel_rfl)).symm.trans h0_) (by decide), fun h0_ => absurd ((hoff 6 (by kernel_rfl)).symm.trans h0_) (by decide), fun h0_ => absurd ((hoff 7 (by kernel_rfl)).symm.trans h0_) (by decide), fun h0_ => absurd ((hoff 8 (by kernel_rfl)).symm.trans h0_) (by decide), fun h0_ => absurd ((hoff 9 (by kernel_rfl)).symm.trans h0_) (by decide), Q_X12_⟩
                  refine steps_cons ?_ ?_
                  · rintro b a w' ⟨g0, gx, g9, v126, A129, c129, A9, c9, m1_, m5_, m6_, m7_, m8_, m9_, m12_, ha, Q_B0, Q_O0, Q_O2, Q_O6, Q_G5, Q_H9, Q_HX, Q_N3, Q_N2, Q_X1_, Q_X5_, Q_X6_, Q_X7_, Q_X8_, Q_X9_, Q_X12_⟩ hb_ hon hoff
                    refine ⟨_, rfl, fun K hK => ?_⟩
                    have e127 : a.tmps[127]? = some (.agg #[.int .u64 1000, .int .u64 0, .int .i64 9, .int .i64 1, .int .u64 0, .bool false, .int .i64 0, .slice none 0 0]) := by rw [ha]; exact putSel_on (e := (4, 127, .agg #[.int .u64 1000, .int .u64 0, .int .i64 9, .int .i64 1, .int .u64 0, .bool false, .int .i64 0, .slice none 0 0])) 4 rfl rfl (hon 4 (by kernel_rfl)) rfl
                    replace ha := Aside0.mk ha
                    have B0 := Aside0.mk Q_B0
                    refine value_ (w1 := w'.alloc (Obj.cells #[.int .u64 1000, .int .u64 0, .int .i64 9, .int .i64 1, .int .u64 0, .bool false, .int .i64 0, .slice none 0 0] 29)) (v := .slice (some ⟨w'.heap.size, 0, none⟩) 1 1) (by rfl) rfl (by first | (go_simp; done) | (go_simp; rfl)) ?_
                    have hb := below_alloc (Below.refl w'.heap.size w') (Obj.cells #[.int .u64 1000, .int .u64 0, .int .i64 9, .int .i64 1, .int .u64 0, .bool false, .int .i64 0, .slice none 0 0] 29)
                    refine hK.out _ _ ⟨g0, w'.heap.size, g9, v126, A129, c129, A9, c9, m1_, (.slice (some ⟨w'.heap.size, 0, none⟩) 1 1), m6_, m7_, m8_, m9_, m12_, (by rw [ha.out]; exact putSel_upk 5 hb_ rfl rfl rfl), below_then B0.out B0.out.size hb, fun h0_ h1_ => World.ownsRow.alloc ((Q_O0 h0_ h1_)) _, fun h0_ h1_ => World.ownsRow.alloc ((Q_O2 h0_ h1_)) _, fun h0_ _ => absurd ((hoff 6 (by kernel_rfl)).symm.trans h0_) (by decide), fun _ _ => heap_alloc_new w' _, fun h0_ h1_ => ⟨blk_below (Q_H9 h0_ h1_).1 hb, (Q_H9 h0_ h1_).2⟩, fun h0_ => absurd ((hoff 13 (by kernel_rfl)).symm.trans h0_) (by decide), Q_N3, Q_N2, Q_X1_, fun _ => rfl, fun h0_ => absurd ((hoff 6 (by kernel_rfl)).symm.trans h0_) (by decide), fun h0_ => absurd ((hoff 7 (by kernel_rfl)).symm.trans h0_) (by decide), fun h0_ => absurd ((hoff 8 (by kernel_rfl)).symm.trans h0_) (by decide), fun h0_ => absurd ((hoff 9 (by kernel_rfl)).symm.trans h0_) (by decide), Q_X12_⟩
                  refine steps_cons ?_ ?_
                  · rintro b a w' ⟨g0, gx, g9, v126, A129, c129, A9, c9, m1_, m5_, m6_, m7_, m8_, m9_, m12_, ha, Q_B0, Q_O0, Q_O2, Q_O6, Q_G5, Q_H9, Q_HX, Q_N3, Q_N2, Q_X1_, Q_X5_, Q_X6_, Q_X7_, Q_X8_, Q_X9_, Q_X12_⟩ hb_ hon hoff
                    refine ⟨_, rfl, fun K hK => ?_⟩
                    have e126 : a.tmps[126]? = some (v126) := by rw [ha]; exact putSel_on (e := (3, 126, v126)) 3 rfl rfl (hon 3 (by kernel_rfl)) rfl
                    have e128 : a.tmps[128]? = some (m5_) := by rw [ha]; exact putSel_on (e := (5, 128, m5_)) 5 rfl rfl (hon 5 (by kernel_rfl)) rfl
                    rw [Q_X5_ (hon 5 (by kernel_rfl))] at e128
                    replace ha := Aside0.mk ha
                    have B0 := Aside0.mk Q_B0
                    have O2 := Aside0.mk (Q_O2 (hon 3 (by kernel_rfl)) hb_)
                    have G5 := Aside0.mk (Q_G5 (hon 5 (by kernel_rfl)) hb_)
                    obtain ⟨v_, w2, hr_, ho_, hg_⟩ := HAQ.out _ B0.out v126 gx O2.out G5.out
                    obtain ⟨A_, c_, rfl⟩ := own_slice ho_
                    refine app_step (by rfl) rfl rfl e126 e128 hr_ ?_
                    refine hK.out _ _ ⟨g0, gx, g9, v126, A_, c_, A9, c9, m1_, m5_, (.slice A_ (all.length + 1) c_), m7_, m8_, m9_, m12_, (by rw [ha.out]; exact putSel_upk 6 hb_ rfl rfl rfl), pw_below_grown B0.out _ B0.out.size hg_ (own_base O2.out), fun _ h1_ => absurd ((hon 3 (by kernel_rfl)).symm.trans h1_) (by decide), fun _ h1_ => absurd ((up_self b 6).symm.trans h1_) (by decide), fun _ _ => ho_, fun _ h1_ => absurd ((up_self b 6).symm.trans h1_) (by decide), fun h0_ h1_ => ⟨blk_grown (Q_H9 h0_ h1_).1 hg_ (Ne.symm (Q_N2 (hon 3 (by kernel_rfl)) h0_ hb_)), (Q_H9 h0_ h1_).2⟩, fun h0_ => absurd ((hoff 13 (by kernel_rfl)).symm.trans h0_) (by decide), fun _ _ h2_ => absurd ((hon 3 (by kernel_rfl)).symm.trans h2_) (by decide), fun _ _ h2_ => absurd ((up_self b 6).symm.trans h2_) (by decide), Q_X1_, Q_X5_, fun _ => rfl, fun h0_ => absurd ((hoff 7 (by kernel_rfl)).symm.trans h0_) (by decide), fun h0_ => absurd ((hoff 8 (by kernel_rfl)).symm.trans h0_) (by decide), fun h0_ => absurd ((hoff 9 (by kernel_rfl)).symm.trans h0_) (by decide), Q_X12_⟩
                  refine steps_cons ?_ ?_
                  · rintro b a w' ⟨g0, gx, g9, v126, A129, c129, A9, c9, m1_, m5_, m6_, m7_, m8_, m9_, m12_, ha, Q_B0, Q_O0, Q_O2, Q_O6, Q_G5, Q_H9, Q_HX, Q_N3, Q_N2, Q_X1_, Q_X5_, Q_X6_, Q_X7_, Q_X8_, Q_X9_, Q_X12_⟩ hb_ hon hoff
                    refine ⟨_, rfl, fun K hK => ?_⟩
                    have e123 : a.tmps[123]? = some (.agg #[.bool true, .bool false, .int .u64 (k : Int), .int .i64 (I + 1)]) := by rw [ha]; exact putSel_on (e := (0, 123, .agg #[.bool true, .bool false, .int .u64 (k : Int), .int .i64 (I + 1)])) 0 rfl rfl (hon 0 (by kernel_rfl)) rfl
                    have e129 : a.tmps[129]? = some (m6_) := by rw [ha]; exact putSel_on (e := (6, 129, m6_)) 6 rfl rfl (hon 6 (by kernel_rfl)) rfl
                    rw [Q_X6_ (hon 6 (by kernel_rfl))] at e129
                    replace ha := Aside0.mk ha
                    have B0 := Aside0.mk Q_B0
                    have O6 := Aside0.mk (Q_O6 (hon 6 (by kernel_rfl)) hb_)
                    refine goes_ Try.func46 (by kernel_rfl) rfl #[.agg #[.bool true, .bool false, .int .u64 (k : Int), .int .i64 (I + 1)], .slice A129 (all.length + 1) c129] (by rfl) rfl rfl (by first | (simp only [List.map_toArray, List.map_cons, List.map_nil, Act.eval, Array.getD_eq_getD_getElem?, Option.getD_some, e123, e129]; done) | (simp only [List.map_toArray, List.map_cons, List.map_nil, Act.eval, Array.getD_eq_getD_getElem?, Option.getD_some, e123, e129]; rfl)) ?_
                    with_reducible refine (HN2.out _ A129 c129 O6.out).mono ?_
                    rintro e w2 ⟨A_, c_, rfl, hb⟩
                    refine ⟨_, rfl, ?_⟩
                    refine hK.out _ _ ⟨g0, gx, g9, v126, A129, c129, A_, c_, m1_, m5_, m6_, (.tuple #[.agg #[.int .u64 rn.f0, .int .u64 rn.f1, .int .i64 rn.f2, .int .i64 rn.f3, .int .u64 rn.f4, .bool rn.f5, .int .i64 rn.f6, .slice A_ rn.f7.length c_], .int .i64 (I + 1), .bool true]), m8_, m9_, m12_, (by rw [ha.out]; exact putSel_upk 7 hb_ rfl rfl rfl), below_then B0.out B0.out.size hb, fun _ h1_ => absurd ((hon 3 (by kernel_rfl)).symm.trans h1_) (by decide), fun _ h1_ => absurd ((hon 6 (by kernel_rfl)).symm.trans h1_) (by decide), fun _ h1_ => absurd ((up_self b 7).symm.trans h1_) (by decide), fun _ h1_ => absurd ((hon 6 (by kernel_rfl)).symm.trans h1_) (by decide), fun h0_ h1_ => ⟨blk_below (Q_H9 h0_ h1_).1 hb, (Q_H9 h0_ h1_).2⟩, fun h0_ => absurd ((hoff 13 (by kernel_rfl)).symm.trans h0_) (by decide), fun _ _ h2_ => absurd ((hon 3 (by kernel_rfl)).symm.trans h2_) (by decide), fun _ _ h2_ => absurd ((hon 6 (by kernel_rfl)).symm.trans h2_) (by decide), Q_X1_, Q_X5_, Q_X6_, fun _ => rfl, fun h0_ => absurd ((hoff 8 (by kernel_rfl)).symm.trans h0_) (by decide), fun h0_ => absurd ((hoff 9 (by kernel_rfl)).symm.trans h0_) (by decide), Q_X12_⟩
                  refine steps_cons ?_ ?_
                  · rintro b a w' ⟨g0, gx, g9, v126, A129, c129, A9, c9, m1_, m5_, m6_, m7_, m8_, m9_, m12_, ha, Q_B0, Q_O0, Q_O2, Q_O6, Q_G5, Q_H9, Q_HX, Q_N3, Q_N2, Q_X1_, Q_X5_, Q_X6_, Q_X7_, Q_X8_, Q_X9_, Q_X12_⟩ hb_ hon hoff
                    refine ⟨_, rfl, fun K hK => ?_⟩
                    have e130 : a.tmps[130]? = some (m7_) := by rw [ha]; exact putSel_on (e := (7, 130, m7_)) 7 rfl rfl (hon 7 (by kernel_rfl)) rfl
                    rw [Q_X7_ (hon 7 (by kernel_rfl))] at e130
                    replace ha := Aside0.mk ha
                    have B0 := Aside0.mk Q_B0
                    refine value_ (w1 := w') (v := .tuple #[.agg #[.int .u64 rn.f0, .int .u64 rn.f1, .int .i64 rn.f2, .int .i64 rn.f3, .int .u64 rn.f4, .bool rn.f5, .int .i64 rn.f6, .slice A9 rn.f7.length c9], .int .i64 (I + 1), .bool true]) (by rfl) rfl ?_ ?_
                    · go_simp
                      (try simp only [i64_w])
                      try rfl
                    refine hK.out _ _ ⟨g0, gx, g9, v126, A129, c129, A9, c9, m1_, m5_, m6_, m7_, (.tuple #[.agg #[.int .u64 rn.f0, .int .u64 rn.f1, .int .i64 rn.f2, .int .i64 rn.f3, .int .u64 rn.f4, .bool rn.f5, .int .i64 rn.f6, .slice A9 rn.f7.length c9], .int .i64 (I + 1), .bool true]), m9_, m12_, (by rw [ha.out]; exact putSel_upk 8 hb_ rfl rfl rfl), Q_B0, fun _ h1_ => absurd ((hon 3 (by kernel_rfl)).symm.trans h1_) (by decide), fun _ h1_ => absurd ((hon 6 (by kernel_rfl)).symm.trans h1_) (by decide), fun _ h1_ => absurd ((hon 7 (by kernel_rfl)).symm.trans h1_) (by decide), fun _ h1_ => absurd ((hon 6 (by kernel_rfl)).symm.trans h1_) (by decide), Q_H9, fun h0_ => absurd ((hoff 13 (by kernel_rfl)).symm.trans h0_) (by decide), fun _ _ h2_ => absurd ((hon 3 (by kernel_rfl)).symm.trans h2_) (by decide), fun _ _ h2_ => absurd ((hon 6 (by kernel_rfl)).symm.trans h2_) (by decide), Q_X1_, Q_X5_, Q_X6_, Q_X7_, fun _ => rfl, fun h0_ => absurd ((hoff 9 (by kernel_rfl)).symm.trans h0_) (by decide), Q_X12_⟩
                  refine steps_cons ?_ ?_
                  · rintro b a w' ⟨g0, gx, g9, v126, A129, c129, A9, c9, m1_, m5_, m6_, m7_, m8_, m9_, m12_, ha, Q_B0, Q_O0, Q_O2, Q_O6, Q_G5, Q_H9, Q_HX, Q_N3, Q_N2, Q_X1_, Q_X5_, Q_X6_, Q_X7_, Q_X8_, Q_X9_, Q_X12_⟩ hb_ hon hoff
                    refine ⟨_, rfl, fun K hK => ?_⟩
                    have e122 : a.tmps[122]? = some (m8_) := by rw [ha]; exact putSel_on (e := (8, 122, m8_)) 8 rfl rfl (hon 8 (by kernel_rfl)) rfl
                    rw [Q_X8_ (hon 8 (by kernel_rfl))] at e122
                    replace ha := Aside0.mk ha
                    have B0 := Aside0.mk Q_B0
                    refine value_ (w1 := w') (v := .agg #[.int .u64 rn.f0, .int .u64 rn.f1, .int .i64 rn.f2, .int .i64 rn.f3, .int .u64 rn.f4, .bool rn.f5, .int .i64 rn.f6, .slice A9 rn.f7.length c9]) (by rfl) rfl ?_ ?_
                    · go_simp
                      (try simp only [i64_w])
                      try rfl
                    refine hK.out _ _ ⟨g0, gx, g9, v126, A129, c129, A9, c9, m1_, m5_, m6_, m7_, m8_, (.agg #[.int .u64 rn.f0, .int .u64 rn.f1, .int .i64 rn.f2, .int .i64 rn.f3, .int .u64 rn.f4, .bool rn.f5, .int .i64 rn.f6, .slice A9 rn.f7.length c9]), m12_, (by rw [ha.out]; exact putSel_upk 9 hb_ rfl rfl rfl), Q_B0, fun _ h1_ => absurd ((hon 3 (by kernel_rfl)).symm.trans h1_) (by decide), fun _ h1_ => absurd ((hon 6 (by kernel_rfl)).symm.trans h1_) (by decide), fun _ h1_ => absurd ((hon 7 (by kernel_rfl)).symm.trans h1_) (by decide), fun _ h1_ => absurd ((hon 6 (by kernel_rfl)).symm.trans h1_) (by decide), Q_H9, fun h0_ => absurd ((hoff 13 (by kernel_rfl)).symm.trans h0_) (by decide), fun _ _ h2_ => absurd ((hon 3 (by kernel_rfl)).symm.trans h2_) (by decide), fun _ _ h2_ => absurd ((hon 6 (by kernel_rfl)).symm.trans h2_) (by decide), Q_X1_, Q_X5_, Q_X6_, Q_X7_, Q_X8_, fun _ => rfl, Q_X12_⟩
                  refine steps_cons ?_ ?_
                  · rintro b a w' ⟨g0, gx, g9, v126, A129, c129, A9, c9, m1_, m5_, m6_, m7_, m8_, m9_, m12_, ha, Q_B0, Q_O0, Q_O2, Q_O6, Q_G5, Q_H9, Q_HX, Q_N3, Q_N2, Q_X1_, Q_X5_, Q_X6_, Q_X7_, Q_X8_, Q_X9_, Q_X12_⟩ hb_ hon hoff
                    refine ⟨_, rfl, fun K hK => ?_⟩
                    have e122 : a.tmps[122]? = some (m8_) := by rw [ha]; exact putSel_on (e := (8, 122, m8_)) 8 rfl rfl (hon 8 (by kernel_rfl)) rfl
                    rw [Q_X8_ (hon 8 (by kernel_rfl))] at e122
                    replace ha := Aside0.mk ha
                    have B0 := Aside0.mk Q_B0
                    refine value_ (w1 := w') (v := .int .i64 (I + 1)) (by rfl) rfl ?_ ?_
                    · go_simp
                      (try simp only [i64_w])
                      try rfl
                    refine hK.out _ _ ⟨g0, gx, g9, v126, A129, c129, A9, c9, m1_, m5_, m6_, m7_, m8_, m9_, m12_, (by rw [ha.out]; exact putSel_upk 10 hb_ rfl rfl rfl), Q_B0, fun _ h1_ => absurd ((hon 3 (by kernel_rfl)).symm.trans h1_) (by decide), fun _ h1_ => absurd ((hon 6 (by kernel_rfl)).symm.trans h1_) (by decide), fun _ h1_ => absurd ((hon 7 (by kernel_rfl)).symm.trans h1_) (by decide), fun _ h1_ => absurd ((hon 6 (by kernel_rfl)).symm.trans h1_) (by decide), Q_H9, Q_HX, fun _ _ h2_ => absurd ((hon 3 (by kernel_rfl)).symm.trans h2_) (by decide), fun _ _ h2_ => absurd ((hon 6 (by kernel_rfl)).symm.trans h2_) (by decide), Q_X1_, Q_X5_, Q_X6_, Q_X7_, Q_X8_, Q_X9_, Q_X12_⟩
                  refine steps_cons ?_ ?_
                  · rintro b a w' ⟨g0, gx, g9, v126, A129, c129, A9, c9, m1_, m5_, m6_, m7_, m8_, m9_, m12_, ha, Q_B0, Q_O0, Q_O2, Q_O6, Q_G5, Q_H9, Q_HX, Q_N3, Q_N2, Q_X1_, Q_X5_, Q_X6_, Q_X7_, Q_X8_, Q_X9_, Q_X12_⟩ hb_ hon hoff
                    refine ⟨_, rfl, fun K hK => ?_⟩
                    have e122 : a.tmps[122]? = some (m8_) := by rw [ha]; exact putSel_on (e := (8, 122, m8_)) 8 rfl rfl (hon 8 (by kernel_rfl)) rfl
                    rw [Q_X8_ (hon 8 (by kernel_rfl))] at e122
                    replace ha := Aside0.mk ha
                    have B0 := Aside0.mk Q_B0
                    refine value_ (w1 := w') (v := .bool true) (by rfl) rfl ?_ ?_
                    · go_simp
                      (try simp only [i64_w])
                      try rfl
                    refine hK.out _ _ ⟨g0, gx, g9, v126, A129, c129, A9, c9, m1_, m5_, m6_, m7_, m8_, m9_, m12_, (by rw [ha.out]; exact putSel_upk 11 hb_ rfl rfl rfl), Q_B0, fun _ h1_ => absurd ((hon 3 (by kernel_rfl)).symm.trans h1_) (by decide), fun _ h1_ => absurd ((hon 6 (by kernel_rfl)).symm.trans h1_) (by decide), fun _ h1_ => absurd ((hon 7 (by kernel_rfl)).symm.trans h1_) (by decide), fun _ h1_ => absurd ((hon 6 (by kernel_rfl)).symm.trans h1_) (by decide), Q_H9, Q_HX, fun _ _ h2_ => absurd ((hon 3 (by kernel_rfl)).symm.trans h2_) (by decide), fun _ _ h2_ => absurd ((hon 6 (by kernel_rfl)).symm.trans h2_) (by decide), Q_X1_, Q_X5_, Q_X6_, Q_X7_, Q_X8_, Q_X9_, Q_X12_⟩
                  refine steps_cons ?_ ?_
                  · rintro b a w' ⟨g0, gx, g9, v126, A129, c129, A9, c9, m1_, m5_, m6_, m7_, m8_, m9_, m12_, ha, Q_B0, Q_O0, Q_O2, Q_O6, Q_G5, Q_H9, Q_HX, Q_N3, Q_N2, Q_X1_, Q_X5_, Q_X6_, Q_X7_, Q_X8_, Q_X9_, Q_X12_⟩ hb_ hon hoff
                    refine ⟨_, rfl, fun K hK => ?_⟩
                    replace ha := Aside0.mk ha
                    have B0 := Aside0.mk Q_B0
                    refine value_ (w1 := w'.alloc (Obj.cells #[.int .u64 0, .int .u64 0, .int .i64 0, .int .i64 0, .int .u64 0, .bool false, .int .i64 0, .slice none 0 0] 29)) (v := .pointer (some ⟨w'.heap.size, 0, none⟩)) (by rfl) rfl (by first | (go_simp; done) | (go_simp; rfl)) ?_
                    have hb := below_alloc (Below.refl w'.heap.size w') (Obj.cells #[.int .u64 0, .int .u64 0, .int .i64 0, .int .i64 0, .int .u64 0, .bool false, .int .i64 0, .slice none 0 0] 29)
                    refine hK.out _ _ ⟨g0, gx, w'.heap.size, v126, A129, c129, A9, c9, m1_, m5_, m6_, m7_, m8_, m9_, (.pointer (some ⟨w'.heap.size, 0, none⟩)), (by rw [ha.out]; exact putSel_upk 12 hb_ rfl rfl rfl), below_then B0.out B0.out.size hb, fun h0_ h1_ => World.ownsRow.alloc ((Q_O0 h0_ h1_)) _, fun h0_ h1_ => World.ownsRow.alloc ((Q_O2 h0_ h1_)) _, fun h0_ h1_ => World.ownsRow.alloc ((Q_O6 h0_ h1_)) _, fun h0_ h1_ => blk_below (Q_G5 h0_ h1_) hb, fun _ _ => ⟨heap_alloc_new w' _, B0.out.size⟩, fun h0_ => absurd ((hoff 13 (by kernel_rfl)).symm.trans h0_) (by decide), fun h0_ _ h2_ => Nat.ne_of_lt (own_lt (Q_O0 h0_ h2_) _ rfl), fun h0_ _ h2_ e_ => absurd (own_lt (Q_O2 h0_ h2_) _ e_) (Nat.lt_irrefl _), Q_X1_, Q_X5_, Q_X6_, Q_X7_, Q_X8_, Q_X9_, fun _ => rfl⟩
                  refine steps_cons ?_ ?_
                  · rintro b a w' ⟨g0, gx, g9, v126, A129, c129, A9, c9, m1_, m5_, m6_, m7_, m8_, m9_, m12_, ha, Q_B0, Q_O0, Q_O2, Q_O6, Q_G5, Q_H9, Q_HX, Q_N3, Q_N2, Q_X1_, Q_X5_, Q_X6_, Q_X7_, Q_X8_, Q_X9_, Q_X12_⟩ hb_ hon hoff
                    refine ⟨_, rfl, fun K hK => ?_⟩
                    have e16 : a.tmps[16]? = some (m12_) := by rw [ha]; exact putSel_on (e := (12, 16, m12_)) 12 rfl rfl (hon 12 (by kernel_rfl)) rfl
                    rw [Q_X12_ (hon 12 (by kernel_rfl))] at e16
                    have e131 : a.tmps[131]? = some (m9_) := by rw [ha]; exact putSel_on (e := (9, 131, m9_)) 9 rfl rfl (hon 9 (by kernel_rfl)) rfl
                    rw [Q_X9_ (hon 9 (by kernel_rfl))] at e131
                    replace ha := Aside0.mk ha
                    have B0 := Aside0.mk Q_B0
                    have H9 := Aside0.mk (Q_H9 (hon 12 (by kernel_rfl)) hb_)
                    have d0 := blk_cell H9.out.1 0
                    have d1 := blk_cell H9.out.1 1
                    have d2 := blk_cell H9.out.1 2
                    have d3 := blk_cell H9.out.1 3
                    have d4 := blk_cell H9.out.1 4
                    have d5 := blk_cell H9.out.1 5
                    have d6 := blk_cell H9.out.1 6
                    have d7 := blk_cell H9.out.1 7
                    have f0 := blk_frozen H9.out.1 0
                    have f1 := blk_frozen H9.out.1 1
                    have f2 := blk_frozen H9.out.1 2
                    have f3 := blk_frozen H9.out.1 3
                    have f4 := blk_frozen H9.out.1 4
                    have f5 := blk_frozen H9.out.1 5
                    have f6 := blk_frozen H9.out.1 6
                    have f7 := blk_frozen H9.out.1 7
                    have hst := store8 rn A9 c9 H9.out B0.out
                    refine skip_ (w1 := ?_) (by rfl) rfl ?_ ?_
                    rotate_left
                    · go_simp
                      rfl
                    refine hK.out _ _ ⟨g0, gx, g9, v126, A129, c129, A9, c9, m1_, m5_, m6_, m7_, m8_, m9_, m12_, (by rw [ha.out]; exact putSel_none (v := undef) rfl), hst.1, fun _ h1_ => absurd ((hon 3 (by kernel_rfl)).symm.trans h1_) (by decide), fun _ h1_ => absurd ((hon 6 (by kernel_rfl)).symm.trans h1_) (by decide), fun _ h1_ => absurd ((hon 7 (by kernel_rfl)).symm.trans h1_) (by decide), fun _ h1_ => absurd ((hon 6 (by kernel_rfl)).symm.trans h1_) (by decide), fun _ h1_ => absurd ((up_self b 13).symm.trans h1_) (by decide), fun _ => hst.2, fun _ _ h2_ => absurd ((hon 3 (by kernel_rfl)).symm.trans h2_) (by decide), fun _ _ h2_ => absurd ((hon 6 (by kernel_rfl)).symm.trans h2_) (by decide), Q_X1_, Q_X5_, Q_X6_, Q_X7_, Q_X8_, Q_X9_, Q_X12_⟩
                  refine steps_cons ?_ ?_
                  · rintro b a w' ⟨g0, gx, g9, v126, A129, c129, A9, c9, m1_, m5_, m6_, m7_, m8_, m9_, m12_, ha, Q_B0, Q_O0, Q_O2, Q_O6, Q_G5, Q_H9, Q_HX, Q_N3, Q_N2, Q_X1_, Q_X5_, Q_X6_, Q_X7_, Q_X8_, Q_X9_, Q_X12_⟩ hb_ hon hoff
                    refine ⟨_, rfl, fun K hK => ?_⟩
                    have e132 : a.tmps[132]? = some (.int .i64 (I + 1)) := by rw [ha]; exact putSel_on (e := (10, 132, .int .i64 (I + 1))) 10 rfl rfl (hon 10 (by kernel_rfl)) rfl
                    replace ha := Aside0.mk ha
                    have B0 := Aside0.mk Q_B0
                    have HX := Aside0.mk (Q_HX (hon 13 (by kernel_rfl)))
                    refine value_ (w1 := w') (v := .int .i64 (I + 1)) (by rfl) rfl ?_ ?_
                    · go_simp
                      (try simp only [i64_w])
                      try rfl
                    refine hK.out _ _ ⟨g0, gx, g9, v126, A129, c129, A9, c9, m1_, m5_, m6_, m7_, m8_, m9_, m12_, (by rw [ha.out]; exact putSel_upk 13 hb_ rfl rfl rfl), Q_B0, fun _ h1_ => absurd ((hon 3 (by kernel_rfl)).symm.trans h1_) (by decide), fun _ h1_ => absurd ((hon 6 (by kernel_rfl)).symm.trans h1_) (by decide), fun _ h1_ => absurd ((hon 7 (by kernel_rfl)).symm.trans h1_) (by decide), fun _ h1_ => absurd ((hon 6 (by kernel_rfl)).symm.trans h1_) (by decide), fun _ h1_ => absurd ((hon 13 (by kernel_rfl)).symm.trans h1_) (by decide), Q_HX, fun _ _ h2_ => absurd ((hon 3 (by kernel_rfl)).symm.trans h2_) (by decide), fun _ _ h2_ => absurd ((hon 6 (by kernel_rfl)).symm.trans h2_) (by decide), Q_X1_, Q_X5_, Q_X6_, Q_X7_, Q_X8_, Q_X9_, Q_X12_⟩
                  refine steps_cons ?_ ?_
                  · rintro b a w' ⟨g0, gx, g9, v126, A129, c129, A9, c9, m1_, m5_, m6_, m7_, m8_, m9_, m12_, ha, Q_B0, Q_O0, Q_O2, Q_O6, Q_G5, Q_H9, Q_HX, Q_N3, Q_N2, Q_X1_, Q_X5_, Q_X6_, Q_X7_, Q_X8_, Q_X9_, Q_X12_⟩ hb_ hon hoff
                    refine ⟨_, rfl, fun K hK => ?_⟩
                    have e133 : a.tmps[133]? = some (.bool true) := by rw [ha]; exact putSel_on (e := (11, 133, .bool true)) 11 rfl rfl (hon 11 (by kernel_rfl)) rfl
                    replace ha := Aside0.mk ha
                    have B0 := Aside0.mk Q_B0
                    have HX := Aside0.mk (Q_HX (hon 13 (by kernel_rfl)))
                    refine value_ (w1 := w') (v := .bool true) (by rfl) rfl ?_ ?_
                    · go_simp
                      (try simp only [i64_w])
                      try rfl
                    refine hK.out _ _ ⟨g0, gx, g9, v126, A129, c129, A9, c9, m1_, m5_, m6_, m7_, m8_, m9_, m12_, (by rw [ha.out]; exact putSel_upk 14 hb_ rfl rfl rfl), Q_B0, fun _ h1_ => absurd ((hon 3 (by kernel_rfl)).symm.trans h1_) (by decide), fun _ h1_ => absurd ((hon 6 (by kernel_rfl)).symm.trans h1_) (by decide), fun _ h1_ => absurd ((hon 7 (by kernel_rfl)).symm.trans h1_) (by decide), fun _ h1_ => absurd ((hon 6 (by kernel_rfl)).symm.trans h1_) (by decide), fun _ h1_ => absurd ((hon 13 (by kernel_rfl)).symm.trans h1_) (by decide), Q_HX, fun _ _ h2_ => absurd ((hon 3 (by kernel_rfl)).symm.trans h2_) (by decide), fun _ _ h2_ => absurd ((hon 6 (by kernel_rfl)).symm.trans h2_) (by decide), Q_X1_, Q_X5_, Q_X6_, Q_X7_, Q_X8_, Q_X9_, Q_X12_⟩
                  exact steps_nil
                rintro b a wl hall ⟨g0, gx, g9, v126, A129, c129, A9, c9, m1_, m5_, m6_, m7_, m8_, m9_, m12_, ha, Q_B0, Q_O0, Q_O2, Q_O6, Q_G5, Q_H9, Q_HX, Q_N3, Q_N2, Q_X1_, Q_X5_, Q_X6_, Q_X7_, Q_X8_, Q_X9_, Q_X12_⟩
                clear B0
                have hb0_ := hall 0 (by kernel_rfl)
                have hb1_ := hall 1 (by kernel_rfl)
                have hb2_ := hall 2 (by kernel_rfl)
                have hb3_ := hall 3 (by kernel_rfl)
                have hb4_ := hall 4 (by kernel_rfl)
                have hb5_ := hall 5 (by kernel_rfl)
                have hb6_ := hall 6 (by kernel_rfl)
                have hb7_ := hall 7 (by kernel_rfl)
                have hb8_ := hall 8 (by kernel_rfl)
                have hb9_ := hall 9 (by kernel_rfl)
                have hb10_ := hall 10 (by kernel_rfl)
                have hb11_ := hall 11 (by kernel_rfl)
                have hb12_ := hall 12 (by kernel_rfl)
                have hb13_ := hall 13 (by kernel_rfl)
                have hb14_ := hall 14 (by kernel_rfl)
                have hb15_ := hall 15 (by kernel_rfl)
                subst ha
                obtain rfl := Q_X1_ hb1_
                obtain rfl := Q_X5_ hb5_
                obtain rfl := Q_X6_ hb6_
                obtain rfl := Q_X7_ hb7_
                obtain rfl := Q_X8_ hb8_
                obtain rfl := Q_X9_ hb9_
                obtain rfl := Q_X12_ hb12_
                simp only [putSel, hb0_, hb1_, hb2_, hb3_, hb4_, hb5_, hb6_, hb7_, hb8_, hb9_, hb10_, hb11_, hb12_, hb13_, hb14_, hb15_, if_true, Act.put, List.setIfInBounds_toArray, List.set_cons_zero, List.set_cons_succ]
                have B0 := Aside0.mk Q_B0
                clear Q_B0
                clear Q_O0
                clear Q_O2
                clear Q_O6
                clear Q_G5
                clear Q_H9
                have HX := Aside0.mk (Q_HX hb13_)
                clear Q_HX
                clear Q_N3
                clear Q_N2
                clear hall hb0_ hb1_ hb2_ hb3_ hb4_ hb5_ hb6_ hb7_ hb8_ hb9_ hb10_ hb11_ hb12_ hb13_ hb14_ hb15_
                have BB16 := Aside0.mk (below_then BB9.out BB9.out.size B0.out)
                have HZ16 := Aside0.mk (blk_below HZ9.out B0.out)
                have HD16 := Aside0.mk (blk_below HD9.out B0.out)
                have HO16 := Aside0.mk (pw_own_below HO9.out B0.out)
                have hx16 := blk_below HX9.out B0.out
                have x0 := blk_cell hx16 0
                have xn0 := blk_cell HX.out 0
                rw [show rn.f0 = (k : Int) by rw [HRN.out]; rfl] at xn0
                clear HAP HAQ HN2 HX9 HZ9 HD9 HO9 hx16 BB9 HB90
                go_upto_region 30 with fail
                clear x0 xn0
                have d0 := blk_cell HZ16.out 0
                have d1 := blk_cell HZ16.out 1
                have d2 := blk_cell HZ16.out 2
                have d3 := blk_cell HZ16.out 3
                have f0 := blk_frozen HZ16.out 0
                have f1 := blk_frozen HZ16.out 1
                have f2 := blk_frozen HZ16.out 2
                have f3 := blk_frozen HZ16.out 3
                have c0 := blk_cell HD16.out 0
                have c1 := blk_cell HD16.out 1
                have c2 := blk_cell HD16.out 2
                have c3 := blk_cell HD16.out 3
                go_upto_region 13 with fail
                have hp4 := put4 (g := g6) true false (k : Int) (I + 1) HZ16.out HGS.out BB16.out
                have hne4 : some g6 ≠ (Value.slice A3' all.length c3n).ownBlock := fun e => HNE.out.1 e.symm
                have hO17 := own_setCell (p := ⟨g6, 3, none⟩) (own_setCell (p := ⟨g6, 2, none⟩) (own_setCell (p := ⟨g6, 1, none⟩) (own_setCell (p := ⟨g6, 0, none⟩) HO16.out hne4 (.bool true)) hne4 (.bool false)) hne4 (.int .u64 (k : Int))) hne4 (.int .i64 (I + 1))
                generalize (((wl.setCell ⟨g6, 0, none⟩ (.bool true)).setCell ⟨g6, 1, none⟩ (.bool false)).setCell ⟨g6, 2, none⟩ (.int .u64 (k : Int))).setCell ⟨g6, 3, none⟩ (.int .i64 (I + 1)) = W17 at hp4 hO17 ⊢
                have HO17 := Aside0.mk hO17
                have HB17 := Aside0.mk hp4.1
                have HZ17 := Aside0.mk hp4.2
                have HWN : IntKind.i64.wrap (n - 1) = n - 1 := by have := HNN.out; have := (tot_range HA.out.1.frs).2; have := HA.out.2.1; have := (CurOk.tot HA.out.1 HA.out.2.2.1).1; have := HPOS.out; rw [i64_w]; unfold wrap64; omega
                clear d0 d1 d2 d3 f0 f1 f2 f3 c0 c1 c2 c3 hp4 hO17 hne4 HO16 HZ16 HD16 BB16
                go_wp2_with fail
                go_roundg n.toNat
                case measure => have := HA.out.2.2.2; have := HNN.out; have := HPOS.out; omega
                case rel => exact ⟨all, true, (k : Int), I + 1, by have := HNN.out; rw [show tot all - (I + 1) = n - 1 by omega], ⟨HA.out.1, HA.out.2.1, .inr ⟨rfl, k, p, q, rfl, HK.out.1, by have := HK.out.2.2.2.1; omega, hend.out⟩, by have := HNN.out; have := HPOS.out; omega⟩, HO17, ⟨HNE.out.1, blk_lt HZ17.out⟩, HZ17, HB17⟩
      case pos =>
        have t1 : decide ((i : Int) < (l.length : Int)) = true := decide_eq_true (by omega)
        have t2 : decide (i < l.length) = true := decide_eq_true hi
        have BBW := BB.out
        obtain ⟨ad, Ap, cpp, rfl, hx0, hx1, hx2, hx3, hx4, hx5, hx6, hx7, hlp, hCp⟩ := at_T29 (Kd.C_below HR1.out BBW) (i : Int) (by omega) (by omega)
        obtain ⟨x, hxe⟩ : ∃ x, l[i]? = some x := ⟨_, List.getElem?_eq_getElem hi⟩
        have hrd : rd_T29 l (i : Int) = x := by
          unfold rd_T29
          rw [Int.toNat_natCast, List.getD_eq_getElem?_getD, hxe]
          rfl
        rw [hrd] at hx0 hx1 hx2 hx3 hx4 hx5 hx6 hx7
        rw [Int.toNat_natCast] at hx0 hx1 hx2 hx3 hx4 hx5 hx6 hx7
        have p1 := eq_true (show (0 : Int) ≤ (i : Int) by omega)
        have q1 := eq_true (show (i : Int) < (l.length : Int) by omega)
        have HI2 := Aside0.mk hi
        have HWI : IntKind.i64.wrap ((i : Int) + 1) = ((i + 1 : Nat) : Int) := by rw [i64_w]; unfold wrap64; have := HL40.out; omega
        have HCV : Aside0 (IntKind.u64.wrap (i : Int) = (i : Int)) := ⟨by have := HL40.out; simp [IntKind.wrap, IntKind.bits, IntKind.signed]; omega⟩
        have HLO := Aside0.mk (fun W => low33_calls x.f3 W)
        have HHI := Aside0.mk (fun W => high33_calls x.f3 W)
        have HAQ : Aside0 (∀ W, Below W1.heap.size W1 W → ∀ gx, W.ownsRow W1.heap.size 29 8 u3 i (encP ((allOf l).take i)) → W.heap[gx]? = some (.cells #[.int .u64 (i : Int), .int .u64 0, .int .i64 x.f2, .int .i64 (len33 x.f3), .int .u64 0, .bool x.f5, .int .i64 0, .slice none 0 0] 29 (0, 0)) → ∃ v' w', (Builtin.append_ #[22, 22] 22 #[u3, .slice (some ⟨gx, 0, none⟩) 1 1]).run Try.prog W = .ok v' w' ∧ w'.ownsRow W1.heap.size 29 8 v' (i + 1) (encP ((allOf l).take (i + 1))) ∧ W.grownBy w' u3.ownBlock) := ⟨fun W hW gx ho hz => by
          obtain ⟨v', w', h1, h2, h3, _⟩ := app_own W1.heap.size 22 u3 i _ ho ⟨gx, 0, none⟩ 1 1 (recOf (mk33 i x.f2 (len33 x.f3) x.f5, none, 0)).enc rfl (fun j u hu => by rw [add_plain, blk_cell hz, ← hu]; show ((recOf (mk33 i x.f2 (len33 x.f3) x.f5, none, 0)).enc.toArray)[j]? = _; rw [List.getElem?_toArray]) (enc_one _) (by have := HI2.out; have := HL40.out; omega) hW.size
          exact ⟨v', w', h1, by rw [encP_succ (allOf_at hxe)]; exact h2, h3⟩⟩
        have hz5 := heap_alloc_new wr (.cells #[.int .u64 x.f0, .int .u64 x.f1, .int .i64 x.f2, .int .i64 x.f3, .int .u64 x.f4, .bool x.f5, .int .i64 x.f6, .slice Ap x.f7.length cpp] 29)
        have hb5 := below_alloc BB.out (.cells #[.int .u64 x.f0, .int .u64 x.f1, .int .i64 x.f2, .int .i64 x.f3, .int .u64 x.f4, .bool x.f5, .int .i64 x.f6, .slice Ap x.f7.length cpp] 29)
        have ho5 := World.ownsRow.alloc HO.out (.cells #[.int .u64 x.f0, .int .u64 x.f1, .int .i64 x.f2, .int .i64 x.f3, .int .u64 x.f4, .bool x.f5, .int .i64 x.f6, .slice Ap x.f7.length cpp] 29)
        clear hlp hCp hrd hxe hi BBW
        go_upto_region 8 with fail
        generalize wr.alloc (.cells #[.int .u64 x.f0, .int .u64 x.f1, .int .i64 x.f2, .int .i64 x.f3, .int .u64 x.f4, .bool x.f5, .int .i64 x.f6, .slice Ap x.f7.length cpp] 29) = W5 at hz5 hb5 ho5 ⊢
        generalize wr.heap.size = h5 at hz5 ⊢
        have B0' := B0
        have B0 := Aside0.mk (below_drew hb5)
        have H5 := Aside0.mk (blk_drew hz5)
        have O3 : Aside0 (W5.drew.ownsRow W1.heap.size 29 8 u3 i (encP ((allOf l).take i))) := ⟨World.ownsRow.drew ho5⟩
        clear hz5 hb5 ho5 hx0 hx1 hx2 hx3 hx4 hx5 hx6 hx7 p1 q1 HO BB
        refine start_ (n := 15) (S := fun w' => True) (ds := []) #[false, false, false, false, false, false, false, false, false, false, false, false, false, false, false] (by kernel_rfl) rfl rfl trivial (fun hHeld => ?_)
        refine with_tabW ends8.tab8 ends8.bits8 (fun HT_ HW_ => ?_)
        generalize W5.drew = wq at B0 H5 O3 hHeld ⊢
        refine inv_at [0, 1, 2, 3, 4, 5, 6, 7, 8, 9, 10, 11, 12, 13, 14] (fun a0_ b a w' => ∃ (gx : Nat) (v49 : Value) (m12_ : Value) (m14_ : Value), a = putSel a0_ b [(0, 36, u3), (1, 37, .int .i64 (i : Int)), (2, 38, .int .u64 (i : Int)), (3, 39, .pointer (some ⟨h5, 2, none⟩)), (4, 40, .int .i64 x.f2), (5, 41, .pointer (some ⟨h5, 3, none⟩)), (6, 42, .int .i64 x.f3), (7, 43, .int .i64 (low33 x.f3)), (8, 44, .int .i64 (len33 x.f3)), (9, 45, .pointer (some ⟨h5, 5, none⟩)), (10, 46, .bool x.f5), (11, 47, .agg #[.int .u64 (i : Int), .int .u64 0, .int .i64 x.f2, .int .i64 (len33 x.f3), .int .u64 0, .bool x.f5, .int .i64 0, .slice none 0 0]), (12, 48, m12_), (13, 49, v49), (14, 3, m14_)] ∧ (Below W1.heap.size W1 w') ∧ (b 13 = false → w'.heap[h5]? = some (.cells #[.int .u64 x.f0, .int .u64 x.f1, .int .i64 x.f2, .int .i64 x.f3, .int .u64 x.f4, .bool x.f5, .int .i64 x.f6, .slice Ap x.f7.length cpp] 29 (0, 0))) ∧ (b 13 = false → w'.ownsRow W1.heap.size 29 8 u3 i (encP ((allOf l).take i))) ∧ (b 12 = true → b 13 = false → w'.heap[gx]? = some (.cells #[.int .u64 (i : Int), .int .u64 0, .int .i64 x.f2, .int .i64 (len33 x.f3), .int .u64 0, .bool x.f5, .int .i64 0, .slice none 0 0] 29 (0, 0))) ∧ (b 13 = true → w'.ownsRow W1.heap.size 29 8 v49 (i + 1) (encP ((allOf l).take (i + 1)))) ∧ (b 12 = true → (m12_ : Value) = .slice (some ⟨gx, 0, none⟩) 1 1) ∧ (b 14 = true → (m14_ : Value) = v49)) HT_.out HW_.out (by kernel_rfl) (by kernel_rfl) ?_ ?_ ?_
        · exact ⟨0, .bool false, .bool false, .bool false, by simp only [putSel, Bool.false_eq_true, if_false], B0.out, fun _ => H5.out, fun _ => O3.out, fun h_ => absurd h_ (by decide), fun h_ => absurd h_ (by decide), fun h_ => absurd h_ (by decide), fun h_ => absurd h_ (by decide)⟩
        · skip
          clear B0 H5 O3
          refine steps_cons ?_ ?_
          · rintro b a w' ⟨gx, v49, m12_, m14_, ha, Q_B0, Q_H5, Q_O3, Q_GX, Q_O5, Q_X12_, Q_X14_⟩ hb_ hon hoff
            refine ⟨_, rfl, fun K hK => ?_⟩
            have e3 : a.tmps[3]? = some (u3) := by rw [ha]; exact (putSel_not (hoff 14 (by kernel_rfl)) rfl).trans rfl
            replace ha := Aside0.mk ha
            have B0 := Aside0.mk Q_B0
            have H5 := Aside0.mk (Q_H5 (hoff 13 (by kernel_rfl)))
            have O3 := Aside0.mk (Q_O3 (hoff 13 (by kernel_rfl)))
            refine value_ (w1 := w') (v := u3) (by rfl) rfl ?_ ?_
            · go_simp
              (try simp only [i64_w])
              try rfl
            refine hK.out _ _ ⟨gx, v49, m12_, m14_, (by rw [ha.out]; exact putSel_upk 0 hb_ rfl rfl rfl), Q_B0, Q_H5, Q_O3, Q_GX, fun h0_ => absurd ((hoff 13 (by kernel_rfl)).symm.trans h0_) (by decide), Q_X12_, fun h0_ => absurd ((hoff 14 (by kernel_rfl)).symm.trans h0_) (by decide)⟩
          refine steps_cons ?_ ?_
          · rintro b a w' ⟨gx, v49, m12_, m14_, ha, Q_B0, Q_H5, Q_O3, Q_GX, Q_O5, Q_X12_, Q_X14_⟩ hb_ hon hoff
            refine ⟨_, rfl, fun K hK => ?_⟩
            have e4 : a.tmps[4]? = some (.int .i64 (i : Int)) := by rw [ha]; exact (putSel_off rfl).trans rfl
            replace ha := Aside0.mk ha
            have B0 := Aside0.mk Q_B0
            have H5 := Aside0.mk (Q_H5 (hoff 13 (by kernel_rfl)))
            have O3 := Aside0.mk (Q_O3 (hoff 13 (by kernel_rfl)))
            refine value_ (w1 := w') (v := .int .i64 (i : Int)) (by rfl) rfl ?_ ?_
            · go_simp
              (try simp only [i64_w])
              try rfl
            refine hK.out _ _ ⟨gx, v49, m12_, m14_, (by rw [ha.out]; exact putSel_upk 1 hb_ rfl rfl rfl), Q_B0, Q_H5, Q_O3, fun h0_ _ => absurd ((hoff 12 (by kernel_rfl)).symm.trans h0_) (by decide), fun h0_ => absurd ((hoff 13 (by kernel_rfl)).symm.trans h0_) (by decide), fun h0_ => absurd ((hoff 12 (by kernel_rfl)).symm.trans h0_) (by decide), fun h0_ => absurd ((hoff 14 (by kernel_rfl)).symm.trans h0_) (by decide)⟩
          refine steps_cons ?_ ?_
          · rintro b a w' ⟨gx, v49, m12_, m14_, ha, Q_B0, Q_H5, Q_O3, Q_GX, Q_O5, Q_X12_, Q_X14_⟩ hb_ hon hoff
            refine ⟨_, rfl, fun K hK => ?_⟩
            have e37 : a.tmps[37]? = some (.int .i64 (i : Int)) := by rw [ha]; exact putSel_on (e := (1, 37, .int .i64 (i : Int))) 1 rfl rfl (hon 1 (by kernel_rfl)) rfl
            replace ha := Aside0.mk ha
            have B0 := Aside0.mk Q_B0
            have H5 := Aside0.mk (Q_H5 (hoff 13 (by kernel_rfl)))
            have O3 := Aside0.mk (Q_O3 (hoff 13 (by kernel_rfl)))
            have q_ := HCV.out
            refine value_ (w1 := w') (v := .int .u64 (i : Int)) (by rfl) rfl ?_ ?_
            · go_simp
              (try simp only [i64_w])
              try rfl
            refine hK.out _ _ ⟨gx, v49, m12_, m14_, (by rw [ha.out]; exact putSel_upk 2 hb_ rfl rfl rfl), Q_B0, Q_H5, Q_O3, fun h0_ _ => absurd ((hoff 12 (by kernel_rfl)).symm.trans h0_) (by decide), fun h0_ => absurd ((hoff 13 (by kernel_rfl)).symm.trans h0_) (by decide), fun h0_ => absurd ((hoff 12 (by kernel_rfl)).symm.trans h0_) (by decide), fun h0_ => absurd ((hoff 14 (by kernel_rfl)).symm.trans h0_) (by decide)⟩
          refine steps_cons ?_ ?_
          · rintro b a w' ⟨gx, v49, m12_, m14_, ha, Q_B0, Q_H5, Q_O3, Q_GX, Q_O5, Q_X12_, Q_X14_⟩ hb_ hon hoff
            refine ⟨_, rfl, fun K hK => ?_⟩
            have e5 : a.tmps[5]? = some (.pointer (some ⟨h5, 0, none⟩)) := by rw [ha]; exact (putSel_off rfl).trans rfl
            replace ha := Aside0.mk ha
            have B0 := Aside0.mk Q_B0
            have H5 := Aside0.mk (Q_H5 (hoff 13 (by kernel_rfl)))
            have O3 := Aside0.mk (Q_O3 (hoff 13 (by kernel_rfl)))
            refine value_ (w1 := w') (v := .pointer (some ⟨h5, 2, none⟩)) (by rfl) rfl ?_ ?_
            · go_simp
              (try simp only [i64_w])
              try rfl
            refine hK.out _ _ ⟨gx, v49, m12_, m14_, (by rw [ha.out]; exact putSel_upk 3 hb_ rfl rfl rfl), Q_B0, Q_H5, Q_O3, fun h0_ _ => absurd ((hoff 12 (by kernel_rfl)).symm.trans h0_) (by decide), fun h0_ => absurd ((hoff 13 (by kernel_rfl)).symm.trans h0_) (by decide), fun h0_ => absurd ((hoff 12 (by kernel_rfl)).symm.trans h0_) (by decide), fun h0_ => absurd ((hoff 14 (by kernel_rfl)).symm.trans h0_) (by decide)⟩
          refine steps_cons ?_ ?_
          · rintro b a w' ⟨gx, v49, m12_, m14_, ha, Q_B0, Q_H5, Q_O3, Q_GX, Q_O5, Q_X12_, Q_X14_⟩ hb_ hon hoff
            refine ⟨_, rfl, fun K hK => ?_⟩
            have e39 : a.tmps[39]? = some (.pointer (some ⟨h5, 2, none⟩)) := by rw [ha]; exact putSel_on (e := (3, 39, .pointer (some ⟨h5, 2, none⟩))) 3 rfl rfl (hon 3 (by kernel_rfl)) rfl
            replace ha := Aside0.mk ha
            have B0 := Aside0.mk Q_B0
            have H5 := Aside0.mk (Q_H5 (hoff 13 (by kernel_rfl)))
            have O3 := Aside0.mk (Q_O3 (hoff 13 (by kernel_rfl)))
            have c_ := blk_cell H5.out 2
            refine value_ (w1 := w') (v := .int .i64 x.f2) (by rfl) rfl ?_ ?_
            · go_simp
              (try simp only [i64_w])
              try rfl
            refine hK.out _ _ ⟨gx, v49, m12_, m14_, (by rw [ha.out]; exact putSel_upk 4 hb_ rfl rfl rfl), Q_B0, Q_H5, Q_O3, fun h0_ _ => absurd ((hoff 12 (by kernel_rfl)).symm.trans h0_) (by decide), fun h0_ => absurd ((hoff 13 (by kernel_rfl)).symm.trans h0_) (by decide), fun h0_ => absurd ((hoff 12 (by kernel_rfl)).symm.trans h0_) (by decide), fun h0_ => absurd ((hoff 14 (by kernel_rfl)).symm.trans h0_) (by decide)⟩
          refine steps_cons ?_ ?_
          · rintro b a w' ⟨gx, v49, m12_, m14_, ha, Q_B0, Q_H5, Q_O3, Q_GX, Q_O5, Q_X12_, Q_X14_⟩ hb_ hon hoff
            refine ⟨_, rfl, fun K hK => ?_⟩
            have e5 : a.tmps[5]? = some (.pointer (some ⟨h5, 0, none⟩)) := by rw [ha]; exact (putSel_off rfl).trans rfl
            replace ha := Aside0.mk ha
            have B0 := Aside0.mk Q_B0
            have H5 := Aside0.mk (Q_H5 (hoff 13 (by kernel_rfl)))
            have O3 := Aside0.mk (Q_O3 (hoff 13 (by kernel_rfl)))
            refine value_ (w1 := w') (v := .pointer (some ⟨h5, 3, none⟩)) (by rfl) rfl ?_ ?_
            · go_simp
              (try simp only [i64_w])
              try rfl
            refine hK.out _ _ ⟨gx, v49, m12_, m14_, (by rw [ha.out]; exact putSel_upk 5 hb_ rfl rfl rfl), Q_B0, Q_H5, Q_O3, fun h0_ _ => absurd ((hoff 12 (by kernel_rfl)).symm.trans h0_) (by decide), fun h0_ => absurd ((hoff 13 (by kernel_rfl)).symm.trans h0_) (by decide), fun h0_ => absurd ((hoff 12 (by kernel_rfl)).symm.trans h0_) (by decide), fun h0_ => absurd ((hoff 14 (by kernel_rfl)).symm.trans h0_) (by decide)⟩
          refine steps_cons ?_ ?_
          · rintro b a w' ⟨gx, v49, m12_, m14_, ha, Q_B0, Q_H5, Q_O3, Q_GX, Q_O5, Q_X12_, Q_X14_⟩ hb_ hon hoff
            refine ⟨_, rfl, fun K hK => ?_⟩
            have e41 : a.tmps[41]? = some (.pointer (some ⟨h5, 3, none⟩)) := by rw [ha]; exact putSel_on (e := (5, 41, .pointer (some ⟨h5, 3, none⟩))) 5 rfl rfl (hon 5 (by kernel_rfl)) rfl
            replace ha := Aside0.mk ha
            have B0 := Aside0.mk Q_B0
            have H5 := Aside0.mk (Q_H5 (hoff 13 (by kernel_rfl)))
            have O3 := Aside0.mk (Q_O3 (hoff 13 (by kernel_rfl)))
            have c_ := blk_cell H5.out 3
            refine value_ (w1 := w') (v := .int .i64 x.f3) (by rfl) rfl ?_ ?_
            · go_simp
              (try simp only [i64_w])
              try rfl
            refine hK.out _ _ ⟨gx, v49, m12_, m14_, (by rw [ha.out]; exact putSel_upk 6 hb_ rfl rfl rfl), Q_B0, Q_H5, Q_O3, fun h0_ _ => absurd ((hoff 12 (by kernel_rfl)).symm.trans h0_) (by decide), fun h0_ => absurd ((hoff 13 (by kernel_rfl)).symm.trans h0_) (by decide), fun h0_ => absurd ((hoff 12 (by kernel_rfl)).symm.trans h0_) (by decide), fun h0_ => absurd ((hoff 14 (by kernel_rfl)).symm.trans h0_) (by decide)⟩
          refine steps_cons ?_ ?_
          · rintro b a w' ⟨gx, v49, m12_, m14_, ha, Q_B0, Q_H5, Q_O3, Q_GX, Q_O5, Q_X12_, Q_X14_⟩ hb_ hon hoff
            refine ⟨_, rfl, fun K hK => ?_⟩
            have e42 : a.tmps[42]? = some (.int .i64 x.f3) := by rw [ha]; exact putSel_on (e := (6, 42, .int .i64 x.f3)) 6 rfl rfl (hon 6 (by kernel_rfl)) rfl
            replace ha := Aside0.mk ha
            have B0 := Aside0.mk Q_B0
            have H5 := Aside0.mk (Q_H5 (hoff 13 (by kernel_rfl)))
            have O3 := Aside0.mk (Q_O3 (hoff 13 (by kernel_rfl)))
            refine goes_ Try.func44 (by kernel_rfl) rfl #[.int .i64 x.f3, .int .i64 1500] (by rfl) rfl rfl (by first | (simp only [List.map_toArray, List.map_cons, List.map_nil, Act.eval, Array.getD_eq_getD_getElem?, Option.getD_some, e42]; done) | (simp only [List.map_toArray, List.map_cons, List.map_nil, Act.eval, Array.getD_eq_getD_getElem?, Option.getD_some, e42]; rfl)) ?_
            with_reducible refine (HLO.out _).mono ?_
            rintro e w2 ⟨rfl, hb⟩
            refine ⟨_, rfl, ?_⟩
            refine hK.out _ _ ⟨gx, v49, m12_, m14_, (by rw [ha.out]; exact putSel_upk 7 hb_ rfl rfl rfl), below_then B0.out B0.out.size hb, fun _ => blk_below H5.out hb, fun _ => pw_own_below O3.out hb, fun h0_ _ => absurd ((hoff 12 (by kernel_rfl)).symm.trans h0_) (by decide), fun h0_ => absurd ((hoff 13 (by kernel_rfl)).symm.trans h0_) (by decide), fun h0_ => absurd ((hoff 12 (by kernel_rfl)).symm.trans h0_) (by decide), fun h0_ => absurd ((hoff 14 (by kernel_rfl)).symm.trans h0_) (by decide)⟩
          refine steps_cons ?_ ?_
          · rintro b a w' ⟨gx, v49, m12_, m14_, ha, Q_B0, Q_H5, Q_O3, Q_GX, Q_O5, Q_X12_, Q_X14_⟩ hb_ hon hoff
            refine ⟨_, rfl, fun K hK => ?_⟩
            have e43 : a.tmps[43]? = some (.int .i64 (low33 x.f3)) := by rw [ha]; exact putSel_on (e := (7, 43, .int .i64 (low33 x.f3))) 7 rfl rfl (hon 7 (by kernel_rfl)) rfl
            replace ha := Aside0.mk ha
            have B0 := Aside0.mk Q_B0
            have H5 := Aside0.mk (Q_H5 (hoff 13 (by kernel_rfl)))
            have O3 := Aside0.mk (Q_O3 (hoff 13 (by kernel_rfl)))
            refine goes_ Try.func43 (by kernel_rfl) rfl #[.int .i64 (low33 x.f3), .int .i64 1] (by rfl) rfl rfl (by first | (simp only [List.map_toArray, List.map_cons, List.map_nil, Act.eval, Array.getD_eq_getD_getElem?, Option.getD_some, e43]; done) | (simp only [List.map_toArray, List.map_cons, List.map_nil, Act.eval, Array.getD_eq_getD_getElem?, Option.getD_some, e43]; rfl)) ?_
            with_reducible refine (HHI.out _).mono ?_
            rintro e w2 ⟨rfl, hb⟩
            refine ⟨_, rfl, ?_⟩
            refine hK.out _ _ ⟨gx, v49, m12_, m14_, (by rw [ha.out]; exact putSel_upk 8 hb_ rfl rfl rfl), below_then B0.out B0.out.size hb, fun _ => blk_below H5.out hb, fun _ => pw_own_below O3.out hb, fun h0_ _ => absurd ((hoff 12 (by kernel_rfl)).symm.trans h0_) (by decide), fun h0_ => absurd ((hoff 13 (by kernel_rfl)).symm.trans h0_) (by decide), fun h0_ => absurd ((hoff 12 (by kernel_rfl)).symm.trans h0_) (by decide), fun h0_ => absurd ((hoff 14 (by kernel_rfl)).symm.trans h0_) (by decide)⟩
          refine steps_cons ?_ ?_
          · rintro b a w' ⟨gx, v49, m12_, m14_, ha, Q_B0, Q_H5, Q_O3, Q_GX, Q_O5, Q_X12_, Q_X14_⟩ hb_ hon hoff
            refine ⟨_, rfl, fun K hK => ?_⟩
            have e5 : a.tmps[5]? = some (.pointer (some ⟨h5, 0, none⟩)) := by rw [ha]; exact (putSel_off rfl).trans rfl
            replace ha := Aside0.mk ha
            have B0 := Aside0.mk Q_B0
            have H5 := Aside0.mk (Q_H5 (hoff 13 (by kernel_rfl)))
            have O3 := Aside0.mk (Q_O3 (hoff 13 (by kernel_rfl)))
            refine value_ (w1 := w') (v := .pointer (some ⟨h5, 5, none⟩)) (by rfl) rfl ?_ ?_
            · go_simp
              (try simp only [i64_w])
              try rfl
            refine hK.out _ _ ⟨gx, v49, m12_, m14_, (by rw [ha.out]; exact putSel_upk 9 hb_ rfl rfl rfl), Q_B0, Q_H5, Q_O3, fun h0_ _ => absurd ((hoff 12 (by kernel_rfl)).symm.trans h0_) (by decide), fun h0_ => absurd ((hoff 13 (by kernel_rfl)).symm.trans h0_) (by decide), fun h0_ => absurd ((hoff 12 (by kernel_rfl)).symm.trans h0_) (by decide), fun h0_ => absurd ((hoff 14 (by kernel_rfl)).symm.trans h0_) (by decide)⟩
          refine steps_cons ?_ ?_
          · rintro b a w' ⟨gx, v49, m12_, m14_, ha, Q_B0, Q_H5, Q_O3, Q_GX, Q_O5, Q_X12_, Q_X14_⟩ hb_ hon hoff
            refine ⟨_, rfl, fun K hK => ?_⟩
            have e45 : a.tmps[45]? = some (.pointer (some ⟨h5, 5, none⟩)) := by rw [ha]; exact putSel_on (e := (9, 45, .pointer (some ⟨h5, 5, none⟩))) 9 rfl rfl (hon 9 (by kernel_rfl)) rfl
            replace ha := Aside0.mk ha
            have B0 := Aside0.mk Q_B0
            have H5 := Aside0.mk (Q_H5 (hoff 13 (by kernel_rfl)))
            have O3 := Aside0.mk (Q_O3 (hoff 13 (by kernel_rfl)))
            have c_ := blk_cell H5.out 5
            refine value_ (w1 := w') (v := .bool x.f5) (by rfl) rfl ?_ ?_
            · go_simp
              (try simp only [i64_w])
              try rfl
            refine hK.out _ _ ⟨gx, v49, m12_, m14_, (by rw [ha.out]; exact putSel_upk 10 hb_ rfl rfl rfl), Q_B0, Q_H5, Q_O3, fun h0_ _ => absurd ((hoff 12 (by kernel_rfl)).symm.trans h0_) (by decide), fun h0_ => absurd ((hoff 13 (by kernel_rfl)).symm.trans h0_) (by decide), fun h0_ => absurd ((hoff 12 (by kernel_rfl)).symm.trans h0_) (by decide), fun h0_ => absurd ((hoff 14 (by kernel_rfl)).symm.trans h0_) (by decide)⟩
          refine steps_cons ?_ ?_
          · rintro b a w' ⟨gx, v49, m12_, m14_, ha, Q_B0, Q_H5, Q_O3, Q_GX, Q_O5, Q_X12_, Q_X14_⟩ hb_ hon hoff
            refine ⟨_, rfl, fun K hK => ?_⟩
            have e38 : a.tmps[38]? = some (.int .u64 (i : Int)) := by rw [ha]; exact putSel_on (e := (2, 38, .int .u64 (i : Int))) 2 rfl rfl (hon 2 (by kernel_rfl)) rfl
            have e40 : a.tmps[40]? = some (.int .i64 x.f2) := by rw [ha]; exact putSel_on (e := (4, 40, .int .i64 x.f2)) 4 rfl rfl (hon 4 (by kernel_rfl)) rfl
            have e44 : a.tmps[44]? = some (.int .i64 (len33 x.f3)) := by rw [ha]; exact putSel_on (e := (8, 44, .int .i64 (len33 x.f3))) 8 rfl rfl (hon 8 (by kernel_rfl)) rfl
            have e46 : a.tmps[46]? = some (.bool x.f5) := by rw [ha]; exact putSel_on (e := (10, 46, .bool x.f5)) 10 rfl rfl (hon 10 (by kernel_rfl)) rfl
            replace ha := Aside0.mk ha
            have B0 := Aside0.mk Q_B0
            have H5 := Aside0.mk (Q_H5 (hoff 13 (by kernel_rfl)))
            have O3 := Aside0.mk (Q_O3 (hoff 13 (by kernel_rfl)))
            refine value_ (w1 := w') (v := .agg #[.int .u64 (i : Int), .int .u64 0, .int .i64 x.f2, .int .i64 (len33 x.f3), .int .u64 0, .bool x.f5, .int .i64 0, .slice none 0 0]) (by rfl) rfl ?_ ?_
            · go_simp
              (try simp only [i64_w])
              try rfl
            refine hK.out _ _ ⟨gx, v49, m12_, m14_, (by rw [ha.out]; exact putSel_upk 11 hb_ rfl rfl rfl), Q_B0, Q_H5, Q_O3, fun h0_ _ => absurd ((hoff 12 (by kernel_rfl)).symm.trans h0_) (by decide), fun h0_ => absurd ((hoff 13 (by kernel_rfl)).symm.trans h0_) (by decide), fun h0_ => absurd ((hoff 12 (by kernel_rfl)).symm.trans h0_) (by decide), fun h0_ => absurd ((hoff 14 (by kernel_rfl)).symm.trans h0_) (by decide)⟩
          refine steps_cons ?_ ?_
          · rintro b a w' ⟨gx, v49, m12_, m14_, ha, Q_B0, Q_H5, Q_O3, Q_GX, Q_O5, Q_X12_, Q_X14_⟩ hb_ hon hoff
            refine ⟨_, rfl, fun K hK => ?_⟩
            have e47 : a.tmps[47]? = some (.agg #[.int .u64 (i : Int), .int .u64 0, .int .i64 x.f2, .int .i64 (len33 x.f3), .int .u64 0, .bool x.f5, .int .i64 0, .slice none 0 0]) := by rw [ha]; exact putSel_on (e := (11, 47, .agg #[.int .u64 (i : Int), .int .u64 0, .int .i64 x.f2, .int .i64 (len33 x.f3), .int .u64 0, .bool x.f5, .int .i64 0, .slice none 0 0])) 11 rfl rfl (hon 11 (by kernel_rfl)) rfl
            replace ha := Aside0.mk ha
            have B0 := Aside0.mk Q_B0
            have H5 := Aside0.mk (Q_H5 (hoff 13 (by kernel_rfl)))
            have O3 := Aside0.mk (Q_O3 (hoff 13 (by kernel_rfl)))
            refine value_ (w1 := w'.alloc (Obj.cells #[.int .u64 (i : Int), .int .u64 0, .int .i64 x.f2, .int .i64 (len33 x.f3), .int .u64 0, .bool x.f5, .int .i64 0, .slice none 0 0] 29)) (v := .slice (some ⟨w'.heap.size, 0, none⟩) 1 1) (by rfl) rfl (by first | (go_simp; done) | (go_simp; rfl)) ?_
            have hb := below_alloc (Below.refl w'.heap.size w') (Obj.cells #[.int .u64 (i : Int), .int .u64 0, .int .i64 x.f2, .int .i64 (len33 x.f3), .int .u64 0, .bool x.f5, .int .i64 0, .slice none 0 0] 29)
            refine hK.out _ _ ⟨w'.heap.size, v49, (.slice (some ⟨w'.heap.size, 0, none⟩) 1 1), m14_, (by rw [ha.out]; exact putSel_upk 12 hb_ rfl rfl rfl), below_then B0.out B0.out.size hb, fun _ => blk_below H5.out hb, fun _ => World.ownsRow.alloc (O3.out) _, fun _ _ => heap_alloc_new w' _, fun h0_ => absurd ((hoff 13 (by kernel_rfl)).symm.trans h0_) (by decide), fun _ => rfl, fun h0_ => absurd ((hoff 14 (by kernel_rfl)).symm.trans h0_) (by decide)⟩
          refine steps_cons ?_ ?_
          · rintro b a w' ⟨gx, v49, m12_, m14_, ha, Q_B0, Q_H5, Q_O3, Q_GX, Q_O5, Q_X12_, Q_X14_⟩ hb_ hon hoff
            refine ⟨_, rfl, fun K hK => ?_⟩
            have e36 : a.tmps[36]? = some (u3) := by rw [ha]; exact putSel_on (e := (0, 36, u3)) 0 rfl rfl (hon 0 (by kernel_rfl)) rfl
            have e48 : a.tmps[48]? = some (m12_) := by rw [ha]; exact putSel_on (e := (12, 48, m12_)) 12 rfl rfl (hon 12 (by kernel_rfl)) rfl
            rw [Q_X12_ (hon 12 (by kernel_rfl))] at e48
            replace ha := Aside0.mk ha
            have B0 := Aside0.mk Q_B0
            have H5 := Aside0.mk (Q_H5 hb_)
            have O3 := Aside0.mk (Q_O3 hb_)
            have GX := Aside0.mk (Q_GX (hon 12 (by kernel_rfl)) hb_)
            obtain ⟨v_, w2, hr_, ho_, hg_⟩ := HAQ.out _ B0.out gx O3.out GX.out
            refine app_step (by rfl) rfl rfl e36 e48 hr_ ?_
            refine hK.out _ _ ⟨gx, v_, m12_, m14_, (by rw [ha.out]; exact putSel_upk 13 hb_ rfl rfl rfl), pw_below_grown B0.out _ B0.out.size hg_ (own_base O3.out), fun h0_ => absurd ((up_self b 13).symm.trans h0_) (by decide), fun h0_ => absurd ((up_self b 13).symm.trans h0_) (by decide), fun _ h1_ => absurd ((up_self b 13).symm.trans h1_) (by decide), fun _ => ho_, Q_X12_, fun h0_ => absurd ((hoff 14 (by kernel_rfl)).symm.trans h0_) (by decide)⟩
          refine steps_cons ?_ ?_
          · rintro b a w' ⟨gx, v49, m12_, m14_, ha, Q_B0, Q_H5, Q_O3, Q_GX, Q_O5, Q_X12_, Q_X14_⟩ hb_ hon hoff
            refine ⟨_, rfl, fun K hK => ?_⟩
            have e49 : a.tmps[49]? = some (v49) := by rw [ha]; exact putSel_on (e := (13, 49, v49)) 13 rfl rfl (hon 13 (by kernel_rfl)) rfl
            replace ha := Aside0.mk ha
            have B0 := Aside0.mk Q_B0
            have O5 := Aside0.mk (Q_O5 (hon 13 (by kernel_rfl)))
            refine value_ (w1 := w') (v := v49) (by rfl) rfl ?_ ?_
            · go_simp
              (try simp only [i64_w])
              try rfl
            refine hK.out _ _ ⟨gx, v49, m12_, (v49), (by rw [ha.out]; exact putSel_upk 14 hb_ rfl rfl rfl), Q_B0, fun h0_ => absurd ((hon 13 (by kernel_rfl)).symm.trans h0_) (by decide), fun h0_ => absurd ((hon 13 (by kernel_rfl)).symm.trans h0_) (by decide), fun _ h1_ => absurd ((hon 13 (by kernel_rfl)).symm.trans h1_) (by decide), Q_O5, Q_X12_, fun _ => rfl⟩
          exact steps_nil
        rintro b a wl hall ⟨gx, v49, m12_, m14_, ha, Q_B0, Q_H5, Q_O3, Q_GX, Q_O5, Q_X12_, Q_X14_⟩
        clear B0 H5 O3
        have hb0_ := hall 0 (by kernel_rfl)
        have hb1_ := hall 1 (by kernel_rfl)
        have hb2_ := hall 2 (by kernel_rfl)
        have hb3_ := hall 3 (by kernel_rfl)
        have hb4_ := hall 4 (by kernel_rfl)
        have hb5_ := hall 5 (by kernel_rfl)
        have hb6_ := hall 6 (by kernel_rfl)
        have hb7_ := hall 7 (by kernel_rfl)
        have hb8_ := hall 8 (by kernel_rfl)
        have hb9_ := hall 9 (by kernel_rfl)
        have hb10_ := hall 10 (by kernel_rfl)
        have hb11_ := hall 11 (by kernel_rfl)
        have hb12_ := hall 12 (by kernel_rfl)
        have hb13_ := hall 13 (by kernel_rfl)
        have hb14_ := hall 14 (by kernel_rfl)
        subst ha
        obtain rfl := Q_X12_ hb12_
        obtain rfl := Q_X14_ hb14_
        simp only [putSel, hb0_, hb1_, hb2_, hb3_, hb4_, hb5_, hb6_, hb7_, hb8_, hb9_, hb10_, hb11_, hb12_, hb13_, hb14_, if_true, Act.put, List.setIfInBounds_toArray, List.set_cons_zero, List.set_cons_succ]
        have B0 := Aside0.mk Q_B0
        clear Q_B0
        clear Q_H5
        clear Q_O3
        clear Q_GX
        have O5 := Aside0.mk (Q_O5 hb13_)
        clear Q_O5
        clear hall hb0_ hb1_ hb2_ hb3_ hb4_ hb5_ hb6_ hb7_ hb8_ hb9_ hb10_ hb11_ hb12_ hb13_ hb14_
        go_wp2_with fail
        go_roundg (l.length - i)
        case measure => have := HI.out; have := HI2.out; omega
        case rel => exact ⟨i + 1, by first | rfl | (rw [← i64_w, HWI]) | (simp; unfold wrap64; have := HI2.out; have := HL40.out; omega), ⟨by have := HI2.out; omega, by have := HI.out; have := HI2.out; omega⟩, O5, B0⟩
end Go.Proofs.Ytnopjcakilfepaa.QS
