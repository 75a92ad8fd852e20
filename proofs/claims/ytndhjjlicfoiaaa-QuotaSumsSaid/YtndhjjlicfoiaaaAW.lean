/- What must come at any rate (layer 28): the walk by hand. -/
import Derived.Test.YtndhjjlicfoiaaaND
import Derived.Test.YtndhjjlicfoiaaaHp3
namespace Go.Proofs.Ytndhjjlicfoiaaa.QS
set_option linter.unusedVariables false
set_option linter.unusedSimpArgs false
open Go.RowKit Go.Proofs.Ytndhjjlicfoiaaa.SS Go.Proofs.Ytndhjjlicfoiaaa.QU Go.Proofs.Ytndhjjlicfoiaaa.Hp Go.Proofs.YtndhjjlicfoiaaaW.PrintWords Go.Proofs.YtndhjjlicfoiaaaW.PrintLast Go.Proofs.YtndhjjlicfoiaaaW.PrintMore
def awR : S38 := ⟨7, 0, 1, 300, 0, false, 0, []⟩
theorem aw_light : lightL [awR] := ⟨by decide, fun x hx => by rw [List.mem_singleton.1 hx]; decide⟩
theorem aw_needed : neededOf [awR] 400 5 = [7] := by decide +kernel
/-- block g holds that one record -/
def AwB (W : World) (g : Nat) : Prop := W.heap[g]? = some (.cells #[.int .u64 7, .int .u64 0, .int .i64 1, .int .i64 300, .int .u64 0, .bool false, .int .i64 0, .slice none 0 0] 38 (0, 0))
theorem AwB.below {W W' : World} {g : Nat} (h : AwB W g) (hb : Below W.heap.size W W') : AwB W' g := blk_below h hb
theorem light_pos {l : List S38} {α : Type} {a b : α} (h : lightL l) : (if l.length ≤ 1000 ∧ (∀ x ∈ l, -9223372036854775808 ≤ x.f3 ∧ x.f3 ≤ 100000) then a else b) = a := if_pos h
theorem aw_reads {W : World} {g : Nat} (h : AwB W g) : Kd.C k38 W (some ⟨g, 0, none⟩) [awR].length [awR] := by
  refine reads_row (ps := [(awR, none, 0)]) (g := g) ⟨_, h, fun j x hx i hi => ?_⟩ (fun p hp => ?_) (by decide) 0 (by decide) _ (fun _ => by simp)
  · match j, hx with
    | 0, hx =>
      obtain rfl := Option.some.inj hx
      have hi8 : i = 0 ∨ i = 1 ∨ i = 2 ∨ i = 3 ∨ i = 4 ∨ i = 5 ∨ i = 6 ∨ i = 7 := by omega
      rcases hi8 with rfl | rfl | rfl | rfl | rfl | rfl | rfl | rfl <;> rfl
    | j + 1, hx => simp at hx
  · rw [List.mem_singleton.1 hp]
    exact ⟨Nat.le_refl _, Kd.C_nil _ _⟩
set_option maxHeartbeats 4000000 in
set_option maxRecDepth 100000 in
theorem awake_calls (w : World) : Calls Try.prog 7 #[] w fun e w' => e = .returned (.bool true) ∧ Below w.heap.size w w' := by
  have HB := Aside0.mk (Below.refl w.heap.size w)
  go_enter Try.func7, Try.ntmps7
  go_upto_region 2 with fail
  have L1 : AwB (w.alloc (.cells #[.int .u64 7, .int .u64 0, .int .i64 1, .int .i64 300, .int .u64 0, .bool false, .int .i64 0, .slice none 0 0] 38)) w.heap.size := heap_alloc_new w (.cells #[.int .u64 7, .int .u64 0, .int .i64 1, .int .i64 300, .int .u64 0, .bool false, .int .i64 0, .slice none 0 0] 38)
  have hb1 := below_alloc HB.out (.cells #[.int .u64 7, .int .u64 0, .int .i64 1, .int .i64 300, .int .u64 0, .bool false, .int .i64 0, .slice none 0 0] 38)
  generalize w.alloc (.cells #[.int .u64 7, .int .u64 0, .int .i64 1, .int .i64 300, .int .u64 0, .bool false, .int .i64 0, .slice none 0 0] 38) = w1 at L1 hb1 ⊢
  have HNE := Aside0.mk (needed_calls [awR] aw_light (some ⟨w.heap.size, 0, none⟩) 1 (Nat.le_refl _) 400 5 w1 (aw_reads L1))
  rw [aw_needed] at HNE
  replace L1 := Aside0.mk L1
  replace hb1 := Aside0.mk hb1
  clear HB
  go_upto_region 3 with (go_at_call 15; refine HNE.out.mono ?_; rintro e W0 ⟨v2, rfl, hR2, hb2⟩)
  obtain ⟨A2, cN, rfl, hcN, hC2⟩ := Kd.R_reads hR2
  obtain ⟨ad, rfl, hcell⟩ := (Kd.reads_of_C (d := (0 : Int)) hC2).2.2 (by decide)
  have hcell0 : W0.cell? ad = some (.int .u64 7) := by have := hcell 0 (by decide); rwa [show ad.add 0 = ad from rfl] at this
  have HCN : Aside0 (∀ W, Below W0.heap.size W0 W → W.cell? ad = some (.int .u64 7)) := ⟨fun W hW => pw_cell_below hW hcell0⟩
  have L0 : Aside0 (AwB W0 w.heap.size) := ⟨L1.out.below hb2⟩
  have HW := Aside0.mk (below_then hb1.out hb1.out.size hb2)
  have B0 := Aside0.mk (Below.refl W0.heap.size W0)
  have HSUM : Aside0 (∀ W : World, AwB W w.heap.size → Calls Try.prog 10 #[.slice (some ⟨w.heap.size, 0, none⟩) 1 1] W fun e w' => e = .returned (.int .i64 3) ∧ Below W.heap.size W w') := ⟨fun W h => quota_Sum.calls (some ⟨w.heap.size, 0, none⟩) 1 [awR] 3 W (aw_reads h) (Nat.le_refl _) (by unfold quota_Sum.f; rw [light_pos aw_light]; decide +kernel)⟩
  have HUSE : Aside0 (∀ W : World, AwB W w.heap.size → Calls Try.prog 8 #[.slice (some ⟨w.heap.size, 0, none⟩) 1 1] W fun e w' => e = .returned (.agg #[.int .i64 0, .int .i64 3, .int .i64 0]) ∧ Below W.heap.size W w') := ⟨fun W h => used_calls [awR] aw_light (some ⟨w.heap.size, 0, none⟩) 1 (Nat.le_refl _) W (aw_reads h)⟩
  have HLEFT : Aside0 (∀ W : World, AwB W w.heap.size → Calls Try.prog 11 #[.slice (some ⟨w.heap.size, 0, none⟩) 1 1, .int .i64 5] W fun e w' => e = .returned (.int .i64 2) ∧ Below W.heap.size W w') := ⟨fun W h => quota_Left.calls (some ⟨w.heap.size, 0, none⟩) 1 [awR] 5 2 W (aw_reads h) (Nat.le_refl _) (by rw [left_val _ aw_light]; decide +kernel)⟩
  have HMOST : Aside0 (∀ W : World, AwB W w.heap.size → Calls Try.prog 14 #[.slice (some ⟨w.heap.size, 0, none⟩) 1 1, .int .i64 5] W fun e w' => e = .returned (.int .i64 228) ∧ Below W.heap.size W w') := ⟨fun W h => quota_Most.calls (some ⟨w.heap.size, 0, none⟩) 1 [awR] 5 228 W (aw_reads h) (Nat.le_refl _) (by unfold quota_Most.f; rw [left_val _ aw_light]; decide +kernel)⟩
  have HMAY1 : Aside0 (∀ W : World, AwB W w.heap.size → Calls Try.prog 12 #[.slice (some ⟨w.heap.size, 0, none⟩) 1 1, .int .i64 228, .int .i64 5] W fun e w' => e = .returned (.int .i64 0) ∧ Below W.heap.size W w') := ⟨fun W h => by have := may_calls [awR] aw_light (some ⟨w.heap.size, 0, none⟩) 1 (Nat.le_refl _) 228 5 W (aw_reads h); rwa [show mayE [awR] 228 5 = 0 by decide +kernel] at this⟩
  have HMAY2 : Aside0 (∀ W : World, AwB W w.heap.size → Calls Try.prog 12 #[.slice (some ⟨w.heap.size, 0, none⟩) 1 1, .int .i64 229, .int .i64 5] W fun e w' => e = .returned (.int .i64 13) ∧ Below W.heap.size W w') := ⟨fun W h => by have := may_calls [awR] aw_light (some ⟨w.heap.size, 0, none⟩) 1 (Nat.le_refl _) 229 5 W (aw_reads h); rwa [show mayE [awR] 229 5 = 13 by decide +kernel] at this⟩
  have heq : ∀ W, Sem.run Try.prog (Op.equalIn 10000 25 (.agg #[.int .i64 0, .int .i64 3, .int .i64 0]) (.agg #[.int .i64 0, .int .i64 3, .int .i64 0])) W = .ok true W := fun W => by kernel_rfl
  have hp0 := trivial
  have hq0 := trivial
  clear hR2 hC2 hcell hcell0 hb2 hb1 L1 HNE
  go_wp2_with (first | (go_at_call 10; (with_reducible refine (HSUM.out _ L0.out).mono ?_); rintro e w2 ⟨rfl, hb⟩; replace B0 := Aside0.mk (below_then B0.out B0.out.size hb); replace L0 := Aside0.mk (L0.out.below hb); have c0 := HCN.out _ B0.out; clear hb) | (go_at_call 8; (with_reducible refine (HUSE.out _ L0.out).mono ?_); rintro e w2 ⟨rfl, hb⟩; replace B0 := Aside0.mk (below_then B0.out B0.out.size hb); replace L0 := Aside0.mk (L0.out.below hb); have c0 := HCN.out _ B0.out; clear hb) | (go_at_call 11; (with_reducible refine (HLEFT.out _ L0.out).mono ?_); rintro e w2 ⟨rfl, hb⟩; replace B0 := Aside0.mk (below_then B0.out B0.out.size hb); replace L0 := Aside0.mk (L0.out.below hb); have c0 := HCN.out _ B0.out; clear hb) | (go_at_call 14; (with_reducible refine (HMOST.out _ L0.out).mono ?_); rintro e w2 ⟨rfl, hb⟩; replace B0 := Aside0.mk (below_then B0.out B0.out.size hb); replace L0 := Aside0.mk (L0.out.below hb); have c0 := HCN.out _ B0.out; clear hb) | (go_at_call 12; (with_reducible refine (HMAY1.out _ L0.out).mono ?_); rintro e w2 ⟨rfl, hb⟩; replace B0 := Aside0.mk (below_then B0.out B0.out.size hb); replace L0 := Aside0.mk (L0.out.below hb); have c0 := HCN.out _ B0.out; clear hb) | (go_at_call 12; (with_reducible refine (HMAY2.out _ L0.out).mono ?_); rintro e w2 ⟨rfl, hb⟩; replace B0 := Aside0.mk (below_then B0.out B0.out.size hb); replace L0 := Aside0.mk (L0.out.below hb); have c0 := HCN.out _ B0.out; clear hb))
  go_ret
  exact ⟨rfl, below_then HW.out HW.out.size B0.out⟩
end Go.Proofs.Ytndhjjlicfoiaaa.QS
