/- A nil device does nothing. -/
import Derived.Test.YtnchdmidaigheaaD11
namespace Go.Proofs.Ytnchdmidaigheaa.ND
set_option linter.unusedVariables false
set_option linter.unusedSimpArgs false
open Go.RowKit Go.Proofs.Ytnchdmidaigheaa.Hp Go.Proofs.YtnchdmidaigheaaW.PrintWords Go.Proofs.YtnchdmidaigheaaW.PrintLast Go.Proofs.YtnchdmidaigheaaW.PrintMore
set_option maxHeartbeats 1000000 in
set_option maxRecDepth 100000 in
theorem nil_there (W : World) (b : Int) : Calls Try.prog 62 #[.pointer none, .int .i64 b] W fun e w' => e = .returned (.bool false) ∧ Below W.heap.size W w' := by
  have B0 := Aside0.mk (Below.refl W.heap.size W)
  go_enter Try.func62, Try.ntmps62
  go_wp2_with fail
  go_ret
  exact ⟨rfl, B0.out⟩
set_option maxHeartbeats 1000000 in
set_option maxRecDepth 100000 in
theorem nil_up (W : World) : Calls Try.prog 63 #[.pointer none] W fun e w' => e = .returned (.int .i64 1) ∧ Below W.heap.size W w' := by
  have B0 := Aside0.mk (Below.refl W.heap.size W)
  go_enter Try.func63, Try.ntmps63
  go_wp2_with fail
  go_ret
  exact ⟨rfl, B0.out⟩
set_option maxHeartbeats 1000000 in
set_option maxRecDepth 100000 in
theorem nil_down (W : World) : Calls Try.prog 29 #[.pointer none] W fun e w' => e = .returned (.bool false) ∧ Below W.heap.size W w' := by
  have B0 := Aside0.mk (Below.refl W.heap.size W)
  go_enter Try.func29, Try.ntmps29
  go_wp2_with fail
  go_ret
  exact ⟨rfl, B0.out⟩
set_option maxHeartbeats 1000000 in
set_option maxRecDepth 100000 in
theorem nil_ops (W : World) : Calls Try.prog 32 #[.pointer none] W fun e w' => e = .returned (.int .i64 0) ∧ Below W.heap.size W w' := by
  have B0 := Aside0.mk (Below.refl W.heap.size W)
  go_enter Try.func32, Try.ntmps32
  go_wp2_with fail
  go_ret
  exact ⟨rfl, B0.out⟩
set_option maxHeartbeats 1000000 in
set_option maxRecDepth 100000 in
theorem nil_power (W : World) : Calls Try.prog 19 #[.pointer none] W fun e w' => e = .returned (.tuple #[]) ∧ Below W.heap.size W w' := by
  have B0 := Aside0.mk (Below.refl W.heap.size W)
  go_enter Try.func19, Try.ntmps19
  go_wp2_with fail
  go_end0
  exact ⟨rfl, B0.out⟩
set_option maxHeartbeats 1000000 in
set_option maxRecDepth 100000 in
theorem nil_marked (W : World) (b : Int) : Calls Try.prog 30 #[.pointer none, .int .i64 b] W fun e w' => e = .returned (.bool false) ∧ Below W.heap.size W w' := by
  go_enter Try.func30, Try.ntmps30
  go_wp2_with (go_at_call 62; refine (nil_there _ b).mono ?_; rintro e w2 ⟨rfl, hb⟩; have B0 := Aside0.mk hb; clear hb)
  go_ret
  exact ⟨rfl, B0.out⟩
set_option maxHeartbeats 1000000 in
set_option maxRecDepth 100000 in
theorem nil_next (W : World) (b : Int) : Calls Try.prog 15 #[.pointer none, .int .i64 b] W fun e w' => e = .returned (.int .i64 0) ∧ Below W.heap.size W w' := by
  go_enter Try.func15, Try.ntmps15
  go_wp2_with (go_at_call 62; refine (nil_there _ b).mono ?_; rintro e w2 ⟨rfl, hb⟩; have B0 := Aside0.mk hb; clear hb)
  go_ret
  exact ⟨rfl, B0.out⟩
set_option maxHeartbeats 1000000 in
set_option maxRecDepth 100000 in
theorem nil_wear (W : World) (b : Int) : Calls Try.prog 31 #[.pointer none, .int .i64 b] W fun e w' => e = .returned (.int .i64 0) ∧ Below W.heap.size W w' := by
  go_enter Try.func31, Try.ntmps31
  go_wp2_with (go_at_call 62; refine (nil_there _ b).mono ?_; rintro e w2 ⟨rfl, hb⟩; have B0 := Aside0.mk hb; clear hb)
  go_ret
  exact ⟨rfl, B0.out⟩
set_option maxHeartbeats 1000000 in
set_option maxRecDepth 100000 in
theorem nil_erase (W : World) (b : Int) : Calls Try.prog 16 #[.pointer none, .int .i64 b] W fun e w' => e = .returned (.int .i64 1) ∧ Below W.heap.size W w' := by
  go_enter Try.func16, Try.ntmps16
  go_wp2_with (go_at_call 63; refine (nil_up _).mono ?_; rintro e w2 ⟨rfl, hb⟩; have B0 := Aside0.mk hb; clear hb)
  go_ret
  exact ⟨rfl, B0.out⟩
set_option maxHeartbeats 1000000 in
set_option maxRecDepth 100000 in
theorem nil_program (W : World) (b p : Int) (A : Option Addr) (n c : Nat) : Calls Try.prog 17 #[.pointer none, .agg #[.int .i64 b, .int .i64 p], .slice A n c] W fun e w' => e = .returned (.int .i64 1) ∧ Below W.heap.size W w' := by
  have hb5 := Aside0.mk (below_alloc (below_alloc (Below.refl W.heap.size W) (.cells #[.int .i64 b, .int .i64 p] 37)) (.cells #[.slice A n c] 38))
  go_enter Try.func17, Try.ntmps17
  go_wp2_with (go_at_call 63; refine (nil_up _).mono ?_; rintro e w2 ⟨rfl, hb⟩; have B0 := Aside0.mk (below_then hb5.out hb5.out.size hb); clear hb)
  go_ret
  exact ⟨rfl, B0.out⟩
set_option maxHeartbeats 1000000 in
set_option maxRecDepth 100000 in
theorem nil_read (W : World) (b p : Int) : Calls Try.prog 21 #[.pointer none, .agg #[.int .i64 b, .int .i64 p]] W fun e w' => e = .returned (.tuple #[.slice none 0 0, .int .i64 1]) ∧ Below W.heap.size W w' := by
  have hb5 := Aside0.mk (below_alloc (Below.refl W.heap.size W) (.cells #[.int .i64 b, .int .i64 p] 37))
  go_enter Try.func21, Try.ntmps21
  go_wp2_with (go_at_call 63; refine (nil_up _).mono ?_; rintro e w2 ⟨rfl, hb⟩; have B0 := Aside0.mk (below_then hb5.out hb5.out.size hb); clear hb)
  go_ret2
  exact ⟨rfl, B0.out⟩
set_option maxHeartbeats 1000000 in
set_option maxRecDepth 100000 in
theorem nil_sides (W : World) : Calls Try.prog 23 #[.pointer none] W fun e w' => e = .returned (.agg #[.int .i64 0, .int .i64 0, .int .i64 0]) ∧ Below W.heap.size W w' := by
  have hz1 := heap_alloc_new W (.cells #[.int .i64 0, .int .i64 0, .int .i64 0] 23)
  have hb1 := below_alloc (Below.refl W.heap.size W) (.cells #[.int .i64 0, .int .i64 0, .int .i64 0] 23)
  obtain ⟨g, hg⟩ : ∃ g, g = W.heap.size := ⟨_, rfl⟩
  go_enter Try.func23, Try.ntmps23
  go_upto_region 1 with fail
  generalize W.alloc (.cells #[.int .i64 0, .int .i64 0, .int .i64 0] 23) = W2 at hz1 hb1 ⊢
  rw [← hg] at hz1 ⊢
  have h1 := blk_put hz1 0 (.int .i64 0) (cs' := #[.int .i64 0, .int .i64 0, .int .i64 0]) rfl
  have h2 := blk_put h1 1 (.int .i64 0) (cs' := #[.int .i64 0, .int .i64 0, .int .i64 0]) rfl
  have h3 := blk_put h2 2 (.int .i64 0) (cs' := #[.int .i64 0, .int .i64 0, .int .i64 0]) rfl
  have HST := Aside0.mk h3
  have HB := Aside0.mk (((hb1.setCell (p := ⟨g, 0, none⟩) (Nat.le_of_eq hg.symm) (.int .i64 0)).setCell (p := ⟨g, 1, none⟩) (Nat.le_of_eq hg.symm) (.int .i64 0)).setCell (p := ⟨g, 2, none⟩) (Nat.le_of_eq hg.symm) (.int .i64 0))
  have d0 := blk_cell hz1 0
  have d1 := blk_cell hz1 1
  have d2 := blk_cell hz1 2
  have f0 := blk_frozen hz1 0
  have f1 := blk_frozen hz1 1
  have f2 := blk_frozen hz1 2
  clear h1 h2 h3 hb1 hz1 hg
  go_wp2_with fail
  (try simp only [Exit.inBlock, Exit.then])
  refine bodyPost_ret (results_c rfl _ _ g 23 _ (0, 0) _ rfl HST.out Try.underlying23 rfl (by kernel_rfl)) rfl ?_
  exact ⟨rfl, HB.out⟩
end Go.Proofs.Ytnchdmidaigheaa.ND
