/- What a device's program and erase do with a page's bytes. -/
import Derived.Test.YtnchdmidaigheaaD4
import Derived.Test.YtnchdmidaigheaaHp8
import Derived.Test.YtnchdmidaigheaaHp5
namespace Go.Proofs.Ytnchdmidaigheaa.ND
set_option linter.unusedVariables false
set_option linter.unusedSimpArgs false
open Go.RowKit Go.Proofs.Ytnchdmidaigheaa.Hp Go.Proofs.YtnchdmidaigheaaW.PrintWords Go.Proofs.YtnchdmidaigheaaW.PrintLast Go.Proofs.YtnchdmidaigheaaW.PrintMore
set_option maxHeartbeats 1000000 in
set_option maxRecDepth 100000 in
theorem prog1_calls {W : World} {hb hm : Nat} {tb tm : Nat} {Ab Am A0 : Option Addr} {cb cm c0 : Nat} {l m o : List Int} (hzb : W.heap[hb]? = some (.cells #[.slice Ab l.length cb] tb (0, 0))) (hzm : W.heap[hm]? = some (.cells #[.slice Am m.length cm] tm (0, 0)))
    (hl : isBytes l ∧ l.length ≤ cb) (hm' : isBytes m ∧ m.length ≤ cm) (ho : isBytes o ∧ o.length = 256) (hc0 : 256 ≤ c0) (gl : Kd.C (Kd.int .u8) W Ab l.length l) (gm : Kd.C (Kd.int .u8) W Am m.length m) (go : Kd.C (Kd.int .u8) W A0 256 o) (ok : Nat → Prop) :
    Calls Try.prog 70 (#[.slice A0 256 c0] ++ #[.pointer (some ⟨hb, 0, none⟩), .pointer (some ⟨hm, 0, none⟩)]) W fun e w' => ∃ A c, e = .returned (.slice A 256 c) ∧ 256 ≤ c ∧ Kd.F (Kd.int .u8) w' (newer W ok) A 256 (progRow o l m) ∧ Below W.heap.size W w' := by
  have x0 := blk_cell hzb 0
  have x1 := blk_cell hzm 0
  have hP := zeros_Program.calls A0 c0 o Ab cb l Am cm m (progRow o l m) W (by rw [ho.2]; exact go) (by rw [ho.2]; exact hc0) gl hl.2 gm hm'.2 (by unfold zeros_Program.f; rw [if_pos ⟨ho.1, hl.1, hm'.1, by rw [ho.2]; omega⟩])
  have hlen : (progRow o l m).length = 256 := (progRow_ok ho.1 ho.2).2
  rw [ho.2] at hP
  have HP := Aside0.mk hP
  clear hP hzb hzm hl hm' gl gm go ho hc0
  show Calls Try.prog 70 #[.slice A0 256 c0, .pointer (some ⟨hb, 0, none⟩), .pointer (some ⟨hm, 0, none⟩)] W _
  go_enter Try.func70, Try.ntmps70
  go_wp2_with (go_at_call 71; refine HP.out.mono ?_; rintro e w2 ⟨v, rfl, hR, hb⟩; have HR := Aside0.mk (And.intro hR hb); clear hR hb)
  go_ret
  obtain ⟨A, c, rfl, hc, hF⟩ := fresh_F HR.out.1 ok
  rw [hlen] at hc hF ⊢
  exact ⟨A, c, rfl, hc, hF, HR.out.2⟩
set_option maxHeartbeats 1000000 in
set_option maxRecDepth 100000 in
theorem erase1_calls {W : World} {hm : Nat} {tm : Nat} {Am A0 : Option Addr} {cm c0 : Nat} {m o : List Int} (hzm : W.heap[hm]? = some (.cells #[.slice Am m.length cm] tm (0, 0)))
    (hm' : isBytes m ∧ m.length ≤ cm) (ho : isBytes o ∧ o.length = 256) (hc0 : 256 ≤ c0) (gm : Kd.C (Kd.int .u8) W Am m.length m) (go : Kd.C (Kd.int .u8) W A0 256 o) (ok : Nat → Prop) :
    Calls Try.prog 66 (#[.slice A0 256 c0] ++ #[.pointer (some ⟨hm, 0, none⟩)]) W fun e w' => ∃ A c, e = .returned (.slice A 256 c) ∧ 256 ≤ c ∧ Kd.F (Kd.int .u8) w' (newer W ok) A 256 (wipeRow o m) ∧ Below W.heap.size W w' := by
  have x1 := blk_cell hzm 0
  have hP := zeros_Erase.calls A0 c0 o Am cm m (wipeRow o m) W (by rw [ho.2]; exact go) (by rw [ho.2]; exact hc0) gm hm'.2 (by unfold zeros_Erase.f; rw [if_pos ⟨ho.1, hm'.1, by rw [ho.2]; omega⟩])
  have hlen : (wipeRow o m).length = 256 := (wipeRow_ok ho.1 hm'.1 ho.2).2
  rw [ho.2] at hP
  have HP := Aside0.mk hP
  clear hP hzm hm' gm go ho hc0
  show Calls Try.prog 66 #[.slice A0 256 c0, .pointer (some ⟨hm, 0, none⟩)] W _
  go_enter Try.func66, Try.ntmps66
  go_wp2_with (go_at_call 67; refine HP.out.mono ?_; rintro e w2 ⟨v, rfl, hR, hb⟩; have HR := Aside0.mk (And.intro hR hb); clear hR hb)
  go_ret
  obtain ⟨A, c, rfl, hc, hF⟩ := fresh_F HR.out.1 ok
  rw [hlen] at hc hF ⊢
  exact ⟨A, c, rfl, hc, hF, HR.out.2⟩
end Go.Proofs.Ytnchdmidaigheaa.ND
