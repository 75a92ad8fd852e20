-- Laid by this workplace's own program hprint.py (functions marked by hand are ours; the others are printed out of the translation). Not trusted: Lean checks it.
import Derived.Test.YtmlkkdopogcggaaHp0
import Derived.Test.YtmlkkdopogcggaaHp19
import Derived.Test.YtmlkkdopogcggaaHp28
import Derived.Test.YtmlkkdopogcggaaHp37
import Derived.Test.YtmlkkdopogcggaaHp40
import Derived.Test.YtmlkkdopogcggaaHp41
import Derived.Test.YtmlkkdopogcggaaHp46
import Derived.Test.YtmlkkdopogcggaaPGC
import Derived.Test.YtmlkkdopogcggaaPC
namespace Go.Proofs.Ytmlkkdopogcggaa.Hp
open Go.RowKit Go.Proofs.YtmlkkdopogcggaaW.PrintWords Go.Proofs.YtmlkkdopogcggaaW.PrintLast Go.Proofs.YtmlkkdopogcggaaW.PrintMore
attribute [local go_sem] max2_int min2_int max_two min_two max_three min_three max_four min_four   -- for this text's walks alone
set_option linter.unusedVariables false
set_option linter.unusedSimpArgs false

/-! ### wagtaillaw15_PageReopens: function 12 -/
-- a function whose text and proof are by hand
-- IMPORT PGC
-- IMPORT PC
def wagtaillaw15_PageReopens.f (k i c b o l n : Int) (d : ByteArray) (op : Int) (x : List Int) : Option Bool := if (0 ≤ b ∧ 0 ≤ o ∧ 0 ≤ op) ∧ isBytes x then some true else none
theorem wagtaillaw15_PageReopens.two_rows {W : World} {g : Nat} {t : TypeId} {A1 A2 : Option Addr} {x1 x2 : List Int} {c1 c2 : Nat} (hz : W.heap[g]? = some (.cells #[.slice A1 x1.length c1, .slice A2 x2.length c2] t (0, 0))) (h1 : x1.length ≤ c1) (h2 : x2.length ≤ c2) (hC1 : Kd.C (Kd.int .u8) W A1 x1.length x1) (hC2 : Kd.C (Kd.int .u8) W A2 x2.length x2) :
    Kd.C (Kd.slice 5 (Kd.int .u8)) W (some ⟨g, 0, none⟩) 2 [x1, x2] := by
  refine ⟨rfl, by omega, fun _ => ⟨_, rfl, fun j p hj => ?_⟩⟩
  have hj2 : j < 2 := by have := (List.getElem?_eq_some_iff.1 hj).1; simpa using this
  have e : ∀ i : Nat, W.cell? ((⟨g, 0, none⟩ : Addr).add i) = (#[.slice A1 x1.length c1, .slice A2 x2.length c2] : Array Value)[i]? := fun i => by rw [add_plain]; have := blk_cell hz i; simpa using this
  have hcase : j = 0 ∨ j = 1 := by omega
  rcases hcase with rfl | rfl
  · have hp : x1 = p := by simpa using hj
    subst hp
    refine ⟨[.slice A1 x1.length c1], rfl, ⟨A1, c1, rfl, h1, hC1⟩, fun i u hu => ?_⟩
    cases i with
    | zero =>
      have : Value.slice A1 x1.length c1 = u := by simpa using hu
      subst this
      exact (e 0).trans rfl
    | succ i => simp at hu
  · have hp : x2 = p := by simpa using hj
    subst hp
    refine ⟨[.slice A2 x2.length c2], rfl, ⟨A2, c2, rfl, h2, hC2⟩, fun i u hu => ?_⟩
    cases i with
    | zero =>
      have : Value.slice A2 x2.length c2 = u := by simpa using hu
      subst this
      exact (e 1).trans rfl
    | succ i => simp at hu
theorem wagtaillaw15_PageReopens.cnt2 (x y : List Int) (j : Int) : PG.cnt [x, y] j = (if PG.cls x = j then 1 else 0) + (if PG.cls y = j then 1 else 0) := by
  unfold PG.cnt
  by_cases h1 : PG.cls x = j <;> by_cases h2 : PG.cls y = j <;> simp [h1, h2]
theorem wagtaillaw15_PageReopens.ones_cls : PG.cls (List.replicate 256 255) = 0 := by
  unfold PG.cls
  rw [if_pos (by rw [List.length_replicate]), if_pos rfl]
theorem wagtaillaw15_PageReopens.seal_calls (l : List Int) (hb : isBytes l) (hl : l.length = 252) (A : Option Addr) (c : Nat) (hc : l.length ≤ c) (W : World) (hC : Kd.C (Kd.int .u8) W A l.length l) :
    Calls Try.prog 48 #[.slice A l.length c] W fun e w' => ∃ As cs, e = .returned (.slice As 256 cs) ∧ 256 ≤ cs ∧ Kd.C (Kd.int .u8) w' As 256 (l ++ beBytes 4 (zsum l)) ∧ Below W.heap.size W w' := by
  obtain ⟨K, hK⟩ := PG.seal_ev l hb hl
  have hlen : (l ++ beBytes 4 (zsum l)).length = 256 := by rw [List.length_append, beBytes_len]; omega
  refine (page_Seal.calls K A c l _ W hC hc (hK K (Nat.le_refl _))).mono ?_
  rintro e w' ⟨v, rfl, hr, hb2⟩
  obtain ⟨As, cs, rfl, hle, hCs⟩ := Kd.R_reads hr
  rw [hlen] at hle hCs ⊢
  exact ⟨As, cs, rfl, hle, hCs, hb2⟩
theorem wagtaillaw15_PageReopens.seal_none (l : List Int) (hl : l.length ≠ 252) (A : Option Addr) (c : Nat) (hc : l.length ≤ c) (W : World) (hC : Kd.C (Kd.int .u8) W A l.length l) :
    Calls Try.prog 48 #[.slice A l.length c] W fun e w' => ∃ As cs, e = .returned (.slice As 0 cs) ∧ Below W.heap.size W w' := by
  refine (page_Seal.calls 0 A c l [] W hC hc (by unfold page_Seal.f; rw [if_neg (by omega)])).mono ?_
  rintro e w' ⟨v, rfl, hr, hb2⟩
  obtain ⟨As, cs, rfl, hle, hCs⟩ := Kd.R_reads hr
  exact ⟨As, cs, rfl, hb2⟩
theorem wagtaillaw15_PageReopens.num_calls (l : List Int) (hb : isBytes l) (hl : l.length = 252) (A : Option Addr) (c : Nat) (hc : 256 ≤ c) (W : World) (hC : Kd.C (Kd.int .u8) W A 256 (l ++ beBytes 4 (zsum l))) :
    Calls Try.prog 49 #[.slice A 256 c, .int .i64 252, .int .i64 4] W fun e w' => e = .returned (.int .u64 (zsum l)) ∧ Below W.heap.size W w' := by
  have hlen : (l ++ beBytes 4 (zsum l)).length = 256 := by rw [List.length_append, beBytes_len]; omega
  have hz := PG.zsum_range l
  have hby : isBytes (l ++ beBytes 4 (zsum l)) := fun x hx => by
    rcases List.mem_append.1 hx with h | h
    · exact hb x h
    · exact wagtailref15_Put.beBytes_isBytes _ _ x h
  refine wagtailref15_Get.num_calls (l ++ beBytes 4 (zsum l)) hby hlen A c hc W (by rw [hlen]; exact hC) 252 4 (by omega) (by omega) (zsum l) ?_ W (Below.refl _ _)
  have h := PG.beNum_mid l [] 252 4 (zsum l) hz.1 (by have : (256 : Int) ^ 4 = 4294967296 := rfl; omega) (by omega)
  rw [List.append_nil] at h
  exact h.symm
theorem wagtaillaw15_PageReopens.count_calls (l : List Int) (hb : isBytes l) (hl : l.length ≤ 100000) (A : Option Addr) (c : Nat) (hc : l.length ≤ c) (W : World) (hC : Kd.C (Kd.int .u8) W A l.length l) :
    Calls Try.prog 25 #[.slice A l.length c] W fun e w' => e = .returned (.int .i64 (zsum l)) ∧ Below W.heap.size W w' := by
  obtain ⟨K, hK⟩ := PG.refcount_ev l hb hl
  refine (wagtailref02_Count.calls K A c l _ W hC hc (hK K (Nat.le_refl _))).mono ?_
  rintro e w' ⟨rfl, ⟨n, rfl⟩⟩
  exact ⟨rfl, pw_below_drewN (Below.refl _ _) n⟩
theorem wagtaillaw15_PageReopens.reopen_ones (op : Int) (hop : 0 ≤ op) (A : Option Addr) (c : Nat) (hc : 256 ≤ c) (W : World) (hC : Kd.C (Kd.int .u8) W A 256 (List.replicate 256 255)) :
    Calls Try.prog 50 #[.slice A 256 c, .int .u64 op] W fun e w' => ∃ v, e = .returned (.tuple #[v, .int .i64 6]) ∧ Below W.heap.size W w' := by
  have h := page_Reopen.calls A c (List.replicate 256 255) op [] 6 W (by rw [List.length_replicate]; exact hC) (by rw [List.length_replicate]; exact hc) (by
    unfold page_Reopen.f
    rw [if_pos ⟨fun x hx => by rw [List.eq_of_mem_replicate hx]; omega, by rw [List.length_replicate]; omega, hop⟩, if_neg (by rw [wagtaillaw15_PageReopens.ones_cls]; decide)])
  rw [List.length_replicate] at h
  refine h.mono ?_
  rintro e w' ⟨v, rfl, _, hb⟩
  exact ⟨v, rfl, hb⟩
theorem wagtaillaw15_PageReopens.reopen_page (k i c b o l n op : Int) (d : ByteArray) (hm : headMay k i c b o l n = true) (hb : 0 ≤ b) (ho : 0 ≤ o) (hop : 0 ≤ op) (hd : (d.size : Int) = n) (x : ByteArray) (hx : x = strOfNums (PG.pageL k i c b o l n (bytesOf d))) (W : World) :
    Calls Try.prog 50 #[.slice (some ⟨W.heap.size, 0, none⟩) x.size (grownCap W x.size 0 5), .int .u64 op] (Lib.bytesWorld W 5 x) fun e w' => ∃ Ax cx, e = .returned (.tuple #[.slice Ax (if op < 2147483648 then 256 else 0) cx, .int .i64 (if op < 2147483648 then 0 else 3)]) ∧
      (op < 2147483648 → 256 ≤ cx ∧ Kd.C (Kd.int .u8) w' Ax 256 (PG.pageL k i c b op l n (bytesOf d))) ∧ Below (Lib.bytesWorld W 5 x).heap.size (Lib.bytesWorld W 5 x) w' := by
  have hrg := wagtailref15_Put.headMay_range hm
  have hdl : (bytesOf d).length ≤ 228 := by rw [bytesOf_length]; omega
  have hdn : ((bytesOf d).length : Int) = n := by rw [bytesOf_length]; exact hd
  have hby := PG.page_bytes k i c b o l n (bytesOf d) (wagtailref15_Put.bytes_isBytes d)
  have hlen := PG.page_len k i c b o l n (bytesOf d) hdl
  have hcl := PG.page_cls k i c b o l n (bytesOf d) hm hb ho hdn
  obtain ⟨t0, t1, t2, t3, t4, t5, t6, t7⟩ := PG.page_tells k i c b o l n (bytesOf d) hm hb ho hdn
  have hxs : x.size = 256 := by rw [hx, wagtailref15_Put.str_size, hlen]
  have hxb : bytesOf x = PG.pageL k i c b o l n (bytesOf d) := by rw [hx, wagtailref15_Put.bytesOf_str _ hby]
  have hC := Kd.C_of_reads (enc := Value.int .u8) (h1 := fun _ => rfl) (bytes_reads W 5 x (by omega))
  have hcp := grownCap_ge W x.size 0 5
  rw [hxb] at hC
  generalize grownCap W x.size 0 5 = cp at hcp ⊢
  rw [hxs] at hC hcp ⊢
  have hf : ∃ r1, page_Reopen.f (PG.pageL k i c b o l n (bytesOf d)) op = some (r1, if op < 2147483648 then 0 else 3) ∧ r1.length = (if op < 2147483648 then 256 else 0) ∧ (op < 2147483648 → r1 = PG.pageL k i c b op l n (bytesOf d)) := by
    unfold page_Reopen.f
    rw [if_pos ⟨hby, by omega, hop⟩, if_pos hcl, t0, t1, t2, t3, t5, t6, t7]
    by_cases h31 : op < 2147483648
    · rw [if_pos h31, if_pos h31]
      exact ⟨_, rfl, by rw [if_pos h31]; exact PG.page_len k i c b op l n (bytesOf d) hdl, fun _ => rfl⟩
    · rw [if_neg h31, if_neg h31]
      exact ⟨_, rfl, by rw [if_neg h31]; rfl, fun h => absurd h h31⟩
  obtain ⟨r1, hf, hr1, hr2⟩ := hf
  have h := page_Reopen.calls (some ⟨W.heap.size, 0, none⟩) cp (PG.pageL k i c b o l n (bytesOf d)) op r1 _ (Lib.bytesWorld W 5 x) (by rw [hlen]; exact hC) (by omega) hf
  rw [hlen] at h
  refine h.mono ?_
  rintro e w' ⟨v, rfl, hr, hb2⟩
  obtain ⟨Ax, cx, rfl, hle, hCx⟩ := Kd.R_reads hr
  rw [← hr1]
  refine ⟨Ax, cx, rfl, fun h31 => ?_, hb2⟩
  have h256 : r1.length = 256 := by rw [hr1, if_pos h31]
  rw [h256] at hle hCx
  rw [hr2 h31] at hCx
  exact ⟨hle, hCx⟩
def wagtaillaw15_PageReopens.T1 : Bool × List (List Nat × List Nat) := (true, [([], []), ([0], [0]), ([], []), ([2], [2]), ([], []), ([4], [4]), ([], []), ([6], [6]), ([], []), ([8, 1, 0, 1, 8], [1, 8]), ([3, 9, 0, 1, 2, 3, 8, 9], [3]), ([5, 10, 0, 1, 2, 3, 4, 5, 8, 9, 10], [5]), ([7, 11, 0, 1, 2, 3, 4, 5, 6, 7, 8, 9, 10, 11], [7])])
def wagtaillaw15_PageReopens.B1 : List Nat := [0, 1, 0, 4, 0, 16, 0, 64, 0, 259, 783, 1855, 4095]
theorem wagtaillaw15_PageReopens.tab1 : rtab .any (opsOf Try.f12 1) = wagtaillaw15_PageReopens.T1 := by kernel_rfl
theorem wagtaillaw15_PageReopens.bits1 : waitsOk wagtaillaw15_PageReopens.T1.2 wagtaillaw15_PageReopens.B1 = true := by kernel_rfl
def wagtaillaw15_PageReopens.T23 : Bool × List (List Nat × List Nat) := (true, [([], []), ([0, 0], [0]), ([1], [1]), ([2, 1], [1, 2]), ([1], [1]), ([1], [1]), ([4, 5, 1, 1], [1, 4, 5]), ([3, 6, 1], [1, 3, 6]), ([1, 7], [1, 7]), ([8, 6], [8]), ([9], [9]), ([10, 9], [9, 10]), ([9, 11], [9, 11]), ([12, 9, 0, 1, 2, 3, 4, 5, 6, 7, 8, 9, 10, 11, 12], [12])])
def wagtaillaw15_PageReopens.B23 : List Nat := [0, 1, 3, 7, 3, 3, 51, 127, 255, 511, 1023, 2047, 4095, 8191]
theorem wagtaillaw15_PageReopens.tab23 : rtab .any (opsOf Try.f12 23) = wagtaillaw15_PageReopens.T23 := by kernel_rfl
theorem wagtaillaw15_PageReopens.bits23 : waitsOk wagtaillaw15_PageReopens.T23.2 wagtaillaw15_PageReopens.B23 = true := by kernel_rfl
set_option maxHeartbeats 8000000 in
set_option maxRecDepth 100000 in
theorem wagtaillaw15_PageReopens.calls (a0_0 : Int) (a0_1 : Int) (a0_2 : Int) (a0_3 : Int) (a0_4 : Int) (a0_5 : Int) (a0_6 : Int) (a0_7 : ByteArray) (a0_8 : Int) (A0_9 : Option Addr) (c0_9 : Nat) (l0_9 : List Int) (r : Bool) (w : World) (hr0_9 : Kd.C (Kd.int .u8) w A0_9 l0_9.length l0_9) (hc0_9 : l0_9.length ≤ c0_9) (h : wagtaillaw15_PageReopens.f a0_0 a0_1 a0_2 a0_3 a0_4 a0_5 a0_6 a0_7 a0_8 l0_9 = some r) :
    Calls Try.prog 12 #[.agg #[.int .i64 a0_0, .int .i64 a0_1, .int .i64 a0_2, .int .u64 a0_3, .int .u64 a0_4, .int .i64 a0_5, .int .i64 a0_6, .string a0_7, .int .u64 a0_8, .slice A0_9 l0_9.length c0_9]] w fun e w' => e = .returned (.bool r) ∧ Below w.heap.size w w' := by
  unfold wagtaillaw15_PageReopens.f at h
  by_cases hc : (0 ≤ a0_3 ∧ 0 ≤ a0_4 ∧ 0 ≤ a0_8) ∧ isBytes l0_9
  case neg => rw [if_neg hc] at h; cases h
  rw [if_pos hc] at h
  obtain rfl := Option.some.inj h
  obtain ⟨⟨hb0, ho0, hop⟩, hby⟩ := hc
  clear h
  have HARG := Aside0.mk (And.intro hb0 (And.intro ho0 (And.intro hop (And.intro hby (And.intro hc0_9 hr0_9)))))
  clear hb0 ho0 hop hby hc0_9 hr0_9
  go_enter Try.func12, Try.ntmps12
  go_upto_region 1 with fail
  have BB := below_alloc (Below.refl w.heap.size w) (Obj.cells #[Value.int IntKind.i64 a0_0, Value.int IntKind.i64 a0_1, Value.int IntKind.i64 a0_2, Value.int IntKind.u64 a0_3, Value.int IntKind.u64 a0_4, Value.int IntKind.i64 a0_5, Value.int IntKind.i64 a0_6, Value.string a0_7, Value.int IntKind.u64 a0_8, Value.slice A0_9 l0_9.length c0_9] 65)
  have hz := heap_alloc_new w (Obj.cells #[Value.int IntKind.i64 a0_0, Value.int IntKind.i64 a0_1, Value.int IntKind.i64 a0_2, Value.int IntKind.u64 a0_3, Value.int IntKind.u64 a0_4, Value.int IntKind.i64 a0_5, Value.int IntKind.i64 a0_6, Value.string a0_7, Value.int IntKind.u64 a0_8, Value.slice A0_9 l0_9.length c0_9] 65)
  generalize w.alloc (Obj.cells #[Value.int IntKind.i64 a0_0, Value.int IntKind.i64 a0_1, Value.int IntKind.i64 a0_2, Value.int IntKind.u64 a0_3, Value.int IntKind.u64 a0_4, Value.int IntKind.i64 a0_5, Value.int IntKind.i64 a0_6, Value.string a0_7, Value.int IntKind.u64 a0_8, Value.slice A0_9 l0_9.length c0_9] 65) = W0 at BB hz ⊢
  have HBX := Aside0.mk hz
  replace BB := Aside0.mk BB
  clear hz
  have B0 := Aside0.mk (below_drew1 (Below.refl W0.heap.size W0))
  refine start_ (n := 13) (S := fun w' => True) (ds := []) #[false, false, false, false, false, false, false, false, false, false, false, false, false] (by kernel_rfl) rfl rfl trivial (fun hHeld => ?_)
  refine with_tabW wagtaillaw15_PageReopens.tab1 wagtaillaw15_PageReopens.bits1 (fun HT_ HW_ => ?_)
  generalize W0.drew = wq at B0 hHeld ⊢
  refine pure_ (i := 0) (N := some 17) (v := ?_) (a' := ?_) #[true, false, false, false, false, false, false, false, false, false, false, false, false] rfl rfl (any_of HT_.out (by kernel_rfl)) (fun _ _ _ h => h) (Or.inl ⟨by rfl, ?_⟩) ?_ ?_
  rotate_left
  · intro w'
    go_simp
    with_reducible rfl
  rotate_left
  · simp only [Act.put, List.setIfInBounds_toArray, List.set_cons_zero, List.set_cons_succ, i64_w, i32_w]
    rfl
  refine pure_ (i := 2) (N := some 19) (v := ?_) (a' := ?_) #[true, false, true, false, false, false, false, false, false, false, false, false, false] rfl rfl (any_of HT_.out (by kernel_rfl)) (fun _ _ _ h => h) (Or.inl ⟨by rfl, ?_⟩) ?_ ?_
  rotate_left
  · intro w'
    go_simp
    with_reducible rfl
  rotate_left
  · simp only [Act.put, List.setIfInBounds_toArray, List.set_cons_zero, List.set_cons_succ, i64_w, i32_w]
    rfl
  refine pure_ (i := 4) (N := some 21) (v := ?_) (a' := ?_) #[true, false, true, false, true, false, false, false, false, false, false, false, false] rfl rfl (any_of HT_.out (by kernel_rfl)) (fun _ _ _ h => h) (Or.inl ⟨by rfl, ?_⟩) ?_ ?_
  rotate_left
  · intro w'
    go_simp
    with_reducible rfl
  rotate_left
  · simp only [Act.put, List.setIfInBounds_toArray, List.set_cons_zero, List.set_cons_succ, i64_w, i32_w]
    rfl
  refine pure_ (i := 6) (N := some 23) (v := ?_) (a' := ?_) #[true, false, true, false, true, false, true, false, false, false, false, false, false] rfl rfl (any_of HT_.out (by kernel_rfl)) (fun _ _ _ h => h) (Or.inl ⟨by rfl, ?_⟩) ?_ ?_
  rotate_left
  · intro w'
    go_simp
    with_reducible rfl
  rotate_left
  · simp only [Act.put, List.setIfInBounds_toArray, List.set_cons_zero, List.set_cons_succ, i64_w, i32_w]
    rfl
  refine inv_at [1, 3, 5, 7, 8, 9, 10, 11, 12] (fun a0_ b a w' => ∃ (gb : Nat) (m8_ : Value), a = putSel a0_ b [(1, 18, .agg #[.int .i64 a0_0, .int .i64 a0_1, .int .i64 a0_2, .int .u64 a0_3, .int .u64 a0_4, .int .i64 a0_5, .int .i64 a0_6]), (3, 20, .string a0_7), (5, 22, .int .u64 a0_8), (7, 24, .slice A0_9 l0_9.length c0_9), (8, 3, m8_), (10, 4, .string a0_7), (11, 5, .int .u64 a0_8), (12, 6, .slice A0_9 l0_9.length c0_9)] ∧ (Below W0.heap.size W0 w') ∧ (b 8 = true → b 9 = false → w'.heap[gb]? = some (.cells #[.int .i64 0, .int .i64 0, .int .i64 0, .int .u64 0, .int .u64 0, .int .i64 0, .int .i64 0] 50 (0, 0)) ∧ W0.heap.size ≤ gb) ∧ (b 9 = true → w'.heap[gb]? = some (.cells #[.int .i64 a0_0, .int .i64 a0_1, .int .i64 a0_2, .int .u64 a0_3, .int .u64 a0_4, .int .i64 a0_5, .int .i64 a0_6] 50 (0, 0)) ∧ W0.heap.size ≤ gb) ∧ (b 8 = true → (m8_ : Value) = .pointer (some ⟨gb, 0, none⟩))) HT_.out HW_.out (by kernel_rfl) (by kernel_rfl) ?_ ?_ ?_
  · exact ⟨0, .bool false, by simp only [putSel, Bool.false_eq_true, if_false], B0.out, fun h_ => absurd h_ (by decide), fun h_ => absurd h_ (by decide), fun h_ => absurd h_ (by decide)⟩
  · skip
    clear B0
    refine steps_cons ?_ ?_
    · rintro b a w' ⟨gb, m8_, ha, Q_B0, Q_AL, Q_ST, Q_X8_⟩ hb_ hon hoff
      refine ⟨_, rfl, fun K hK => ?_⟩
      have e17 : a.tmps[17]? = some (.pointer (some ⟨w.heap.size, 0, none⟩)) := by rw [ha]; exact (putSel_off rfl).trans rfl
      replace ha := Aside0.mk ha
      have B0 := Aside0.mk Q_B0
      have hb_ := blk_below HBX.out B0.out
      have c0_ := blk_cell hb_ 0
      have c1_ := blk_cell hb_ 1
      have c2_ := blk_cell hb_ 2
      have c3_ := blk_cell hb_ 3
      have c4_ := blk_cell hb_ 4
      have c5_ := blk_cell hb_ 5
      have c6_ := blk_cell hb_ 6
      clear hb_
      refine value_ (w1 := w') (v := .agg #[.int .i64 a0_0, .int .i64 a0_1, .int .i64 a0_2, .int .u64 a0_3, .int .u64 a0_4, .int .i64 a0_5, .int .i64 a0_6]) (by rfl) rfl ?_ ?_
      · go_simp
        (try simp only [i64_w])
        try rfl
      refine hK.out _ _ ⟨gb, m8_, (by rw [ha.out]; exact putSel_upk 0 hb_ rfl rfl rfl), Q_B0, Q_AL, fun h0_ => absurd ((hoff 9 (by kernel_rfl)).symm.trans h0_) (by decide), Q_X8_⟩
    refine steps_cons ?_ ?_
    · rintro b a w' ⟨gb, m8_, ha, Q_B0, Q_AL, Q_ST, Q_X8_⟩ hb_ hon hoff
      refine ⟨_, rfl, fun K hK => ?_⟩
      have e19 : a.tmps[19]? = some (.pointer (some ⟨w.heap.size, 7, none⟩)) := by rw [ha]; exact (putSel_off rfl).trans rfl
      replace ha := Aside0.mk ha
      have B0 := Aside0.mk Q_B0
      have hb_ := blk_below HBX.out B0.out
      have c7_ := blk_cell hb_ 7
      clear hb_
      refine value_ (w1 := w') (v := .string a0_7) (by rfl) rfl ?_ ?_
      · go_simp
        (try simp only [i64_w])
        try rfl
      refine hK.out _ _ ⟨gb, m8_, (by rw [ha.out]; exact putSel_upk 1 hb_ rfl rfl rfl), Q_B0, Q_AL, Q_ST, Q_X8_⟩
    refine steps_cons ?_ ?_
    · rintro b a w' ⟨gb, m8_, ha, Q_B0, Q_AL, Q_ST, Q_X8_⟩ hb_ hon hoff
      refine ⟨_, rfl, fun K hK => ?_⟩
      have e21 : a.tmps[21]? = some (.pointer (some ⟨w.heap.size, 8, none⟩)) := by rw [ha]; exact (putSel_off rfl).trans rfl
      replace ha := Aside0.mk ha
      have B0 := Aside0.mk Q_B0
      have hb_ := blk_below HBX.out B0.out
      have c8_ := blk_cell hb_ 8
      clear hb_
      refine value_ (w1 := w') (v := .int .u64 a0_8) (by rfl) rfl ?_ ?_
      · go_simp
        (try simp only [i64_w])
        try rfl
      refine hK.out _ _ ⟨gb, m8_, (by rw [ha.out]; exact putSel_upk 2 hb_ rfl rfl rfl), Q_B0, Q_AL, Q_ST, Q_X8_⟩
    refine steps_cons ?_ ?_
    · rintro b a w' ⟨gb, m8_, ha, Q_B0, Q_AL, Q_ST, Q_X8_⟩ hb_ hon hoff
      refine ⟨_, rfl, fun K hK => ?_⟩
      have e23 : a.tmps[23]? = some (.pointer (some ⟨w.heap.size, 9, none⟩)) := by rw [ha]; exact (putSel_off rfl).trans rfl
      replace ha := Aside0.mk ha
      have B0 := Aside0.mk Q_B0
      have hb_ := blk_below HBX.out B0.out
      have c9_ := blk_cell hb_ 9
      clear hb_
      refine value_ (w1 := w') (v := .slice A0_9 l0_9.length c0_9) (by rfl) rfl ?_ ?_
      · go_simp
        (try simp only [i64_w])
        try rfl
      refine hK.out _ _ ⟨gb, m8_, (by rw [ha.out]; exact putSel_upk 3 hb_ rfl rfl rfl), Q_B0, Q_AL, Q_ST, Q_X8_⟩
    refine steps_cons ?_ ?_
    · rintro b a w' ⟨gb, m8_, ha, Q_B0, Q_AL, Q_ST, Q_X8_⟩ hb_ hon hoff
      refine ⟨_, rfl, fun K hK => ?_⟩
      replace ha := Aside0.mk ha
      have B0 := Aside0.mk Q_B0
      refine value_ (w1 := w'.alloc (Obj.cells #[.int .i64 0, .int .i64 0, .int .i64 0, .int .u64 0, .int .u64 0, .int .i64 0, .int .i64 0] 50)) (v := .pointer (some ⟨w'.heap.size, 0, none⟩)) (by rfl) rfl (by first | (go_simp; done) | (go_simp; rfl)) ?_
      have hb := below_alloc (Below.refl w'.heap.size w') (Obj.cells #[.int .i64 0, .int .i64 0, .int .i64 0, .int .u64 0, .int .u64 0, .int .i64 0, .int .i64 0] 50)
      refine hK.out _ _ ⟨w'.heap.size, (.pointer (some ⟨w'.heap.size, 0, none⟩)), (by rw [ha.out]; exact putSel_upk 4 hb_ rfl rfl rfl), below_then B0.out B0.out.size hb, fun _ _ => ⟨heap_alloc_new w' _, B0.out.size⟩, fun h0_ => absurd ((hoff 9 (by kernel_rfl)).symm.trans h0_) (by decide), fun _ => rfl⟩
    refine steps_cons ?_ ?_
    · rintro b a w' ⟨gb, m8_, ha, Q_B0, Q_AL, Q_ST, Q_X8_⟩ hb_ hon hoff
      refine ⟨_, rfl, fun K hK => ?_⟩
      have e3 : a.tmps[3]? = some (m8_) := by rw [ha]; exact putSel_on (e := (8, 3, m8_)) 4 rfl rfl (hon 8 (by kernel_rfl)) rfl
      rw [Q_X8_ (hon 8 (by kernel_rfl))] at e3
      have e18 : a.tmps[18]? = some (.agg #[.int .i64 a0_0, .int .i64 a0_1, .int .i64 a0_2, .int .u64 a0_3, .int .u64 a0_4, .int .i64 a0_5, .int .i64 a0_6]) := by rw [ha]; exact putSel_on (e := (1, 18, .agg #[.int .i64 a0_0, .int .i64 a0_1, .int .i64 a0_2, .int .u64 a0_3, .int .u64 a0_4, .int .i64 a0_5, .int .i64 a0_6])) 0 rfl rfl (hon 1 (by kernel_rfl)) rfl
      replace ha := Aside0.mk ha
      have B0 := Aside0.mk Q_B0
      have AL := Aside0.mk (Q_AL (hon 8 (by kernel_rfl)) hb_)
      have d0 := blk_cell AL.out.1 0
      have d1 := blk_cell AL.out.1 1
      have d2 := blk_cell AL.out.1 2
      have d3 := blk_cell AL.out.1 3
      have d4 := blk_cell AL.out.1 4
      have d5 := blk_cell AL.out.1 5
      have d6 := blk_cell AL.out.1 6
      have e0 := blk_frozen AL.out.1 0
      have e1 := blk_frozen AL.out.1 1
      have e2 := blk_frozen AL.out.1 2
      have e3 := blk_frozen AL.out.1 3
      have e4 := blk_frozen AL.out.1 4
      have e5 := blk_frozen AL.out.1 5
      have e6 := blk_frozen AL.out.1 6
      have hst := wagtailref15_Get.store7 a0_0 a0_1 a0_2 a0_3 a0_4 a0_5 a0_6 AL.out B0.out
      refine skip_ (w1 := ?_) (by rfl) rfl ?_ ?_
      rotate_left
      · go_simp
        rfl
      refine hK.out _ _ ⟨gb, m8_, (by rw [ha.out]; exact putSel_none (v := undef) rfl), hst.1, fun _ h1_ => absurd ((up_self b 9).symm.trans h1_) (by decide), fun _ => hst.2, Q_X8_⟩
    refine steps_cons ?_ ?_
    · rintro b a w' ⟨gb, m8_, ha, Q_B0, Q_AL, Q_ST, Q_X8_⟩ hb_ hon hoff
      refine ⟨_, rfl, fun K hK => ?_⟩
      have e20 : a.tmps[20]? = some (.string a0_7) := by rw [ha]; exact putSel_on (e := (3, 20, .string a0_7)) 1 rfl rfl (hon 3 (by kernel_rfl)) rfl
      replace ha := Aside0.mk ha
      have B0 := Aside0.mk Q_B0
      have ST := Aside0.mk (Q_ST (hon 9 (by kernel_rfl)))
      refine value_ (w1 := w') (v := .string a0_7) (by rfl) rfl ?_ ?_
      · go_simp
        (try simp only [i64_w])
        try rfl
      refine hK.out _ _ ⟨gb, m8_, (by rw [ha.out]; exact putSel_upk 5 hb_ rfl rfl rfl), Q_B0, fun _ h1_ => absurd ((hon 9 (by kernel_rfl)).symm.trans h1_) (by decide), Q_ST, Q_X8_⟩
    refine steps_cons ?_ ?_
    · rintro b a w' ⟨gb, m8_, ha, Q_B0, Q_AL, Q_ST, Q_X8_⟩ hb_ hon hoff
      refine ⟨_, rfl, fun K hK => ?_⟩
      have e22 : a.tmps[22]? = some (.int .u64 a0_8) := by rw [ha]; exact putSel_on (e := (5, 22, .int .u64 a0_8)) 2 rfl rfl (hon 5 (by kernel_rfl)) rfl
      replace ha := Aside0.mk ha
      have B0 := Aside0.mk Q_B0
      have ST := Aside0.mk (Q_ST (hon 9 (by kernel_rfl)))
      refine value_ (w1 := w') (v := .int .u64 a0_8) (by rfl) rfl ?_ ?_
      · go_simp
        (try simp only [i64_w])
        try rfl
      refine hK.out _ _ ⟨gb, m8_, (by rw [ha.out]; exact putSel_upk 6 hb_ rfl rfl rfl), Q_B0, fun _ h1_ => absurd ((hon 9 (by kernel_rfl)).symm.trans h1_) (by decide), Q_ST, Q_X8_⟩
    refine steps_cons ?_ ?_
    · rintro b a w' ⟨gb, m8_, ha, Q_B0, Q_AL, Q_ST, Q_X8_⟩ hb_ hon hoff
      refine ⟨_, rfl, fun K hK => ?_⟩
      have e24 : a.tmps[24]? = some (.slice A0_9 l0_9.length c0_9) := by rw [ha]; exact putSel_on (e := (7, 24, .slice A0_9 l0_9.length c0_9)) 3 rfl rfl (hon 7 (by kernel_rfl)) rfl
      replace ha := Aside0.mk ha
      have B0 := Aside0.mk Q_B0
      have ST := Aside0.mk (Q_ST (hon 9 (by kernel_rfl)))
      refine value_ (w1 := w') (v := .slice A0_9 l0_9.length c0_9) (by rfl) rfl ?_ ?_
      · go_simp
        (try simp only [i64_w])
        try rfl
      refine hK.out _ _ ⟨gb, m8_, (by rw [ha.out]; exact putSel_upk 7 hb_ rfl rfl rfl), Q_B0, fun _ h1_ => absurd ((hon 9 (by kernel_rfl)).symm.trans h1_) (by decide), Q_ST, Q_X8_⟩
    exact steps_nil
  rintro b a wl1 hall ⟨gb, m8_, ha, Q_B0, Q_AL, Q_ST, Q_X8_⟩
  clear B0
  have hb1_ := hall 1 (by kernel_rfl)
  have hb3_ := hall 3 (by kernel_rfl)
  have hb5_ := hall 5 (by kernel_rfl)
  have hb7_ := hall 7 (by kernel_rfl)
  have hb8_ := hall 8 (by kernel_rfl)
  have hb9_ := hall 9 (by kernel_rfl)
  have hb10_ := hall 10 (by kernel_rfl)
  have hb11_ := hall 11 (by kernel_rfl)
  have hb12_ := hall 12 (by kernel_rfl)
  subst ha
  obtain rfl := Q_X8_ hb8_
  simp only [putSel, hb1_, hb3_, hb5_, hb7_, hb8_, hb9_, hb10_, hb11_, hb12_, if_true, Act.put, List.setIfInBounds_toArray, List.set_cons_zero, List.set_cons_succ]
  have B0 := Aside0.mk Q_B0
  clear Q_B0
  clear Q_AL
  have ST := Aside0.mk (Q_ST hb9_)
  clear Q_ST
  clear hall hb1_ hb3_ hb5_ hb7_ hb8_ hb9_ hb10_ hb11_ hb12_
  clear HT_ HW_ HBX hHeld
  have B1 := Aside0.mk (below_then BB.out BB.out.size B0.out)
  have HH := Aside0.mk ST.out.1
  have HCB := Aside0.mk (Kd.C_below HARG.out.2.2.2.2.2 B1.out)
  clear BB B0 ST
  by_cases hl : 300 < l0_9.length
  case pos =>
    have u1 : decide (300 < (l0_9.length : Int)) = true := decide_eq_true (by omega)
    have u2 : decide (300 < l0_9.length) = true := decide_eq_true hl
    clear hl
    go_wp2_with ((go_at_call 36); (with_reducible refine (PG.awake_calls _).mono ?_); rintro e w2 ⟨rfl, hb⟩; replace B1 := Aside0.mk (below_then B1.out B1.out.size hb); clear hb)
    go_ret
    exact ⟨rfl, B1.out⟩
  case neg =>
  have u1 : decide (300 < (l0_9.length : Int)) = false := decide_eq_false (by omega)
  have u2 : decide (300 < l0_9.length) = false := decide_eq_false hl
  have HL := Aside0.mk hl
  clear hl
  go_upto_region 4 with fail
  obtain ⟨n0, hn0⟩ : ∃ n, n = PG.cnt [l0_9, List.replicate 256 255] 0 := ⟨_, rfl⟩
  obtain ⟨n1, hn1⟩ : ∃ n, n = PG.cnt [l0_9, List.replicate 256 255] 1 := ⟨_, rfl⟩
  obtain ⟨n2, hn2⟩ : ∃ n, n = PG.cnt [l0_9, List.replicate 256 255] 2 := ⟨_, rfl⟩
  have HCL := Aside0.mk (show ∀ (W : World) (g : Nat) (Ao : Option Addr) (co : Nat), Below wl1.heap.size wl1 W → W.heap[g]? = some (.cells #[.slice A0_9 l0_9.length c0_9, .slice Ao 256 co] 35 (0, 0)) → 256 ≤ co → Kd.C (Kd.int .u8) W Ao 256 (List.replicate 256 255) →
      Calls Try.prog 47 #[.slice (some ⟨g, 0, none⟩) 2 2] W fun e w' => e = .returned (.agg #[.int .i64 n0, .int .i64 n1, .int .i64 n2]) ∧ Below W.heap.size W w' from by
    intro W g Ao co hW hz hco hCo
    rw [hn0, hn1, hn2]
    refine PG.classes_calls [l0_9, List.replicate 256 255] ?_ (by simp) (some ⟨g, 0, none⟩) 2 (by simp) W (wagtaillaw15_PageReopens.two_rows (by rw [List.length_replicate]; exact hz) HARG.out.2.2.2.2.1 (by rw [List.length_replicate]; exact hco) (Kd.C_below HCB.out hW) (by rw [List.length_replicate]; exact hCo))
    intro x hx
    rcases List.mem_cons.1 hx with rfl | hx
    · exact ⟨HARG.out.2.2.2.1, by have := HL.out; omega⟩
    · rw [List.mem_singleton] at hx
      subst hx
      exact ⟨fun x hx => by rw [List.eq_of_mem_replicate hx]; omega, by rw [List.length_replicate]; omega⟩)
  rw [wagtaillaw15_PageReopens.cnt2, wagtaillaw15_PageReopens.ones_cls] at hn0 hn1 hn2
  have HN := Aside0.mk (And.intro hn0 (And.intro hn1 hn2))
  clear hn0 hn1 hn2
  have hC0 := HCB.out
  go_upto_region 5 with (first
    | ((go_at_call 28); (with_reducible refine (PG.ones_calls 256 (by omega) 256 rfl _).mono ?_); rintro e w2 ⟨Ao, co, rfl, hco, hCo, hb⟩; have HBW := Aside0.mk hb; have HCO := Aside0.mk (And.intro hco hCo); replace B1 := Aside0.mk (below_then B1.out B1.out.size hb); replace HH := Aside0.mk (blk_below HH.out hb); replace HCB := Aside0.mk (Kd.C_below HCB.out hb); clear hco hCo hb)
    | ((go_at_call 47); (with_reducible refine (HCL.out _ _ _ _ (below_alloc HBW.out _) (heap_alloc_new _ _) HCO.out.1 (Kd.C_below HCO.out.2 (below_alloc (Below.refl _ _) _))).mono ?_); rintro e w3 ⟨rfl, hb⟩; replace B1 := Aside0.mk (below_then (below_alloc B1.out _) (below_alloc B1.out _).size hb); replace HH := Aside0.mk (blk_below (blk_alloc HH.out _) hb); replace HCB := Aside0.mk (Kd.C_below (Kd.C_below HCB.out (below_alloc (Below.refl _ _) _)) hb); clear hb))
  clear hC0 HCL HBW HCO
  have B5 := below_alloc (Below.refl w3.heap.size w3) (Obj.cells #[Value.int IntKind.i64 n0, Value.int IntKind.i64 n1, Value.int IntKind.i64 n2] 66)
  have HZ7 := heap_alloc_new w3 (Obj.cells #[Value.int IntKind.i64 n0, Value.int IntKind.i64 n1, Value.int IntKind.i64 n2] 66)
  generalize w3.alloc (Obj.cells #[Value.int IntKind.i64 n0, Value.int IntKind.i64 n1, Value.int IntKind.i64 n2] 66) = W5 at B5 HZ7 ⊢
  generalize w3.heap.size = g7 at HZ7 ⊢
  replace B1 := Aside0.mk (below_then B1.out B1.out.size (by simpa using B5))
  replace HH := Aside0.mk (blk_below HH.out B5)
  replace HCB := Aside0.mk (Kd.C_below HCB.out B5)
  replace HZ7 := Aside0.mk HZ7
  clear B5
  obtain ⟨xb, hxb⟩ : ∃ x, x = strOfNums l0_9 := ⟨_, rfl⟩
  have HXB := Aside0.mk hxb
  have hs5 := (PG.str_of_C (cp := c0_9) HCB.out xb hxb).here
  have HR5 := Aside0.mk (show ∀ (r : Int), PG.cls l0_9 = r → ∀ W : World, Calls Try.prog 43 #[.string xb] W fun e w' => e = .returned (.int .i64 r) ∧ Below W.heap.size W w' from by
    intro r hr W
    obtain ⟨K, hK⟩ := PG.rclass_ev l0_9 HARG.out.2.2.2.1
    rw [hxb]
    exact wagtailref15_Class.calls K _ r W (by rw [← hr]; exact hK K (Nat.le_refl _)))
  clear hxb
  have hcase : (PG.cls l0_9 = 0 ∧ l0_9.length ≠ 252) ∨ (PG.cls l0_9 = 1 ∧ l0_9.length ≠ 252) ∨ (PG.cls l0_9 = 2 ∧ l0_9.length ≠ 252) ∨ (PG.cls l0_9 = 2 ∧ l0_9.length = 252) := by
    by_cases h252 : l0_9.length = 252
    · have : PG.cls l0_9 = 2 := by unfold PG.cls; rw [if_neg (by omega)]
      exact .inr (.inr (.inr ⟨this, h252⟩))
    · rcases PG.cls_three l0_9 with h | h | h
      · exact .inl ⟨h, h252⟩
      · exact .inr (.inl ⟨h, h252⟩)
      · exact .inr (.inr (.inl ⟨h, h252⟩))
  rcases hcase with ⟨hc, h252⟩ | ⟨hc, h252⟩ | ⟨hc, h252⟩ | ⟨hc, h252⟩
  · have e0 : n0 = 2 := by rw [HN.out.1, hc]; decide
    have e1 : n1 = 0 := by rw [HN.out.2.1, hc]; decide
    have e2 : n2 = 0 := by rw [HN.out.2.2, hc]; decide
    rw [e0, e1, e2] at HZ7
    have HR := Aside0.mk (HR5.out 0 hc)
    replace h252 := Aside0.mk h252
    clear e0 e1 e2 HR5 hc
    go_upto_region 8 with ((go_at_call 43); (with_reducible refine (HR.out _).mono ?_); rintro e w6 ⟨rfl, hb⟩; replace B1 := Aside0.mk (below_then B1.out B1.out.size hb); replace HH := Aside0.mk (blk_below HH.out hb); replace HZ7 := Aside0.mk (blk_below HZ7.out hb); replace HCB := Aside0.mk (Kd.C_below HCB.out hb); clear hb)
    clear HR hs5
    have hb := below_alloc (Below.refl w6.heap.size w6) (Obj.cells #[Value.int IntKind.i64 2, Value.int IntKind.i64 0, Value.int IntKind.i64 0] 66)
    have HZ9 := heap_alloc_new w6 (Obj.cells #[Value.int IntKind.i64 2, Value.int IntKind.i64 0, Value.int IntKind.i64 0] 66)
    generalize w6.alloc (Obj.cells #[Value.int IntKind.i64 2, Value.int IntKind.i64 0, Value.int IntKind.i64 0] 66) = W8 at hb HZ9 ⊢
    replace B1 := Aside0.mk (below_then B1.out B1.out.size hb)
    replace HH := Aside0.mk (blk_below HH.out hb)
    replace HZ7 := Aside0.mk (blk_below HZ7.out hb)
    replace HCB := Aside0.mk (Kd.C_below HCB.out hb)
    generalize w6.heap.size = g9 at HZ9 ⊢
    replace HZ9 := Aside0.mk HZ9
    clear hb
    have heq : ∀ W : World, Sem.run Try.prog (Op.equalIn 10000 66 (Value.agg #[Value.int IntKind.i64 2, Value.int IntKind.i64 0, Value.int IntKind.i64 0]) (Value.agg #[Value.int IntKind.i64 2, Value.int IntKind.i64 0, Value.int IntKind.i64 0])) W = .ok true W := fun W => by kernel_rfl
    replace h252 := h252.out
    have HSE := Aside0.mk (wagtaillaw15_PageReopens.seal_none l0_9 h252 A0_9 c0_9 HARG.out.2.2.2.2.1)
    have u3 : decide ((l0_9.length : Int) = 252) = false := decide_eq_false (by omega)
    have u4 : ((l0_9.length : Int) == 252) = false := by simp; omega
    have u5 : ((l0_9.length : Int) != 252) = true := by simp; omega
    clear h252
    go_upto_region 16 with ((go_at_call 48); (with_reducible refine (HSE.out _ HCB.out).mono ?_); rintro e w9 ⟨As, cs, rfl, hb⟩; replace B1 := Aside0.mk (below_then B1.out B1.out.size hb); replace HH := Aside0.mk (blk_below HH.out hb); replace HZ7 := Aside0.mk (blk_below HZ7.out hb); replace HZ9 := Aside0.mk (blk_below HZ9.out hb); replace HCB := Aside0.mk (Kd.C_below HCB.out hb); clear hb; have f0 := blk_cell HZ7.out 0; have d0 := blk_cell HZ9.out 0; have f1 := blk_cell HZ7.out 1; have d1 := blk_cell HZ9.out 1; have f2 := blk_cell HZ7.out 2; have d2 := blk_cell HZ9.out 2)
    replace HCB := Aside0.mk trivial
    clear heq HSE u3 u4 u5 HZ7 HZ9 f0 f1 f2 d0 d1 d2
    go_upto_region 17 with (first
      | ((go_at_call 28); (with_reducible refine (PG.ones_calls 256 (by omega) 256 rfl _).mono ?_); rintro e w12 ⟨Aw, cw, rfl, hcw, hCw, hb⟩; have HWW := Aside0.mk (And.intro hcw hCw); replace B1 := Aside0.mk (below_then B1.out B1.out.size hb); replace HH := Aside0.mk (blk_below HH.out hb); clear hcw hCw hb)
      | ((go_at_call 50); (with_reducible refine (wagtaillaw15_PageReopens.reopen_ones a0_8 HARG.out.2.2.1 _ _ HWW.out.1 _ HWW.out.2).mono ?_); rintro e w13 ⟨vv, rfl, hb⟩; replace B1 := Aside0.mk (below_then B1.out B1.out.size hb); replace HH := Aside0.mk (blk_below HH.out hb); clear hb))
    have c0 := blk_cell HH.out 0
    have c1 := blk_cell HH.out 1
    have c2 := blk_cell HH.out 2
    have c3 := blk_cell HH.out 3
    have c4 := blk_cell HH.out 4
    have c5 := blk_cell HH.out 5
    have c6 := blk_cell HH.out 6
    by_cases hm : headMay a0_0 a0_1 a0_2 a0_3 a0_4 a0_5 a0_6 = true
    case neg =>
      have hmf : headMay a0_0 a0_1 a0_2 a0_3 a0_4 a0_5 a0_6 = false := by simpa using hm
      have HM := Aside0.mk (PG.may_calls a0_0 a0_1 a0_2 a0_3 a0_4 a0_5 a0_6 false hmf)
      clear hm hmf
      go_wp2_with (first
        | ((go_at_call 38); (with_reducible refine (HM.out _).mono ?_); rintro e w14 ⟨rfl, hb⟩; clear c0 c1 c2 c3 c4 c5 c6; replace B1 := Aside0.mk (below_then B1.out B1.out.size hb); replace HH := Aside0.mk (blk_below HH.out hb); have c0 := blk_cell HH.out 0; have c1 := blk_cell HH.out 1; have c2 := blk_cell HH.out 2; have c3 := blk_cell HH.out 3; have c4 := blk_cell HH.out 4; have c5 := blk_cell HH.out 5; have c6 := blk_cell HH.out 6; clear hb)
        | ((go_at_call 36); (with_reducible refine (PG.awake_calls _).mono ?_); rintro e w9 ⟨rfl, hb⟩; replace B1 := Aside0.mk (below_then B1.out B1.out.size hb); replace HH := Aside0.mk (blk_below HH.out hb); clear hb))
      go_ret
      exact ⟨rfl, B1.out⟩
    case pos =>
      have HM := Aside0.mk (PG.may_calls a0_0 a0_1 a0_2 a0_3 a0_4 a0_5 a0_6 true hm)
      by_cases hd : (a0_7.size : Int) = a0_6
      case neg =>
        have d1 : ((a0_7.size : Int) != a0_6) = true := by simpa using hd
        have d2 : ((a0_7.size : Int) == a0_6) = false := by simpa using hd
        clear hm hd
        go_wp2_with (first
          | ((go_at_call 38); (with_reducible refine (HM.out _).mono ?_); rintro e w14 ⟨rfl, hb⟩; clear c0 c1 c2 c3 c4 c5 c6; replace B1 := Aside0.mk (below_then B1.out B1.out.size hb); replace HH := Aside0.mk (blk_below HH.out hb); have c0 := blk_cell HH.out 0; have c1 := blk_cell HH.out 1; have c2 := blk_cell HH.out 2; have c3 := blk_cell HH.out 3; have c4 := blk_cell HH.out 4; have c5 := blk_cell HH.out 5; have c6 := blk_cell HH.out 6; clear hb)
          | ((go_at_call 36); (with_reducible refine (PG.awake_calls _).mono ?_); rintro e w9 ⟨rfl, hb⟩; replace B1 := Aside0.mk (below_then B1.out B1.out.size hb); replace HH := Aside0.mk (blk_below HH.out hb); clear hb))
        go_ret
        exact ⟨rfl, B1.out⟩
      case pos =>
        have d1 : ((a0_7.size : Int) != a0_6) = false := by simpa using hd
        have d2 : ((a0_7.size : Int) == a0_6) = true := by simpa using hd
        obtain ⟨xp, hxp⟩ : ∃ x, x = strOfNums (PG.pageL a0_0 a0_1 a0_2 a0_3 a0_4 a0_5 a0_6 (bytesOf a0_7)) := ⟨_, rfl⟩
        have HPUT := Aside0.mk (PG.rput_calls a0_0 a0_1 a0_2 a0_3 a0_4 a0_5 a0_6 a0_7 hm HARG.out.1 HARG.out.2.1 hd xp hxp)
        have HREO := fun W => wagtaillaw15_PageReopens.reopen_page a0_0 a0_1 a0_2 a0_3 a0_4 a0_5 a0_6 a0_8 a0_7 hm HARG.out.1 HARG.out.2.1 HARG.out.2.2.1 hd xp hxp W
        have hmo := page_Reopen.may_open (op := a0_8) hm
        have HHD := Aside0.mk (And.intro hd hmo)
        clear hm hxp hd hmo
        go_upto_region 19 with (((go_at_call 38); (with_reducible refine (HM.out _).mono ?_); rintro e w14 ⟨rfl, hb⟩; clear c0 c1 c2 c3 c4 c5 c6; replace B1 := Aside0.mk (below_then B1.out B1.out.size hb); replace HH := Aside0.mk (blk_below HH.out hb); have c0 := blk_cell HH.out 0; have c1 := blk_cell HH.out 1; have c2 := blk_cell HH.out 2; have c3 := blk_cell HH.out 3; have c4 := blk_cell HH.out 4; have c5 := blk_cell HH.out 5; have c6 := blk_cell HH.out 6; clear hb))
        clear d1 d2 HM
        have kb := fun W => print_bytes (P := Try.prog) 9 35 5 Try.underlying9 Try.underlying35 Try.underlying5 xp W
        by_cases h31 : a0_8 < 2147483648
        case neg =>
          simp only [if_neg h31, h31, false_implies, true_and] at HREO
          replace HREO := Aside0.mk HREO
          have v1 : decide (2147483648 ≤ a0_8) = true := decide_eq_true (by omega)
          clear h31
          go_wp2_with (first
            | ((go_at_call 41); (with_reducible refine (HPUT.out _).mono ?_); rintro e w15 ⟨rfl, hb⟩; clear c0 c1 c2 c3 c4 c5 c6; replace B1 := Aside0.mk (below_then B1.out B1.out.size hb); replace HH := Aside0.mk (blk_below HH.out hb); clear hb)
            | ((go_at_call 50); (with_reducible refine (HREO.out _).mono ?_); rintro e w16 ⟨Ax, cx, rfl, hb⟩; replace B1 := Aside0.mk (below_then (bytes_below B1.out B1.out.size 5 xp) (bytes_below B1.out B1.out.size 5 xp).size hb); replace HH := Aside0.mk (blk_below ((Lib.bytesWorld_at_old w15 5 xp gb (blk_lt HH.out)).trans HH.out) hb); clear hb)
            | ((go_at_call 36); (with_reducible refine (PG.awake_calls _).mono ?_); rintro e w9 ⟨rfl, hb⟩; replace B1 := Aside0.mk (below_then B1.out B1.out.size hb); replace HH := Aside0.mk (blk_below HH.out hb); clear hb))
          go_ret
          exact ⟨rfl, B1.out⟩
        case pos =>
          simp only [if_pos h31, h31, true_implies] at HREO
          replace HREO := Aside0.mk HREO
          have v1 : decide (2147483648 ≤ a0_8) = false := decide_eq_false (by omega)
          obtain ⟨xg, hxg⟩ : ∃ x, x = strOfNums (PG.pageL a0_0 a0_1 a0_2 a0_3 a0_8 a0_5 a0_6 (bytesOf a0_7)) := ⟨_, rfl⟩
          have HPUG := Aside0.mk (PG.rput_calls a0_0 a0_1 a0_2 a0_3 a0_8 a0_5 a0_6 a0_7 (by rw [HHD.out.2]; exact decide_eq_true h31) HARG.out.1 HARG.out.2.2.1 HHD.out.1 xg hxg)
          have HXG := Aside0.mk hxg
          clear h31 hxg
          go_upto_region 20 with (first
            | ((go_at_call 41); (with_reducible refine (HPUT.out _).mono ?_); rintro e w15 ⟨rfl, hb⟩; clear c0 c1 c2 c3 c4 c5 c6; replace B1 := Aside0.mk (below_then B1.out B1.out.size hb); replace HH := Aside0.mk (blk_below HH.out hb); clear hb)
            | ((go_at_call 50); (with_reducible refine (HREO.out _).mono ?_); rintro e w16 ⟨Ax, cx, rfl, hx, hb⟩; have HSTR := Aside0.mk (PG.str_of_C (cp := cx) hx.2 xg HXG.out); replace B1 := Aside0.mk (below_then (bytes_below B1.out B1.out.size 5 xp) (bytes_below B1.out B1.out.size 5 xp).size hb); replace HH := Aside0.mk (blk_below ((Lib.bytesWorld_at_old w15 5 xp gb (blk_lt HH.out)).trans HH.out) hb); clear hb hx; have c0 := blk_cell HH.out 0; have c1 := blk_cell HH.out 1; have c2 := blk_cell HH.out 2; have c3 := blk_cell HH.out 3; have c4 := blk_cell HH.out 4; have c5 := blk_cell HH.out 5; have c6 := blk_cell HH.out 6))
          clear kb HPUT HREO
          go_upto_region 23 with fail
          clear c0 c1 c2 c3 c4 c5 c6
          have hb := below_alloc (Below.refl w16.heap.size w16) (Obj.cells #[Value.int IntKind.i64 a0_0, Value.int IntKind.i64 a0_1, Value.int IntKind.i64 a0_2, Value.int IntKind.u64 a0_3, Value.int IntKind.u64 a0_8, Value.int IntKind.i64 a0_5, Value.int IntKind.i64 a0_6] 50)
          have HBG := heap_alloc_new w16 (Obj.cells #[Value.int IntKind.i64 a0_0, Value.int IntKind.i64 a0_1, Value.int IntKind.i64 a0_2, Value.int IntKind.u64 a0_3, Value.int IntKind.u64 a0_8, Value.int IntKind.i64 a0_5, Value.int IntKind.i64 a0_6] 50)
          generalize w16.alloc (Obj.cells #[Value.int IntKind.i64 a0_0, Value.int IntKind.i64 a0_1, Value.int IntKind.i64 a0_2, Value.int IntKind.u64 a0_3, Value.int IntKind.u64 a0_8, Value.int IntKind.i64 a0_5, Value.int IntKind.i64 a0_6] 50) = W0 at hb HBG ⊢
          replace HSTR := Aside0.mk (HSTR.out.step hb)
          replace B1 := Aside0.mk (below_then B1.out B1.out.size hb)
          generalize w16.heap.size = gg at HBG ⊢
          replace HBG := Aside0.mk HBG
          clear hb HH
          have B0 := Aside0.mk (below_drew1 (Below.refl W0.heap.size W0))
          refine start_ (n := 14) (S := fun w' => True) (ds := []) #[false, false, false, false, false, false, false, false, false, false, false, false, false, false] (by kernel_rfl) rfl rfl trivial (fun hHeld => ?_)
          refine with_tabW wagtaillaw15_PageReopens.tab23 wagtaillaw15_PageReopens.bits23 (fun HT_ HW_ => ?_)
          generalize W0.drew = wq at B0 hHeld ⊢
          refine inv_at [0, 1, 2, 3, 4, 5, 6, 7, 8, 9, 10, 11, 12, 13] (fun a0_ b a w' => a = putSel a0_ b [(0, 150, .bool true), (1, 151, .bool true), (2, 152, .slice Ax 256 cx), (3, 153, .string xg), (4, 154, .agg #[.int .i64 a0_0, .int .i64 a0_1, .int .i64 a0_2, .int .u64 a0_3, .int .u64 a0_8, .int .i64 a0_5, .int .i64 a0_6]), (5, 155, .string a0_7), (6, 156, .string xg), (7, 157, .bool true), (8, 158, .bool true), (9, 159, .bool true), (10, 160, .int .i64 0), (11, 161, .bool true), (12, 162, .bool true), (13, 2, .bool true)] ∧ (Below W0.heap.size W0 w')) HT_.out HW_.out (by kernel_rfl) (by kernel_rfl) ?_ ?_ ?_
          · exact ⟨by simp only [putSel, Bool.false_eq_true, if_false], B0.out⟩
          · skip
            clear B0
            refine steps_cons ?_ ?_
            · rintro b a w' ⟨ha, Q_B0⟩ hb_ hon hoff
              refine ⟨_, rfl, fun K hK => ?_⟩
              replace ha := Aside0.mk ha
              have B0 := Aside0.mk Q_B0
              refine goes_ Try.func36 (by kernel_rfl) rfl #[] (by rfl) rfl rfl (by first | (simp only [List.map_toArray, List.map_cons, List.map_nil, Act.eval, Array.getD_eq_getD_getElem?, Option.getD_some]; done) | (simp only [List.map_toArray, List.map_cons, List.map_nil, Act.eval, Array.getD_eq_getD_getElem?, Option.getD_some]; rfl)) ?_
              with_reducible refine (PG.awake_calls _).mono ?_
              rintro e w2 ⟨rfl, hb⟩
              refine ⟨_, rfl, ?_⟩
              refine hK.out _ _ ⟨(by rw [ha.out]; exact putSel_upk 0 hb_ rfl rfl rfl), below_then B0.out B0.out.size hb⟩
            refine steps_cons ?_ ?_
            · rintro b a w' ⟨ha, Q_B0⟩ hb_ hon hoff
              refine ⟨_, rfl, fun K hK => ?_⟩
              have e150 : a.tmps[150]? = some (.bool true) := by rw [ha]; exact putSel_on (e := (0, 150, .bool true)) 0 rfl rfl (hon 0 (by kernel_rfl)) rfl
              replace ha := Aside0.mk ha
              have B0 := Aside0.mk Q_B0
              refine value_ (w1 := w') (v := .bool true) (by rfl) rfl ?_ ?_
              · go_simp
                (try simp only [i64_w])
                try rfl
              refine hK.out _ _ ⟨(by rw [ha.out]; exact putSel_upk 1 hb_ rfl rfl rfl), Q_B0⟩
            refine steps_cons ?_ ?_
            · rintro b a w' ⟨ha, Q_B0⟩ hb_ hon hoff
              refine ⟨_, rfl, fun K hK => ?_⟩
              have e14 : a.tmps[14]? = some (.slice Ax 256 cx) := by rw [ha]; exact (putSel_off rfl).trans rfl
              have e151 : a.tmps[151]? = some (.bool true) := by rw [ha]; exact putSel_on (e := (1, 151, .bool true)) 1 rfl rfl (hon 1 (by kernel_rfl)) rfl
              replace ha := Aside0.mk ha
              have B0 := Aside0.mk Q_B0
              refine value_ (w1 := w') (v := .slice Ax 256 cx) (wanted_on rfl rfl rfl (e151.trans (by first | rfl | (simp [*]; done)))) rfl ?_ ?_
              · go_simp
                (try simp only [i64_w])
                try rfl
              refine hK.out _ _ ⟨(by rw [ha.out]; exact putSel_upk 2 hb_ rfl rfl rfl), Q_B0⟩
            refine steps_cons ?_ ?_
            · rintro b a w' ⟨ha, Q_B0⟩ hb_ hon hoff
              refine ⟨_, rfl, fun K hK => ?_⟩
              have e152 : a.tmps[152]? = some (.slice Ax 256 cx) := by rw [ha]; exact putSel_on (e := (2, 152, .slice Ax 256 cx)) 2 rfl rfl (hon 2 (by kernel_rfl)) rfl
              have e151 : a.tmps[151]? = some (.bool true) := by rw [ha]; exact putSel_on (e := (1, 151, .bool true)) 1 rfl rfl (hon 1 (by kernel_rfl)) rfl
              replace ha := Aside0.mk ha
              have B0 := Aside0.mk Q_B0
              have hs_ := (HSTR.out.step B0.out).here
              refine value_ (w1 := w') (v := .string xg) (wanted_on rfl rfl rfl (e151.trans (by first | rfl | (simp [*]; done)))) rfl ?_ ?_
              · go_simp
                (try simp only [i64_w])
                try rfl
              refine hK.out _ _ ⟨(by rw [ha.out]; exact putSel_upk 3 hb_ rfl rfl rfl), Q_B0⟩
            refine steps_cons ?_ ?_
            · rintro b a w' ⟨ha, Q_B0⟩ hb_ hon hoff
              refine ⟨_, rfl, fun K hK => ?_⟩
              have e16 : a.tmps[16]? = some (.pointer (some ⟨gg, 0, none⟩)) := by rw [ha]; exact (putSel_off rfl).trans rfl
              have e151 : a.tmps[151]? = some (.bool true) := by rw [ha]; exact putSel_on (e := (1, 151, .bool true)) 1 rfl rfl (hon 1 (by kernel_rfl)) rfl
              replace ha := Aside0.mk ha
              have B0 := Aside0.mk Q_B0
              have hb_ := blk_below HBG.out B0.out
              have c0_ := blk_cell hb_ 0
              have c1_ := blk_cell hb_ 1
              have c2_ := blk_cell hb_ 2
              have c3_ := blk_cell hb_ 3
              have c4_ := blk_cell hb_ 4
              have c5_ := blk_cell hb_ 5
              have c6_ := blk_cell hb_ 6
              clear hb_
              refine value_ (w1 := w') (v := .agg #[.int .i64 a0_0, .int .i64 a0_1, .int .i64 a0_2, .int .u64 a0_3, .int .u64 a0_8, .int .i64 a0_5, .int .i64 a0_6]) (wanted_on rfl rfl rfl (e151.trans (by first | rfl | (simp [*]; done)))) rfl ?_ ?_
              · go_simp
                (try simp only [i64_w])
                try rfl
              refine hK.out _ _ ⟨(by rw [ha.out]; exact putSel_upk 4 hb_ rfl rfl rfl), Q_B0⟩
            refine steps_cons ?_ ?_
            · rintro b a w' ⟨ha, Q_B0⟩ hb_ hon hoff
              refine ⟨_, rfl, fun K hK => ?_⟩
              have e4 : a.tmps[4]? = some (.string a0_7) := by rw [ha]; exact (putSel_off rfl).trans rfl
              have e151 : a.tmps[151]? = some (.bool true) := by rw [ha]; exact putSel_on (e := (1, 151, .bool true)) 1 rfl rfl (hon 1 (by kernel_rfl)) rfl
              replace ha := Aside0.mk ha
              have B0 := Aside0.mk Q_B0
              refine value_ (w1 := w') (v := .string a0_7) (wanted_on rfl rfl rfl (e151.trans (by first | rfl | (simp [*]; done)))) rfl ?_ ?_
              · go_simp
                (try simp only [i64_w])
                try rfl
              refine hK.out _ _ ⟨(by rw [ha.out]; exact putSel_upk 5 hb_ rfl rfl rfl), Q_B0⟩
            refine steps_cons ?_ ?_
            · rintro b a w' ⟨ha, Q_B0⟩ hb_ hon hoff
              refine ⟨_, rfl, fun K hK => ?_⟩
              have e154 : a.tmps[154]? = some (.agg #[.int .i64 a0_0, .int .i64 a0_1, .int .i64 a0_2, .int .u64 a0_3, .int .u64 a0_8, .int .i64 a0_5, .int .i64 a0_6]) := by rw [ha]; exact putSel_on (e := (4, 154, .agg #[.int .i64 a0_0, .int .i64 a0_1, .int .i64 a0_2, .int .u64 a0_3, .int .u64 a0_8, .int .i64 a0_5, .int .i64 a0_6])) 4 rfl rfl (hon 4 (by kernel_rfl)) rfl
              have e155 : a.tmps[155]? = some (.string a0_7) := by rw [ha]; exact putSel_on (e := (5, 155, .string a0_7)) 5 rfl rfl (hon 5 (by kernel_rfl)) rfl
              have e151 : a.tmps[151]? = some (.bool true) := by rw [ha]; exact putSel_on (e := (1, 151, .bool true)) 1 rfl rfl (hon 1 (by kernel_rfl)) rfl
              replace ha := Aside0.mk ha
              have B0 := Aside0.mk Q_B0
              refine goes_ Try.func41 (by kernel_rfl) rfl #[.agg #[.int .i64 a0_0, .int .i64 a0_1, .int .i64 a0_2, .int .u64 a0_3, .int .u64 a0_8, .int .i64 a0_5, .int .i64 a0_6], .string a0_7] (wanted_on rfl rfl rfl (e151.trans rfl)) rfl rfl (by first | (simp only [List.map_toArray, List.map_cons, List.map_nil, Act.eval, Array.getD_eq_getD_getElem?, Option.getD_some, e154, e155, e151]; done) | (simp only [List.map_toArray, List.map_cons, List.map_nil, Act.eval, Array.getD_eq_getD_getElem?, Option.getD_some, e154, e155, e151]; rfl)) ?_
              with_reducible refine (HPUG.out _).mono ?_
              rintro e w2 ⟨rfl, hb⟩
              refine ⟨_, rfl, ?_⟩
              refine hK.out _ _ ⟨(by rw [ha.out]; exact putSel_upk 6 hb_ rfl rfl rfl), below_then B0.out B0.out.size hb⟩
            refine steps_cons ?_ ?_
            · rintro b a w' ⟨ha, Q_B0⟩ hb_ hon hoff
              refine ⟨_, rfl, fun K hK => ?_⟩
              have e153 : a.tmps[153]? = some (.string xg) := by rw [ha]; exact putSel_on (e := (3, 153, .string xg)) 3 rfl rfl (hon 3 (by kernel_rfl)) rfl
              have e156 : a.tmps[156]? = some (.string xg) := by rw [ha]; exact putSel_on (e := (6, 156, .string xg)) 6 rfl rfl (hon 6 (by kernel_rfl)) rfl
              have e151 : a.tmps[151]? = some (.bool true) := by rw [ha]; exact putSel_on (e := (1, 151, .bool true)) 1 rfl rfl (hon 1 (by kernel_rfl)) rfl
              replace ha := Aside0.mk ha
              have B0 := Aside0.mk Q_B0
              refine value_ (w1 := w') (v := .bool true) (wanted_on rfl rfl rfl (e151.trans (by first | rfl | (simp [*]; done)))) rfl ?_ ?_
              · go_simp
                (try simp only [i64_w])
                try rfl
              refine hK.out _ _ ⟨(by rw [ha.out]; exact putSel_upk 7 hb_ rfl rfl rfl), Q_B0⟩
            refine steps_cons ?_ ?_
            · rintro b a w' ⟨ha, Q_B0⟩ hb_ hon hoff
              refine ⟨_, rfl, fun K hK => ?_⟩
              have e151 : a.tmps[151]? = some (.bool true) := by rw [ha]; exact putSel_on (e := (1, 151, .bool true)) 1 rfl rfl (hon 1 (by kernel_rfl)) rfl
              have e157 : a.tmps[157]? = some (.bool true) := by rw [ha]; exact putSel_on (e := (7, 157, .bool true)) 7 rfl rfl (hon 7 (by kernel_rfl)) rfl
              replace ha := Aside0.mk ha
              have B0 := Aside0.mk Q_B0
              refine value_ (w1 := w') (v := .bool true) (by rfl) rfl ?_ ?_
              · go_simp
                (try simp only [i64_w])
                try rfl
              refine hK.out _ _ ⟨(by rw [ha.out]; exact putSel_upk 8 hb_ rfl rfl rfl), Q_B0⟩
            refine steps_cons ?_ ?_
            · rintro b a w' ⟨ha, Q_B0⟩ hb_ hon hoff
              refine ⟨_, rfl, fun K hK => ?_⟩
              have e158 : a.tmps[158]? = some (.bool true) := by rw [ha]; exact putSel_on (e := (8, 158, .bool true)) 8 rfl rfl (hon 8 (by kernel_rfl)) rfl
              replace ha := Aside0.mk ha
              have B0 := Aside0.mk Q_B0
              refine value_ (w1 := w') (v := .bool true) (by rfl) rfl ?_ ?_
              · go_simp
                (try simp only [i64_w])
                try rfl
              refine hK.out _ _ ⟨(by rw [ha.out]; exact putSel_upk 9 hb_ rfl rfl rfl), Q_B0⟩
            refine steps_cons ?_ ?_
            · rintro b a w' ⟨ha, Q_B0⟩ hb_ hon hoff
              refine ⟨_, rfl, fun K hK => ?_⟩
              have e15 : a.tmps[15]? = some (.int .i64 0) := by rw [ha]; exact (putSel_off rfl).trans rfl
              have e159 : a.tmps[159]? = some (.bool true) := by rw [ha]; exact putSel_on (e := (9, 159, .bool true)) 9 rfl rfl (hon 9 (by kernel_rfl)) rfl
              replace ha := Aside0.mk ha
              have B0 := Aside0.mk Q_B0
              refine value_ (w1 := w') (v := .int .i64 0) (wanted_on rfl rfl rfl (e159.trans (by first | rfl | (simp [*]; done)))) rfl ?_ ?_
              · go_simp
                (try simp only [i64_w])
                try rfl
              refine hK.out _ _ ⟨(by rw [ha.out]; exact putSel_upk 10 hb_ rfl rfl rfl), Q_B0⟩
            refine steps_cons ?_ ?_
            · rintro b a w' ⟨ha, Q_B0⟩ hb_ hon hoff
              refine ⟨_, rfl, fun K hK => ?_⟩
              have e160 : a.tmps[160]? = some (.int .i64 0) := by rw [ha]; exact putSel_on (e := (10, 160, .int .i64 0)) 10 rfl rfl (hon 10 (by kernel_rfl)) rfl
              have e159 : a.tmps[159]? = some (.bool true) := by rw [ha]; exact putSel_on (e := (9, 159, .bool true)) 9 rfl rfl (hon 9 (by kernel_rfl)) rfl
              replace ha := Aside0.mk ha
              have B0 := Aside0.mk Q_B0
              refine value_ (w1 := w') (v := .bool true) (wanted_on rfl rfl rfl (e159.trans (by first | rfl | (simp [*]; done)))) rfl ?_ ?_
              · go_simp
                (try simp only [i64_w])
                try rfl
              refine hK.out _ _ ⟨(by rw [ha.out]; exact putSel_upk 11 hb_ rfl rfl rfl), Q_B0⟩
            refine steps_cons ?_ ?_
            · rintro b a w' ⟨ha, Q_B0⟩ hb_ hon hoff
              refine ⟨_, rfl, fun K hK => ?_⟩
              have e159 : a.tmps[159]? = some (.bool true) := by rw [ha]; exact putSel_on (e := (9, 159, .bool true)) 9 rfl rfl (hon 9 (by kernel_rfl)) rfl
              have e161 : a.tmps[161]? = some (.bool true) := by rw [ha]; exact putSel_on (e := (11, 161, .bool true)) 11 rfl rfl (hon 11 (by kernel_rfl)) rfl
              replace ha := Aside0.mk ha
              have B0 := Aside0.mk Q_B0
              refine value_ (w1 := w') (v := .bool true) (by rfl) rfl ?_ ?_
              · go_simp
                (try simp only [i64_w])
                try rfl
              refine hK.out _ _ ⟨(by rw [ha.out]; exact putSel_upk 12 hb_ rfl rfl rfl), Q_B0⟩
            refine steps_cons ?_ ?_
            · rintro b a w' ⟨ha, Q_B0⟩ hb_ hon hoff
              refine ⟨_, rfl, fun K hK => ?_⟩
              have e162 : a.tmps[162]? = some (.bool true) := by rw [ha]; exact putSel_on (e := (12, 162, .bool true)) 12 rfl rfl (hon 12 (by kernel_rfl)) rfl
              replace ha := Aside0.mk ha
              have B0 := Aside0.mk Q_B0
              refine value_ (w1 := w') (v := .bool true) (by rfl) rfl ?_ ?_
              · go_simp
                (try simp only [i64_w])
                try rfl
              refine hK.out _ _ ⟨(by rw [ha.out]; exact putSel_upk 13 hb_ rfl rfl rfl), Q_B0⟩
            exact steps_nil
          rintro b a wl23 hall ⟨ha, Q_B0⟩
          clear B0
          have hb0_ := hall 0 (by kernel_rfl)
          have hb1_ := hall 1 (by kernel_rfl)
          have hb2_ := hall 2 (by kernel_rfl)
          have hb3_ := hall 3 (by kernel_rfl)
          have hb4_ := hall 4 (by kernel_rfl)
          have hb5_ := hall 5 (by kernel_rfl)
          have hb6_ := hall 6 (by kernel_rfl)
          have hb7_ := hall 7 (by kernel_rfl)
          have hb8_ := hall 8 (by kernel_rfl)
          have hb9_ := hall 9 (by kernel_rfl)
          have hb10_ := hall 10 (by kernel_rfl)
          have hb11_ := hall 11 (by kernel_rfl)
          have hb12_ := hall 12 (by kernel_rfl)
          have hb13_ := hall 13 (by kernel_rfl)
          subst ha
          simp only [putSel, hb0_, hb1_, hb2_, hb3_, hb4_, hb5_, hb6_, hb7_, hb8_, hb9_, hb10_, hb11_, hb12_, hb13_, if_true, Act.put, List.setIfInBounds_toArray, List.set_cons_zero, List.set_cons_succ]
          have B0 := Aside0.mk Q_B0
          clear Q_B0
          clear hall hb0_ hb1_ hb2_ hb3_ hb4_ hb5_ hb6_ hb7_ hb8_ hb9_ hb10_ hb11_ hb12_ hb13_
          clear HT_ HW_
          have HFIN := Aside0.mk (below_then B1.out B1.out.size B0.out)
          go_wp2_with fail
          go_ret
          exact ⟨rfl, HFIN.out⟩
  · have e0 : n0 = 1 := by rw [HN.out.1, hc]; decide
    have e1 : n1 = 1 := by rw [HN.out.2.1, hc]; decide
    have e2 : n2 = 0 := by rw [HN.out.2.2, hc]; decide
    rw [e0, e1, e2] at HZ7
    have HR := Aside0.mk (HR5.out 1 hc)
    replace h252 := Aside0.mk h252
    clear e0 e1 e2 HR5 hc
    go_upto_region 8 with ((go_at_call 43); (with_reducible refine (HR.out _).mono ?_); rintro e w6 ⟨rfl, hb⟩; replace B1 := Aside0.mk (below_then B1.out B1.out.size hb); replace HH := Aside0.mk (blk_below HH.out hb); replace HZ7 := Aside0.mk (blk_below HZ7.out hb); replace HCB := Aside0.mk (Kd.C_below HCB.out hb); clear hb)
    clear HR hs5
    have hb := below_alloc (Below.refl w6.heap.size w6) (Obj.cells #[Value.int IntKind.i64 1, Value.int IntKind.i64 1, Value.int IntKind.i64 0] 66)
    have HZ9 := heap_alloc_new w6 (Obj.cells #[Value.int IntKind.i64 1, Value.int IntKind.i64 1, Value.int IntKind.i64 0] 66)
    generalize w6.alloc (Obj.cells #[Value.int IntKind.i64 1, Value.int IntKind.i64 1, Value.int IntKind.i64 0] 66) = W8 at hb HZ9 ⊢
    replace B1 := Aside0.mk (below_then B1.out B1.out.size hb)
    replace HH := Aside0.mk (blk_below HH.out hb)
    replace HZ7 := Aside0.mk (blk_below HZ7.out hb)
    replace HCB := Aside0.mk (Kd.C_below HCB.out hb)
    generalize w6.heap.size = g9 at HZ9 ⊢
    replace HZ9 := Aside0.mk HZ9
    clear hb
    have heq : ∀ W : World, Sem.run Try.prog (Op.equalIn 10000 66 (Value.agg #[Value.int IntKind.i64 1, Value.int IntKind.i64 1, Value.int IntKind.i64 0]) (Value.agg #[Value.int IntKind.i64 1, Value.int IntKind.i64 1, Value.int IntKind.i64 0])) W = .ok true W := fun W => by kernel_rfl
    replace h252 := h252.out
    have HSE := Aside0.mk (wagtaillaw15_PageReopens.seal_none l0_9 h252 A0_9 c0_9 HARG.out.2.2.2.2.1)
    have u3 : decide ((l0_9.length : Int) = 252) = false := decide_eq_false (by omega)
    have u4 : ((l0_9.length : Int) == 252) = false := by simp; omega
    have u5 : ((l0_9.length : Int) != 252) = true := by simp; omega
    clear h252
    go_upto_region 16 with ((go_at_call 48); (with_reducible refine (HSE.out _ HCB.out).mono ?_); rintro e w9 ⟨As, cs, rfl, hb⟩; replace B1 := Aside0.mk (below_then B1.out B1.out.size hb); replace HH := Aside0.mk (blk_below HH.out hb); replace HZ7 := Aside0.mk (blk_below HZ7.out hb); replace HZ9 := Aside0.mk (blk_below HZ9.out hb); replace HCB := Aside0.mk (Kd.C_below HCB.out hb); clear hb; have f0 := blk_cell HZ7.out 0; have d0 := blk_cell HZ9.out 0; have f1 := blk_cell HZ7.out 1; have d1 := blk_cell HZ9.out 1; have f2 := blk_cell HZ7.out 2; have d2 := blk_cell HZ9.out 2)
    replace HCB := Aside0.mk trivial
    clear heq HSE u3 u4 u5 HZ7 HZ9 f0 f1 f2 d0 d1 d2
    go_upto_region 17 with (first
      | ((go_at_call 28); (with_reducible refine (PG.ones_calls 256 (by omega) 256 rfl _).mono ?_); rintro e w12 ⟨Aw, cw, rfl, hcw, hCw, hb⟩; have HWW := Aside0.mk (And.intro hcw hCw); replace B1 := Aside0.mk (below_then B1.out B1.out.size hb); replace HH := Aside0.mk (blk_below HH.out hb); clear hcw hCw hb)
      | ((go_at_call 50); (with_reducible refine (wagtaillaw15_PageReopens.reopen_ones a0_8 HARG.out.2.2.1 _ _ HWW.out.1 _ HWW.out.2).mono ?_); rintro e w13 ⟨vv, rfl, hb⟩; replace B1 := Aside0.mk (below_then B1.out B1.out.size hb); replace HH := Aside0.mk (blk_below HH.out hb); clear hb))
    have c0 := blk_cell HH.out 0
    have c1 := blk_cell HH.out 1
    have c2 := blk_cell HH.out 2
    have c3 := blk_cell HH.out 3
    have c4 := blk_cell HH.out 4
    have c5 := blk_cell HH.out 5
    have c6 := blk_cell HH.out 6
    by_cases hm : headMay a0_0 a0_1 a0_2 a0_3 a0_4 a0_5 a0_6 = true
    case neg =>
      have hmf : headMay a0_0 a0_1 a0_2 a0_3 a0_4 a0_5 a0_6 = false := by simpa using hm
      have HM := Aside0.mk (PG.may_calls a0_0 a0_1 a0_2 a0_3 a0_4 a0_5 a0_6 false hmf)
      clear hm hmf
      go_wp2_with (first
        | ((go_at_call 38); (with_reducible refine (HM.out _).mono ?_); rintro e w14 ⟨rfl, hb⟩; clear c0 c1 c2 c3 c4 c5 c6; replace B1 := Aside0.mk (below_then B1.out B1.out.size hb); replace HH := Aside0.mk (blk_below HH.out hb); have c0 := blk_cell HH.out 0; have c1 := blk_cell HH.out 1; have c2 := blk_cell HH.out 2; have c3 := blk_cell HH.out 3; have c4 := blk_cell HH.out 4; have c5 := blk_cell HH.out 5; have c6 := blk_cell HH.out 6; clear hb)
        | ((go_at_call 36); (with_reducible refine (PG.awake_calls _).mono ?_); rintro e w9 ⟨rfl, hb⟩; replace B1 := Aside0.mk (below_then B1.out B1.out.size hb); replace HH := Aside0.mk (blk_below HH.out hb); clear hb))
      go_ret
      exact ⟨rfl, B1.out⟩
    case pos =>
      have HM := Aside0.mk (PG.may_calls a0_0 a0_1 a0_2 a0_3 a0_4 a0_5 a0_6 true hm)
      by_cases hd : (a0_7.size : Int) = a0_6
      case neg =>
        have d1 : ((a0_7.size : Int) != a0_6) = true := by simpa using hd
        have d2 : ((a0_7.size : Int) == a0_6) = false := by simpa using hd
        clear hm hd
        go_wp2_with (first
          | ((go_at_call 38); (with_reducible refine (HM.out _).mono ?_); rintro e w14 ⟨rfl, hb⟩; clear c0 c1 c2 c3 c4 c5 c6; replace B1 := Aside0.mk (below_then B1.out B1.out.size hb); replace HH := Aside0.mk (blk_below HH.out hb); have c0 := blk_cell HH.out 0; have c1 := blk_cell HH.out 1; have c2 := blk_cell HH.out 2; have c3 := blk_cell HH.out 3; have c4 := blk_cell HH.out 4; have c5 := blk_cell HH.out 5; have c6 := blk_cell HH.out 6; clear hb)
          | ((go_at_call 36); (with_reducible refine (PG.awake_calls _).mono ?_); rintro e w9 ⟨rfl, hb⟩; replace B1 := Aside0.mk (below_then B1.out B1.out.size hb); replace HH := Aside0.mk (blk_below HH.out hb); clear hb))
        go_ret
        exact ⟨rfl, B1.out⟩
      case pos =>
        have d1 : ((a0_7.size : Int) != a0_6) = false := by simpa using hd
        have d2 : ((a0_7.size : Int) == a0_6) = true := by simpa using hd
        obtain ⟨xp, hxp⟩ : ∃ x, x = strOfNums (PG.pageL a0_0 a0_1 a0_2 a0_3 a0_4 a0_5 a0_6 (bytesOf a0_7)) := ⟨_, rfl⟩
        have HPUT := Aside0.mk (PG.rput_calls a0_0 a0_1 a0_2 a0_3 a0_4 a0_5 a0_6 a0_7 hm HARG.out.1 HARG.out.2.1 hd xp hxp)
        have HREO := fun W => wagtaillaw15_PageReopens.reopen_page a0_0 a0_1 a0_2 a0_3 a0_4 a0_5 a0_6 a0_8 a0_7 hm HARG.out.1 HARG.out.2.1 HARG.out.2.2.1 hd xp hxp W
        have hmo := page_Reopen.may_open (op := a0_8) hm
        have HHD := Aside0.mk (And.intro hd hmo)
        clear hm hxp hd hmo
        go_upto_region 19 with (((go_at_call 38); (with_reducible refine (HM.out _).mono ?_); rintro e w14 ⟨rfl, hb⟩; clear c0 c1 c2 c3 c4 c5 c6; replace B1 := Aside0.mk (below_then B1.out B1.out.size hb); replace HH := Aside0.mk (blk_below HH.out hb); have c0 := blk_cell HH.out 0; have c1 := blk_cell HH.out 1; have c2 := blk_cell HH.out 2; have c3 := blk_cell HH.out 3; have c4 := blk_cell HH.out 4; have c5 := blk_cell HH.out 5; have c6 := blk_cell HH.out 6; clear hb))
        clear d1 d2 HM
        have kb := fun W => print_bytes (P := Try.prog) 9 35 5 Try.underlying9 Try.underlying35 Try.underlying5 xp W
        by_cases h31 : a0_8 < 2147483648
        case neg =>
          simp only [if_neg h31, h31, false_implies, true_and] at HREO
          replace HREO := Aside0.mk HREO
          have v1 : decide (2147483648 ≤ a0_8) = true := decide_eq_true (by omega)
          clear h31
          go_wp2_with (first
            | ((go_at_call 41); (with_reducible refine (HPUT.out _).mono ?_); rintro e w15 ⟨rfl, hb⟩; clear c0 c1 c2 c3 c4 c5 c6; replace B1 := Aside0.mk (below_then B1.out B1.out.size hb); replace HH := Aside0.mk (blk_below HH.out hb); clear hb)
            | ((go_at_call 50); (with_reducible refine (HREO.out _).mono ?_); rintro e w16 ⟨Ax, cx, rfl, hb⟩; replace B1 := Aside0.mk (below_then (bytes_below B1.out B1.out.size 5 xp) (bytes_below B1.out B1.out.size 5 xp).size hb); replace HH := Aside0.mk (blk_below ((Lib.bytesWorld_at_old w15 5 xp gb (blk_lt HH.out)).trans HH.out) hb); clear hb)
            | ((go_at_call 36); (with_reducible refine (PG.awake_calls _).mono ?_); rintro e w9 ⟨rfl, hb⟩; replace B1 := Aside0.mk (below_then B1.out B1.out.size hb); replace HH := Aside0.mk (blk_below HH.out hb); clear hb))
          go_ret
          exact ⟨rfl, B1.out⟩
        case pos =>
          simp only [if_pos h31, h31, true_implies] at HREO
          replace HREO := Aside0.mk HREO
          have v1 : decide (2147483648 ≤ a0_8) = false := decide_eq_false (by omega)
          obtain ⟨xg, hxg⟩ : ∃ x, x = strOfNums (PG.pageL a0_0 a0_1 a0_2 a0_3 a0_8 a0_5 a0_6 (bytesOf a0_7)) := ⟨_, rfl⟩
          have HPUG := Aside0.mk (PG.rput_calls a0_0 a0_1 a0_2 a0_3 a0_8 a0_5 a0_6 a0_7 (by rw [HHD.out.2]; exact decide_eq_true h31) HARG.out.1 HARG.out.2.2.1 HHD.out.1 xg hxg)
          have HXG := Aside0.mk hxg
          clear h31 hxg
          go_upto_region 20 with (first
            | ((go_at_call 41); (with_reducible refine (HPUT.out _).mono ?_); rintro e w15 ⟨rfl, hb⟩; clear c0 c1 c2 c3 c4 c5 c6; replace B1 := Aside0.mk (below_then B1.out B1.out.size hb); replace HH := Aside0.mk (blk_below HH.out hb); clear hb)
            | ((go_at_call 50); (with_reducible refine (HREO.out _).mono ?_); rintro e w16 ⟨Ax, cx, rfl, hx, hb⟩; have HSTR := Aside0.mk (PG.str_of_C (cp := cx) hx.2 xg HXG.out); replace B1 := Aside0.mk (below_then (bytes_below B1.out B1.out.size 5 xp) (bytes_below B1.out B1.out.size 5 xp).size hb); replace HH := Aside0.mk (blk_below ((Lib.bytesWorld_at_old w15 5 xp gb (blk_lt HH.out)).trans HH.out) hb); clear hb hx; have c0 := blk_cell HH.out 0; have c1 := blk_cell HH.out 1; have c2 := blk_cell HH.out 2; have c3 := blk_cell HH.out 3; have c4 := blk_cell HH.out 4; have c5 := blk_cell HH.out 5; have c6 := blk_cell HH.out 6))
          clear kb HPUT HREO
          go_upto_region 23 with fail
          clear c0 c1 c2 c3 c4 c5 c6
          have hb := below_alloc (Below.refl w16.heap.size w16) (Obj.cells #[Value.int IntKind.i64 a0_0, Value.int IntKind.i64 a0_1, Value.int IntKind.i64 a0_2, Value.int IntKind.u64 a0_3, Value.int IntKind.u64 a0_8, Value.int IntKind.i64 a0_5, Value.int IntKind.i64 a0_6] 50)
          have HBG := heap_alloc_new w16 (Obj.cells #[Value.int IntKind.i64 a0_0, Value.int IntKind.i64 a0_1, Value.int IntKind.i64 a0_2, Value.int IntKind.u64 a0_3, Value.int IntKind.u64 a0_8, Value.int IntKind.i64 a0_5, Value.int IntKind.i64 a0_6] 50)
          generalize w16.alloc (Obj.cells #[Value.int IntKind.i64 a0_0, Value.int IntKind.i64 a0_1, Value.int IntKind.i64 a0_2, Value.int IntKind.u64 a0_3, Value.int IntKind.u64 a0_8, Value.int IntKind.i64 a0_5, Value.int IntKind.i64 a0_6] 50) = W0 at hb HBG ⊢
          replace HSTR := Aside0.mk (HSTR.out.step hb)
          replace B1 := Aside0.mk (below_then B1.out B1.out.size hb)
          generalize w16.heap.size = gg at HBG ⊢
          replace HBG := Aside0.mk HBG
          clear hb HH
          have B0 := Aside0.mk (below_drew1 (Below.refl W0.heap.size W0))
          refine start_ (n := 14) (S := fun w' => True) (ds := []) #[false, false, false, false, false, false, false, false, false, false, false, false, false, false] (by kernel_rfl) rfl rfl trivial (fun hHeld => ?_)
          refine with_tabW wagtaillaw15_PageReopens.tab23 wagtaillaw15_PageReopens.bits23 (fun HT_ HW_ => ?_)
          generalize W0.drew = wq at B0 hHeld ⊢
          refine inv_at [0, 1, 2, 3, 4, 5, 6, 7, 8, 9, 10, 11, 12, 13] (fun a0_ b a w' => a = putSel a0_ b [(0, 150, .bool true), (1, 151, .bool true), (2, 152, .slice Ax 256 cx), (3, 153, .string xg), (4, 154, .agg #[.int .i64 a0_0, .int .i64 a0_1, .int .i64 a0_2, .int .u64 a0_3, .int .u64 a0_8, .int .i64 a0_5, .int .i64 a0_6]), (5, 155, .string a0_7), (6, 156, .string xg), (7, 157, .bool true), (8, 158, .bool true), (9, 159, .bool true), (10, 160, .int .i64 0), (11, 161, .bool true), (12, 162, .bool true), (13, 2, .bool true)] ∧ (Below W0.heap.size W0 w')) HT_.out HW_.out (by kernel_rfl) (by kernel_rfl) ?_ ?_ ?_
          · exact ⟨by simp only [putSel, Bool.false_eq_true, if_false], B0.out⟩
          · skip
            clear B0
            refine steps_cons ?_ ?_
            · rintro b a w' ⟨ha, Q_B0⟩ hb_ hon hoff
              refine ⟨_, rfl, fun K hK => ?_⟩
              replace ha := Aside0.mk ha
              have B0 := Aside0.mk Q_B0
              refine goes_ Try.func36 (by kernel_rfl) rfl #[] (by rfl) rfl rfl (by first | (simp only [List.map_toArray, List.map_cons, List.map_nil, Act.eval, Array.getD_eq_getD_getElem?, Option.getD_some]; done) | (simp only [List.map_toArray, List.map_cons, List.map_nil, Act.eval, Array.getD_eq_getD_getElem?, Option.getD_some]; rfl)) ?_
              with_reducible refine (PG.awake_calls _).mono ?_
              rintro e w2 ⟨rfl, hb⟩
              refine ⟨_, rfl, ?_⟩
              refine hK.out _ _ ⟨(by rw [ha.out]; exact putSel_upk 0 hb_ rfl rfl rfl), below_then B0.out B0.out.size hb⟩
            refine steps_cons ?_ ?_
            · rintro b a w' ⟨ha, Q_B0⟩ hb_ hon hoff
              refine ⟨_, rfl, fun K hK => ?_⟩
              have e150 : a.tmps[150]? = some (.bool true) := by rw [ha]; exact putSel_on (e := (0, 150, .bool true)) 0 rfl rfl (hon 0 (by kernel_rfl)) rfl
              replace ha := Aside0.mk ha
              have B0 := Aside0.mk Q_B0
              refine value_ (w1 := w') (v := .bool true) (by rfl) rfl ?_ ?_
              · go_simp
                (try simp only [i64_w])
                try rfl
              refine hK.out _ _ ⟨(by rw [ha.out]; exact putSel_upk 1 hb_ rfl rfl rfl), Q_B0⟩
            refine steps_cons ?_ ?_
            · rintro b a w' ⟨ha, Q_B0⟩ hb_ hon hoff
              refine ⟨_, rfl, fun K hK => ?_⟩
              have e14 : a.tmps[14]? = some (.slice Ax 256 cx) := by rw [ha]; exact (putSel_off rfl).trans rfl
              have e151 : a.tmps[151]? = some (.bool true) := by rw [ha]; exact putSel_on (e := (1, 151, .bool true)) 1 rfl rfl (hon 1 (by kernel_rfl)) rfl
              replace ha := Aside0.mk ha
              have B0 := Aside0.mk Q_B0
              refine value_ (w1 := w') (v := .slice Ax 256 cx) (wanted_on rfl rfl rfl (e151.trans (by first | rfl | (simp [*]; done)))) rfl ?_ ?_
              · go_simp
                (try simp only [i64_w])
                try rfl
              refine hK.out _ _ ⟨(by rw [ha.out]; exact putSel_upk 2 hb_ rfl rfl rfl), Q_B0⟩
            refine steps_cons ?_ ?_
            · rintro b a w' ⟨ha, Q_B0⟩ hb_ hon hoff
              refine ⟨_, rfl, fun K hK => ?_⟩
              have e152 : a.tmps[152]? = some (.slice Ax 256 cx) := by rw [ha]; exact putSel_on (e := (2, 152, .slice Ax 256 cx)) 2 rfl rfl (hon 2 (by kernel_rfl)) rfl
              have e151 : a.tmps[151]? = some (.bool true) := by rw [ha]; exact putSel_on (e := (1, 151, .bool true)) 1 rfl rfl (hon 1 (by kernel_rfl)) rfl
              replace ha := Aside0.mk ha
              have B0 := Aside0.mk Q_B0
              have hs_ := (HSTR.out.step B0.out).here
              refine value_ (w1 := w') (v := .string xg) (wanted_on rfl rfl rfl (e151.trans (by first | rfl | (simp [*]; done)))) rfl ?_ ?_
              · go_simp
                (try simp only [i64_w])
                try rfl
              refine hK.out _ _ ⟨(by rw [ha.out]; exact putSel_upk 3 hb_ rfl rfl rfl), Q_B0⟩
            refine steps_cons ?_ ?_
            · rintro b a w' ⟨ha, Q_B0⟩ hb_ hon hoff
              refine ⟨_, rfl, fun K hK => ?_⟩
              have e16 : a.tmps[16]? = some (.pointer (some ⟨gg, 0, none⟩)) := by rw [ha]; exact (putSel_off rfl).trans rfl
              have e151 : a.tmps[151]? = some (.bool true) := by rw [ha]; exact putSel_on (e := (1, 151, .bool true)) 1 rfl rfl (hon 1 (by kernel_rfl)) rfl
              replace ha := Aside0.mk ha
              have B0 := Aside0.mk Q_B0
              have hb_ := blk_below HBG.out B0.out
              have c0_ := blk_cell hb_ 0
              have c1_ := blk_cell hb_ 1
              have c2_ := blk_cell hb_ 2
              have c3_ := blk_cell hb_ 3
              have c4_ := blk_cell hb_ 4
              have c5_ := blk_cell hb_ 5
              have c6_ := blk_cell hb_ 6
              clear hb_
              refine value_ (w1 := w') (v := .agg #[.int .i64 a0_0, .int .i64 a0_1, .int .i64 a0_2, .int .u64 a0_3, .int .u64 a0_8, .int .i64 a0_5, .int .i64 a0_6]) (wanted_on rfl rfl rfl (e151.trans (by first | rfl | (simp [*]; done)))) rfl ?_ ?_
              · go_simp
                (try simp only [i64_w])
                try rfl
              refine hK.out _ _ ⟨(by rw [ha.out]; exact putSel_upk 4 hb_ rfl rfl rfl), Q_B0⟩
            refine steps_cons ?_ ?_
            · rintro b a w' ⟨ha, Q_B0⟩ hb_ hon hoff
              refine ⟨_, rfl, fun K hK => ?_⟩
              have e4 : a.tmps[4]? = some (.string a0_7) := by rw [ha]; exact (putSel_off rfl).trans rfl
              have e151 : a.tmps[151]? = some (.bool true) := by rw [ha]; exact putSel_on (e := (1, 151, .bool true)) 1 rfl rfl (hon 1 (by kernel_rfl)) rfl
              replace ha := Aside0.mk ha
              have B0 := Aside0.mk Q_B0
              refine value_ (w1 := w') (v := .string a0_7) (wanted_on rfl rfl rfl (e151.trans (by first | rfl | (simp [*]; done)))) rfl ?_ ?_
              · go_simp
                (try simp only [i64_w])
                try rfl
              refine hK.out _ _ ⟨(by rw [ha.out]; exact putSel_upk 5 hb_ rfl rfl rfl), Q_B0⟩
            refine steps_cons ?_ ?_
            · rintro b a w' ⟨ha, Q_B0⟩ hb_ hon hoff
              refine ⟨_, rfl, fun K hK => ?_⟩
              have e154 : a.tmps[154]? = some (.agg #[.int .i64 a0_0, .int .i64 a0_1, .int .i64 a0_2, .int .u64 a0_3, .int .u64 a0_8, .int .i64 a0_5, .int .i64 a0_6]) := by rw [ha]; exact putSel_on (e := (4, 154, .agg #[.int .i64 a0_0, .int .i64 a0_1, .int .i64 a0_2, .int .u64 a0_3, .int .u64 a0_8, .int .i64 a0_5, .int .i64 a0_6])) 4 rfl rfl (hon 4 (by kernel_rfl)) rfl
              have e155 : a.tmps[155]? = some (.string a0_7) := by rw [ha]; exact putSel_on (e := (5, 155, .string a0_7)) 5 rfl rfl (hon 5 (by kernel_rfl)) rfl
              have e151 : a.tmps[151]? = some (.bool true) := by rw [ha]; exact putSel_on (e := (1, 151, .bool true)) 1 rfl rfl (hon 1 (by kernel_rfl)) rfl
              replace ha := Aside0.mk ha
              have B0 := Aside0.mk Q_B0
              refine goes_ Try.func41 (by kernel_rfl) rfl #[.agg #[.int .i64 a0_0, .int .i64 a0_1, .int .i64 a0_2, .int .u64 a0_3, .int .u64 a0_8, .int .i64 a0_5, .int .i64 a0_6], .string a0_7] (wanted_on rfl rfl rfl (e151.trans rfl)) rfl rfl (by first | (simp only [List.map_toArray, List.map_cons, List.map_nil, Act.eval, Array.getD_eq_getD_getElem?, Option.getD_some, e154, e155, e151]; done) | (simp only [List.map_toArray, List.map_cons, List.map_nil, Act.eval, Array.getD_eq_getD_getElem?, Option.getD_some, e154, e155, e151]; rfl)) ?_
              with_reducible refine (HPUG.out _).mono ?_
              rintro e w2 ⟨rfl, hb⟩
              refine ⟨_, rfl, ?_⟩
              refine hK.out _ _ ⟨(by rw [ha.out]; exact putSel_upk 6 hb_ rfl rfl rfl), below_then B0.out B0.out.size hb⟩
            refine steps_cons ?_ ?_
            · rintro b a w' ⟨ha, Q_B0⟩ hb_ hon hoff
              refine ⟨_, rfl, fun K hK => ?_⟩
              have e153 : a.tmps[153]? = some (.string xg) := by rw [ha]; exact putSel_on (e := (3, 153, .string xg)) 3 rfl rfl (hon 3 (by kernel_rfl)) rfl
              have e156 : a.tmps[156]? = some (.string xg) := by rw [ha]; exact putSel_on (e := (6, 156, .string xg)) 6 rfl rfl (hon 6 (by kernel_rfl)) rfl
              have e151 : a.tmps[151]? = some (.bool true) := by rw [ha]; exact putSel_on (e := (1, 151, .bool true)) 1 rfl rfl (hon 1 (by kernel_rfl)) rfl
              replace ha := Aside0.mk ha
              have B0 := Aside0.mk Q_B0
              refine value_ (w1 := w') (v := .bool true) (wanted_on rfl rfl rfl (e151.trans (by first | rfl | (simp [*]; done)))) rfl ?_ ?_
              · go_simp
                (try simp only [i64_w])
                try rfl
              refine hK.out _ _ ⟨(by rw [ha.out]; exact putSel_upk 7 hb_ rfl rfl rfl), Q_B0⟩
            refine steps_cons ?_ ?_
            · rintro b a w' ⟨ha, Q_B0⟩ hb_ hon hoff
              refine ⟨_, rfl, fun K hK => ?_⟩
              have e151 : a.tmps[151]? = some (.bool true) := by rw [ha]; exact putSel_on (e := (1, 151, .bool true)) 1 rfl rfl (hon 1 (by kernel_rfl)) rfl
              have e157 : a.tmps[157]? = some (.bool true) := by rw [ha]; exact putSel_on (e := (7, 157, .bool true)) 7 rfl rfl (hon 7 (by kernel_rfl)) rfl
              replace ha := Aside0.mk ha
              have B0 := Aside0.mk Q_B0
              refine value_ (w1 := w') (v := .bool true) (by rfl) rfl ?_ ?_
              · go_simp
                (try simp only [i64_w])
                try rfl
              refine hK.out _ _ ⟨(by rw [ha.out]; exact putSel_upk 8 hb_ rfl rfl rfl), Q_B0⟩
            refine steps_cons ?_ ?_
            · rintro b a w' ⟨ha, Q_B0⟩ hb_ hon hoff
              refine ⟨_, rfl, fun K hK => ?_⟩
              have e158 : a.tmps[158]? = some (.bool true) := by rw [ha]; exact putSel_on (e := (8, 158, .bool true)) 8 rfl rfl (hon 8 (by kernel_rfl)) rfl
              replace ha := Aside0.mk ha
              have B0 := Aside0.mk Q_B0
              refine value_ (w1 := w') (v := .bool true) (by rfl) rfl ?_ ?_
              · go_simp
                (try simp only [i64_w])
                try rfl
              refine hK.out _ _ ⟨(by rw [ha.out]; exact putSel_upk 9 hb_ rfl rfl rfl), Q_B0⟩
            refine steps_cons ?_ ?_
            · rintro b a w' ⟨ha, Q_B0⟩ hb_ hon hoff
              refine ⟨_, rfl, fun K hK => ?_⟩
              have e15 : a.tmps[15]? = some (.int .i64 0) := by rw [ha]; exact (putSel_off rfl).trans rfl
              have e159 : a.tmps[159]? = some (.bool true) := by rw [ha]; exact putSel_on (e := (9, 159, .bool true)) 9 rfl rfl (hon 9 (by kernel_rfl)) rfl
              replace ha := Aside0.mk ha
              have B0 := Aside0.mk Q_B0
              refine value_ (w1 := w') (v := .int .i64 0) (wanted_on rfl rfl rfl (e159.trans (by first | rfl | (simp [*]; done)))) rfl ?_ ?_
              · go_simp
                (try simp only [i64_w])
                try rfl
              refine hK.out _ _ ⟨(by rw [ha.out]; exact putSel_upk 10 hb_ rfl rfl rfl), Q_B0⟩
            refine steps_cons ?_ ?_
            · rintro b a w' ⟨ha, Q_B0⟩ hb_ hon hoff
              refine ⟨_, rfl, fun K hK => ?_⟩
              have e160 : a.tmps[160]? = some (.int .i64 0) := by rw [ha]; exact putSel_on (e := (10, 160, .int .i64 0)) 10 rfl rfl (hon 10 (by kernel_rfl)) rfl
              have e159 : a.tmps[159]? = some (.bool true) := by rw [ha]; exact putSel_on (e := (9, 159, .bool true)) 9 rfl rfl (hon 9 (by kernel_rfl)) rfl
              replace ha := Aside0.mk ha
              have B0 := Aside0.mk Q_B0
              refine value_ (w1 := w') (v := .bool true) (wanted_on rfl rfl rfl (e159.trans (by first | rfl | (simp [*]; done)))) rfl ?_ ?_
              · go_simp
                (try simp only [i64_w])
                try rfl
              refine hK.out _ _ ⟨(by rw [ha.out]; exact putSel_upk 11 hb_ rfl rfl rfl), Q_B0⟩
            refine steps_cons ?_ ?_
            · rintro b a w' ⟨ha, Q_B0⟩ hb_ hon hoff
              refine ⟨_, rfl, fun K hK => ?_⟩
              have e159 : a.tmps[159]? = some (.bool true) := by rw [ha]; exact putSel_on (e := (9, 159, .bool true)) 9 rfl rfl (hon 9 (by kernel_rfl)) rfl
              have e161 : a.tmps[161]? = some (.bool true) := by rw [ha]; exact putSel_on (e := (11, 161, .bool true)) 11 rfl rfl (hon 11 (by kernel_rfl)) rfl
              replace ha := Aside0.mk ha
              have B0 := Aside0.mk Q_B0
              refine value_ (w1 := w') (v := .bool true) (by rfl) rfl ?_ ?_
              · go_simp
                (try simp only [i64_w])
                try rfl
              refine hK.out _ _ ⟨(by rw [ha.out]; exact putSel_upk 12 hb_ rfl rfl rfl), Q_B0⟩
            refine steps_cons ?_ ?_
            · rintro b a w' ⟨ha, Q_B0⟩ hb_ hon hoff
              refine ⟨_, rfl, fun K hK => ?_⟩
              have e162 : a.tmps[162]? = some (.bool true) := by rw [ha]; exact putSel_on (e := (12, 162, .bool true)) 12 rfl rfl (hon 12 (by kernel_rfl)) rfl
              replace ha := Aside0.mk ha
              have B0 := Aside0.mk Q_B0
              refine value_ (w1 := w') (v := .bool true) (by rfl) rfl ?_ ?_
              · go_simp
                (try simp only [i64_w])
                try rfl
              refine hK.out _ _ ⟨(by rw [ha.out]; exact putSel_upk 13 hb_ rfl rfl rfl), Q_B0⟩
            exact steps_nil
          rintro b a wl23 hall ⟨ha, Q_B0⟩
          clear B0
          have hb0_ := hall 0 (by kernel_rfl)
          have hb1_ := hall 1 (by kernel_rfl)
          have hb2_ := hall 2 (by kernel_rfl)
          have hb3_ := hall 3 (by kernel_rfl)
          have hb4_ := hall 4 (by kernel_rfl)
          have hb5_ := hall 5 (by kernel_rfl)
          have hb6_ := hall 6 (by kernel_rfl)
          have hb7_ := hall 7 (by kernel_rfl)
          have hb8_ := hall 8 (by kernel_rfl)
          have hb9_ := hall 9 (by kernel_rfl)
          have hb10_ := hall 10 (by kernel_rfl)
          have hb11_ := hall 11 (by kernel_rfl)
          have hb12_ := hall 12 (by kernel_rfl)
          have hb13_ := hall 13 (by kernel_rfl)
          subst ha
          simp only [putSel, hb0_, hb1_, hb2_, hb3_, hb4_, hb5_, hb6_, hb7_, hb8_, hb9_, hb10_, hb11_, hb12_, hb13_, if_true, Act.put, List.setIfInBounds_toArray, List.set_cons_zero, List.set_cons_succ]
          have B0 := Aside0.mk Q_B0
          clear Q_B0
          clear hall hb0_ hb1_ hb2_ hb3_ hb4_ hb5_ hb6_ hb7_ hb8_ hb9_ hb10_ hb11_ hb12_ hb13_
          clear HT_ HW_
          have HFIN := Aside0.mk (below_then B1.out B1.out.size B0.out)
          go_wp2_with fail
          go_ret
          exact ⟨rfl, HFIN.out⟩
  · have e0 : n0 = 1 := by rw [HN.out.1, hc]; decide
    have e1 : n1 = 0 := by rw [HN.out.2.1, hc]; decide
    have e2 : n2 = 1 := by rw [HN.out.2.2, hc]; decide
    rw [e0, e1, e2] at HZ7
    have HR := Aside0.mk (HR5.out 2 hc)
    replace h252 := Aside0.mk h252
    clear e0 e1 e2 HR5 hc
    go_upto_region 8 with ((go_at_call 43); (with_reducible refine (HR.out _).mono ?_); rintro e w6 ⟨rfl, hb⟩; replace B1 := Aside0.mk (below_then B1.out B1.out.size hb); replace HH := Aside0.mk (blk_below HH.out hb); replace HZ7 := Aside0.mk (blk_below HZ7.out hb); replace HCB := Aside0.mk (Kd.C_below HCB.out hb); clear hb)
    clear HR hs5
    have hb := below_alloc (Below.refl w6.heap.size w6) (Obj.cells #[Value.int IntKind.i64 1, Value.int IntKind.i64 0, Value.int IntKind.i64 1] 66)
    have HZ9 := heap_alloc_new w6 (Obj.cells #[Value.int IntKind.i64 1, Value.int IntKind.i64 0, Value.int IntKind.i64 1] 66)
    generalize w6.alloc (Obj.cells #[Value.int IntKind.i64 1, Value.int IntKind.i64 0, Value.int IntKind.i64 1] 66) = W8 at hb HZ9 ⊢
    replace B1 := Aside0.mk (below_then B1.out B1.out.size hb)
    replace HH := Aside0.mk (blk_below HH.out hb)
    replace HZ7 := Aside0.mk (blk_below HZ7.out hb)
    replace HCB := Aside0.mk (Kd.C_below HCB.out hb)
    generalize w6.heap.size = g9 at HZ9 ⊢
    replace HZ9 := Aside0.mk HZ9
    clear hb
    have heq : ∀ W : World, Sem.run Try.prog (Op.equalIn 10000 66 (Value.agg #[Value.int IntKind.i64 1, Value.int IntKind.i64 0, Value.int IntKind.i64 1]) (Value.agg #[Value.int IntKind.i64 1, Value.int IntKind.i64 0, Value.int IntKind.i64 1])) W = .ok true W := fun W => by kernel_rfl
    replace h252 := h252.out
    have HSE := Aside0.mk (wagtaillaw15_PageReopens.seal_none l0_9 h252 A0_9 c0_9 HARG.out.2.2.2.2.1)
    have u3 : decide ((l0_9.length : Int) = 252) = false := decide_eq_false (by omega)
    have u4 : ((l0_9.length : Int) == 252) = false := by simp; omega
    have u5 : ((l0_9.length : Int) != 252) = true := by simp; omega
    clear h252
    go_upto_region 16 with ((go_at_call 48); (with_reducible refine (HSE.out _ HCB.out).mono ?_); rintro e w9 ⟨As, cs, rfl, hb⟩; replace B1 := Aside0.mk (below_then B1.out B1.out.size hb); replace HH := Aside0.mk (blk_below HH.out hb); replace HZ7 := Aside0.mk (blk_below HZ7.out hb); replace HZ9 := Aside0.mk (blk_below HZ9.out hb); replace HCB := Aside0.mk (Kd.C_below HCB.out hb); clear hb; have f0 := blk_cell HZ7.out 0; have d0 := blk_cell HZ9.out 0; have f1 := blk_cell HZ7.out 1; have d1 := blk_cell HZ9.out 1; have f2 := blk_cell HZ7.out 2; have d2 := blk_cell HZ9.out 2)
    replace HCB := Aside0.mk trivial
    clear heq HSE u3 u4 u5 HZ7 HZ9 f0 f1 f2 d0 d1 d2
    go_upto_region 17 with (first
      | ((go_at_call 28); (with_reducible refine (PG.ones_calls 256 (by omega) 256 rfl _).mono ?_); rintro e w12 ⟨Aw, cw, rfl, hcw, hCw, hb⟩; have HWW := Aside0.mk (And.intro hcw hCw); replace B1 := Aside0.mk (below_then B1.out B1.out.size hb); replace HH := Aside0.mk (blk_below HH.out hb); clear hcw hCw hb)
      | ((go_at_call 50); (with_reducible refine (wagtaillaw15_PageReopens.reopen_ones a0_8 HARG.out.2.2.1 _ _ HWW.out.1 _ HWW.out.2).mono ?_); rintro e w13 ⟨vv, rfl, hb⟩; replace B1 := Aside0.mk (below_then B1.out B1.out.size hb); replace HH := Aside0.mk (blk_below HH.out hb); clear hb))
    have c0 := blk_cell HH.out 0
    have c1 := blk_cell HH.out 1
    have c2 := blk_cell HH.out 2
    have c3 := blk_cell HH.out 3
    have c4 := blk_cell HH.out 4
    have c5 := blk_cell HH.out 5
    have c6 := blk_cell HH.out 6
    by_cases hm : headMay a0_0 a0_1 a0_2 a0_3 a0_4 a0_5 a0_6 = true
    case neg =>
      have hmf : headMay a0_0 a0_1 a0_2 a0_3 a0_4 a0_5 a0_6 = false := by simpa using hm
      have HM := Aside0.mk (PG.may_calls a0_0 a0_1 a0_2 a0_3 a0_4 a0_5 a0_6 false hmf)
      clear hm hmf
      go_wp2_with (first
        | ((go_at_call 38); (with_reducible refine (HM.out _).mono ?_); rintro e w14 ⟨rfl, hb⟩; clear c0 c1 c2 c3 c4 c5 c6; replace B1 := Aside0.mk (below_then B1.out B1.out.size hb); replace HH := Aside0.mk (blk_below HH.out hb); have c0 := blk_cell HH.out 0; have c1 := blk_cell HH.out 1; have c2 := blk_cell HH.out 2; have c3 := blk_cell HH.out 3; have c4 := blk_cell HH.out 4; have c5 := blk_cell HH.out 5; have c6 := blk_cell HH.out 6; clear hb)
        | ((go_at_call 36); (with_reducible refine (PG.awake_calls _).mono ?_); rintro e w9 ⟨rfl, hb⟩; replace B1 := Aside0.mk (below_then B1.out B1.out.size hb); replace HH := Aside0.mk (blk_below HH.out hb); clear hb))
      go_ret
      exact ⟨rfl, B1.out⟩
    case pos =>
      have HM := Aside0.mk (PG.may_calls a0_0 a0_1 a0_2 a0_3 a0_4 a0_5 a0_6 true hm)
      by_cases hd : (a0_7.size : Int) = a0_6
      case neg =>
        have d1 : ((a0_7.size : Int) != a0_6) = true := by simpa using hd
        have d2 : ((a0_7.size : Int) == a0_6) = false := by simpa using hd
        clear hm hd
        go_wp2_with (first
          | ((go_at_call 38); (with_reducible refine (HM.out _).mono ?_); rintro e w14 ⟨rfl, hb⟩; clear c0 c1 c2 c3 c4 c5 c6; replace B1 := Aside0.mk (below_then B1.out B1.out.size hb); replace HH := Aside0.mk (blk_below HH.out hb); have c0 := blk_cell HH.out 0; have c1 := blk_cell HH.out 1; have c2 := blk_cell HH.out 2; have c3 := blk_cell HH.out 3; have c4 := blk_cell HH.out 4; have c5 := blk_cell HH.out 5; have c6 := blk_cell HH.out 6; clear hb)
          | ((go_at_call 36); (with_reducible refine (PG.awake_calls _).mono ?_); rintro e w9 ⟨rfl, hb⟩; replace B1 := Aside0.mk (below_then B1.out B1.out.size hb); replace HH := Aside0.mk (blk_below HH.out hb); clear hb))
        go_ret
        exact ⟨rfl, B1.out⟩
      case pos =>
        have d1 : ((a0_7.size : Int) != a0_6) = false := by simpa using hd
        have d2 : ((a0_7.size : Int) == a0_6) = true := by simpa using hd
        obtain ⟨xp, hxp⟩ : ∃ x, x = strOfNums (PG.pageL a0_0 a0_1 a0_2 a0_3 a0_4 a0_5 a0_6 (bytesOf a0_7)) := ⟨_, rfl⟩
        have HPUT := Aside0.mk (PG.rput_calls a0_0 a0_1 a0_2 a0_3 a0_4 a0_5 a0_6 a0_7 hm HARG.out.1 HARG.out.2.1 hd xp hxp)
        have HREO := fun W => wagtaillaw15_PageReopens.reopen_page a0_0 a0_1 a0_2 a0_3 a0_4 a0_5 a0_6 a0_8 a0_7 hm HARG.out.1 HARG.out.2.1 HARG.out.2.2.1 hd xp hxp W
        have hmo := page_Reopen.may_open (op := a0_8) hm
        have HHD := Aside0.mk (And.intro hd hmo)
        clear hm hxp hd hmo
        go_upto_region 19 with (((go_at_call 38); (with_reducible refine (HM.out _).mono ?_); rintro e w14 ⟨rfl, hb⟩; clear c0 c1 c2 c3 c4 c5 c6; replace B1 := Aside0.mk (below_then B1.out B1.out.size hb); replace HH := Aside0.mk (blk_below HH.out hb); have c0 := blk_cell HH.out 0; have c1 := blk_cell HH.out 1; have c2 := blk_cell HH.out 2; have c3 := blk_cell HH.out 3; have c4 := blk_cell HH.out 4; have c5 := blk_cell HH.out 5; have c6 := blk_cell HH.out 6; clear hb))
        clear d1 d2 HM
        have kb := fun W => print_bytes (P := Try.prog) 9 35 5 Try.underlying9 Try.underlying35 Try.underlying5 xp W
        by_cases h31 : a0_8 < 2147483648
        case neg =>
          simp only [if_neg h31, h31, false_implies, true_and] at HREO
          replace HREO := Aside0.mk HREO
          have v1 : decide (2147483648 ≤ a0_8) = true := decide_eq_true (by omega)
          clear h31
          go_wp2_with (first
            | ((go_at_call 41); (with_reducible refine (HPUT.out _).mono ?_); rintro e w15 ⟨rfl, hb⟩; clear c0 c1 c2 c3 c4 c5 c6; replace B1 := Aside0.mk (below_then B1.out B1.out.size hb); replace HH := Aside0.mk (blk_below HH.out hb); clear hb)
            | ((go_at_call 50); (with_reducible refine (HREO.out _).mono ?_); rintro e w16 ⟨Ax, cx, rfl, hb⟩; replace B1 := Aside0.mk (below_then (bytes_below B1.out B1.out.size 5 xp) (bytes_below B1.out B1.out.size 5 xp).size hb); replace HH := Aside0.mk (blk_below ((Lib.bytesWorld_at_old w15 5 xp gb (blk_lt HH.out)).trans HH.out) hb); clear hb)
            | ((go_at_call 36); (with_reducible refine (PG.awake_calls _).mono ?_); rintro e w9 ⟨rfl, hb⟩; replace B1 := Aside0.mk (below_then B1.out B1.out.size hb); replace HH := Aside0.mk (blk_below HH.out hb); clear hb))
          go_ret
          exact ⟨rfl, B1.out⟩
        case pos =>
          simp only [if_pos h31, h31, true_implies] at HREO
          replace HREO := Aside0.mk HREO
          have v1 : decide (2147483648 ≤ a0_8) = false := decide_eq_false (by omega)
          obtain ⟨xg, hxg⟩ : ∃ x, x = strOfNums (PG.pageL a0_0 a0_1 a0_2 a0_3 a0_8 a0_5 a0_6 (bytesOf a0_7)) := ⟨_, rfl⟩
          have HPUG := Aside0.mk (PG.rput_calls a0_0 a0_1 a0_2 a0_3 a0_8 a0_5 a0_6 a0_7 (by rw [HHD.out.2]; exact decide_eq_true h31) HARG.out.1 HARG.out.2.2.1 HHD.out.1 xg hxg)
          have HXG := Aside0.mk hxg
          clear h31 hxg
          go_upto_region 20 with (first
            | ((go_at_call 41); (with_reducible refine (HPUT.out _).mono ?_); rintro e w15 ⟨rfl, hb⟩; clear c0 c1 c2 c3 c4 c5 c6; replace B1 := Aside0.mk (below_then B1.out B1.out.size hb); replace HH := Aside0.mk (blk_below HH.out hb); clear hb)
            | ((go_at_call 50); (with_reducible refine (HREO.out _).mono ?_); rintro e w16 ⟨Ax, cx, rfl, hx, hb⟩; have HSTR := Aside0.mk (PG.str_of_C (cp := cx) hx.2 xg HXG.out); replace B1 := Aside0.mk (below_then (bytes_below B1.out B1.out.size 5 xp) (bytes_below B1.out B1.out.size 5 xp).size hb); replace HH := Aside0.mk (blk_below ((Lib.bytesWorld_at_old w15 5 xp gb (blk_lt HH.out)).trans HH.out) hb); clear hb hx; have c0 := blk_cell HH.out 0; have c1 := blk_cell HH.out 1; have c2 := blk_cell HH.out 2; have c3 := blk_cell HH.out 3; have c4 := blk_cell HH.out 4; have c5 := blk_cell HH.out 5; have c6 := blk_cell HH.out 6))
          clear kb HPUT HREO
          go_upto_region 23 with fail
          clear c0 c1 c2 c3 c4 c5 c6
          have hb := below_alloc (Below.refl w16.heap.size w16) (Obj.cells #[Value.int IntKind.i64 a0_0, Value.int IntKind.i64 a0_1, Value.int IntKind.i64 a0_2, Value.int IntKind.u64 a0_3, Value.int IntKind.u64 a0_8, Value.int IntKind.i64 a0_5, Value.int IntKind.i64 a0_6] 50)
          have HBG := heap_alloc_new w16 (Obj.cells #[Value.int IntKind.i64 a0_0, Value.int IntKind.i64 a0_1, Value.int IntKind.i64 a0_2, Value.int IntKind.u64 a0_3, Value.int IntKind.u64 a0_8, Value.int IntKind.i64 a0_5, Value.int IntKind.i64 a0_6] 50)
          generalize w16.alloc (Obj.cells #[Value.int IntKind.i64 a0_0, Value.int IntKind.i64 a0_1, Value.int IntKind.i64 a0_2, Value.int IntKind.u64 a0_3, Value.int IntKind.u64 a0_8, Value.int IntKind.i64 a0_5, Value.int IntKind.i64 a0_6] 50) = W0 at hb HBG ⊢
          replace HSTR := Aside0.mk (HSTR.out.step hb)
          replace B1 := Aside0.mk (below_then B1.out B1.out.size hb)
          generalize w16.heap.size = gg at HBG ⊢
          replace HBG := Aside0.mk HBG
          clear hb HH
          have B0 := Aside0.mk (below_drew1 (Below.refl W0.heap.size W0))
          refine start_ (n := 14) (S := fun w' => True) (ds := []) #[false, false, false, false, false, false, false, false, false, false, false, false, false, false] (by kernel_rfl) rfl rfl trivial (fun hHeld => ?_)
          refine with_tabW wagtaillaw15_PageReopens.tab23 wagtaillaw15_PageReopens.bits23 (fun HT_ HW_ => ?_)
          generalize W0.drew = wq at B0 hHeld ⊢
          refine inv_at [0, 1, 2, 3, 4, 5, 6, 7, 8, 9, 10, 11, 12, 13] (fun a0_ b a w' => a = putSel a0_ b [(0, 150, .bool true), (1, 151, .bool true), (2, 152, .slice Ax 256 cx), (3, 153, .string xg), (4, 154, .agg #[.int .i64 a0_0, .int .i64 a0_1, .int .i64 a0_2, .int .u64 a0_3, .int .u64 a0_8, .int .i64 a0_5, .int .i64 a0_6]), (5, 155, .string a0_7), (6, 156, .string xg), (7, 157, .bool true), (8, 158, .bool true), (9, 159, .bool true), (10, 160, .int .i64 0), (11, 161, .bool true), (12, 162, .bool true), (13, 2, .bool true)] ∧ (Below W0.heap.size W0 w')) HT_.out HW_.out (by kernel_rfl) (by kernel_rfl) ?_ ?_ ?_
          · exact ⟨by simp only [putSel, Bool.false_eq_true, if_false], B0.out⟩
          · skip
            clear B0
            refine steps_cons ?_ ?_
            · rintro b a w' ⟨ha, Q_B0⟩ hb_ hon hoff
              refine ⟨_, rfl, fun K hK => ?_⟩
              replace ha := Aside0.mk ha
              have B0 := Aside0.mk Q_B0
              refine goes_ Try.func36 (by kernel_rfl) rfl #[] (by rfl) rfl rfl (by first | (simp only [List.map_toArray, List.map_cons, List.map_nil, Act.eval, Array.getD_eq_getD_getElem?, Option.getD_some]; done) | (simp only [List.map_toArray, List.map_cons, List.map_nil, Act.eval, Array.getD_eq_getD_getElem?, Option.getD_some]; rfl)) ?_
              with_reducible refine (PG.awake_calls _).mono ?_
              rintro e w2 ⟨rfl, hb⟩
              refine ⟨_, rfl, ?_⟩
              refine hK.out _ _ ⟨(by rw [ha.out]; exact putSel_upk 0 hb_ rfl rfl rfl), below_then B0.out B0.out.size hb⟩
            refine steps_cons ?_ ?_
            · rintro b a w' ⟨ha, Q_B0⟩ hb_ hon hoff
              refine ⟨_, rfl, fun K hK => ?_⟩
              have e150 : a.tmps[150]? = some (.bool true) := by rw [ha]; exact putSel_on (e := (0, 150, .bool true)) 0 rfl rfl (hon 0 (by kernel_rfl)) rfl
              replace ha := Aside0.mk ha
              have B0 := Aside0.mk Q_B0
              refine value_ (w1 := w') (v := .bool true) (by rfl) rfl ?_ ?_
              · go_simp
                (try simp only [i64_w])
                try rfl
              refine hK.out _ _ ⟨(by rw [ha.out]; exact putSel_upk 1 hb_ rfl rfl rfl), Q_B0⟩
            refine steps_cons ?_ ?_
            · rintro b a w' ⟨ha, Q_B0⟩ hb_ hon hoff
              refine ⟨_, rfl, fun K hK => ?_⟩
              have e14 : a.tmps[14]? = some (.slice Ax 256 cx) := by rw [ha]; exact (putSel_off rfl).trans rfl
              have e151 : a.tmps[151]? = some (.bool true) := by rw [ha]; exact putSel_on (e := (1, 151, .bool true)) 1 rfl rfl (hon 1 (by kernel_rfl)) rfl
              replace ha := Aside0.mk ha
              have B0 := Aside0.mk Q_B0
              refine value_ (w1 := w') (v := .slice Ax 256 cx) (wanted_on rfl rfl rfl (e151.trans (by first | rfl | (simp [*]; done)))) rfl ?_ ?_
              · go_simp
                (try simp only [i64_w])
                try rfl
              refine hK.out _ _ ⟨(by rw [ha.out]; exact putSel_upk 2 hb_ rfl rfl rfl), Q_B0⟩
            refine steps_cons ?_ ?_
            · rintro b a w' ⟨ha, Q_B0⟩ hb_ hon hoff
              refine ⟨_, rfl, fun K hK => ?_⟩
              have e152 : a.tmps[152]? = some (.slice Ax 256 cx) := by rw [ha]; exact putSel_on (e := (2, 152, .slice Ax 256 cx)) 2 rfl rfl (hon 2 (by kernel_rfl)) rfl
              have e151 : a.tmps[151]? = some (.bool true) := by rw [ha]; exact putSel_on (e := (1, 151, .bool true)) 1 rfl rfl (hon 1 (by kernel_rfl)) rfl
              replace ha := Aside0.mk ha
              have B0 := Aside0.mk Q_B0
              have hs_ := (HSTR.out.step B0.out).here
              refine value_ (w1 := w') (v := .string xg) (wanted_on rfl rfl rfl (e151.trans (by first | rfl | (simp [*]; done)))) rfl ?_ ?_
              · go_simp
                (try simp only [i64_w])
                try rfl
              refine hK.out _ _ ⟨(by rw [ha.out]; exact putSel_upk 3 hb_ rfl rfl rfl), Q_B0⟩
            refine steps_cons ?_ ?_
            · rintro b a w' ⟨ha, Q_B0⟩ hb_ hon hoff
              refine ⟨_, rfl, fun K hK => ?_⟩
              have e16 : a.tmps[16]? = some (.pointer (some ⟨gg, 0, none⟩)) := by rw [ha]; exact (putSel_off rfl).trans rfl
              have e151 : a.tmps[151]? = some (.bool true) := by rw [ha]; exact putSel_on (e := (1, 151, .bool true)) 1 rfl rfl (hon 1 (by kernel_rfl)) rfl
              replace ha := Aside0.mk ha
              have B0 := Aside0.mk Q_B0
              have hb_ := blk_below HBG.out B0.out
              have c0_ := blk_cell hb_ 0
              have c1_ := blk_cell hb_ 1
              have c2_ := blk_cell hb_ 2
              have c3_ := blk_cell hb_ 3
              have c4_ := blk_cell hb_ 4
              have c5_ := blk_cell hb_ 5
              have c6_ := blk_cell hb_ 6
              clear hb_
              refine value_ (w1 := w') (v := .agg #[.int .i64 a0_0, .int .i64 a0_1, .int .i64 a0_2, .int .u64 a0_3, .int .u64 a0_8, .int .i64 a0_5, .int .i64 a0_6]) (wanted_on rfl rfl rfl (e151.trans (by first | rfl | (simp [*]; done)))) rfl ?_ ?_
              · go_simp
                (try simp only [i64_w])
                try rfl
              refine hK.out _ _ ⟨(by rw [ha.out]; exact putSel_upk 4 hb_ rfl rfl rfl), Q_B0⟩
            refine steps_cons ?_ ?_
            · rintro b a w' ⟨ha, Q_B0⟩ hb_ hon hoff
              refine ⟨_, rfl, fun K hK => ?_⟩
              have e4 : a.tmps[4]? = some (.string a0_7) := by rw [ha]; exact (putSel_off rfl).trans rfl
              have e151 : a.tmps[151]? = some (.bool true) := by rw [ha]; exact putSel_on (e := (1, 151, .bool true)) 1 rfl rfl (hon 1 (by kernel_rfl)) rfl
              replace ha := Aside0.mk ha
              have B0 := Aside0.mk Q_B0
              refine value_ (w1 := w') (v := .string a0_7) (wanted_on rfl rfl rfl (e151.trans (by first | rfl | (simp [*]; done)))) rfl ?_ ?_
              · go_simp
                (try simp only [i64_w])
                try rfl
              refine hK.out _ _ ⟨(by rw [ha.out]; exact putSel_upk 5 hb_ rfl rfl rfl), Q_B0⟩
            refine steps_cons ?_ ?_
            · rintro b a w' ⟨ha, Q_B0⟩ hb_ hon hoff
              refine ⟨_, rfl, fun K hK => ?_⟩
              have e154 : a.tmps[154]? = some (.agg #[.int .i64 a0_0, .int .i64 a0_1, .int .i64 a0_2, .int .u64 a0_3, .int .u64 a0_8, .int .i64 a0_5, .int .i64 a0_6]) := by rw [ha]; exact putSel_on (e := (4, 154, .agg #[.int .i64 a0_0, .int .i64 a0_1, .int .i64 a0_2, .int .u64 a0_3, .int .u64 a0_8, .int .i64 a0_5, .int .i64 a0_6])) 4 rfl rfl (hon 4 (by kernel_rfl)) rfl
              have e155 : a.tmps[155]? = some (.string a0_7) := by rw [ha]; exact putSel_on (e := (5, 155, .string a0_7)) 5 rfl rfl (hon 5 (by kernel_rfl)) rfl
              have e151 : a.tmps[151]? = some (.bool true) := by rw [ha]; exact putSel_on (e := (1, 151, .bool true)) 1 rfl rfl (hon 1 (by kernel_rfl)) rfl
              replace ha := Aside0.mk ha
              have B0 := Aside0.mk Q_B0
              refine goes_ Try.func41 (by kernel_rfl) rfl #[.agg #[.int .i64 a0_0, .int .i64 a0_1, .int .i64 a0_2, .int .u64 a0_3, .int .u64 a0_8, .int .i64 a0_5, .int .i64 a0_6], .string a0_7] (wanted_on rfl rfl rfl (e151.trans rfl)) rfl rfl (by first | (simp only [List.map_toArray, List.map_cons, List.map_nil, Act.eval, Array.getD_eq_getD_getElem?, Option.getD_some, e154, e155, e151]; done) | (simp only [List.map_toArray, List.map_cons, List.map_nil, Act.eval, Array.getD_eq_getD_getElem?, Option.getD_some, e154, e155, e151]; rfl)) ?_
              with_reducible refine (HPUG.out _).mono ?_
              rintro e w2 ⟨rfl, hb⟩
              refine ⟨_, rfl, ?_⟩
              refine hK.out _ _ ⟨(by rw [ha.out]; exact putSel_upk 6 hb_ rfl rfl rfl), below_then B0.out B0.out.size hb⟩
            refine steps_cons ?_ ?_
            · rintro b a w' ⟨ha, Q_B0⟩ hb_ hon hoff
              refine ⟨_, rfl, fun K hK => ?_⟩
              have e153 : a.tmps[153]? = some (.string xg) := by rw [ha]; exact putSel_on (e := (3, 153, .string xg)) 3 rfl rfl (hon 3 (by kernel_rfl)) rfl
              have e156 : a.tmps[156]? = some (.string xg) := by rw [ha]; exact putSel_on (e := (6, 156, .string xg)) 6 rfl rfl (hon 6 (by kernel_rfl)) rfl
              have e151 : a.tmps[151]? = some (.bool true) := by rw [ha]; exact putSel_on (e := (1, 151, .bool true)) 1 rfl rfl (hon 1 (by kernel_rfl)) rfl
              replace ha := Aside0.mk ha
              have B0 := Aside0.mk Q_B0
              refine value_ (w1 := w') (v := .bool true) (wanted_on rfl rfl rfl (e151.trans (by first | rfl | (simp [*]; done)))) rfl ?_ ?_
              · go_simp
                (try simp only [i64_w])
                try rfl
              refine hK.out _ _ ⟨(by rw [ha.out]; exact putSel_upk 7 hb_ rfl rfl rfl), Q_B0⟩
            refine steps_cons ?_ ?_
            · rintro b a w' ⟨ha, Q_B0⟩ hb_ hon hoff
              refine ⟨_, rfl, fun K hK => ?_⟩
              have e151 : a.tmps[151]? = some (.bool true) := by rw [ha]; exact putSel_on (e := (1, 151, .bool true)) 1 rfl rfl (hon 1 (by kernel_rfl)) rfl
              have e157 : a.tmps[157]? = some (.bool true) := by rw [ha]; exact putSel_on (e := (7, 157, .bool true)) 7 rfl rfl (hon 7 (by kernel_rfl)) rfl
              replace ha := Aside0.mk ha
              have B0 := Aside0.mk Q_B0
              refine value_ (w1 := w') (v := .bool true) (by rfl) rfl ?_ ?_
              · go_simp
                (try simp only [i64_w])
                try rfl
              refine hK.out _ _ ⟨(by rw [ha.out]; exact putSel_upk 8 hb_ rfl rfl rfl), Q_B0⟩
            refine steps_cons ?_ ?_
            · rintro b a w' ⟨ha, Q_B0⟩ hb_ hon hoff
              refine ⟨_, rfl, fun K hK => ?_⟩
              have e158 : a.tmps[158]? = some (.bool true) := by rw [ha]; exact putSel_on (e := (8, 158, .bool true)) 8 rfl rfl (hon 8 (by kernel_rfl)) rfl
              replace ha := Aside0.mk ha
              have B0 := Aside0.mk Q_B0
              refine value_ (w1 := w') (v := .bool true) (by rfl) rfl ?_ ?_
              · go_simp
                (try simp only [i64_w])
                try rfl
              refine hK.out _ _ ⟨(by rw [ha.out]; exact putSel_upk 9 hb_ rfl rfl rfl), Q_B0⟩
            refine steps_cons ?_ ?_
            · rintro b a w' ⟨ha, Q_B0⟩ hb_ hon hoff
              refine ⟨_, rfl, fun K hK => ?_⟩
              have e15 : a.tmps[15]? = some (.int .i64 0) := by rw [ha]; exact (putSel_off rfl).trans rfl
              have e159 : a.tmps[159]? = some (.bool true) := by rw [ha]; exact putSel_on (e := (9, 159, .bool true)) 9 rfl rfl (hon 9 (by kernel_rfl)) rfl
              replace ha := Aside0.mk ha
              have B0 := Aside0.mk Q_B0
              refine value_ (w1 := w') (v := .int .i64 0) (wanted_on rfl rfl rfl (e159.trans (by first | rfl | (simp [*]; done)))) rfl ?_ ?_
              · go_simp
                (try simp only [i64_w])
                try rfl
              refine hK.out _ _ ⟨(by rw [ha.out]; exact putSel_upk 10 hb_ rfl rfl rfl), Q_B0⟩
            refine steps_cons ?_ ?_
            · rintro b a w' ⟨ha, Q_B0⟩ hb_ hon hoff
              refine ⟨_, rfl, fun K hK => ?_⟩
              have e160 : a.tmps[160]? = some (.int .i64 0) := by rw [ha]; exact putSel_on (e := (10, 160, .int .i64 0)) 10 rfl rfl (hon 10 (by kernel_rfl)) rfl
              have e159 : a.tmps[159]? = some (.bool true) := by rw [ha]; exact putSel_on (e := (9, 159, .bool true)) 9 rfl rfl (hon 9 (by kernel_rfl)) rfl
              replace ha := Aside0.mk ha
              have B0 := Aside0.mk Q_B0
              refine value_ (w1 := w') (v := .bool true) (wanted_on rfl rfl rfl (e159.trans (by first | rfl | (simp [*]; done)))) rfl ?_ ?_
              · go_simp
                (try simp only [i64_w])
                try rfl
              refine hK.out _ _ ⟨(by rw [ha.out]; exact putSel_upk 11 hb_ rfl rfl rfl), Q_B0⟩
            refine steps_cons ?_ ?_
            · rintro b a w' ⟨ha, Q_B0⟩ hb_ hon hoff
              refine ⟨_, rfl, fun K hK => ?_⟩
              have e159 : a.tmps[159]? = some (.bool true) := by rw [ha]; exact putSel_on (e := (9, 159, .bool true)) 9 rfl rfl (hon 9 (by kernel_rfl)) rfl
              have e161 : a.tmps[161]? = some (.bool true) := by rw [ha]; exact putSel_on (e := (11, 161, .bool true)) 11 rfl rfl (hon 11 (by kernel_rfl)) rfl
              replace ha := Aside0.mk ha
              have B0 := Aside0.mk Q_B0
              refine value_ (w1 := w') (v := .bool true) (by rfl) rfl ?_ ?_
              · go_simp
                (try simp only [i64_w])
                try rfl
              refine hK.out _ _ ⟨(by rw [ha.out]; exact putSel_upk 12 hb_ rfl rfl rfl), Q_B0⟩
            refine steps_cons ?_ ?_
            · rintro b a w' ⟨ha, Q_B0⟩ hb_ hon hoff
              refine ⟨_, rfl, fun K hK => ?_⟩
              have e162 : a.tmps[162]? = some (.bool true) := by rw [ha]; exact putSel_on (e := (12, 162, .bool true)) 12 rfl rfl (hon 12 (by kernel_rfl)) rfl
              replace ha := Aside0.mk ha
              have B0 := Aside0.mk Q_B0
              refine value_ (w1 := w') (v := .bool true) (by rfl) rfl ?_ ?_
              · go_simp
                (try simp only [i64_w])
                try rfl
              refine hK.out _ _ ⟨(by rw [ha.out]; exact putSel_upk 13 hb_ rfl rfl rfl), Q_B0⟩
            exact steps_nil
          rintro b a wl23 hall ⟨ha, Q_B0⟩
          clear B0
          have hb0_ := hall 0 (by kernel_rfl)
          have hb1_ := hall 1 (by kernel_rfl)
          have hb2_ := hall 2 (by kernel_rfl)
          have hb3_ := hall 3 (by kernel_rfl)
          have hb4_ := hall 4 (by kernel_rfl)
          have hb5_ := hall 5 (by kernel_rfl)
          have hb6_ := hall 6 (by kernel_rfl)
          have hb7_ := hall 7 (by kernel_rfl)
          have hb8_ := hall 8 (by kernel_rfl)
          have hb9_ := hall 9 (by kernel_rfl)
          have hb10_ := hall 10 (by kernel_rfl)
          have hb11_ := hall 11 (by kernel_rfl)
          have hb12_ := hall 12 (by kernel_rfl)
          have hb13_ := hall 13 (by kernel_rfl)
          subst ha
          simp only [putSel, hb0_, hb1_, hb2_, hb3_, hb4_, hb5_, hb6_, hb7_, hb8_, hb9_, hb10_, hb11_, hb12_, hb13_, if_true, Act.put, List.setIfInBounds_toArray, List.set_cons_zero, List.set_cons_succ]
          have B0 := Aside0.mk Q_B0
          clear Q_B0
          clear hall hb0_ hb1_ hb2_ hb3_ hb4_ hb5_ hb6_ hb7_ hb8_ hb9_ hb10_ hb11_ hb12_ hb13_
          clear HT_ HW_
          have HFIN := Aside0.mk (below_then B1.out B1.out.size B0.out)
          go_wp2_with fail
          go_ret
          exact ⟨rfl, HFIN.out⟩
  · have e0 : n0 = 1 := by rw [HN.out.1, hc]; decide
    have e1 : n1 = 0 := by rw [HN.out.2.1, hc]; decide
    have e2 : n2 = 1 := by rw [HN.out.2.2, hc]; decide
    rw [e0, e1, e2] at HZ7
    have HR := Aside0.mk (HR5.out 2 hc)
    replace h252 := Aside0.mk h252
    clear e0 e1 e2 HR5 hc
    go_upto_region 8 with ((go_at_call 43); (with_reducible refine (HR.out _).mono ?_); rintro e w6 ⟨rfl, hb⟩; replace B1 := Aside0.mk (below_then B1.out B1.out.size hb); replace HH := Aside0.mk (blk_below HH.out hb); replace HZ7 := Aside0.mk (blk_below HZ7.out hb); replace HCB := Aside0.mk (Kd.C_below HCB.out hb); clear hb)
    clear HR hs5
    have hb := below_alloc (Below.refl w6.heap.size w6) (Obj.cells #[Value.int IntKind.i64 1, Value.int IntKind.i64 0, Value.int IntKind.i64 1] 66)
    have HZ9 := heap_alloc_new w6 (Obj.cells #[Value.int IntKind.i64 1, Value.int IntKind.i64 0, Value.int IntKind.i64 1] 66)
    generalize w6.alloc (Obj.cells #[Value.int IntKind.i64 1, Value.int IntKind.i64 0, Value.int IntKind.i64 1] 66) = W8 at hb HZ9 ⊢
    replace B1 := Aside0.mk (below_then B1.out B1.out.size hb)
    replace HH := Aside0.mk (blk_below HH.out hb)
    replace HZ7 := Aside0.mk (blk_below HZ7.out hb)
    replace HCB := Aside0.mk (Kd.C_below HCB.out hb)
    generalize w6.heap.size = g9 at HZ9 ⊢
    replace HZ9 := Aside0.mk HZ9
    clear hb
    have heq : ∀ W : World, Sem.run Try.prog (Op.equalIn 10000 66 (Value.agg #[Value.int IntKind.i64 1, Value.int IntKind.i64 0, Value.int IntKind.i64 1]) (Value.agg #[Value.int IntKind.i64 1, Value.int IntKind.i64 0, Value.int IntKind.i64 1])) W = .ok true W := fun W => by kernel_rfl
    replace h252 := h252.out
    have HSE := wagtaillaw15_PageReopens.seal_calls l0_9 HARG.out.2.2.2.1 h252 A0_9 c0_9 HARG.out.2.2.2.2.1
    have HNU := Aside0.mk (wagtaillaw15_PageReopens.num_calls l0_9 HARG.out.2.2.2.1 h252)
    have HCO := wagtaillaw15_PageReopens.count_calls l0_9 HARG.out.2.2.2.1 (by omega) A0_9 c0_9 HARG.out.2.2.2.2.1
    rw [h252] at HSE HCO ⊢
    replace HCB := Aside0.mk (show Kd.C (Kd.int .u8) W8 A0_9 252 l0_9 from by have h := HCB.out; rw [h252] at h; exact h)
    have hzr := PG.zsum_range l0_9
    have hzw : IntKind.u64.wrap (zsum l0_9) = zsum l0_9 := by rw [IntKind.wrap_u64]; omega
    have HLN := Aside0.mk h252
    have HTK := Aside0.mk (show ∀ (W : World) (As : Option Addr) (cs : Nat), Kd.C (Kd.int .u8) W As 256 (l0_9 ++ beBytes 4 (zsum l0_9)) → Str W (.slice As 252 cs) xb from by
      intro W As cs hC
      have hlen : (l0_9 ++ beBytes 4 (zsum l0_9)).length = 256 := by rw [List.length_append, beBytes_len]; omega
      have h := Kd.C_take (m := 252) (by rw [hlen]; exact hC) (by omega)
      rw [List.take_left' (by exact h252)] at h
      rw [h252] at h
      exact PG.str_of_C h xb HXB.out)
    generalize zsum l0_9 = z at HSE HNU HCO hzw HTK
    replace HSE := Aside0.mk HSE
    replace HCO := Aside0.mk HCO
    clear h252 hzr
    go_upto_region 16 with (first
      | ((go_at_call 48); (with_reducible refine (HSE.out _ HCB.out).mono ?_); rintro e w9 ⟨As, cs, rfl, hcs, hCs, hb⟩; have i1 : (252 : Int) ≤ (cs : Int) := (by omega); have HSS := Aside0.mk (And.intro hcs hCs); have st := (HTK.out _ _ cs hCs).here; replace B1 := Aside0.mk (below_then B1.out B1.out.size hb); replace HH := Aside0.mk (blk_below HH.out hb); replace HZ7 := Aside0.mk (blk_below HZ7.out hb); replace HZ9 := Aside0.mk (blk_below HZ9.out hb); replace HCB := Aside0.mk (Kd.C_below HCB.out hb); have sb := (PG.str_of_C (cp := c0_9) HCB.out xb HXB.out).here; clear hcs hCs hb; have f0 := blk_cell HZ7.out 0; have d0 := blk_cell HZ9.out 0; have f1 := blk_cell HZ7.out 1; have d1 := blk_cell HZ9.out 1; have f2 := blk_cell HZ7.out 2; have d2 := blk_cell HZ9.out 2)
      | ((go_at_call 49); (with_reducible refine (HNU.out _ _ HSS.out.1 _ HSS.out.2).mono ?_); rintro e w10 ⟨rfl, hb⟩; replace B1 := Aside0.mk (below_then B1.out B1.out.size hb); replace HH := Aside0.mk (blk_below HH.out hb); replace HZ7 := Aside0.mk (blk_below HZ7.out hb); replace HZ9 := Aside0.mk (blk_below HZ9.out hb); replace HCB := Aside0.mk (Kd.C_below HCB.out hb); clear hb)
      | ((go_at_call 25); (with_reducible refine (HCO.out _ HCB.out).mono ?_); rintro e w11 ⟨rfl, hb⟩; replace B1 := Aside0.mk (below_then B1.out B1.out.size hb); replace HH := Aside0.mk (blk_below HH.out hb); replace HZ7 := Aside0.mk (blk_below HZ7.out hb); replace HZ9 := Aside0.mk (blk_below HZ9.out hb); replace HCB := Aside0.mk (Kd.C_below HCB.out hb); clear hb))
    replace HCB := Aside0.mk trivial
    clear heq HSE HNU HCO HTK HLN hzw HZ7 HZ9 f0 f1 f2 d0 d1 d2 st sb HSS i1
    go_upto_region 17 with (first
      | ((go_at_call 28); (with_reducible refine (PG.ones_calls 256 (by omega) 256 rfl _).mono ?_); rintro e w12 ⟨Aw, cw, rfl, hcw, hCw, hb⟩; have HWW := Aside0.mk (And.intro hcw hCw); replace B1 := Aside0.mk (below_then B1.out B1.out.size hb); replace HH := Aside0.mk (blk_below HH.out hb); clear hcw hCw hb)
      | ((go_at_call 50); (with_reducible refine (wagtaillaw15_PageReopens.reopen_ones a0_8 HARG.out.2.2.1 _ _ HWW.out.1 _ HWW.out.2).mono ?_); rintro e w13 ⟨vv, rfl, hb⟩; replace B1 := Aside0.mk (below_then B1.out B1.out.size hb); replace HH := Aside0.mk (blk_below HH.out hb); clear hb))
    have c0 := blk_cell HH.out 0
    have c1 := blk_cell HH.out 1
    have c2 := blk_cell HH.out 2
    have c3 := blk_cell HH.out 3
    have c4 := blk_cell HH.out 4
    have c5 := blk_cell HH.out 5
    have c6 := blk_cell HH.out 6
    by_cases hm : headMay a0_0 a0_1 a0_2 a0_3 a0_4 a0_5 a0_6 = true
    case neg =>
      have hmf : headMay a0_0 a0_1 a0_2 a0_3 a0_4 a0_5 a0_6 = false := by simpa using hm
      have HM := Aside0.mk (PG.may_calls a0_0 a0_1 a0_2 a0_3 a0_4 a0_5 a0_6 false hmf)
      clear hm hmf
      go_wp2_with (first
        | ((go_at_call 38); (with_reducible refine (HM.out _).mono ?_); rintro e w14 ⟨rfl, hb⟩; clear c0 c1 c2 c3 c4 c5 c6; replace B1 := Aside0.mk (below_then B1.out B1.out.size hb); replace HH := Aside0.mk (blk_below HH.out hb); have c0 := blk_cell HH.out 0; have c1 := blk_cell HH.out 1; have c2 := blk_cell HH.out 2; have c3 := blk_cell HH.out 3; have c4 := blk_cell HH.out 4; have c5 := blk_cell HH.out 5; have c6 := blk_cell HH.out 6; clear hb)
        | ((go_at_call 36); (with_reducible refine (PG.awake_calls _).mono ?_); rintro e w9 ⟨rfl, hb⟩; replace B1 := Aside0.mk (below_then B1.out B1.out.size hb); replace HH := Aside0.mk (blk_below HH.out hb); clear hb))
      go_ret
      exact ⟨rfl, B1.out⟩
    case pos =>
      have HM := Aside0.mk (PG.may_calls a0_0 a0_1 a0_2 a0_3 a0_4 a0_5 a0_6 true hm)
      by_cases hd : (a0_7.size : Int) = a0_6
      case neg =>
        have d1 : ((a0_7.size : Int) != a0_6) = true := by simpa using hd
        have d2 : ((a0_7.size : Int) == a0_6) = false := by simpa using hd
        clear hm hd
        go_wp2_with (first
          | ((go_at_call 38); (with_reducible refine (HM.out _).mono ?_); rintro e w14 ⟨rfl, hb⟩; clear c0 c1 c2 c3 c4 c5 c6; replace B1 := Aside0.mk (below_then B1.out B1.out.size hb); replace HH := Aside0.mk (blk_below HH.out hb); have c0 := blk_cell HH.out 0; have c1 := blk_cell HH.out 1; have c2 := blk_cell HH.out 2; have c3 := blk_cell HH.out 3; have c4 := blk_cell HH.out 4; have c5 := blk_cell HH.out 5; have c6 := blk_cell HH.out 6; clear hb)
          | ((go_at_call 36); (with_reducible refine (PG.awake_calls _).mono ?_); rintro e w9 ⟨rfl, hb⟩; replace B1 := Aside0.mk (below_then B1.out B1.out.size hb); replace HH := Aside0.mk (blk_below HH.out hb); clear hb))
        go_ret
        exact ⟨rfl, B1.out⟩
      case pos =>
        have d1 : ((a0_7.size : Int) != a0_6) = false := by simpa using hd
        have d2 : ((a0_7.size : Int) == a0_6) = true := by simpa using hd
        obtain ⟨xp, hxp⟩ : ∃ x, x = strOfNums (PG.pageL a0_0 a0_1 a0_2 a0_3 a0_4 a0_5 a0_6 (bytesOf a0_7)) := ⟨_, rfl⟩
        have HPUT := Aside0.mk (PG.rput_calls a0_0 a0_1 a0_2 a0_3 a0_4 a0_5 a0_6 a0_7 hm HARG.out.1 HARG.out.2.1 hd xp hxp)
        have HREO := fun W => wagtaillaw15_PageReopens.reopen_page a0_0 a0_1 a0_2 a0_3 a0_4 a0_5 a0_6 a0_8 a0_7 hm HARG.out.1 HARG.out.2.1 HARG.out.2.2.1 hd xp hxp W
        have hmo := page_Reopen.may_open (op := a0_8) hm
        have HHD := Aside0.mk (And.intro hd hmo)
        clear hm hxp hd hmo
        go_upto_region 19 with (((go_at_call 38); (with_reducible refine (HM.out _).mono ?_); rintro e w14 ⟨rfl, hb⟩; clear c0 c1 c2 c3 c4 c5 c6; replace B1 := Aside0.mk (below_then B1.out B1.out.size hb); replace HH := Aside0.mk (blk_below HH.out hb); have c0 := blk_cell HH.out 0; have c1 := blk_cell HH.out 1; have c2 := blk_cell HH.out 2; have c3 := blk_cell HH.out 3; have c4 := blk_cell HH.out 4; have c5 := blk_cell HH.out 5; have c6 := blk_cell HH.out 6; clear hb))
        clear d1 d2 HM
        have kb := fun W => print_bytes (P := Try.prog) 9 35 5 Try.underlying9 Try.underlying35 Try.underlying5 xp W
        by_cases h31 : a0_8 < 2147483648
        case neg =>
          simp only [if_neg h31, h31, false_implies, true_and] at HREO
          replace HREO := Aside0.mk HREO
          have v1 : decide (2147483648 ≤ a0_8) = true := decide_eq_true (by omega)
          clear h31
          go_wp2_with (first
            | ((go_at_call 41); (with_reducible refine (HPUT.out _).mono ?_); rintro e w15 ⟨rfl, hb⟩; clear c0 c1 c2 c3 c4 c5 c6; replace B1 := Aside0.mk (below_then B1.out B1.out.size hb); replace HH := Aside0.mk (blk_below HH.out hb); clear hb)
            | ((go_at_call 50); (with_reducible refine (HREO.out _).mono ?_); rintro e w16 ⟨Ax, cx, rfl, hb⟩; replace B1 := Aside0.mk (below_then (bytes_below B1.out B1.out.size 5 xp) (bytes_below B1.out B1.out.size 5 xp).size hb); replace HH := Aside0.mk (blk_below ((Lib.bytesWorld_at_old w15 5 xp gb (blk_lt HH.out)).trans HH.out) hb); clear hb)
            | ((go_at_call 36); (with_reducible refine (PG.awake_calls _).mono ?_); rintro e w9 ⟨rfl, hb⟩; replace B1 := Aside0.mk (below_then B1.out B1.out.size hb); replace HH := Aside0.mk (blk_below HH.out hb); clear hb))
          go_ret
          exact ⟨rfl, B1.out⟩
        case pos =>
          simp only [if_pos h31, h31, true_implies] at HREO
          replace HREO := Aside0.mk HREO
          have v1 : decide (2147483648 ≤ a0_8) = false := decide_eq_false (by omega)
          obtain ⟨xg, hxg⟩ : ∃ x, x = strOfNums (PG.pageL a0_0 a0_1 a0_2 a0_3 a0_8 a0_5 a0_6 (bytesOf a0_7)) := ⟨_, rfl⟩
          have HPUG := Aside0.mk (PG.rput_calls a0_0 a0_1 a0_2 a0_3 a0_8 a0_5 a0_6 a0_7 (by rw [HHD.out.2]; exact decide_eq_true h31) HARG.out.1 HARG.out.2.2.1 HHD.out.1 xg hxg)
          have HXG := Aside0.mk hxg
          clear h31 hxg
          go_upto_region 20 with (first
            | ((go_at_call 41); (with_reducible refine (HPUT.out _).mono ?_); rintro e w15 ⟨rfl, hb⟩; clear c0 c1 c2 c3 c4 c5 c6; replace B1 := Aside0.mk (below_then B1.out B1.out.size hb); replace HH := Aside0.mk (blk_below HH.out hb); clear hb)
            | ((go_at_call 50); (with_reducible refine (HREO.out _).mono ?_); rintro e w16 ⟨Ax, cx, rfl, hx, hb⟩; have HSTR := Aside0.mk (PG.str_of_C (cp := cx) hx.2 xg HXG.out); replace B1 := Aside0.mk (below_then (bytes_below B1.out B1.out.size 5 xp) (bytes_below B1.out B1.out.size 5 xp).size hb); replace HH := Aside0.mk (blk_below ((Lib.bytesWorld_at_old w15 5 xp gb (blk_lt HH.out)).trans HH.out) hb); clear hb hx; have c0 := blk_cell HH.out 0; have c1 := blk_cell HH.out 1; have c2 := blk_cell HH.out 2; have c3 := blk_cell HH.out 3; have c4 := blk_cell HH.out 4; have c5 := blk_cell HH.out 5; have c6 := blk_cell HH.out 6))
          clear kb HPUT HREO
          go_upto_region 23 with fail
          clear c0 c1 c2 c3 c4 c5 c6
          have hb := below_alloc (Below.refl w16.heap.size w16) (Obj.cells #[Value.int IntKind.i64 a0_0, Value.int IntKind.i64 a0_1, Value.int IntKind.i64 a0_2, Value.int IntKind.u64 a0_3, Value.int IntKind.u64 a0_8, Value.int IntKind.i64 a0_5, Value.int IntKind.i64 a0_6] 50)
          have HBG := heap_alloc_new w16 (Obj.cells #[Value.int IntKind.i64 a0_0, Value.int IntKind.i64 a0_1, Value.int IntKind.i64 a0_2, Value.int IntKind.u64 a0_3, Value.int IntKind.u64 a0_8, Value.int IntKind.i64 a0_5, Value.int IntKind.i64 a0_6] 50)
          generalize w16.alloc (Obj.cells #[Value.int IntKind.i64 a0_0, Value.int IntKind.i64 a0_1, Value.int IntKind.i64 a0_2, Value.int IntKind.u64 a0_3, Value.int IntKind.u64 a0_8, Value.int IntKind.i64 a0_5, Value.int IntKind.i64 a0_6] 50) = W0 at hb HBG ⊢
          replace HSTR := Aside0.mk (HSTR.out.step hb)
          replace B1 := Aside0.mk (below_then B1.out B1.out.size hb)
          generalize w16.heap.size = gg at HBG ⊢
          replace HBG := Aside0.mk HBG
          clear hb HH
          have B0 := Aside0.mk (below_drew1 (Below.refl W0.heap.size W0))
          refine start_ (n := 14) (S := fun w' => True) (ds := []) #[false, false, false, false, false, false, false, false, false, false, false, false, false, false] (by kernel_rfl) rfl rfl trivial (fun hHeld => ?_)
          refine with_tabW wagtaillaw15_PageReopens.tab23 wagtaillaw15_PageReopens.bits23 (fun HT_ HW_ => ?_)
          generalize W0.drew = wq at B0 hHeld ⊢
          refine inv_at [0, 1, 2, 3, 4, 5, 6, 7, 8, 9, 10, 11, 12, 13] (fun a0_ b a w' => a = putSel a0_ b [(0, 150, .bool true), (1, 151, .bool true), (2, 152, .slice Ax 256 cx), (3, 153, .string xg), (4, 154, .agg #[.int .i64 a0_0, .int .i64 a0_1, .int .i64 a0_2, .int .u64 a0_3, .int .u64 a0_8, .int .i64 a0_5, .int .i64 a0_6]), (5, 155, .string a0_7), (6, 156, .string xg), (7, 157, .bool true), (8, 158, .bool true), (9, 159, .bool true), (10, 160, .int .i64 0), (11, 161, .bool true), (12, 162, .bool true), (13, 2, .bool true)] ∧ (Below W0.heap.size W0 w')) HT_.out HW_.out (by kernel_rfl) (by kernel_rfl) ?_ ?_ ?_
          · exact ⟨by simp only [putSel, Bool.false_eq_true, if_false], B0.out⟩
          · skip
            clear B0
            refine steps_cons ?_ ?_
            · rintro b a w' ⟨ha, Q_B0⟩ hb_ hon hoff
              refine ⟨_, rfl, fun K hK => ?_⟩
              replace ha := Aside0.mk ha
              have B0 := Aside0.mk Q_B0
              refine goes_ Try.func36 (by kernel_rfl) rfl #[] (by rfl) rfl rfl (by first | (simp only [List.map_toArray, List.map_cons, List.map_nil, Act.eval, Array.getD_eq_getD_getElem?, Option.getD_some]; done) | (simp only [List.map_toArray, List.map_cons, List.map_nil, Act.eval, Array.getD_eq_getD_getElem?, Option.getD_some]; rfl)) ?_
              with_reducible refine (PG.awake_calls _).mono ?_
              rintro e w2 ⟨rfl, hb⟩
              refine ⟨_, rfl, ?_⟩
              refine hK.out _ _ ⟨(by rw [ha.out]; exact putSel_upk 0 hb_ rfl rfl rfl), below_then B0.out B0.out.size hb⟩
            refine steps_cons ?_ ?_
            · rintro b a w' ⟨ha, Q_B0⟩ hb_ hon hoff
              refine ⟨_, rfl, fun K hK => ?_⟩
              have e150 : a.tmps[150]? = some (.bool true) := by rw [ha]; exact putSel_on (e := (0, 150, .bool true)) 0 rfl rfl (hon 0 (by kernel_rfl)) rfl
              replace ha := Aside0.mk ha
              have B0 := Aside0.mk Q_B0
              refine value_ (w1 := w') (v := .bool true) (by rfl) rfl ?_ ?_
              · go_simp
                (try simp only [i64_w])
                try rfl
              refine hK.out _ _ ⟨(by rw [ha.out]; exact putSel_upk 1 hb_ rfl rfl rfl), Q_B0⟩
            refine steps_cons ?_ ?_
            · rintro b a w' ⟨ha, Q_B0⟩ hb_ hon hoff
              refine ⟨_, rfl, fun K hK => ?_⟩
              have e14 : a.tmps[14]? = some (.slice Ax 256 cx) := by rw [ha]; exact (putSel_off rfl).trans rfl
              have e151 : a.tmps[151]? = some (.bool true) := by rw [ha]; exact putSel_on (e := (1, 151, .bool true)) 1 rfl rfl (hon 1 (by kernel_rfl)) rfl
              replace ha := Aside0.mk ha
              have B0 := Aside0.mk Q_B0
              refine value_ (w1 := w') (v := .slice Ax 256 cx) (wanted_on rfl rfl rfl (e151.trans (by first | rfl | (simp [*]; done)))) rfl ?_ ?_
              · go_simp
                (try simp only [i64_w])
                try rfl
              refine hK.out _ _ ⟨(by rw [ha.out]; exact putSel_upk 2 hb_ rfl rfl rfl), Q_B0⟩
            refine steps_cons ?_ ?_
            · rintro b a w' ⟨ha, Q_B0⟩ hb_ hon hoff
              refine ⟨_, rfl, fun K hK => ?_⟩
              have e152 : a.tmps[152]? = some (.slice Ax 256 cx) := by rw [ha]; exact putSel_on (e := (2, 152, .slice Ax 256 cx)) 2 rfl rfl (hon 2 (by kernel_rfl)) rfl
              have e151 : a.tmps[151]? = some (.bool true) := by rw [ha]; exact putSel_on (e := (1, 151, .bool true)) 1 rfl rfl (hon 1 (by kernel_rfl)) rfl
              replace ha := Aside0.mk ha
              have B0 := Aside0.mk Q_B0
              have hs_ := (HSTR.out.step B0.out).here
              refine value_ (w1 := w') (v := .string xg) (wanted_on rfl rfl rfl (e151.trans (by first | rfl | (simp [*]; done)))) rfl ?_ ?_
              · go_simp
                (try simp only [i64_w])
                try rfl
              refine hK.out _ _ ⟨(by rw [ha.out]; exact putSel_upk 3 hb_ rfl rfl rfl), Q_B0⟩
            refine steps_cons ?_ ?_
            · rintro b a w' ⟨ha, Q_B0⟩ hb_ hon hoff
              refine ⟨_, rfl, fun K hK => ?_⟩
              have e16 : a.tmps[16]? = some (.pointer (some ⟨gg, 0, none⟩)) := by rw [ha]; exact (putSel_off rfl).trans rfl
              have e151 : a.tmps[151]? = some (.bool true) := by rw [ha]; exact putSel_on (e := (1, 151, .bool true)) 1 rfl rfl (hon 1 (by kernel_rfl)) rfl
              replace ha := Aside0.mk ha
              have B0 := Aside0.mk Q_B0
              have hb_ := blk_below HBG.out B0.out
              have c0_ := blk_cell hb_ 0
              have c1_ := blk_cell hb_ 1
              have c2_ := blk_cell hb_ 2
              have c3_ := blk_cell hb_ 3
              have c4_ := blk_cell hb_ 4
              have c5_ := blk_cell hb_ 5
              have c6_ := blk_cell hb_ 6
              clear hb_
              refine value_ (w1 := w') (v := .agg #[.int .i64 a0_0, .int .i64 a0_1, .int .i64 a0_2, .int .u64 a0_3, .int .u64 a0_8, .int .i64 a0_5, .int .i64 a0_6]) (wanted_on rfl rfl rfl (e151.trans (by first | rfl | (simp [*]; done)))) rfl ?_ ?_
              · go_simp
                (try simp only [i64_w])
                try rfl
              refine hK.out _ _ ⟨(by rw [ha.out]; exact putSel_upk 4 hb_ rfl rfl rfl), Q_B0⟩
            refine steps_cons ?_ ?_
            · rintro b a w' ⟨ha, Q_B0⟩ hb_ hon hoff
              refine ⟨_, rfl, fun K hK => ?_⟩
              have e4 : a.tmps[4]? = some (.string a0_7) := by rw [ha]; exact (putSel_off rfl).trans rfl
              have e151 : a.tmps[151]? = some (.bool true) := by rw [ha]; exact putSel_on (e := (1, 151, .bool true)) 1 rfl rfl (hon 1 (by kernel_rfl)) rfl
              replace ha := Aside0.mk ha
              have B0 := Aside0.mk Q_B0
              refine value_ (w1 := w') (v := .string a0_7) (wanted_on rfl rfl rfl (e151.trans (by first | rfl | (simp [*]; done)))) rfl ?_ ?_
              · go_simp
                (try simp only [i64_w])
                try rfl
              refine hK.out _ _ ⟨(by rw [ha.out]; exact putSel_upk 5 hb_ rfl rfl rfl), Q_B0⟩
            refine steps_cons ?_ ?_
            · rintro b a w' ⟨ha, Q_B0⟩ hb_ hon hoff
              refine ⟨_, rfl, fun K hK => ?_⟩
              have e154 : a.tmps[154]? = some (.agg #[.int .i64 a0_0, .int .i64 a0_1, .int .i64 a0_2, .int .u64 a0_3, .int .u64 a0_8, .int .i64 a0_5, .int .i64 a0_6]) := by rw [ha]; exact putSel_on (e := (4, 154, .agg #[.int .i64 a0_0, .int .i64 a0_1, .int .i64 a0_2, .int .u64 a0_3, .int .u64 a0_8, .int .i64 a0_5, .int .i64 a0_6])) 4 rfl rfl (hon 4 (by kernel_rfl)) rfl
              have e155 : a.tmps[155]? = some (.string a0_7) := by rw [ha]; exact putSel_on (e := (5, 155, .string a0_7)) 5 rfl rfl (hon 5 (by kernel_rfl)) rfl
              have e151 : a.tmps[151]? = some (.bool true) := by rw [ha]; exact putSel_on (e := (1, 151, .bool true)) 1 rfl rfl (hon 1 (by kernel_rfl)) rfl
              replace ha := Aside0.mk ha
              have B0 := Aside0.mk Q_B0
              refine goes_ Try.func41 (by kernel_rfl) rfl #[.agg #[.int .i64 a0_0, .int .i64 a0_1, .int .i64 a0_2, .int .u64 a0_3, .int .u64 a0_8, .int .i64 a0_5, .int .i64 a0_6], .string a0_7] (wanted_on rfl rfl rfl (e151.trans rfl)) rfl rfl (by first | (simp only [List.map_toArray, List.map_cons, List.map_nil, Act.eval, Array.getD_eq_getD_getElem?, Option.getD_some, e154, e155, e151]; done) | (simp only [List.map_toArray, List.map_cons, List.map_nil, Act.eval, Array.getD_eq_getD_getElem?, Option.getD_some, e154, e155, e151]; rfl)) ?_
              with_reducible refine (HPUG.out _).mono ?_
              rintro e w2 ⟨rfl, hb⟩
              refine ⟨_, rfl, ?_⟩
              refine hK.out _ _ ⟨(by rw [ha.out]; exact putSel_upk 6 hb_ rfl rfl rfl), below_then B0.out B0.out.size hb⟩
            refine steps_cons ?_ ?_
            · rintro b a w' ⟨ha, Q_B0⟩ hb_ hon hoff
              refine ⟨_, rfl, fun K hK => ?_⟩
              have e153 : a.tmps[153]? = some (.string xg) := by rw [ha]; exact putSel_on (e := (3, 153, .string xg)) 3 rfl rfl (hon 3 (by kernel_rfl)) rfl
              have e156 : a.tmps[156]? = some (.string xg) := by rw [ha]; exact putSel_on (e := (6, 156, .string xg)) 6 rfl rfl (hon 6 (by kernel_rfl)) rfl
              have e151 : a.tmps[151]? = some (.bool true) := by rw [ha]; exact putSel_on (e := (1, 151, .bool true)) 1 rfl rfl (hon 1 (by kernel_rfl)) rfl
              replace ha := Aside0.mk ha
              have B0 := Aside0.mk Q_B0
              refine value_ (w1 := w') (v := .bool true) (wanted_on rfl rfl rfl (e151.trans (by first | rfl | (simp [*]; done)))) rfl ?_ ?_
              · go_simp
                (try simp only [i64_w])
                try rfl
              refine hK.out _ _ ⟨(by rw [ha.out]; exact putSel_upk 7 hb_ rfl rfl rfl), Q_B0⟩
            refine steps_cons ?_ ?_
            · rintro b a w' ⟨ha, Q_B0⟩ hb_ hon hoff
              refine ⟨_, rfl, fun K hK => ?_⟩
              have e151 : a.tmps[151]? = some (.bool true) := by rw [ha]; exact putSel_on (e := (1, 151, .bool true)) 1 rfl rfl (hon 1 (by kernel_rfl)) rfl
              have e157 : a.tmps[157]? = some (.bool true) := by rw [ha]; exact putSel_on (e := (7, 157, .bool true)) 7 rfl rfl (hon 7 (by kernel_rfl)) rfl
              replace ha := Aside0.mk ha
              have B0 := Aside0.mk Q_B0
              refine value_ (w1 := w') (v := .bool true) (by rfl) rfl ?_ ?_
              · go_simp
                (try simp only [i64_w])
                try rfl
              refine hK.out _ _ ⟨(by rw [ha.out]; exact putSel_upk 8 hb_ rfl rfl rfl), Q_B0⟩
            refine steps_cons ?_ ?_
            · rintro b a w' ⟨ha, Q_B0⟩ hb_ hon hoff
              refine ⟨_, rfl, fun K hK => ?_⟩
              have e158 : a.tmps[158]? = some (.bool true) := by rw [ha]; exact putSel_on (e := (8, 158, .bool true)) 8 rfl rfl (hon 8 (by kernel_rfl)) rfl
              replace ha := Aside0.mk ha
              have B0 := Aside0.mk Q_B0
              refine value_ (w1 := w') (v := .bool true) (by rfl) rfl ?_ ?_
              · go_simp
                (try simp only [i64_w])
                try rfl
              refine hK.out _ _ ⟨(by rw [ha.out]; exact putSel_upk 9 hb_ rfl rfl rfl), Q_B0⟩
            refine steps_cons ?_ ?_
            · rintro b a w' ⟨ha, Q_B0⟩ hb_ hon hoff
              refine ⟨_, rfl, fun K hK => ?_⟩
              have e15 : a.tmps[15]? = some (.int .i64 0) := by rw [ha]; exact (putSel_off rfl).trans rfl
              have e159 : a.tmps[159]? = some (.bool true) := by rw [ha]; exact putSel_on (e := (9, 159, .bool true)) 9 rfl rfl (hon 9 (by kernel_rfl)) rfl
              replace ha := Aside0.mk ha
              have B0 := Aside0.mk Q_B0
              refine value_ (w1 := w') (v := .int .i64 0) (wanted_on rfl rfl rfl (e159.trans (by first | rfl | (simp [*]; done)))) rfl ?_ ?_
              · go_simp
                (try simp only [i64_w])
                try rfl
              refine hK.out _ _ ⟨(by rw [ha.out]; exact putSel_upk 10 hb_ rfl rfl rfl), Q_B0⟩
            refine steps_cons ?_ ?_
            · rintro b a w' ⟨ha, Q_B0⟩ hb_ hon hoff
              refine ⟨_, rfl, fun K hK => ?_⟩
              have e160 : a.tmps[160]? = some (.int .i64 0) := by rw [ha]; exact putSel_on (e := (10, 160, .int .i64 0)) 10 rfl rfl (hon 10 (by kernel_rfl)) rfl
              have e159 : a.tmps[159]? = some (.bool true) := by rw [ha]; exact putSel_on (e := (9, 159, .bool true)) 9 rfl rfl (hon 9 (by kernel_rfl)) rfl
              replace ha := Aside0.mk ha
              have B0 := Aside0.mk Q_B0
              refine value_ (w1 := w') (v := .bool true) (wanted_on rfl rfl rfl (e159.trans (by first | rfl | (simp [*]; done)))) rfl ?_ ?_
              · go_simp
                (try simp only [i64_w])
                try rfl
              refine hK.out _ _ ⟨(by rw [ha.out]; exact putSel_upk 11 hb_ rfl rfl rfl), Q_B0⟩
            refine steps_cons ?_ ?_
            · rintro b a w' ⟨ha, Q_B0⟩ hb_ hon hoff
              refine ⟨_, rfl, fun K hK => ?_⟩
              have e159 : a.tmps[159]? = some (.bool true) := by rw [ha]; exact putSel_on (e := (9, 159, .bool true)) 9 rfl rfl (hon 9 (by kernel_rfl)) rfl
              have e161 : a.tmps[161]? = some (.bool true) := by rw [ha]; exact putSel_on (e := (11, 161, .bool true)) 11 rfl rfl (hon 11 (by kernel_rfl)) rfl
              replace ha := Aside0.mk ha
              have B0 := Aside0.mk Q_B0
              refine value_ (w1 := w') (v := .bool true) (by rfl) rfl ?_ ?_
              · go_simp
                (try simp only [i64_w])
                try rfl
              refine hK.out _ _ ⟨(by rw [ha.out]; exact putSel_upk 12 hb_ rfl rfl rfl), Q_B0⟩
            refine steps_cons ?_ ?_
            · rintro b a w' ⟨ha, Q_B0⟩ hb_ hon hoff
              refine ⟨_, rfl, fun K hK => ?_⟩
              have e162 : a.tmps[162]? = some (.bool true) := by rw [ha]; exact putSel_on (e := (12, 162, .bool true)) 12 rfl rfl (hon 12 (by kernel_rfl)) rfl
              replace ha := Aside0.mk ha
              have B0 := Aside0.mk Q_B0
              refine value_ (w1 := w') (v := .bool true) (by rfl) rfl ?_ ?_
              · go_simp
                (try simp only [i64_w])
                try rfl
              refine hK.out _ _ ⟨(by rw [ha.out]; exact putSel_upk 13 hb_ rfl rfl rfl), Q_B0⟩
            exact steps_nil
          rintro b a wl23 hall ⟨ha, Q_B0⟩
          clear B0
          have hb0_ := hall 0 (by kernel_rfl)
          have hb1_ := hall 1 (by kernel_rfl)
          have hb2_ := hall 2 (by kernel_rfl)
          have hb3_ := hall 3 (by kernel_rfl)
          have hb4_ := hall 4 (by kernel_rfl)
          have hb5_ := hall 5 (by kernel_rfl)
          have hb6_ := hall 6 (by kernel_rfl)
          have hb7_ := hall 7 (by kernel_rfl)
          have hb8_ := hall 8 (by kernel_rfl)
          have hb9_ := hall 9 (by kernel_rfl)
          have hb10_ := hall 10 (by kernel_rfl)
          have hb11_ := hall 11 (by kernel_rfl)
          have hb12_ := hall 12 (by kernel_rfl)
          have hb13_ := hall 13 (by kernel_rfl)
          subst ha
          simp only [putSel, hb0_, hb1_, hb2_, hb3_, hb4_, hb5_, hb6_, hb7_, hb8_, hb9_, hb10_, hb11_, hb12_, hb13_, if_true, Act.put, List.setIfInBounds_toArray, List.set_cons_zero, List.set_cons_succ]
          have B0 := Aside0.mk Q_B0
          clear Q_B0
          clear hall hb0_ hb1_ hb2_ hb3_ hb4_ hb5_ hb6_ hb7_ hb8_ hb9_ hb10_ hb11_ hb12_ hb13_
          clear HT_ HW_
          have HFIN := Aside0.mk (below_then B1.out B1.out.size B0.out)
          go_wp2_with fail
          go_ret
          exact ⟨rfl, HFIN.out⟩

end Go.Proofs.Ytmlkkdopogcggaa.Hp
