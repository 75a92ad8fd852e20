/- Parts of the proof of the statement ScanBlocks, laid together (3 of 10). -/
import Derived.OpenShut
import Derived.Test.YtnchdmidaigheaaZScanBlocks1
namespace Go.Proofs.Ytnchdmidaigheaa.Hp
open Go.RowKit Go.Proofs.YtnchdmidaigheaaW.PrintWords Go.Proofs.YtnchdmidaigheaaW.PrintLast Go.Proofs.YtnchdmidaigheaaW.PrintMore
attribute [local go_sem] max2_int min2_int max_two min_two max_three min_three max_four min_four   -- for this text's walks alone
set_option linter.unusedVariables false
set_option linter.unusedSimpArgs false
def wagtailref15_Put.f (k i c b o l n : Int) (d : ByteArray) : Option ByteArray := if headMay k i c b o l n = true ∧ 0 ≤ b ∧ 0 ≤ o ∧ d.size ≤ 228 then some (strOfNums (pageBody k i c b o l n (bytesOf d) ++ beBytes 4 (zsum (pageBody k i c b o l n (bytesOf d))))) else none
def Str (w : World) (z : Value) (x : ByteArray) : Prop := ∀ W, Below w.heap.size w W → Sem.run Try.prog (convert 38 9 z) W = .ok (.string x) W
theorem Str.step {w w2 : World} {z : Value} {x : ByteArray} (h : Str w z x) (hb : Below w.heap.size w w2) : Str w2 z x := fun W hW => h W (below_then hb hb.size hW)
theorem Str.here {w : World} {z : Value} {x : ByteArray} (h : Str w z x) : Sem.run Try.prog (convert 38 9 z) w = .ok (.string x) w := h w (Below.refl _ _)
theorem Str.of_R {w : World} {e base : Nat} {ok : Nat → Prop} {v : Value} {l : List Int} {x : ByteArray} (h : Kd.R (Kd.int .u8) e w base ok v l) (hx : x = strOfNums l) : Str w v x := by
 obtain ⟨A, c, rfl, hl, hC⟩ := Kd.R_reads h; intro W hW; rw [hx]; exact c_string Try.underlying38 Try.underlying5 Try.underlying9 (Kd.C_below hC hW)
theorem wagtailref15_Put.ref_bytes_loop (n : Int) (h0 : 0 ≤ n) (h1 : n < 18446744073709551616) (w : Nat) (hw : w ≤ 8) : ∀ (d j : Nat), j + d = w → ∀ k, d < k → wagtailref01_Bytes.l0 k (w : Int) (n / 256 ^ j) (beBytes j n) (j : Int) = some (beBytes w n) := by
 intro d
 induction d with
 | zero =>
  intro j hj k hk; obtain ⟨k, rfl⟩ : ∃ m, k = m + 1 := ⟨k - 1, by omega⟩; have : j = w := by omega
  subst this; simp only [wagtailref01_Bytes.l0]; rw [if_neg (by omega)]
 | succ d ih =>
  intro j hj k hk; obtain ⟨k, rfl⟩ : ∃ m, k = m + 1 := ⟨k - 1, by omega⟩; simp only [wagtailref01_Bytes.l0]; have hq0 : 0 ≤ n / 256 ^ j := Int.ediv_nonneg h0 (Int.le_of_lt (Int.pow_pos (by omega))); have hq1 : n / 256 ^ j < 18446744073709551616 := Int.lt_of_le_of_lt (Int.ediv_le_self _ h0) h1; rw [if_pos (by omega), if_pos (by omega)]; simp only [Option.bind_some]; rw [if_pos (by simp [beBytes_len]; omega)]; have e1 : IntKind.u64.wrap (Int.tdiv (n / 256 ^ j) 256) = n / 256 ^ (j + 1) := by
   rw [Int.tdiv_eq_ediv_of_nonneg hq0, IntKind.wrap_u64, Int.pow_succ, ← Int.ediv_ediv_of_nonneg (Int.le_of_lt (Int.pow_pos (by omega)))]; have := Int.ediv_le_self 256 hq0; have h2 : 0 ≤ n / 256 ^ j / 256 := Int.ediv_nonneg hq0 (by omega); omega
  have e2 : [(Int.tmod (n / 256 ^ j) 256) % 256] ++ beBytes j n = beBytes (j + 1) n := by
   rw [Int.tmod_eq_emod_of_nonneg hq0, beBytes_succ]; simp
  have e3 : wrap64 ((j : Int) + 1) = ((j + 1 : Nat) : Int) := by unfold wrap64; omega
  rw [e1, e2, e3]; exact ih (j + 1) (by omega) k (by omega)
theorem wagtailref15_Put.ref_bytes (n : Int) (h0 : 0 ≤ n) (h1 : n < 18446744073709551616) (w : Nat) (hw : w ≤ 8) : wagtailref01_Bytes.f 9 (w : Int) n = some (beBytes w n) := by
 have h := ref_bytes_loop n h0 h1 w hw w 0 (by omega) 9 (by omega)
 simpa [wagtailref01_Bytes.f, beBytes] using h
theorem wagtailref15_Put.ref_bytes_calls (n : Int) (h0 : 0 ≤ n) (h1 : n < 18446744073709551616) (w : Nat) (hw : w ≤ 8) (wi : Int) (hwi : (w : Int) = wi) (x : ByteArray) (hx : x = strOfNums (beBytes w n)) (W : World) :
  Calls Try.prog 114 #[.int .i64 wi, .int .u64 n] W fun e w' => ∃ z, e = .returned z ∧ Below W.heap.size W w' ∧ Str w' z x := by
 subst hwi; refine (wagtailref01_Bytes.calls 9 w n _ W (ref_bytes n h0 h1 w hw)).mono ?_; rintro e w' ⟨z, rfl, hr, hb⟩; exact ⟨z, rfl, hb, Str.of_R hr hx⟩
theorem wagtailref15_Put.ref_ones_loop (n : Nat) (hn : n ≤ 2000000) : ∀ (d i : Nat), i + d = n → ∀ k, d < k → wagtailref02_Ones.l0 k (n : Int) (List.replicate i 255) (i : Int) = some (List.replicate n 255) := by
 intro d
 induction d with
 | zero =>
  intro i hi k hk; obtain ⟨k, rfl⟩ : ∃ m, k = m + 1 := ⟨k - 1, by omega⟩; have : i = n := by omega
  subst this; simp only [wagtailref02_Ones.l0]; rw [if_neg (by omega)]
 | succ d ih =>
  intro i hi k hk; obtain ⟨k, rfl⟩ : ∃ m, k = m + 1 := ⟨k - 1, by omega⟩; simp only [wagtailref02_Ones.l0]; rw [if_pos (by omega), if_pos (by simp; omega)]; have e1 : List.replicate i (255 : Int) ++ [255] = List.replicate (i + 1) 255 := by rw [List.replicate_succ']
  have e3 : wrap64 ((i : Int) + 1) = ((i + 1 : Nat) : Int) := by unfold wrap64; omega
  rw [e1, e3]; exact ih (i + 1) (by omega) k (by omega)
theorem wagtailref15_Put.ref_ones_calls (n : Nat) (hn : n ≤ 2000000) (ni : Int) (hni : (n : Int) = ni) (x : ByteArray) (hx : x = strOfNums (List.replicate n 255)) (W : World) :
  Calls Try.prog 73 #[.int .i64 ni] W fun e w' => ∃ z, e = .returned z ∧ Below W.heap.size W w' ∧ Str w' z x := by
 subst hni; refine (wagtailref02_Ones.calls (n + 1) n _ W (by simpa [wagtailref02_Ones.f] using ref_ones_loop n hn n 0 (by omega) (n + 1) (by omega))).mono ?_; rintro e w' ⟨z, rfl, hr, hb⟩; exact ⟨z, rfl, hb, Str.of_R hr hx⟩
theorem wagtailref15_Put.str_append (a b : List Int) : strOfNums a ++ strOfNums b = strOfNums (a ++ b) := by
 apply ByteArray.ext; simp [strOfNums]
theorem wagtailref15_Put.bytesOf_str (a : List Int) (h : isBytes a) : bytesOf (strOfNums a) = a := by
 unfold bytesOf strOfNums; simp only [List.map_map]
 conv => rhs; rw [← List.map_id a]
 refine List.map_congr_left (fun x hx => ?_); have := h x hx; simp only [Function.comp, id, UInt8.toNat_ofNat']; omega
theorem wagtailref15_Put.str_size (a : List Int) : (strOfNums a).size = a.length := by
 simp [strOfNums, ByteArray.size]
theorem wagtailref15_Put.headMay_range {k i c b o l n : Int} (h : headMay k i c b o l n = true) : (1 ≤ k ∧ k ≤ 5) ∧ (1 ≤ c ∧ c ≤ 16) ∧ (0 ≤ i ∧ i < c) ∧ b < 2147483648 ∧ o < 2147483648 ∧ (0 ≤ l ∧ l ≤ 65535) ∧ 0 ≤ n ∧ n ≤ 228 := by
 unfold headMay within at h; simp only [Bool.and_eq_true, decide_eq_true_eq] at h; obtain ⟨⟨h1, h2, h3⟩, h4, h5, h6, h7⟩ := h; refine ⟨h1, h2, ⟨h3.1, ?_⟩, h4, h5, h6, h7⟩; have := h3.2; unfold wrap64 at this; omega
theorem wagtailref15_Put.zsum_snoc (l : List Int) (i : Nat) (h : i < l.length) : zsum (l.take (i + 1)) = zsum (l.take i) + zbits (l.getD i 0) := by
 unfold zsum; rw [List.take_add_one, List.getElem?_eq_getElem h, List.getD_eq_getElem?_getD, List.getElem?_eq_getElem h, List.map_append, List.sum_append]; simp only [Option.toList_some, List.map_cons, List.map_nil, List.sum_cons, List.sum_nil, Int.add_zero, Option.getD_some]
theorem wagtailref15_Put.zbits_range (c : Int) : 0 ≤ zbits c ∧ zbits c ≤ 8 := by unfold zbits; omega
theorem wagtailref15_Put.zsum_range (l : List Int) : 0 ≤ zsum l ∧ zsum l ≤ 8 * l.length := by
 induction l with
 | nil => simp [zsum]
 | cons a l ih =>
  have := zbits_range a; simp only [zsum, List.map_cons, List.sum_cons, List.length_cons] at ih ⊢; omega
theorem wagtailref15_Put.str_bytes (a : ByteArray) : strOfNums (bytesOf a) = a := by
 apply ByteArray.ext; simp only [strOfNums, bytesOf, List.map_map]; have : (fun n : Int => UInt8.ofNat n.toNat) ∘ (fun b : UInt8 => (b.toNat : Int)) = id := by
  funext b
  simp
 rw [this]; simp
theorem wagtailref15_Put.bytes_isBytes (a : ByteArray) : isBytes (bytesOf a) := by
 intro x hx; unfold bytesOf at hx; obtain ⟨b, _, rfl⟩ := List.mem_map.1 hx; have := b.toNat_lt; omega
theorem wagtailref15_Put.beBytes_isBytes (w : Nat) (n : Int) : isBytes (beBytes w n) := by
 intro x hx; unfold beBytes at hx; obtain ⟨i, _, rfl⟩ := List.mem_map.1 hx; omega
theorem wagtailref15_Put.pageBody_bytes (k i c b o l n : Int) (d : List Int) (hd : isBytes d) : isBytes (pageBody k i c b o l n d) := by
 intro x hx; unfold pageBody pageHead at hx; simp only [List.mem_append, List.mem_cons, List.not_mem_nil, or_false, List.mem_replicate] at hx
 rcases hx with (((((h | h) | h) | h) | h) | h) | h
 ·
  rcases h with rfl | rfl | rfl | rfl <;> omega
 ·
  exact beBytes_isBytes _ _ x h
 ·
  exact beBytes_isBytes _ _ x h
 ·
  exact beBytes_isBytes _ _ x h
 ·
  exact beBytes_isBytes _ _ x h
 ·
  exact hd x h
 ·
  omega
def wagtailref15_Put.T1 : Bool × List (List Nat × List Nat) := (true, [([], []), ([0], [0]), ([1], [1]), ([], []), ([3], [3]), ([4], [4]), ([], []), ([6], [6]), ([7], [7]), ([2, 5, 8], [2, 5, 8]), ([9], [9]), ([], []), ([11], [11]), ([12], [12]), ([13], [13]), ([10, 14], [10, 14]), ([], []), ([16], [16]), ([17, 13], [17]), ([18], [18]), ([15, 19], [15, 19]), ([], []), ([21], [21]), ([22], [22]), ([23, 18], [23]), ([24], [24]), ([20, 25], [20, 25]), ([], []), ([27], [27]), ([28], [28]), ([29, 24], [29]), ([30], [30]), ([26, 31], [26, 31]), ([], []), ([32, 33], [32, 33]), ([34, 30, 0, 1, 2, 3, 4, 5, 6, 7, 8, 9, 10, 11, 12, 13, 14, 15, 16, 17, 18, 19, 20, 21, 22, 23, 24, 25, 26, 27, 28, 29, 30, 31, 32, 33, 34], [34])])
def wagtailref15_Put.B1 : List Nat := [0, 1, 3, 0, 8, 24, 0, 64, 192, 511, 1023, 0, 2048, 6144, 14336, 32767, 0, 65536, 210944, 473088, 1048575, 0, 2097152, 6291456, 15153152, 31930368, 67108863, 0, 134217728, 402653184, 971454464, 2045196288, 4294967295, 0, 17179869183, 34359738367]
theorem wagtailref15_Put.tab1 : rtab .any (opsOf Try.f94 1) = wagtailref15_Put.T1 := by kernel_rfl
theorem wagtailref15_Put.bits1 : waitsOk wagtailref15_Put.T1.2 wagtailref15_Put.B1 = true := by kernel_rfl
set_option maxHeartbeats 8000000 in
set_option maxRecDepth 100000 in
theorem wagtailref15_Put.calls (a0_0 : Int) (a0_1 : Int) (a0_2 : Int) (a0_3 : Int) (a0_4 : Int) (a0_5 : Int) (a0_6 : Int) (a1 : ByteArray) (r : ByteArray) (w : World) (h : wagtailref15_Put.f a0_0 a0_1 a0_2 a0_3 a0_4 a0_5 a0_6 a1 = some r) :
  Calls Try.prog 94 #[.agg #[.int .i64 a0_0, .int .i64 a0_1, .int .i64 a0_2, .int .u64 a0_3, .int .u64 a0_4, .int .i64 a0_5, .int .i64 a0_6], .string a1] w fun e w' => e = .returned (.string r) ∧ Below w.heap.size w w' := by
 unfold wagtailref15_Put.f at h; by_cases hm : headMay a0_0 a0_1 a0_2 a0_3 a0_4 a0_5 a0_6 = true ∧ 0 ≤ a0_3 ∧ 0 ≤ a0_4 ∧ a1.size ≤ 228
 case neg => rw [if_neg hm] at h; cases h
 rw [if_pos hm] at h; obtain rfl := Option.some.inj h; obtain ⟨hm, hb0, ho0, hd⟩ := hm; clear h; obtain ⟨L, hL⟩ : ∃ L, L = pageBody a0_0 a0_1 a0_2 a0_3 a0_4 a0_5 a0_6 (bytesOf a1) := ⟨_, rfl⟩; rw [← hL]; replace hL := aK hL; have hrg := headMay_range hm; have X13 := aK (wagtailref15_Put.ref_bytes_calls a0_3 hb0 (by omega) 8 (by omega) 8 rfl); have X18 := aK (wagtailref15_Put.ref_bytes_calls a0_4 ho0 (by omega) 8 (by omega) 8 rfl); have X24 := aK (wagtailref15_Put.ref_bytes_calls (IntKind.u64.wrap a0_5) (by rw [IntKind.wrap_u64]; omega) (by rw [IntKind.wrap_u64]; omega) 2 (by omega) 2 rfl); have X30 := aK (wagtailref15_Put.ref_bytes_calls (IntKind.u64.wrap a0_6) (by rw [IntKind.wrap_u64]; omega) (by rw [IntKind.wrap_u64]; omega) 2 (by omega) 2 rfl); obtain ⟨x9, hx9⟩ : ∃ x, x = strOfNums [a0_0 % 256, a0_1 % 256, a0_2 % 256, 0] := ⟨_, rfl⟩; obtain ⟨x13, hx13⟩ : ∃ x, x = strOfNums (beBytes 8 a0_3) := ⟨_, rfl⟩; obtain ⟨x18, hx18⟩ : ∃ x, x = strOfNums (beBytes 8 a0_4) := ⟨_, rfl⟩; obtain ⟨x24, hx24⟩ : ∃ x, x = strOfNums (beBytes 2 (IntKind.u64.wrap a0_5)) := ⟨_, rfl⟩; obtain ⟨x30, hx30⟩ : ∃ x, x = strOfNums (beBytes 2 (IntKind.u64.wrap a0_6)) := ⟨_, rfl⟩; replace X13 := aK (X13.out x13 hx13); replace X18 := aK (X18.out x18 hx18); replace X24 := aK (X24.out x24 hx24); replace X30 := aK (X30.out x30 hx30); have X9 := aK hx9; have HS := aK (show x9.size = 4 ∧ x13.size = 8 ∧ x18.size = 8 ∧ x24.size = 2 ∧ x30.size = 2 ∧ a1.size ≤ 228 by
  rw [hx9, hx13, hx18, hx24, hx30]; simp only [wagtailref15_Put.str_size, beBytes_len]; exact ⟨by simp, trivial, trivial, trivial, trivial, hd⟩)
 have HALL := aK (And.intro hm (And.intro hrg (And.intro hd (And.intro hx9 (And.intro hx13 (And.intro hx18 (And.intro hx24 hx30))))))); clear hm hb0 ho0 hd hrg hx9 hx13 hx18 hx24 hx30; go_enter Try.func94, Try.ntmps94; go_upto_region 1 with fail; have B1 := aK (below_alloc (Below.refl w.heap.size w) (Obj.cells #[Value.int IntKind.i64 a0_0, Value.int IntKind.i64 a0_1, Value.int IntKind.i64 a0_2, Value.int IntKind.u64 a0_3, Value.int IntKind.u64 a0_4, Value.int IntKind.i64 a0_5, Value.int IntKind.i64 a0_6] 82)); have hz := heap_alloc_new w (Obj.cells #[Value.int IntKind.i64 a0_0, Value.int IntKind.i64 a0_1, Value.int IntKind.i64 a0_2, Value.int IntKind.u64 a0_3, Value.int IntKind.u64 a0_4, Value.int IntKind.i64 a0_5, Value.int IntKind.i64 a0_6] 82); have HG := aK (show w.heap.size < (w.alloc (Obj.cells #[Value.int IntKind.i64 a0_0, Value.int IntKind.i64 a0_1, Value.int IntKind.i64 a0_2, Value.int IntKind.u64 a0_3, Value.int IntKind.u64 a0_4, Value.int IntKind.i64 a0_5, Value.int IntKind.i64 a0_6] 82)).heap.size by simp); generalize (w.alloc (Obj.cells #[Value.int IntKind.i64 a0_0, Value.int IntKind.i64 a0_1, Value.int IntKind.i64 a0_2, Value.int IntKind.u64 a0_3, Value.int IntKind.u64 a0_4, Value.int IntKind.i64 a0_5, Value.int IntKind.i64 a0_6] 82)) = W0 at B1 hz HG ⊢; have HX0 := aK ((blk_cell hz 0).trans rfl); have HX1 := aK ((blk_cell hz 1).trans rfl); have HX2 := aK ((blk_cell hz 2).trans rfl); have HX3 := aK ((blk_cell hz 3).trans rfl); have HX4 := aK ((blk_cell hz 4).trans rfl); have HX5 := aK ((blk_cell hz 5).trans rfl); have HX6 := aK ((blk_cell hz 6).trans rfl); clear hz; have B0 := aK (below_drew1 (Below.refl W0.heap.size W0)); refine start_ (n := 36) (S := fun w' => True) (ds := []) #[false, false, false, false, false, false, false, false, false, false, false, false, false, false, false, false, false, false, false, false, false, false, false, false, false, false, false, false, false, false, false, false, false, false, false, false] (by kernel_rfl) rfl rfl trivial (fun hHeld => ?_); refine with_tabW wagtailref15_Put.tab1 wagtailref15_Put.bits1 (fun HT_ HW_ => ?_); generalize W0.drew = wq at B0 hHeld ⊢; refine pure_ (i := 0) (N := some 10) (v := ?_) (a' := ?_) #[true, false, false, false, false, false, false, false, false, false, false, false, false, false, false, false, false, false, false, false, false, false, false, false, false, false, false, false, false, false, false, false, false, false, false, false] rfl rfl (any_of HT_.out (by kernel_rfl)) (fun _ _ _ h => h) (Or.inl ⟨by rfl, ?_⟩) ?_ ?_; rotate_left
 ·
  intro w'
  go_simp
  with_reducible rfl
 rotate_left
 ·
  simp only [Act.put, List.setIfInBounds_toArray, List.set_cons_zero, List.set_cons_succ, i64_w, i32_w]; rfl
 refine pure_ (i := 3) (N := some 13) (v := ?_) (a' := ?_) #[true, false, false, true, false, false, false, false, false, false, false, false, false, false, false, false, false, false, false, false, false, false, false, false, false, false, false, false, false, false, false, false, false, false, false, false] rfl rfl (any_of HT_.out (by kernel_rfl)) (fun _ _ _ h => h) (Or.inl ⟨by rfl, ?_⟩) ?_ ?_; rotate_left
 ·
  intro w'
  go_simp
  with_reducible rfl
 rotate_left
 ·
  simp only [Act.put, List.setIfInBounds_toArray, List.set_cons_zero, List.set_cons_succ, i64_w, i32_w]; rfl
 refine pure_ (i := 6) (N := some 16) (v := ?_) (a' := ?_) #[true, false, false, true, false, false, true, false, false, false, false, false, false, false, false, false, false, false, false, false, false, false, false, false, false, false, false, false, false, false, false, false, false, false, false, false] rfl rfl (any_of HT_.out (by kernel_rfl)) (fun _ _ _ h => h) (Or.inl ⟨by rfl, ?_⟩) ?_ ?_; rotate_left
 ·
  intro w'
  go_simp
  with_reducible rfl
 rotate_left
 ·
  simp only [Act.put, List.setIfInBounds_toArray, List.set_cons_zero, List.set_cons_succ, i64_w, i32_w]; rfl
 refine pure_ (i := 11) (N := some 21) (v := ?_) (a' := ?_) #[true, false, false, true, false, false, true, false, false, false, false, true, false, false, false, false, false, false, false, false, false, false, false, false, false, false, false, false, false, false, false, false, false, false, false, false] rfl rfl (any_of HT_.out (by kernel_rfl)) (fun _ _ _ h => h) (Or.inl ⟨by rfl, ?_⟩) ?_ ?_; rotate_left
 ·
  intro w'
  go_simp
  with_reducible rfl
 rotate_left
 ·
  simp only [Act.put, List.setIfInBounds_toArray, List.set_cons_zero, List.set_cons_succ, i64_w, i32_w]; rfl
 refine pure_ (i := 16) (N := some 26) (v := ?_) (a' := ?_) #[true, false, false, true, false, false, true, false, false, false, false, true, false, false, false, false, true, false, false, false, false, false, false, false, false, false, false, false, false, false, false, false, false, false, false, false] rfl rfl (any_of HT_.out (by kernel_rfl)) (fun _ _ _ h => h) (Or.inl ⟨by rfl, ?_⟩) ?_ ?_; rotate_left
 ·
  intro w'
  go_simp
  with_reducible rfl
 rotate_left
 ·
  simp only [Act.put, List.setIfInBounds_toArray, List.set_cons_zero, List.set_cons_succ, i64_w, i32_w]; rfl
 refine pure_ (i := 21) (N := some 31) (v := ?_) (a' := ?_) #[true, false, false, true, false, false, true, false, false, false, false, true, false, false, false, false, true, false, false, false, false, true, false, false, false, false, false, false, false, false, false, false, false, false, false, false] rfl rfl (any_of HT_.out (by kernel_rfl)) (fun _ _ _ h => h) (Or.inl ⟨by rfl, ?_⟩) ?_ ?_; rotate_left
 ·
  intro w'
  go_simp
  with_reducible rfl
 rotate_left
 ·
  simp only [Act.put, List.setIfInBounds_toArray, List.set_cons_zero, List.set_cons_succ, i64_w, i32_w]; rfl
 refine pure_ (i := 27) (N := some 37) (v := ?_) (a' := ?_) #[true, false, false, true, false, false, true, false, false, false, false, true, false, false, false, false, true, false, false, false, false, true, false, false, false, false, false, true, false, false, false, false, false, false, false, false] rfl rfl (any_of HT_.out (by kernel_rfl)) (fun _ _ _ h => h) (Or.inl ⟨by rfl, ?_⟩) ?_ ?_; rotate_left
 ·
  intro w'
  go_simp
  with_reducible rfl
 rotate_left
 ·
  simp only [Act.put, List.setIfInBounds_toArray, List.set_cons_zero, List.set_cons_succ, i64_w, i32_w]; rfl
 refine pure_ (i := 33) (N := some 43) (v := ?_) (a' := ?_) #[true, false, false, true, false, false, true, false, false, false, false, true, false, false, false, false, true, false, false, false, false, true, false, false, false, false, false, true, false, false, false, false, false, true, false, false] rfl rfl (any_of HT_.out (by kernel_rfl)) (fun _ _ _ h => h) (Or.inl ⟨by rfl, ?_⟩) ?_ ?_; rotate_left
 ·
  intro w'
  go_simp
  with_reducible rfl
 rotate_left
 ·
  simp only [Act.put, List.setIfInBounds_toArray, List.set_cons_zero, List.set_cons_succ, i64_w, i32_w]; rfl
 refine inv_at [1, 2, 4, 5, 7, 8, 9, 10, 12, 13, 14, 15, 17, 18, 19, 20, 22, 23, 24, 25, 26, 28, 29, 30, 31, 32, 34, 35] (fun a0_ b a w' => ∃ (z9 : Value) (z13 : Value) (z18 : Value) (z24 : Value) (z30 : Value), a = putSel a0_ b [(1, 11, .int .i64 a0_0), (2, 12, .int .u8 (a0_0 % 256)), (4, 14, .int .i64 a0_1), (5, 15, .int .u8 (a0_1 % 256)), (7, 17, .int .i64 a0_2), (8, 18, .int .u8 (a0_2 % 256)), (9, 19, z9), (10, 20, .string x9), (12, 22, .int .u64 a0_3), (13, 23, z13), (14, 24, .string x13), (15, 25, .string (x9 ++ x13)), (17, 27, .int .u64 a0_4), (18, 28, z18), (19, 29, .string x18), (20, 30, .string ((x9 ++ x13) ++ x18)), (22, 32, .int .i64 a0_5), (23, 33, .int .u64 (IntKind.u64.wrap a0_5)), (24, 34, z24), (25, 35, .string x24), (26, 36, .string (((x9 ++ x13) ++ x18) ++ x24)), (28, 38, .int .i64 a0_6), (29, 39, .int .u64 (IntKind.u64.wrap a0_6)), (30, 40, z30), (31, 41, .string x30), (32, 42, .string ((((x9 ++ x13) ++ x18) ++ x24) ++ x30)), (34, 44, .string (((((x9 ++ x13) ++ x18) ++ x24) ++ x30) ++ a1)), (35, 5, .string (((((x9 ++ x13) ++ x18) ++ x24) ++ x30) ++ a1))] ∧ (Below W0.heap.size W0 w') ∧ (b 9 = true → Str w' z9 x9) ∧ (b 13 = true → Str w' z13 x13) ∧ (b 18 = true → Str w' z18 x18) ∧ (b 24 = true → Str w' z24 x24) ∧ (b 30 = true → Str w' z30 x30)) HT_.out HW_.out (by kernel_rfl) (by kernel_rfl) ?_ ?_ ?_
 ·
  exact ⟨.bool false, .bool false, .bool false, .bool false, .bool false, by simp only [putSel, Bool.false_eq_true, if_false], B0.out, fun h_ => absurd h_ (by decide), fun h_ => absurd h_ (by decide), fun h_ => absurd h_ (by decide), fun h_ => absurd h_ (by decide), fun h_ => absurd h_ (by decide)⟩
 ·
  skip
  clear B0; refine steps_cons ?_ ?_; rintro b a w' ⟨z9, z13, z18, z24, z30, ha, Q_B0, Q_S9, Q_S13, Q_S18, Q_S24, Q_S30⟩ hb_ hon hoff; refine ⟨_, rfl, fun K hK => ?_⟩; have e10 := q_f ha 10 rfl rfl; replace ha := aK ha; have B0 := aK Q_B0; have hc_ := (B0.out.cell (p := ⟨w.heap.size, 0, none⟩) HG.out).trans HX0.out; refine q_v (.int .i64 a0_0) (by rfl) rfl ?_ ?_; (· (go_simp; (try simp only [i64_w]); try rfl)); refine hK.out _ _ ⟨z9, z13, z18, z24, z30, q_u ha 0 hb_ rfl rfl rfl, Q_B0, fun h0_ => q_h hoff 9 h0_, Q_S13, Q_S18, Q_S24, Q_S30⟩; refine steps_cons ?_ ?_; rintro b a w' ⟨z9, z13, z18, z24, z30, ha, Q_B0, Q_S9, Q_S13, Q_S18, Q_S24, Q_S30⟩ hb_ hon hoff; refine ⟨_, rfl, fun K hK => ?_⟩; have e11 := q_n ha hon 11 0 1 rfl; replace ha := aK ha; have B0 := aK Q_B0; refine q_v (.int .u8 (a0_0 % 256)) (by rfl) rfl ?_ ?_; (· (go_simp; (try simp only [i64_w]); try rfl)); refine hK.out _ _ ⟨z9, z13, z18, z24, z30, q_u ha 1 hb_ rfl rfl rfl, Q_B0, fun h0_ => q_h hoff 9 h0_, Q_S13, Q_S18, Q_S24, Q_S30⟩; refine steps_cons ?_ ?_; rintro b a w' ⟨z9, z13, z18, z24, z30, ha, Q_B0, Q_S9, Q_S13, Q_S18, Q_S24, Q_S30⟩ hb_ hon hoff; refine ⟨_, rfl, fun K hK => ?_⟩; have e13 := q_f ha 13 rfl rfl; replace ha := aK ha; have B0 := aK Q_B0; have hc_ := (B0.out.cell (p := ⟨w.heap.size, 1, none⟩) HG.out).trans HX1.out; refine q_v (.int .i64 a0_1) (by rfl) rfl ?_ ?_; (· (go_simp; (try simp only [i64_w]); try rfl)); refine hK.out _ _ ⟨z9, z13, z18, z24, z30, q_u ha 2 hb_ rfl rfl rfl, Q_B0, fun h0_ => q_h hoff 9 h0_, Q_S13, Q_S18, Q_S24, Q_S30⟩; refine steps_cons ?_ ?_; rintro b a w' ⟨z9, z13, z18, z24, z30, ha, Q_B0, Q_S9, Q_S13, Q_S18, Q_S24, Q_S30⟩ hb_ hon hoff; refine ⟨_, rfl, fun K hK => ?_⟩; have e14 := q_n ha hon 14 2 4 rfl; replace ha := aK ha; have B0 := aK Q_B0; refine q_v (.int .u8 (a0_1 % 256)) (by rfl) rfl ?_ ?_; (· (go_simp; (try simp only [i64_w]); try rfl)); refine hK.out _ _ ⟨z9, z13, z18, z24, z30, q_u ha 3 hb_ rfl rfl rfl, Q_B0, fun h0_ => q_h hoff 9 h0_, Q_S13, Q_S18, Q_S24, Q_S30⟩; refine steps_cons ?_ ?_; rintro b a w' ⟨z9, z13, z18, z24, z30, ha, Q_B0, Q_S9, Q_S13, Q_S18, Q_S24, Q_S30⟩ hb_ hon hoff; refine ⟨_, rfl, fun K hK => ?_⟩; have e16 := q_f ha 16 rfl rfl; replace ha := aK ha; have B0 := aK Q_B0; have hc_ := (B0.out.cell (p := ⟨w.heap.size, 2, none⟩) HG.out).trans HX2.out; refine q_v (.int .i64 a0_2) (by rfl) rfl ?_ ?_; (· (go_simp; (try simp only [i64_w]); try rfl)); refine hK.out _ _ ⟨z9, z13, z18, z24, z30, q_u ha 4 hb_ rfl rfl rfl, Q_B0, fun h0_ => q_h hoff 9 h0_, Q_S13, Q_S18, Q_S24, Q_S30⟩; refine steps_cons ?_ ?_; rintro b a w' ⟨z9, z13, z18, z24, z30, ha, Q_B0, Q_S9, Q_S13, Q_S18, Q_S24, Q_S30⟩ hb_ hon hoff; refine ⟨_, rfl, fun K hK => ?_⟩; have e17 := q_n ha hon 17 4 7 rfl; replace ha := aK ha; have B0 := aK Q_B0; refine q_v (.int .u8 (a0_2 % 256)) (by rfl) rfl ?_ ?_; (· (go_simp; (try simp only [i64_w]); try rfl)); refine hK.out _ _ ⟨z9, z13, z18, z24, z30, q_u ha 5 hb_ rfl rfl rfl, Q_B0, fun h0_ => q_h hoff 9 h0_, Q_S13, Q_S18, Q_S24, Q_S30⟩; refine steps_cons ?_ ?_; rintro b a w' ⟨z9, z13, z18, z24, z30, ha, Q_B0, Q_S9, Q_S13, Q_S18, Q_S24, Q_S30⟩ hb_ hon hoff; refine ⟨_, rfl, fun K hK => ?_⟩; have e12 := q_n ha hon 12 1 2 rfl; have e15 := q_n ha hon 15 3 5 rfl; have e18 := q_n ha hon 18 5 8 rfl; replace ha := aK ha; have B0 := aK Q_B0; refine Kd.R_lit_step (Kd.int .u8) w'.heap.size 5 (by rfl) (N := 19) ?hd (xs := [(a0_0 % 256), (a0_1 % 256), (a0_2 % 256), 0]) (inner := [.int .u8 (a0_0 % 256), .int .u8 (a0_1 % 256), .int .u8 (a0_2 % 256), .int .u8 0]) (ok := fun _ => True) (okp := fun _ => True) ?hr ?hp (fun _ hk => hk) trivial (Below.refl _ _) (Nat.le_refl _) (by simp) ?_
  case hd => rfl
  case hr => first | (go_simp; done) | (go_simp; rfl)
  case hp => exact (Reps.one (show Kd.M (Kd.int .u8) _ _ _ (a0_0 % 256) [.int .u8 (a0_0 % 256)] from rfl) (Reps.one (show Kd.M (Kd.int .u8) _ _ _ (a0_1 % 256) [.int .u8 (a0_1 % 256)] from rfl) (Reps.one (show Kd.M (Kd.int .u8) _ _ _ (a0_2 % 256) [.int .u8 (a0_2 % 256)] from rfl) (Reps.one (show Kd.M (Kd.int .u8) _ _ _ 0 [.int .u8 0] from rfl) ((Reps.none _ _))))))
  intro z w2 ho hb hg_ hnew_; clear hg_ hnew_; have hs := Str.of_R ho X9.out; refine hK.out _ _ ⟨z, z13, z18, z24, z30, q_u ha 6 hb_ rfl rfl rfl, below_then B0.out B0.out.size hb, fun _ => hs, fun h0_ => Str.step (Q_S13 h0_) hb, fun h0_ => Str.step (Q_S18 h0_) hb, fun h0_ => Str.step (Q_S24 h0_) hb, fun h0_ => Str.step (Q_S30 h0_) hb⟩; refine steps_cons ?_ ?_; rintro b a w' ⟨z9, z13, z18, z24, z30, ha, Q_B0, Q_S9, Q_S13, Q_S18, Q_S24, Q_S30⟩ hb_ hon hoff; refine ⟨_, rfl, fun K hK => ?_⟩; have e19 := q_n ha hon 19 6 9 rfl; replace ha := aK ha; have B0 := aK Q_B0; have S9 := aK (Q_S9 (hon 9 (by kernel_rfl))); have hs_ := S9.out.here; refine q_v (.string x9) (by rfl) rfl ?_ ?_; (· (go_simp; (try simp only [i64_w]); try rfl)); refine hK.out _ _ ⟨z9, z13, z18, z24, z30, q_u ha 7 hb_ rfl rfl rfl, Q_B0, Q_S9, Q_S13, Q_S18, Q_S24, Q_S30⟩; refine steps_cons ?_ ?_; rintro b a w' ⟨z9, z13, z18, z24, z30, ha, Q_B0, Q_S9, Q_S13, Q_S18, Q_S24, Q_S30⟩ hb_ hon hoff; refine ⟨_, rfl, fun K hK => ?_⟩; have e21 := q_f ha 21 rfl rfl; replace ha := aK ha; have B0 := aK Q_B0; have hc_ := (B0.out.cell (p := ⟨w.heap.size, 3, none⟩) HG.out).trans HX3.out; refine q_v (.int .u64 a0_3) (by rfl) rfl ?_ ?_; (· (go_simp; (try simp only [i64_w]); try rfl)); refine hK.out _ _ ⟨z9, z13, z18, z24, z30, q_u ha 8 hb_ rfl rfl rfl, Q_B0, Q_S9, fun h0_ => q_h hoff 13 h0_, fun h0_ => q_h hoff 18 h0_, fun h0_ => q_h hoff 24 h0_, fun h0_ => q_h hoff 30 h0_⟩; refine steps_cons ?_ ?_; rintro b a w' ⟨z9, z13, z18, z24, z30, ha, Q_B0, Q_S9, Q_S13, Q_S18, Q_S24, Q_S30⟩ hb_ hon hoff; refine ⟨_, rfl, fun K hK => ?_⟩; have e22 := q_n ha hon 22 8 12 rfl; replace ha := aK ha; have B0 := aK Q_B0; refine goes_ Try.func114 (by kernel_rfl) rfl #[.int .i64 8, .int .u64 a0_3] (by rfl) rfl rfl (by (simp only [List.map_toArray, List.map_cons, List.map_nil, Act.eval, Array.getD_eq_getD_getElem?, Option.getD_some, e22]) <;> rfl) ?_; (with_reducible refine (X13.out _).mono ?_); rintro e w2 ⟨z, rfl, hb, hs⟩; refine ⟨_, rfl, ?_⟩; refine hK.out _ _ ⟨z9, z, z18, z24, z30, q_u ha 9 hb_ rfl rfl rfl, below_then B0.out B0.out.size hb, fun h0_ => Str.step (Q_S9 h0_) hb, fun _ => hs, fun h0_ => q_h hoff 18 h0_, fun h0_ => q_h hoff 24 h0_, fun h0_ => q_h hoff 30 h0_⟩; refine steps_cons ?_ ?_; rintro b a w' ⟨z9, z13, z18, z24, z30, ha, Q_B0, Q_S9, Q_S13, Q_S18, Q_S24, Q_S30⟩ hb_ hon hoff; refine ⟨_, rfl, fun K hK => ?_⟩; have e23 := q_n ha hon 23 9 13 rfl; replace ha := aK ha; have B0 := aK Q_B0; have S13 := aK (Q_S13 (hon 13 (by kernel_rfl))); have hs_ := S13.out.here; refine q_v (.string x13) (by rfl) rfl ?_ ?_; (· (go_simp; (try simp only [i64_w]); try rfl)); refine hK.out _ _ ⟨z9, z13, z18, z24, z30, q_u ha 10 hb_ rfl rfl rfl, Q_B0, Q_S9, Q_S13, Q_S18, Q_S24, Q_S30⟩; refine steps_cons ?_ ?_; rintro b a w' ⟨z9, z13, z18, z24, z30, ha, Q_B0, Q_S9, Q_S13, Q_S18, Q_S24, Q_S30⟩ hb_ hon hoff; refine ⟨_, rfl, fun K hK => ?_⟩; have e20 := q_n ha hon 20 7 10 rfl; have e24 := q_n ha hon 24 10 14 rfl; replace ha := aK ha; have B0 := aK Q_B0; have S9 := aK (Q_S9 (hon 9 (by kernel_rfl))); have S13 := aK (Q_S13 (hon 13 (by kernel_rfl))); have hs_ : x9.size + x13.size ≤ 9223372036854775807 := by have := HS.out; omega
  refine q_v (.string (x9 ++ x13)) (by rfl) rfl ?_ ?_; (· (go_simp; (try simp only [i64_w]); try rfl)); refine hK.out _ _ ⟨z9, z13, z18, z24, z30, q_u ha 11 hb_ rfl rfl rfl, Q_B0, Q_S9, Q_S13, Q_S18, Q_S24, Q_S30⟩; refine steps_cons ?_ ?_; rintro b a w' ⟨z9, z13, z18, z24, z30, ha, Q_B0, Q_S9, Q_S13, Q_S18, Q_S24, Q_S30⟩ hb_ hon hoff; refine ⟨_, rfl, fun K hK => ?_⟩; have e26 := q_f ha 26 rfl rfl; replace ha := aK ha; have B0 := aK Q_B0; have hc_ := (B0.out.cell (p := ⟨w.heap.size, 4, none⟩) HG.out).trans HX4.out; refine q_v (.int .u64 a0_4) (by rfl) rfl ?_ ?_; (· (go_simp; (try simp only [i64_w]); try rfl)); refine hK.out _ _ ⟨z9, z13, z18, z24, z30, q_u ha 12 hb_ rfl rfl rfl, Q_B0, Q_S9, Q_S13, fun h0_ => q_h hoff 18 h0_, fun h0_ => q_h hoff 24 h0_, fun h0_ => q_h hoff 30 h0_⟩; refine steps_cons ?_ ?_; rintro b a w' ⟨z9, z13, z18, z24, z30, ha, Q_B0, Q_S9, Q_S13, Q_S18, Q_S24, Q_S30⟩ hb_ hon hoff; refine ⟨_, rfl, fun K hK => ?_⟩; have e27 := q_n ha hon 27 12 17 rfl; replace ha := aK ha; have B0 := aK Q_B0; have S13 := aK (Q_S13 (hon 13 (by kernel_rfl))); refine goes_ Try.func114 (by kernel_rfl) rfl #[.int .i64 8, .int .u64 a0_4] (by rfl) rfl rfl (by (simp only [List.map_toArray, List.map_cons, List.map_nil, Act.eval, Array.getD_eq_getD_getElem?, Option.getD_some, e27]) <;> rfl) ?_; (with_reducible refine (X18.out _).mono ?_); rintro e w2 ⟨z, rfl, hb, hs⟩; refine ⟨_, rfl, ?_⟩; refine hK.out _ _ ⟨z9, z13, z, z24, z30, q_u ha 13 hb_ rfl rfl rfl, below_then B0.out B0.out.size hb, fun h0_ => Str.step (Q_S9 h0_) hb, fun _ => Str.step S13.out hb, fun _ => hs, fun h0_ => q_h hoff 24 h0_, fun h0_ => q_h hoff 30 h0_⟩; refine steps_cons ?_ ?_; rintro b a w' ⟨z9, z13, z18, z24, z30, ha, Q_B0, Q_S9, Q_S13, Q_S18, Q_S24, Q_S30⟩ hb_ hon hoff; refine ⟨_, rfl, fun K hK => ?_⟩; have e28 := q_n ha hon 28 13 18 rfl; replace ha := aK ha; have B0 := aK Q_B0; have S13 := aK (Q_S13 (hon 13 (by kernel_rfl))); have S18 := aK (Q_S18 (hon 18 (by kernel_rfl))); have hs_ := S18.out.here; refine q_v (.string x18) (by rfl) rfl ?_ ?_; (· (go_simp; (try simp only [i64_w]); try rfl)); refine hK.out _ _ ⟨z9, z13, z18, z24, z30, q_u ha 14 hb_ rfl rfl rfl, Q_B0, Q_S9, Q_S13, Q_S18, Q_S24, Q_S30⟩; refine steps_cons ?_ ?_; rintro b a w' ⟨z9, z13, z18, z24, z30, ha, Q_B0, Q_S9, Q_S13, Q_S18, Q_S24, Q_S30⟩ hb_ hon hoff; refine ⟨_, rfl, fun K hK => ?_⟩; have e25 := q_n ha hon 25 11 15 rfl; have e29 := q_n ha hon 29 14 19 rfl; replace ha := aK ha; have B0 := aK Q_B0; have S9 := aK (Q_S9 (hon 9 (by kernel_rfl))); have S13 := aK (Q_S13 (hon 13 (by kernel_rfl))); have S18 := aK (Q_S18 (hon 18 (by kernel_rfl))); have hs_ : x9.size + x13.size + x18.size ≤ 9223372036854775807 := by have := HS.out; omega
  refine q_v (.string ((x9 ++ x13) ++ x18)) (by rfl) rfl ?_ ?_; (· (go_simp; (try simp only [i64_w]); try rfl)); refine hK.out _ _ ⟨z9, z13, z18, z24, z30, q_u ha 15 hb_ rfl rfl rfl, Q_B0, Q_S9, Q_S13, Q_S18, Q_S24, Q_S30⟩; refine steps_cons ?_ ?_; rintro b a w' ⟨z9, z13, z18, z24, z30, ha, Q_B0, Q_S9, Q_S13, Q_S18, Q_S24, Q_S30⟩ hb_ hon hoff; refine ⟨_, rfl, fun K hK => ?_⟩; have e31 := q_f ha 31 rfl rfl; replace ha := aK ha; have B0 := aK Q_B0; have hc_ := (B0.out.cell (p := ⟨w.heap.size, 5, none⟩) HG.out).trans HX5.out; refine q_v (.int .i64 a0_5) (by rfl) rfl ?_ ?_; (· (go_simp; (try simp only [i64_w]); try rfl)); refine hK.out _ _ ⟨z9, z13, z18, z24, z30, q_u ha 16 hb_ rfl rfl rfl, Q_B0, Q_S9, Q_S13, Q_S18, fun h0_ => q_h hoff 24 h0_, fun h0_ => q_h hoff 30 h0_⟩; refine steps_cons ?_ ?_; rintro b a w' ⟨z9, z13, z18, z24, z30, ha, Q_B0, Q_S9, Q_S13, Q_S18, Q_S24, Q_S30⟩ hb_ hon hoff; refine ⟨_, rfl, fun K hK => ?_⟩; have e32 := q_n ha hon 32 16 22 rfl; replace ha := aK ha; have B0 := aK Q_B0; refine q_v (.int .u64 (IntKind.u64.wrap a0_5)) (by rfl) rfl ?_ ?_; (· (go_simp; (try simp only [i64_w]); try rfl)); refine hK.out _ _ ⟨z9, z13, z18, z24, z30, q_u ha 17 hb_ rfl rfl rfl, Q_B0, Q_S9, Q_S13, Q_S18, fun h0_ => q_h hoff 24 h0_, fun h0_ => q_h hoff 30 h0_⟩; refine steps_cons ?_ ?_; rintro b a w' ⟨z9, z13, z18, z24, z30, ha, Q_B0, Q_S9, Q_S13, Q_S18, Q_S24, Q_S30⟩ hb_ hon hoff; refine ⟨_, rfl, fun K hK => ?_⟩; have e33 := q_n ha hon 33 17 23 rfl; replace ha := aK ha; have B0 := aK Q_B0; have S13 := aK (Q_S13 (hon 13 (by kernel_rfl))); have S18 := aK (Q_S18 (hon 18 (by kernel_rfl))); refine goes_ Try.func114 (by kernel_rfl) rfl #[.int .i64 2, .int .u64 (IntKind.u64.wrap a0_5)] (by rfl) rfl rfl (by (simp only [List.map_toArray, List.map_cons, List.map_nil, Act.eval, Array.getD_eq_getD_getElem?, Option.getD_some, e33]) <;> rfl) ?_; (with_reducible refine (X24.out _).mono ?_); rintro e w2 ⟨z, rfl, hb, hs⟩; refine ⟨_, rfl, ?_⟩; refine hK.out _ _ ⟨z9, z13, z18, z, z30, q_u ha 18 hb_ rfl rfl rfl, below_then B0.out B0.out.size hb, fun h0_ => Str.step (Q_S9 h0_) hb, fun _ => Str.step S13.out hb, fun _ => Str.step S18.out hb, fun _ => hs, fun h0_ => q_h hoff 30 h0_⟩; refine steps_cons ?_ ?_; rintro b a w' ⟨z9, z13, z18, z24, z30, ha, Q_B0, Q_S9, Q_S13, Q_S18, Q_S24, Q_S30⟩ hb_ hon hoff; refine ⟨_, rfl, fun K hK => ?_⟩; have e34 := q_n ha hon 34 18 24 rfl; replace ha := aK ha; have B0 := aK Q_B0; have S13 := aK (Q_S13 (hon 13 (by kernel_rfl))); have S18 := aK (Q_S18 (hon 18 (by kernel_rfl))); have S24 := aK (Q_S24 (hon 24 (by kernel_rfl))); have hs_ := S24.out.here; refine q_v (.string x24) (by rfl) rfl ?_ ?_; (· (go_simp; (try simp only [i64_w]); try rfl)); refine hK.out _ _ ⟨z9, z13, z18, z24, z30, q_u ha 19 hb_ rfl rfl rfl, Q_B0, Q_S9, Q_S13, Q_S18, Q_S24, Q_S30⟩; refine steps_cons ?_ ?_; rintro b a w' ⟨z9, z13, z18, z24, z30, ha, Q_B0, Q_S9, Q_S13, Q_S18, Q_S24, Q_S30⟩ hb_ hon hoff; refine ⟨_, rfl, fun K hK => ?_⟩; have e30 := q_n ha hon 30 15 20 rfl; have e35 := q_n ha hon 35 19 25 rfl; replace ha := aK ha; have B0 := aK Q_B0; have S9 := aK (Q_S9 (hon 9 (by kernel_rfl))); have S13 := aK (Q_S13 (hon 13 (by kernel_rfl))); have S18 := aK (Q_S18 (hon 18 (by kernel_rfl))); have S24 := aK (Q_S24 (hon 24 (by kernel_rfl))); have hs_ : x9.size + x13.size + x18.size + x24.size ≤ 9223372036854775807 := by have := HS.out; omega
  refine q_v (.string (((x9 ++ x13) ++ x18) ++ x24)) (by rfl) rfl ?_ ?_; (· (go_simp; (try simp only [i64_w]); try rfl)); refine hK.out _ _ ⟨z9, z13, z18, z24, z30, q_u ha 20 hb_ rfl rfl rfl, Q_B0, Q_S9, Q_S13, Q_S18, Q_S24, Q_S30⟩; refine steps_cons ?_ ?_; rintro b a w' ⟨z9, z13, z18, z24, z30, ha, Q_B0, Q_S9, Q_S13, Q_S18, Q_S24, Q_S30⟩ hb_ hon hoff; refine ⟨_, rfl, fun K hK => ?_⟩; have e37 := q_f ha 37 rfl rfl; replace ha := aK ha; have B0 := aK Q_B0; have hc_ := (B0.out.cell (p := ⟨w.heap.size, 6, none⟩) HG.out).trans HX6.out; refine q_v (.int .i64 a0_6) (by rfl) rfl ?_ ?_; (· (go_simp; (try simp only [i64_w]); try rfl)); refine hK.out _ _ ⟨z9, z13, z18, z24, z30, q_u ha 21 hb_ rfl rfl rfl, Q_B0, Q_S9, Q_S13, Q_S18, Q_S24, fun h0_ => q_h hoff 30 h0_⟩; refine steps_cons ?_ ?_; rintro b a w' ⟨z9, z13, z18, z24, z30, ha, Q_B0, Q_S9, Q_S13, Q_S18, Q_S24, Q_S30⟩ hb_ hon hoff; refine ⟨_, rfl, fun K hK => ?_⟩; have e38 := q_n ha hon 38 21 28 rfl; replace ha := aK ha; have B0 := aK Q_B0; refine q_v (.int .u64 (IntKind.u64.wrap a0_6)) (by rfl) rfl ?_ ?_; (· (go_simp; (try simp only [i64_w]); try rfl)); refine hK.out _ _ ⟨z9, z13, z18, z24, z30, q_u ha 22 hb_ rfl rfl rfl, Q_B0, Q_S9, Q_S13, Q_S18, Q_S24, fun h0_ => q_h hoff 30 h0_⟩; refine steps_cons ?_ ?_; rintro b a w' ⟨z9, z13, z18, z24, z30, ha, Q_B0, Q_S9, Q_S13, Q_S18, Q_S24, Q_S30⟩ hb_ hon hoff; refine ⟨_, rfl, fun K hK => ?_⟩; have e39 := q_n ha hon 39 22 29 rfl; replace ha := aK ha; have B0 := aK Q_B0; have S13 := aK (Q_S13 (hon 13 (by kernel_rfl))); have S18 := aK (Q_S18 (hon 18 (by kernel_rfl))); have S24 := aK (Q_S24 (hon 24 (by kernel_rfl))); refine goes_ Try.func114 (by kernel_rfl) rfl #[.int .i64 2, .int .u64 (IntKind.u64.wrap a0_6)] (by rfl) rfl rfl (by (simp only [List.map_toArray, List.map_cons, List.map_nil, Act.eval, Array.getD_eq_getD_getElem?, Option.getD_some, e39]) <;> rfl) ?_; (with_reducible refine (X30.out _).mono ?_); rintro e w2 ⟨z, rfl, hb, hs⟩; refine ⟨_, rfl, ?_⟩; refine hK.out _ _ ⟨z9, z13, z18, z24, z, q_u ha 23 hb_ rfl rfl rfl, below_then B0.out B0.out.size hb, fun h0_ => Str.step (Q_S9 h0_) hb, fun _ => Str.step S13.out hb, fun _ => Str.step S18.out hb, fun _ => Str.step S24.out hb, fun _ => hs⟩; refine steps_cons ?_ ?_; rintro b a w' ⟨z9, z13, z18, z24, z30, ha, Q_B0, Q_S9, Q_S13, Q_S18, Q_S24, Q_S30⟩ hb_ hon hoff; refine ⟨_, rfl, fun K hK => ?_⟩; have e40 := q_n ha hon 40 23 30 rfl; replace ha := aK ha; have B0 := aK Q_B0; have S13 := aK (Q_S13 (hon 13 (by kernel_rfl))); have S18 := aK (Q_S18 (hon 18 (by kernel_rfl))); have S24 := aK (Q_S24 (hon 24 (by kernel_rfl))); have S30 := aK (Q_S30 (hon 30 (by kernel_rfl))); have hs_ := S30.out.here; refine q_v (.string x30) (by rfl) rfl ?_ ?_; (· (go_simp; (try simp only [i64_w]); try rfl)); refine hK.out _ _ ⟨z9, z13, z18, z24, z30, q_u ha 24 hb_ rfl rfl rfl, Q_B0, Q_S9, Q_S13, Q_S18, Q_S24, Q_S30⟩; refine steps_cons ?_ ?_; rintro b a w' ⟨z9, z13, z18, z24, z30, ha, Q_B0, Q_S9, Q_S13, Q_S18, Q_S24, Q_S30⟩ hb_ hon hoff; refine ⟨_, rfl, fun K hK => ?_⟩; have e36 := q_n ha hon 36 20 26 rfl; have e41 := q_n ha hon 41 24 31 rfl; replace ha := aK ha; have B0 := aK Q_B0; have S9 := aK (Q_S9 (hon 9 (by kernel_rfl))); have S13 := aK (Q_S13 (hon 13 (by kernel_rfl))); have S18 := aK (Q_S18 (hon 18 (by kernel_rfl))); have S24 := aK (Q_S24 (hon 24 (by kernel_rfl))); have S30 := aK (Q_S30 (hon 30 (by kernel_rfl))); have hs_ : x9.size + x13.size + x18.size + x24.size + x30.size ≤ 9223372036854775807 := by have := HS.out; omega
  refine q_v (.string ((((x9 ++ x13) ++ x18) ++ x24) ++ x30)) (by rfl) rfl ?_ ?_; (· (go_simp; (try simp only [i64_w]); try rfl)); refine hK.out _ _ ⟨z9, z13, z18, z24, z30, q_u ha 25 hb_ rfl rfl rfl, Q_B0, Q_S9, Q_S13, Q_S18, Q_S24, Q_S30⟩; refine steps_cons ?_ ?_; rintro b a w' ⟨z9, z13, z18, z24, z30, ha, Q_B0, Q_S9, Q_S13, Q_S18, Q_S24, Q_S30⟩ hb_ hon hoff; refine ⟨_, rfl, fun K hK => ?_⟩; have e42 := q_n ha hon 42 25 32 rfl; have e43 := q_f ha 43 rfl rfl; replace ha := aK ha; have B0 := aK Q_B0; have S9 := aK (Q_S9 (hon 9 (by kernel_rfl))); have S13 := aK (Q_S13 (hon 13 (by kernel_rfl))); have S18 := aK (Q_S18 (hon 18 (by kernel_rfl))); have S24 := aK (Q_S24 (hon 24 (by kernel_rfl))); have S30 := aK (Q_S30 (hon 30 (by kernel_rfl))); have hs_ : x9.size + x13.size + x18.size + x24.size + x30.size + a1.size ≤ 9223372036854775807 := by have := HS.out; omega
  refine q_v (.string (((((x9 ++ x13) ++ x18) ++ x24) ++ x30) ++ a1)) (by rfl) rfl ?_ ?_; (· (go_simp; (try simp only [i64_w]); try rfl)); refine hK.out _ _ ⟨z9, z13, z18, z24, z30, q_u ha 26 hb_ rfl rfl rfl, Q_B0, Q_S9, Q_S13, Q_S18, Q_S24, Q_S30⟩; refine steps_cons ?_ ?_; rintro b a w' ⟨z9, z13, z18, z24, z30, ha, Q_B0, Q_S9, Q_S13, Q_S18, Q_S24, Q_S30⟩ hb_ hon hoff; refine ⟨_, rfl, fun K hK => ?_⟩; have e44 := q_n ha hon 44 26 34 rfl; replace ha := aK ha; have B0 := aK Q_B0; have S9 := aK (Q_S9 (hon 9 (by kernel_rfl))); have S13 := aK (Q_S13 (hon 13 (by kernel_rfl))); have S18 := aK (Q_S18 (hon 18 (by kernel_rfl))); have S24 := aK (Q_S24 (hon 24 (by kernel_rfl))); have S30 := aK (Q_S30 (hon 30 (by kernel_rfl))); refine q_v (.string (((((x9 ++ x13) ++ x18) ++ x24) ++ x30) ++ a1)) (by rfl) rfl ?_ ?_; (· (go_simp; (try simp only [i64_w]); try rfl)); refine hK.out _ _ ⟨z9, z13, z18, z24, z30, q_u ha 27 hb_ rfl rfl rfl, Q_B0, Q_S9, Q_S13, Q_S18, Q_S24, Q_S30⟩; exact steps_nil
 rintro b a wl hall ⟨z9, z13, z18, z24, z30, ha, Q_B0, Q_S9, Q_S13, Q_S18, Q_S24, Q_S30⟩; clear B0; subst ha; rw [q_a hall]; rotate_left
 ·
  kernel_rfl
 simp only [List.foldl_cons, List.foldl_nil, Act.put, List.setIfInBounds_toArray, List.set_cons_zero, List.set_cons_succ]; have B0 := aK Q_B0; clear Q_B0; have S9 := aK (Q_S9 (hall 9 (by kernel_rfl))); clear Q_S9; have S13 := aK (Q_S13 (hall 13 (by kernel_rfl))); clear Q_S13; have S18 := aK (Q_S18 (hall 18 (by kernel_rfl))); clear Q_S18; have S24 := aK (Q_S24 (hall 24 (by kernel_rfl))); clear Q_S24; have S30 := aK (Q_S30 (hall 30 (by kernel_rfl))); clear Q_S30; clear hall; have B2 := aK (below_then B1.out B1.out.size B0.out); obtain ⟨s0, hs0⟩ : ∃ s, s = x9 ++ x13 ++ x18 ++ x24 ++ x30 ++ a1 := ⟨_, rfl⟩; rw [← hs0]; have hsz : s0.size = 24 + a1.size := by
  have := HS.out; rw [hs0]; simp only [ByteArray.size_append]; omega
 obtain ⟨m, hm⟩ : ∃ m, m = 252 - (24 + a1.size) := ⟨_, rfl⟩; obtain ⟨xo, hxo⟩ : ∃ x, x = strOfNums (List.replicate m 255) := ⟨_, rfl⟩; have XO := aK (wagtailref15_Put.ref_ones_calls m (by omega) (252 - (s0.size : Int)) (by rw [hsz]; have := HS.out; omega) xo hxo); obtain ⟨t, ht⟩ : ∃ t, t = s0 ++ xo := ⟨_, rfl⟩; have ht2 := ht.symm; have hxs : xo.size = m := by rw [hxo, wagtailref15_Put.str_size]; simp
 have hz2 : s0.size + xo.size ≤ 9223372036854775807 := by have := HS.out; omega
 have HTT := aK (show bytesOf t = pageBody a0_0 a0_1 a0_2 a0_3 a0_4 a0_5 a0_6 (bytesOf a1) ∧ t = strOfNums (pageBody a0_0 a0_1 a0_2 a0_3 a0_4 a0_5 a0_6 (bytesOf a1)) by
  obtain ⟨_, hrg, _, hx9, hx13, hx18, hx24, hx30⟩ := HALL.out; have hb : t = strOfNums (pageBody a0_0 a0_1 a0_2 a0_3 a0_4 a0_5 a0_6 (bytesOf a1)) := by
   rw [ht, hs0, hx9, hx13, hx18, hx24, hx30, hxo]
   conv => lhs; rw [← wagtailref15_Put.str_bytes a1]
   simp only [wagtailref15_Put.str_append]; unfold pageBody pageHead; rw [bytesOf_length, ← hm, IntKind.wrap_u64, IntKind.wrap_u64]
  refine ⟨?_, hb⟩; rw [hb, wagtailref15_Put.bytesOf_str]; exact wagtailref15_Put.pageBody_bytes _ _ _ _ _ _ _ _ (wagtailref15_Put.bytes_isBytes a1))
 have HZ := aK (show t.size = 252 by rw [ht, ByteArray.size_append, hsz, hxs, hm]; have := HS.out; omega); rw [← hL.out] at HTT; have HLN := aK (show L.length = 252 by rw [← HTT.out.1, bytesOf_length]; exact HZ.out); clear hs0 hxo ht hm hxs hsz HALL HT_ HW_ hL; clear B1 HX0 HX1 HX2 HX3 HX4 HX5 HX6 HG X13 X18 X24 X30 B0 X9; go_upto_region 3 with ((go_at_call 73); (with_reducible refine (XO.out _).mono ?_); (rintro e w2 ⟨z, rfl, hb, hs⟩); have hs := hs.here; have B3 := aK (below_then B2.out B2.out.size hb); clear hb B2); clear hz2 XO S9 S13 S18 S24 S30 HS; go_wp2_with fail
 go_loopg [6, 7] 253 (fun kq v6 v7 w' => ∃ i : Nat, v6 = .int .i64 (zsum (L.take i)) ∧ v7 = .int .i64 i ∧ Aside0 (i ≤ 252) ∧ Aside0 (kq + i = 253) ∧ Aside0 (Below w.heap.size w w'))
 case atStart => exact ⟨0, rfl, rfl, ⟨by omega⟩, ⟨by omega⟩, B3⟩
 case round =>
  clear hs ht2; obtain ⟨i, rfl, rfl, HI, HQ, HB⟩ := hrel; by_cases hi : i < 252
  ·
   have q1 : (i : Int) < (t.size : Int) := by have := HZ.out; omega
   have p1 : (0 : Int) ≤ (i : Int) := by omega
   have t1 : decide ((i : Int) < (t.size : Int)) = true := decide_eq_true q1; have hx : ((t[i]'(by have := HZ.out; omega)).toNat : Int) = bt t i := bt_at t i (by have := HZ.out; omega); have hcr := bt_range t i; have HC := aK (show bt t i = L.getD i 0 by rw [← HTT.out.1, ← rd_bytesOf]; rfl); generalize bt t i = c at hx hcr HC; have hwc : wrap64 c = c := by unfold wrap64; omega
   have HCR := aK hcr; have HI2 := aK hi; have hZr := zsum_range (L.take i); have HZN := aK (show zsum (L.take (i + 1)) = zsum (L.take i) + zpre c 8 by rw [zpre_8, HC.out]; exact wagtailref15_Put.zsum_snoc L i (by have := HLN.out; omega)); have HZR := aK (show 0 ≤ zsum (L.take i) ∧ zsum (L.take i) ≤ 8 * 252 by rw [List.length_take] at hZr; have := HLN.out; omega); generalize zsum (L.take i) = Z at HZN HZR; replace p1 := eq_true p1; replace q1 := eq_true q1; clear hcr hi hZr
   go_wp2
   go_loopg [6, 8, 9] 9 (fun kq v6 v8 v9 w' => ∃ k : Nat, v6 = .int .i64 (Z + zpre c k) ∧ v8 = .int .i64 (c / 2 ^ k) ∧ v9 = .int .i64 k ∧ Aside0 (k ≤ 8) ∧ Aside0 (kq + k = 9) ∧ Aside0 (Below w.heap.size w w'))
   case atStart => exact ⟨0, by simp [zpre], by simp [hwc], rfl, ⟨by omega⟩, ⟨by omega⟩, ⟨by repeat (first | exact HB.out | apply below_alloc | apply pw_below_drewN | apply below_drew1)⟩⟩
   case round =>
    clear t1 hx hwc p1 q1; obtain ⟨k, rfl, rfl, rfl, HK, HQ2, HB2⟩ := hrel; by_cases hk : k < 8
    ·
     have t2 : decide ((k : Int) < 8) = true := decide_eq_true (by omega); have HK8 := aK hk; have hzs : zpre c (k + 1) = zpre c k + (1 - c / 2 ^ k % 2) := rfl; have hdv : c / 2 ^ (k + 1) = c / 2 ^ k / 2 := by rw [Int.pow_succ, Int.ediv_ediv_of_nonneg (Int.le_of_lt (Int.pow_pos (by omega)))]
     have hx0 : 0 ≤ c / 2 ^ k := Int.ediv_nonneg HCR.out.1 (Int.le_of_lt (Int.pow_pos (by omega))); have hx1 : c / 2 ^ k ≤ 255 := Int.le_trans (Int.ediv_le_self _ HCR.out.1) HCR.out.2; have hpr := zpre_range c k; generalize c / 2 ^ k = x at hzs hdv hx0 hx1; have HDV := aK (show wrap64 (Int.tdiv x 2) = c / 2 ^ (k + 1) by rw [hdv, Int.tdiv_eq_ediv_of_nonneg hx0]; unfold wrap64; omega); have hm0 : Int.tmod x 2 = x % 2 := Int.tmod_eq_emod_of_nonneg hx0; by_cases hp : x % 2 = 0
     ·
      have m1 : Int.tmod x 2 = 0 := by omega
      have HSM := aK (show wrap64 (Z + zpre c k + 1) = Z + zpre c (k + 1) by rw [hzs, hp]; unfold wrap64; have := HZR.out; omega); clear hzs hdv hx0 hx1 hpr hp hm0 hk
      go_wp2
      go_roundg (8 - k)
      case measure => have := HQ2.out; have := HK8.out; omega
      case rel => exact ⟨k + 1, by rw [HSM.out], by rw [HDV.out], by first | rfl | (simp; unfold wrap64; have := HK8.out; omega), ⟨by have := HK8.out; omega⟩, ⟨by have := HQ2.out; have := HK8.out; omega⟩, ⟨by repeat (first | exact HB2.out | apply below_alloc | apply pw_below_drewN | apply below_drew1)⟩⟩
     ·
      have m1 : Int.tmod x 2 = 1 := by omega
      have HSM := aK (show Z + zpre c k = Z + zpre c (k + 1) by rw [hzs]; omega); clear hzs hdv hx0 hx1 hpr hp hm0 hk
      go_wp2
      go_roundg (8 - k)
      case measure => have := HQ2.out; have := HK8.out; omega
      case rel => exact ⟨k + 1, by rw [← HSM.out], by rw [HDV.out], by first | rfl | (simp; unfold wrap64; have := HK8.out; omega), ⟨by have := HK8.out; omega⟩, ⟨by have := HQ2.out; have := HK8.out; omega⟩, ⟨by repeat (first | exact HB2.out | apply below_alloc | apply pw_below_drewN | apply below_drew1)⟩⟩
    ·
     have hk8 : k = 8 := by have := HK.out; omega
     subst hk8
     go_wp2
     go_roundg (252 - i)
     case measure => have := HQ.out; have := HI2.out; omega
     case rel => exact ⟨i + 1, by rw [HZN.out], by first | rfl | (simp; unfold wrap64; have := HI2.out; omega), ⟨by have := HI2.out; omega⟩, ⟨by have := HQ.out; have := HI2.out; omega⟩, ⟨by repeat (first | exact HB2.out | apply below_alloc | apply pw_below_drewN | apply below_drew1)⟩⟩
  ·
   have hi : i = 252 := by have := HI.out; omega
   subst hi; have t1 : decide (((252 : Nat) : Int) < (t.size : Int)) = false := decide_eq_false (by have := HZ.out; omega); have t1b : decide ((252 : Int) < (t.size : Int)) = false := t1; rw [List.take_of_length_le (show L.length ≤ 252 by have := HLN.out; omega)]; have hr := zsum_range L; rw [HLN.out] at hr; obtain ⟨xc, hxc⟩ : ∃ x, x = strOfNums (beBytes 4 (zsum L)) := ⟨_, rfl⟩; have hw0 : IntKind.u64.wrap (zsum L) = zsum L := by rw [IntKind.wrap_u64]; omega
   have XC := aK (wagtailref15_Put.ref_bytes_calls (zsum L) hr.1 (by omega) 4 (by omega) 4 rfl xc hxc); have hxs : xc.size = 4 := by rw [hxc, wagtailref15_Put.str_size, beBytes_len]
   have hz2 : t.size + xc.size ≤ 9223372036854775807 := by have := HZ.out; omega
   have HFIN := aK (show strOfNums (L ++ beBytes 4 (zsum L)) = t ++ xc by rw [← wagtailref15_Put.str_append, ← hxc, ← HTT.out.2]); clear hxs hxc hr; go_wp2_with ((go_at_call 114); (with_reducible refine (XC.out _).mono ?_); (rintro e w3 ⟨z2, rfl, hb, hs⟩); have hs := hs.here; have B4 := aK (below_then HB.out HB.out.size hb); clear hb); go_ret; exact ⟨by rw [HFIN.out]; rfl, by repeat (first | exact B4.out | apply below_alloc | apply pw_below_drewN | apply below_drew1)⟩
end Go.Proofs.Ytnchdmidaigheaa.Hp
namespace Go.Proofs.Ytnchdmidaigheaa.Hp
open Go.RowKit Go.Proofs.YtnchdmidaigheaaW.PrintWords Go.Proofs.YtnchdmidaigheaaW.PrintLast Go.Proofs.YtnchdmidaigheaaW.PrintMore
attribute [local go_sem] max2_int min2_int max_two min_two max_three min_three max_four min_four   -- for this text's walks alone
set_option linter.unusedVariables false
set_option linter.unusedSimpArgs false
def wagtailref15_May.f (a0_0 a0_1 a0_2 a0_3 a0_4 a0_5 a0_6 : Int) : Option (Bool) := if a0_0 ≥ 1 then (if a0_0 ≤ 5 then (if a0_2 ≥ 1 then (if a0_2 ≤ 16 then (if a0_1 ≥ 0 then (if a0_1 < a0_2 then (if a0_3 < 2147483648 then (if a0_4 < 2147483648 then (if a0_5 ≥ 0 then (if a0_5 ≤ 65535 then (if a0_6 ≥ 0 then (some (decide (a0_6 ≤ 228))) else (some false)) else (some false)) else (some false)) else (some false)) else (some false)) else (some false)) else (some false)) else (some false)) else (some false)) else (some false)) else (some false)
set_option maxHeartbeats 8000000 in
set_option maxRecDepth 100000 in
theorem wagtailref15_May.calls (a0_0 : Int) (a0_1 : Int) (a0_2 : Int) (a0_3 : Int) (a0_4 : Int) (a0_5 : Int) (a0_6 : Int) (r : Bool) (w : World) (h : wagtailref15_May.f a0_0 a0_1 a0_2 a0_3 a0_4 a0_5 a0_6 = some r) :
  Calls Try.prog 93 #[.agg #[.int .i64 a0_0, .int .i64 a0_1, .int .i64 a0_2, .int .u64 a0_3, .int .u64 a0_4, .int .i64 a0_5, .int .i64 a0_6]] w fun e w' => e = .returned (.bool r) ∧ Below w.heap.size w w' := by
 unfold wagtailref15_May.f at h; have H := aK h; clear h; have hz := heap_alloc_new w (.cells #[.int .i64 a0_0, .int .i64 a0_1, .int .i64 a0_2, .int .u64 a0_3, .int .u64 a0_4, .int .i64 a0_5, .int .i64 a0_6] 82); have hb := below_alloc (Below.refl w.heap.size w) (.cells #[.int .i64 a0_0, .int .i64 a0_1, .int .i64 a0_2, .int .u64 a0_3, .int .u64 a0_4, .int .i64 a0_5, .int .i64 a0_6] 82); obtain ⟨g, hg⟩ : ∃ g, g = w.heap.size := ⟨_, rfl⟩; go_enter Try.func93, Try.ntmps93; go_upto_region 1 with fail; generalize w.alloc (.cells #[.int .i64 a0_0, .int .i64 a0_1, .int .i64 a0_2, .int .u64 a0_3, .int .u64 a0_4, .int .i64 a0_5, .int .i64 a0_6] 82) = W at hz hb ⊢; rw [← hg] at hz ⊢; have HB := aK hb; have c0 := blk_cell hz 0; have c1 := blk_cell hz 1; have c2 := blk_cell hz 2; have c3 := blk_cell hz 3; have c4 := blk_cell hz 4; have c5 := blk_cell hz 5; have c6 := blk_cell hz 6; clear hz hb hg; by_cases t : a0_0 ≥ 1
 case neg =>
  have h := H.out; rw [if_neg t] at h; obtain rfl := Option.some.inj h; have e := decide_eq_false t; clear t h H; go_wp2_with fail; go_ret; exact ⟨rfl, HB.out⟩
 replace H := aK ((if_pos t).symm.trans H.out); have e0 := decide_eq_true t; clear t; by_cases t : a0_0 ≤ 5
 case neg =>
  have h := H.out; rw [if_neg t] at h; obtain rfl := Option.some.inj h; have e := decide_eq_false t; clear t h H; go_wp2_with fail; go_ret; exact ⟨rfl, HB.out⟩
 replace H := aK ((if_pos t).symm.trans H.out); have e1 := decide_eq_true t; clear t; by_cases t : a0_2 ≥ 1
 case neg =>
  have h := H.out; rw [if_neg t] at h; obtain rfl := Option.some.inj h; have e := decide_eq_false t; clear t h H; go_wp2_with fail; go_ret; exact ⟨rfl, HB.out⟩
 replace H := aK ((if_pos t).symm.trans H.out); have e2 := decide_eq_true t; clear t; by_cases t : a0_2 ≤ 16
 case neg =>
  have h := H.out; rw [if_neg t] at h; obtain rfl := Option.some.inj h; have e := decide_eq_false t; clear t h H; go_wp2_with fail; go_ret; exact ⟨rfl, HB.out⟩
 replace H := aK ((if_pos t).symm.trans H.out); have e3 := decide_eq_true t; clear t; by_cases t : a0_1 ≥ 0
 case neg =>
  have h := H.out; rw [if_neg t] at h; obtain rfl := Option.some.inj h; have e := decide_eq_false t; clear t h H; go_wp2_with fail; go_ret; exact ⟨rfl, HB.out⟩
 replace H := aK ((if_pos t).symm.trans H.out); have e4 := decide_eq_true t; clear t; by_cases t : a0_1 < a0_2
 case neg =>
  have h := H.out; rw [if_neg t] at h; obtain rfl := Option.some.inj h; have e := decide_eq_false t; clear t h H; go_wp2_with fail; go_ret; exact ⟨rfl, HB.out⟩
 replace H := aK ((if_pos t).symm.trans H.out); have e5 := decide_eq_true t; clear t; by_cases t : a0_3 < 2147483648
 case neg =>
  have h := H.out; rw [if_neg t] at h; obtain rfl := Option.some.inj h; have e := decide_eq_false t; clear t h H; go_wp2_with fail; go_ret; exact ⟨rfl, HB.out⟩
 replace H := aK ((if_pos t).symm.trans H.out); have e6 := decide_eq_true t; clear t; by_cases t : a0_4 < 2147483648
 case neg =>
  have h := H.out; rw [if_neg t] at h; obtain rfl := Option.some.inj h; have e := decide_eq_false t; clear t h H; go_wp2_with fail; go_ret; exact ⟨rfl, HB.out⟩
 replace H := aK ((if_pos t).symm.trans H.out); have e7 := decide_eq_true t; clear t; by_cases t : a0_5 ≥ 0
 case neg =>
  have h := H.out; rw [if_neg t] at h; obtain rfl := Option.some.inj h; have e := decide_eq_false t; clear t h H; go_wp2_with fail; go_ret; exact ⟨rfl, HB.out⟩
 replace H := aK ((if_pos t).symm.trans H.out); have e8 := decide_eq_true t; clear t; by_cases t : a0_5 ≤ 65535
 case neg =>
  have h := H.out; rw [if_neg t] at h; obtain rfl := Option.some.inj h; have e := decide_eq_false t; clear t h H; go_wp2_with fail; go_ret; exact ⟨rfl, HB.out⟩
 replace H := aK ((if_pos t).symm.trans H.out); have e9 := decide_eq_true t; clear t; by_cases t : a0_6 ≥ 0
 case neg =>
  have h := H.out; rw [if_neg t] at h; obtain rfl := Option.some.inj h; have e := decide_eq_false t; clear t h H; go_wp2_with fail; go_ret; exact ⟨rfl, HB.out⟩
 replace H := aK ((if_pos t).symm.trans H.out); have e10 := decide_eq_true t; clear t; obtain rfl := Option.some.inj H.out; clear H; go_wp2_with fail; go_ret; exact ⟨rfl, HB.out⟩
end Go.Proofs.Ytnchdmidaigheaa.Hp
namespace Go.Proofs.Ytnchdmidaigheaa.Hp
open Go.RowKit Go.Proofs.YtnchdmidaigheaaW.PrintWords Go.Proofs.YtnchdmidaigheaaW.PrintLast Go.Proofs.YtnchdmidaigheaaW.PrintMore
attribute [local go_sem] max2_int min2_int max_two min_two max_three min_three max_four min_four   -- for this text's walks alone
set_option linter.unusedVariables false
set_option linter.unusedSimpArgs false
def wagtailref01_Number.f (l : List Int) (at_ w : Int) : Option Int := if isBytes l ∧ l.length ≤ 1000000 then some (refNum l at_ w) else none
set_option maxHeartbeats 8000000 in
set_option maxRecDepth 100000 in
theorem wagtailref01_Number.calls (A0 : Option Addr) (c0 : Nat) (l0 : List Int) (a1 : Int) (a2 : Int) (r : Int) (w : World) (hr0 : Kd.C (Kd.int .u8) w A0 l0.length l0) (hc0 : l0.length ≤ c0) (h : wagtailref01_Number.f l0 a1 a2 = some r) :
  Calls Try.prog 95 #[.slice A0 l0.length c0, .int .i64 a1, .int .i64 a2] w fun e w' => e = .returned (.int .u64 r) ∧ Drawn0 w w' := by
 unfold wagtailref01_Number.f at h; by_cases hb : isBytes l0 ∧ l0.length ≤ 1000000
 case neg => rw [if_neg hb] at h; cases h
 rw [if_pos hb] at h; obtain rfl := Option.some.inj h; obtain ⟨hb, hl⟩ := hb; have HR0 := aK hr0; have HBy := aK hb; have HL := aK hl; clear h hr0 hc0 hb hl; obtain ⟨m, hm⟩ : ∃ m : Nat, (mn (mx a2 0) 8).toNat = m := ⟨_, rfl⟩; have HM := aK (show m ≤ 8 ∧ (∀ j : Nat, j < m → (j : Int) < a2) ∧ (∀ j : Nat, m ≤ j → j < 8 → a2 ≤ j) by unfold mn mx at hm; (repeat' split at hm) <;> refine ⟨by omega, fun j hj => by omega, fun j hj hj8 => by omega⟩); have HN := aK (show refNum l0 a1 a2 = refPre l0 a1 m by unfold refNum; rw [hm]); clear hm; go_enter Try.func95, Try.ntmps95
 go_wp2
 go_loopg [7, 8] (m + 1) (fun kq v7 v8 w' => ∃ j : Nat, v7 = .int .u64 (refPre l0 a1 j) ∧ v8 = .int .i64 j ∧ Aside0 (j ≤ m) ∧ Aside0 (kq + j = m + 1) ∧ Drawn0 w w')
 case atStart => exact ⟨0, rfl, rfl, ⟨by omega⟩, ⟨by omega⟩, Drawn0.refl _⟩
 case round =>
  obtain ⟨j, rfl, rfl, HJ, HQ, ⟨nd, rfl⟩⟩ := hrel; by_cases hj : j < m
  ·
   have t1 : decide ((j : Int) < a2) = true := decide_eq_true (HM.out.2.1 j hj); have t2 : decide ((j : Int) < 8) = true := decide_eq_true (by have := HM.out.1; omega); have hj8 : j < 8 := by have := HM.out.1; omega
   by_cases ha : 0 ≤ a1 ∧ a1 ≤ (l0.length : Int)
   ·
    obtain ⟨t, rfl⟩ := Int.eq_ofNat_of_zero_le ha.1; have hle : t ≤ 1000000 := by have := HL.out; omega
    have hwr : wrap64 ((t : Int) + (j : Int)) = (t : Int) + (j : Int) := by unfold wrap64; omega
    have t3 : decide (0 ≤ (t : Int)) = true := decide_eq_true (by omega); have t4 : decide ((t : Int) ≤ (l0.length : Int)) = true := decide_eq_true ha.2; have t5 : decide (t ≤ l0.length) = true := decide_eq_true (by omega); have t6 : decide (0 ≤ (t : Int) + (j : Int)) = true := decide_eq_true (by omega); by_cases hlt : (t : Int) + (j : Int) < (l0.length : Int)
    ·
     have t7 : decide ((t : Int) + (j : Int) < (l0.length : Int)) = true := decide_eq_true hlt; obtain ⟨ad, ead, hx⟩ := Kd.at_int HR0.out ((t : Int) + j) (by omega) hlt
     cases ead
     have hx2 : w.cell? (ad.add (t + j)) = some (.int .u8 (rd l0 ((t : Int) + (j : Int)))) := by rw [← hx]; congr 2
     have HS := aK (refStep1 l0 HBy.out t j hj8 (rd l0 ((t : Int) + j)) (by unfold refByte; rw [if_pos ⟨by omega, hlt⟩])); clear ha hle
     go_wp2
     go_roundg (m - j)
     case measure => have := HQ.out; omega
     case rel => exact ⟨j + 1, by rw [HS.out], by first | rfl | simp | (congr 1; unfold wrap64; omega), ⟨by omega⟩, ⟨by omega⟩, by repeat (first | exact Drawn0.refl _ | apply Drawn0.step)⟩
    ·
     have t7 : decide ((t : Int) + (j : Int) < (l0.length : Int)) = false := decide_eq_false hlt; have HS := aK (refStep0 l0 HBy.out t j hj8 (by unfold refByte; rw [if_neg (fun h => hlt h.2)])); clear ha hle
     go_wp2
     go_roundg (m - j)
     case measure => have := HQ.out; omega
     case rel => exact ⟨j + 1, by rw [HS.out], by first | rfl | simp | (congr 1; unfold wrap64; omega), ⟨by omega⟩, ⟨by omega⟩, by repeat (first | exact Drawn0.refl _ | apply Drawn0.step)⟩
   ·
    have HS := aK (refStep0 l0 HBy.out a1 j hj8 (by unfold refByte; rw [if_neg (fun h => ha ⟨h.1, by omega⟩)])); by_cases hb : 0 ≤ a1
    ·
     have t3 : decide (0 ≤ a1) = true := decide_eq_true hb; have t4 : decide (a1 ≤ (l0.length : Int)) = false := decide_eq_false (fun h => ha ⟨hb, h⟩); clear ha hb
     go_wp2
     go_roundg (m - j)
     case measure => have := HQ.out; omega
     case rel => exact ⟨j + 1, by rw [HS.out], by first | rfl | simp | (congr 1; unfold wrap64; omega), ⟨by omega⟩, ⟨by omega⟩, by repeat (first | exact Drawn0.refl _ | apply Drawn0.step)⟩
    ·
     have t3 : decide (0 ≤ a1) = false := decide_eq_false hb; clear ha hb
     go_wp2
     go_roundg (m - j)
     case measure => have := HQ.out; omega
     case rel => exact ⟨j + 1, by rw [HS.out], by first | rfl | simp | (congr 1; unfold wrap64; omega), ⟨by omega⟩, ⟨by omega⟩, by repeat (first | exact Drawn0.refl _ | apply Drawn0.step)⟩
  ·
   have hje : j = m := by have := HJ.out; omega
   subst hje; rw [← HN.out]; by_cases h8 : j < 8
   ·
    have t1 : decide ((j : Int) < a2) = false := decide_eq_false (by have := HM.out.2.2 j (Nat.le_refl _) h8; omega); have t2 : decide ((j : Int) < 8) = true := decide_eq_true (by omega)
    go_wp2
    go_ret; exact ⟨rfl, by repeat (first | exact Drawn0.refl _ | apply Drawn0.step)⟩
   ·
    have t2 : decide ((j : Int) < 8) = false := decide_eq_false (by omega)
    go_wp2
    all_goals go_ret
    all_goals exact ⟨rfl, by repeat (first | exact Drawn0.refl _ | apply Drawn0.step)⟩
end Go.Proofs.Ytnchdmidaigheaa.Hp
namespace Go.Proofs.Ytnchdmidaigheaa.Hp
open Go.RowKit Go.Proofs.YtnchdmidaigheaaW.PrintWords Go.Proofs.YtnchdmidaigheaaW.PrintLast Go.Proofs.YtnchdmidaigheaaW.PrintMore
attribute [local go_sem] max2_int min2_int max_two min_two max_three min_three max_four min_four   -- for this text's walks alone
set_option linter.unusedVariables false
set_option linter.unusedSimpArgs false
def wagtailref15_Get.z : Option (Int × Int × Int × Int × Int × Int × Int × ByteArray × Bool) := some (0, 0, 0, 0, 0, 0, 0, ⟨#[]⟩, false)
def wagtailref15_Get.g (k i c b o l n : Int) (d s : ByteArray) : Option (Int × Int × Int × Int × Int × Int × Int × ByteArray × Bool) :=
 if headMay k i c b o l n = true then (if strOfNums (pageBody k i c b o l n (bytesOf d) ++ beBytes 4 (zsum (pageBody k i c b o l n (bytesOf d)))) = s then some (k, i, c, b, o, l, n, d, true) else wagtailref15_Get.z) else wagtailref15_Get.z
def wagtailref15_Get.f (s : ByteArray) : Option (Int × Int × Int × Int × Int × Int × Int × ByteArray × Bool) :=
 if s.size = 256 then wagtailref15_Get.g (rd (bytesOf s) 0) (rd (bytesOf s) 1) (rd (bytesOf s) 2) (beNum (bytesOf s) 4 8) (beNum (bytesOf s) 12 8) (beNum (bytesOf s) 20 2) (beNum (bytesOf s) 22 2) (strOfNums (((bytesOf s).drop 24).take (beNum (bytesOf s) 22 2).toNat)) s else wagtailref15_Get.z
theorem wagtailref15_Get.ref_be (l : List Int) (a : Int) (h0 : 0 ≤ a) (h1 : a ≤ l.length) (w : Int) : refNum l a w = beNum l a (wid w) := by
 unfold refNum beNum wid; generalize (mn (mx w 0) 8).toNat = m
 induction m with
 | zero => rfl
 | succ m ih =>
  simp only [refPre, bePre, ih]
  congr 1
  unfold refByte byteAt; by_cases h : a + (m : Int) < l.length
  ·
   rw [if_pos ⟨h0, h⟩, if_neg (by omega)]; rfl
  ·
   rw [if_neg (by omega), if_pos (by omega)]
theorem wagtailref15_Get.be_range2 (l : List Int) (h : isBytes l) (a : Int) (w : Nat) (hw : w ≤ 8) : 0 ≤ beNum l a w ∧ beNum l a w < 18446744073709551616 := by
 have h1 := bePre_range l h a w; unfold beNum; refine ⟨h1.1, Int.lt_of_lt_of_le h1.2 ?_⟩; have : ∀ w, w ≤ 8 → (256 : Int) ^ w ≤ 18446744073709551616 := by decide
 exact this w hw
theorem wagtailref15_Get.num_calls (l : List Int) (hb : isBytes l) (hl : l.length = 256) (A : Option Addr) (c : Nat) (hc : 256 ≤ c) (W0 : World) (hC : Kd.C (Kd.int .u8) W0 A l.length l) (a w : Int) (h0 : 0 ≤ a) (h1 : a ≤ 256) (x : Int) (hx : x = beNum l a (wid w)) (W : World) (hW : Below W0.heap.size W0 W) :
  Calls Try.prog 95 #[.slice A 256 c, .int .i64 a, .int .i64 w] W fun e w' => e = .returned (.int .u64 x) ∧ Below W.heap.size W w' := by
 have h := wagtailref01_Number.calls A c l a w x W (Kd.C_below hC hW) (by omega) (by
  unfold wagtailref01_Number.f; rw [if_pos ⟨hb, by omega⟩, wagtailref15_Get.ref_be l a h0 (by omega), hx])
 rw [hl] at h; refine h.mono ?_; rintro e w' ⟨rfl, ⟨n, rfl⟩⟩; exact ⟨rfl, pw_below_drewN (Below.refl _ _) n⟩
theorem wagtailref15_Get.store7 {g N : Nat} {W0 W : World} (x0 x1 x2 x3 x4 x5 x6 : Int) (hz : W.heap[g]? = some (.cells #[.int .i64 0, .int .i64 0, .int .i64 0, .int .u64 0, .int .u64 0, .int .i64 0, .int .i64 0] 82 (0, 0)) ∧ N ≤ g) (hB : Below N W0 W) :
  Below N W0 (((((((W.setCell ⟨g, 0, none⟩ (.int .i64 x0)).setCell ⟨g, 1, none⟩ (.int .i64 x1)).setCell ⟨g, 2, none⟩ (.int .i64 x2)).setCell ⟨g, 3, none⟩ (.int .u64 x3)).setCell ⟨g, 4, none⟩ (.int .u64 x4)).setCell ⟨g, 5, none⟩ (.int .i64 x5)).setCell ⟨g, 6, none⟩ (.int .i64 x6)) ∧
  (((((((W.setCell ⟨g, 0, none⟩ (.int .i64 x0)).setCell ⟨g, 1, none⟩ (.int .i64 x1)).setCell ⟨g, 2, none⟩ (.int .i64 x2)).setCell ⟨g, 3, none⟩ (.int .u64 x3)).setCell ⟨g, 4, none⟩ (.int .u64 x4)).setCell ⟨g, 5, none⟩ (.int .i64 x5)).setCell ⟨g, 6, none⟩ (.int .i64 x6)).heap[g]? = some (.cells #[.int .i64 x0, .int .i64 x1, .int .i64 x2, .int .u64 x3, .int .u64 x4, .int .i64 x5, .int .i64 x6] 82 (0, 0)) ∧ N ≤ g := by
 have h0 := blk_set hz.1 0 (.int .i64 x0); have h1 := blk_set h0 1 (.int .i64 x1); have h2 := blk_set h1 2 (.int .i64 x2); have h3 := blk_set h2 3 (.int .u64 x3); have h4 := blk_set h3 4 (.int .u64 x4); have h5 := blk_set h4 5 (.int .i64 x5); have h6 := blk_set h5 6 (.int .i64 x6); have hg := hz.2; exact ⟨(((((((hB.setCell (p := ⟨g, _, none⟩) hg _).setCell (p := ⟨g, _, none⟩) hg _).setCell (p := ⟨g, _, none⟩) hg _).setCell (p := ⟨g, _, none⟩) hg _).setCell (p := ⟨g, _, none⟩) hg _).setCell (p := ⟨g, _, none⟩) hg _).setCell (p := ⟨g, _, none⟩) hg _), by simpa using h6, hz.2⟩
theorem wagtailref15_Get.cut_str (s : ByteArray) (a n : Nat) : s.extract a (a + n) = strOfNums (((bytesOf s).drop a).take n) := by
 rw [← wagtailref15_Put.str_bytes (s.extract a (a + n))]
 congr 1
 unfold bytesOf; rw [ByteArray.data_extract, Array.toList_extract, List.extract_eq_take_drop, List.map_take, List.map_drop]
 congr 1
 omega
theorem wagtailref15_Get.may_head (k i c b o l n : Int) : wagtailref15_May.f k i c b o l n = some (headMay k i c b o l n) := by
 unfold wagtailref15_May.f
 repeat' split
 all_goals
  congr 1
  rw [Bool.eq_iff_iff]; simp only [headMay, within, Bool.and_eq_true, decide_eq_true_eq, wrap64, Bool.false_eq_true, false_iff]; omega
def wagtailref15_Get.T4 : Bool × List (List Nat × List Nat) := (true, [([], []), ([0], [0]), ([1], [1]), ([2], [2]), ([], []), ([4], [4]), ([5], [5]), ([6], [6]), ([], []), ([8], [8]), ([9], [9]), ([10], [10]), ([], []), ([12], [12]), ([], []), ([14, 13], [14]), ([], []), ([16, 15], [16]), ([17], [17]), ([], []), ([19, 17], [19]), ([20], [20]), ([3, 7, 11, 13, 15, 18, 21], [3, 7, 11, 13, 15, 18, 21]), ([], []), ([23, 22, 20, 0, 1, 2, 3, 4, 5, 6, 7, 8, 9, 10, 11, 12, 13, 14, 15, 16, 17, 18, 19, 20, 21, 22, 23], [22, 23])])
def wagtailref15_Get.B4 : List Nat := [0, 1, 3, 7, 0, 16, 48, 112, 0, 256, 768, 1792, 0, 4096, 0, 28672, 0, 126976, 258048, 0, 782336, 1830912, 4194303, 0, 16777215]
theorem wagtailref15_Get.tab4 : rtab .any (opsOf Try.f53 4) = wagtailref15_Get.T4 := by kernel_rfl
theorem wagtailref15_Get.bits4 : waitsOk wagtailref15_Get.T4.2 wagtailref15_Get.B4 = true := by kernel_rfl
set_option maxHeartbeats 8000000 in
set_option maxRecDepth 100000 in
theorem wagtailref15_Get.calls (a0 : ByteArray) (r1 : Int) (r2 : Int) (r3 : Int) (r4 : Int) (r5 : Int) (r6 : Int) (r7 : Int) (r8 : ByteArray) (r9 : Bool) (w : World) (h : wagtailref15_Get.f a0 = some (r1, r2, r3, r4, r5, r6, r7, r8, r9)) :
  Calls Try.prog 53 #[.string a0] w fun e w' => e = .returned (.tuple #[.agg #[.int .i64 r1, .int .i64 r2, .int .i64 r3, .int .u64 r4, .int .u64 r5, .int .i64 r6, .int .i64 r7], .string r8, .bool r9]) ∧ Below w.heap.size w w' := by
 unfold wagtailref15_Get.f at h; obtain ⟨l, hl⟩ : ∃ l, l = bytesOf a0 := ⟨_, rfl⟩; rw [← hl] at h; have hlen : l.length = a0.size := by rw [hl, bytesOf_length]
 have hby : isBytes l := by rw [hl]; exact wagtailref15_Put.bytes_isBytes a0
 have HBY := aK hby
 have HLEN := aK hlen; replace hl := aK hl; clear hlen hby
 have H := aK h; clear h; go_enter Try.func53, Try.ntmps53; go_upto_region 1 with fail; have hz := heap_alloc_new w (Obj.cells #[Value.int IntKind.i64 0, Value.int IntKind.i64 0, Value.int IntKind.i64 0, Value.int IntKind.u64 0, Value.int IntKind.u64 0, Value.int IntKind.i64 0, Value.int IntKind.i64 0] 82); have B1 := aK (below_alloc (Below.refl w.heap.size w) (Obj.cells #[Value.int IntKind.i64 0, Value.int IntKind.i64 0, Value.int IntKind.i64 0, Value.int IntKind.u64 0, Value.int IntKind.u64 0, Value.int IntKind.i64 0, Value.int IntKind.i64 0] 82)); generalize (w.alloc (Obj.cells #[Value.int IntKind.i64 0, Value.int IntKind.i64 0, Value.int IntKind.i64 0, Value.int IntKind.u64 0, Value.int IntKind.u64 0, Value.int IntKind.i64 0, Value.int IntKind.i64 0] 82)) = W1 at hz B1 ⊢; have h := H.out; clear H; by_cases hs : a0.size = 256
 case neg =>
  rw [if_neg hs] at h; simp only [wagtailref15_Get.z, Option.some.injEq, Prod.mk.injEq] at h; obtain ⟨rfl, rfl, rfl, rfl, rfl, rfl, rfl, rfl, rfl⟩ := h; have t1 : ((a0.size : Int) != 256) = true := by simp; omega
  have d0 := blk_cell hz 0; have d1 := blk_cell hz 1; have d2 := blk_cell hz 2; have d3 := blk_cell hz 3; have d4 := blk_cell hz 4; have d5 := blk_cell hz 5; have d6 := blk_cell hz 6; have e0 := blk_frozen hz 0; have e1 := blk_frozen hz 1; have e2 := blk_frozen hz 2; have e3 := blk_frozen hz 3; have e4 := blk_frozen hz 4; have e5 := blk_frozen hz 5; have e6 := blk_frozen hz 6; have hst := aK (wagtailref15_Get.store7 0 0 0 0 0 0 0 ⟨hz, Nat.le_refl _⟩ B1.out); replace hz := aK hz; clear hs
  go_wp2
  refine bodyPost_ret (results_ctt rfl _ _ w.heap.size 82 _ (0, 0) _ rfl hst.out.2.1 Try.underlying82 rfl (by kernel_rfl)) rfl ?_; exact ⟨rfl, hst.out.1⟩
 case pos =>
  rw [if_pos hs] at h; have kb := fun W => print_bytes (P := Try.prog) 9 38 5 Try.underlying9 Try.underlying38 Try.underlying5 a0 W; have t1 : ((a0.size : Int) != 256) = false := by simp; omega
  replace hz := aK hz; have HS := aK hs; clear hs; have H := aK h; clear h; go_upto_region 4 with fail; have HC := aK (Kd.C_of_reads (enc := Value.int .u8) (h1 := fun _ => rfl) (bytes_reads W1 5 a0 (by have := HS.out; omega))); have HB := aK (bytes_below B1.out B1.out.size 5 a0); have HZ := aK ((Lib.bytesWorld_at_old W1 5 a0 w.heap.size (blk_lt hz.out)).trans hz.out); have hsz0 : W1.heap.size < (Lib.bytesWorld W1 5 a0).heap.size := by rw [Lib.bytesWorld_size]; omega
  have hcp := grownCap_ge W1 a0.size 0 5; have hgz := blk_lt hz.out; generalize grownCap W1 a0.size 0 5 = cp at hcp ⊢; replace B1 := B1.out; replace hz := hz.out; generalize W1.heap.size = nb at HC hsz0 hgz ⊢; generalize Lib.bytesWorld W1 5 a0 = W0 at HC HB HZ hsz0 ⊢; clear B1 hz kb t1; have HC2 : Kd.C (Kd.int .u8) W0 (some ⟨nb, 0, none⟩) l.length l := by
   have h := HC.out; rw [← hl.out, ← HLEN.out] at h; exact h
  have hl256 : l.length = 256 := HLEN.out.trans HS.out; have hx : ∀ j : Nat, j < 256 → W0.cell? ⟨nb, j, none⟩ = some (.int .u8 (rd l (j : Int))) := by
   intro j hj; obtain ⟨ad, e, h⟩ := Kd.at_int HC2 (j : Int) (by omega) (by omega)
   cases e
   rw [show (⟨nb, 0, none⟩ : Addr).add ((j : Int)).toNat = ⟨nb, j, none⟩ by simp [add_plain]] at h; exact h
  rw [HS.out] at hcp ⊢; have hb3 := wagtailref15_Get.be_range2 l HBY.out 4 8 (by omega); have hb4 := wagtailref15_Get.be_range2 l HBY.out 12 8 (by omega); have hb5 : 0 ≤ beNum l 20 2 ∧ beNum l 20 2 < 65536 := bePre_range l HBY.out 20 2; have hb6 : 0 ≤ beNum l 22 2 ∧ beNum l 22 2 < 65536 := bePre_range l HBY.out 22 2; have ha0 := rd_range l HBY.out 0; have ha1 := rd_range l HBY.out 1; have ha2 := rd_range l HBY.out 2; have h := H.out; obtain ⟨k0, hk0⟩ : ∃ k, k = rd l 0 := ⟨_, rfl⟩; obtain ⟨k1, hk1⟩ : ∃ k, k = rd l 1 := ⟨_, rfl⟩; obtain ⟨k2, hk2⟩ : ∃ k, k = rd l 2 := ⟨_, rfl⟩; obtain ⟨k3, hk3⟩ : ∃ k, k = beNum l 4 8 := ⟨_, rfl⟩; obtain ⟨k4, hk4⟩ : ∃ k, k = beNum l 12 8 := ⟨_, rfl⟩; obtain ⟨k5, hk5⟩ : ∃ k, k = beNum l 20 2 := ⟨_, rfl⟩; obtain ⟨k6, hk6⟩ : ∃ k, k = beNum l 22 2 := ⟨_, rfl⟩; rw [← hk0, ← hk1, ← hk2, ← hk3, ← hk4, ← hk5, ← hk6] at h; rw [← hk0] at ha0; rw [← hk1] at ha1; rw [← hk2] at ha2; rw [← hk3] at hb3; rw [← hk4] at hb4; rw [← hk5] at hb5; rw [← hk6] at hb6; have HX0 := aK (show W0.cell? ⟨nb, 0, none⟩ = some (.int .u8 k0) by rw [hk0]; exact hx 0 (by omega)); have HX1 := aK (show W0.cell? ⟨nb, 1, none⟩ = some (.int .u8 k1) by rw [hk1]; exact hx 1 (by omega)); have HX2 := aK (show W0.cell? ⟨nb, 2, none⟩ = some (.int .u8 k2) by rw [hk2]; exact hx 2 (by omega)); have X3 := aK (fun (W : World) (hW : Below W0.heap.size W0 W) => wagtailref15_Get.num_calls l HBY.out hl256 (some ⟨nb, 0, none⟩) cp hcp W0 HC2 4 8 (by omega) (by omega) k3 (by rw [hk3]; rfl) W hW); have X4 := aK (fun (W : World) (hW : Below W0.heap.size W0 W) => wagtailref15_Get.num_calls l HBY.out hl256 (some ⟨nb, 0, none⟩) cp hcp W0 HC2 12 8 (by omega) (by omega) k4 (by rw [hk4]; rfl) W hW); have X5 := aK (fun (W : World) (hW : Below W0.heap.size W0 W) => wagtailref15_Get.num_calls l HBY.out hl256 (some ⟨nb, 0, none⟩) cp hcp W0 HC2 20 2 (by omega) (by omega) k5 (by rw [hk5]; rfl) W hW); have X6 := aK (fun (W : World) (hW : Below W0.heap.size W0 W) => wagtailref15_Get.num_calls l HBY.out hl256 (some ⟨nb, 0, none⟩) cp hcp W0 HC2 22 2 (by omega) (by omega) k6 (by rw [hk6]; rfl) W hW); have HW0 := aK (show IntKind.i64.wrap k0 = k0 by rw [i64_w]; unfold wrap64; omega); have HW1 := aK (show IntKind.i64.wrap k1 = k1 by rw [i64_w]; unfold wrap64; omega); have HW2 := aK (show IntKind.i64.wrap k2 = k2 by rw [i64_w]; unfold wrap64; omega); have HW5 := aK (show IntKind.i64.wrap k5 = k5 by rw [i64_w]; unfold wrap64; omega); have HW6 := aK (show IntKind.i64.wrap k6 = k6 by rw [i64_w]; unfold wrap64; omega); have HG := aK hsz0; have HNE := aK (show w.heap.size < W0.heap.size by omega); have HRG := aK (And.intro hb3 (And.intro hb4 (And.intro hb5 hb6))); replace H := aK h; clear h hx hk0 hk1 hk2 hk3 hk4 hk5 hk6 ha0 ha1 ha2 hb3 hb4 hb5 hb6 hsz0 hgz hcp HC2 hl256 HC; have B0 := aK (below_drew1 (Below.refl W0.heap.size W0)); refine start_ (n := 25) (S := fun w' => True) (ds := []) #[false, false, false, false, false, false, false, false, false, false, false, false, false, false, false, false, false, false, false, false, false, false, false, false, false] (by kernel_rfl) rfl rfl trivial (fun hHeld => ?_); refine with_tabW wagtailref15_Get.tab4 wagtailref15_Get.bits4 (fun HT_ HW_ => ?_); generalize W0.drew = wq at B0 hHeld ⊢; refine pure_ (i := 0) (N := some 14) (v := ?_) (a' := ?_) #[true, false, false, false, false, false, false, false, false, false, false, false, false, false, false, false, false, false, false, false, false, false, false, false, false] rfl rfl (any_of HT_.out (by kernel_rfl)) (fun _ _ _ h => h) (Or.inl ⟨by rfl, ?_⟩) ?_ ?_; rotate_left
  ·
   intro w'
   go_simp
   with_reducible rfl
  rotate_left
  ·
   simp only [Act.put, List.setIfInBounds_toArray, List.set_cons_zero, List.set_cons_succ, i64_w, i32_w]; rfl
  refine pure_ (i := 4) (N := some 18) (v := ?_) (a' := ?_) #[true, false, false, false, true, false, false, false, false, false, false, false, false, false, false, false, false, false, false, false, false, false, false, false, false] rfl rfl (any_of HT_.out (by kernel_rfl)) (fun _ _ _ h => h) (Or.inl ⟨by rfl, ?_⟩) ?_ ?_; rotate_left
  ·
   intro w'
   go_simp
   with_reducible rfl
  rotate_left
  ·
   simp only [Act.put, List.setIfInBounds_toArray, List.set_cons_zero, List.set_cons_succ, i64_w, i32_w]; rfl
  refine pure_ (i := 8) (N := some 22) (v := ?_) (a' := ?_) #[true, false, false, false, true, false, false, false, true, false, false, false, false, false, false, false, false, false, false, false, false, false, false, false, false] rfl rfl (any_of HT_.out (by kernel_rfl)) (fun _ _ _ h => h) (Or.inl ⟨by rfl, ?_⟩) ?_ ?_; rotate_left
  ·
   intro w'
   go_simp
   with_reducible rfl
  rotate_left
  ·
   simp only [Act.put, List.setIfInBounds_toArray, List.set_cons_zero, List.set_cons_succ, i64_w, i32_w]; rfl
  refine pure_ (i := 12) (N := some 26) (v := ?_) (a' := ?_) #[true, false, false, false, true, false, false, false, true, false, false, false, true, false, false, false, false, false, false, false, false, false, false, false, false] rfl rfl (any_of HT_.out (by kernel_rfl)) (fun _ _ _ h => h) (Or.inl ⟨by rfl, ?_⟩) ?_ ?_; rotate_left
  ·
   intro w'
   go_simp
   with_reducible rfl
  rotate_left
  ·
   simp only [Act.put, List.setIfInBounds_toArray, List.set_cons_zero, List.set_cons_succ, i64_w, i32_w]; rfl
  refine pure_ (i := 14) (N := some 28) (v := ?_) (a' := ?_) #[true, false, false, false, true, false, false, false, true, false, false, false, true, false, true, false, false, false, false, false, false, false, false, false, false] rfl rfl (any_of HT_.out (by kernel_rfl)) (fun _ _ _ h => h) (Or.inl ⟨by rfl, ?_⟩) ?_ ?_; rotate_left
  ·
   intro w'
   go_simp
   with_reducible rfl
  rotate_left
  ·
   simp only [Act.put, List.setIfInBounds_toArray, List.set_cons_zero, List.set_cons_succ, i64_w, i32_w]; rfl
  refine pure_ (i := 16) (N := some 30) (v := ?_) (a' := ?_) #[true, false, false, false, true, false, false, false, true, false, false, false, true, false, true, false, true, false, false, false, false, false, false, false, false] rfl rfl (any_of HT_.out (by kernel_rfl)) (fun _ _ _ h => h) (Or.inl ⟨by rfl, ?_⟩) ?_ ?_; rotate_left
  ·
   intro w'
   go_simp
   with_reducible rfl
  rotate_left
  ·
   simp only [Act.put, List.setIfInBounds_toArray, List.set_cons_zero, List.set_cons_succ, i64_w, i32_w]; rfl
  refine pure_ (i := 19) (N := some 33) (v := ?_) (a' := ?_) #[true, false, false, false, true, false, false, false, true, false, false, false, true, false, true, false, true, false, false, true, false, false, false, false, false] rfl rfl (any_of HT_.out (by kernel_rfl)) (fun _ _ _ h => h) (Or.inl ⟨by rfl, ?_⟩) ?_ ?_; rotate_left
  ·
   intro w'
   go_simp
   with_reducible rfl
  rotate_left
  ·
   simp only [Act.put, List.setIfInBounds_toArray, List.set_cons_zero, List.set_cons_succ, i64_w, i32_w]; rfl
  refine inv_at [1, 2, 3, 5, 6, 7, 9, 10, 11, 13, 15, 17, 18, 20, 21, 22, 23, 24] (fun a0_ b a w' => ∃ (gb : Nat) (m23_ : Value), a = putSel a0_ b [(1, 15, .pointer (some ⟨nb, 0, none⟩)), (2, 16, .int .u8 k0), (3, 17, .int .i64 k0), (5, 19, .pointer (some ⟨nb, 1, none⟩)), (6, 20, .int .u8 k1), (7, 21, .int .i64 k1), (9, 23, .pointer (some ⟨nb, 2, none⟩)), (10, 24, .int .u8 k2), (11, 25, .int .i64 k2), (13, 27, .int .u64 k3), (15, 29, .int .u64 k4), (17, 31, .int .u64 k5), (18, 32, .int .i64 k5), (20, 34, .int .u64 k6), (21, 35, .int .i64 k6), (22, 36, .agg #[.int .i64 k0, .int .i64 k1, .int .i64 k2, .int .u64 k3, .int .u64 k4, .int .i64 k5, .int .i64 k6]), (23, 6, m23_)] ∧ (Below W0.heap.size W0 w') ∧ (b 23 = true → b 24 = false → w'.heap[gb]? = some (.cells #[.int .i64 0, .int .i64 0, .int .i64 0, .int .u64 0, .int .u64 0, .int .i64 0, .int .i64 0] 82 (0, 0)) ∧ W0.heap.size ≤ gb) ∧ (b 24 = true → w'.heap[gb]? = some (.cells #[.int .i64 k0, .int .i64 k1, .int .i64 k2, .int .u64 k3, .int .u64 k4, .int .i64 k5, .int .i64 k6] 82 (0, 0)) ∧ W0.heap.size ≤ gb) ∧ (b 23 = true → (m23_ : Value) = .pointer (some ⟨gb, 0, none⟩))) HT_.out HW_.out (by kernel_rfl) (by kernel_rfl) ?_ ?_ ?_
  ·
   exact ⟨0, .bool false, by simp only [putSel, Bool.false_eq_true, if_false], B0.out, fun h_ => absurd h_ (by decide), fun h_ => absurd h_ (by decide), fun h_ => absurd h_ (by decide)⟩
  ·
   skip
   clear B0; refine steps_cons ?_ ?_; rintro b a w' ⟨gb, m23_, ha, Q_B0, Q_AL, Q_ST, Q_X23_⟩ hb_ hon hoff; refine ⟨_, rfl, fun K hK => ?_⟩; have e14 := q_f ha 14 rfl rfl; replace ha := aK ha; have B0 := aK Q_B0; refine q_v (.pointer (some ⟨nb, 0, none⟩)) (by rfl) rfl ?_ ?_; (· (go_simp; (try simp only [i64_w]); try rfl)); refine hK.out _ _ ⟨gb, m23_, q_u ha 0 hb_ rfl rfl rfl, Q_B0, Q_AL, fun h0_ => q_h hoff 24 h0_, Q_X23_⟩; refine steps_cons ?_ ?_; rintro b a w' ⟨gb, m23_, ha, Q_B0, Q_AL, Q_ST, Q_X23_⟩ hb_ hon hoff; refine ⟨_, rfl, fun K hK => ?_⟩; have e15 := q_n ha hon 15 0 1 rfl; replace ha := aK ha; have B0 := aK Q_B0; have hc_ := (B0.out.cell (p := ⟨nb, 0, none⟩) HG.out).trans HX0.out; refine q_v (.int .u8 k0) (by rfl) rfl ?_ ?_; (· (go_simp; (try simp only [i64_w]); try rfl)); refine hK.out _ _ ⟨gb, m23_, q_u ha 1 hb_ rfl rfl rfl, Q_B0, Q_AL, fun h0_ => q_h hoff 24 h0_, Q_X23_⟩; refine steps_cons ?_ ?_; rintro b a w' ⟨gb, m23_, ha, Q_B0, Q_AL, Q_ST, Q_X23_⟩ hb_ hon hoff; refine ⟨_, rfl, fun K hK => ?_⟩; have e16 := q_n ha hon 16 1 2 rfl; replace ha := aK ha; have B0 := aK Q_B0; have hw_ := HW0.out; refine q_v (.int .i64 k0) (by rfl) rfl ?_ ?_; (· (go_simp; (try simp only [i64_w]); try rfl)); refine hK.out _ _ ⟨gb, m23_, q_u ha 2 hb_ rfl rfl rfl, Q_B0, Q_AL, fun h0_ => q_h hoff 24 h0_, Q_X23_⟩; refine steps_cons ?_ ?_; rintro b a w' ⟨gb, m23_, ha, Q_B0, Q_AL, Q_ST, Q_X23_⟩ hb_ hon hoff; refine ⟨_, rfl, fun K hK => ?_⟩; have e18 := q_f ha 18 rfl rfl; replace ha := aK ha; have B0 := aK Q_B0; refine q_v (.pointer (some ⟨nb, 1, none⟩)) (by rfl) rfl ?_ ?_; (· (go_simp; (try simp only [i64_w]); try rfl)); refine hK.out _ _ ⟨gb, m23_, q_u ha 3 hb_ rfl rfl rfl, Q_B0, Q_AL, fun h0_ => q_h hoff 24 h0_, Q_X23_⟩; refine steps_cons ?_ ?_; rintro b a w' ⟨gb, m23_, ha, Q_B0, Q_AL, Q_ST, Q_X23_⟩ hb_ hon hoff; refine ⟨_, rfl, fun K hK => ?_⟩; have e19 := q_n ha hon 19 3 5 rfl; replace ha := aK ha; have B0 := aK Q_B0; have hc_ := (B0.out.cell (p := ⟨nb, 1, none⟩) HG.out).trans HX1.out; refine q_v (.int .u8 k1) (by rfl) rfl ?_ ?_; (· (go_simp; (try simp only [i64_w]); try rfl)); refine hK.out _ _ ⟨gb, m23_, q_u ha 4 hb_ rfl rfl rfl, Q_B0, Q_AL, fun h0_ => q_h hoff 24 h0_, Q_X23_⟩; refine steps_cons ?_ ?_; rintro b a w' ⟨gb, m23_, ha, Q_B0, Q_AL, Q_ST, Q_X23_⟩ hb_ hon hoff; refine ⟨_, rfl, fun K hK => ?_⟩; have e20 := q_n ha hon 20 4 6 rfl; replace ha := aK ha; have B0 := aK Q_B0; have hw_ := HW1.out; refine q_v (.int .i64 k1) (by rfl) rfl ?_ ?_; (· (go_simp; (try simp only [i64_w]); try rfl)); refine hK.out _ _ ⟨gb, m23_, q_u ha 5 hb_ rfl rfl rfl, Q_B0, Q_AL, fun h0_ => q_h hoff 24 h0_, Q_X23_⟩; refine steps_cons ?_ ?_; rintro b a w' ⟨gb, m23_, ha, Q_B0, Q_AL, Q_ST, Q_X23_⟩ hb_ hon hoff; refine ⟨_, rfl, fun K hK => ?_⟩; have e22 := q_f ha 22 rfl rfl; replace ha := aK ha; have B0 := aK Q_B0; refine q_v (.pointer (some ⟨nb, 2, none⟩)) (by rfl) rfl ?_ ?_; (· (go_simp; (try simp only [i64_w]); try rfl)); refine hK.out _ _ ⟨gb, m23_, q_u ha 6 hb_ rfl rfl rfl, Q_B0, Q_AL, fun h0_ => q_h hoff 24 h0_, Q_X23_⟩; refine steps_cons ?_ ?_; rintro b a w' ⟨gb, m23_, ha, Q_B0, Q_AL, Q_ST, Q_X23_⟩ hb_ hon hoff; refine ⟨_, rfl, fun K hK => ?_⟩; have e23 := q_n ha hon 23 6 9 rfl; replace ha := aK ha; have B0 := aK Q_B0; have hc_ := (B0.out.cell (p := ⟨nb, 2, none⟩) HG.out).trans HX2.out; refine q_v (.int .u8 k2) (by rfl) rfl ?_ ?_; (· (go_simp; (try simp only [i64_w]); try rfl)); refine hK.out _ _ ⟨gb, m23_, q_u ha 7 hb_ rfl rfl rfl, Q_B0, Q_AL, fun h0_ => q_h hoff 24 h0_, Q_X23_⟩; refine steps_cons ?_ ?_; rintro b a w' ⟨gb, m23_, ha, Q_B0, Q_AL, Q_ST, Q_X23_⟩ hb_ hon hoff; refine ⟨_, rfl, fun K hK => ?_⟩; have e24 := q_n ha hon 24 7 10 rfl; replace ha := aK ha; have B0 := aK Q_B0; have hw_ := HW2.out; refine q_v (.int .i64 k2) (by rfl) rfl ?_ ?_; (· (go_simp; (try simp only [i64_w]); try rfl)); refine hK.out _ _ ⟨gb, m23_, q_u ha 8 hb_ rfl rfl rfl, Q_B0, Q_AL, fun h0_ => q_h hoff 24 h0_, Q_X23_⟩
   refine steps_cons ?_ ?_; rintro b a w' ⟨gb, m23_, ha, Q_B0, Q_AL, Q_ST, Q_X23_⟩ hb_ hon hoff; refine ⟨_, rfl, fun K hK => ?_⟩; have e26 := q_f ha 26 rfl rfl; replace ha := aK ha; have B0 := aK Q_B0; refine goes_ Try.func95 (by kernel_rfl) rfl #[.slice (some ⟨nb, 0, none⟩) 256 cp, .int .i64 4, .int .i64 8] (by rfl) rfl rfl (by (simp only [List.map_toArray, List.map_cons, List.map_nil, Act.eval, Array.getD_eq_getD_getElem?, Option.getD_some, e26]) <;> rfl) ?_; (with_reducible refine (X3.out _ B0.out).mono ?_); rintro e w2 ⟨rfl, hb⟩; refine ⟨_, rfl, ?_⟩; refine hK.out _ _ ⟨gb, m23_, q_u ha 9 hb_ rfl rfl rfl, below_then B0.out B0.out.size hb, fun h0_ h1_ => ⟨(hb.block _ (Array.getElem?_eq_some_iff.1 (Q_AL h0_ h1_).1).1).trans (Q_AL h0_ h1_).1, (Q_AL h0_ h1_).2⟩, fun h0_ => q_h hoff 24 h0_, Q_X23_⟩; refine steps_cons ?_ ?_; rintro b a w' ⟨gb, m23_, ha, Q_B0, Q_AL, Q_ST, Q_X23_⟩ hb_ hon hoff; refine ⟨_, rfl, fun K hK => ?_⟩; have e28 := q_f ha 28 rfl rfl; replace ha := aK ha; have B0 := aK Q_B0; refine goes_ Try.func95 (by kernel_rfl) rfl #[.slice (some ⟨nb, 0, none⟩) 256 cp, .int .i64 12, .int .i64 8] (by rfl) rfl rfl (by (simp only [List.map_toArray, List.map_cons, List.map_nil, Act.eval, Array.getD_eq_getD_getElem?, Option.getD_some, e28]) <;> rfl) ?_; (with_reducible refine (X4.out _ B0.out).mono ?_); rintro e w2 ⟨rfl, hb⟩; refine ⟨_, rfl, ?_⟩; refine hK.out _ _ ⟨gb, m23_, q_u ha 10 hb_ rfl rfl rfl, below_then B0.out B0.out.size hb, fun h0_ h1_ => ⟨(hb.block _ (Array.getElem?_eq_some_iff.1 (Q_AL h0_ h1_).1).1).trans (Q_AL h0_ h1_).1, (Q_AL h0_ h1_).2⟩, fun h0_ => q_h hoff 24 h0_, Q_X23_⟩; refine steps_cons ?_ ?_; rintro b a w' ⟨gb, m23_, ha, Q_B0, Q_AL, Q_ST, Q_X23_⟩ hb_ hon hoff; refine ⟨_, rfl, fun K hK => ?_⟩; have e30 := q_f ha 30 rfl rfl; replace ha := aK ha; have B0 := aK Q_B0; refine goes_ Try.func95 (by kernel_rfl) rfl #[.slice (some ⟨nb, 0, none⟩) 256 cp, .int .i64 20, .int .i64 2] (by rfl) rfl rfl (by (simp only [List.map_toArray, List.map_cons, List.map_nil, Act.eval, Array.getD_eq_getD_getElem?, Option.getD_some, e30]) <;> rfl) ?_; (with_reducible refine (X5.out _ B0.out).mono ?_); rintro e w2 ⟨rfl, hb⟩; refine ⟨_, rfl, ?_⟩; refine hK.out _ _ ⟨gb, m23_, q_u ha 11 hb_ rfl rfl rfl, below_then B0.out B0.out.size hb, fun h0_ h1_ => ⟨(hb.block _ (Array.getElem?_eq_some_iff.1 (Q_AL h0_ h1_).1).1).trans (Q_AL h0_ h1_).1, (Q_AL h0_ h1_).2⟩, fun h0_ => q_h hoff 24 h0_, Q_X23_⟩; refine steps_cons ?_ ?_; rintro b a w' ⟨gb, m23_, ha, Q_B0, Q_AL, Q_ST, Q_X23_⟩ hb_ hon hoff; refine ⟨_, rfl, fun K hK => ?_⟩; have e31 := q_n ha hon 31 11 17 rfl; replace ha := aK ha; have B0 := aK Q_B0; have hw_ := HW5.out; refine q_v (.int .i64 k5) (by rfl) rfl ?_ ?_; (· (go_simp; (try simp only [i64_w]); try rfl)); refine hK.out _ _ ⟨gb, m23_, q_u ha 12 hb_ rfl rfl rfl, Q_B0, Q_AL, fun h0_ => q_h hoff 24 h0_, Q_X23_⟩; refine steps_cons ?_ ?_; rintro b a w' ⟨gb, m23_, ha, Q_B0, Q_AL, Q_ST, Q_X23_⟩ hb_ hon hoff; refine ⟨_, rfl, fun K hK => ?_⟩; have e33 := q_f ha 33 rfl rfl; replace ha := aK ha; have B0 := aK Q_B0; refine goes_ Try.func95 (by kernel_rfl) rfl #[.slice (some ⟨nb, 0, none⟩) 256 cp, .int .i64 22, .int .i64 2] (by rfl) rfl rfl (by (simp only [List.map_toArray, List.map_cons, List.map_nil, Act.eval, Array.getD_eq_getD_getElem?, Option.getD_some, e33]) <;> rfl) ?_; (with_reducible refine (X6.out _ B0.out).mono ?_); rintro e w2 ⟨rfl, hb⟩; refine ⟨_, rfl, ?_⟩; refine hK.out _ _ ⟨gb, m23_, q_u ha 13 hb_ rfl rfl rfl, below_then B0.out B0.out.size hb, fun h0_ h1_ => ⟨(hb.block _ (Array.getElem?_eq_some_iff.1 (Q_AL h0_ h1_).1).1).trans (Q_AL h0_ h1_).1, (Q_AL h0_ h1_).2⟩, fun h0_ => q_h hoff 24 h0_, Q_X23_⟩; refine steps_cons ?_ ?_; rintro b a w' ⟨gb, m23_, ha, Q_B0, Q_AL, Q_ST, Q_X23_⟩ hb_ hon hoff; refine ⟨_, rfl, fun K hK => ?_⟩; have e34 := q_n ha hon 34 13 20 rfl; replace ha := aK ha; have B0 := aK Q_B0; have hw_ := HW6.out; refine q_v (.int .i64 k6) (by rfl) rfl ?_ ?_
   (· (go_simp; (try simp only [i64_w]); try rfl)); refine hK.out _ _ ⟨gb, m23_, q_u ha 14 hb_ rfl rfl rfl, Q_B0, Q_AL, fun h0_ => q_h hoff 24 h0_, Q_X23_⟩; refine steps_cons ?_ ?_; rintro b a w' ⟨gb, m23_, ha, Q_B0, Q_AL, Q_ST, Q_X23_⟩ hb_ hon hoff; refine ⟨_, rfl, fun K hK => ?_⟩; have e17 := q_n ha hon 17 2 3 rfl; have e21 := q_n ha hon 21 5 7 rfl; have e25 := q_n ha hon 25 8 11 rfl; have e27 := q_n ha hon 27 9 13 rfl; have e29 := q_n ha hon 29 10 15 rfl; have e32 := q_n ha hon 32 12 18 rfl; have e35 := q_n ha hon 35 14 21 rfl; replace ha := aK ha; have B0 := aK Q_B0; refine q_v (.agg #[.int .i64 k0, .int .i64 k1, .int .i64 k2, .int .u64 k3, .int .u64 k4, .int .i64 k5, .int .i64 k6]) (by rfl) rfl ?_ ?_; (· (go_simp; (try simp only [i64_w]); try rfl)); refine hK.out _ _ ⟨gb, m23_, q_u ha 15 hb_ rfl rfl rfl, Q_B0, Q_AL, fun h0_ => q_h hoff 24 h0_, Q_X23_⟩; refine steps_cons ?_ ?_; rintro b a w' ⟨gb, m23_, ha, Q_B0, Q_AL, Q_ST, Q_X23_⟩ hb_ hon hoff; refine ⟨_, rfl, fun K hK => ?_⟩; replace ha := aK ha; have B0 := aK Q_B0; refine value_ (w1 := w'.alloc (Obj.cells #[.int .i64 0, .int .i64 0, .int .i64 0, .int .u64 0, .int .u64 0, .int .i64 0, .int .i64 0] 82)) (v := .pointer (some ⟨w'.heap.size, 0, none⟩)) (by rfl) rfl (by first | (go_simp; done) | (go_simp; rfl)) ?_; have hb := below_alloc (Below.refl w'.heap.size w') (Obj.cells #[.int .i64 0, .int .i64 0, .int .i64 0, .int .u64 0, .int .u64 0, .int .i64 0, .int .i64 0] 82); refine hK.out _ _ ⟨w'.heap.size, (.pointer (some ⟨w'.heap.size, 0, none⟩)), q_u ha 16 hb_ rfl rfl rfl, below_then B0.out B0.out.size hb, fun _ _ => ⟨heap_alloc_new w' _, B0.out.size⟩, fun h0_ => q_h hoff 24 h0_, fun _ => rfl⟩; refine steps_cons ?_ ?_; rintro b a w' ⟨gb, m23_, ha, Q_B0, Q_AL, Q_ST, Q_X23_⟩ hb_ hon hoff; refine ⟨_, rfl, fun K hK => ?_⟩; have e6 := q_n ha hon 6 16 23 rfl; rw [Q_X23_ (hon 23 (by kernel_rfl))] at e6; have e36 := q_n ha hon 36 15 22 rfl; replace ha := aK ha; have B0 := aK Q_B0; have AL := aK (Q_AL (hon 23 (by kernel_rfl)) hb_); have d0 := blk_cell AL.out.1 0; have d1 := blk_cell AL.out.1 1; have d2 := blk_cell AL.out.1 2; have d3 := blk_cell AL.out.1 3; have d4 := blk_cell AL.out.1 4; have d5 := blk_cell AL.out.1 5; have d6 := blk_cell AL.out.1 6; have e0 := blk_frozen AL.out.1 0; have e1 := blk_frozen AL.out.1 1; have e2 := blk_frozen AL.out.1 2; have e3 := blk_frozen AL.out.1 3; have e4 := blk_frozen AL.out.1 4; have e5 := blk_frozen AL.out.1 5; have e6 := blk_frozen AL.out.1 6; have hst := wagtailref15_Get.store7 k0 k1 k2 k3 k4 k5 k6 AL.out B0.out; refine skip_ (w1 := ?_) (by rfl) rfl ?_ ?_; rotate_left
   ·
    go_simp
    rfl
   refine hK.out _ _ ⟨gb, m23_, (by rw [ha.out]; exact putSel_none (v := undef) rfl), hst.1, fun _ h1_ => q_x h1_ (up_self b 24), fun _ => hst.2, Q_X23_⟩; exact steps_nil
  rintro b a wl hall ⟨gb, m23_, ha, Q_B0, Q_AL, Q_ST, Q_X23_⟩; clear B0; subst ha; obtain rfl := Q_X23_ (hall 23 (by kernel_rfl)); rw [q_a hall]; rotate_left
  ·
   kernel_rfl
  simp only [List.foldl_cons, List.foldl_nil, Act.put, List.setIfInBounds_toArray, List.set_cons_zero, List.set_cons_succ]; have B0 := aK Q_B0; clear Q_B0; clear Q_AL; have ST := aK (Q_ST (hall 24 (by kernel_rfl))); clear Q_ST; clear hall; have Z1 := aK (blk_below HZ.out B0.out); have BB := aK (below_then HB.out HB.out.size B0.out); have HGN := aK (show gb ≠ w.heap.size by have := ST.out.2; have := HNE.out; omega); have hc := ST.out.1; have c0 := blk_cell hc 0; have c1 := blk_cell hc 1; have c2 := blk_cell hc 2; have c3 := blk_cell hc 3; have c4 := blk_cell hc 4; have c5 := blk_cell hc 5; have c6 := blk_cell hc 6; clear hc HT_ HW_ X3 X4 X5 X6 HX0 HX1 HX2 HW0 HW1 HW2 HW5 HW6 hHeld B0 HB HZ HG HNE; by_cases hm : headMay k0 k1 k2 k3 k4 k5 k6 = true
  case neg =>
   have hmf : headMay k0 k1 k2 k3 k4 k5 k6 = false := by simpa using hm
   have h := H.out; unfold wagtailref15_Get.g at h; rw [if_neg hm] at h; simp only [wagtailref15_Get.z, Option.some.injEq, Prod.mk.injEq] at h; obtain ⟨rfl, rfl, rfl, rfl, rfl, rfl, rfl, rfl, rfl⟩ := h; have HM := aK ((wagtailref15_Get.may_head k0 k1 k2 k3 k4 k5 k6).trans (congrArg some hmf)); clear hm hmf H; go_wp2_with ((go_at_call 93); (with_reducible refine (wagtailref15_May.calls k0 k1 k2 k3 k4 k5 k6 false _ HM.out).mono ?_); rintro e w2 ⟨rfl, hb⟩; have Z2 := blk_below Z1.out hb; have d0 := blk_cell Z2 0; have d1 := blk_cell Z2 1; have d2 := blk_cell Z2 2; have d3 := blk_cell Z2 3; have d4 := blk_cell Z2 4; have d5 := blk_cell Z2 5; have d6 := blk_cell Z2 6; have e0 := blk_frozen Z2 0; have e1 := blk_frozen Z2 1; have e2 := blk_frozen Z2 2; have e3 := blk_frozen Z2 3; have e4 := blk_frozen Z2 4; have e5 := blk_frozen Z2 5; have e6 := blk_frozen Z2 6; have hst := aK (wagtailref15_Get.store7 0 0 0 0 0 0 0 ⟨Z2, Nat.le_refl _⟩ (below_then BB.out BB.out.size hb)); replace Z2 := aK Z2; clear hb); refine bodyPost_ret (results_ctt rfl _ _ w.heap.size 82 _ (0, 0) _ rfl hst.out.2.1 Try.underlying82 rfl (by kernel_rfl)) rfl ?_; exact ⟨rfl, hst.out.1⟩
  case pos =>
   have hrg := wagtailref15_Put.headMay_range hm; obtain ⟨m, rfl⟩ := Int.eq_ofNat_of_zero_le hrg.2.2.2.2.2.2.1; have hm1 : m ≤ 228 := by omega
   have HM := aK ((wagtailref15_Get.may_head k0 k1 k2 k3 k4 k5 (m : Int)).trans (congrArg some hm)); have hw24 : wrap64 (24 + (m : Int)) = 24 + (m : Int) := by unfold wrap64; omega
   have hi1 : (24 : Int) ≤ 24 + (m : Int) := by omega
   have hi2 : 24 + (m : Int) ≤ (a0.size : Int) := by have := HS.out; omega
   have HMM := aK hm; have HM1 := aK hm1; clear hrg hm hm1; go_upto_region 8 with ((go_at_call 93); (with_reducible refine (wagtailref15_May.calls k0 k1 k2 k3 k4 k5 (m : Int) true _ HM.out).mono ?_); rintro e w2 ⟨rfl, hb⟩; have hc2 := blk_below ST.out.1 hb; have f0 := blk_cell hc2 0; have f1 := blk_cell hc2 1; have f2 := blk_cell hc2 2; have f3 := blk_cell hc2 3; have f4 := blk_cell hc2 4; have f5 := blk_cell hc2 5; have f6 := blk_cell hc2 6; replace Z1 := aK (blk_below Z1.out hb); replace BB := aK (below_then BB.out BB.out.size hb); replace hc2 := aK hc2; clear hb); clear c0 c1 c2 c3 c4 c5 c6; obtain ⟨d, hd⟩ : ∃ d, d = a0.extract 24 (24 + m) := ⟨_, rfl⟩; have hds : d.size = m := by rw [hd, ByteArray.size_extract]; have := HS.out; omega
   have h := H.out; rw [show strOfNums (List.take ((m : Int)).toNat (List.drop 24 l)) = d by rw [hd, wagtailref15_Get.cut_str, ← hl.out, Int.toNat_natCast]] at h; rw [← hd]; unfold wagtailref15_Get.g at h; rw [if_pos HMM.out] at h; obtain ⟨p, hp⟩ : ∃ p, p = strOfNums (pageBody k0 k1 k2 k3 k4 k5 (m : Int) (bytesOf d) ++ beBytes 4 (zsum (pageBody k0 k1 k2 k3 k4 k5 (m : Int) (bytesOf d)))) := ⟨_, rfl⟩; rw [← hp] at h; have HP := aK (show wagtailref15_Put.f k0 k1 k2 k3 k4 k5 (m : Int) d = some p by
    unfold wagtailref15_Put.f; rw [if_pos ⟨HMM.out, HRG.out.1.1, HRG.out.2.1.1, by rw [hds]; exact HM1.out⟩, hp])
   clear H hp hd hds hw24 hi1 hi2; by_cases hpe : p = a0
   case neg =>
    rw [if_neg hpe] at h; simp only [wagtailref15_Get.z, Option.some.injEq, Prod.mk.injEq] at h; obtain ⟨rfl, rfl, rfl, rfl, rfl, rfl, rfl, rfl, rfl⟩ := h; have hp2 : (p.toList == a0.toList) = false := by
     rw [beq_eq_false_iff_ne, ne_eq, ByteArray.toList_eq, ByteArray.toList_eq]; exact fun h => hpe (ByteArray.ext (Array.ext' h))
    clear hpe; go_wp2_with ((go_at_call 94); (with_reducible refine (wagtailref15_Put.calls k0 k1 k2 k3 k4 k5 (m : Int) d p _ HP.out).mono ?_); rintro e w3 ⟨rfl, hb⟩; have Z2 := blk_below Z1.out hb; have d0 := blk_cell Z2 0; have d1 := blk_cell Z2 1; have d2 := blk_cell Z2 2; have d3 := blk_cell Z2 3; have d4 := blk_cell Z2 4; have d5 := blk_cell Z2 5; have d6 := blk_cell Z2 6; have e0 := blk_frozen Z2 0; have e1 := blk_frozen Z2 1; have e2 := blk_frozen Z2 2; have e3 := blk_frozen Z2 3; have e4 := blk_frozen Z2 4; have e5 := blk_frozen Z2 5; have e6 := blk_frozen Z2 6; have hst := aK (wagtailref15_Get.store7 0 0 0 0 0 0 0 ⟨Z2, Nat.le_refl _⟩ (below_then BB.out BB.out.size hb)); replace Z2 := aK Z2; clear hb); refine bodyPost_ret (results_ctt rfl _ _ w.heap.size 82 _ (0, 0) _ rfl hst.out.2.1 Try.underlying82 rfl (by kernel_rfl)) rfl ?_; exact ⟨rfl, hst.out.1⟩
   case pos =>
    rw [if_pos hpe] at h; simp only [Option.some.injEq, Prod.mk.injEq] at h; obtain ⟨rfl, rfl, rfl, rfl, rfl, rfl, rfl, rfl, rfl⟩ := h; have hp2 : (p.toList == a0.toList) = true := by rw [hpe]; simp
    clear hpe; go_wp2_with ((go_at_call 94); (with_reducible refine (wagtailref15_Put.calls k0 k1 k2 k3 k4 k5 (m : Int) d p _ HP.out).mono ?_); rintro e w3 ⟨rfl, hb⟩; have hc3 := blk_below hc2.out hb; have c0 := blk_cell hc3 0; have c1 := blk_cell hc3 1; have c2 := blk_cell hc3 2; have c3 := blk_cell hc3 3; have c4 := blk_cell hc3 4; have c5 := blk_cell hc3 5; have c6 := blk_cell hc3 6; replace hc3 := aK hc3; have Z2 := blk_below Z1.out hb; have d0 := blk_cell Z2 0; have d1 := blk_cell Z2 1; have d2 := blk_cell Z2 2; have d3 := blk_cell Z2 3; have d4 := blk_cell Z2 4; have d5 := blk_cell Z2 5; have d6 := blk_cell Z2 6; have e0 := blk_frozen Z2 0; have e1 := blk_frozen Z2 1; have e2 := blk_frozen Z2 2; have e3 := blk_frozen Z2 3; have e4 := blk_frozen Z2 4; have e5 := blk_frozen Z2 5; have e6 := blk_frozen Z2 6; have hst := aK (wagtailref15_Get.store7 k0 k1 k2 k3 k4 k5 (m : Int) ⟨Z2, Nat.le_refl _⟩ (below_then BB.out BB.out.size hb)); replace Z2 := aK Z2; clear hb); refine bodyPost_ret (results_ctt rfl _ _ w.heap.size 82 _ (0, 0) _ rfl hst.out.2.1 Try.underlying82 rfl (by kernel_rfl)) rfl ?_; exact ⟨rfl, hst.out.1⟩
end Go.Proofs.Ytnchdmidaigheaa.Hp
namespace Go.Proofs.Ytnchdmidaigheaa.Hp
open Go.RowKit Go.Proofs.YtnchdmidaigheaaW.PrintWords Go.Proofs.YtnchdmidaigheaaW.PrintLast Go.Proofs.YtnchdmidaigheaaW.PrintMore
attribute [local go_sem] max2_int min2_int max_two min_two max_three min_three max_four min_four   -- for this text's walks alone
set_option linter.unusedVariables false
set_option linter.unusedSimpArgs false
def wagtailref15_Class.f (k : Nat) (a0 : ByteArray) : Option (Int) := (wagtailref02_Ones.f k 256).bind fun t368 => (if a0.toList = (strOfNums t368).toList then (some 0) else ((wagtailref15_Get.f a0).bind fun bt371 => (if bt371.2.2.2.2.2.2.2.2 = true then (some 1) else (some 2))))
theorem wagtailref15_Class.mono : ∀ a0 k, LeO (wagtailref15_Class.f k a0) (wagtailref15_Class.f (k + 1) a0) := by
 intro a0 k; unfold wagtailref15_Class.f
 repeat' first
   | (with_reducible exact wagtailref02_Ones.mono _ _)
   | (with_reducible exact LeO.refl _)
   | (with_reducible exact LeO.none _)
   | (with_reducible refine LeO.ite ?_ ?_)
   | (with_reducible refine LeO.bind ?_ (fun _ => ?_))
   | exact wagtailref02_Ones.mono _ _
   | exact LeO.none _
   | refine LeO.ite ?_ ?_
   | refine LeO.bind ?_ (fun _ => ?_)
set_option maxHeartbeats 8000000 in
set_option maxRecDepth 100000 in
theorem wagtailref15_Class.calls (k : Nat) (a0 : ByteArray) (r : Int) (w : World) (h : wagtailref15_Class.f k a0 = some r) :
  Calls Try.prog 56 #[.string a0] w fun e w' => e = .returned (.int .i64 r) ∧ Below w.heap.size w w' := by
 have hu82 := Try.underlying82; have HB := aK (Below.refl w.heap.size w); have H : ((wagtailref02_Ones.f k 256).bind fun t368 => (if a0.toList = (strOfNums t368).toList then (some 0) else ((wagtailref15_Get.f a0).bind fun bt371 => (if bt371.2.2.2.2.2.2.2.2 = true then (some 1) else (some 2))))) = some r := h; clear h; replace H := Option.bind_eq_some_iff.mp H; obtain ⟨t368, A20, H⟩ := H; replace H : (if a0.toList = (strOfNums t368).toList then (some 0) else ((wagtailref15_Get.f a0).bind fun bt371 => (if bt371.2.2.2.2.2.2.2.2 = true then (some 1) else (some 2)))) = some r := H; have A2 := aK A20; clear A20; by_cases c3 : a0.toList = (strOfNums t368).toList
 ·
  rw [if_pos c3] at H; have c3b0 : (a0.toList == (strOfNums t368).toList) = true := beq_iff_eq.mpr c3; have c3b1 : (a0.toList != (strOfNums t368).toList) = false := bne_eq_false_iff_eq.mpr c3; clear c3; obtain rfl := Option.some.inj H; go_enter Try.func56, Try.ntmps56; go_wp2_with (first | ((with_reducible refine gate_callee (f := 73) rfl ?_); refine goesL_ (some 7) rfl rfl Try.func73 (by kernel_rfl) rfl #[.int .i64 256] rfl (by (try simp only [List.map_toArray, List.map_cons, List.map_nil]); first | done | rfl | (simp only [List.length_drop, List.length_take]; rfl)) ?_; (with_reducible refine (wagtailref02_Ones.calls k 256 t368 _ A2.out).mono ?_); rintro e w4 ⟨v369, rfl, ho0, hb⟩; refine ⟨_, rfl, ?_⟩; have n0_ := aK (Kd.R_lower ho0 (below_size (by repeat (first | (with_reducible first | exact HB.out | apply below_alloc | apply pw_below_drewN | apply below_drew1) | exact HB.out)))); have n1_ := aK (below_step (by repeat (first | (with_reducible first | exact HB.out | apply below_alloc | apply pw_below_drewN | apply below_drew1) | exact HB.out)) hb); clear HB; have HO370 := n0_; have HB := n1_; clear n0_ n1_; (try clear hb); (try clear hb2); (try clear hk); (try clear hi); (try clear ho0); have hcv5 := own_string (P := Try.prog) Try.underlying38 Try.underlying5 Try.underlying9 (Kd.own_of_R HO370.out); have hcv5d := fun m_ => own_string (P := Try.prog) Try.underlying38 Try.underlying5 Try.underlying9 (Kd.own_of_R (Kd.R_drewN HO370.out m_)))); go_ret; exact ⟨by first | rfl | (simp [errW_none, errW_some] <;> rfl) | (simp [*, errW_none, errW_some] <;> rfl), by repeat (first | (with_reducible first | exact HB.out | apply below_alloc | apply pw_below_drewN | apply below_drew1) | exact HB.out)⟩
 ·
  rw [if_neg c3] at H; have c3b0 : (a0.toList == (strOfNums t368).toList) = false := beq_eq_false_iff_ne.mpr c3; have c3b1 : (a0.toList != (strOfNums t368).toList) = true := bne_iff_ne.mpr c3; replace H := Option.bind_eq_some_iff.mp H; obtain ⟨⟨t371, t372, t373, t374, t375, t376, t377, t378, t379⟩, A60, H⟩ := H; replace H : (if t379 = true then (some 1) else (some 2)) = some r := H; have A6 := aK A60; clear A60; by_cases c7 : t379 = true
  ·
   subst c7; have H1 : (some 1) = some r := by rw [if_pos rfl] at H; exact H
   clear H; have H := H1; clear H1; obtain rfl := Option.some.inj H; go_enter Try.func56, Try.ntmps56; go_wp2_with (first | ((with_reducible refine gate_callee (f := 73) rfl ?_); refine goesL_ (some 7) rfl rfl Try.func73 (by kernel_rfl) rfl #[.int .i64 256] rfl (by (try simp only [List.map_toArray, List.map_cons, List.map_nil]); first | done | rfl | (simp only [List.length_drop, List.length_take]; rfl)) ?_; (with_reducible refine (wagtailref02_Ones.calls k 256 t368 _ A2.out).mono ?_); rintro e w8 ⟨v369, rfl, ho0, hb⟩; refine ⟨_, rfl, ?_⟩; have n0_ := aK (Kd.R_lower ho0 (below_size (by repeat (first | (with_reducible first | exact HB.out | apply below_alloc | apply pw_below_drewN | apply below_drew1) | exact HB.out)))); have n1_ := aK (below_step (by repeat (first | (with_reducible first | exact HB.out | apply below_alloc | apply pw_below_drewN | apply below_drew1) | exact HB.out)) hb); clear HB; have HO370 := n0_; have HB := n1_; clear n0_ n1_; (try clear hb); (try clear hb2); (try clear hk); (try clear hi); (try clear ho0); have hcv9 := own_string (P := Try.prog) Try.underlying38 Try.underlying5 Try.underlying9 (Kd.own_of_R HO370.out); have hcv9d := fun m_ => own_string (P := Try.prog) Try.underlying38 Try.underlying5 Try.underlying9 (Kd.own_of_R (Kd.R_drewN HO370.out m_))) | ((with_reducible refine gate_callee (f := 53) rfl ?_); refine goesL_ (some 12) rfl rfl Try.func53 (by kernel_rfl) rfl #[.string a0] rfl (by (try simp only [List.map_toArray, List.map_cons, List.map_nil]); first | done | rfl | (simp only [List.length_drop, List.length_take]; rfl)) ?_; (with_reducible refine (wagtailref15_Get.calls a0 t371 t372 t373 t374 t375 t376 t377 t378 true _ A6.out).mono ?_); rintro e w10 ⟨rfl, hb⟩; refine ⟨_, rfl, ?_⟩; have n0_ := aK (Kd.R_below (by (with_reducible repeat (first | apply Kd.R_alloc | apply Kd.R_drewN | apply Kd.R_drew)); exact HO370.out) hb); have n1_ := aK (below_step (by repeat (first | (with_reducible first | exact HB.out | apply below_alloc | apply pw_below_drewN | apply below_drew1) | exact HB.out)) hb); clear HO370; clear HB; have HO370 := n0_; have HB := n1_; clear n0_ n1_; (try clear hb); (try clear hb2); (try clear hk); (try clear hi)) | ((with_reducible refine gate_dst (N := 3) rfl ?_); refine box_event ?hg (N := 3) ?hd (cs := #[.int .i64 0, .int .i64 0, .int .i64 0, .int .u64 0, .int .u64 0, .int .i64 0, .int .i64 0]) (t := 82) ?hr ?_; (case hd => rfl); (case hg => rfl); (case hr => first | (go_simp; done) | (go_simp; rfl)); intro gb380 hg w11 hbox hb; have n0_ := aK (Kd.R_below (by (with_reducible repeat (first | apply Kd.R_alloc | apply Kd.R_drewN | apply Kd.R_drew)); exact HO370.out) hb); have n1_ := aK (below_step (by repeat (first | (with_reducible first | exact HB.out | apply below_alloc | apply pw_below_drewN | apply below_drew1) | exact HB.out)) hb); have n2_ := aK (hbox); have n3_ := aK ((by rw [hg]; exact (below_size (by repeat (first | (with_reducible first | exact HB.out | apply below_alloc | apply pw_below_drewN | apply below_drew1) | exact HB.out))) : w.heap.size ≤ gb380)); have n4_ := aK ((by rw [hg]; exact (below_size (by repeat (first | (with_reducible first | exact HB.out | apply below_alloc | apply pw_below_drewN | apply below_drew1) | exact HB.out))) : w.heap.size ≤ gb380)); clear HO370; clear HB; have HO370 := n0_; have HB := n1_; have BK380 := n2_; have GW380 := n3_; have GE380 := n4_; clear n0_ n1_ n2_ n3_ n4_; clear hb hbox hg; have hcz12_0 : w11.cell? ⟨gb380, 0, none⟩ = some (.int .i64 0) := (blk_cell BK380.out 0).trans rfl; have hcz12_1 : w11.cell? ⟨gb380, 1, none⟩ = some (.int .i64 0) := (blk_cell BK380.out 1).trans rfl; have hcz12_2 : w11.cell? ⟨gb380, 2, none⟩ = some (.int .i64 0) := (blk_cell BK380.out 2).trans rfl; have hcz12_3 : w11.cell? ⟨gb380, 3, none⟩ = some (.int .u64 0) := (blk_cell BK380.out 3).trans rfl; have hcz12_4 : w11.cell? ⟨gb380, 4, none⟩ = some (.int .u64 0) := (blk_cell BK380.out 4).trans rfl; have hcz12_5 : w11.cell? ⟨gb380, 5, none⟩ = some (.int .i64 0) := (blk_cell BK380.out 5).trans rfl; have hcz12_6 : w11.cell? ⟨gb380, 6, none⟩ = some (.int .i64 0) := (blk_cell BK380.out 6).trans rfl; have hfz12_0 := blk_frozen BK380.out 0; have hfz12_1 := blk_frozen BK380.out 1; have hfz12_2 := blk_frozen BK380.out 2; have hfz12_3 := blk_frozen BK380.out 3; have hfz12_4 := blk_frozen BK380.out 4; have hfz12_5 := blk_frozen BK380.out 5; have hfz12_6 := blk_frozen BK380.out 6))
   go_ret; exact ⟨by first | rfl | (simp [errW_none, errW_some] <;> rfl) | (simp [*, errW_none, errW_some] <;> rfl), by repeat (first | (with_reducible first | exact HB.out | apply below_alloc | apply pw_below_drewN | apply below_drew1 | refine below_set ?_ GE380.out) | exact HB.out)⟩
  ·
   replace c7 := Bool.eq_false_iff.mpr c7; subst c7; have H1 : (some 2) = some r := by rw [if_neg (show ¬ (false = true) by decide)] at H; exact H
   clear H; have H := H1; clear H1; obtain rfl := Option.some.inj H; go_enter Try.func56, Try.ntmps56; go_wp2_with (first | ((with_reducible refine gate_callee (f := 73) rfl ?_); refine goesL_ (some 7) rfl rfl Try.func73 (by kernel_rfl) rfl #[.int .i64 256] rfl (by (try simp only [List.map_toArray, List.map_cons, List.map_nil]); first | done | rfl | (simp only [List.length_drop, List.length_take]; rfl)) ?_; (with_reducible refine (wagtailref02_Ones.calls k 256 t368 _ A2.out).mono ?_); rintro e w13 ⟨v369, rfl, ho0, hb⟩; refine ⟨_, rfl, ?_⟩; have n0_ := aK (Kd.R_lower ho0 (below_size (by repeat (first | (with_reducible first | exact HB.out | apply below_alloc | apply pw_below_drewN | apply below_drew1) | exact HB.out)))); have n1_ := aK (below_step (by repeat (first | (with_reducible first | exact HB.out | apply below_alloc | apply pw_below_drewN | apply below_drew1) | exact HB.out)) hb); clear HB; have HO370 := n0_; have HB := n1_; clear n0_ n1_; (try clear hb); (try clear hb2); (try clear hk); (try clear hi); (try clear ho0); have hcv14 := own_string (P := Try.prog) Try.underlying38 Try.underlying5 Try.underlying9 (Kd.own_of_R HO370.out); have hcv14d := fun m_ => own_string (P := Try.prog) Try.underlying38 Try.underlying5 Try.underlying9 (Kd.own_of_R (Kd.R_drewN HO370.out m_))) | ((with_reducible refine gate_callee (f := 53) rfl ?_); refine goesL_ (some 12) rfl rfl Try.func53 (by kernel_rfl) rfl #[.string a0] rfl (by (try simp only [List.map_toArray, List.map_cons, List.map_nil]); first | done | rfl | (simp only [List.length_drop, List.length_take]; rfl)) ?_; (with_reducible refine (wagtailref15_Get.calls a0 t371 t372 t373 t374 t375 t376 t377 t378 false _ A6.out).mono ?_); rintro e w15 ⟨rfl, hb⟩; refine ⟨_, rfl, ?_⟩; have n0_ := aK (Kd.R_below (by (with_reducible repeat (first | apply Kd.R_alloc | apply Kd.R_drewN | apply Kd.R_drew)); exact HO370.out) hb); have n1_ := aK (below_step (by repeat (first | (with_reducible first | exact HB.out | apply below_alloc | apply pw_below_drewN | apply below_drew1) | exact HB.out)) hb); clear HO370; clear HB; have HO370 := n0_; have HB := n1_; clear n0_ n1_; (try clear hb); (try clear hb2); (try clear hk); (try clear hi)) | ((with_reducible refine gate_dst (N := 3) rfl ?_); refine box_event ?hg (N := 3) ?hd (cs := #[.int .i64 0, .int .i64 0, .int .i64 0, .int .u64 0, .int .u64 0, .int .i64 0, .int .i64 0]) (t := 82) ?hr ?_; (case hd => rfl); (case hg => rfl); (case hr => first | (go_simp; done) | (go_simp; rfl)); intro gb380 hg w16 hbox hb; have n0_ := aK (Kd.R_below (by (with_reducible repeat (first | apply Kd.R_alloc | apply Kd.R_drewN | apply Kd.R_drew)); exact HO370.out) hb); have n1_ := aK (below_step (by repeat (first | (with_reducible first | exact HB.out | apply below_alloc | apply pw_below_drewN | apply below_drew1) | exact HB.out)) hb); have n2_ := aK (hbox); have n3_ := aK ((by rw [hg]; exact (below_size (by repeat (first | (with_reducible first | exact HB.out | apply below_alloc | apply pw_below_drewN | apply below_drew1) | exact HB.out))) : w.heap.size ≤ gb380)); have n4_ := aK ((by rw [hg]; exact (below_size (by repeat (first | (with_reducible first | exact HB.out | apply below_alloc | apply pw_below_drewN | apply below_drew1) | exact HB.out))) : w.heap.size ≤ gb380)); clear HO370; clear HB; have HO370 := n0_; have HB := n1_; have BK380 := n2_; have GW380 := n3_; have GE380 := n4_; clear n0_ n1_ n2_ n3_ n4_; clear hb hbox hg; have hcz17_0 : w16.cell? ⟨gb380, 0, none⟩ = some (.int .i64 0) := (blk_cell BK380.out 0).trans rfl; have hcz17_1 : w16.cell? ⟨gb380, 1, none⟩ = some (.int .i64 0) := (blk_cell BK380.out 1).trans rfl; have hcz17_2 : w16.cell? ⟨gb380, 2, none⟩ = some (.int .i64 0) := (blk_cell BK380.out 2).trans rfl; have hcz17_3 : w16.cell? ⟨gb380, 3, none⟩ = some (.int .u64 0) := (blk_cell BK380.out 3).trans rfl; have hcz17_4 : w16.cell? ⟨gb380, 4, none⟩ = some (.int .u64 0) := (blk_cell BK380.out 4).trans rfl; have hcz17_5 : w16.cell? ⟨gb380, 5, none⟩ = some (.int .i64 0) := (blk_cell BK380.out 5).trans rfl; have hcz17_6 : w16.cell? ⟨gb380, 6, none⟩ = some (.int .i64 0) := (blk_cell BK380.out 6).trans rfl; have hfz17_0 := blk_frozen BK380.out 0; have hfz17_1 := blk_frozen BK380.out 1; have hfz17_2 := blk_frozen BK380.out 2; have hfz17_3 := blk_frozen BK380.out 3; have hfz17_4 := blk_frozen BK380.out 4; have hfz17_5 := blk_frozen BK380.out 5; have hfz17_6 := blk_frozen BK380.out 6))
   go_ret; exact ⟨by first | rfl | (simp [errW_none, errW_some] <;> rfl) | (simp [*, errW_none, errW_some] <;> rfl), by repeat (first | (with_reducible first | exact HB.out | apply below_alloc | apply pw_below_drewN | apply below_drew1 | refine below_set ?_ GE380.out) | exact HB.out)⟩
end Go.Proofs.Ytnchdmidaigheaa.Hp
namespace Go.Proofs.Ytnchdmidaigheaa.PG
set_option linter.unusedVariables false
open Go.RowKit Go.Proofs.Ytnchdmidaigheaa.Hp Go.Proofs.YtnchdmidaigheaaW.PrintWords Go.Proofs.YtnchdmidaigheaaW.PrintLast
theorem w64 {x : Int} (h : -9223372036854775808 ≤ x ∧ x ≤ 9223372036854775807) : wrap64 x = x := by unfold wrap64; omega
theorem getD_range (m : List Int) (hm : isBytes m) (i : Nat) : 0 ≤ m.getD i 0 ∧ m.getD i 0 ≤ 255 := rd_range m hm i
theorem zsum_take (b : List Int) (j : Nat) (h : j < b.length) : zsum (b.take (j + 1)) = zsum (b.take j) + zbits (b.getD j 0) := wagtailref15_Put.zsum_snoc b j h
theorem zbits_range (c : Int) : 0 ≤ zbits c ∧ zbits c ≤ 8 := by unfold zbits; omega
theorem zsum_range (b : List Int) : 0 ≤ zsum b ∧ zsum b ≤ 8 * b.length := wagtailref15_Put.zsum_range b
theorem pcount_loop (b : List Int) (hb : isBytes b) (hl : b.length ≤ 100000) (d : Nat) : ∀ (i : Nat), i + d = b.length →
  Ev (fun k => zeros_Count.l0 k (zsum (b.take i)) b (b.length : Int) (i : Int)) (zsum b) := by
 induction d with
 | zero =>
  intro i hi; obtain rfl : i = b.length := by omega
  refine Ev.step (f := fun _ => some (zsum b)) (fun k => ?_) (Ev.now _); simp only [zeros_Count.l0]; rw [if_neg (by omega), List.take_length]
 | succ d ih =>
  intro i hi; have hr := getD_range b hb i; have hz := zbits_range (b.getD i 0); have hs := zsum_range (b.take i); rw [List.length_take] at hs; refine Ev.step (fun k => ?_) (ih (i + 1) (by omega)); simp only [zeros_Count.l0]; rw [if_pos (by omega), if_pos (by omega), if_pos (by omega)]; have e : zeros_count.f (rd b (i : Int)) = some (zbits (b.getD i 0)) := by
   unfold zeros_count.f
   show (if 0 ≤ b.getD (i : Int).toNat 0 ∧ b.getD (i : Int).toNat 0 ≤ 255 then some (zbits (b.getD (i : Int).toNat 0)) else none) = _
   rw [Int.toNat_natCast, if_pos hr]
  rw [e]; simp only [Option.bind_some]; rw [w64 (by omega), w64 (by omega), zsum_take b i (by omega)]; rfl
theorem pcount_ev (b : List Int) (hb : isBytes b) (hl : b.length ≤ 100000) : Ev (fun k => zeros_Count.f k b) (zsum b) := by
 have h := pcount_loop b hb hl b.length 0 (by omega); exact Ev.congr (fun k => by simp [zeros_Count.f, zsum]) h
theorem ones_loop (n : Nat) (hn : n ≤ 2000000) : ∀ d i : Nat, i + d = n → Ev (fun k => wagtailref02_Ones.l0 k (n : Int) (List.replicate i 255) (i : Int)) (List.replicate n 255) := by
 intro d
 induction d with
 | zero =>
  intro i hi; obtain rfl : i = n := by omega
  refine Ev.step (fun k => ?_) (Ev.now _); simp only [wagtailref02_Ones.l0]; rw [if_neg (by omega)]
 | succ d ih =>
  intro i hi; have hw : wrap64 ((i : Int) + 1) = ((i + 1 : Nat) : Int) := by rw [w64 (by omega)]; omega
  refine Ev.step (fun k => ?_) (ih (i + 1) (by omega)); simp only [wagtailref02_Ones.l0]; rw [if_pos (by omega), if_pos (by rw [List.length_replicate]; omega), hw, List.replicate_succ']
theorem ones_ev (n : Nat) (hn : n ≤ 2000000) : Ev (fun k => wagtailref02_Ones.f k (n : Int)) (List.replicate n 255) := ones_loop n hn n 0 (by omega)
theorem pones_loop (n : Nat) (hn : n ≤ 2000000) : ∀ d i : Nat, i + d = n → Ev (fun k => zeros_Ones.l0 k (List.replicate i 255) (n : Int) (i : Int)) (List.replicate n 255) := by
 intro d
 induction d with
 | zero =>
  intro i hi; obtain rfl : i = n := by omega
  refine Ev.step (fun k => ?_) (Ev.now _); simp only [zeros_Ones.l0]; rw [if_neg (by omega)]
 | succ d ih =>
  intro i hi; have hw : wrap64 ((i : Int) + 1) = ((i + 1 : Nat) : Int) := by rw [w64 (by omega)]; omega
  refine Ev.step (fun k => ?_) (ih (i + 1) (by omega)); simp only [zeros_Ones.l0]; rw [if_pos (by omega), if_pos (by rw [List.length_replicate]; omega), hw, List.replicate_succ']
theorem pones_ev (n : Nat) (hn : n ≤ 1048576) : Ev (fun k => zeros_Ones.f k (n : Int)) (List.replicate n 255) := by
 have := pones_loop n (by omega) n 0 (by omega); unfold zeros_Ones.f; rw [show mn (n : Int) 1048576 = (n : Int) by unfold mn; rw [if_neg (by omega)]]; exact this
theorem put_loop (n : Int) (h0 : 0 ≤ n) (h1 : n < 18446744073709551616) : ∀ (i : Nat) (acc : List Int), i ≤ 8 → acc.length + i ≤ 100000 → Ev (fun k => be_Put.l0 k n acc ((i : Int) - 1)) (acc ++ beBytes i n) := by
 intro i
 induction i with
 | zero =>
  intro acc _ _; refine Ev.step (f := fun _ => some (acc ++ beBytes 0 n)) (fun k => ?_) (Ev.now _); simp only [be_Put.l0]; rw [if_neg (by omega)]; simp [beBytes]
 | succ i ih =>
  intro acc hi hl; refine Ev.step (fun k => ?_) (by
   have := ih (acc ++ [n / 256 ^ i % 256]) (by omega) (by simp; omega)
   rwa [List.append_assoc, List.singleton_append, ← beBytes_succ] at this)
  simp only [be_Put.l0]; have e1 : ((i + 1 : Nat) : Int) - 1 = (i : Int) := by omega
  rw [e1, w64 (x := 8 * (i : Int)) (by omega), if_pos (show (i : Int) ≥ 0 by omega), if_pos (show 0 ≤ 8 * (i : Int) by omega), if_pos (show acc.length < 140737488355328 by omega), shr_byte n h0 h1 i (by omega), w64 (x := (i : Int) - 1) (by omega)]
theorem be_put_ev (l : List Int) (hl : l.length ≤ 10000) (n : Int) (h0 : 0 ≤ n) (h1 : n < 18446744073709551616) : Ev (fun k => be_Put.f k l 4 n) (l ++ beBytes 4 n) := by
 refine Ev.congr (fun k => ?_) (put_loop n h0 h1 4 l (by omega) (by omega)); unfold be_Put.f; rw [if_pos (show ([] : List Int).length + l.length < 140737488355328 by simp; omega)]; unfold be_width.f; simp only [Option.bind_some, List.nil_append]; rw [show mn (mx 4 0) 8 = 4 from by decide, show wrap64 (4 - 1) = ((4 : Nat) : Int) - 1 from by unfold wrap64; omega]
theorem seal_ev (l : List Int) (hb : isBytes l) (hl : l.length = 252) : Ev (fun k => page_Seal.f k l) (l ++ beBytes 4 (zsum l)) := by
 have hz := zsum_range l; have e : IntKind.u64.wrap (zsum l) = zsum l := by rw [IntKind.wrap_u64]; omega
 unfold page_Seal.f; simp only [if_pos (show (l.length : Int) = 252 by omega)]; refine Ev.bind (pcount_ev l hb (by omega)) ?_; rw [e]; exact Ev.bind (be_put_ev l (by omega) (zsum l) hz.1 (by omega)) (Ev.now _)
def pageL (k i c b o l n : Int) (d : List Int) : List Int := pageBody k i c b o l n d ++ beBytes 4 (zsum (pageBody k i c b o l n d))
theorem head_len (k i c b o l n : Int) : (pageHead k i c b o l n).length = 24 := by simp [pageHead, beBytes_len]
theorem body_len (k i c b o l n : Int) (d : List Int) (h : d.length ≤ 228) : (pageBody k i c b o l n d).length = 252 := by
 unfold pageBody; simp only [List.length_append, head_len, List.length_replicate]; omega
theorem body_bytes (k i c b o l n : Int) (d : List Int) (hd : isBytes d) : isBytes (pageBody k i c b o l n d) := wagtailref15_Put.pageBody_bytes k i c b o l n d hd
theorem page_len (k i c b o l n : Int) (d : List Int) (h : d.length ≤ 228) : (pageL k i c b o l n d).length = 256 := by
 unfold pageL; rw [List.length_append, body_len k i c b o l n d h, beBytes_len]
theorem page_bytes (k i c b o l n : Int) (d : List Int) (hd : isBytes d) : isBytes (pageL k i c b o l n d) := by
 intro x hx
 rcases List.mem_append.1 hx with h | h
 ·
  exact body_bytes k i c b o l n d hd x h
 ·
  exact wagtailref15_Put.beBytes_isBytes _ _ x h
theorem row_head (k i c b o l n : Int) : beRow [1, IntKind.u64.wrap k, 1, IntKind.u64.wrap i, 1, IntKind.u64.wrap c, 1, 0, 8, b, 8, o, 2, IntKind.u64.wrap l, 2, IntKind.u64.wrap n] = pageHead k i c b o l n := by
 have h1 : ∀ x : Int, beBytes 1 x = [x % 256] := fun x => by simp [beBytes]
 simp only [beRow, show wid (mn 1 8) = 1 from by decide, show wid (mn 8 8) = 8 from by decide, show wid (mn 2 8) = 2 from by decide, h1, IntKind.wrap_u64]; unfold pageHead; have e : ∀ x : Int, x % 18446744073709551616 % 256 = x % 256 := fun x => by omega
 simp [e]
theorem pput_ev (k i c b o l n : Int) (d : ByteArray) (hm : headMay k i c b o l n = true) (hb : 0 ≤ b) (ho : 0 ≤ o) (hd : (d.size : Int) = n) :
  Ev (fun r => page_Put.f r k i c b o l n d) (pageL k i c b o l n (bytesOf d), 0) := by
 have hrg := wagtailref15_Put.headMay_range hm; have hdl : (bytesOf d).length = d.size := bytesOf_length d; have hdb := wagtailref15_Put.bytes_isBytes d; have hrow : be_Row.f [1, IntKind.u64.wrap k, 1, IntKind.u64.wrap i, 1, IntKind.u64.wrap c, 1, 0, 8, b, 8, o, 2, IntKind.u64.wrap l, 2, IntKind.u64.wrap n] = some (pageHead k i c b o l n) := by
  unfold be_Row.f; rw [if_pos, row_head]; refine ⟨by simp, by simp, fun j hj => ?_⟩; simp only [IntKind.wrap_u64]; have hj : j < 16 := by simpa using hj
  have : j = 0 ∨ j = 1 ∨ j = 2 ∨ j = 3 ∨ j = 4 ∨ j = 5 ∨ j = 6 ∨ j = 7 ∨ j = 8 ∨ j = 9 ∨ j = 10 ∨ j = 11 ∨ j = 12 ∨ j = 13 ∨ j = 14 ∨ j = 15 := by omega
  rcases this with rfl | rfl | rfl | rfl | rfl | rfl | rfl | rfl | rfl | rfl | rfl | rfl | rfl | rfl | rfl | rfl <;> simp only [List.getD_cons_zero, List.getD_cons_succ] <;> omega
 unfold page_Put.f page_Check.f; simp only [Option.bind_some, hm, if_true]; rw [show ((d.size : Int) != n) = false by simp [hd]]; refine Ev.step (f := fun r => (zeros_Ones.f r ((252 - (24 + d.size) : Nat) : Int)).bind fun t => (page_Seal.f r ((pageHead k i c b o l n ++ bytesOf d) ++ t)).bind fun t2 => if (pageHead k i c b o l n ++ bytesOf d).length + t.length < 140737488355328 then some (t2, (0 : Int)) else none) (fun r => ?_) ?_
 ·
  simp only [page_Put.j0, Bool.false_eq_true, if_false, hrow, Option.bind_some]; rw [if_pos (by rw [head_len]; omega)]; have e : wrap64 (252 - ((pageHead k i c b o l n ++ bytesOf d).length : Int)) = ((252 - (24 + d.size) : Nat) : Int) := by
   rw [List.length_append, head_len, hdl, w64 (by omega)]; omega
  rw [e]
  congr 1
  funext t
  by_cases h : (pageHead k i c b o l n ++ bytesOf d).length + t.length < 140737488355328
  ·
   simp only [if_pos h]
  ·
   simp only [if_neg h]
   cases page_Seal.f r (pageHead k i c b o l n ++ bytesOf d ++ t) <;> rfl
 ·
  refine Ev.bind (pones_ev _ (by omega)) ?_; refine Ev.bind (a := pageL k i c b o l n (bytesOf d)) ?_ ?_
  ·
   have h1 := seal_ev (pageBody k i c b o l n (bytesOf d)) (body_bytes k i c b o l n _ hdb) (body_len k i c b o l n _ (by omega)); unfold pageL; unfold pageBody at h1 ⊢; rw [hdl] at h1 ⊢; exact h1
  ·
   rw [if_pos (by simp only [List.length_append, head_len, List.length_replicate, hdl]; omega)]; exact Ev.now _
theorem pput_bad (k i c b o l n : Int) (d : ByteArray) (h : headMay k i c b o l n = false ∨ (d.size : Int) ≠ n) : Ev (fun r => page_Put.f r k i c b o l n d) ([], 3) := by
 have key : Ev (fun r => page_Put.j0 r d true k i c b o l n) (([], 3) : List Int × Int) := by
  refine Ev.step (f := fun _ => some (([], 3) : List Int × Int)) (fun r => ?_) (Ev.now _); simp only [page_Put.j0, if_true]
 unfold page_Put.f page_Check.f; simp only [Option.bind_some]; by_cases hm : headMay k i c b o l n = true
 ·
  have hs : (d.size : Int) ≠ n := by rcases h with h | h; rw [hm] at h; cases h; exact h
  simp only [hm, if_true]; rw [show ((d.size : Int) != n) = true by simpa using hs]; exact key
 ·
  have hm : headMay k i c b o l n = false := by simpa using hm
  simp only [hm, Bool.false_eq_true, if_false]; exact Ev.congr (fun r => if_neg (by decide)) key
theorem zbits_zero_nat : ∀ n : Nat, n < 256 → zbits (n : Int) = 0 → (n : Int) = 255 := by decide +kernel
theorem zbits_zero (c : Int) (h0 : 0 ≤ c) (h1 : c ≤ 255) (h : zbits c = 0) : c = 255 := by
 obtain ⟨n, rfl⟩ := Int.eq_ofNat_of_zero_le h0; exact zbits_zero_nat n (by omega) h
theorem zsum_zero : ∀ (l : List Int), isBytes l → zsum l = 0 → l = List.replicate l.length 255
 | [], _, _ => rfl
 | a :: l, hb, h => by
  have ha := hb a (by simp); have h1 := zbits_range a; have h2 := zsum_range l; have h3 : zsum (a :: l) = zbits a + zsum l := by simp [zsum]
  have e1 := zbits_zero a ha.1 ha.2 (by omega); have e2 := zsum_zero l (fun x hx => hb x (by simp [hx])) (by omega); rw [List.length_cons, List.replicate_succ, ← e2, e1]
theorem zsum_ones (n : Nat) : zsum (List.replicate n 255) = 0 := by
 induction n with
 | zero => rfl
 | succ n ih =>
  have : zsum (List.replicate (n + 1) 255) = zbits 255 + zsum (List.replicate n 255) := by simp [zsum, List.replicate_succ]
  rw [this, ih]
  decide
theorem blank_ev (l : List Int) (hb : isBytes l) (hl : l.length ≤ 100000) : Ev (fun k => zeros_Blank.f k l) (zsum l == 0) := by
 unfold zeros_Blank.f; exact Ev.bind (pcount_ev l hb hl) (Ev.now _)
def datL (l : List Int) : List Int := (l.drop 24).take (beNum l 22 2).toNat
def mayL (l : List Int) : Bool := headMay (rd l 0) (rd l 1) (rd l 2) (beNum l 4 8) (beNum l 12 8) (beNum l 20 2) (beNum l 22 2)
def anew (l : List Int) : List Int := pageL (rd l 0) (rd l 1) (rd l 2) (beNum l 4 8) (beNum l 12 8) (beNum l 20 2) (beNum l 22 2) (datL l)
def rightL (l : List Int) : Bool := mayL l && decide (anew l = l)
def cls (l : List Int) : Int := if l.length = 256 then (if l = List.replicate 256 255 then 0 else if rightL l = true then 1 else 2) else 2
theorem num1 (l : List Int) (hb : isBytes l) (hl : l.length = 256) (a : Nat) (ha : a < 256) : numOf l a 1 = rd l a := by
 have h := rd_range l hb a; unfold numOf beNum
 show (0 * 256 + byteAt l (a + (0 : Nat))) % 4294967296 = _
 rw [show ((a : Int) + ((0 : Nat) : Int)) = (a : Int) by omega]; have e : byteAt l (a : Int) = rd l a := by
  unfold byteAt; rw [if_neg (by omega)]; rfl
 rw [e]; omega
theorem num2 (l : List Int) (hb : isBytes l) (a : Int) : numOf l a 2 = beNum l a 2 := by
 have h : 0 ≤ beNum l a 2 ∧ beNum l a 2 < 65536 := bePre_range l hb a 2; unfold numOf; omega
theorem num_wide (l : List Int) (hb : isBytes l) (a : Int) : 0 ≤ beNum l a 8 := (bePre_range l hb a 8).1
theorem datL_bytes (l : List Int) (hb : isBytes l) : isBytes (datL l) := fun x hx => hb x (List.mem_of_mem_drop (List.mem_of_mem_take hx))
theorem dataOf_bytes (l : List Int) (hb : isBytes l) : isBytes (dataOf l) := fun x hx => hb x (List.mem_of_mem_drop (List.mem_of_mem_take hx))
theorem may_n (l : List Int) (h : mayL l = true) : 0 ≤ beNum l 22 2 ∧ beNum l 22 2 ≤ 228 := (wagtailref15_Put.headMay_range h).2.2.2.2.2.2
theorem datL_len (l : List Int) (hl : l.length = 256) (h : mayL l = true) : ((datL l).length : Int) = beNum l 22 2 := by
 have := may_n l h; unfold datL; rw [List.length_take, List.length_drop]; omega
theorem dataOf_datL (l : List Int) (hb : isBytes l) (h : mayL l = true) : dataOf l = datL l := by
 have := may_n l h; unfold dataOf datL; rw [num2 l hb]
 congr 1
 unfold mn; rw [if_neg (by omega)]; omega
theorem read_val (l : List Int) (hb : isBytes l) (hl : l.length = 256) : page_read.f l = some (rd l 0, rd l 1, rd l 2, beNum l 4 8, beNum l 12 8, beNum l 20 2, beNum l 22 2, strOfNums (dataOf l)) := by
 unfold page_read.f; rw [if_pos ⟨hb, hl⟩, num2 l hb, num2 l hb]; have e0 := num1 l hb hl 0 (by omega); have e1 := num1 l hb hl 1 (by omega); have e2 := num1 l hb hl 2 (by omega); rw [show numOf l 0 1 = rd l 0 from e0, show numOf l 1 1 = rd l 1 from e1, show numOf l 2 1 = rd l 2 from e2]
theorem str_inj {a b : List Int} (ha : isBytes a) (hb : isBytes b) (h : strOfNums a = strOfNums b) : a = b := by
 rw [← wagtailref15_Put.bytesOf_str a ha, h, wagtailref15_Put.bytesOf_str b hb]
theorem toList_inj {a b : ByteArray} (h : a.toList = b.toList) : a = b := by
 rw [ByteArray.toList_eq, ByteArray.toList_eq] at h; exact ByteArray.ext (Array.ext' h)
theorem class_ev (l : List Int) (hb : isBytes l) (hl : l.length ≤ 100000) : Ev (fun k => page_Class.f k l) (cls l) := by
 unfold page_Class.f cls; by_cases h : l.length = 256
 ·
  simp only [if_pos h, if_pos (show (l.length : Int) = 256 by omega)]; refine Ev.bind (blank_ev l hb hl) ?_; by_cases hz : l = List.replicate 256 255
  ·
   rw [if_pos hz]; refine Ev.congr (fun k => if_pos ?_) (Ev.now _); rw [hz, zsum_ones]; rfl
  ·
   rw [if_neg hz]; refine Ev.congr (f := fun k => (page_read.f l).bind fun bt340 => ((page_Put.f k bt340.1 bt340.2.1 bt340.2.2.1 bt340.2.2.2.1 bt340.2.2.2.2.1 bt340.2.2.2.2.2.1 bt340.2.2.2.2.2.2.1 bt340.2.2.2.2.2.2.2).bind fun bt348 => (if bt348.2 = 0 then (if (strOfNums bt348.1).toList = (strOfNums l).toList then (some 1) else (some 2)) else (some 2)))) (fun k => if_neg ?_) ?_
   ·
    intro h2; have := zsum_zero l hb (by simpa using h2); rw [h] at this; exact hz this
   rw [read_val l hb h]; simp only [Option.bind_some]; by_cases hm : mayL l = true
   ·
    have hd := dataOf_datL l hb hm; have hlen := datL_len l h hm; have hp := pput_ev (rd l 0) (rd l 1) (rd l 2) (beNum l 4 8) (beNum l 12 8) (beNum l 20 2) (beNum l 22 2) (strOfNums (dataOf l)) hm (num_wide l hb 4) (num_wide l hb 12) (by rw [hd, wagtailref15_Put.str_size]; exact hlen); rw [wagtailref15_Put.bytesOf_str _ (dataOf_bytes l hb), hd] at hp; rw [hd]; refine Ev.bind hp ?_; rw [if_pos rfl]; unfold rightL; rw [hm, Bool.true_and]; by_cases he : anew l = l
    ·
     rw [if_pos (decide_eq_true he)]; refine Ev.congr (fun k => if_pos ?_) (Ev.now _)
     show (strOfNums (anew l)).toList = _
     rw [he]
    ·
     rw [if_neg (show ¬ (decide (anew l = l) = true) by rw [decide_eq_false he]; decide)]; refine Ev.congr (fun k => if_neg ?_) (Ev.now _); intro h2; exact he (str_inj (page_bytes _ _ _ _ _ _ _ _ (datL_bytes l hb)) hb (toList_inj h2))
   ·
    have hp := pput_bad (rd l 0) (rd l 1) (rd l 2) (beNum l 4 8) (beNum l 12 8) (beNum l 20 2) (beNum l 22 2) (strOfNums (dataOf l)) (.inl (by simpa [mayL] using hm)); refine Ev.bind hp ?_; rw [if_neg (show ¬ rightL l = true by unfold rightL; simp [hm])]; exact Ev.congr (fun k => if_neg (by decide)) (Ev.now _)
 ·
  rw [if_neg h]; exact Ev.congr (fun k => if_neg (by omega)) (Ev.now _)
theorem rget_val (l : List Int) (hb : isBytes l) : wagtailref15_Get.f (strOfNums l) = if l.length = 256 ∧ rightL l = true then some (rd l 0, rd l 1, rd l 2, beNum l 4 8, beNum l 12 8, beNum l 20 2, beNum l 22 2, strOfNums (datL l), true) else wagtailref15_Get.z := by
 unfold wagtailref15_Get.f; rw [wagtailref15_Put.str_size, wagtailref15_Put.bytesOf_str l hb]; by_cases h : l.length = 256
 ·
  rw [if_pos h]; unfold wagtailref15_Get.g
  show (if mayL l = true then (if strOfNums (pageBody _ _ _ _ _ _ _ (bytesOf (strOfNums (datL l))) ++ beBytes 4 (zsum (pageBody _ _ _ _ _ _ _ (bytesOf (strOfNums (datL l)))))) = _ then _ else _) else _) = _
  rw [wagtailref15_Put.bytesOf_str _ (datL_bytes l hb)]
  show (if mayL l = true then (if strOfNums (anew l) = strOfNums l then _ else _) else _) = _
  unfold rightL; by_cases hm : mayL l = true
  ·
   rw [if_pos hm, hm, Bool.true_and]; by_cases he : anew l = l
   ·
    rw [if_pos (by rw [he]), if_pos ⟨h, decide_eq_true he⟩]; rfl
   ·
    rw [if_neg (fun h2 => he (str_inj (page_bytes _ _ _ _ _ _ _ _ (datL_bytes l hb)) hb h2)), if_neg (fun h2 => he (of_decide_eq_true h2.2))]
  ·
   rw [if_neg hm, if_neg (by simp [hm])]
 ·
  rw [if_neg h, if_neg (fun h2 => h h2.1)]
theorem rclass_ev (l : List Int) (hb : isBytes l) : Ev (fun k => wagtailref15_Class.f k (strOfNums l)) (cls l) := by
 unfold wagtailref15_Class.f; refine Ev.bind (ones_ev 256 (by omega)) ?_; by_cases hz : l = List.replicate 256 255
 ·
  refine Ev.congr (f := fun _ => some (cls l)) (fun k => ?_) (Ev.now _); rw [if_pos (by rw [hz])]; unfold cls; rw [if_pos (show l.length = 256 by rw [hz, List.length_replicate]), if_pos hz]
 ·
  refine Ev.congr (f := fun _ => some (cls l)) (fun k => ?_) (Ev.now _); rw [if_neg (fun h => hz (str_inj hb (fun x hx => by rw [List.eq_of_mem_replicate hx]; omega) (toList_inj h))), rget_val l hb]; unfold cls; by_cases h : l.length = 256
  ·
   rw [if_pos h, if_neg hz]; by_cases hr : rightL l = true
   ·
    rw [if_pos ⟨h, hr⟩, if_pos hr]; rfl
   ·
    rw [if_neg (fun h2 => hr h2.2), if_neg hr]; rfl
  ·
   rw [if_neg (fun h2 => h h2.1), if_neg h]; rfl
def getOf (l : List Int) : Int × Int × Int × Int × Int × Int × Int × ByteArray × Int :=
 if cls l = 0 then (0, 0, 0, 0, 0, 0, 0, (⟨#[]⟩ : ByteArray), 8) else if cls l = 2 then (0, 0, 0, 0, 0, 0, 0, (⟨#[]⟩ : ByteArray), 6) else (rd l 0, rd l 1, rd l 2, beNum l 4 8, beNum l 12 8, beNum l 20 2, beNum l 22 2, strOfNums (datL l), 0)
theorem get_ev (l : List Int) (hb : isBytes l) (hl : l.length ≤ 100000) : Ev (fun k => page_Get.f k l) (getOf l) := by
 unfold page_Get.f; refine Ev.bind (class_ev l hb hl) ?_; unfold getOf; by_cases h0 : cls l = 0
 ·
  simp only [h0, if_true]; exact Ev.now _
 by_cases h2 : cls l = 2
 ·
  simp only [if_neg h0, if_pos h2]; exact Ev.now _
 simp only [if_neg h0, if_neg h2]; have h : l.length = 256 := by
  unfold cls at h2; by_cases h : l.length = 256
  ·
   exact h
  ·
   rw [if_neg h] at h2; exact absurd rfl h2
 have hm : mayL l = true := by
  unfold cls at h0 h2; rw [if_pos h] at h0 h2; by_cases hz : l = List.replicate 256 255
  ·
   rw [if_pos hz] at h0; exact absurd rfl h0
  ·
   rw [if_neg hz] at h2; by_cases hr : rightL l = true
   ·
    unfold rightL at hr; simp at hr; exact hr.1
   ·
    rw [if_neg hr] at h2; exact absurd rfl h2
 rw [read_val l hb h, dataOf_datL l hb hm]; exact Ev.now _
end Go.Proofs.Ytnchdmidaigheaa.PG
namespace Go.Proofs.Ytnchdmidaigheaa.PG
set_option linter.unusedVariables false
open Go.RowKit Go.Proofs.Ytnchdmidaigheaa.Hp Go.Proofs.YtnchdmidaigheaaW.PrintWords Go.Proofs.YtnchdmidaigheaaW.PrintLast
theorem may_calls (k i c b o l n : Int) (r : Bool) (hr : headMay k i c b o l n = r) (W : World) :
  Calls Try.prog 93 #[.agg #[.int .i64 k, .int .i64 i, .int .i64 c, .int .u64 b, .int .u64 o, .int .i64 l, .int .i64 n]] W fun e w' => e = .returned (.bool r) ∧ Below W.heap.size W w' :=
 wagtailref15_May.calls k i c b o l n r W ((wagtailref15_Get.may_head k i c b o l n).trans (congrArg some hr))
theorem rput_calls (k i c b o l n : Int) (d : ByteArray) (hm : headMay k i c b o l n = true) (hb : 0 ≤ b) (ho : 0 ≤ o) (hd : (d.size : Int) = n) (x : ByteArray) (hx : x = strOfNums (pageL k i c b o l n (bytesOf d))) (W : World) :
  Calls Try.prog 94 #[.agg #[.int .i64 k, .int .i64 i, .int .i64 c, .int .u64 b, .int .u64 o, .int .i64 l, .int .i64 n], .string d] W fun e w' => e = .returned (.string x) ∧ Below W.heap.size W w' := by
 have hrg := wagtailref15_Put.headMay_range hm; refine wagtailref15_Put.calls k i c b o l n d x W ?_; unfold wagtailref15_Put.f; rw [if_pos ⟨hm, hb, ho, by omega⟩, hx]; rfl
theorem get_calls (l : List Int) (hb : isBytes l) (hl : l.length ≤ 100000) (A : Option Addr) (cp : Nat) (hc : l.length ≤ cp) (r1 r2 r3 r4 r5 r6 r7 : Int) (r8 : ByteArray) (r9 : Int) (h : getOf l = (r1, r2, r3, r4, r5, r6, r7, r8, r9)) (W : World) (hC : Kd.C (Kd.int .u8) W A l.length l) :
  Calls Try.prog 90 #[.slice A l.length cp] W fun e w' => e = .returned (.tuple #[.agg #[.int .i64 r1, .int .i64 r2, .int .i64 r3, .int .u64 r4, .int .u64 r5, .int .i64 r6, .int .i64 r7], .string r8, .int .i64 r9]) ∧ Below W.heap.size W w' := by
 obtain ⟨K, hK⟩ := get_ev l hb hl; exact page_Get.calls K A cp l r1 r2 r3 r4 r5 r6 r7 r8 r9 W hC hc (by rw [← h]; exact hK K (Nat.le_refl _))
theorem class_calls (l : List Int) (hb : isBytes l) (hl : l.length ≤ 100000) (A : Option Addr) (cp : Nat) (hc : l.length ≤ cp) (r : Int) (h : cls l = r) (W : World) (hC : Kd.C (Kd.int .u8) W A l.length l) :
  Calls Try.prog 91 #[.slice A l.length cp] W fun e w' => e = .returned (.int .i64 r) ∧ Below W.heap.size W w' := by
 obtain ⟨K, hK⟩ := class_ev l hb hl; exact page_Class.calls K A cp l r W hC hc (by rw [← h]; exact hK K (Nat.le_refl _))
end Go.Proofs.Ytnchdmidaigheaa.PG
namespace Go.Proofs.Ytnchdmidaigheaa.ND
set_option linter.unusedVariables false
set_option linter.unusedSimpArgs false
open Go.RowKit Go.Proofs.Ytnchdmidaigheaa.Hp Go.Proofs.YtnchdmidaigheaaW.PrintWords Go.Proofs.YtnchdmidaigheaaW.PrintLast Go.Proofs.YtnchdmidaigheaaW.PrintMore
abbrev Flt := S65
structure Dv where
 B : Int
 P : Int
 C : Int
 bad : List Int
 pages : List (List Int)
 next : List Int
 wear : List Int
 faults : List Flt
 ops : Int
 down : Bool
def Dv.there (D : Dv) (b : Int) : Bool := decide (b ≥ 0) && decide (b < D.B)
def Dv.here (D : Dv) (b p : Int) : Bool := D.there b && (decide (p ≥ 0) && decide (p < D.P))
def Dv.mark (D : Dv) (b : Int) : Bool := D.bad.any fun x => x == b
def onF (f : Flt) (n : Int) : Bool := f.f0 == n && (f.f1 == 1 || f.f1 == 2)
def Dv.fault (D : Dv) : Int × List Int := match D.faults.find? fun f => onF f D.ops with
 | some f => (f.f1, f.f2)
 | none => (0, [255])
def ended (k : Int) : Int := if k = 1 then 10 else if k = 2 then 9 else 0
def Dv.idx (D : Dv) (b p : Int) : Nat := (b * D.P + p).toNat
def Dv.nextOf (D : Dv) (b : Int) : Int := if D.there b = true then D.next.getD b.toNat 0 else 0
def Dv.progD (D : Dv) (b p : Int) (l : List Int) : Dv := { D with pages := D.pages.set (D.idx b p) (progRow (D.pages.getD (D.idx b p) []) l D.fault.2), next := D.next.set b.toNat (p + 1), ops := wrap64 (D.ops + 1), down := D.fault.1 == 2 }
def Dv.prog (D : Dv) (b p : Int) (l : List Int) : Int × Dv :=
 if D.down = true then (9, D) else if D.here b p = false ∨ l.length ≠ 256 then (3, D) else if D.mark b = true then (12, D) else if D.next.getD b.toNat 0 ≠ p then (11, D) else (ended D.fault.1, D.progD b p l)
def wiped (D : Dv) (b : Int) (m : List Int) : List (List Int) := D.pages.mapIdx fun i x => if b * D.P ≤ (i : Int) ∧ (i : Int) < (b + 1) * D.P then wipeRow x m else x
def Dv.eraseD (D : Dv) (b : Int) : Dv := { D with pages := wiped D b D.fault.2, next := D.next.set b.toNat (if D.fault.1 = 0 then 0 else D.P), wear := D.wear.set b.toNat (wrap64 (D.wear.getD b.toNat 0 + 1)), ops := wrap64 (D.ops + 1), down := D.fault.1 == 2 }
def Dv.erase (D : Dv) (b : Int) : Int × Dv :=
 if D.down = true then (9, D) else if D.there b = false then (3, D) else if D.mark b = true then (12, D) else (ended D.fault.1, D.eraseD b)
def Dv.read (D : Dv) (b p : Int) : List Int × Int := if D.down = true then ([], 9) else if D.here b p = false then ([], 3) else (D.pages.getD (D.idx b p) [], 0)
def Dv.power (D : Dv) : Dv := { D with down := false }
structure Dv.Ok (D : Dv) : Prop where
 b1 : 8 ≤ D.B
 b2 : D.B ≤ 34
 p1 : 4 ≤ D.P
 p2 : D.P ≤ 32
 c1 : 0 ≤ D.C
 c2 : D.C ≤ 8
 pl : (D.pages.length : Int) = D.B * D.P
 pw : ∀ l ∈ D.pages, isBytes l ∧ l.length = 256
 nl : (D.next.length : Int) = D.B
 nr : ∀ n ∈ D.next, 0 ≤ n ∧ n ≤ D.P
 wl : (D.wear.length : Int) = D.B
 wr : ∀ n ∈ D.wear, -9223372036854775808 ≤ n ∧ n ≤ 9223372036854775807
 fl : D.faults.length ≤ 1000
 fm : ∀ f ∈ D.faults, isBytes f.f2 ∧ f.f2.length ≤ 1000
 bl : D.bad.length ≤ 1000
theorem there_iff {D : Dv} {b : Int} : D.there b = true ↔ 0 ≤ b ∧ b < D.B := by unfold Dv.there; simp
theorem here_iff {D : Dv} {b p : Int} : D.here b p = true ↔ (0 ≤ b ∧ b < D.B) ∧ 0 ≤ p ∧ p < D.P := by unfold Dv.here Dv.there; simp
theorem mul_lt_of {a b p P : Int} (ha : 0 ≤ a) (hb : a < b) (hp : 0 ≤ p) (hP : p < P) : 0 ≤ a * P + p ∧ a * P + p < b * P ∧ a * P + p < (a + 1) * P := by
 have h1 : 0 ≤ a * P := Int.mul_nonneg ha (by omega); have h2 : (a + 1) * P ≤ b * P := Int.mul_le_mul_of_nonneg_right (by omega) (by omega); rw [Int.add_mul, Int.one_mul] at h2; rw [Int.add_mul, Int.one_mul]; omega
theorem Dv.Ok.size {D : Dv} (h : D.Ok) : D.B * D.P ≤ 1088 ∧ 32 ≤ D.B * D.P := by
 have h1 : D.B * D.P ≤ 34 * D.P := Int.mul_le_mul_of_nonneg_right h.b2 (by have := h.p1; omega); have h2 : 8 * D.P ≤ D.B * D.P := Int.mul_le_mul_of_nonneg_right h.b1 (by have := h.p1; omega); have := h.p2; have := h.p1; omega
theorem Dv.Ok.idx {D : Dv} (h : D.Ok) {b p : Int} (hh : D.here b p = true) : (D.idx b p : Int) = b * D.P + p ∧ D.idx b p < D.pages.length := by
 obtain ⟨⟨h1, h2⟩, h3, h4⟩ := here_iff.1 hh; have := mul_lt_of h1 h2 h3 h4; have := h.pl; unfold Dv.idx; omega
theorem fault_mask {D : Dv} (h : D.Ok) : isBytes D.fault.2 ∧ D.fault.2.length ≤ 1000 := by
 unfold Dv.fault
 split
 ·
  rename_i f hf
  exact h.fm f (List.mem_of_find?_eq_some hf)
 ·
  exact ⟨fun x hx => by simp at hx; omega, by simp⟩
theorem fault_kind (D : Dv) : D.fault.1 = 0 ∨ D.fault.1 = 1 ∨ D.fault.1 = 2 := by
 unfold Dv.fault
 split
 ·
  rename_i f hf
  have := List.find?_some hf; unfold onF at this; simp only [Bool.and_eq_true, Bool.or_eq_true, beq_iff_eq] at this; exact .inr this.2
 ·
  exact .inl rfl
theorem progRow_ok {l b m : List Int} (hl : isBytes l) (hn : l.length = 256) : isBytes (progRow l b m) ∧ (progRow l b m).length = 256 := by
 unfold progRow; refine ⟨fun x hx => ?_, by rw [List.length_map, List.length_range, hn]⟩; obtain ⟨i, hi, rfl⟩ := List.mem_map.1 hx; have hr : 0 ≤ l.getD i 0 ∧ l.getD i 0 ≤ 255 := rd_range l hl i
 split
 ·
  unfold progByte; have : (l.getD i 0).toNat &&& ((b.getD i 0).toNat ||| (255 - (maskAt m i).toNat)) ≤ (l.getD i 0).toNat := Nat.and_le_left; omega
 ·
  exact hr
theorem wipeRow_ok {l m : List Int} (hl : isBytes l) (hm : isBytes m) (hn : l.length = 256) : isBytes (wipeRow l m) ∧ (wipeRow l m).length = 256 := by
 unfold wipeRow; refine ⟨fun x hx => ?_, by rw [List.length_map, List.length_range, hn]⟩; obtain ⟨i, hi, rfl⟩ := List.mem_map.1 hx; have hr : 0 ≤ l.getD i 0 ∧ l.getD i 0 ≤ 255 := rd_range l hl i; have hk := maskAt_range m hm i; have : (l.getD i 0).toNat ||| (maskAt m i).toNat < 2 ^ 8 := Nat.or_lt_two_pow (by omega) (by omega); omega
theorem page_ok {D : Dv} (h : D.Ok) {i : Nat} (hi : i < D.pages.length) : isBytes (D.pages.getD i []) ∧ (D.pages.getD i []).length = 256 := by
 rw [List.getD_eq_getElem?_getD, List.getElem?_eq_getElem hi]; exact h.pw _ (List.getElem_mem hi)
theorem wrap_id {x : Int} (h0 : -1000000 ≤ x) (h1 : x ≤ 1000000) : IntKind.i64.wrap x = x ∧ wrap64 x = x := by
 have e : wrap64 x = x := by unfold wrap64; omega
 exact ⟨by rw [i64_w]; exact e, e⟩
theorem wrap_range (x : Int) : -9223372036854775808 ≤ wrap64 x ∧ wrap64 x ≤ 9223372036854775807 := by unfold wrap64; omega
def newDv (B P C : Int) (bad : List Int) (fs : List Flt) : Dv := ⟨B, P, C, bad, List.replicate (B * P).toNat (List.replicate 256 255), List.replicate B.toNat 0, List.replicate B.toNat 0, fs, 0, false⟩
def rightG (B P C : Int) : Bool := within B 8 34 && (within P 4 32 && within C 0 8)
theorem newDv_ok {B P C : Int} (hg : rightG B P C = true) {bad : List Int} {fs : List Flt} (h1 : bad.length ≤ 1000) (h2 : fs.length ≤ 1000) (h3 : ∀ f ∈ fs, isBytes f.f2 ∧ f.f2.length ≤ 1000) : (newDv B P C bad fs).Ok := by
 unfold rightG within at hg; simp only [Bool.and_eq_true, decide_eq_true_eq] at hg; obtain ⟨⟨hb1, hb2⟩, ⟨hp1, hp2⟩, hc1, hc2⟩ := hg; have hn : 0 ≤ B * P := Int.mul_nonneg (by omega) (by omega); exact {
  b1 := hb1, b2 := hb2, p1 := hp1, p2 := hp2, c1 := hc1, c2 := hc2
  pl := by show ((List.replicate (B * P).toNat _).length : Int) = B * P; rw [List.length_replicate]; omega
  pw := fun x hx => by
   obtain ⟨_, rfl⟩ := List.mem_replicate.1 hx; exact ⟨fun y hy => by obtain ⟨_, rfl⟩ := List.mem_replicate.1 hy; omega, List.length_replicate⟩
  nl := by show ((List.replicate B.toNat _).length : Int) = B; rw [List.length_replicate]; omega
  nr := fun x hx => by obtain ⟨_, rfl⟩ := List.mem_replicate.1 hx; show (0 : Int) ≤ 0 ∧ 0 ≤ P; omega
  wl := by show ((List.replicate B.toNat _).length : Int) = B; rw [List.length_replicate]; omega
  wr := fun x hx => by obtain ⟨_, rfl⟩ := List.mem_replicate.1 hx; omega
  fl := h2, fm := h3, bl := h1 }
end Go.Proofs.Ytnchdmidaigheaa.ND
namespace Go.Proofs.Ytnchdmidaigheaa.ND
set_option linter.unusedVariables false
set_option linter.unusedSimpArgs false
open Go.RowKit Go.Proofs.Ytnchdmidaigheaa.Hp Go.Proofs.YtnchdmidaigheaaW.PrintWords Go.Proofs.YtnchdmidaigheaaW.PrintLast Go.Proofs.YtnchdmidaigheaaW.PrintMore
structure Turn (w W : World) (S : Nat → Prop) : Prop where
 os : W.os = w.os
 tape : W.tape = w.tape
 output : W.output = w.output
 size : w.heap.size ≤ W.heap.size
 block : ∀ k, k < w.heap.size → ¬ S k → W.heap[k]? = w.heap[k]?
theorem Turn.refl (w : World) (S : Nat → Prop) : Turn w w S := ⟨rfl, rfl, rfl, Nat.le_refl _, fun _ _ _ => rfl⟩
theorem Turn.of_below {w W : World} (h : Below w.heap.size w W) (S : Nat → Prop) : Turn w W S := ⟨h.os, h.tape, h.output, h.size, fun k hk _ => h.block k hk⟩
theorem Turn.mono {w W : World} {S S' : Nat → Prop} (h : Turn w W S) (hs : ∀ k, S k → S' k) : Turn w W S' := ⟨h.os, h.tape, h.output, h.size, fun k hk hn => h.block k hk (fun hS => hn (hs k hS))⟩
theorem Turn.trans {w W W2 : World} {S S2 : Nat → Prop} (h : Turn w W S) (k : Turn W W2 S2) (hs : ∀ k, S2 k → S k ∨ w.heap.size ≤ k) : Turn w W2 S :=
 ⟨k.os.trans h.os, k.tape.trans h.tape, k.output.trans h.output, Nat.le_trans h.size k.size, fun i hi hn => (k.block i (Nat.lt_of_lt_of_le hi h.size) (fun hS => by rcases hs i hS with h' | h'; exact hn h'; omega)).trans (h.block i hi hn)⟩
theorem Turn.below {w W W2 : World} {S : Nat → Prop} (h : Turn w W S) (hb : Below W.heap.size W W2) : Turn w W2 S := h.trans (Turn.of_below hb (fun _ => False)) (fun _ hk => hk.elim)
theorem Turn.grown {w W W2 : World} {S : Nat → Prop} {row : Option Nat} (h : Turn w W S) (hg : W.grownBy W2 row) (hr : ∀ k, row = some k → S k ∨ w.heap.size ≤ k) : Turn w W2 S :=
 h.trans (S2 := fun k => row = some k) ⟨hg.os, hg.tape, hg.output, hg.size, fun k hk hn => hg.block k hk (fun e => hn e.symm)⟩ (fun k hk => hr k hk)
theorem Turn.alloc {w W : World} {S : Nat → Prop} (h : Turn w W S) (o : Obj) : Turn w (W.alloc o) S := h.below (below_alloc (Below.refl _ _) o)
theorem Turn.setCell {w W : World} {S : Nat → Prop} (h : Turn w W S) {p : Addr} (hp : S p.block ∨ w.heap.size ≤ p.block) (u : Value) : Turn w (W.setCell p u) S :=
 h.trans (S2 := fun k => k = p.block) ⟨rfl, rfl, rfl, by simp, fun k _ hk => Below.heap_setCell W p u k hk⟩ (fun k hk => by rw [hk]; exact hp)
theorem Turn.to_below {w W w0 : World} {S : Nat → Prop} {B : Nat} (h : Turn w W S) (h0 : Below B w0 w) (hB : B ≤ w.heap.size) (hS : ∀ k, S k → B ≤ k) : Below B w0 W :=
 ⟨h.os.trans h0.os, h.tape.trans h0.tape, h.output.trans h0.output, Nat.le_trans h0.size h.size, fun k hk => (h.block k (Nat.lt_of_lt_of_le hk hB) (fun hs => by have := hS k hs; omega)).trans (h0.block k hk)⟩
theorem blk_turn {w W : World} {S : Nat → Prop} {g : Nat} {o : Obj} (hb : w.heap[g]? = some o) (h : Turn w W S) (hne : ¬ S g) : W.heap[g]? = some o := (h.block g (blk_lt hb) hne).trans hb
theorem F_turn {α : Type} {d : Kd α} {w W : World} {ok S : Nat → Prop} {A : Option Addr} {n : Nat} {xs : List α} (h : Kd.F d w ok A n xs) (ht : Turn w W S) (hne : ∀ k, ok k → k < w.heap.size → ¬ S k) : Kd.F d W ok A n xs := Kd.F_step h (fun k hk hlt => ht.block k hlt (hne k hk hlt))
def Cells (W : World) (g T : Nat) (vs : List Value) : Prop := ∃ cs : Array Value, W.heap[g]? = some (.cells cs T (0, 0)) ∧ ∀ (j : Nat) (v : Value), vs[j]? = some v → cs[j]? = some v
section
variable {W W' : World} {g T : Nat} {vs : List Value}
theorem Cells.mk' {cs : Array Value} (h : W.heap[g]? = some (.cells cs T (0, 0))) : Cells W g T cs.toList := ⟨cs, h, fun j v hv => by rwa [Array.getElem?_toList] at hv⟩
theorem Cells.lt (h : Cells W g T vs) : g < W.heap.size := by obtain ⟨cs, h, _⟩ := h; exact blk_lt h
theorem Cells.cell (h : Cells W g T vs) {i : Nat} {v : Value} (hv : vs[i]? = some v) : W.cell? ⟨g, i, none⟩ = some v := by
 obtain ⟨cs, h, hc⟩ := h; rw [blk_cell h]; exact hc i v hv
theorem Cells.frozen (h : Cells W g T vs) (i : Nat) : W.frozen? ⟨g, i, none⟩ = false := by obtain ⟨cs, h, _⟩ := h; exact blk_frozen h i
theorem Cells.same (h : Cells W g T vs) (he : W'.heap[g]? = W.heap[g]?) : Cells W' g T vs := by obtain ⟨cs, h, hc⟩ := h; exact ⟨cs, he.trans h, hc⟩
theorem Cells.below (h : Cells W g T vs) (hb : Below W.heap.size W W') : Cells W' g T vs := h.same (hb.block g h.lt)
theorem Cells.turn {S : Nat → Prop} (h : Cells W g T vs) (ht : Turn W W' S) (hne : ¬ S g) : Cells W' g T vs := h.same (ht.block g h.lt hne)
theorem Cells.far (h : Cells W g T vs) {p : Addr} (hne : g ≠ p.block) (u : Value) : Cells (W.setCell p u) g T vs := h.same (Below.heap_setCell W p u g hne)
theorem Cells.set (h : Cells W g T vs) (i : Nat) (u : Value) : Cells (W.setCell ⟨g, i, none⟩ u) g T (vs.set i u) := by
 obtain ⟨cs, h, hc⟩ := h; refine ⟨_, blk_set h i u, fun j v hv => ?_⟩; rw [List.getElem?_set] at hv; rw [Array.getElem?_setIfInBounds]; by_cases hij : i = j
 ·
  subst hij; rw [if_pos rfl] at hv; by_cases hl : i < vs.length
  ·
   rw [if_pos hl] at hv; have hs := hc i _ (List.getElem?_eq_getElem hl); rw [if_pos rfl, if_pos (Array.getElem?_eq_some_iff.1 hs).1]; exact hv
  ·
   rw [if_neg hl] at hv; cases hv
 ·
  rw [if_neg hij] at hv ⊢; exact hc j v hv
theorem Cells.of_own {base n c : Nat} (h : W.ownsRow base T 1 (.slice (some ⟨g, 0, none⟩) n c) n vs) : Cells W g T vs := by
 rcases h.2 with ⟨h', _⟩ | ⟨g', cap', cur, h', _, hg, _, _, _, htake⟩
 ·
  simp at h'
 ·
  simp only [Value.slice.injEq, Option.some.injEq, Addr.mk.injEq, and_true, true_and] at h'; obtain ⟨rfl, rfl⟩ := h'; refine ⟨cur, hg, fun j v hv => ?_⟩; rw [← htake, List.getElem?_take] at hv
  split at hv
  ·
   rwa [Array.getElem?_toList] at hv
  ·
   cases hv
end
end Go.Proofs.Ytnchdmidaigheaa.ND
namespace Go.Proofs.Ytnchdmidaigheaa.ND
set_option linter.unusedVariables false
set_option linter.unusedSimpArgs false
open Go.RowKit Go.Proofs.Ytnchdmidaigheaa.Hp Go.Proofs.YtnchdmidaigheaaW.PrintWords Go.Proofs.YtnchdmidaigheaaW.PrintLast Go.Proofs.YtnchdmidaigheaaW.PrintMore
structure Lay where
 g : Nat
 gm : Nat
 gp : Nat
 gn : Nat
 gw : Nat
 cm : Nat
 cp : Nat
 cn : Nat
 cw : Nat
 Af : Option Addr
 cf : Nat
def Lay.S (L : Lay) (k : Nat) : Prop := k = L.g ∨ k = L.gp ∨ k = L.gn ∨ k = L.gw
def Pages (W : World) (ok : Nat → Prop) (vs : List Value) (pages : List (List Int)) : Prop := vs.length = pages.length ∧ ∀ (i : Nat) (v : Value) (l : List Int), vs[i]? = some v → pages[i]? = some l → ∃ A c, v = .slice A 256 c ∧ 256 ≤ c ∧ Kd.F (Kd.int .u8) W ok A 256 l
def marks (D : Dv) : List Value := (List.range D.B.toNat).map fun (i : Nat) => .bool (D.mark (i : Int))
theorem marks_len (D : Dv) : (marks D).length = D.B.toNat := by unfold marks; rw [List.length_map, List.length_range]
def Lay.top (L : Lay) (D : Dv) : Array Value := #[.int .i64 D.B, .int .i64 D.P, .int .i64 D.C, .slice (some ⟨L.gm, 0, none⟩) (marks D).length L.cm, .slice (some ⟨L.gp, 0, none⟩) D.pages.length L.cp, .slice (some ⟨L.gn, 0, none⟩) D.next.length L.cn, .slice (some ⟨L.gw, 0, none⟩) D.wear.length L.cw, .slice L.Af D.faults.length L.cf, .int .i64 D.ops, .bool D.down]
structure DV (W : World) (ok : Nat → Prop) (L : Lay) (D : Dv) : Prop where
 top : W.heap[L.g]? = some (.cells (L.top D) 109 (0, 0))
 nx : Cells W L.gn 3 (D.next.map (Value.int .i64))
 we : Cells W L.gw 3 (D.wear.map (Value.int .i64))
 pg : ∃ vs, Cells W L.gp 38 vs ∧ Pages W ok vs D.pages
 mb : Cells W L.gm 4 (marks D)
 fl : Kd.F k65 W ok L.Af D.faults.length D.faults ∧ D.faults.length ≤ L.cf
 ne : L.gp ≠ L.g ∧ L.gn ≠ L.g ∧ L.gw ≠ L.g ∧ L.gp ≠ L.gn ∧ L.gp ≠ L.gw ∧ L.gn ≠ L.gw
 nm : ¬ L.S L.gm
 no : ∀ k, ok k → k < W.heap.size → ¬ L.S k
 ok : D.Ok
def Lay.all (L : Lay) (ok : Nat → Prop) (k : Nat) : Prop := ok k ∨ L.S k ∨ k = L.gm
theorem Pages.step {W W' : World} {ok : Nat → Prop} {vs : List Value} {pages : List (List Int)} (h : Pages W ok vs pages) (hm : ∀ k, ok k → k < W.heap.size → W'.heap[k]? = W.heap[k]?) : Pages W' ok vs pages :=
 ⟨h.1, fun i v l hv hl => by obtain ⟨A, c, h1, h2, h3⟩ := h.2 i v l hv hl; exact ⟨A, c, h1, h2, Kd.F_step h3 hm⟩⟩
theorem Pages.mono {W : World} {ok ok' : Nat → Prop} {vs : List Value} {pages : List (List Int)} (h : Pages W ok vs pages) (ho : ∀ k, ok k → ok' k) : Pages W ok' vs pages :=
 ⟨h.1, fun i v l hv hl => by obtain ⟨A, c, h1, h2, h3⟩ := h.2 i v l hv hl; exact ⟨A, c, h1, h2, Kd.F_mono h3 ho⟩⟩
theorem Pages.bound {W : World} {ok : Nat → Prop} {vs : List Value} {pages : List (List Int)} (h : Pages W ok vs pages) : Pages W (fun k => ok k ∧ k < W.heap.size) vs pages :=
 ⟨h.1, fun i v l hv hl => by obtain ⟨A, c, h1, h2, h3⟩ := h.2 i v l hv hl; exact ⟨A, c, h1, h2, Kd.F_bound h3⟩⟩
theorem Pages.set {W : World} {ok : Nat → Prop} {vs : List Value} {pages : List (List Int)} (h : Pages W ok vs pages) (i : Nat) {A : Option Addr} {c : Nat} {l : List Int} (hc : 256 ≤ c) (hF : Kd.F (Kd.int .u8) W ok A 256 l) : Pages W ok (vs.set i (.slice A 256 c)) (pages.set i l) := by
 refine ⟨by rw [List.length_set, List.length_set]; exact h.1, fun j v x hv hx => ?_⟩; rw [List.getElem?_set] at hv hx; by_cases hij : i = j
 ·
  subst hij; rw [if_pos rfl] at hv hx; have hl : i < vs.length := by
   by_cases hl : i < vs.length
   ·
    exact hl
   ·
    rw [if_neg hl] at hv; cases hv
  rw [if_pos hl] at hv; rw [if_pos (by have := h.1; omega)] at hx; obtain rfl := Option.some.inj hv; obtain rfl := Option.some.inj hx; exact ⟨A, c, rfl, hc, hF⟩
 ·
  rw [if_neg hij] at hv hx; exact h.2 j v x hv hx
section
variable {W W' : World} {ok : Nat → Prop} {L : Lay} {D : Dv}
theorem DV.step (h : DV W ok L D) (hs : W.heap.size ≤ W'.heap.size) (hm : ∀ k, L.all ok k → k < W.heap.size → W'.heap[k]? = W.heap[k]?) (hn : ∀ k, ok k → k < W'.heap.size → ¬ L.S k) : DV W' ok L D where
 top := (hm _ (.inr (.inl (.inl rfl))) (blk_lt h.top)).trans h.top
 nx := h.nx.same (hm _ (.inr (.inl (.inr (.inr (.inl rfl))))) h.nx.lt)
 we := h.we.same (hm _ (.inr (.inl (.inr (.inr (.inr rfl))))) h.we.lt)
 pg := by
  obtain ⟨vs, h1, h2⟩ := h.pg; exact ⟨vs, h1.same (hm _ (.inr (.inl (.inr (.inl rfl)))) h1.lt), h2.step (fun k hk hl => hm k (.inl hk) hl)⟩
 mb := h.mb.same (hm _ (.inr (.inr rfl)) h.mb.lt)
 fl := ⟨Kd.F_step h.fl.1 (fun k hk hl => hm k (.inl hk) hl), h.fl.2⟩
 ne := h.ne
 nm := h.nm
 no := hn
 ok := h.ok
theorem DV.lt (h : DV W ok L D) : ∀ k, L.S k → k < W.heap.size := by
 rintro k (rfl | rfl | rfl | rfl)
 ·
  exact blk_lt h.top
 ·
  obtain ⟨vs, h1, _⟩ := h.pg; exact h1.lt
 ·
  exact h.nx.lt
 ·
  exact h.we.lt
theorem DV.turn {S : Nat → Prop} (h : DV W ok L D) (ht : Turn W W' S) (hS : ∀ k, L.all ok k → k < W.heap.size → ¬ S k) : DV W' ok L D :=
 h.step ht.size (fun k hk hl => ht.block k hl (hS k hk hl)) (fun k hk _ hS' => h.no k hk (h.lt k hS') hS')
theorem DV.below (h : DV W ok L D) (hb : Below W.heap.size W W') : DV W' ok L D := h.turn (Turn.of_below hb (fun _ => False)) (fun _ _ _ hf => hf)
theorem DV.mono {ok' : Nat → Prop} (h : DV W ok L D) (ho : ∀ k, ok k → ok' k) (hn : ∀ k, ok' k → k < W.heap.size → ¬ L.S k) : DV W ok' L D where
 top := h.top
 nx := h.nx
 we := h.we
 pg := by obtain ⟨vs, h1, h2⟩ := h.pg; exact ⟨vs, h1, h2.mono ho⟩
 mb := h.mb
 fl := ⟨Kd.F_mono h.fl.1 ho, h.fl.2⟩
 ne := h.ne
 nm := h.nm
 no := hn
 ok := h.ok
theorem DV.bound (h : DV W ok L D) : DV W (fun k => ok k ∧ k < W.heap.size) L D where
 top := h.top
 nx := h.nx
 we := h.we
 pg := by obtain ⟨vs, h1, h2⟩ := h.pg; exact ⟨vs, h1, h2.bound⟩
 mb := h.mb
 fl := ⟨Kd.F_bound h.fl.1, h.fl.2⟩
 ne := h.ne
 nm := h.nm
 no := fun k hk hl => h.no k hk.1 hl
 ok := h.ok
end
def newer (W : World) (ok : Nat → Prop) (k : Nat) : Prop := ok k ∨ W.heap.size ≤ k
end Go.Proofs.Ytnchdmidaigheaa.ND
namespace Go.Proofs.Ytnchdmidaigheaa.ND
set_option linter.unusedVariables false
set_option linter.unusedSimpArgs false
open Go.RowKit Go.Proofs.Ytnchdmidaigheaa.Hp Go.Proofs.YtnchdmidaigheaaW.PrintWords Go.Proofs.YtnchdmidaigheaaW.PrintLast Go.Proofs.YtnchdmidaigheaaW.PrintMore
theorem top_cells {W : World} {ok : Nat → Prop} {L : Lay} {D : Dv} (h : DV W ok L D) :
  W.cell? ⟨L.g, 0, none⟩ = some (.int .i64 D.B) ∧ W.cell? ⟨L.g, 1, none⟩ = some (.int .i64 D.P) ∧ W.cell? ⟨L.g, 2, none⟩ = some (.int .i64 D.C) ∧ W.cell? ⟨L.g, 3, none⟩ = some (.slice (some ⟨L.gm, 0, none⟩) (marks D).length L.cm) ∧
  W.cell? ⟨L.g, 4, none⟩ = some (.slice (some ⟨L.gp, 0, none⟩) D.pages.length L.cp) ∧ W.cell? ⟨L.g, 5, none⟩ = some (.slice (some ⟨L.gn, 0, none⟩) D.next.length L.cn) ∧ W.cell? ⟨L.g, 6, none⟩ = some (.slice (some ⟨L.gw, 0, none⟩) D.wear.length L.cw) ∧
  W.cell? ⟨L.g, 7, none⟩ = some (.slice L.Af D.faults.length L.cf) ∧ W.cell? ⟨L.g, 8, none⟩ = some (.int .i64 D.ops) ∧ W.cell? ⟨L.g, 9, none⟩ = some (.bool D.down) :=
 ⟨blk_cell h.top 0, blk_cell h.top 1, blk_cell h.top 2, blk_cell h.top 3, blk_cell h.top 4, blk_cell h.top 5, blk_cell h.top 6, blk_cell h.top 7, blk_cell h.top 8, blk_cell h.top 9⟩
set_option maxHeartbeats 1000000 in
set_option maxRecDepth 100000 in
theorem there_calls {W : World} {ok : Nat → Prop} {L : Lay} {D : Dv} (h : DV W ok L D) (b : Int) :
  Calls Try.prog 62 #[.pointer (some ⟨L.g, 0, none⟩), .int .i64 b] W fun e w' => e = .returned (.bool (D.there b)) ∧ Below W.heap.size W w' := by
 obtain ⟨c0, -⟩ := top_cells h; clear h; obtain ⟨t, ht⟩ : ∃ t, t = D.there b := ⟨_, rfl⟩; rw [← ht]; unfold Dv.there at ht; generalize L.g = g at c0 ⊢; have B0 := aK (Below.refl W.heap.size W)
 cases hb : decide (b ≥ 0) with
 | false =>
  rw [hb] at ht; subst ht; go_enter Try.func62, Try.ntmps62; go_wp2_with fail; go_ret; exact ⟨rfl, B0.out⟩
 | true =>
  rw [hb, Bool.true_and] at ht; rw [ht]; clear ht; go_enter Try.func62, Try.ntmps62; go_wp2_with fail; go_ret; exact ⟨rfl, B0.out⟩
theorem marks_at {D : Dv} {n : Nat} (h : (n : Int) < D.B) : (marks D)[n]? = some (.bool (D.mark (n : Int))) := by
 unfold marks; rw [List.getElem?_map, List.getElem?_range (by omega)]; rfl
theorem ints_at {l : List Int} {n : Nat} (h : n < l.length) : (l.map (Value.int .i64))[n]? = some (.int .i64 (l.getD n 0)) := by
 rw [List.getElem?_map, List.getD_eq_getElem?_getD, List.getElem?_eq_getElem h]; rfl
set_option maxHeartbeats 1000000 in
set_option maxRecDepth 100000 in
theorem marked_calls {W : World} {ok : Nat → Prop} {L : Lay} {D : Dv} (h : DV W ok L D) (b : Int) :
  Calls Try.prog 30 #[.pointer (some ⟨L.g, 0, none⟩), .int .i64 b] W fun e w' => e = .returned (.bool (D.there b && D.mark b)) ∧ Below W.heap.size W w' := by
 have HT := aK (there_calls h b); have H := aK h; clear h
 cases hb : D.there b with
 | false =>
  rw [hb] at HT; rw [Bool.false_and]; clear hb; go_enter Try.func30, Try.ntmps30; go_wp2_with (go_at_call 62; refine HT.out.mono ?_; rintro e w2 ⟨rfl, hb⟩; have B0 := aK hb; clear hb); go_ret; exact ⟨rfl, B0.out⟩
 | true =>
  rw [hb] at HT; obtain ⟨h0, h1⟩ := there_iff.1 hb; obtain ⟨n, rfl⟩ := Int.eq_ofNat_of_zero_le h0; have p1 := eq_true h0; have q1 := eq_true (show (n : Int) < (((marks D).length : Nat) : Int) by rw [marks_len]; omega); rw [Bool.true_and]; have H1 := aK h1; clear hb h0 h1; go_enter Try.func30, Try.ntmps30; go_wp2_with (go_at_call 62; refine HT.out.mono ?_; rintro e w2 ⟨rfl, hb⟩; have B0 := aK hb; have c3 := (top_cells (H.out.below hb)).2.2.2.1; have ce := (H.out.below hb).mb.cell (marks_at H1.out); clear hb); go_ret; exact ⟨rfl, B0.out⟩
set_option maxHeartbeats 1000000 in
set_option maxRecDepth 100000 in
theorem next_calls {W : World} {ok : Nat → Prop} {L : Lay} {D : Dv} (h : DV W ok L D) (b : Int) :
  Calls Try.prog 15 #[.pointer (some ⟨L.g, 0, none⟩), .int .i64 b] W fun e w' => e = .returned (.int .i64 (D.nextOf b)) ∧ Below W.heap.size W w' := by
 have HT := aK (there_calls h b); have H := aK h; clear h
 cases hb : D.there b with
 | false =>
  rw [hb] at HT; unfold Dv.nextOf; rw [if_neg (by rw [hb]; decide)]; clear hb; go_enter Try.func15, Try.ntmps15; go_wp2_with (go_at_call 62; refine HT.out.mono ?_; rintro e w2 ⟨rfl, hb⟩; have B0 := aK hb; clear hb); go_ret; exact ⟨rfl, B0.out⟩
 | true =>
  rw [hb] at HT; obtain ⟨h0, h1⟩ := there_iff.1 hb; obtain ⟨n, rfl⟩ := Int.eq_ofNat_of_zero_le h0; have p1 := eq_true h0; have q1 := eq_true (show (n : Int) < ((D.next.length : Nat) : Int) by have := H.out.ok.nl; omega); unfold Dv.nextOf; rw [if_pos hb, Int.toNat_natCast]; have H1 := aK h1; clear hb h0 h1; go_enter Try.func15, Try.ntmps15; go_wp2_with (go_at_call 62; refine HT.out.mono ?_; rintro e w2 ⟨rfl, hb⟩; have B0 := aK hb; have c5 := (top_cells (H.out.below hb)).2.2.2.2.2.1; have ce := (H.out.below hb).nx.cell (ints_at (n := n) (by have := H.out.ok.nl; have := H1.out; omega)); clear hb); go_ret; exact ⟨rfl, B0.out⟩
set_option maxHeartbeats 1000000 in
set_option maxRecDepth 100000 in
theorem down_calls {W : World} {ok : Nat → Prop} {L : Lay} {D : Dv} (h : DV W ok L D) :
  Calls Try.prog 29 #[.pointer (some ⟨L.g, 0, none⟩)] W fun e w' => e = .returned (.bool D.down) ∧ Below W.heap.size W w' := by
 have c9 := (top_cells h).2.2.2.2.2.2.2.2.2; have B0 := aK (Below.refl W.heap.size W); clear h; go_enter Try.func29, Try.ntmps29; go_wp2_with fail; go_ret; exact ⟨rfl, B0.out⟩
set_option maxHeartbeats 1000000 in
set_option maxRecDepth 100000 in
theorem up_calls {W : World} {ok : Nat → Prop} {L : Lay} {D : Dv} (h : DV W ok L D) :
  Calls Try.prog 63 #[.pointer (some ⟨L.g, 0, none⟩)] W fun e w' => e = .returned (.int .i64 (if D.down = true then 9 else 0)) ∧ Below W.heap.size W w' := by
 have c9 := (top_cells h).2.2.2.2.2.2.2.2.2; have B0 := aK (Below.refl W.heap.size W); clear h
 cases hd : D.down with
 | true =>
  rw [hd] at c9; clear hd; go_enter Try.func63, Try.ntmps63; go_wp2_with fail; go_ret; exact ⟨rfl, B0.out⟩
 | false =>
  rw [hd] at c9; clear hd; go_enter Try.func63, Try.ntmps63; go_wp2_with fail; go_ret; exact ⟨rfl, B0.out⟩
end Go.Proofs.Ytnchdmidaigheaa.ND
namespace Go.Proofs.Ytnchdmidaigheaa.ND
set_option linter.unusedVariables false
set_option linter.unusedSimpArgs false
open Go.RowKit Go.Proofs.Ytnchdmidaigheaa.Hp Go.Proofs.YtnchdmidaigheaaW.PrintWords Go.Proofs.YtnchdmidaigheaaW.PrintLast Go.Proofs.YtnchdmidaigheaaW.PrintMore
section
variable {W : World} {ok : Nat → Prop} {L : Lay} {D : Dv}
theorem DV.ro (h : DV W ok L D) {p : Addr} (hp : L.S p.block) (u : Value) : ∀ k, ok k → k < W.heap.size → (W.setCell p u).heap[k]? = W.heap[k]? := fun k hk hl => Below.heap_setCell W p u k (fun e => h.no k hk hl (e ▸ hp))
theorem gm_ne (h : DV W ok L D) : L.gm ≠ L.g ∧ L.gm ≠ L.gp ∧ L.gm ≠ L.gn ∧ L.gm ≠ L.gw := ⟨fun e => h.nm (.inl e), fun e => h.nm (.inr (.inl e)), fun e => h.nm (.inr (.inr (.inl e))), fun e => h.nm (.inr (.inr (.inr e)))⟩
theorem DV.set_down (h : DV W ok L D) (x : Bool) : DV (W.setCell ⟨L.g, 9, none⟩ (.bool x)) ok L { D with down := x } where
 top := blk_put h.top 9 (.bool x) rfl
 nx := h.nx.far h.ne.2.1 _
 we := h.we.far h.ne.2.2.1 _
 pg := by obtain ⟨vs, h1, h2⟩ := h.pg; exact ⟨vs, h1.far h.ne.1 _, h2.step (h.ro (.inl rfl) _)⟩
 mb := h.mb.far (gm_ne h).1 _
 fl := ⟨Kd.F_step h.fl.1 (h.ro (.inl rfl) _), h.fl.2⟩
 ne := h.ne
 nm := h.nm
 no := fun k hk hl => h.no k hk (by simpa using hl)
 ok := { h.ok with }
theorem DV.set_ops (h : DV W ok L D) (x : Int) : DV (W.setCell ⟨L.g, 8, none⟩ (.int .i64 x)) ok L { D with ops := x } where
 top := blk_put h.top 8 (.int .i64 x) rfl
 nx := h.nx.far h.ne.2.1 _
 we := h.we.far h.ne.2.2.1 _
 pg := by obtain ⟨vs, h1, h2⟩ := h.pg; exact ⟨vs, h1.far h.ne.1 _, h2.step (h.ro (.inl rfl) _)⟩
 mb := h.mb.far (gm_ne h).1 _
 fl := ⟨Kd.F_step h.fl.1 (h.ro (.inl rfl) _), h.fl.2⟩
 ne := h.ne
 nm := h.nm
 no := fun k hk hl => h.no k hk (by simpa using hl)
 ok := { h.ok with }
theorem DV.set_next (h : DV W ok L D) (n : Nat) (x : Int) (hx : 0 ≤ x ∧ x ≤ D.P) : DV (W.setCell ⟨L.gn, n, none⟩ (.int .i64 x)) ok L { D with next := D.next.set n x } where
 top := by
  have := blk_far h.top (p := ⟨L.gn, n, none⟩) h.ne.2.1.symm (.int .i64 x); rw [this]; unfold Lay.top; simp only [List.length_set]; rfl
 nx := by
  have := h.nx.set n (.int .i64 x)
  rwa [← List.map_set] at this
 we := h.we.far (p := ⟨L.gn, n, none⟩) h.ne.2.2.2.2.2.symm _
 pg := by obtain ⟨vs, h1, h2⟩ := h.pg; exact ⟨vs, h1.far (p := ⟨L.gn, n, none⟩) h.ne.2.2.2.1 _, h2.step (h.ro (.inr (.inr (.inl rfl))) _)⟩
 mb := h.mb.far (p := ⟨L.gn, n, none⟩) (gm_ne h).2.2.1 _
 fl := ⟨Kd.F_step h.fl.1 (h.ro (.inr (.inr (.inl rfl))) _), h.fl.2⟩
 ne := h.ne
 nm := h.nm
 no := fun k hk hl => h.no k hk (by simpa using hl)
 ok := { h.ok with
  nl := by show ((D.next.set _ _).length : Int) = _; rw [List.length_set]; exact h.ok.nl
  nr := fun y hy => by
   rcases List.mem_or_eq_of_mem_set hy with h' | h'
   ·
    exact h.ok.nr y h'
   ·
    rw [h']; exact hx }
theorem DV.set_wear (h : DV W ok L D) (n : Nat) (x : Int) (hx : -9223372036854775808 ≤ x ∧ x ≤ 9223372036854775807) : DV (W.setCell ⟨L.gw, n, none⟩ (.int .i64 x)) ok L { D with wear := D.wear.set n x } where
 top := by
  have := blk_far h.top (p := ⟨L.gw, n, none⟩) h.ne.2.2.1.symm (.int .i64 x); rw [this]; unfold Lay.top; simp only [List.length_set]; rfl
 nx := h.nx.far (p := ⟨L.gw, n, none⟩) h.ne.2.2.2.2.2 _
 we := by
  have := h.we.set n (.int .i64 x)
  rwa [← List.map_set] at this
 pg := by obtain ⟨vs, h1, h2⟩ := h.pg; exact ⟨vs, h1.far (p := ⟨L.gw, n, none⟩) h.ne.2.2.2.2.1 _, h2.step (h.ro (.inr (.inr (.inr rfl))) _)⟩
 mb := h.mb.far (p := ⟨L.gw, n, none⟩) (gm_ne h).2.2.2 _
 fl := ⟨Kd.F_step h.fl.1 (h.ro (.inr (.inr (.inr rfl))) _), h.fl.2⟩
 ne := h.ne
 nm := h.nm
 no := fun k hk hl => h.no k hk (by simpa using hl)
 ok := { h.ok with
  wl := by show ((D.wear.set _ _).length : Int) = _; rw [List.length_set]; exact h.ok.wl
  wr := fun y hy => by
   rcases List.mem_or_eq_of_mem_set hy with h' | h'
   ·
    exact h.ok.wr y h'
   ·
    rw [h']; exact hx }
theorem DV.set_page (h : DV W ok L D) (n : Nat) {A : Option Addr} {c : Nat} {l : List Int} (hc : 256 ≤ c) (hF : Kd.F (Kd.int .u8) W ok A 256 l) (hl : isBytes l ∧ l.length = 256) : DV (W.setCell ⟨L.gp, n, none⟩ (.slice A 256 c)) ok L { D with pages := D.pages.set n l } where
 top := by
  have := blk_far h.top (p := ⟨L.gp, n, none⟩) h.ne.1.symm (.slice A 256 c); rw [this]; unfold Lay.top; simp only [List.length_set]; rfl
 nx := h.nx.far (p := ⟨L.gp, n, none⟩) h.ne.2.2.2.1.symm _
 we := h.we.far (p := ⟨L.gp, n, none⟩) h.ne.2.2.2.2.1.symm _
 pg := by
  obtain ⟨vs, h1, h2⟩ := h.pg; exact ⟨_, h1.set n _, (h2.set n hc hF).step (h.ro (.inr (.inl rfl)) _)⟩
 mb := h.mb.far (p := ⟨L.gp, n, none⟩) (gm_ne h).2.1 _
 fl := ⟨Kd.F_step h.fl.1 (h.ro (.inr (.inl rfl)) _), h.fl.2⟩
 ne := h.ne
 nm := h.nm
 no := fun k hk hl => h.no k hk (by simpa using hl)
 ok := { h.ok with
  pl := by show ((D.pages.set _ _).length : Int) = _; rw [List.length_set]; exact h.ok.pl
  pw := fun y hy => by
   rcases List.mem_or_eq_of_mem_set hy with h' | h'
   ·
    exact h.ok.pw y h'
   ·
    rw [h']; exact hl }
end
set_option maxHeartbeats 1000000 in
set_option maxRecDepth 100000 in
theorem power_calls {W : World} {ok : Nat → Prop} {L : Lay} {D : Dv} (h : DV W ok L D) :
  Calls Try.prog 19 #[.pointer (some ⟨L.g, 0, none⟩)] W fun e w' => e = .returned (.tuple #[]) ∧ DV w' ok L D.power ∧ Turn W w' L.S := by
 have HD := aK (h.set_down false); have HT := aK ((Turn.refl W L.S).setCell (p := ⟨L.g, 9, none⟩) (.inl (.inl rfl)) (.bool false)); have c9 := (top_cells h).2.2.2.2.2.2.2.2.2; have f9 := blk_frozen h.top 9; clear h; go_enter Try.func19, Try.ntmps19; go_wp2_with fail
 go_end0
 exact ⟨rfl, HD.out, HT.out⟩
set_option maxHeartbeats 1000000 in
set_option maxRecDepth 100000 in
theorem end_calls {W : World} {ok : Nat → Prop} {L : Lay} {D : Dv} (h : DV W ok L D) (hd : D.down = false) (k : Int) (hk : k = 0 ∨ k = 1 ∨ k = 2) :
  Calls Try.prog 68 #[.pointer (some ⟨L.g, 0, none⟩), .int .i64 k] W fun e w' => e = .returned (.int .i64 (ended k)) ∧ DV w' ok L { D with down := k == 2 } ∧ Turn W w' L.S := by
 have HS : Aside0 (D = { D with down := false }) := ⟨by rw [← hd]⟩
 rcases hk with rfl | rfl | rfl
 ·
  have H := aK h; have HT := aK (Turn.refl W L.S); clear h hd; go_enter Try.func68, Try.ntmps68; go_wp2_with fail; go_ret; exact ⟨rfl, HS.out ▸ H.out, HT.out⟩
 ·
  have H := aK h; have HT := aK (Turn.refl W L.S); clear h hd; go_enter Try.func68, Try.ntmps68; go_wp2_with fail; go_ret; exact ⟨rfl, HS.out ▸ H.out, HT.out⟩
 ·
  have HD := aK (h.set_down true); have HT := aK ((Turn.refl W L.S).setCell (p := ⟨L.g, 9, none⟩) (.inl (.inl rfl)) (.bool true)); have c9 := (top_cells h).2.2.2.2.2.2.2.2.2; have f9 := blk_frozen h.top 9; clear h hd; go_enter Try.func68, Try.ntmps68; go_wp2_with fail; go_ret; exact ⟨rfl, HD.out, HT.out⟩
end Go.Proofs.Ytnchdmidaigheaa.ND
namespace Go.Proofs.Ytnchdmidaigheaa.ND
set_option linter.unusedVariables false
set_option linter.unusedSimpArgs false
open Go.RowKit Go.Proofs.Ytnchdmidaigheaa.Hp Go.Proofs.YtnchdmidaigheaaW.PrintWords Go.Proofs.YtnchdmidaigheaaW.PrintLast Go.Proofs.YtnchdmidaigheaaW.PrintMore
def begin7.T7 : Bool × List (List Nat × List Nat) := (true, [([], []), ([0], [0]), ([], []), ([2], [2]), ([1, 0, 1], [1]), ([3, 4, 0, 1, 2, 3, 4], [3])])
def begin7.B7 : List Nat := [0, 1, 0, 4, 3, 31]
theorem begin7.tab7 : rtab .any (opsOf Try.f64 7) = begin7.T7 := by kernel_rfl
theorem begin7.bits7 : waitsOk begin7.T7.2 begin7.B7 = true := by kernel_rfl
theorem fresh_F {d : Kd Int} {e : Nat} {w w' : World} {v : Value} {xs : List Int} (h : d.R e w' w.heap.size (fun _ => True) v xs) (ok : Nat → Prop) : ∃ A c, v = .slice A xs.length c ∧ xs.length ≤ c ∧ Kd.F d w' (newer w ok) A xs.length xs := by
 obtain ⟨A, c, rfl, hc, _⟩ := Kd.R_reads h; exact ⟨A, c, rfl, hc, Kd.R_F (Kd.R_mono (Kd.R_bound h) (fun k hk => .inr hk.2.1))⟩
theorem fault_none {D : Dv} (h : ∀ f ∈ D.faults, onF f D.ops = false) : D.fault = (0, [255]) := by
 unfold Dv.fault; rw [List.find?_eq_none.2 (fun f hf => by rw [h f hf]; decide)]
theorem fault_at {D : Dv} {i : Nat} (hi : i < D.faults.length) (h : ∀ f ∈ D.faults.take i, onF f D.ops = false) (ho : onF (rd_T65 D.faults (i : Int)) D.ops = true) : D.fault = ((rd_T65 D.faults (i : Int)).f1, (rd_T65 D.faults (i : Int)).f2) := by
 have hr : rd_T65 D.faults (i : Int) = D.faults[i] := by
  unfold rd_T65; rw [Int.toNat_natCast, List.getD_eq_getElem?_getD, List.getElem?_eq_getElem hi]; rfl
 rw [hr] at ho ⊢; have hs : D.faults.find? (fun f => onF f D.ops) = some D.faults[i] := by
  rw [List.find?_eq_some_iff_getElem]; exact ⟨ho, i, hi, rfl, fun j hj => by rw [h _ (by rw [List.mem_take_iff_getElem]; exact ⟨j, by omega, rfl⟩)]; rfl⟩
 unfold Dv.fault; rw [hs]
theorem take_on {D : Dv} {i : Nat} (hi : i < D.faults.length) (h : ∀ f ∈ D.faults.take i, onF f D.ops = false) (ho : onF (rd_T65 D.faults (i : Int)) D.ops = false) : ∀ f ∈ D.faults.take (i + 1), onF f D.ops = false := by
 have hr : rd_T65 D.faults (i : Int) = D.faults[i] := by
  unfold rd_T65; rw [Int.toNat_natCast, List.getD_eq_getElem?_getD, List.getElem?_eq_getElem hi]; rfl
 rw [hr] at ho; intro f hf; rw [List.take_add_one, List.getElem?_eq_getElem hi, List.mem_append] at hf
 rcases hf with hf | hf
 ·
  exact h f hf
 ·
  simp at hf; rw [hf]; exact ho
def Dv.bump (D : Dv) : Dv := { D with ops := wrap64 (D.ops + 1) }
set_option maxHeartbeats 2000000 in
set_option maxRecDepth 100000 in
theorem begin_calls {W : World} {ok : Nat → Prop} {L : Lay} {D : Dv} (h : DV W ok L D) :
  Calls Try.prog 64 #[.pointer (some ⟨L.g, 0, none⟩)] W fun e w' => ∃ A c, e = .returned (.tuple #[.int .i64 D.fault.1, .slice A D.fault.2.length c]) ∧ D.fault.2.length ≤ c ∧ Kd.F (Kd.int .u8) w' (newer W ok) A D.fault.2.length D.fault.2 ∧ DV w' ok L D.bump ∧ Turn W w' L.S := by
 have H1 := aK (h.set_ops (wrap64 (D.ops + 1))); have T1 := aK ((Turn.refl W L.S).setCell (p := ⟨L.g, 8, none⟩) (.inl (.inl rfl)) (.int .i64 (wrap64 (D.ops + 1)))); have c7 := (top_cells h).2.2.2.2.2.2.2.1; have c8 := (top_cells h).2.2.2.2.2.2.2.2.1; have f8 := blk_frozen h.top 8; have HLT := aK (Nat.le_trans h.ok.fl (by omega) : D.faults.length ≤ 9223372036854775807); clear h; go_enter Try.func64, Try.ntmps64; go_upto_region 3 with fail; generalize W.setCell ⟨L.g, 8, none⟩ (.int .i64 (wrap64 (D.ops + 1))) = W1 at H1 T1 ⊢; have c7' := (top_cells H1.out).2.2.2.2.2.2.2.1; clear c7 c8 f8; go_wp2_with fail; clear c7'
 go_loopg [23] (D.faults.length + 1) (fun kq v23 w' => ∃ i : Nat, v23 = .int .i64 (i : Int) ∧ Aside0 (i ≤ D.faults.length ∧ kq + i = D.faults.length + 1 ∧ ∀ f ∈ D.faults.take i, onF f D.ops = false) ∧ Aside0 (Below W1.heap.size W1 w'))
 case atStart => exact ⟨0, rfl, ⟨Nat.zero_le _, rfl, by simp⟩, ⟨Below.refl _ _⟩⟩
 case round =>
  obtain ⟨i, rfl, HI, BB⟩ := hrel; by_cases hi : i < D.faults.length
  case neg =>
   have hie : i = D.faults.length := by have := HI.out.1; omega
   have t1 : decide ((i : Int) < (D.faults.length : Int)) = false := decide_eq_false (by omega); have t2 : decide (i < D.faults.length) = false := decide_eq_false (by omega); have HF : Aside0 (D.fault = (0, [255])) := ⟨fault_none (by have := HI.out.2.2; rwa [hie, List.take_length] at this)⟩; have HN := aK (fun W => zeros_Ones.calls 5 1 [255] W (by decide +kernel)); clear hi hie; go_wp2_with (go_at_call 61; refine (HN.out _).mono ?_; rintro e w5 ⟨v, rfl, hR, hb⟩; obtain ⟨A, c, rfl, hc, hF⟩ := fresh_F hR ok; have H5 := aK (And.intro hc (And.intro hF hb)); clear hR hc hF hb); go_ret2; have hT := T1.out.below BB.out; have hsz := hT.size; rw [HF.out]; exact ⟨A, c, rfl, H5.out.1, Kd.F_mono H5.out.2.1 (fun k hk => hk.elim .inl (fun hk => .inr (Nat.le_trans hsz hk))), (H1.out.below BB.out).below H5.out.2.2, hT.below H5.out.2.2⟩
  case pos =>
   have t1 : decide ((i : Int) < (D.faults.length : Int)) = true := decide_eq_true (by omega); have t2 : decide (i < D.faults.length) = true := decide_eq_true (by omega); have p1 := eq_true (show (0 : Int) ≤ (i : Int) by omega); have q1 := eq_true (show (i : Int) < (D.faults.length : Int) by omega); obtain ⟨ad, cs, hA, hcl, hFK, hcc, _⟩ := Kd.F_get (H1.out.below BB.out).fl.1 z65 (i : Int) (by omega) (show (i : Int) < ((D.faults.length : Nat) : Int) by omega); obtain ⟨A2, c2, rfl, l2, g2⟩ := k65_openF hFK; obtain ⟨x, hx⟩ : ∃ x, x = rd_T65 D.faults (i : Int) := ⟨_, rfl⟩; have hx' : D.faults.getD (i : Int).toNat z65 = x := hx.symm; rw [hx'] at hcc l2 g2; have hx0 : wr.cell? (ad.add (i * 3)) = some (.int .i64 x.f0) := by have := hcc 0 _ rfl; rwa [Int.toNat_natCast] at this
   have hx1 : wr.cell? ⟨(ad.add (i * 3)).block, (ad.add (i * 3)).off + 1, none⟩ = some (.int .i64 x.f1) := by have := hcc 1 _ rfl; rw [Int.toNat_natCast] at this; rw [← add_field _ _ 1 (by omega)]; exact this
   have hx2 : wr.cell? ⟨(ad.add (i * 3)).block, (ad.add (i * 3)).off + 2, none⟩ = some (.slice A2 x.f2.length c2) := by have := hcc 2 _ rfl; rw [Int.toNat_natCast] at this; rw [← add_field _ _ 2 (by omega)]; exact this
   have HA := aK hA; have HX := aK (And.intro hx (And.intro l2 g2)); have hA' : L.Af = some ad := hA; rw [hA']; clear hA hA' hcl hFK hcc hx hx' l2 g2; have hz6 := heap_alloc_new wr (.cells #[.int .i64 x.f0, .int .i64 x.f1, .slice A2 x.f2.length c2] 65); have hb6 := below_alloc BB.out (.cells #[.int .i64 x.f0, .int .i64 x.f1, .slice A2 x.f2.length c2] 65); have hg6 := Kd.F_alloc HX.out.2.2 (.cells #[.int .i64 x.f0, .int .i64 x.f1, .slice A2 x.f2.length c2] 65); go_upto_region 6 with fail; generalize wr.alloc (.cells #[.int .i64 x.f0, .int .i64 x.f1, .slice A2 x.f2.length c2] 65) = W6 at hz6 hb6 hg6 ⊢; generalize wr.heap.size = h6 at hz6 ⊢; have HB6 := aK hb6; have HG6 := aK hg6; have HZ6 := aK hz6; have x0 := blk_cell hz6 0; have x1 := blk_cell hz6 1; have HI2 := aK hi; have HWI : IntKind.i64.wrap ((i : Int) + 1) = ((i + 1 : Nat) : Int) := by rw [i64_w]; unfold wrap64; have := HLT.out; omega
   clear hx0 hx1 hx2 p1 q1 t1 t2 hb6 hg6 hz6 hi; rw [show (some ad : Option Addr) = L.Af from HA.out.symm]
   cases e1 : (x.f0 == D.ops) with
   | false =>
    have HO : Aside0 (onF x D.ops = false) := ⟨by unfold onF; rw [e1]; rfl⟩; go_wp2_with fail; go_roundg (D.faults.length - i)
    case measure => have := HI.out.2.1; have := HI2.out; omega
    case rel => exact ⟨i + 1, by first | rfl | (rw [← i64_w, HWI]) | (simp; unfold wrap64; have := HI2.out; have := HLT.out; omega), ⟨HI2.out, by have := HI.out.2.1; have := HI2.out; omega, take_on HI2.out HI.out.2.2 (HX.out.1 ▸ HO.out)⟩, HB6⟩
   | true =>
    cases e2 : (x.f1 == 1) with
    | true =>
     have HO : Aside0 (onF x D.ops = true) := ⟨by unfold onF; rw [e1, e2]; rfl⟩; go_upto_region 7 with fail; have B0 := aK (below_drew1 (Below.refl W6.heap.size W6)); have Z6 := aK (blk_drew HZ6.out); clear x0 x1; refine start_ (n := 6) (S := fun w' => True) (ds := []) #[false, false, false, false, false, false] (by kernel_rfl) rfl rfl trivial (fun hHeld => ?_); refine with_tabW begin7.tab7 begin7.bits7 (fun HT_ HW_ => ?_); generalize W6.drew = wq at B0 Z6 hHeld ⊢; refine inv_at [0, 1, 2, 3, 4, 5] (fun a0_ b a w' => a = putSel a0_ b [(0, 41, .pointer (some ⟨h6, 1, none⟩)), (1, 42, .int .i64 x.f1), (2, 43, .pointer (some ⟨h6, 2, none⟩)), (3, 44, .slice A2 x.f2.length c2), (4, 2, .int .i64 x.f1), (5, 3, .slice A2 x.f2.length c2)] ∧ (Below W6.heap.size W6 w') ∧ (w'.heap[h6]? = some (.cells #[.int .i64 x.f0, .int .i64 x.f1, .slice A2 x.f2.length c2] 65 (0, 0)))) HT_.out HW_.out (by kernel_rfl) (by kernel_rfl) ?_ ?_ ?_
     ·
      exact ⟨by simp only [putSel, Bool.false_eq_true, if_false], B0.out, Z6.out⟩
     ·
      skip
      clear B0 Z6; refine steps_cons ?_ ?_; rintro b a w' ⟨ha, Q_B0, Q_Z6⟩ hb_ hon hoff; refine ⟨_, rfl, fun K hK => ?_⟩; have e6 := q_f ha 6 rfl rfl; replace ha := aK ha; have B0 := aK Q_B0; have Z6 := aK Q_Z6; refine q_v (.pointer (some ⟨h6, 1, none⟩)) (by rfl) rfl ?_ ?_; (· (go_simp; (try simp only [i64_w]); try rfl)); refine hK.out _ _ ⟨q_u ha 0 hb_ rfl rfl rfl, Q_B0, Q_Z6⟩; refine steps_cons ?_ ?_; rintro b a w' ⟨ha, Q_B0, Q_Z6⟩ hb_ hon hoff; refine ⟨_, rfl, fun K hK => ?_⟩; have e41 := q_n ha hon 41 0 0 rfl; replace ha := aK ha; have B0 := aK Q_B0; have Z6 := aK Q_Z6; have c_ := blk_cell Z6.out 1; refine q_v (.int .i64 x.f1) (by rfl) rfl ?_ ?_; (· (go_simp; (try simp only [i64_w]); try rfl)); refine hK.out _ _ ⟨q_u ha 1 hb_ rfl rfl rfl, Q_B0, Q_Z6⟩; refine steps_cons ?_ ?_; rintro b a w' ⟨ha, Q_B0, Q_Z6⟩ hb_ hon hoff; refine ⟨_, rfl, fun K hK => ?_⟩; have e6 := q_f ha 6 rfl rfl; replace ha := aK ha; have B0 := aK Q_B0; have Z6 := aK Q_Z6; refine q_v (.pointer (some ⟨h6, 2, none⟩)) (by rfl) rfl ?_ ?_; (· (go_simp; (try simp only [i64_w]); try rfl)); refine hK.out _ _ ⟨q_u ha 2 hb_ rfl rfl rfl, Q_B0, Q_Z6⟩; refine steps_cons ?_ ?_; rintro b a w' ⟨ha, Q_B0, Q_Z6⟩ hb_ hon hoff; refine ⟨_, rfl, fun K hK => ?_⟩; have e43 := q_n ha hon 43 2 2 rfl; replace ha := aK ha; have B0 := aK Q_B0; have Z6 := aK Q_Z6; have c_ := blk_cell Z6.out 2; refine q_v (.slice A2 x.f2.length c2) (by rfl) rfl ?_ ?_; (· (go_simp; (try simp only [i64_w]); try rfl)); refine hK.out _ _ ⟨q_u ha 3 hb_ rfl rfl rfl, Q_B0, Q_Z6⟩; refine steps_cons ?_ ?_; rintro b a w' ⟨ha, Q_B0, Q_Z6⟩ hb_ hon hoff; refine ⟨_, rfl, fun K hK => ?_⟩; have e42 := q_n ha hon 42 1 1 rfl; replace ha := aK ha; have B0 := aK Q_B0; have Z6 := aK Q_Z6; refine q_v (.int .i64 x.f1) (by rfl) rfl ?_ ?_; (· (go_simp; (try simp only [i64_w]); try rfl)); refine hK.out _ _ ⟨q_u ha 4 hb_ rfl rfl rfl, Q_B0, Q_Z6⟩; refine steps_cons ?_ ?_; rintro b a w' ⟨ha, Q_B0, Q_Z6⟩ hb_ hon hoff; refine ⟨_, rfl, fun K hK => ?_⟩; have e44 := q_n ha hon 44 3 3 rfl; replace ha := aK ha; have B0 := aK Q_B0; have Z6 := aK Q_Z6; refine q_v (.slice A2 x.f2.length c2) (by rfl) rfl ?_ ?_; (· (go_simp; (try simp only [i64_w]); try rfl)); refine hK.out _ _ ⟨q_u ha 5 hb_ rfl rfl rfl, Q_B0, Q_Z6⟩; exact steps_nil
     rintro b a wl hall ⟨ha, Q_B0, Q_Z6⟩; clear B0 Z6; subst ha; rw [q_a hall]; rotate_left
     ·
      kernel_rfl
     simp only [List.foldl_cons, List.foldl_nil, Act.put, List.setIfInBounds_toArray, List.set_cons_zero, List.set_cons_succ]; have B0 := aK Q_B0; clear Q_B0; have Z6 := aK Q_Z6; clear Q_Z6; clear hall; go_wp2_with fail; go_ret2; have hT := (T1.out.below HB6.out).below B0.out; have hsz := T1.out.size; have hf := fault_at HI2.out HI.out.2.2 (HX.out.1 ▸ HO.out); rw [← HX.out.1] at hf; rw [hf]; exact ⟨A2, c2, rfl, HX.out.2.1, Kd.F_mono (Kd.F_below HG6.out B0.out) (fun k hk => .inl hk), (H1.out.below HB6.out).below B0.out, hT⟩
    | false =>
     cases e3 : (x.f1 == 2) with
     | true =>
      have HO : Aside0 (onF x D.ops = true) := ⟨by unfold onF; rw [e1, e2, e3]; rfl⟩; go_upto_region 7 with fail; have B0 := aK (below_drew1 (Below.refl W6.heap.size W6)); have Z6 := aK (blk_drew HZ6.out); clear x0 x1; refine start_ (n := 6) (S := fun w' => True) (ds := []) #[false, false, false, false, false, false] (by kernel_rfl) rfl rfl trivial (fun hHeld => ?_); refine with_tabW begin7.tab7 begin7.bits7 (fun HT_ HW_ => ?_); generalize W6.drew = wq at B0 Z6 hHeld ⊢; refine inv_at [0, 1, 2, 3, 4, 5] (fun a0_ b a w' => a = putSel a0_ b [(0, 41, .pointer (some ⟨h6, 1, none⟩)), (1, 42, .int .i64 x.f1), (2, 43, .pointer (some ⟨h6, 2, none⟩)), (3, 44, .slice A2 x.f2.length c2), (4, 2, .int .i64 x.f1), (5, 3, .slice A2 x.f2.length c2)] ∧ (Below W6.heap.size W6 w') ∧ (w'.heap[h6]? = some (.cells #[.int .i64 x.f0, .int .i64 x.f1, .slice A2 x.f2.length c2] 65 (0, 0)))) HT_.out HW_.out (by kernel_rfl) (by kernel_rfl) ?_ ?_ ?_
      ·
       exact ⟨by simp only [putSel, Bool.false_eq_true, if_false], B0.out, Z6.out⟩
      ·
       skip
       clear B0 Z6; refine steps_cons ?_ ?_; rintro b a w' ⟨ha, Q_B0, Q_Z6⟩ hb_ hon hoff; refine ⟨_, rfl, fun K hK => ?_⟩; have e6 := q_f ha 6 rfl rfl; replace ha := aK ha; have B0 := aK Q_B0; have Z6 := aK Q_Z6; refine q_v (.pointer (some ⟨h6, 1, none⟩)) (by rfl) rfl ?_ ?_; (· (go_simp; (try simp only [i64_w]); try rfl)); refine hK.out _ _ ⟨q_u ha 0 hb_ rfl rfl rfl, Q_B0, Q_Z6⟩; refine steps_cons ?_ ?_; rintro b a w' ⟨ha, Q_B0, Q_Z6⟩ hb_ hon hoff; refine ⟨_, rfl, fun K hK => ?_⟩; have e41 := q_n ha hon 41 0 0 rfl; replace ha := aK ha; have B0 := aK Q_B0; have Z6 := aK Q_Z6; have c_ := blk_cell Z6.out 1; refine q_v (.int .i64 x.f1) (by rfl) rfl ?_ ?_; (· (go_simp; (try simp only [i64_w]); try rfl)); refine hK.out _ _ ⟨q_u ha 1 hb_ rfl rfl rfl, Q_B0, Q_Z6⟩; refine steps_cons ?_ ?_; rintro b a w' ⟨ha, Q_B0, Q_Z6⟩ hb_ hon hoff; refine ⟨_, rfl, fun K hK => ?_⟩; have e6 := q_f ha 6 rfl rfl; replace ha := aK ha; have B0 := aK Q_B0; have Z6 := aK Q_Z6; refine q_v (.pointer (some ⟨h6, 2, none⟩)) (by rfl) rfl ?_ ?_; (· (go_simp; (try simp only [i64_w]); try rfl)); refine hK.out _ _ ⟨q_u ha 2 hb_ rfl rfl rfl, Q_B0, Q_Z6⟩; refine steps_cons ?_ ?_; rintro b a w' ⟨ha, Q_B0, Q_Z6⟩ hb_ hon hoff; refine ⟨_, rfl, fun K hK => ?_⟩; have e43 := q_n ha hon 43 2 2 rfl; replace ha := aK ha; have B0 := aK Q_B0; have Z6 := aK Q_Z6; have c_ := blk_cell Z6.out 2; refine q_v (.slice A2 x.f2.length c2) (by rfl) rfl ?_ ?_; (· (go_simp; (try simp only [i64_w]); try rfl)); refine hK.out _ _ ⟨q_u ha 3 hb_ rfl rfl rfl, Q_B0, Q_Z6⟩; refine steps_cons ?_ ?_; rintro b a w' ⟨ha, Q_B0, Q_Z6⟩ hb_ hon hoff; refine ⟨_, rfl, fun K hK => ?_⟩; have e42 := q_n ha hon 42 1 1 rfl; replace ha := aK ha; have B0 := aK Q_B0; have Z6 := aK Q_Z6; refine q_v (.int .i64 x.f1) (by rfl) rfl ?_ ?_; (· (go_simp; (try simp only [i64_w]); try rfl)); refine hK.out _ _ ⟨q_u ha 4 hb_ rfl rfl rfl, Q_B0, Q_Z6⟩; refine steps_cons ?_ ?_; rintro b a w' ⟨ha, Q_B0, Q_Z6⟩ hb_ hon hoff; refine ⟨_, rfl, fun K hK => ?_⟩; have e44 := q_n ha hon 44 3 3 rfl; replace ha := aK ha; have B0 := aK Q_B0; have Z6 := aK Q_Z6; refine q_v (.slice A2 x.f2.length c2) (by rfl) rfl ?_ ?_; (· (go_simp; (try simp only [i64_w]); try rfl)); refine hK.out _ _ ⟨q_u ha 5 hb_ rfl rfl rfl, Q_B0, Q_Z6⟩; exact steps_nil
      rintro b a wl hall ⟨ha, Q_B0, Q_Z6⟩; clear B0 Z6; subst ha; rw [q_a hall]; rotate_left
      ·
       kernel_rfl
      simp only [List.foldl_cons, List.foldl_nil, Act.put, List.setIfInBounds_toArray, List.set_cons_zero, List.set_cons_succ]; have B0 := aK Q_B0; clear Q_B0; have Z6 := aK Q_Z6; clear Q_Z6; clear hall; go_wp2_with fail; go_ret2; have hT := (T1.out.below HB6.out).below B0.out; have hsz := T1.out.size; have hf := fault_at HI2.out HI.out.2.2 (HX.out.1 ▸ HO.out); rw [← HX.out.1] at hf; rw [hf]; exact ⟨A2, c2, rfl, HX.out.2.1, Kd.F_mono (Kd.F_below HG6.out B0.out) (fun k hk => .inl hk), (H1.out.below HB6.out).below B0.out, hT⟩
     | false =>
      have HO : Aside0 (onF x D.ops = false) := ⟨by unfold onF; rw [e1, e2, e3]; rfl⟩; go_wp2_with fail; go_roundg (D.faults.length - i)
      case measure => have := HI.out.2.1; have := HI2.out; omega
      case rel => exact ⟨i + 1, by first | rfl | (rw [← i64_w, HWI]) | (simp; unfold wrap64; have := HI2.out; have := HLT.out; omega), ⟨HI2.out, by have := HI.out.2.1; have := HI2.out; omega, take_on HI2.out HI.out.2.2 (HX.out.1 ▸ HO.out)⟩, HB6⟩
end Go.Proofs.Ytnchdmidaigheaa.ND
