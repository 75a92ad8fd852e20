-- Laid by this workplace's own program hprint.py (functions marked by hand are ours; the others are printed out of the translation). Not trusted: Lean checks it.
import Derived.Test.YtmlkkdopogcggaaHp0
import Derived.Test.YtmlkkdopogcggaaHp19
import Derived.Test.YtmlkkdopogcggaaHp36
namespace Go.Proofs.Ytmlkkdopogcggaa.Hp
open Go.RowKit Go.Proofs.YtmlkkdopogcggaaW.PrintWords Go.Proofs.YtmlkkdopogcggaaW.PrintLast Go.Proofs.YtmlkkdopogcggaaW.PrintMore
attribute [local go_sem] max2_int min2_int max_two min_two max_three min_three max_four min_four   -- for this text's walks alone
set_option linter.unusedVariables false
set_option linter.unusedSimpArgs false

/-! ### wagtailref15_Put: function 41 -/
-- a function whose text and proof are by hand
def wagtailref15_Put.f (k i c b o l n : Int) (d : ByteArray) : Option ByteArray := if headMay k i c b o l n = true ∧ 0 ≤ b ∧ 0 ≤ o ∧ d.size ≤ 228 then some (strOfNums (pageBody k i c b o l n (bytesOf d) ++ beBytes 4 (zsum (pageBody k i c b o l n (bytesOf d))))) else none
def Str (w : World) (z : Value) (x : ByteArray) : Prop := ∀ W, Below w.heap.size w W → Sem.run Try.prog (convert 35 9 z) W = .ok (.string x) W
theorem Str.step {w w2 : World} {z : Value} {x : ByteArray} (h : Str w z x) (hb : Below w.heap.size w w2) : Str w2 z x := fun W hW => h W (below_then hb hb.size hW)
theorem Str.here {w : World} {z : Value} {x : ByteArray} (h : Str w z x) : Sem.run Try.prog (convert 35 9 z) w = .ok (.string x) w := h w (Below.refl _ _)
theorem Str.of_R {w : World} {e base : Nat} {ok : Nat → Prop} {v : Value} {l : List Int} {x : ByteArray} (h : Kd.R (Kd.int .u8) e w base ok v l) (hx : x = strOfNums l) : Str w v x := by
  obtain ⟨A, c, rfl, hl, hC⟩ := Kd.R_reads h
  intro W hW
  rw [hx]
  exact c_string Try.underlying35 Try.underlying5 Try.underlying9 (Kd.C_below hC hW)
theorem wagtailref15_Put.ref_bytes_loop (n : Int) (h0 : 0 ≤ n) (h1 : n < 18446744073709551616) (w : Nat) (hw : w ≤ 8) : ∀ (d j : Nat), j + d = w → ∀ k, d < k → wagtailref01_Bytes.l0 k (w : Int) (n / 256 ^ j) (beBytes j n) (j : Int) = some (beBytes w n) := by
  intro d
  induction d with
  | zero =>
    intro j hj k hk
    obtain ⟨k, rfl⟩ : ∃ m, k = m + 1 := ⟨k - 1, by omega⟩
    have : j = w := by omega
    subst this
    simp only [wagtailref01_Bytes.l0]
    rw [if_neg (by omega)]
  | succ d ih =>
    intro j hj k hk
    obtain ⟨k, rfl⟩ : ∃ m, k = m + 1 := ⟨k - 1, by omega⟩
    simp only [wagtailref01_Bytes.l0]
    have hq0 : 0 ≤ n / 256 ^ j := Int.ediv_nonneg h0 (Int.le_of_lt (Int.pow_pos (by omega)))
    have hq1 : n / 256 ^ j < 18446744073709551616 := Int.lt_of_le_of_lt (Int.ediv_le_self _ h0) h1
    rw [if_pos (by omega), if_pos (by omega)]
    simp only [Option.bind_some]
    rw [if_pos (by simp [beBytes_len]; omega)]
    have e1 : IntKind.u64.wrap (Int.tdiv (n / 256 ^ j) 256) = n / 256 ^ (j + 1) := by
      rw [Int.tdiv_eq_ediv_of_nonneg hq0, IntKind.wrap_u64, Int.pow_succ, ← Int.ediv_ediv_of_nonneg (Int.le_of_lt (Int.pow_pos (by omega)))]
      have := Int.ediv_le_self 256 hq0
      have h2 : 0 ≤ n / 256 ^ j / 256 := Int.ediv_nonneg hq0 (by omega)
      omega
    have e2 : [(Int.tmod (n / 256 ^ j) 256) % 256] ++ beBytes j n = beBytes (j + 1) n := by
      rw [Int.tmod_eq_emod_of_nonneg hq0, beBytes_succ]
      simp
    have e3 : wrap64 ((j : Int) + 1) = ((j + 1 : Nat) : Int) := by unfold wrap64; omega
    rw [e1, e2, e3]
    exact ih (j + 1) (by omega) k (by omega)
theorem wagtailref15_Put.ref_bytes (n : Int) (h0 : 0 ≤ n) (h1 : n < 18446744073709551616) (w : Nat) (hw : w ≤ 8) : wagtailref01_Bytes.f 9 (w : Int) n = some (beBytes w n) := by
  have h := ref_bytes_loop n h0 h1 w hw w 0 (by omega) 9 (by omega)
  simpa [wagtailref01_Bytes.f, beBytes] using h
theorem wagtailref15_Put.ref_bytes_calls (n : Int) (h0 : 0 ≤ n) (h1 : n < 18446744073709551616) (w : Nat) (hw : w ≤ 8) (wi : Int) (hwi : (w : Int) = wi) (x : ByteArray) (hx : x = strOfNums (beBytes w n)) (W : World) :
    Calls Try.prog 65 #[.int .i64 wi, .int .u64 n] W fun e w' => ∃ z, e = .returned z ∧ Below W.heap.size W w' ∧ Str w' z x := by
  subst hwi
  refine (wagtailref01_Bytes.calls 9 w n _ W (ref_bytes n h0 h1 w hw)).mono ?_
  rintro e w' ⟨z, rfl, hr, hb⟩
  exact ⟨z, rfl, hb, Str.of_R hr hx⟩
theorem wagtailref15_Put.ref_ones_loop (n : Nat) (hn : n ≤ 2000000) : ∀ (d i : Nat), i + d = n → ∀ k, d < k → wagtailref02_Ones.l0 k (n : Int) (List.replicate i 255) (i : Int) = some (List.replicate n 255) := by
  intro d
  induction d with
  | zero =>
    intro i hi k hk
    obtain ⟨k, rfl⟩ : ∃ m, k = m + 1 := ⟨k - 1, by omega⟩
    have : i = n := by omega
    subst this
    simp only [wagtailref02_Ones.l0]
    rw [if_neg (by omega)]
  | succ d ih =>
    intro i hi k hk
    obtain ⟨k, rfl⟩ : ∃ m, k = m + 1 := ⟨k - 1, by omega⟩
    simp only [wagtailref02_Ones.l0]
    rw [if_pos (by omega), if_pos (by simp; omega)]
    have e1 : List.replicate i (255 : Int) ++ [255] = List.replicate (i + 1) 255 := by rw [List.replicate_succ']
    have e3 : wrap64 ((i : Int) + 1) = ((i + 1 : Nat) : Int) := by unfold wrap64; omega
    rw [e1, e3]
    exact ih (i + 1) (by omega) k (by omega)
theorem wagtailref15_Put.ref_ones_calls (n : Nat) (hn : n ≤ 2000000) (ni : Int) (hni : (n : Int) = ni) (x : ByteArray) (hx : x = strOfNums (List.replicate n 255)) (W : World) :
    Calls Try.prog 28 #[.int .i64 ni] W fun e w' => ∃ z, e = .returned z ∧ Below W.heap.size W w' ∧ Str w' z x := by
  subst hni
  refine (wagtailref02_Ones.calls (n + 1) n _ W (by simpa [wagtailref02_Ones.f] using ref_ones_loop n hn n 0 (by omega) (n + 1) (by omega))).mono ?_
  rintro e w' ⟨z, rfl, hr, hb⟩
  exact ⟨z, rfl, hb, Str.of_R hr hx⟩
theorem wagtailref15_Put.str_append (a b : List Int) : strOfNums a ++ strOfNums b = strOfNums (a ++ b) := by
  apply ByteArray.ext
  simp [strOfNums]
theorem wagtailref15_Put.bytesOf_str (a : List Int) (h : isBytes a) : bytesOf (strOfNums a) = a := by
  unfold bytesOf strOfNums
  simp only [List.map_map]
  conv => rhs; rw [← List.map_id a]
  refine List.map_congr_left (fun x hx => ?_)
  have := h x hx
  simp only [Function.comp, id, UInt8.toNat_ofNat']
  omega
theorem wagtailref15_Put.str_size (a : List Int) : (strOfNums a).size = a.length := by
  simp [strOfNums, ByteArray.size]
theorem wagtailref15_Put.headMay_range {k i c b o l n : Int} (h : headMay k i c b o l n = true) : (1 ≤ k ∧ k ≤ 5) ∧ (1 ≤ c ∧ c ≤ 16) ∧ (0 ≤ i ∧ i < c) ∧ b < 2147483648 ∧ o < 2147483648 ∧ (0 ≤ l ∧ l ≤ 65535) ∧ 0 ≤ n ∧ n ≤ 228 := by
  unfold headMay within at h
  simp only [Bool.and_eq_true, decide_eq_true_eq] at h
  obtain ⟨⟨h1, h2, h3⟩, h4, h5, h6, h7⟩ := h
  refine ⟨h1, h2, ⟨h3.1, ?_⟩, h4, h5, h6, h7⟩
  have := h3.2
  unfold wrap64 at this
  omega
theorem wagtailref15_Put.zsum_snoc (l : List Int) (i : Nat) (h : i < l.length) : zsum (l.take (i + 1)) = zsum (l.take i) + zbits (l.getD i 0) := by
  unfold zsum
  rw [List.take_add_one, List.getElem?_eq_getElem h, List.getD_eq_getElem?_getD, List.getElem?_eq_getElem h, List.map_append, List.sum_append]
  simp only [Option.toList_some, List.map_cons, List.map_nil, List.sum_cons, List.sum_nil, Int.add_zero, Option.getD_some]
theorem wagtailref15_Put.zbits_range (c : Int) : 0 ≤ zbits c ∧ zbits c ≤ 8 := by unfold zbits; omega
theorem wagtailref15_Put.zsum_range (l : List Int) : 0 ≤ zsum l ∧ zsum l ≤ 8 * l.length := by
  induction l with
  | nil => simp [zsum]
  | cons a l ih =>
    have := zbits_range a
    simp only [zsum, List.map_cons, List.sum_cons, List.length_cons] at ih ⊢
    omega
theorem wagtailref15_Put.str_bytes (a : ByteArray) : strOfNums (bytesOf a) = a := by
  apply ByteArray.ext
  simp only [strOfNums, bytesOf, List.map_map]
  have : (fun n : Int => UInt8.ofNat n.toNat) ∘ (fun b : UInt8 => (b.toNat : Int)) = id := by
    funext b
    simp
  rw [this]
  simp
theorem wagtailref15_Put.bytes_isBytes (a : ByteArray) : isBytes (bytesOf a) := by
  intro x hx
  unfold bytesOf at hx
  obtain ⟨b, _, rfl⟩ := List.mem_map.1 hx
  have := b.toNat_lt
  omega
theorem wagtailref15_Put.beBytes_isBytes (w : Nat) (n : Int) : isBytes (beBytes w n) := by
  intro x hx
  unfold beBytes at hx
  obtain ⟨i, _, rfl⟩ := List.mem_map.1 hx
  omega
theorem wagtailref15_Put.pageBody_bytes (k i c b o l n : Int) (d : List Int) (hd : isBytes d) : isBytes (pageBody k i c b o l n d) := by
  intro x hx
  unfold pageBody pageHead at hx
  simp only [List.mem_append, List.mem_cons, List.not_mem_nil, or_false, List.mem_replicate] at hx
  rcases hx with (((((h | h) | h) | h) | h) | h) | h
  · rcases h with rfl | rfl | rfl | rfl <;> omega
  · exact beBytes_isBytes _ _ x h
  · exact beBytes_isBytes _ _ x h
  · exact beBytes_isBytes _ _ x h
  · exact beBytes_isBytes _ _ x h
  · exact hd x h
  · omega
def wagtailref15_Put.T1 : Bool × List (List Nat × List Nat) := (true, [([], []), ([0], [0]), ([1], [1]), ([], []), ([3], [3]), ([4], [4]), ([], []), ([6], [6]), ([7], [7]), ([2, 5, 8], [2, 5, 8]), ([9], [9]), ([], []), ([11], [11]), ([12], [12]), ([13], [13]), ([10, 14], [10, 14]), ([], []), ([16], [16]), ([17, 13], [17]), ([18], [18]), ([15, 19], [15, 19]), ([], []), ([21], [21]), ([22], [22]), ([23, 18], [23]), ([24], [24]), ([20, 25], [20, 25]), ([], []), ([27], [27]), ([28], [28]), ([29, 24], [29]), ([30], [30]), ([26, 31], [26, 31]), ([], []), ([32, 33], [32, 33]), ([34, 30, 0, 1, 2, 3, 4, 5, 6, 7, 8, 9, 10, 11, 12, 13, 14, 15, 16, 17, 18, 19, 20, 21, 22, 23, 24, 25, 26, 27, 28, 29, 30, 31, 32, 33, 34], [34])])
def wagtailref15_Put.B1 : List Nat := [0, 1, 3, 0, 8, 24, 0, 64, 192, 511, 1023, 0, 2048, 6144, 14336, 32767, 0, 65536, 210944, 473088, 1048575, 0, 2097152, 6291456, 15153152, 31930368, 67108863, 0, 134217728, 402653184, 971454464, 2045196288, 4294967295, 0, 17179869183, 34359738367]
theorem wagtailref15_Put.tab1 : rtab .any (opsOf Try.f41 1) = wagtailref15_Put.T1 := by kernel_rfl
theorem wagtailref15_Put.bits1 : waitsOk wagtailref15_Put.T1.2 wagtailref15_Put.B1 = true := by kernel_rfl
set_option maxHeartbeats 8000000 in
set_option maxRecDepth 100000 in
theorem wagtailref15_Put.calls (a0_0 : Int) (a0_1 : Int) (a0_2 : Int) (a0_3 : Int) (a0_4 : Int) (a0_5 : Int) (a0_6 : Int) (a1 : ByteArray) (r : ByteArray) (w : World) (h : wagtailref15_Put.f a0_0 a0_1 a0_2 a0_3 a0_4 a0_5 a0_6 a1 = some r) :
    Calls Try.prog 41 #[.agg #[.int .i64 a0_0, .int .i64 a0_1, .int .i64 a0_2, .int .u64 a0_3, .int .u64 a0_4, .int .i64 a0_5, .int .i64 a0_6], .string a1] w fun e w' => e = .returned (.string r) ∧ Below w.heap.size w w' := by
  unfold wagtailref15_Put.f at h
  by_cases hm : headMay a0_0 a0_1 a0_2 a0_3 a0_4 a0_5 a0_6 = true ∧ 0 ≤ a0_3 ∧ 0 ≤ a0_4 ∧ a1.size ≤ 228
  case neg => rw [if_neg hm] at h; cases h
  rw [if_pos hm] at h
  obtain rfl := Option.some.inj h
  obtain ⟨hm, hb0, ho0, hd⟩ := hm
  clear h
  obtain ⟨L, hL⟩ : ∃ L, L = pageBody a0_0 a0_1 a0_2 a0_3 a0_4 a0_5 a0_6 (bytesOf a1) := ⟨_, rfl⟩
  rw [← hL]
  replace hL := Aside0.mk hL
  have hrg := headMay_range hm
  have X13 := Aside0.mk (wagtailref15_Put.ref_bytes_calls a0_3 hb0 (by omega) 8 (by omega) 8 rfl)
  have X18 := Aside0.mk (wagtailref15_Put.ref_bytes_calls a0_4 ho0 (by omega) 8 (by omega) 8 rfl)
  have X24 := Aside0.mk (wagtailref15_Put.ref_bytes_calls (IntKind.u64.wrap a0_5) (by rw [IntKind.wrap_u64]; omega) (by rw [IntKind.wrap_u64]; omega) 2 (by omega) 2 rfl)
  have X30 := Aside0.mk (wagtailref15_Put.ref_bytes_calls (IntKind.u64.wrap a0_6) (by rw [IntKind.wrap_u64]; omega) (by rw [IntKind.wrap_u64]; omega) 2 (by omega) 2 rfl)
  obtain ⟨x9, hx9⟩ : ∃ x, x = strOfNums [a0_0 % 256, a0_1 % 256, a0_2 % 256, 0] := ⟨_, rfl⟩
  obtain ⟨x13, hx13⟩ : ∃ x, x = strOfNums (beBytes 8 a0_3) := ⟨_, rfl⟩
  obtain ⟨x18, hx18⟩ : ∃ x, x = strOfNums (beBytes 8 a0_4) := ⟨_, rfl⟩
  obtain ⟨x24, hx24⟩ : ∃ x, x = strOfNums (beBytes 2 (IntKind.u64.wrap a0_5)) := ⟨_, rfl⟩
  obtain ⟨x30, hx30⟩ : ∃ x, x = strOfNums (beBytes 2 (IntKind.u64.wrap a0_6)) := ⟨_, rfl⟩
  replace X13 := Aside0.mk (X13.out x13 hx13)
  replace X18 := Aside0.mk (X18.out x18 hx18)
  replace X24 := Aside0.mk (X24.out x24 hx24)
  replace X30 := Aside0.mk (X30.out x30 hx30)
  have X9 := Aside0.mk hx9
  have HS := Aside0.mk (show x9.size = 4 ∧ x13.size = 8 ∧ x18.size = 8 ∧ x24.size = 2 ∧ x30.size = 2 ∧ a1.size ≤ 228 by
    rw [hx9, hx13, hx18, hx24, hx30]
    simp only [wagtailref15_Put.str_size, beBytes_len]
    exact ⟨by simp, trivial, trivial, trivial, trivial, hd⟩)
  have HALL := Aside0.mk (And.intro hm (And.intro hrg (And.intro hd (And.intro hx9 (And.intro hx13 (And.intro hx18 (And.intro hx24 hx30)))))))
  clear hm hb0 ho0 hd hrg hx9 hx13 hx18 hx24 hx30
  go_enter Try.func41, Try.ntmps41
  go_upto_region 1 with fail
  have B1 := Aside0.mk (below_alloc (Below.refl w.heap.size w) (Obj.cells #[Value.int IntKind.i64 a0_0, Value.int IntKind.i64 a0_1, Value.int IntKind.i64 a0_2, Value.int IntKind.u64 a0_3, Value.int IntKind.u64 a0_4, Value.int IntKind.i64 a0_5, Value.int IntKind.i64 a0_6] 50))
  have hz := heap_alloc_new w (Obj.cells #[Value.int IntKind.i64 a0_0, Value.int IntKind.i64 a0_1, Value.int IntKind.i64 a0_2, Value.int IntKind.u64 a0_3, Value.int IntKind.u64 a0_4, Value.int IntKind.i64 a0_5, Value.int IntKind.i64 a0_6] 50)
  have HG := Aside0.mk (show w.heap.size < (w.alloc (Obj.cells #[Value.int IntKind.i64 a0_0, Value.int IntKind.i64 a0_1, Value.int IntKind.i64 a0_2, Value.int IntKind.u64 a0_3, Value.int IntKind.u64 a0_4, Value.int IntKind.i64 a0_5, Value.int IntKind.i64 a0_6] 50)).heap.size by simp)
  generalize (w.alloc (Obj.cells #[Value.int IntKind.i64 a0_0, Value.int IntKind.i64 a0_1, Value.int IntKind.i64 a0_2, Value.int IntKind.u64 a0_3, Value.int IntKind.u64 a0_4, Value.int IntKind.i64 a0_5, Value.int IntKind.i64 a0_6] 50)) = W0 at B1 hz HG ⊢
  have HX0 := Aside0.mk ((blk_cell hz 0).trans rfl)
  have HX1 := Aside0.mk ((blk_cell hz 1).trans rfl)
  have HX2 := Aside0.mk ((blk_cell hz 2).trans rfl)
  have HX3 := Aside0.mk ((blk_cell hz 3).trans rfl)
  have HX4 := Aside0.mk ((blk_cell hz 4).trans rfl)
  have HX5 := Aside0.mk ((blk_cell hz 5).trans rfl)
  have HX6 := Aside0.mk ((blk_cell hz 6).trans rfl)
  clear hz
  have B0 := Aside0.mk (below_drew1 (Below.refl W0.heap.size W0))
  refine start_ (n := 36) (S := fun w' => True) (ds := []) #[false, false, false, false, false, false, false, false, false, false, false, false, false, false, false, false, false, false, false, false, false, false, false, false, false, false, false, false, false, false, false, false, false, false, false, false] (by kernel_rfl) rfl rfl trivial (fun hHeld => ?_)
  refine with_tabW wagtailref15_Put.tab1 wagtailref15_Put.bits1 (fun HT_ HW_ => ?_)
  generalize W0.drew = wq at B0 hHeld ⊢
  refine pure_ (i := 0) (N := some 10) (v := ?_) (a' := ?_) #[true, false, false, false, false, false, false, false, false, false, false, false, false, false, false, false, false, false, false, false, false, false, false, false, false, false, false, false, false, false, false, false, false, false, false, false] rfl rfl (any_of HT_.out (by kernel_rfl)) (fun _ _ _ h => h) (Or.inl ⟨by rfl, ?_⟩) ?_ ?_
  rotate_left
  · intro w'
    go_simp
    with_reducible rfl
  rotate_left
  · simp only [Act.put, List.setIfInBounds_toArray, List.set_cons_zero, List.set_cons_succ, i64_w, i32_w]
    rfl
  refine pure_ (i := 3) (N := some 13) (v := ?_) (a' := ?_) #[true, false, false, true, false, false, false, false, false, false, false, false, false, false, false, false, false, false, false, false, false, false, false, false, false, false, false, false, false, false, false, false, false, false, false, false] rfl rfl (any_of HT_.out (by kernel_rfl)) (fun _ _ _ h => h) (Or.inl ⟨by rfl, ?_⟩) ?_ ?_
  rotate_left
  · intro w'
    go_simp
    with_reducible rfl
  rotate_left
  · simp only [Act.put, List.setIfInBounds_toArray, List.set_cons_zero, List.set_cons_succ, i64_w, i32_w]
    rfl
  refine pure_ (i := 6) (N := some 16) (v := ?_) (a' := ?_) #[true, false, false, true, false, false, true, false, false, false, false, false, false, false, false, false, false, false, false, false, false, false, false, false, false, false, false, false, false, false, false, false, false, false, false, false] rfl rfl (any_of HT_.out (by kernel_rfl)) (fun _ _ _ h => h) (Or.inl ⟨by rfl, ?_⟩) ?_ ?_
  rotate_left
  · intro w'
    go_simp
    with_reducible rfl
  rotate_left
  · simp only [Act.put, List.setIfInBounds_toArray, List.set_cons_zero, List.set_cons_succ, i64_w, i32_w]
    rfl
  refine pure_ (i := 11) (N := some 21) (v := ?_) (a' := ?_) #[true, false, false, true, false, false, true, false, false, false, false, true, false, false, false, false, false, false, false, false, false, false, false, false, false, false, false, false, false, false, false, false, false, false, false, false] rfl rfl (any_of HT_.out (by kernel_rfl)) (fun _ _ _ h => h) (Or.inl ⟨by rfl, ?_⟩) ?_ ?_
  rotate_left
  · intro w'
    go_simp
    with_reducible rfl
  rotate_left
  · simp only [Act.put, List.setIfInBounds_toArray, List.set_cons_zero, List.set_cons_succ, i64_w, i32_w]
    rfl
  refine pure_ (i := 16) (N := some 26) (v := ?_) (a' := ?_) #[true, false, false, true, false, false, true, false, false, false, false, true, false, false, false, false, true, false, false, false, false, false, false, false, false, false, false, false, false, false, false, false, false, false, false, false] rfl rfl (any_of HT_.out (by kernel_rfl)) (fun _ _ _ h => h) (Or.inl ⟨by rfl, ?_⟩) ?_ ?_
  rotate_left
  · intro w'
    go_simp
    with_reducible rfl
  rotate_left
  · simp only [Act.put, List.setIfInBounds_toArray, List.set_cons_zero, List.set_cons_succ, i64_w, i32_w]
    rfl
  refine pure_ (i := 21) (N := some 31) (v := ?_) (a' := ?_) #[true, false, false, true, false, false, true, false, false, false, false, true, false, false, false, false, true, false, false, false, false, true, false, false, false, false, false, false, false, false, false, false, false, false, false, false] rfl rfl (any_of HT_.out (by kernel_rfl)) (fun _ _ _ h => h) (Or.inl ⟨by rfl, ?_⟩) ?_ ?_
  rotate_left
  · intro w'
    go_simp
    with_reducible rfl
  rotate_left
  · simp only [Act.put, List.setIfInBounds_toArray, List.set_cons_zero, List.set_cons_succ, i64_w, i32_w]
    rfl
  refine pure_ (i := 27) (N := some 37) (v := ?_) (a' := ?_) #[true, false, false, true, false, false, true, false, false, false, false, true, false, false, false, false, true, false, false, false, false, true, false, false, false, false, false, true, false, false, false, false, false, false, false, false] rfl rfl (any_of HT_.out (by kernel_rfl)) (fun _ _ _ h => h) (Or.inl ⟨by rfl, ?_⟩) ?_ ?_
  rotate_left
  · intro w'
    go_simp
    with_reducible rfl
  rotate_left
  · simp only [Act.put, List.setIfInBounds_toArray, List.set_cons_zero, List.set_cons_succ, i64_w, i32_w]
    rfl
  refine pure_ (i := 33) (N := some 43) (v := ?_) (a' := ?_) #[true, false, false, true, false, false, true, false, false, false, false, true, false, false, false, false, true, false, false, false, false, true, false, false, false, false, false, true, false, false, false, false, false, true, false, false] rfl rfl (any_of HT_.out (by kernel_rfl)) (fun _ _ _ h => h) (Or.inl ⟨by rfl, ?_⟩) ?_ ?_
  rotate_left
  · intro w'
    go_simp
    with_reducible rfl
  rotate_left
  · simp only [Act.put, List.setIfInBounds_toArray, List.set_cons_zero, List.set_cons_succ, i64_w, i32_w]
    rfl
  refine inv_at [1, 2, 4, 5, 7, 8, 9, 10, 12, 13, 14, 15, 17, 18, 19, 20, 22, 23, 24, 25, 26, 28, 29, 30, 31, 32, 34, 35] (fun a0_ b a w' => ∃ (z9 : Value) (z13 : Value) (z18 : Value) (z24 : Value) (z30 : Value), a = putSel a0_ b [(1, 11, .int .i64 a0_0), (2, 12, .int .u8 (a0_0 % 256)), (4, 14, .int .i64 a0_1), (5, 15, .int .u8 (a0_1 % 256)), (7, 17, .int .i64 a0_2), (8, 18, .int .u8 (a0_2 % 256)), (9, 19, z9), (10, 20, .string x9), (12, 22, .int .u64 a0_3), (13, 23, z13), (14, 24, .string x13), (15, 25, .string (x9 ++ x13)), (17, 27, .int .u64 a0_4), (18, 28, z18), (19, 29, .string x18), (20, 30, .string ((x9 ++ x13) ++ x18)), (22, 32, .int .i64 a0_5), (23, 33, .int .u64 (IntKind.u64.wrap a0_5)), (24, 34, z24), (25, 35, .string x24), (26, 36, .string (((x9 ++ x13) ++ x18) ++ x24)), (28, 38, .int .i64 a0_6), (29, 39, .int .u64 (IntKind.u64.wrap a0_6)), (30, 40, z30), (31, 41, .string x30), (32, 42, .string ((((x9 ++ x13) ++ x18) ++ x24) ++ x30)), (34, 44, .string (((((x9 ++ x13) ++ x18) ++ x24) ++ x30) ++ a1)), (35, 5, .string (((((x9 ++ x13) ++ x18) ++ x24) ++ x30) ++ a1))] ∧ (Below W0.heap.size W0 w') ∧ (b 9 = true → Str w' z9 x9) ∧ (b 13 = true → Str w' z13 x13) ∧ (b 18 = true → Str w' z18 x18) ∧ (b 24 = true → Str w' z24 x24) ∧ (b 30 = true → Str w' z30 x30)) HT_.out HW_.out (by kernel_rfl) (by kernel_rfl) ?_ ?_ ?_
  · exact ⟨.bool false, .bool false, .bool false, .bool false, .bool false, by simp only [putSel, Bool.false_eq_true, if_false], B0.out, fun h_ => absurd h_ (by decide), fun h_ => absurd h_ (by decide), fun h_ => absurd h_ (by decide), fun h_ => absurd h_ (by decide), fun h_ => absurd h_ (by decide)⟩
  · skip
    clear B0
    refine steps_cons ?_ ?_
    · rintro b a w' ⟨z9, z13, z18, z24, z30, ha, Q_B0, Q_S9, Q_S13, Q_S18, Q_S24, Q_S30⟩ hb_ hon hoff
      refine ⟨_, rfl, fun K hK => ?_⟩
      have e10 : a.tmps[10]? = some (.pointer (some ⟨w.heap.size, 0, none⟩)) := by rw [ha]; exact (putSel_off rfl).trans rfl
      replace ha := Aside0.mk ha
      have B0 := Aside0.mk Q_B0
      have hc_ := (B0.out.cell (p := ⟨w.heap.size, 0, none⟩) HG.out).trans HX0.out
      refine value_ (w1 := w') (v := .int .i64 a0_0) (by rfl) rfl ?_ ?_
      · go_simp
        (try simp only [i64_w])
        try rfl
      refine hK.out _ _ ⟨z9, z13, z18, z24, z30, (by rw [ha.out]; exact putSel_upk 0 hb_ rfl rfl rfl), Q_B0, fun h0_ => absurd ((hoff 9 (by kernel_rfl)).symm.trans h0_) (by decide), Q_S13, Q_S18, Q_S24, Q_S30⟩
    refine steps_cons ?_ ?_
    · rintro b a w' ⟨z9, z13, z18, z24, z30, ha, Q_B0, Q_S9, Q_S13, Q_S18, Q_S24, Q_S30⟩ hb_ hon hoff
      refine ⟨_, rfl, fun K hK => ?_⟩
      have e11 : a.tmps[11]? = some (.int .i64 a0_0) := by rw [ha]; exact putSel_on (e := (1, 11, .int .i64 a0_0)) 0 rfl rfl (hon 1 (by kernel_rfl)) rfl
      replace ha := Aside0.mk ha
      have B0 := Aside0.mk Q_B0
      refine value_ (w1 := w') (v := .int .u8 (a0_0 % 256)) (by rfl) rfl ?_ ?_
      · go_simp
        (try simp only [i64_w])
        try rfl
      refine hK.out _ _ ⟨z9, z13, z18, z24, z30, (by rw [ha.out]; exact putSel_upk 1 hb_ rfl rfl rfl), Q_B0, fun h0_ => absurd ((hoff 9 (by kernel_rfl)).symm.trans h0_) (by decide), Q_S13, Q_S18, Q_S24, Q_S30⟩
    refine steps_cons ?_ ?_
    · rintro b a w' ⟨z9, z13, z18, z24, z30, ha, Q_B0, Q_S9, Q_S13, Q_S18, Q_S24, Q_S30⟩ hb_ hon hoff
      refine ⟨_, rfl, fun K hK => ?_⟩
      have e13 : a.tmps[13]? = some (.pointer (some ⟨w.heap.size, 1, none⟩)) := by rw [ha]; exact (putSel_off rfl).trans rfl
      replace ha := Aside0.mk ha
      have B0 := Aside0.mk Q_B0
      have hc_ := (B0.out.cell (p := ⟨w.heap.size, 1, none⟩) HG.out).trans HX1.out
      refine value_ (w1 := w') (v := .int .i64 a0_1) (by rfl) rfl ?_ ?_
      · go_simp
        (try simp only [i64_w])
        try rfl
      refine hK.out _ _ ⟨z9, z13, z18, z24, z30, (by rw [ha.out]; exact putSel_upk 2 hb_ rfl rfl rfl), Q_B0, fun h0_ => absurd ((hoff 9 (by kernel_rfl)).symm.trans h0_) (by decide), Q_S13, Q_S18, Q_S24, Q_S30⟩
    refine steps_cons ?_ ?_
    · rintro b a w' ⟨z9, z13, z18, z24, z30, ha, Q_B0, Q_S9, Q_S13, Q_S18, Q_S24, Q_S30⟩ hb_ hon hoff
      refine ⟨_, rfl, fun K hK => ?_⟩
      have e14 : a.tmps[14]? = some (.int .i64 a0_1) := by rw [ha]; exact putSel_on (e := (4, 14, .int .i64 a0_1)) 2 rfl rfl (hon 4 (by kernel_rfl)) rfl
      replace ha := Aside0.mk ha
      have B0 := Aside0.mk Q_B0
      refine value_ (w1 := w') (v := .int .u8 (a0_1 % 256)) (by rfl) rfl ?_ ?_
      · go_simp
        (try simp only [i64_w])
        try rfl
      refine hK.out _ _ ⟨z9, z13, z18, z24, z30, (by rw [ha.out]; exact putSel_upk 3 hb_ rfl rfl rfl), Q_B0, fun h0_ => absurd ((hoff 9 (by kernel_rfl)).symm.trans h0_) (by decide), Q_S13, Q_S18, Q_S24, Q_S30⟩
    refine steps_cons ?_ ?_
    · rintro b a w' ⟨z9, z13, z18, z24, z30, ha, Q_B0, Q_S9, Q_S13, Q_S18, Q_S24, Q_S30⟩ hb_ hon hoff
      refine ⟨_, rfl, fun K hK => ?_⟩
      have e16 : a.tmps[16]? = some (.pointer (some ⟨w.heap.size, 2, none⟩)) := by rw [ha]; exact (putSel_off rfl).trans rfl
      replace ha := Aside0.mk ha
      have B0 := Aside0.mk Q_B0
      have hc_ := (B0.out.cell (p := ⟨w.heap.size, 2, none⟩) HG.out).trans HX2.out
      refine value_ (w1 := w') (v := .int .i64 a0_2) (by rfl) rfl ?_ ?_
      · go_simp
        (try simp only [i64_w])
        try rfl
      refine hK.out _ _ ⟨z9, z13, z18, z24, z30, (by rw [ha.out]; exact putSel_upk 4 hb_ rfl rfl rfl), Q_B0, fun h0_ => absurd ((hoff 9 (by kernel_rfl)).symm.trans h0_) (by decide), Q_S13, Q_S18, Q_S24, Q_S30⟩
    refine steps_cons ?_ ?_
    · rintro b a w' ⟨z9, z13, z18, z24, z30, ha, Q_B0, Q_S9, Q_S13, Q_S18, Q_S24, Q_S30⟩ hb_ hon hoff
      refine ⟨_, rfl, fun K hK => ?_⟩
      have e17 : a.tmps[17]? = some (.int .i64 a0_2) := by rw [ha]; exact putSel_on (e := (7, 17, .int .i64 a0_2)) 4 rfl rfl (hon 7 (by kernel_rfl)) rfl
      replace ha := Aside0.mk ha
      have B0 := Aside0.mk Q_B0
      refine value_ (w1 := w') (v := .int .u8 (a0_2 % 256)) (by rfl) rfl ?_ ?_
      · go_simp
        (try simp only [i64_w])
        try rfl
      refine hK.out _ _ ⟨z9, z13, z18, z24, z30, (by rw [ha.out]; exact putSel_upk 5 hb_ rfl rfl rfl), Q_B0, fun h0_ => absurd ((hoff 9 (by kernel_rfl)).symm.trans h0_) (by decide), Q_S13, Q_S18, Q_S24, Q_S30⟩
    refine steps_cons ?_ ?_
    · rintro b a w' ⟨z9, z13, z18, z24, z30, ha, Q_B0, Q_S9, Q_S13, Q_S18, Q_S24, Q_S30⟩ hb_ hon hoff
      refine ⟨_, rfl, fun K hK => ?_⟩
      have e12 : a.tmps[12]? = some (.int .u8 (a0_0 % 256)) := by rw [ha]; exact putSel_on (e := (2, 12, .int .u8 (a0_0 % 256))) 1 rfl rfl (hon 2 (by kernel_rfl)) rfl
      have e15 : a.tmps[15]? = some (.int .u8 (a0_1 % 256)) := by rw [ha]; exact putSel_on (e := (5, 15, .int .u8 (a0_1 % 256))) 3 rfl rfl (hon 5 (by kernel_rfl)) rfl
      have e18 : a.tmps[18]? = some (.int .u8 (a0_2 % 256)) := by rw [ha]; exact putSel_on (e := (8, 18, .int .u8 (a0_2 % 256))) 5 rfl rfl (hon 8 (by kernel_rfl)) rfl
      replace ha := Aside0.mk ha
      have B0 := Aside0.mk Q_B0
      refine Kd.R_lit_step (Kd.int .u8) w'.heap.size 5 (by rfl) (N := 19) ?hd (xs := [(a0_0 % 256), (a0_1 % 256), (a0_2 % 256), 0]) (inner := [.int .u8 (a0_0 % 256), .int .u8 (a0_1 % 256), .int .u8 (a0_2 % 256), .int .u8 0]) (ok := fun _ => True) (okp := fun _ => True) ?hr ?hp (fun _ hk => hk) trivial (Below.refl _ _) (Nat.le_refl _) (by simp) ?_
      case hd => rfl
      case hr => first | (go_simp; done) | (go_simp; rfl)
      case hp => exact (Reps.one (show Kd.M (Kd.int .u8) _ _ _ (a0_0 % 256) [.int .u8 (a0_0 % 256)] from rfl) (Reps.one (show Kd.M (Kd.int .u8) _ _ _ (a0_1 % 256) [.int .u8 (a0_1 % 256)] from rfl) (Reps.one (show Kd.M (Kd.int .u8) _ _ _ (a0_2 % 256) [.int .u8 (a0_2 % 256)] from rfl) (Reps.one (show Kd.M (Kd.int .u8) _ _ _ 0 [.int .u8 0] from rfl) ((Reps.none _ _))))))
      intro z w2 ho hb hg_ hnew_
      clear hg_ hnew_
      have hs := Str.of_R ho X9.out
      refine hK.out _ _ ⟨z, z13, z18, z24, z30, (by rw [ha.out]; exact putSel_upk 6 hb_ rfl rfl rfl), below_then B0.out B0.out.size hb, fun _ => hs, fun h0_ => Str.step (Q_S13 h0_) hb, fun h0_ => Str.step (Q_S18 h0_) hb, fun h0_ => Str.step (Q_S24 h0_) hb, fun h0_ => Str.step (Q_S30 h0_) hb⟩
    refine steps_cons ?_ ?_
    · rintro b a w' ⟨z9, z13, z18, z24, z30, ha, Q_B0, Q_S9, Q_S13, Q_S18, Q_S24, Q_S30⟩ hb_ hon hoff
      refine ⟨_, rfl, fun K hK => ?_⟩
      have e19 : a.tmps[19]? = some (z9) := by rw [ha]; exact putSel_on (e := (9, 19, z9)) 6 rfl rfl (hon 9 (by kernel_rfl)) rfl
      replace ha := Aside0.mk ha
      have B0 := Aside0.mk Q_B0
      have S9 := Aside0.mk (Q_S9 (hon 9 (by kernel_rfl)))
      have hs_ := S9.out.here
      refine value_ (w1 := w') (v := .string x9) (by rfl) rfl ?_ ?_
      · go_simp
        (try simp only [i64_w])
        try rfl
      refine hK.out _ _ ⟨z9, z13, z18, z24, z30, (by rw [ha.out]; exact putSel_upk 7 hb_ rfl rfl rfl), Q_B0, Q_S9, Q_S13, Q_S18, Q_S24, Q_S30⟩
    refine steps_cons ?_ ?_
    · rintro b a w' ⟨z9, z13, z18, z24, z30, ha, Q_B0, Q_S9, Q_S13, Q_S18, Q_S24, Q_S30⟩ hb_ hon hoff
      refine ⟨_, rfl, fun K hK => ?_⟩
      have e21 : a.tmps[21]? = some (.pointer (some ⟨w.heap.size, 3, none⟩)) := by rw [ha]; exact (putSel_off rfl).trans rfl
      replace ha := Aside0.mk ha
      have B0 := Aside0.mk Q_B0
      have hc_ := (B0.out.cell (p := ⟨w.heap.size, 3, none⟩) HG.out).trans HX3.out
      refine value_ (w1 := w') (v := .int .u64 a0_3) (by rfl) rfl ?_ ?_
      · go_simp
        (try simp only [i64_w])
        try rfl
      refine hK.out _ _ ⟨z9, z13, z18, z24, z30, (by rw [ha.out]; exact putSel_upk 8 hb_ rfl rfl rfl), Q_B0, Q_S9, fun h0_ => absurd ((hoff 13 (by kernel_rfl)).symm.trans h0_) (by decide), fun h0_ => absurd ((hoff 18 (by kernel_rfl)).symm.trans h0_) (by decide), fun h0_ => absurd ((hoff 24 (by kernel_rfl)).symm.trans h0_) (by decide), fun h0_ => absurd ((hoff 30 (by kernel_rfl)).symm.trans h0_) (by decide)⟩
    refine steps_cons ?_ ?_
    · rintro b a w' ⟨z9, z13, z18, z24, z30, ha, Q_B0, Q_S9, Q_S13, Q_S18, Q_S24, Q_S30⟩ hb_ hon hoff
      refine ⟨_, rfl, fun K hK => ?_⟩
      have e22 : a.tmps[22]? = some (.int .u64 a0_3) := by rw [ha]; exact putSel_on (e := (12, 22, .int .u64 a0_3)) 8 rfl rfl (hon 12 (by kernel_rfl)) rfl
      replace ha := Aside0.mk ha
      have B0 := Aside0.mk Q_B0
      refine goes_ Try.func65 (by kernel_rfl) rfl #[.int .i64 8, .int .u64 a0_3] (by rfl) rfl rfl (by first | (simp only [List.map_toArray, List.map_cons, List.map_nil, Act.eval, Array.getD_eq_getD_getElem?, Option.getD_some, e22]; done) | (simp only [List.map_toArray, List.map_cons, List.map_nil, Act.eval, Array.getD_eq_getD_getElem?, Option.getD_some, e22]; rfl)) ?_
      with_reducible refine (X13.out _).mono ?_
      rintro e w2 ⟨z, rfl, hb, hs⟩
      refine ⟨_, rfl, ?_⟩
      refine hK.out _ _ ⟨z9, z, z18, z24, z30, (by rw [ha.out]; exact putSel_upk 9 hb_ rfl rfl rfl), below_then B0.out B0.out.size hb, fun h0_ => Str.step (Q_S9 h0_) hb, fun _ => hs, fun h0_ => absurd ((hoff 18 (by kernel_rfl)).symm.trans h0_) (by decide), fun h0_ => absurd ((hoff 24 (by kernel_rfl)).symm.trans h0_) (by decide), fun h0_ => absurd ((hoff 30 (by kernel_rfl)).symm.trans h0_) (by decide)⟩
    refine steps_cons ?_ ?_
    · rintro b a w' ⟨z9, z13, z18, z24, z30, ha, Q_B0, Q_S9, Q_S13, Q_S18, Q_S24, Q_S30⟩ hb_ hon hoff
      refine ⟨_, rfl, fun K hK => ?_⟩
      have e23 : a.tmps[23]? = some (z13) := by rw [ha]; exact putSel_on (e := (13, 23, z13)) 9 rfl rfl (hon 13 (by kernel_rfl)) rfl
      replace ha := Aside0.mk ha
      have B0 := Aside0.mk Q_B0
      have S13 := Aside0.mk (Q_S13 (hon 13 (by kernel_rfl)))
      have hs_ := S13.out.here
      refine value_ (w1 := w') (v := .string x13) (by rfl) rfl ?_ ?_
      · go_simp
        (try simp only [i64_w])
        try rfl
      refine hK.out _ _ ⟨z9, z13, z18, z24, z30, (by rw [ha.out]; exact putSel_upk 10 hb_ rfl rfl rfl), Q_B0, Q_S9, Q_S13, Q_S18, Q_S24, Q_S30⟩
    refine steps_cons ?_ ?_
    · rintro b a w' ⟨z9, z13, z18, z24, z30, ha, Q_B0, Q_S9, Q_S13, Q_S18, Q_S24, Q_S30⟩ hb_ hon hoff
      refine ⟨_, rfl, fun K hK => ?_⟩
      have e20 : a.tmps[20]? = some (.string x9) := by rw [ha]; exact putSel_on (e := (10, 20, .string x9)) 7 rfl rfl (hon 10 (by kernel_rfl)) rfl
      have e24 : a.tmps[24]? = some (.string x13) := by rw [ha]; exact putSel_on (e := (14, 24, .string x13)) 10 rfl rfl (hon 14 (by kernel_rfl)) rfl
      replace ha := Aside0.mk ha
      have B0 := Aside0.mk Q_B0
      have S9 := Aside0.mk (Q_S9 (hon 9 (by kernel_rfl)))
      have S13 := Aside0.mk (Q_S13 (hon 13 (by kernel_rfl)))
      have hs_ : x9.size + x13.size ≤ 9223372036854775807 := by have := HS.out; omega
      refine value_ (w1 := w') (v := .string (x9 ++ x13)) (by rfl) rfl ?_ ?_
      · go_simp
        (try simp only [i64_w])
        try rfl
      refine hK.out _ _ ⟨z9, z13, z18, z24, z30, (by rw [ha.out]; exact putSel_upk 11 hb_ rfl rfl rfl), Q_B0, Q_S9, Q_S13, Q_S18, Q_S24, Q_S30⟩
    refine steps_cons ?_ ?_
    · rintro b a w' ⟨z9, z13, z18, z24, z30, ha, Q_B0, Q_S9, Q_S13, Q_S18, Q_S24, Q_S30⟩ hb_ hon hoff
      refine ⟨_, rfl, fun K hK => ?_⟩
      have e26 : a.tmps[26]? = some (.pointer (some ⟨w.heap.size, 4, none⟩)) := by rw [ha]; exact (putSel_off rfl).trans rfl
      replace ha := Aside0.mk ha
      have B0 := Aside0.mk Q_B0
      have hc_ := (B0.out.cell (p := ⟨w.heap.size, 4, none⟩) HG.out).trans HX4.out
      refine value_ (w1 := w') (v := .int .u64 a0_4) (by rfl) rfl ?_ ?_
      · go_simp
        (try simp only [i64_w])
        try rfl
      refine hK.out _ _ ⟨z9, z13, z18, z24, z30, (by rw [ha.out]; exact putSel_upk 12 hb_ rfl rfl rfl), Q_B0, Q_S9, Q_S13, fun h0_ => absurd ((hoff 18 (by kernel_rfl)).symm.trans h0_) (by decide), fun h0_ => absurd ((hoff 24 (by kernel_rfl)).symm.trans h0_) (by decide), fun h0_ => absurd ((hoff 30 (by kernel_rfl)).symm.trans h0_) (by decide)⟩
    refine steps_cons ?_ ?_
    · rintro b a w' ⟨z9, z13, z18, z24, z30, ha, Q_B0, Q_S9, Q_S13, Q_S18, Q_S24, Q_S30⟩ hb_ hon hoff
      refine ⟨_, rfl, fun K hK => ?_⟩
      have e27 : a.tmps[27]? = some (.int .u64 a0_4) := by rw [ha]; exact putSel_on (e := (17, 27, .int .u64 a0_4)) 12 rfl rfl (hon 17 (by kernel_rfl)) rfl
      replace ha := Aside0.mk ha
      have B0 := Aside0.mk Q_B0
      have S13 := Aside0.mk (Q_S13 (hon 13 (by kernel_rfl)))
      refine goes_ Try.func65 (by kernel_rfl) rfl #[.int .i64 8, .int .u64 a0_4] (by rfl) rfl rfl (by first | (simp only [List.map_toArray, List.map_cons, List.map_nil, Act.eval, Array.getD_eq_getD_getElem?, Option.getD_some, e27]; done) | (simp only [List.map_toArray, List.map_cons, List.map_nil, Act.eval, Array.getD_eq_getD_getElem?, Option.getD_some, e27]; rfl)) ?_
      with_reducible refine (X18.out _).mono ?_
      rintro e w2 ⟨z, rfl, hb, hs⟩
      refine ⟨_, rfl, ?_⟩
      refine hK.out _ _ ⟨z9, z13, z, z24, z30, (by rw [ha.out]; exact putSel_upk 13 hb_ rfl rfl rfl), below_then B0.out B0.out.size hb, fun h0_ => Str.step (Q_S9 h0_) hb, fun _ => Str.step S13.out hb, fun _ => hs, fun h0_ => absurd ((hoff 24 (by kernel_rfl)).symm.trans h0_) (by decide), fun h0_ => absurd ((hoff 30 (by kernel_rfl)).symm.trans h0_) (by decide)⟩
    refine steps_cons ?_ ?_
    · rintro b a w' ⟨z9, z13, z18, z24, z30, ha, Q_B0, Q_S9, Q_S13, Q_S18, Q_S24, Q_S30⟩ hb_ hon hoff
      refine ⟨_, rfl, fun K hK => ?_⟩
      have e28 : a.tmps[28]? = some (z18) := by rw [ha]; exact putSel_on (e := (18, 28, z18)) 13 rfl rfl (hon 18 (by kernel_rfl)) rfl
      replace ha := Aside0.mk ha
      have B0 := Aside0.mk Q_B0
      have S13 := Aside0.mk (Q_S13 (hon 13 (by kernel_rfl)))
      have S18 := Aside0.mk (Q_S18 (hon 18 (by kernel_rfl)))
      have hs_ := S18.out.here
      refine value_ (w1 := w') (v := .string x18) (by rfl) rfl ?_ ?_
      · go_simp
        (try simp only [i64_w])
        try rfl
      refine hK.out _ _ ⟨z9, z13, z18, z24, z30, (by rw [ha.out]; exact putSel_upk 14 hb_ rfl rfl rfl), Q_B0, Q_S9, Q_S13, Q_S18, Q_S24, Q_S30⟩
    refine steps_cons ?_ ?_
    · rintro b a w' ⟨z9, z13, z18, z24, z30, ha, Q_B0, Q_S9, Q_S13, Q_S18, Q_S24, Q_S30⟩ hb_ hon hoff
      refine ⟨_, rfl, fun K hK => ?_⟩
      have e25 : a.tmps[25]? = some (.string (x9 ++ x13)) := by rw [ha]; exact putSel_on (e := (15, 25, .string (x9 ++ x13))) 11 rfl rfl (hon 15 (by kernel_rfl)) rfl
      have e29 : a.tmps[29]? = some (.string x18) := by rw [ha]; exact putSel_on (e := (19, 29, .string x18)) 14 rfl rfl (hon 19 (by kernel_rfl)) rfl
      replace ha := Aside0.mk ha
      have B0 := Aside0.mk Q_B0
      have S9 := Aside0.mk (Q_S9 (hon 9 (by kernel_rfl)))
      have S13 := Aside0.mk (Q_S13 (hon 13 (by kernel_rfl)))
      have S18 := Aside0.mk (Q_S18 (hon 18 (by kernel_rfl)))
      have hs_ : x9.size + x13.size + x18.size ≤ 9223372036854775807 := by have := HS.out; omega
      refine value_ (w1 := w') (v := .string ((x9 ++ x13) ++ x18)) (by rfl) rfl ?_ ?_
      · go_simp
        (try simp only [i64_w])
        try rfl
      refine hK.out _ _ ⟨z9, z13, z18, z24, z30, (by rw [ha.out]; exact putSel_upk 15 hb_ rfl rfl rfl), Q_B0, Q_S9, Q_S13, Q_S18, Q_S24, Q_S30⟩
    refine steps_cons ?_ ?_
    · rintro b a w' ⟨z9, z13, z18, z24, z30, ha, Q_B0, Q_S9, Q_S13, Q_S18, Q_S24, Q_S30⟩ hb_ hon hoff
      refine ⟨_, rfl, fun K hK => ?_⟩
      have e31 : a.tmps[31]? = some (.pointer (some ⟨w.heap.size, 5, none⟩)) := by rw [ha]; exact (putSel_off rfl).trans rfl
      replace ha := Aside0.mk ha
      have B0 := Aside0.mk Q_B0
      have hc_ := (B0.out.cell (p := ⟨w.heap.size, 5, none⟩) HG.out).trans HX5.out
      refine value_ (w1 := w') (v := .int .i64 a0_5) (by rfl) rfl ?_ ?_
      · go_simp
        (try simp only [i64_w])
        try rfl
      refine hK.out _ _ ⟨z9, z13, z18, z24, z30, (by rw [ha.out]; exact putSel_upk 16 hb_ rfl rfl rfl), Q_B0, Q_S9, Q_S13, Q_S18, fun h0_ => absurd ((hoff 24 (by kernel_rfl)).symm.trans h0_) (by decide), fun h0_ => absurd ((hoff 30 (by kernel_rfl)).symm.trans h0_) (by decide)⟩
    refine steps_cons ?_ ?_
    · rintro b a w' ⟨z9, z13, z18, z24, z30, ha, Q_B0, Q_S9, Q_S13, Q_S18, Q_S24, Q_S30⟩ hb_ hon hoff
      refine ⟨_, rfl, fun K hK => ?_⟩
      have e32 : a.tmps[32]? = some (.int .i64 a0_5) := by rw [ha]; exact putSel_on (e := (22, 32, .int .i64 a0_5)) 16 rfl rfl (hon 22 (by kernel_rfl)) rfl
      replace ha := Aside0.mk ha
      have B0 := Aside0.mk Q_B0
      refine value_ (w1 := w') (v := .int .u64 (IntKind.u64.wrap a0_5)) (by rfl) rfl ?_ ?_
      · go_simp
        (try simp only [i64_w])
        try rfl
      refine hK.out _ _ ⟨z9, z13, z18, z24, z30, (by rw [ha.out]; exact putSel_upk 17 hb_ rfl rfl rfl), Q_B0, Q_S9, Q_S13, Q_S18, fun h0_ => absurd ((hoff 24 (by kernel_rfl)).symm.trans h0_) (by decide), fun h0_ => absurd ((hoff 30 (by kernel_rfl)).symm.trans h0_) (by decide)⟩
    refine steps_cons ?_ ?_
    · rintro b a w' ⟨z9, z13, z18, z24, z30, ha, Q_B0, Q_S9, Q_S13, Q_S18, Q_S24, Q_S30⟩ hb_ hon hoff
      refine ⟨_, rfl, fun K hK => ?_⟩
      have e33 : a.tmps[33]? = some (.int .u64 (IntKind.u64.wrap a0_5)) := by rw [ha]; exact putSel_on (e := (23, 33, .int .u64 (IntKind.u64.wrap a0_5))) 17 rfl rfl (hon 23 (by kernel_rfl)) rfl
      replace ha := Aside0.mk ha
      have B0 := Aside0.mk Q_B0
      have S13 := Aside0.mk (Q_S13 (hon 13 (by kernel_rfl)))
      have S18 := Aside0.mk (Q_S18 (hon 18 (by kernel_rfl)))
      refine goes_ Try.func65 (by kernel_rfl) rfl #[.int .i64 2, .int .u64 (IntKind.u64.wrap a0_5)] (by rfl) rfl rfl (by first | (simp only [List.map_toArray, List.map_cons, List.map_nil, Act.eval, Array.getD_eq_getD_getElem?, Option.getD_some, e33]; done) | (simp only [List.map_toArray, List.map_cons, List.map_nil, Act.eval, Array.getD_eq_getD_getElem?, Option.getD_some, e33]; rfl)) ?_
      with_reducible refine (X24.out _).mono ?_
      rintro e w2 ⟨z, rfl, hb, hs⟩
      refine ⟨_, rfl, ?_⟩
      refine hK.out _ _ ⟨z9, z13, z18, z, z30, (by rw [ha.out]; exact putSel_upk 18 hb_ rfl rfl rfl), below_then B0.out B0.out.size hb, fun h0_ => Str.step (Q_S9 h0_) hb, fun _ => Str.step S13.out hb, fun _ => Str.step S18.out hb, fun _ => hs, fun h0_ => absurd ((hoff 30 (by kernel_rfl)).symm.trans h0_) (by decide)⟩
    refine steps_cons ?_ ?_
    · rintro b a w' ⟨z9, z13, z18, z24, z30, ha, Q_B0, Q_S9, Q_S13, Q_S18, Q_S24, Q_S30⟩ hb_ hon hoff
      refine ⟨_, rfl, fun K hK => ?_⟩
      have e34 : a.tmps[34]? = some (z24) := by rw [ha]; exact putSel_on (e := (24, 34, z24)) 18 rfl rfl (hon 24 (by kernel_rfl)) rfl
      replace ha := Aside0.mk ha
      have B0 := Aside0.mk Q_B0
      have S13 := Aside0.mk (Q_S13 (hon 13 (by kernel_rfl)))
      have S18 := Aside0.mk (Q_S18 (hon 18 (by kernel_rfl)))
      have S24 := Aside0.mk (Q_S24 (hon 24 (by kernel_rfl)))
      have hs_ := S24.out.here
      refine value_ (w1 := w') (v := .string x24) (by rfl) rfl ?_ ?_
      · go_simp
        (try simp only [i64_w])
        try rfl
      refine hK.out _ _ ⟨z9, z13, z18, z24, z30, (by rw [ha.out]; exact putSel_upk 19 hb_ rfl rfl rfl), Q_B0, Q_S9, Q_S13, Q_S18, Q_S24, Q_S30⟩
    refine steps_cons ?_ ?_
    · rintro b a w' ⟨z9, z13, z18, z24, z30, ha, Q_B0, Q_S9, Q_S13, Q_S18, Q_S24, Q_S30⟩ hb_ hon hoff
      refine ⟨_, rfl, fun K hK => ?_⟩
      have e30 : a.tmps[30]? = some (.string ((x9 ++ x13) ++ x18)) := by rw [ha]; exact putSel_on (e := (20, 30, .string ((x9 ++ x13) ++ x18))) 15 rfl rfl (hon 20 (by kernel_rfl)) rfl
      have e35 : a.tmps[35]? = some (.string x24) := by rw [ha]; exact putSel_on (e := (25, 35, .string x24)) 19 rfl rfl (hon 25 (by kernel_rfl)) rfl
      replace ha := Aside0.mk ha
      have B0 := Aside0.mk Q_B0
      have S9 := Aside0.mk (Q_S9 (hon 9 (by kernel_rfl)))
      have S13 := Aside0.mk (Q_S13 (hon 13 (by kernel_rfl)))
      have S18 := Aside0.mk (Q_S18 (hon 18 (by kernel_rfl)))
      have S24 := Aside0.mk (Q_S24 (hon 24 (by kernel_rfl)))
      have hs_ : x9.size + x13.size + x18.size + x24.size ≤ 9223372036854775807 := by have := HS.out; omega
      refine value_ (w1 := w') (v := .string (((x9 ++ x13) ++ x18) ++ x24)) (by rfl) rfl ?_ ?_
      · go_simp
        (try simp only [i64_w])
        try rfl
      refine hK.out _ _ ⟨z9, z13, z18, z24, z30, (by rw [ha.out]; exact putSel_upk 20 hb_ rfl rfl rfl), Q_B0, Q_S9, Q_S13, Q_S18, Q_S24, Q_S30⟩
    refine steps_cons ?_ ?_
    · rintro b a w' ⟨z9, z13, z18, z24, z30, ha, Q_B0, Q_S9, Q_S13, Q_S18, Q_S24, Q_S30⟩ hb_ hon hoff
      refine ⟨_, rfl, fun K hK => ?_⟩
      have e37 : a.tmps[37]? = some (.pointer (some ⟨w.heap.size, 6, none⟩)) := by rw [ha]; exact (putSel_off rfl).trans rfl
      replace ha := Aside0.mk ha
      have B0 := Aside0.mk Q_B0
      have hc_ := (B0.out.cell (p := ⟨w.heap.size, 6, none⟩) HG.out).trans HX6.out
      refine value_ (w1 := w') (v := .int .i64 a0_6) (by rfl) rfl ?_ ?_
      · go_simp
        (try simp only [i64_w])
        try rfl
      refine hK.out _ _ ⟨z9, z13, z18, z24, z30, (by rw [ha.out]; exact putSel_upk 21 hb_ rfl rfl rfl), Q_B0, Q_S9, Q_S13, Q_S18, Q_S24, fun h0_ => absurd ((hoff 30 (by kernel_rfl)).symm.trans h0_) (by decide)⟩
    refine steps_cons ?_ ?_
    · rintro b a w' ⟨z9, z13, z18, z24, z30, ha, Q_B0, Q_S9, Q_S13, Q_S18, Q_S24, Q_S30⟩ hb_ hon hoff
      refine ⟨_, rfl, fun K hK => ?_⟩
      have e38 : a.tmps[38]? = some (.int .i64 a0_6) := by rw [ha]; exact putSel_on (e := (28, 38, .int .i64 a0_6)) 21 rfl rfl (hon 28 (by kernel_rfl)) rfl
      replace ha := Aside0.mk ha
      have B0 := Aside0.mk Q_B0
      refine value_ (w1 := w') (v := .int .u64 (IntKind.u64.wrap a0_6)) (by rfl) rfl ?_ ?_
      · go_simp
        (try simp only [i64_w])
        try rfl
      refine hK.out _ _ ⟨z9, z13, z18, z24, z30, (by rw [ha.out]; exact putSel_upk 22 hb_ rfl rfl rfl), Q_B0, Q_S9, Q_S13, Q_S18, Q_S24, fun h0_ => absurd ((hoff 30 (by kernel_rfl)).symm.trans h0_) (by decide)⟩
    refine steps_cons ?_ ?_
    · rintro b a w' ⟨z9, z13, z18, z24, z30, ha, Q_B0, Q_S9, Q_S13, Q_S18, Q_S24, Q_S30⟩ hb_ hon hoff
      refine ⟨_, rfl, fun K hK => ?_⟩
      have e39 : a.tmps[39]? = some (.int .u64 (IntKind.u64.wrap a0_6)) := by rw [ha]; exact putSel_on (e := (29, 39, .int .u64 (IntKind.u64.wrap a0_6))) 22 rfl rfl (hon 29 (by kernel_rfl)) rfl
      replace ha := Aside0.mk ha
      have B0 := Aside0.mk Q_B0
      have S13 := Aside0.mk (Q_S13 (hon 13 (by kernel_rfl)))
      have S18 := Aside0.mk (Q_S18 (hon 18 (by kernel_rfl)))
      have S24 := Aside0.mk (Q_S24 (hon 24 (by kernel_rfl)))
      refine goes_ Try.func65 (by kernel_rfl) rfl #[.int .i64 2, .int .u64 (IntKind.u64.wrap a0_6)] (by rfl) rfl rfl (by first | (simp only [List.map_toArray, List.map_cons, List.map_nil, Act.eval, Array.getD_eq_getD_getElem?, Option.getD_some, e39]; done) | (simp only [List.map_toArray, List.map_cons, List.map_nil, Act.eval, Array.getD_eq_getD_getElem?, Option.getD_some, e39]; rfl)) ?_
      with_reducible refine (X30.out _).mono ?_
      rintro e w2 ⟨z, rfl, hb, hs⟩
      refine ⟨_, rfl, ?_⟩
      refine hK.out _ _ ⟨z9, z13, z18, z24, z, (by rw [ha.out]; exact putSel_upk 23 hb_ rfl rfl rfl), below_then B0.out B0.out.size hb, fun h0_ => Str.step (Q_S9 h0_) hb, fun _ => Str.step S13.out hb, fun _ => Str.step S18.out hb, fun _ => Str.step S24.out hb, fun _ => hs⟩
    refine steps_cons ?_ ?_
    · rintro b a w' ⟨z9, z13, z18, z24, z30, ha, Q_B0, Q_S9, Q_S13, Q_S18, Q_S24, Q_S30⟩ hb_ hon hoff
      refine ⟨_, rfl, fun K hK => ?_⟩
      have e40 : a.tmps[40]? = some (z30) := by rw [ha]; exact putSel_on (e := (30, 40, z30)) 23 rfl rfl (hon 30 (by kernel_rfl)) rfl
      replace ha := Aside0.mk ha
      have B0 := Aside0.mk Q_B0
      have S13 := Aside0.mk (Q_S13 (hon 13 (by kernel_rfl)))
      have S18 := Aside0.mk (Q_S18 (hon 18 (by kernel_rfl)))
      have S24 := Aside0.mk (Q_S24 (hon 24 (by kernel_rfl)))
      have S30 := Aside0.mk (Q_S30 (hon 30 (by kernel_rfl)))
      have hs_ := S30.out.here
      refine value_ (w1 := w') (v := .string x30) (by rfl) rfl ?_ ?_
      · go_simp
        (try simp only [i64_w])
        try rfl
      refine hK.out _ _ ⟨z9, z13, z18, z24, z30, (by rw [ha.out]; exact putSel_upk 24 hb_ rfl rfl rfl), Q_B0, Q_S9, Q_S13, Q_S18, Q_S24, Q_S30⟩
    refine steps_cons ?_ ?_
    · rintro b a w' ⟨z9, z13, z18, z24, z30, ha, Q_B0, Q_S9, Q_S13, Q_S18, Q_S24, Q_S30⟩ hb_ hon hoff
      refine ⟨_, rfl, fun K hK => ?_⟩
      have e36 : a.tmps[36]? = some (.string (((x9 ++ x13) ++ x18) ++ x24)) := by rw [ha]; exact putSel_on (e := (26, 36, .string (((x9 ++ x13) ++ x18) ++ x24))) 20 rfl rfl (hon 26 (by kernel_rfl)) rfl
      have e41 : a.tmps[41]? = some (.string x30) := by rw [ha]; exact putSel_on (e := (31, 41, .string x30)) 24 rfl rfl (hon 31 (by kernel_rfl)) rfl
      replace ha := Aside0.mk ha
      have B0 := Aside0.mk Q_B0
      have S9 := Aside0.mk (Q_S9 (hon 9 (by kernel_rfl)))
      have S13 := Aside0.mk (Q_S13 (hon 13 (by kernel_rfl)))
      have S18 := Aside0.mk (Q_S18 (hon 18 (by kernel_rfl)))
      have S24 := Aside0.mk (Q_S24 (hon 24 (by kernel_rfl)))
      have S30 := Aside0.mk (Q_S30 (hon 30 (by kernel_rfl)))
      have hs_ : x9.size + x13.size + x18.size + x24.size + x30.size ≤ 9223372036854775807 := by have := HS.out; omega
      refine value_ (w1 := w') (v := .string ((((x9 ++ x13) ++ x18) ++ x24) ++ x30)) (by rfl) rfl ?_ ?_
      · go_simp
        (try simp only [i64_w])
        try rfl
      refine hK.out _ _ ⟨z9, z13, z18, z24, z30, (by rw [ha.out]; exact putSel_upk 25 hb_ rfl rfl rfl), Q_B0, Q_S9, Q_S13, Q_S18, Q_S24, Q_S30⟩
    refine steps_cons ?_ ?_
    · rintro b a w' ⟨z9, z13, z18, z24, z30, ha, Q_B0, Q_S9, Q_S13, Q_S18, Q_S24, Q_S30⟩ hb_ hon hoff
      refine ⟨_, rfl, fun K hK => ?_⟩
      have e42 : a.tmps[42]? = some (.string ((((x9 ++ x13) ++ x18) ++ x24) ++ x30)) := by rw [ha]; exact putSel_on (e := (32, 42, .string ((((x9 ++ x13) ++ x18) ++ x24) ++ x30))) 25 rfl rfl (hon 32 (by kernel_rfl)) rfl
      have e43 : a.tmps[43]? = some (.string a1) := by rw [ha]; exact (putSel_off rfl).trans rfl
      replace ha := Aside0.mk ha
      have B0 := Aside0.mk Q_B0
      have S9 := Aside0.mk (Q_S9 (hon 9 (by kernel_rfl)))
      have S13 := Aside0.mk (Q_S13 (hon 13 (by kernel_rfl)))
      have S18 := Aside0.mk (Q_S18 (hon 18 (by kernel_rfl)))
      have S24 := Aside0.mk (Q_S24 (hon 24 (by kernel_rfl)))
      have S30 := Aside0.mk (Q_S30 (hon 30 (by kernel_rfl)))
      have hs_ : x9.size + x13.size + x18.size + x24.size + x30.size + a1.size ≤ 9223372036854775807 := by have := HS.out; omega
      refine value_ (w1 := w') (v := .string (((((x9 ++ x13) ++ x18) ++ x24) ++ x30) ++ a1)) (by rfl) rfl ?_ ?_
      · go_simp
        (try simp only [i64_w])
        try rfl
      refine hK.out _ _ ⟨z9, z13, z18, z24, z30, (by rw [ha.out]; exact putSel_upk 26 hb_ rfl rfl rfl), Q_B0, Q_S9, Q_S13, Q_S18, Q_S24, Q_S30⟩
    refine steps_cons ?_ ?_
    · rintro b a w' ⟨z9, z13, z18, z24, z30, ha, Q_B0, Q_S9, Q_S13, Q_S18, Q_S24, Q_S30⟩ hb_ hon hoff
      refine ⟨_, rfl, fun K hK => ?_⟩
      have e44 : a.tmps[44]? = some (.string (((((x9 ++ x13) ++ x18) ++ x24) ++ x30) ++ a1)) := by rw [ha]; exact putSel_on (e := (34, 44, .string (((((x9 ++ x13) ++ x18) ++ x24) ++ x30) ++ a1))) 26 rfl rfl (hon 34 (by kernel_rfl)) rfl
      replace ha := Aside0.mk ha
      have B0 := Aside0.mk Q_B0
      have S9 := Aside0.mk (Q_S9 (hon 9 (by kernel_rfl)))
      have S13 := Aside0.mk (Q_S13 (hon 13 (by kernel_rfl)))
      have S18 := Aside0.mk (Q_S18 (hon 18 (by kernel_rfl)))
      have S24 := Aside0.mk (Q_S24 (hon 24 (by kernel_rfl)))
      have S30 := Aside0.mk (Q_S30 (hon 30 (by kernel_rfl)))
      refine value_ (w1 := w') (v := .string (((((x9 ++ x13) ++ x18) ++ x24) ++ x30) ++ a1)) (by rfl) rfl ?_ ?_
      · go_simp
        (try simp only [i64_w])
        try rfl
      refine hK.out _ _ ⟨z9, z13, z18, z24, z30, (by rw [ha.out]; exact putSel_upk 27 hb_ rfl rfl rfl), Q_B0, Q_S9, Q_S13, Q_S18, Q_S24, Q_S30⟩
    exact steps_nil
  rintro b a wl hall ⟨z9, z13, z18, z24, z30, ha, Q_B0, Q_S9, Q_S13, Q_S18, Q_S24, Q_S30⟩
  clear B0
  have hb1_ := hall 1 (by kernel_rfl)
  have hb2_ := hall 2 (by kernel_rfl)
  have hb4_ := hall 4 (by kernel_rfl)
  have hb5_ := hall 5 (by kernel_rfl)
  have hb7_ := hall 7 (by kernel_rfl)
  have hb8_ := hall 8 (by kernel_rfl)
  have hb9_ := hall 9 (by kernel_rfl)
  have hb10_ := hall 10 (by kernel_rfl)
  have hb12_ := hall 12 (by kernel_rfl)
  have hb13_ := hall 13 (by kernel_rfl)
  have hb14_ := hall 14 (by kernel_rfl)
  have hb15_ := hall 15 (by kernel_rfl)
  have hb17_ := hall 17 (by kernel_rfl)
  have hb18_ := hall 18 (by kernel_rfl)
  have hb19_ := hall 19 (by kernel_rfl)
  have hb20_ := hall 20 (by kernel_rfl)
  have hb22_ := hall 22 (by kernel_rfl)
  have hb23_ := hall 23 (by kernel_rfl)
  have hb24_ := hall 24 (by kernel_rfl)
  have hb25_ := hall 25 (by kernel_rfl)
  have hb26_ := hall 26 (by kernel_rfl)
  have hb28_ := hall 28 (by kernel_rfl)
  have hb29_ := hall 29 (by kernel_rfl)
  have hb30_ := hall 30 (by kernel_rfl)
  have hb31_ := hall 31 (by kernel_rfl)
  have hb32_ := hall 32 (by kernel_rfl)
  have hb34_ := hall 34 (by kernel_rfl)
  have hb35_ := hall 35 (by kernel_rfl)
  subst ha
  simp only [putSel, hb1_, hb2_, hb4_, hb5_, hb7_, hb8_, hb9_, hb10_, hb12_, hb13_, hb14_, hb15_, hb17_, hb18_, hb19_, hb20_, hb22_, hb23_, hb24_, hb25_, hb26_, hb28_, hb29_, hb30_, hb31_, hb32_, hb34_, hb35_, if_true, Act.put, List.setIfInBounds_toArray, List.set_cons_zero, List.set_cons_succ]
  have B0 := Aside0.mk Q_B0
  clear Q_B0
  have S9 := Aside0.mk (Q_S9 hb9_)
  clear Q_S9
  have S13 := Aside0.mk (Q_S13 hb13_)
  clear Q_S13
  have S18 := Aside0.mk (Q_S18 hb18_)
  clear Q_S18
  have S24 := Aside0.mk (Q_S24 hb24_)
  clear Q_S24
  have S30 := Aside0.mk (Q_S30 hb30_)
  clear Q_S30
  clear hall hb1_ hb2_ hb4_ hb5_ hb7_ hb8_ hb9_ hb10_ hb12_ hb13_ hb14_ hb15_ hb17_ hb18_ hb19_ hb20_ hb22_ hb23_ hb24_ hb25_ hb26_ hb28_ hb29_ hb30_ hb31_ hb32_ hb34_ hb35_
  have B2 := Aside0.mk (below_then B1.out B1.out.size B0.out)
  obtain ⟨s0, hs0⟩ : ∃ s, s = x9 ++ x13 ++ x18 ++ x24 ++ x30 ++ a1 := ⟨_, rfl⟩
  rw [← hs0]
  have hsz : s0.size = 24 + a1.size := by
    have := HS.out
    rw [hs0]
    simp only [ByteArray.size_append]
    omega
  obtain ⟨m, hm⟩ : ∃ m, m = 252 - (24 + a1.size) := ⟨_, rfl⟩
  obtain ⟨xo, hxo⟩ : ∃ x, x = strOfNums (List.replicate m 255) := ⟨_, rfl⟩
  have XO := Aside0.mk (wagtailref15_Put.ref_ones_calls m (by omega) (252 - (s0.size : Int)) (by rw [hsz]; have := HS.out; omega) xo hxo)
  obtain ⟨t, ht⟩ : ∃ t, t = s0 ++ xo := ⟨_, rfl⟩
  have ht2 := ht.symm
  have hxs : xo.size = m := by rw [hxo, wagtailref15_Put.str_size]; simp
  have hz2 : s0.size + xo.size ≤ 9223372036854775807 := by have := HS.out; omega
  have HTT := Aside0.mk (show bytesOf t = pageBody a0_0 a0_1 a0_2 a0_3 a0_4 a0_5 a0_6 (bytesOf a1) ∧ t = strOfNums (pageBody a0_0 a0_1 a0_2 a0_3 a0_4 a0_5 a0_6 (bytesOf a1)) by
    obtain ⟨_, hrg, _, hx9, hx13, hx18, hx24, hx30⟩ := HALL.out
    have hb : t = strOfNums (pageBody a0_0 a0_1 a0_2 a0_3 a0_4 a0_5 a0_6 (bytesOf a1)) := by
      rw [ht, hs0, hx9, hx13, hx18, hx24, hx30, hxo]
      conv => lhs; rw [← wagtailref15_Put.str_bytes a1]
      simp only [wagtailref15_Put.str_append]
      unfold pageBody pageHead
      rw [bytesOf_length, ← hm, IntKind.wrap_u64, IntKind.wrap_u64]
    refine ⟨?_, hb⟩
    rw [hb, wagtailref15_Put.bytesOf_str]
    exact wagtailref15_Put.pageBody_bytes _ _ _ _ _ _ _ _ (wagtailref15_Put.bytes_isBytes a1))
  have HZ := Aside0.mk (show t.size = 252 by rw [ht, ByteArray.size_append, hsz, hxs, hm]; have := HS.out; omega)
  rw [← hL.out] at HTT
  have HLN := Aside0.mk (show L.length = 252 by rw [← HTT.out.1, bytesOf_length]; exact HZ.out)
  clear hs0 hxo ht hm hxs hsz HALL HT_ HW_ hL
  clear B1 HX0 HX1 HX2 HX3 HX4 HX5 HX6 HG X13 X18 X24 X30 B0 X9
  go_upto_region 3 with ((go_at_call 28); (with_reducible refine (XO.out _).mono ?_); (rintro e w2 ⟨z, rfl, hb, hs⟩); have hs := hs.here; have B3 := Aside0.mk (below_then B2.out B2.out.size hb); clear hb B2)
  clear hz2 XO S9 S13 S18 S24 S30 HS
  go_wp2_with fail
  go_loopg [6, 7] 253 (fun kq v6 v7 w' => ∃ i : Nat, v6 = .int .i64 (zsum (L.take i)) ∧ v7 = .int .i64 i ∧ Aside0 (i ≤ 252) ∧ Aside0 (kq + i = 253) ∧ Aside0 (Below w.heap.size w w'))
  case atStart => exact ⟨0, rfl, rfl, ⟨by omega⟩, ⟨by omega⟩, B3⟩
  case round =>
    clear hs ht2
    obtain ⟨i, rfl, rfl, HI, HQ, HB⟩ := hrel
    by_cases hi : i < 252
    · have q1 : (i : Int) < (t.size : Int) := by have := HZ.out; omega
      have p1 : (0 : Int) ≤ (i : Int) := by omega
      have t1 : decide ((i : Int) < (t.size : Int)) = true := decide_eq_true q1
      have hx : ((t[i]'(by have := HZ.out; omega)).toNat : Int) = bt t i := bt_at t i (by have := HZ.out; omega)
      have hcr := bt_range t i
      have HC := Aside0.mk (show bt t i = L.getD i 0 by rw [← HTT.out.1, ← rd_bytesOf]; rfl)
      generalize bt t i = c at hx hcr HC
      have hwc : wrap64 c = c := by unfold wrap64; omega
      have HCR := Aside0.mk hcr
      have HI2 := Aside0.mk hi
      have hZr := zsum_range (L.take i)
      have HZN := Aside0.mk (show zsum (L.take (i + 1)) = zsum (L.take i) + zpre c 8 by rw [zpre_8, HC.out]; exact wagtailref15_Put.zsum_snoc L i (by have := HLN.out; omega))
      have HZR := Aside0.mk (show 0 ≤ zsum (L.take i) ∧ zsum (L.take i) ≤ 8 * 252 by rw [List.length_take] at hZr; have := HLN.out; omega)
      generalize zsum (L.take i) = Z at HZN HZR
      replace p1 := eq_true p1
      replace q1 := eq_true q1
      clear hcr hi hZr
      go_wp2
      go_loopg [6, 8, 9] 9 (fun kq v6 v8 v9 w' => ∃ k : Nat, v6 = .int .i64 (Z + zpre c k) ∧ v8 = .int .i64 (c / 2 ^ k) ∧ v9 = .int .i64 k ∧ Aside0 (k ≤ 8) ∧ Aside0 (kq + k = 9) ∧ Aside0 (Below w.heap.size w w'))
      case atStart => exact ⟨0, by simp [zpre], by simp [hwc], rfl, ⟨by omega⟩, ⟨by omega⟩, ⟨by repeat (first | exact HB.out | apply below_alloc | apply pw_below_drewN | apply below_drew1)⟩⟩
      case round =>
        clear t1 hx hwc p1 q1
        obtain ⟨k, rfl, rfl, rfl, HK, HQ2, HB2⟩ := hrel
        by_cases hk : k < 8
        · have t2 : decide ((k : Int) < 8) = true := decide_eq_true (by omega)
          have HK8 := Aside0.mk hk
          have hzs : zpre c (k + 1) = zpre c k + (1 - c / 2 ^ k % 2) := rfl
          have hdv : c / 2 ^ (k + 1) = c / 2 ^ k / 2 := by rw [Int.pow_succ, Int.ediv_ediv_of_nonneg (Int.le_of_lt (Int.pow_pos (by omega)))]
          have hx0 : 0 ≤ c / 2 ^ k := Int.ediv_nonneg HCR.out.1 (Int.le_of_lt (Int.pow_pos (by omega)))
          have hx1 : c / 2 ^ k ≤ 255 := Int.le_trans (Int.ediv_le_self _ HCR.out.1) HCR.out.2
          have hpr := zpre_range c k
          generalize c / 2 ^ k = x at hzs hdv hx0 hx1
          have HDV := Aside0.mk (show wrap64 (Int.tdiv x 2) = c / 2 ^ (k + 1) by rw [hdv, Int.tdiv_eq_ediv_of_nonneg hx0]; unfold wrap64; omega)
          have hm0 : Int.tmod x 2 = x % 2 := Int.tmod_eq_emod_of_nonneg hx0
          by_cases hp : x % 2 = 0
          · have m1 : Int.tmod x 2 = 0 := by omega
            have HSM := Aside0.mk (show wrap64 (Z + zpre c k + 1) = Z + zpre c (k + 1) by rw [hzs, hp]; unfold wrap64; have := HZR.out; omega)
            clear hzs hdv hx0 hx1 hpr hp hm0 hk
            go_wp2
            go_roundg (8 - k)
            case measure => have := HQ2.out; have := HK8.out; omega
            case rel => exact ⟨k + 1, by rw [HSM.out], by rw [HDV.out], by first | rfl | (simp; unfold wrap64; have := HK8.out; omega), ⟨by have := HK8.out; omega⟩, ⟨by have := HQ2.out; have := HK8.out; omega⟩, ⟨by repeat (first | exact HB2.out | apply below_alloc | apply pw_below_drewN | apply below_drew1)⟩⟩
          · have m1 : Int.tmod x 2 = 1 := by omega
            have HSM := Aside0.mk (show Z + zpre c k = Z + zpre c (k + 1) by rw [hzs]; omega)
            clear hzs hdv hx0 hx1 hpr hp hm0 hk
            go_wp2
            go_roundg (8 - k)
            case measure => have := HQ2.out; have := HK8.out; omega
            case rel => exact ⟨k + 1, by rw [← HSM.out], by rw [HDV.out], by first | rfl | (simp; unfold wrap64; have := HK8.out; omega), ⟨by have := HK8.out; omega⟩, ⟨by have := HQ2.out; have := HK8.out; omega⟩, ⟨by repeat (first | exact HB2.out | apply below_alloc | apply pw_below_drewN | apply below_drew1)⟩⟩
        · have hk8 : k = 8 := by have := HK.out; omega
          subst hk8
          go_wp2
          go_roundg (252 - i)
          case measure => have := HQ.out; have := HI2.out; omega
          case rel => exact ⟨i + 1, by rw [HZN.out], by first | rfl | (simp; unfold wrap64; have := HI2.out; omega), ⟨by have := HI2.out; omega⟩, ⟨by have := HQ.out; have := HI2.out; omega⟩, ⟨by repeat (first | exact HB2.out | apply below_alloc | apply pw_below_drewN | apply below_drew1)⟩⟩
    · have hi : i = 252 := by have := HI.out; omega
      subst hi
      have t1 : decide (((252 : Nat) : Int) < (t.size : Int)) = false := decide_eq_false (by have := HZ.out; omega)
      have t1b : decide ((252 : Int) < (t.size : Int)) = false := t1
      rw [List.take_of_length_le (show L.length ≤ 252 by have := HLN.out; omega)]
      have hr := zsum_range L
      rw [HLN.out] at hr
      obtain ⟨xc, hxc⟩ : ∃ x, x = strOfNums (beBytes 4 (zsum L)) := ⟨_, rfl⟩
      have hw0 : IntKind.u64.wrap (zsum L) = zsum L := by rw [IntKind.wrap_u64]; omega
      have XC := Aside0.mk (wagtailref15_Put.ref_bytes_calls (zsum L) hr.1 (by omega) 4 (by omega) 4 rfl xc hxc)
      have hxs : xc.size = 4 := by rw [hxc, wagtailref15_Put.str_size, beBytes_len]
      have hz2 : t.size + xc.size ≤ 9223372036854775807 := by have := HZ.out; omega
      have HFIN := Aside0.mk (show strOfNums (L ++ beBytes 4 (zsum L)) = t ++ xc by rw [← wagtailref15_Put.str_append, ← hxc, ← HTT.out.2])
      clear hxs hxc hr
      go_wp2_with ((go_at_call 65); (with_reducible refine (XC.out _).mono ?_); (rintro e w3 ⟨z2, rfl, hb, hs⟩); have hs := hs.here; have B4 := Aside0.mk (below_then HB.out HB.out.size hb); clear hb)
      go_ret
      exact ⟨by rw [HFIN.out]; rfl, by repeat (first | exact B4.out | apply below_alloc | apply pw_below_drewN | apply below_drew1)⟩

end Go.Proofs.Ytmlkkdopogcggaa.Hp
