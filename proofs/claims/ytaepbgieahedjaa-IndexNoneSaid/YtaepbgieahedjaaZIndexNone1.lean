/- Parts of the proof of the statement IndexNone, laid together (2 of 2). -/
import Derived.Lib.AppendZerosOnto
import Derived.Lib.Overlaps
import Derived.Laws.CopyRow
import Derived.Laws.IdiomCopy
import Derived.Deep.RegionLaw
import Derived.OpenShut
import Derived.SizedLaws
import Derived.ChangeSlices
import Derived.Test.YtaepbgieahedjaaRows
import Derived.WalkKit
import Derived.ProofKit
import Derived.ShutString
import Derived.ChangeOld
import Derived.Below
import Derived.Test.YtaepbgieahedjaaZIndexNone0
namespace Go.Proofs.Ytaepbgieahedjaa.QS
set_option linter.unusedVariables false
set_option linter.unusedSimpArgs false
open Go.RowKit Go.Proofs.Ytaepbgieahedjaa.Hp Go.Proofs.YtaepbgieahedjaaW.PrintWords Go.Proofs.YtaepbgieahedjaaW.PrintLast Go.Proofs.YtaepbgieahedjaaW.PrintMore
open Go.Proofs.Ytaepbgieahedjaa.IP
section
variable {P : Program} {ops : Array Oper} {rest : List Oper} {Q : Exit → Act → World → Prop}
theorem run_copy_rowS (w : World) (dT sT ty elem : TypeId) (g o dLen dCap : Nat) (a : Addr) (sLen sCap sz : Nat) (cur : Array Value) (t : TypeId) (cs : List Value)
    (hu : P.underlying dT = some (.slice elem)) (hs : (P.info? elem).map (·.size) = some sz)
    (hg : w.heap[g]? = some (.cells cur t (0, 0))) (hn : cs.length = Nat.min sLen dLen * sz)
    (hsrc : ∀ j v, cs[j]? = some v → w.cell? (a.add j) = some v) (hfit : o + cs.length ≤ cur.size) (h1 : ∀ v ∈ cs, v.oneCell' = true) :
    (Builtin.copy_ #[dT, sT] ty #[.slice (some ⟨g, o, none⟩) dLen dCap, .slice (some a) sLen sCap]).run P w =
      .ok (goInt (Nat.min sLen dLen)) (w.setRow g (cur.toList.take o ++ cs ++ cur.toList.drop (o + cs.length)).toArray) := by
  have hl := run_loadCells_list (P := P) w a cs hsrc
  have hst := run_storeCells_at P g o t cs 0 cur w hg (by simpa using hfit) h1
  cases hq : P.info? elem with
  | none => simp [hq] at hs
  | some i =>
    have hi : i.size = sz := by simpa [hq] using hs
    simp [Builtin.copy_, run_underlying hu, Builtin.lenOf, Builtin.firstCells, sizeOf, typeInfo, hq, hi, ← hn, hl, hst]
theorem copy_wp {o : Oper} {a : Act} {w w' : World} (hgd : o.guard = none) (d s : Operand) (t : TypeId)
    (ho : o.op = .call { callee := .builtin .copy, args := #[d, s], argTypes := #[t, t] }) {v u v' : Value} (hd : a.eval d = v) (hs : a.eval s = u)
    (hr : (Builtin.copy_ #[t, t] o.type #[v, u]).run P w = .ok v' w') (h : wpList P ops Q rest (a.put o.dst v') w') : wpList P ops Q (o :: rest) a w := by
  refine wpList_plain hgd fun K hK => ?_
  unfold Oper.wp execOp
  simp only [ho, resolve, invoke, builtin, Sem.run_bind, Sem.run_pure, Result.andThen_ok, List.map_toArray, List.map_cons, List.map_nil, hd, hs, hr]
  exact hK _ _ h
theorem copy_step {o : Oper} {a : Act} {w w' : World} {K : Act → World → Prop} {E : Prop} (hgd : o.guard = none) (d s : Operand) (t : TypeId)
    (ho : o.op = .call { callee := .builtin .copy, args := #[d, s], argTypes := #[t, t] }) {v u v' : Value} (hd : a.eval d = v) (hs : a.eval s = u)
    (hr : (Builtin.copy_ #[t, t] o.type #[v, u]).run P w = .ok v' w') (hK : K (a.put o.dst v') w') : if Region.wanted o (yielded ops a.tmps) = true then Oper.wp P o a w K Q else E := by
  have hw : Region.wanted o (yielded ops a.tmps) = true := by simp [Region.wanted, hgd]
  rw [if_pos hw]
  unfold Oper.wp execOp
  simp only [ho, resolve, invoke, builtin, Sem.run_bind, Sem.run_pure, Result.andThen_ok, List.map_toArray, List.map_cons, List.map_nil, hd, hs, hr]
  exact hK
theorem appz_wp {o : Oper} {a : Act} {w w' : World} (hgd : o.guard = none) (s x : Operand) (t ti : TypeId)
    (ho : o.op = .call { callee := .builtin .append, args := #[s, x], argTypes := #[t, ti] }) {v xv v' : Value} (hs : a.eval s = v) (hx : a.eval x = xv)
    (hr : (Builtin.append_ #[t, ti] o.type #[v, xv]).run P w = .ok v' w') (h : wpList P ops Q rest (a.put o.dst v') w') : wpList P ops Q (o :: rest) a w := by
  refine wpList_plain hgd fun K hK => ?_
  unfold Oper.wp execOp
  simp only [ho, resolve, invoke, builtin, Sem.run_bind, Sem.run_pure, Result.andThen_ok, List.map_toArray, List.map_cons, List.map_nil, hs, hx, hr]
  exact hK _ _ h
end
def shiftL (cur xs ys : List Value) (a s : Nat) : List Value := cur.take (a + s) ++ xs.drop a ++ cur.drop (a + s + (xs.drop a).length)
def insL (cur ys : List Value) (a : Nat) : List Value := cur.take a ++ ys ++ cur.drop (a + ys.length)
theorem ins_shift {cur xs ys : List Value} {a s : Nat} (hy : ys.length = s) (ha : a ≤ xs.length) (hx : cur.take xs.length = xs) (hc : xs.length + s ≤ cur.length) :
    (shiftL cur xs ys a s).length = cur.length ∧ (insL (shiftL cur xs ys a s) ys a).length = cur.length ∧ (insL (shiftL cur xs ys a s) ys a).take (xs.length + s) = xs.take a ++ ys ++ xs.drop a := by
  have h1 : (cur.take (a + s)).length = a + s := by rw [List.length_take]; omega
  have hd : (xs.drop a).length = xs.length - a := List.length_drop
  have hl : (shiftL cur xs ys a s).length = cur.length := by
    unfold shiftL
    rw [List.length_append, List.length_append, h1, hd, List.length_drop]
    omega
  have e1 : (shiftL cur xs ys a s).take a = xs.take a := by
    unfold shiftL
    rw [List.append_assoc, List.take_append_of_le_length (by omega), List.take_take, Nat.min_eq_left (by omega), ← hx, List.take_take, Nat.min_eq_left ha]
  have e2 : (shiftL cur xs ys a s).drop (a + s) = xs.drop a ++ cur.drop (a + s + (xs.drop a).length) := by
    unfold shiftL
    rw [List.append_assoc, List.drop_left' h1]
  have e3 : insL (shiftL cur xs ys a s) ys a = xs.take a ++ ys ++ xs.drop a ++ cur.drop (a + s + (xs.drop a).length) := by
    unfold insL
    rw [e1, hy, e2, List.append_assoc, List.append_assoc, List.append_assoc]
  have ht : (xs.take a).length = a := by rw [List.length_take]; omega
  refine ⟨hl, ?_, ?_⟩
  · unfold insL
    rw [List.length_append, List.length_append, List.length_take, List.length_drop, hl]
    omega
  · rw [e3, List.take_left' (by rw [List.length_append, List.length_append, ht, hd]; omega)]
theorem ins_new {z xs ys : List Value} {a s : Nat} (hy : ys.length = s) (ha : a ≤ xs.length) (hc : xs.length + s ≤ (xs.take a ++ z).length) :
    (insL (xs.take a ++ z) ys a).length = (xs.take a ++ z).length ∧ (shiftL (insL (xs.take a ++ z) ys a) xs ys a s).length = (xs.take a ++ z).length ∧ (shiftL (insL (xs.take a ++ z) ys a) xs ys a s).take (xs.length + s) = xs.take a ++ ys ++ xs.drop a := by
  have ht : (xs.take a).length = a := by rw [List.length_take]; omega
  have hd : (xs.drop a).length = xs.length - a := List.length_drop
  have hl : (insL (xs.take a ++ z) ys a).length = (xs.take a ++ z).length := by
    unfold insL
    rw [List.length_append, List.length_append, List.length_take, List.length_drop]
    omega
  have e1 : (insL (xs.take a ++ z) ys a).take (a + s) = xs.take a ++ ys := by
    unfold insL
    rw [List.take_left' ht, List.take_left' (by rw [List.length_append, ht, hy])]
  refine ⟨hl, ?_, ?_⟩
  · unfold shiftL
    rw [List.length_append, List.length_append, List.length_take, hl, hd, List.length_drop, hl]
    omega
  · unfold shiftL
    rw [e1, List.take_left' (by rw [List.length_append, List.length_append, ht, hy, hd]; omega)]
theorem encs_append (a b : List Rec) : (a ++ b).flatMap Rec.enc = a.flatMap Rec.enc ++ b.flatMap Rec.enc := List.flatMap_append
theorem encs_take (ps : List Rec) (i : Nat) : (ps.take i).flatMap Rec.enc = (ps.flatMap Rec.enc).take (i * 8) := by
  induction ps generalizing i with
  | nil => simp
  | cons a r ih =>
    cases i with
    | zero => simp
    | succ i =>
      rw [List.take_succ_cons, List.flatMap_cons, List.flatMap_cons, ih, show (i + 1) * 8 = (Rec.enc a).length + i * 8 by rw [show (Rec.enc a).length = 8 from rfl]; omega, List.take_length_add_append]
theorem encs_drop (ps : List Rec) (i : Nat) : (ps.drop i).flatMap Rec.enc = (ps.flatMap Rec.enc).drop (i * 8) := by
  induction ps generalizing i with
  | nil => simp
  | cons a r ih =>
    cases i with
    | zero => simp
    | succ i =>
      rw [List.drop_succ_cons, List.flatMap_cons, ih, show (i + 1) * 8 = (Rec.enc a).length + i * 8 by rw [show (Rec.enc a).length = 8 from rfl]; omega, List.drop_length_add_append]
theorem encs_put (ps : List Rec) (i : Nat) (x : Rec) : (putAt ps i x).flatMap Rec.enc = (ps.flatMap Rec.enc).take (i * 8) ++ x.enc ++ (ps.flatMap Rec.enc).drop (i * 8) := by
  unfold putAt
  rw [encs_append, List.flatMap_cons, encs_take, encs_drop, List.append_assoc]
theorem putAt_map {α β : Type} (f : α → β) (l : List α) (i : Nat) (x : α) : (putAt l i x).map f = putAt (l.map f) i (f x) := by
  unfold putAt
  rw [List.map_append, List.map_cons, List.map_take, List.map_drop]
theorem mem_putAt {α : Type} {l : List α} {i : Nat} {x y : α} (h : y ∈ putAt l i x) : y = x ∨ y ∈ l := by
  unfold putAt at h
  rcases List.mem_append.1 h with h | h
  · exact .inr (List.mem_of_mem_take h)
  · rcases List.mem_cons.1 h with h | h
    · exact .inl h
    · exact .inr (List.mem_of_mem_drop h)
theorem encs_one (ps : List Rec) : ∀ u ∈ ps.flatMap Rec.enc, u.oneCell' = true := by
  intro u hu
  obtain ⟨x, _, hx⟩ := List.mem_flatMap.1 hu
  exact enc_one x u hx
theorem putAt_length {α : Type} {l : List α} {i : Nat} {x : α} (hi : i ≤ l.length) : (putAt l i x).length = l.length + 1 := putAt_len hi
theorem insTo_mk {W w' : World} {base : Nat} {l : List R0} {i g c : Nat} {ok : Nat → Prop} {own : Option Nat} {x : R0} {Ax : Option Addr} {cx : Nat} {ps : List Rp} (hps : ps.map (·.1) = l) (hi : i ≤ l.length)
    {cur : Array Value} (hz : w'.heap[g]? = some (.cells cur 29 (0, 0))) (hcs : cur.size = c * 8) (hnc : l.length + 1 ≤ c) (hcm : c ≤ maxLen) (hgb : base ≤ g) (hok : ok g)
    (ht : cur.toList.take (((ps.map recOf).flatMap Rec.enc).length + 8) = ((ps.map recOf).flatMap Rec.enc).take (i * 8) ++ encR x Ax cx ++ ((ps.map recOf).flatMap Rec.enc).drop (i * 8))
    (hmade : ∀ p ∈ ps, p.made w' base (fun k => ok k ∧ k ≠ g)) (hM : (Kd.int .i64).R 3 w' base (fun k => ok k ∧ k ≠ g) (.slice Ax x.f7.length cx) x.f7) (hg : W.grownBy w' own) :
    InsTo W w' (.returned (.slice (some ⟨g, 0, none⟩) (l.length + 1) c)) base ok own (putAt l i x) := by
  have hlen : ps.length = l.length := by rw [← hps, List.length_map]
  have hpl : (putAt l i x).length = l.length + 1 := putAt_length hi
  have hpp : (putAt ps i ((x, (Ax, cx)) : Rp)).length = l.length + 1 := by rw [putAt_length (by omega), hlen]
  refine ⟨some ⟨g, 0, none⟩, c, by rw [hpl], ?_, hg⟩
  have e : putAt l i x = (putAt ps i ((x, (Ax, cx)) : Rp)).map (·.1) := by rw [putAt_map, hps]
  have hR := R_of_rows (W := w') (base := base) (ok := ok) (v := .slice (some ⟨g, 0, none⟩) (putAt l i x).length c) (ps := putAt ps i ((x, (Ax, cx)) : Rp)) (fun k hk => by
    have hk' : g = k := by simpa [Value.ownBlock] using hk
    rwa [← hk']) ?_ ?_
  · rwa [← e] at hR
  · have hL : ((putAt ps i ((x, (Ax, cx)) : Rp)).map recOf).flatMap Rec.enc = ((ps.map recOf).flatMap Rec.enc).take (i * 8) ++ encR x Ax cx ++ ((ps.map recOf).flatMap Rec.enc).drop (i * 8) := by
      rw [putAt_map, encs_put]
      rfl
    refine ⟨by rw [encs_len, List.length_map], .inr ⟨g, c, cur, ?_, hgb, hz, ?_, hcm, hcs, ?_⟩⟩
    · rw [hpp, hpl]
    · rw [hpp]; exact hnc
    · rw [hL, ← ht, encs_len, List.length_map, hpp, hlen, Nat.add_mul]
  · intro p hp
    have hb : ∀ k, (ok k ∧ k ≠ g) → (ok k ∧ some k ≠ (Value.slice (some (⟨g, 0, none⟩ : Addr)) (putAt l i x).length c).ownBlock) := fun k hk => ⟨hk.1, fun h => hk.2 (by simpa [Value.ownBlock] using h)⟩
    rcases mem_putAt hp with rfl | hp
    · exact Kd.R_mono hM hb
    · exact Kd.R_mono (hmade p hp) hb
end Go.Proofs.Ytaepbgieahedjaa.QS
namespace Go.Proofs.Ytaepbgieahedjaa.QS
set_option linter.unusedVariables false
set_option linter.unusedSimpArgs false
open Go.RowKit Go.Proofs.Ytaepbgieahedjaa.Hp Go.Proofs.YtaepbgieahedjaaW.PrintWords Go.Proofs.YtaepbgieahedjaaW.PrintLast Go.Proofs.YtaepbgieahedjaaW.PrintMore
open Go.Proofs.Ytaepbgieahedjaa.IP
theorem size_rec : (Try.prog.info? 29).map (·.size) = some 8 := by kernel_rfl
theorem sizeOf_rec : ∀ w, (Go.sizeOf 29).run Try.prog w = .ok 8 w := fun w => by kernel_rfl
theorem slice_from (g n c i : Nat) (hi : i ≤ n) (hc : i < c) (W : World) : (Instr.slice 22 (.slice (some ⟨g, 0, none⟩) n c) (some (.int .i64 (i : Int))) none none).run Try.prog W = .ok (.slice (some ⟨g, i * 8, none⟩) (n - i) (c - i)) W := by
  obtain ⟨i0, hi0, hsz⟩ := Option.map_eq_some_iff.1 size_rec
  have k := cut_from (P := Try.prog) 22 29 .i64 Try.underlying22 hi0 8 hsz (some ⟨g, 0, none⟩) n c (i : Int) (by omega) (by omega) W
  rw [Int.toNat_natCast, if_neg (by omega)] at k
  rw [k]
  simp [Addr.add]
  omega
theorem slice_to (A : Option Addr) (n c i : Nat) (hi : i ≤ c) (W : World) : (Instr.slice 22 (.slice A n c) none (some (.int .i64 (i : Int))) none).run Try.prog W = .ok (.slice A i c) W := by
  obtain ⟨i0, hi0, hsz⟩ := Option.map_eq_some_iff.1 size_rec
  have hel : Try.prog.elem 22 = 29 := by simp [Program.elem, Try.underlying22]
  have hu : Try.prog.underlying 22 = some (.slice (Try.prog.elem 22)) := by rw [hel]; exact Try.underlying22
  have ha : (A.map fun x => x.add 0) = A := by cases A <;> simp [Addr.add]
  rw [run_slice_h W 22 A n c hu .i64 (i : Int) (by omega) (by omega), hel]
  simp [sizeOf, typeInfo, hi0, hsz, sliced, Result.andThen, ha]
theorem add_at (g o j : Nat) : (⟨g, o, none⟩ : Addr).add j = ⟨g, o + j, none⟩ := Addr.add_lit _ _ _
theorem overlaps_no (W : World) (gx g o lb cb : Nat) (hne : gx ≠ g) {cx cg : Array Value} (hx : W.heap[gx]? = some (.cells cx 29 (0, 0))) (hg : W.heap[g]? = some (.cells cg 29 (0, 0))) (h0 : cg.size ≠ 0) :
    (callFunc 39 #[.slice (some ⟨gx, 0, none⟩) 1 1, .slice (some ⟨g, o, none⟩) lb cb]).run Try.prog W = .ok (.value (.bool false)) W := by
  rw [run_callFunc_extern Try.func39 (by kernel_rfl) (by kernel_rfl) (by kernel_rfl) (e := Extern.SlicesOverlaps.overlaps #[22, 22] #[4]) (by kernel_rfl),
    Lib.run_overlaps_apart W 22 4 29 Try.underlying22 8 sizeOf_rec ⟨gx, 0, none⟩ ⟨g, o, none⟩ 1 1 lb cb hne 29 29 cx.size cg.size (by simp [World.shape?, hx]) (by simp [World.shape?, hg]) h0 (blk_frozen hx 0) (blk_frozen hx _)]
  rfl
theorem grownBy_row {W w : World} {g : Nat} (h : W.grownBy w (some g)) (cs : Array Value) : W.grownBy (w.setRow g cs) (some g) :=
  ⟨h.os, h.tape, h.output, by rw [setRow_size]; exact h.size, fun k hk hne => (setRow_other w g k cs (fun e => hne (by rw [e]))).trans (h.block k hk hne)⟩
set_option maxHeartbeats 8000000 in
set_option maxRecDepth 100000 in
theorem insert_room {W : World} {base gx i : Nat} {l : List R0} {A : Option Addr} {c : Nat} {ok : Nat → Prop} (x : R0) (Ax : Option Addr) (cx : Nat) (hR : k29.R 29 W base ok (.slice A l.length c) l) (hM : (Kd.int .i64).R 3 W base (fun k => ok k ∧ some k ≠ (Value.slice A l.length c).ownBlock) (.slice Ax x.f7.length cx) x.f7)
    (hx : W.heap[gx]? = some (.cells #[.int .u64 x.f0, .int .u64 x.f1, .int .i64 x.f2, .int .i64 x.f3, .int .u64 x.f4, .bool x.f5, .int .i64 x.f6, .slice Ax x.f7.length cx] 29 (0, 0))) (hn : l.length + 1 ≤ 100000) (hi : i < l.length) (hroom : l.length + 1 ≤ c) (hgx : some gx ≠ (Value.slice A l.length c).ownBlock) :
    Calls Try.prog 30 #[.slice A l.length c, .int .i64 (i : Int), .slice (some ⟨gx, 0, none⟩) 1 1] W fun e w' => InsTo W w' e base ok (Value.slice A l.length c).ownBlock (putAt l i x) := by
  obtain ⟨ps, hps, ho, hmade⟩ := rows_of_R hR
  have hlen : ps.length = l.length := by rw [← hps, List.length_map]
  obtain ⟨hxs, ⟨hv, hn0⟩ | ⟨g, c', cur, hv, hgb, hz, hnc, hcm, hcs, htk⟩⟩ := ho
  · omega
  injection hv with e1 e2 e3
  clear e2
  subst e1 e3
  have hokg : ok g := hR.1 g rfl
  have hgx' : gx ≠ g := fun h => hgx (by rw [h]; rfl)
  obtain ⟨xs, hxse⟩ : ∃ xs, xs = (ps.map recOf).flatMap Rec.enc := ⟨_, rfl⟩
  rw [← hxse] at htk hxs
  have hxl : xs.length = l.length * 8 := by rw [hxs, hlen]
  have htk' : cur.toList.take xs.length = xs := by rw [hxs]; exact htk
  have hcl : cur.toList.length = c * 8 := by rw [Array.length_toList]; exact hcs
  have hfin := ins_shift (ys := encR x Ax cx) (s := 8) (a := i * 8) rfl (by omega) htk' (by omega)
  obtain ⟨cur1, hcur1⟩ : ∃ c1, c1 = shiftL cur.toList xs (encR x Ax cx) (i * 8) 8 := ⟨_, rfl⟩
  rw [← hcur1] at hfin
  obtain ⟨cur2, hcur2⟩ : ∃ c1, c1 = insL cur1 (encR x Ax cx) (i * 8) := ⟨_, rfl⟩
  rw [← hcur2] at hfin
  have h1xs : ∀ v ∈ xs, v.oneCell' = true := by rw [hxse]; exact encs_one _
  have h1ys : ∀ v ∈ encR x Ax cx, v.oneCell' = true := fun u hu => by
    unfold encR at hu
    simp only [List.mem_cons, List.not_mem_nil, or_false] at hu
    rcases hu with rfl | rfl | rfl | rfl | rfl | rfl | rfl | rfl <;> rfl
  have hxc : ∀ j v, xs[j]? = some v → cur[j]? = some v := fun j v hj => by
    have hlt := (List.getElem?_eq_some_iff.1 hj).1
    have h := hj
    rw [← htk', List.getElem?_take, if_pos hlt] at h
    rw [← Array.getElem?_toList]
    exact h
  have hcp1 : ∀ Wq : World, Wq.heap[g]? = some (.cells cur 29 (0, 0)) → ∀ ty dc sc, (Builtin.copy_ #[22, 22] ty #[.slice (some ⟨g, (i + 1) * 8, none⟩) (l.length - i) dc, .slice (some ⟨g, i * 8, none⟩) (l.length + 1 - i) sc]).run Try.prog Wq = .ok (goInt (Nat.min (l.length + 1 - i) (l.length - i))) (Wq.setRow g cur1.toArray) := fun Wq hq ty dc sc => by
    have hm : Nat.min (l.length + 1 - i) (l.length - i) = l.length - i := by simp only [Nat.min_def]; split <;> omega
    rw [run_copy_rowS (P := Try.prog) Wq 22 22 ty 29 g ((i + 1) * 8) (l.length - i) dc ⟨g, i * 8, none⟩ (l.length + 1 - i) sc 8 cur 29 (xs.drop (i * 8)) Try.underlying22 size_rec hq (by rw [hm, List.length_drop]; omega)
      (fun j v hj => by rw [add_at, blk_cell hq]; rw [List.getElem?_drop] at hj; exact hxc _ _ hj) (by rw [List.length_drop]; omega) (fun v hv => h1xs v (List.mem_of_mem_drop hv))]
    rw [hcur1]
    unfold shiftL
    rw [Nat.add_mul, Nat.one_mul]
  have hcp2 : ∀ Wq : World, Wq.heap[g]? = some (.cells cur1.toArray 29 (0, 0)) → Wq.heap[gx]? = some (.cells #[.int .u64 x.f0, .int .u64 x.f1, .int .i64 x.f2, .int .i64 x.f3, .int .u64 x.f4, .bool x.f5, .int .i64 x.f6, .slice Ax x.f7.length cx] 29 (0, 0)) → ∀ ty dc, (Builtin.copy_ #[22, 22] ty #[.slice (some ⟨g, i * 8, none⟩) (l.length + 1 - i) dc, .slice (some ⟨gx, 0, none⟩) 1 1]).run Try.prog Wq = .ok (goInt (Nat.min 1 (l.length + 1 - i))) (Wq.setRow g cur2.toArray) := fun Wq hq hqx ty dc => by
    have hm : Nat.min 1 (l.length + 1 - i) = 1 := by simp only [Nat.min_def]; split <;> omega
    rw [run_copy_rowS (P := Try.prog) Wq 22 22 ty 29 g (i * 8) (l.length + 1 - i) dc ⟨gx, 0, none⟩ 1 1 8 cur1.toArray 29 (encR x Ax cx) Try.underlying22 size_rec hq (by rw [hm]; rfl)
      (fun j v hj => by rw [add_at, Nat.zero_add, blk_cell hqx]; rw [← hj]; unfold encR; rw [← List.getElem?_toArray]) (by rw [List.size_toArray, hfin.1]; show i * 8 + 8 ≤ _; omega) h1ys]
    rw [hcur2]
    unfold insL
    rfl
  have hs1 := fun W => slice_from g l.length c i (by omega) (by omega) W
  have hs2 := fun W => slice_to (some ⟨g, 0, none⟩) l.length c (l.length + 1) hroom W
  have hs3 := fun W => slice_from g (l.length + 1) c (i + 1) (by omega) (by omega) W
  have hs4 := fun W => slice_from g (l.length + 1) c i (by omega) (by omega) W
  have hov := fun lb cb => overlaps_no W gx g ((i + 1) * 8) lb cb hgx' hx hz (by omega)
  have a1 : IntKind.i64.wrap ((l.length : Int) + 1) = ((l.length + 1 : Nat) : Int) := by rw [IntKind.wrap_i64]; omega
  have a2 : IntKind.i64.wrap ((i : Int) + 1) = ((i + 1 : Nat) : Int) := by rw [IntKind.wrap_i64]; omega
  have t1 : ((i : Int) == (l.length : Int)) = false := beq_eq_false_iff_ne.2 (by omega)
  have t2 : decide ((c : Int) < ((l.length + 1 : Nat) : Int)) = false := decide_eq_false (by omega)
  have hA : ∀ Wq : World, Wq = W.drew → Wq.heap[g]? = some (.cells cur 29 (0, 0)) := fun Wq h => by rw [h]; exact hz
  have FIN : Aside0 (∀ w1 w2 : World, w1 = W.drew.setRow g cur1.toArray → w2 = w1.setRow g cur2.toArray → InsTo W w2 (.returned (.slice (some ⟨g, 0, none⟩) (l.length + 1) c)) base ok (some g) (putAt l i x)) := ⟨fun w1 w2 e1 e2 => by
    have hz1 : w1.heap[g]? = some (.cells cur1.toArray 29 (0, 0)) := by rw [e1]; exact setRow_heap W.drew g cur cur1.toArray _ _ hz
    have hz2 : w2.heap[g]? = some (.cells cur2.toArray 29 (0, 0)) := by rw [e2]; exact setRow_heap w1 g cur1.toArray cur2.toArray _ _ hz1
    have hgr : W.grownBy w2 (some g) := by
      rw [e2, e1]
      exact grownBy_row (grownBy_row (⟨rfl, rfl, rfl, Nat.le_refl _, fun _ _ _ => rfl⟩ : W.grownBy W.drew (some g)) _) _
    have hmv : ∀ k, (ok k ∧ k ≠ g) → k < W.heap.size → w2.heap[k]? = W.heap[k]? := fun k hk hlt => hgr.block k hlt (fun e => hk.2 (Option.some.inj e))
    have hne : ∀ k, (ok k ∧ some k ≠ (Value.slice (some (⟨g, 0, none⟩ : Addr)) l.length c).ownBlock) → (ok k ∧ k ≠ g) := fun k hk => ⟨hk.1, fun e => hk.2 (by rw [e]; rfl)⟩
    refine insTo_mk (x := x) (Ax := Ax) (cx := cx) (ps := ps) hps (by omega) hz2 (by rw [List.size_toArray, hfin.2.1]; exact hcl) hroom hcm hgb hokg ?_ (fun p hp => Kd.R_step (Kd.R_mono (hmade p hp) hne) hmv) (Kd.R_step (Kd.R_mono hM hne) hmv) hgr
    rw [← hxse]
    exact hfin.2.2⟩
  have HCP1 := Aside0.mk hcp1
  have HCP2 := Aside0.mk hcp2
  have HX := Aside0.mk hx
  have HZ := Aside0.mk hz
  have HNE := Aside0.mk hgx'
  clear hR hM hx hz hcp1 hcp2 hxc h1xs h1ys hfin hcur1 hcur2 htk htk' hxl hxs hxse hmade hps hlen hcl hcs hcm hgb hokg hgx hgx' hA
  go_enter Try.func30, Try.ntmps30
  go_upto_region 15 with (simp only [hov])
  have b1 : (0 : Int) ≤ (i : Int) + 1 := by omega
  have b2 : i ≤ l.length := by omega
  have b3 : ¬ (c = i + 1) := by omega
  have b4 : ¬ (c = i) := by omega
  have b5 : (i : Int) ≤ (l.length : Int) + 1 := by omega
  go_region_law (refine copy_step rfl _ _ 22 rfl (v := .slice (some ⟨g, (i + 1) * 8, none⟩) (l.length - i) (c - (i + 1))) (u := .slice (some ⟨g, i * 8, none⟩) (l.length + 1 - i) (c - i)) (by simp [Act.eval, Act.put]) (by simp [Act.eval, Act.put]) (HCP1.out W.drew HZ.out _ _ _) ?_)
  obtain ⟨W1, hW1⟩ : ∃ W1, W1 = W.drew.setRow g cur1.toArray := ⟨_, rfl⟩
  rw [← hW1]
  have HW1 := Aside0.mk hW1
  have HCP := Aside0.mk (HCP2.out W1 (by rw [hW1]; exact setRow_heap W.drew g cur cur1.toArray _ _ HZ.out) (by rw [hW1]; exact (setRow_other W.drew g gx cur1.toArray HNE.out).trans HX.out))
  clear hW1
  go_wp2_with (refine copy_wp rfl _ _ 22 rfl rfl rfl (HCP.out _ _) ?_)
  go_ret
  exact FIN.out _ _ HW1.out rfl
set_option maxHeartbeats 8000000 in
set_option maxRecDepth 100000 in
theorem insert_grow {W : World} {base gx i : Nat} {l : List R0} {A : Option Addr} {c : Nat} {ok : Nat → Prop} (x : R0) (Ax : Option Addr) (cx : Nat) (hR : k29.R 29 W base ok (.slice A l.length c) l) (hM : (Kd.int .i64).R 3 W base (fun k => ok k ∧ some k ≠ (Value.slice A l.length c).ownBlock) (.slice Ax x.f7.length cx) x.f7)
    (hx : W.heap[gx]? = some (.cells #[.int .u64 x.f0, .int .u64 x.f1, .int .i64 x.f2, .int .i64 x.f3, .int .u64 x.f4, .bool x.f5, .int .i64 x.f6, .slice Ax x.f7.length cx] 29 (0, 0))) (hn : l.length + 1 ≤ 100000) (hi : i < l.length) (hroom : c < l.length + 1) (hs : base ≤ W.heap.size) (hfresh : ∀ k, W.heap.size ≤ k → ok k) :
    Calls Try.prog 30 #[.slice A l.length c, .int .i64 (i : Int), .slice (some ⟨gx, 0, none⟩) 1 1] W fun e w' => InsTo W w' e base ok (Value.slice A l.length c).ownBlock (putAt l i x) := by
  obtain ⟨ps, hps, ho, hmade⟩ := rows_of_R hR
  have hlen : ps.length = l.length := by rw [← hps, List.length_map]
  obtain ⟨hxs, ⟨hv, hn0⟩ | ⟨g, c', cur, hv, hgb, hz, hnc, hcm, hcs, htk⟩⟩ := ho
  · omega
  injection hv with e1 e2 e3
  clear e2
  subst e1 e3
  have hgW : g < W.heap.size := blk_lt hz
  have hxW : gx < W.heap.size := blk_lt hx
  obtain ⟨xs, hxse⟩ : ∃ xs, xs = (ps.map recOf).flatMap Rec.enc := ⟨_, rfl⟩
  rw [← hxse] at htk hxs
  have hxl : xs.length = l.length * 8 := by rw [hxs, hlen]
  have htk' : cur.toList.take xs.length = xs := by rw [hxs]; exact htk
  have hcl : cur.toList.length = c * 8 := by rw [Array.length_toList]; exact hcs
  have h1xs : ∀ v ∈ xs, v.oneCell' = true := by rw [hxse]; exact encs_one _
  have h1ys : ∀ v ∈ encR x Ax cx, v.oneCell' = true := fun u hu => by
    unfold encR at hu
    simp only [List.mem_cons, List.not_mem_nil, or_false] at hu
    rcases hu with rfl | rfl | rfl | rfl | rfl | rfl | rfl | rfl <;> rfl
  have hxc : ∀ j v, xs[j]? = some v → cur[j]? = some v := fun j v hj => by
    have hlt := (List.getElem?_eq_some_iff.1 hj).1
    have h := hj
    rw [← htk', List.getElem?_take, if_pos hlt] at h
    rw [← Array.getElem?_toList]
    exact h
  obtain ⟨i0, hi0, hzz⟩ := Option.map_eq_some_iff.1 inf_rec
  simp only [Prod.mk.injEq] at hzz
  obtain ⟨hz0, hzs, hzb⟩ := hzz
  have hold : (Builtin.firstCells i0.size i (.slice (some ⟨g, 0, none⟩) i c)).run Try.prog W.drew = .ok (xs.take (i * 8)).toArray W.drew := by
    rw [hzs]
    exact run_firstCells_some W.drew 8 i ⟨g, 0, none⟩ i c (xs.take (i * 8)) (by rw [List.length_take]; omega) (fun j v hj => by
      rw [add_at, Nat.zero_add]
      rw [List.getElem?_take] at hj
      split at hj
      · show W.cell? ⟨g, j, none⟩ = some v
        rw [blk_cell hz]
        exact hxc j v hj
      · cases hj)
  have hik : i + (l.length + 1 - i) = l.length + 1 := by omega
  obtain ⟨G, hG⟩ : ∃ G, G = grownCap W (l.length + 1) c 29 := ⟨_, rfl⟩
  have hGn : l.length + 1 ≤ G := by rw [hG]; exact grownCap_ge W _ _ _
  have hGm : G ≤ maxLen := by rw [hG]; exact grownCap_le_maxLen W (l.length + 1) c 29 (by unfold maxLen; omega)
  obtain ⟨Z, hZ⟩ : ∃ Z : Array Value, Z = Builtin.zeroCells zrec.cells (l.length + 1 - i) ++ Builtin.zeroCells zrec.cells (G - (l.length + 1)) := ⟨_, rfl⟩
  have hZl : Z.toList.length = (l.length + 1 - i) * 8 + (G - (l.length + 1)) * 8 := by
    rw [hZ, Array.length_toList, Array.size_append, size_zeroCells, size_zeroCells]
    rfl
  have hrz : ∀ ty, (Builtin.append_ #[22, 3] ty #[.slice (some ⟨g, 0, none⟩) i c, .int .i64 ((l.length : Int) + 1 - (i : Int))]).run Try.prog W =
      .ok (.slice (some ⟨W.heap.size, 0, none⟩) (l.length + 1) G) (W.drew.alloc (.cells (xs.take (i * 8) ++ Z.toList).toArray 29)) := fun ty => by
    have h := Lib.run_append_grow_zeros W 22 3 ty 29 i0 _ .i64 .i64 Try.underlying22 Try.underlying3 hi0 hz0 (some ⟨g, 0, none⟩) i c (xs.take (i * 8)) hold (l.length + 1 - i) (by omega) (by omega) (by omega) (by omega) (by rw [hzb]; omega) (by rw [hzb, hik]; exact growslice_fits hroom (by omega))
    rw [hik, ← hG] at h
    rw [show (l.length : Int) + 1 - (i : Int) = ((l.length + 1 - i : Nat) : Int) by omega, h, hZ, Array.append_assoc]
    congr 4
    simp
  have htl : (xs.take (i * 8)).length = i * 8 := by rw [List.length_take]; omega
  have hl0 : (xs.take (i * 8) ++ Z.toList).length = G * 8 := by rw [List.length_append, htl, hZl]; omega
  have hfin := ins_new (z := Z.toList) (ys := encR x Ax cx) (s := 8) (a := i * 8) (xs := xs) rfl (by omega) (by omega)
  obtain ⟨cur0, hcur0⟩ : ∃ c1, c1 = xs.take (i * 8) ++ Z.toList := ⟨_, rfl⟩
  rw [← hcur0] at hfin hrz hl0
  obtain ⟨cur1, hcur1⟩ : ∃ c1, c1 = insL cur0 (encR x Ax cx) (i * 8) := ⟨_, rfl⟩
  rw [← hcur1] at hfin
  obtain ⟨cur2, hcur2⟩ : ∃ c1, c1 = shiftL cur1 xs (encR x Ax cx) (i * 8) 8 := ⟨_, rfl⟩
  rw [← hcur2] at hfin
  obtain ⟨N, hN⟩ : ∃ N, N = W.heap.size := ⟨_, rfl⟩
  rw [← hN] at hrz hgW hxW
  have hcp1 : ∀ Wq : World, Wq.heap[N]? = some (.cells cur0.toArray 29 (0, 0)) → Wq.heap[gx]? = some (.cells #[.int .u64 x.f0, .int .u64 x.f1, .int .i64 x.f2, .int .i64 x.f3, .int .u64 x.f4, .bool x.f5, .int .i64 x.f6, .slice Ax x.f7.length cx] 29 (0, 0)) → ∀ ty dc, (Builtin.copy_ #[22, 22] ty #[.slice (some ⟨N, i * 8, none⟩) (l.length + 1 - i) dc, .slice (some ⟨gx, 0, none⟩) 1 1]).run Try.prog Wq = .ok (goInt (Nat.min 1 (l.length + 1 - i))) (Wq.setRow N cur1.toArray) := fun Wq hq hqx ty dc => by
    have hm : Nat.min 1 (l.length + 1 - i) = 1 := by simp only [Nat.min_def]; split <;> omega
    rw [run_copy_rowS (P := Try.prog) Wq 22 22 ty 29 N (i * 8) (l.length + 1 - i) dc ⟨gx, 0, none⟩ 1 1 8 cur0.toArray 29 (encR x Ax cx) Try.underlying22 size_rec hq (by rw [hm]; rfl)
      (fun j v hj => by rw [add_at, Nat.zero_add, blk_cell hqx]; rw [← hj]; unfold encR; rw [← List.getElem?_toArray]) (by rw [List.size_toArray, hl0]; show i * 8 + 8 ≤ _; omega) h1ys]
    rw [hcur1]
    unfold insL
    rfl
  have hcp2 : ∀ Wq : World, Wq.heap[N]? = some (.cells cur1.toArray 29 (0, 0)) → Wq.heap[g]? = some (.cells cur 29 (0, 0)) → ∀ ty dc sc, (Builtin.copy_ #[22, 22] ty #[.slice (some ⟨N, (i + 1) * 8, none⟩) (l.length - i) dc, .slice (some ⟨g, i * 8, none⟩) (l.length - i) sc]).run Try.prog Wq = .ok (goInt (Nat.min (l.length - i) (l.length - i))) (Wq.setRow N cur2.toArray) := fun Wq hq hqg ty dc sc => by
    have hm : Nat.min (l.length - i) (l.length - i) = l.length - i := Nat.min_self _
    rw [run_copy_rowS (P := Try.prog) Wq 22 22 ty 29 N ((i + 1) * 8) (l.length - i) dc ⟨g, i * 8, none⟩ (l.length - i) sc 8 cur1.toArray 29 (xs.drop (i * 8)) Try.underlying22 size_rec hq (by rw [hm, List.length_drop]; omega)
      (fun j v hj => by rw [add_at, blk_cell hqg]; rw [List.getElem?_drop] at hj; exact hxc _ _ hj) (by rw [List.size_toArray, hfin.1, List.length_drop, hl0]; omega) (fun v hv => h1xs v (List.mem_of_mem_drop hv))]
    rw [hcur2]
    unfold shiftL
    rw [Nat.add_mul, Nat.one_mul]
  have hs1 := fun W => slice_from g l.length c i (by omega) (by omega) W
  have hs2 := fun W => slice_to (some ⟨g, 0, none⟩) l.length c i (by omega) W
  have hs3 := fun W => slice_from N (l.length + 1) G i (by omega) (by omega) W
  have a1 : IntKind.i64.wrap ((l.length : Int) + 1) = (l.length : Int) + 1 := by rw [IntKind.wrap_i64]; omega
  have a2 : IntKind.i64.wrap ((i : Int) + 1) = (i : Int) + 1 := by rw [IntKind.wrap_i64]; omega
  have a3 : wrap64 ((l.length : Int) + 1 - (i : Int)) = ((l.length + 1 - i : Nat) : Int) := by unfold wrap64; omega
  have t1 : ((i : Int) == (l.length : Int)) = false := beq_eq_false_iff_ne.2 (by omega)
  have t2 : decide ((c : Int) < ((l.length : Int) + 1)) = true := decide_eq_true (by omega)
  have FIN : Aside0 (∀ w0 w1 w2 : World, w0.heap = (W.alloc (.cells cur0.toArray 29)).heap → w0.os = W.os → w0.tape = W.tape → w0.output = W.output → w1.heap = (w0.setRow N cur1.toArray).heap → w1.os = W.os → w1.tape = W.tape → w1.output = W.output → w2 = w1.setRow N cur2.toArray → InsTo W w2 (.returned (.slice (some ⟨N, 0, none⟩) (l.length + 1) G)) base ok (some g) (putAt l i x)) := ⟨fun w0 w1 w2 e0 eo et eu e1 fo ft fu e2 => by
    have hz0 : w0.heap[N]? = some (.cells cur0.toArray 29 (0, 0)) := by rw [e0, hN]; exact heap_alloc_new W _
    have hz1 : w1.heap[N]? = some (.cells cur1.toArray 29 (0, 0)) := by rw [e1]; exact setRow_heap w0 N cur0.toArray cur1.toArray _ _ hz0
    have hz2 : w2.heap[N]? = some (.cells cur2.toArray 29 (0, 0)) := by rw [e2]; exact setRow_heap w1 N cur1.toArray cur2.toArray _ _ hz1
    have hmv : ∀ k, k < N → w2.heap[k]? = W.heap[k]? := fun k hk => by
      rw [e2, setRow_other w1 N k _ (by omega), e1, setRow_other w0 N k _ (by omega), e0]
      exact heap_alloc_old W _ (by omega)
    have hgr : W.grownBy w2 (some g) := by
      refine ⟨by rw [e2]; exact fo, by rw [e2]; exact ft, by rw [e2]; exact fu, ?_, fun k hk _ => hmv k (by omega)⟩
      rw [e2, setRow_size, e1, setRow_size, e0]
      simp
    have hb : ∀ {α : Type} {d : Kd α} {e : Nat} {ok' : Nat → Prop} {v : Value} {xs : List α}, (∀ k, ok' k → ok k) → d.R e W base ok' v xs → d.R e w2 base (fun k => ok k ∧ k ≠ N) v xs := fun ho hR' =>
      Kd.R_mono (Kd.R_step (Kd.R_bound hR') (fun k hk hlt => hmv k (by have := hk.2.2.1; omega))) (fun k hk => ⟨ho k hk.1, by have := hk.2.2.1; omega⟩)
    refine insTo_mk (x := x) (Ax := Ax) (cx := cx) (ps := ps) hps (by omega) hz2 (by rw [List.size_toArray, hfin.2.1]; exact hl0) hGn hGm (by omega) (hfresh N (by omega)) ?_ (fun p hp => hb (fun k hk => hk.1) (hmade p hp)) (hb (fun k hk => hk.1) hM) hgr
    rw [← hxse]
    exact hfin.2.2⟩
  have HCP1 := Aside0.mk hcp1
  have HCP2 := Aside0.mk hcp2
  have HX := Aside0.mk hx
  have HZ := Aside0.mk hz
  have HLT := Aside0.mk (And.intro hgW (And.intro hxW hN))
  have HRZ := Aside0.mk hrz
  have HNC : Aside0 (l.length ≤ c) := ⟨by omega⟩
  clear hR hM hx hz hcp1 hcp2 hxc h1xs h1ys hfin hcur1 hcur2 hcur0 htk htk' hxl hxs hxse hmade hps hlen hcl hcs hcm hgb hrz hold hZ hZl hG hi0 hz0 hzs hzb hik htl hl0 hfresh hgW hxW hN hs
  go_enter Try.func30, Try.ntmps30
  go_upto_region 10 with (at_builtin; refine appz_wp rfl _ _ 22 3 rfl rfl rfl (HRZ.out _) ?_)
  obtain ⟨W0, hW0⟩ : ∃ W0, W0 = (W.alloc (.cells cur0.toArray 29)).drew := ⟨_, rfl⟩
  rw [← hW0]
  have z0 : W0.heap[N]? = some (.cells cur0.toArray 29 (0, 0)) := by rw [hW0, HLT.out.2.2]; exact heap_alloc_new W _
  have zx : W0.heap[gx]? = some (.cells #[.int .u64 x.f0, .int .u64 x.f1, .int .i64 x.f2, .int .i64 x.f3, .int .u64 x.f4, .bool x.f5, .int .i64 x.f6, .slice Ax x.f7.length cx] 29 (0, 0)) := by rw [hW0]; exact (heap_alloc_old W _ (by have := HLT.out; omega)).trans HX.out
  have zg : W0.heap[g]? = some (.cells cur 29 (0, 0)) := by rw [hW0]; exact (heap_alloc_old W _ (by have := HLT.out; omega)).trans HZ.out
  have HC1 := Aside0.mk (HCP1.out W0 z0 zx)
  have HZ0 := Aside0.mk (And.intro z0 zg)
  have HW0 := Aside0.mk hW0
  clear hW0 z0 zx zg
  go_upto_region 11 with (refine copy_wp rfl _ _ 22 rfl rfl rfl (HC1.out _ _) ?_)
  obtain ⟨W1, hW1⟩ : ∃ W1, W1 = W0.setRow N cur1.toArray := ⟨_, rfl⟩
  rw [← hW1]
  have HC2 := Aside0.mk (HCP2.out W1.drew (by rw [hW1]; exact setRow_heap W0 N cur0.toArray cur1.toArray _ _ HZ0.out.1) (by rw [hW1]; exact (setRow_other W0 N g cur1.toArray (by have := HLT.out; omega)).trans HZ0.out.2))
  have HW1 := Aside0.mk hW1
  clear hW1
  clear a1 a2 a3 t1 t2
  have a2 : IntKind.i64.wrap ((i : Int) + 1) = (i : Int) + 1 := by rw [IntKind.wrap_i64]; omega
  have b1 : (0 : Int) ≤ (i : Int) + 1 := by clear a2; omega
  have b2 : i ≤ l.length := by clear a2; omega
  have b3 : ¬ (G = i + 1) := by clear a2; omega
  have b4 : ¬ (c = i) := by have := HNC.out; clear a2; omega
  have b5 : (i : Int) ≤ (l.length : Int) := by clear a2; omega
  go_region_law (refine copy_step rfl _ _ 22 rfl (v := .slice (some ⟨N, (i + 1) * 8, none⟩) (l.length - i) (G - (i + 1))) (u := .slice (some ⟨g, i * 8, none⟩) (l.length - i) (c - i)) (by simp [Act.eval, Act.put]) (by simp [Act.eval, Act.put]) (HC2.out _ _ _) ?_)
  go_wp2_with fail
  go_ret
  exact FIN.out W0 W1.drew _ (by rw [HW0.out]; rfl) (by rw [HW0.out]; rfl) (by rw [HW0.out]; rfl) (by rw [HW0.out]; rfl) (by rw [HW1.out]; rfl) (by rw [HW1.out, HW0.out]; rfl) (by rw [HW1.out, HW0.out]; rfl) (by rw [HW1.out, HW0.out]; rfl) rfl
theorem insert_mid {W : World} {base gx i : Nat} {l : List R0} {A : Option Addr} {c : Nat} {ok : Nat → Prop} (x : R0) (Ax : Option Addr) (cx : Nat) (hR : k29.R 29 W base ok (.slice A l.length c) l) (hc : l.length ≤ c) (hM : (Kd.int .i64).R 3 W base (fun k => ok k ∧ some k ≠ (Value.slice A l.length c).ownBlock) (.slice Ax x.f7.length cx) x.f7)
    (hx : W.heap[gx]? = some (.cells #[.int .u64 x.f0, .int .u64 x.f1, .int .i64 x.f2, .int .i64 x.f3, .int .u64 x.f4, .bool x.f5, .int .i64 x.f6, .slice Ax x.f7.length cx] 29 (0, 0))) (hn : l.length + 1 ≤ 100000) (hs : base ≤ W.heap.size) (hfresh : ∀ k, W.heap.size ≤ k → ok k) (hi : i ≤ l.length) (hgx : some gx ≠ (Value.slice A l.length c).ownBlock) :
    Calls Try.prog 30 #[.slice A l.length c, .int .i64 (i : Int), .slice (some ⟨gx, 0, none⟩) 1 1] W fun e w' => InsTo W w' e base ok (Value.slice A l.length c).ownBlock (putAt l i x) := by
  rcases Nat.lt_or_ge i l.length with h | h
  · rcases Nat.lt_or_ge c (l.length + 1) with h2 | h2
    · exact insert_grow x Ax cx hR hM hx hn h h2 hs hfresh
    · exact insert_room x Ax cx hR hM hx hn h h2 hgx
  · have : i = l.length := by omega
    subst this
    have e : putAt l l.length x = l ++ [x] := by unfold putAt; rw [List.take_length, List.drop_length]
    rw [e]
    exact insert_end x Ax cx hR hc hM hx hn hs hfresh
end Go.Proofs.Ytaepbgieahedjaa.QS
namespace Go.Proofs.Ytaepbgieahedjaa.QS
set_option linter.unusedVariables false
set_option linter.unusedSimpArgs false
open Go.RowKit Go.Proofs.Ytaepbgieahedjaa.Hp Go.Proofs.YtaepbgieahedjaaW.PrintWords Go.Proofs.YtaepbgieahedjaaW.PrintLast Go.Proofs.YtaepbgieahedjaaW.PrintMore
open Go.Proofs.Ytaepbgieahedjaa.IP
def iput9.T9 : Bool × List (List Nat × List Nat) := (true, [([], []), ([], []), ([1], [1]), ([2], [2]), ([3], [3]), ([], []), ([], []), ([6], [6]), ([7], [7]), ([4, 5, 8, 7], [4, 5, 8]), ([0, 0, 1, 2, 3, 4, 5, 6, 7, 8, 9], [0]), ([10, 0, 1, 2, 3, 4, 5, 6, 7, 8, 9], [10]), ([11, 9, 9, 0, 1, 2, 3, 4, 5, 6, 7, 8, 9], [9, 11])])
def iput9.B9 : List Nat := [0, 0, 2, 6, 14, 0, 0, 64, 192, 510, 1023, 2047, 4095]
theorem iput9.tab9 : rtab .any (opsOf Try.f17 9) = iput9.T9 := by kernel_rfl
theorem iput9.bits9 : waitsOk iput9.T9.2 iput9.B9 = true := by kernel_rfl
set_option maxHeartbeats 4000000 in
set_option maxRecDepth 100000 in
theorem put_any {W : World} {base g i : Nat} {l : List R0} (h : IX W base g l) (x : R0) (A : Option Addr) (c : Nat) (hC : Kd.C (Kd.int .i64) W A x.f7.length x.f7) (hp : x.f7.length ≤ 1000) (hm : mayB x = true) (hr : Rising keyR l) (hn : l.length ≤ 1000) (hlow : low keyR l x.f0 = i) (hk : hasKey keyR l x.f0 = false) :
    Calls Try.prog 17 #[.pointer (some ⟨g, 0, none⟩), ragg x A c] W fun e w' => e = .returned (.int .i64 0) ∧ IX w' base g (putAt l i x) ∧ Below base W w' := by
  have hz := heap_alloc_new W (.cells #[.int .u64 x.f0, .int .u64 x.f1, .int .i64 x.f2, .int .i64 x.f3, .int .u64 x.f4, .bool x.f5, .int .i64 x.f6, .slice A x.f7.length c] 29)
  have hb := below_alloc (Below.refl W.heap.size W) (.cells #[.int .u64 x.f0, .int .u64 x.f1, .int .i64 x.f2, .int .i64 x.f3, .int .u64 x.f4, .bool x.f5, .int .i64 x.f6, .slice A x.f7.length c] 29)
  obtain ⟨gb, hgb⟩ : ∃ g, g = W.heap.size := ⟨_, rfl⟩
  have HX1 := Aside0.mk (h.below hb)
  have HC1 := Aside0.mk (Kd.C_below hC hb)
  have HIN := Aside0.mk (And.intro hp (And.intro hr (And.intro hn (And.intro hlow hk))))
  have hck : chk x = 0 := by unfold chk; rw [if_pos hm]
  have HBS : Aside0 (base ≤ W.heap.size) := ⟨by obtain ⟨A', c', hz', _, hg'⟩ := h; have := blk_lt hz'; omega⟩
  unfold ragg
  clear h hC hp hm hr hn hlow hk
  go_enter Try.func17, Try.ntmps17
  go_upto_region 1 with fail
  generalize W.alloc (.cells #[.int .u64 x.f0, .int .u64 x.f1, .int .i64 x.f2, .int .i64 x.f3, .int .u64 x.f4, .bool x.f5, .int .i64 x.f6, .slice A x.f7.length c] 29) = W1 at hz hb HX1 HC1 ⊢
  rw [← hgb] at hz ⊢
  have HCK := Aside0.mk (check_calls x A c W1 (by have := HIN.out.1; omega) HC1.out)
  rw [hck] at HCK
  unfold ragg at HCK
  have HZ := Aside0.mk hz
  have HB := Aside0.mk hb
  have c0 := blk_cell hz 0
  have c1 := blk_cell hz 1
  have c2 := blk_cell hz 2
  have c3 := blk_cell hz 3
  have c4 := blk_cell hz 4
  have c5 := blk_cell hz 5
  have c6 := blk_cell hz 6
  have c7 := blk_cell hz 7
  clear hz hb hgb hck
  go_upto_region 6 with (go_at_call 29; refine HCK.out.mono ?_; rintro e w2 ⟨rfl, hb⟩; have HB2 := Aside0.mk (below_then HB.out HB.out.size hb); have HZ2 := Aside0.mk (blk_below HZ.out hb); have HX2 := Aside0.mk (HX1.out.below hb); have HC2 := Aside0.mk (Kd.C_below HC1.out hb); clear hb c0 c1 c2 c3 c4 c5 c6 c7)
  have HPL := Aside0.mk (place_calls HX2.out HIN.out.2.1 (by have := HIN.out.2.2.1; omega) x.f0)
  rw [HIN.out.2.2.2.1, HIN.out.2.2.2.2] at HPL
  have c0 := blk_cell HZ2.out 0
  clear HX1 HC1 HCK HZ HB
  go_upto_region 9 with (go_at_call 27; refine HPL.out.mono ?_; rintro e w5 ⟨rfl, hb⟩; have HB5 := Aside0.mk (below_then HB2.out HB2.out.size hb); have HZ5 := Aside0.mk (blk_below HZ2.out hb); have HX5 := Aside0.mk (HX2.out.below hb); have HC5 := Aside0.mk (Kd.C_below HC2.out hb); clear hb c0)
  clear HPL HB2 HZ2 HX2 HC2
  obtain ⟨A1, c1, hzg, hRl, hbg⟩ := HX5.out
  obtain ⟨A1', c1', hv1, hcl, _⟩ := Kd.R_reads hRl
  injection hv1 with e1 _ e3
  subst e1 e3
  have HG1 : Aside0 (base ≤ g ∧ g < w5.heap.size ∧ base ≤ w5.heap.size ∧ l.length ≤ c1 ∧ ∀ k, (Value.slice A1 l.length c1).ownBlock = some k → k < w5.heap.size) := ⟨hbg, blk_lt hzg, by have := blk_lt hzg; omega, hcl, Kd.R_lt hRl⟩
  have HCP : Aside0 (∀ w', Kd.C (Kd.int .i64) w' A x.f7.length x.f7 → Calls Try.prog 31 #[ragg x A c] w' fun e w2 => OwnR w' w2 e x) := ⟨fun w' hC => copy_calls x A c w' (by have := HIN.out.1; omega) hC⟩
  have HIL : Aside0 (i ≤ l.length) := ⟨by rw [← HIN.out.2.2.2.1]; exact low_le⟩
  have HPLN : Aside0 ((putAt l i x).length = l.length + 1) := ⟨putAt_length HIL.out⟩
  have HIS : Aside0 (∀ (w' : World) (A2 : Option Addr) (c2 gx : Nat), w5.heap.size ≤ w'.heap.size → k29.R 29 w' base (fun k => g < k) (.slice A1 l.length c1) l → (Kd.int .i64).R 3 w' w5.heap.size (fun k => w5.heap.size ≤ k) (.slice A2 x.f7.length c2) x.f7 → (w'.heap[gx]? = some (.cells #[.int .u64 x.f0, .int .u64 x.f1, .int .i64 x.f2, .int .i64 x.f3, .int .u64 x.f4, .bool x.f5, .int .i64 x.f6, .slice A2 x.f7.length c2] 29 (0, 0)) ∧ w5.heap.size ≤ gx) → Calls Try.prog 30 #[.slice A1 l.length c1, .int .i64 (i : Int), .slice (some ⟨gx, 0, none⟩) 1 1] w' fun e w2 => InsTo w' w2 e base (fun k => g < k) (Value.slice A1 l.length c1).ownBlock (putAt l i x)) := ⟨fun w' A2 c2 gx hs hR hM hx =>
    insert_mid x A2 c2 hR HG1.out.2.2.2.1 (Kd.R_mono (Kd.R_lower hM HG1.out.2.2.1) (fun k hk => ⟨Nat.lt_of_lt_of_le HG1.out.2.1 hk, fun he => by have := HG1.out.2.2.2.2 k he.symm; have h2 : w5.heap.size ≤ k := hk; omega⟩)) hx.1 (by have := HIN.out.2.2.1; omega) (Nat.le_trans HG1.out.2.2.1 hs) (fun k hk => by have := HG1.out.2.1; show g < k; omega) HIL.out (fun he => by have := HG1.out.2.2.2.2 gx he.symm; have h2 := hx.2; omega)⟩
  have D0 := below_drew1 (Below.refl w5.heap.size w5)
  have B5 := Aside0.mk D0
  have BX := Aside0.mk (below_then (HB5.out.mono HBS.out) (Nat.le_trans HBS.out HB5.out.size) D0)
  have ZB := Aside0.mk (blk_below HZ5.out D0)
  have ZG := Aside0.mk (blk_below hzg D0)
  have RR := Aside0.mk (Kd.R_below hRl D0)
  have CA := Aside0.mk (Kd.C_below HC5.out D0)
  have PR := True.intro
  have GX := True.intro
  have IR := True.intro
  have FIN := True.intro
  clear hzg hRl hbg hcl D0 HX5
  refine start_ (n := 13) (S := fun w' => True) (ds := []) #[false, false, false, false, false, false, false, false, false, false, false, false, false] (by kernel_rfl) rfl rfl trivial (fun hHeld => ?_)
  refine with_tabW iput9.tab9 iput9.bits9 (fun HT_ HW_ => ?_)
  generalize w5.drew = wz at B5 BX ZB ZG RR CA hHeld ⊢
  refine inv_at [0, 1, 2, 3, 4, 5, 6, 7, 8, 9, 10, 11, 12] (fun a0_ b a w' => ∃ (A2 : Option Addr) (c2 : Nat) (gx : Nat) (A3 : Option Addr) (c3 : Nat) (m7_ : Value) (m8_ : Value) (m9_ : Value), a = putSel a0_ b [(0, 23, .pointer (some ⟨g, 0, none⟩)), (1, 24, .pointer (some ⟨g, 0, none⟩)), (2, 25, .pointer (some ⟨g, 0, none⟩)), (3, 26, .pointer (some ⟨g, 0, none⟩)), (4, 27, .slice A1 l.length c1), (5, 28, .int .i64 (i : Int)), (6, 29, .agg #[.int .u64 x.f0, .int .u64 x.f1, .int .i64 x.f2, .int .i64 x.f3, .int .u64 x.f4, .bool x.f5, .int .i64 x.f6, .slice A x.f7.length c]), (7, 30, m7_), (8, 31, m8_), (9, 32, m9_), (10, 33, .pointer (some ⟨g, 0, none⟩)), (11, 34, .pointer (some ⟨g, 0, none⟩))] ∧ (b 9 = false → Below w5.heap.size w5 w') ∧ (Below base W w') ∧ (b 9 = false → w'.heap[gb]? = some (.cells #[.int .u64 x.f0, .int .u64 x.f1, .int .i64 x.f2, .int .i64 x.f3, .int .u64 x.f4, .bool x.f5, .int .i64 x.f6, .slice A x.f7.length c] 29 (0, 0))) ∧ (b 12 = false → w'.heap[g]? = some (.cells #[.slice A1 l.length c1] 57 (0, 0))) ∧ (b 9 = false → k29.R 29 w' base (fun k => g < k) (.slice A1 l.length c1) l) ∧ (b 9 = false → Kd.C (Kd.int .i64) w' A x.f7.length x.f7) ∧ (b 7 = true → b 9 = false → (Kd.int .i64).R 3 w' w5.heap.size (fun k => w5.heap.size ≤ k) (.slice A2 x.f7.length c2) x.f7) ∧ (b 8 = true → b 9 = false → (w'.heap[gx]? = some (.cells #[.int .u64 x.f0, .int .u64 x.f1, .int .i64 x.f2, .int .i64 x.f3, .int .u64 x.f4, .bool x.f5, .int .i64 x.f6, .slice A2 x.f7.length c2] 29 (0, 0)) ∧ w5.heap.size ≤ gx)) ∧ (b 9 = true → b 12 = false → k29.R 29 w' base (fun k => g < k) (.slice A3 (putAt l i x).length c3) (putAt l i x)) ∧ (b 12 = true → IX w' base g (putAt l i x)) ∧ (b 7 = true → (m7_ : Value) = .agg #[.int .u64 x.f0, .int .u64 x.f1, .int .i64 x.f2, .int .i64 x.f3, .int .u64 x.f4, .bool x.f5, .int .i64 x.f6, .slice A2 x.f7.length c2]) ∧ (b 8 = true → (m8_ : Value) = .slice (some ⟨gx, 0, none⟩) 1 1) ∧ (b 9 = true → (m9_ : Value) = .slice A3 (putAt l i x).length c3)) HT_.out HW_.out (by kernel_rfl) (by kernel_rfl) ?_ ?_ ?_
  · exact ⟨none, 0, 0, none, 0, .bool false, .bool false, .bool false, by simp only [putSel, Bool.false_eq_true, if_false], fun _ => B5.out, BX.out, fun _ => ZB.out, fun _ => ZG.out, fun _ => RR.out, fun _ => CA.out, fun h_ => absurd h_ (by decide), fun h_ => absurd h_ (by decide), fun h_ => absurd h_ (by decide), fun h_ => absurd h_ (by decide), fun h_ => absurd h_ (by decide), fun h_ => absurd h_ (by decide), fun h_ => absurd h_ (by decide)⟩
  · skip
    clear B5 BX CA RR ZB ZG
    refine steps_cons ?_ ?_
    · rintro b a w' ⟨A2, c2, gx, A3, c3, m7_, m8_, m9_, ha, Q_B5, Q_BX, Q_ZB, Q_ZG, Q_RR, Q_CA, Q_PR, Q_GX, Q_IR, Q_FIN, Q_X7_, Q_X8_, Q_X9_⟩ hb_ hon hoff
      refine ⟨_, rfl, fun K hK => ?_⟩
      have e0 : a.tmps[0]? = some (.pointer (some ⟨g, 0, none⟩)) := by rw [ha]; exact (putSel_off rfl).trans rfl
      replace ha := Aside0.mk ha
      have BX := Aside0.mk Q_BX
      have ZG := Aside0.mk (Q_ZG (hoff 12 (by kernel_rfl)))
      refine value_ (w1 := w') (v := .pointer (some ⟨g, 0, none⟩)) (by rfl) rfl ?_ ?_
      · go_simp
        (try simp only [i64_w])
        try rfl
      refine hK.out _ _ ⟨A2, c2, gx, A3, c3, m7_, m8_, m9_, (by rw [ha.out]; exact putSel_upk 0 hb_ rfl rfl rfl), Q_B5, Q_BX, Q_ZB, Q_ZG, Q_RR, Q_CA, Q_PR, Q_GX, Q_IR, fun h0_ => absurd ((hoff 12 (by kernel_rfl)).symm.trans h0_) (by decide), Q_X7_, Q_X8_, Q_X9_⟩
    refine steps_cons ?_ ?_
    · rintro b a w' ⟨A2, c2, gx, A3, c3, m7_, m8_, m9_, ha, Q_B5, Q_BX, Q_ZB, Q_ZG, Q_RR, Q_CA, Q_PR, Q_GX, Q_IR, Q_FIN, Q_X7_, Q_X8_, Q_X9_⟩ hb_ hon hoff
      refine ⟨_, rfl, fun K hK => ?_⟩
      have e0 : a.tmps[0]? = some (.pointer (some ⟨g, 0, none⟩)) := by rw [ha]; exact (putSel_off rfl).trans rfl
      replace ha := Aside0.mk ha
      have B5 := Aside0.mk (Q_B5 (hoff 9 (by kernel_rfl)))
      have BX := Aside0.mk Q_BX
      have ZB := Aside0.mk (Q_ZB (hoff 9 (by kernel_rfl)))
      have ZG := Aside0.mk (Q_ZG (hoff 12 (by kernel_rfl)))
      have RR := Aside0.mk (Q_RR (hoff 9 (by kernel_rfl)))
      have CA := Aside0.mk (Q_CA (hoff 9 (by kernel_rfl)))
      refine value_ (w1 := w') (v := .pointer (some ⟨g, 0, none⟩)) (by rfl) rfl ?_ ?_
      · go_simp
        (try simp only [i64_w])
        try rfl
      refine hK.out _ _ ⟨A2, c2, gx, A3, c3, m7_, m8_, m9_, (by rw [ha.out]; exact putSel_upk 1 hb_ rfl rfl rfl), Q_B5, Q_BX, Q_ZB, Q_ZG, Q_RR, Q_CA, Q_PR, Q_GX, fun h0_ _ => absurd ((hoff 9 (by kernel_rfl)).symm.trans h0_) (by decide), fun h0_ => absurd ((hoff 12 (by kernel_rfl)).symm.trans h0_) (by decide), Q_X7_, Q_X8_, fun h0_ => absurd ((hoff 9 (by kernel_rfl)).symm.trans h0_) (by decide)⟩
    refine steps_cons ?_ ?_
    · rintro b a w' ⟨A2, c2, gx, A3, c3, m7_, m8_, m9_, ha, Q_B5, Q_BX, Q_ZB, Q_ZG, Q_RR, Q_CA, Q_PR, Q_GX, Q_IR, Q_FIN, Q_X7_, Q_X8_, Q_X9_⟩ hb_ hon hoff
      refine ⟨_, rfl, fun K hK => ?_⟩
      have e24 : a.tmps[24]? = some (.pointer (some ⟨g, 0, none⟩)) := by rw [ha]; exact putSel_on (e := (1, 24, .pointer (some ⟨g, 0, none⟩))) 1 rfl rfl (hon 1 (by kernel_rfl)) rfl
      replace ha := Aside0.mk ha
      have B5 := Aside0.mk (Q_B5 (hoff 9 (by kernel_rfl)))
      have BX := Aside0.mk Q_BX
      have ZB := Aside0.mk (Q_ZB (hoff 9 (by kernel_rfl)))
      have ZG := Aside0.mk (Q_ZG (hoff 12 (by kernel_rfl)))
      have RR := Aside0.mk (Q_RR (hoff 9 (by kernel_rfl)))
      have CA := Aside0.mk (Q_CA (hoff 9 (by kernel_rfl)))
      refine value_ (w1 := w') (v := .pointer (some ⟨g, 0, none⟩)) (by rfl) rfl ?_ ?_
      · go_simp
        (try simp only [i64_w])
        try rfl
      refine hK.out _ _ ⟨A2, c2, gx, A3, c3, m7_, m8_, m9_, (by rw [ha.out]; exact putSel_upk 2 hb_ rfl rfl rfl), Q_B5, Q_BX, Q_ZB, Q_ZG, Q_RR, Q_CA, Q_PR, Q_GX, fun h0_ _ => absurd ((hoff 9 (by kernel_rfl)).symm.trans h0_) (by decide), fun h0_ => absurd ((hoff 12 (by kernel_rfl)).symm.trans h0_) (by decide), Q_X7_, Q_X8_, fun h0_ => absurd ((hoff 9 (by kernel_rfl)).symm.trans h0_) (by decide)⟩
    refine steps_cons ?_ ?_
    · rintro b a w' ⟨A2, c2, gx, A3, c3, m7_, m8_, m9_, ha, Q_B5, Q_BX, Q_ZB, Q_ZG, Q_RR, Q_CA, Q_PR, Q_GX, Q_IR, Q_FIN, Q_X7_, Q_X8_, Q_X9_⟩ hb_ hon hoff
      refine ⟨_, rfl, fun K hK => ?_⟩
      have e25 : a.tmps[25]? = some (.pointer (some ⟨g, 0, none⟩)) := by rw [ha]; exact putSel_on (e := (2, 25, .pointer (some ⟨g, 0, none⟩))) 2 rfl rfl (hon 2 (by kernel_rfl)) rfl
      replace ha := Aside0.mk ha
      have B5 := Aside0.mk (Q_B5 (hoff 9 (by kernel_rfl)))
      have BX := Aside0.mk Q_BX
      have ZB := Aside0.mk (Q_ZB (hoff 9 (by kernel_rfl)))
      have ZG := Aside0.mk (Q_ZG (hoff 12 (by kernel_rfl)))
      have RR := Aside0.mk (Q_RR (hoff 9 (by kernel_rfl)))
      have CA := Aside0.mk (Q_CA (hoff 9 (by kernel_rfl)))
      refine value_ (w1 := w') (v := .pointer (some ⟨g, 0, none⟩)) (by rfl) rfl ?_ ?_
      · go_simp
        (try simp only [i64_w])
        try rfl
      refine hK.out _ _ ⟨A2, c2, gx, A3, c3, m7_, m8_, m9_, (by rw [ha.out]; exact putSel_upk 3 hb_ rfl rfl rfl), Q_B5, Q_BX, Q_ZB, Q_ZG, Q_RR, Q_CA, Q_PR, Q_GX, fun h0_ _ => absurd ((hoff 9 (by kernel_rfl)).symm.trans h0_) (by decide), fun h0_ => absurd ((hoff 12 (by kernel_rfl)).symm.trans h0_) (by decide), Q_X7_, Q_X8_, fun h0_ => absurd ((hoff 9 (by kernel_rfl)).symm.trans h0_) (by decide)⟩
    refine steps_cons ?_ ?_
    · rintro b a w' ⟨A2, c2, gx, A3, c3, m7_, m8_, m9_, ha, Q_B5, Q_BX, Q_ZB, Q_ZG, Q_RR, Q_CA, Q_PR, Q_GX, Q_IR, Q_FIN, Q_X7_, Q_X8_, Q_X9_⟩ hb_ hon hoff
      refine ⟨_, rfl, fun K hK => ?_⟩
      have e26 : a.tmps[26]? = some (.pointer (some ⟨g, 0, none⟩)) := by rw [ha]; exact putSel_on (e := (3, 26, .pointer (some ⟨g, 0, none⟩))) 3 rfl rfl (hon 3 (by kernel_rfl)) rfl
      replace ha := Aside0.mk ha
      have B5 := Aside0.mk (Q_B5 (hoff 9 (by kernel_rfl)))
      have BX := Aside0.mk Q_BX
      have ZB := Aside0.mk (Q_ZB (hoff 9 (by kernel_rfl)))
      have ZG := Aside0.mk (Q_ZG (hoff 12 (by kernel_rfl)))
      have RR := Aside0.mk (Q_RR (hoff 9 (by kernel_rfl)))
      have CA := Aside0.mk (Q_CA (hoff 9 (by kernel_rfl)))
      have c_ := blk_cell ZG.out 0
      refine value_ (w1 := w') (v := .slice A1 l.length c1) (by rfl) rfl ?_ ?_
      · go_simp
        (try simp only [i64_w])
        try rfl
      refine hK.out _ _ ⟨A2, c2, gx, A3, c3, m7_, m8_, m9_, (by rw [ha.out]; exact putSel_upk 4 hb_ rfl rfl rfl), Q_B5, Q_BX, Q_ZB, Q_ZG, Q_RR, Q_CA, Q_PR, Q_GX, fun h0_ _ => absurd ((hoff 9 (by kernel_rfl)).symm.trans h0_) (by decide), fun h0_ => absurd ((hoff 12 (by kernel_rfl)).symm.trans h0_) (by decide), Q_X7_, Q_X8_, fun h0_ => absurd ((hoff 9 (by kernel_rfl)).symm.trans h0_) (by decide)⟩
    refine steps_cons ?_ ?_
    · rintro b a w' ⟨A2, c2, gx, A3, c3, m7_, m8_, m9_, ha, Q_B5, Q_BX, Q_ZB, Q_ZG, Q_RR, Q_CA, Q_PR, Q_GX, Q_IR, Q_FIN, Q_X7_, Q_X8_, Q_X9_⟩ hb_ hon hoff
      refine ⟨_, rfl, fun K hK => ?_⟩
      have e6 : a.tmps[6]? = some (.int .i64 (i : Int)) := by rw [ha]; exact (putSel_off rfl).trans rfl
      replace ha := Aside0.mk ha
      have B5 := Aside0.mk (Q_B5 (hoff 9 (by kernel_rfl)))
      have BX := Aside0.mk Q_BX
      have ZB := Aside0.mk (Q_ZB (hoff 9 (by kernel_rfl)))
      have ZG := Aside0.mk (Q_ZG (hoff 12 (by kernel_rfl)))
      have RR := Aside0.mk (Q_RR (hoff 9 (by kernel_rfl)))
      have CA := Aside0.mk (Q_CA (hoff 9 (by kernel_rfl)))
      refine value_ (w1 := w') (v := .int .i64 (i : Int)) (by rfl) rfl ?_ ?_
      · go_simp
        (try simp only [i64_w])
        try rfl
      refine hK.out _ _ ⟨A2, c2, gx, A3, c3, m7_, m8_, m9_, (by rw [ha.out]; exact putSel_upk 5 hb_ rfl rfl rfl), Q_B5, Q_BX, Q_ZB, Q_ZG, Q_RR, Q_CA, Q_PR, Q_GX, fun h0_ _ => absurd ((hoff 9 (by kernel_rfl)).symm.trans h0_) (by decide), fun h0_ => absurd ((hoff 12 (by kernel_rfl)).symm.trans h0_) (by decide), Q_X7_, Q_X8_, fun h0_ => absurd ((hoff 9 (by kernel_rfl)).symm.trans h0_) (by decide)⟩
    refine steps_cons ?_ ?_
    · rintro b a w' ⟨A2, c2, gx, A3, c3, m7_, m8_, m9_, ha, Q_B5, Q_BX, Q_ZB, Q_ZG, Q_RR, Q_CA, Q_PR, Q_GX, Q_IR, Q_FIN, Q_X7_, Q_X8_, Q_X9_⟩ hb_ hon hoff
      refine ⟨_, rfl, fun K hK => ?_⟩
      have e3 : a.tmps[3]? = some (.pointer (some ⟨gb, 0, none⟩)) := by rw [ha]; exact (putSel_off rfl).trans rfl
      replace ha := Aside0.mk ha
      have B5 := Aside0.mk (Q_B5 (hoff 9 (by kernel_rfl)))
      have BX := Aside0.mk Q_BX
      have ZB := Aside0.mk (Q_ZB (hoff 9 (by kernel_rfl)))
      have ZG := Aside0.mk (Q_ZG (hoff 12 (by kernel_rfl)))
      have RR := Aside0.mk (Q_RR (hoff 9 (by kernel_rfl)))
      have CA := Aside0.mk (Q_CA (hoff 9 (by kernel_rfl)))
      have c0_ := blk_cell (ZB.out) 0
      have c1_ := blk_cell (ZB.out) 1
      have c2_ := blk_cell (ZB.out) 2
      have c3_ := blk_cell (ZB.out) 3
      have c4_ := blk_cell (ZB.out) 4
      have c5_ := blk_cell (ZB.out) 5
      have c6_ := blk_cell (ZB.out) 6
      have c7_ := blk_cell (ZB.out) 7
      refine value_ (w1 := w') (v := .agg #[.int .u64 x.f0, .int .u64 x.f1, .int .i64 x.f2, .int .i64 x.f3, .int .u64 x.f4, .bool x.f5, .int .i64 x.f6, .slice A x.f7.length c]) (by rfl) rfl ?_ ?_
      · go_simp
        (try simp only [i64_w])
        try rfl
      refine hK.out _ _ ⟨A2, c2, gx, A3, c3, m7_, m8_, m9_, (by rw [ha.out]; exact putSel_upk 6 hb_ rfl rfl rfl), Q_B5, Q_BX, Q_ZB, Q_ZG, Q_RR, Q_CA, fun h0_ _ => absurd ((hoff 7 (by kernel_rfl)).symm.trans h0_) (by decide), fun h0_ _ => absurd ((hoff 8 (by kernel_rfl)).symm.trans h0_) (by decide), fun h0_ _ => absurd ((hoff 9 (by kernel_rfl)).symm.trans h0_) (by decide), fun h0_ => absurd ((hoff 12 (by kernel_rfl)).symm.trans h0_) (by decide), fun h0_ => absurd ((hoff 7 (by kernel_rfl)).symm.trans h0_) (by decide), fun h0_ => absurd ((hoff 8 (by kernel_rfl)).symm.trans h0_) (by decide), fun h0_ => absurd ((hoff 9 (by kernel_rfl)).symm.trans h0_) (by decide)⟩
    refine steps_cons ?_ ?_
    · rintro b a w' ⟨A2, c2, gx, A3, c3, m7_, m8_, m9_, ha, Q_B5, Q_BX, Q_ZB, Q_ZG, Q_RR, Q_CA, Q_PR, Q_GX, Q_IR, Q_FIN, Q_X7_, Q_X8_, Q_X9_⟩ hb_ hon hoff
      refine ⟨_, rfl, fun K hK => ?_⟩
      have e29 : a.tmps[29]? = some (.agg #[.int .u64 x.f0, .int .u64 x.f1, .int .i64 x.f2, .int .i64 x.f3, .int .u64 x.f4, .bool x.f5, .int .i64 x.f6, .slice A x.f7.length c]) := by rw [ha]; exact putSel_on (e := (6, 29, .agg #[.int .u64 x.f0, .int .u64 x.f1, .int .i64 x.f2, .int .i64 x.f3, .int .u64 x.f4, .bool x.f5, .int .i64 x.f6, .slice A x.f7.length c])) 6 rfl rfl (hon 6 (by kernel_rfl)) rfl
      replace ha := Aside0.mk ha
      have B5 := Aside0.mk (Q_B5 (hoff 9 (by kernel_rfl)))
      have BX := Aside0.mk Q_BX
      have ZB := Aside0.mk (Q_ZB (hoff 9 (by kernel_rfl)))
      have ZG := Aside0.mk (Q_ZG (hoff 12 (by kernel_rfl)))
      have RR := Aside0.mk (Q_RR (hoff 9 (by kernel_rfl)))
      have CA := Aside0.mk (Q_CA (hoff 9 (by kernel_rfl)))
      refine goes_ Try.func31 (by kernel_rfl) rfl #[.agg #[.int .u64 x.f0, .int .u64 x.f1, .int .i64 x.f2, .int .i64 x.f3, .int .u64 x.f4, .bool x.f5, .int .i64 x.f6, .slice A x.f7.length c]] (by rfl) rfl rfl (by first | (simp only [List.map_toArray, List.map_cons, List.map_nil, Act.eval, Array.getD_eq_getD_getElem?, Option.getD_some, e29]; done) | (simp only [List.map_toArray, List.map_cons, List.map_nil, Act.eval, Array.getD_eq_getD_getElem?, Option.getD_some, e29]; rfl)) ?_
      with_reducible refine (HCP.out _ CA.out).mono ?_
      rintro e w2 ⟨A_, c_, rfl, hM_, hb⟩
      refine ⟨_, rfl, ?_⟩
      refine hK.out _ _ ⟨A_, c_, gx, A3, c3, (.agg #[.int .u64 x.f0, .int .u64 x.f1, .int .i64 x.f2, .int .i64 x.f3, .int .u64 x.f4, .bool x.f5, .int .i64 x.f6, .slice A_ x.f7.length c_]), m8_, m9_, (by rw [ha.out]; exact putSel_upk 7 hb_ rfl rfl rfl), fun _ => below_then B5.out B5.out.size hb, below_then BX.out (Nat.le_trans HG1.out.2.2.1 B5.out.size) hb, fun _ => blk_below ZB.out hb, fun _ => blk_below ZG.out hb, fun _ => Kd.R_below RR.out hb, fun _ => Kd.C_below CA.out hb, fun _ _ => Kd.R_mono (Kd.R_lower hM_ B5.out.size) (fun k hk => Nat.le_trans B5.out.size hk), fun h0_ _ => absurd ((hoff 8 (by kernel_rfl)).symm.trans h0_) (by decide), fun h0_ _ => absurd ((hoff 9 (by kernel_rfl)).symm.trans h0_) (by decide), fun h0_ => absurd ((hoff 12 (by kernel_rfl)).symm.trans h0_) (by decide), fun _ => rfl, fun h0_ => absurd ((hoff 8 (by kernel_rfl)).symm.trans h0_) (by decide), fun h0_ => absurd ((hoff 9 (by kernel_rfl)).symm.trans h0_) (by decide)⟩
    refine steps_cons ?_ ?_
    · rintro b a w' ⟨A2, c2, gx, A3, c3, m7_, m8_, m9_, ha, Q_B5, Q_BX, Q_ZB, Q_ZG, Q_RR, Q_CA, Q_PR, Q_GX, Q_IR, Q_FIN, Q_X7_, Q_X8_, Q_X9_⟩ hb_ hon hoff
      refine ⟨_, rfl, fun K hK => ?_⟩
      have e30 : a.tmps[30]? = some (m7_) := by rw [ha]; exact putSel_on (e := (7, 30, m7_)) 7 rfl rfl (hon 7 (by kernel_rfl)) rfl
      rw [Q_X7_ (hon 7 (by kernel_rfl))] at e30
      replace ha := Aside0.mk ha
      have B5 := Aside0.mk (Q_B5 (hoff 9 (by kernel_rfl)))
      have BX := Aside0.mk Q_BX
      have ZB := Aside0.mk (Q_ZB (hoff 9 (by kernel_rfl)))
      have ZG := Aside0.mk (Q_ZG (hoff 12 (by kernel_rfl)))
      have RR := Aside0.mk (Q_RR (hoff 9 (by kernel_rfl)))
      have CA := Aside0.mk (Q_CA (hoff 9 (by kernel_rfl)))
      have PR := Aside0.mk (Q_PR (hon 7 (by kernel_rfl)) (hoff 9 (by kernel_rfl)))
      refine value_ (w1 := w'.alloc (Obj.cells #[.int .u64 x.f0, .int .u64 x.f1, .int .i64 x.f2, .int .i64 x.f3, .int .u64 x.f4, .bool x.f5, .int .i64 x.f6, .slice A2 x.f7.length c2] 29)) (v := .slice (some ⟨w'.heap.size, 0, none⟩) 1 1) (by rfl) rfl (by first | (go_simp; done) | (go_simp; rfl)) ?_
      have hb := below_alloc (Below.refl w'.heap.size w') (Obj.cells #[.int .u64 x.f0, .int .u64 x.f1, .int .i64 x.f2, .int .i64 x.f3, .int .u64 x.f4, .bool x.f5, .int .i64 x.f6, .slice A2 x.f7.length c2] 29)
      refine hK.out _ _ ⟨A2, c2, w'.heap.size, A3, c3, m7_, (.slice (some ⟨w'.heap.size, 0, none⟩) 1 1), m9_, (by rw [ha.out]; exact putSel_upk 8 hb_ rfl rfl rfl), fun _ => below_then B5.out B5.out.size hb, below_then BX.out (Nat.le_trans HG1.out.2.2.1 B5.out.size) hb, fun _ => blk_below ZB.out hb, fun _ => blk_below ZG.out hb, fun _ => Kd.R_below RR.out hb, fun _ => Kd.C_below CA.out hb, fun _ _ => Kd.R_below PR.out hb, fun _ _ => ⟨heap_alloc_new w' _, B5.out.size⟩, fun h0_ _ => absurd ((hoff 9 (by kernel_rfl)).symm.trans h0_) (by decide), fun h0_ => absurd ((hoff 12 (by kernel_rfl)).symm.trans h0_) (by decide), Q_X7_, fun _ => rfl, fun h0_ => absurd ((hoff 9 (by kernel_rfl)).symm.trans h0_) (by decide)⟩
    refine steps_cons ?_ ?_
    · rintro b a w' ⟨A2, c2, gx, A3, c3, m7_, m8_, m9_, ha, Q_B5, Q_BX, Q_ZB, Q_ZG, Q_RR, Q_CA, Q_PR, Q_GX, Q_IR, Q_FIN, Q_X7_, Q_X8_, Q_X9_⟩ hb_ hon hoff
      refine ⟨_, rfl, fun K hK => ?_⟩
      have e27 : a.tmps[27]? = some (.slice A1 l.length c1) := by rw [ha]; exact putSel_on (e := (4, 27, .slice A1 l.length c1)) 4 rfl rfl (hon 4 (by kernel_rfl)) rfl
      have e28 : a.tmps[28]? = some (.int .i64 (i : Int)) := by rw [ha]; exact putSel_on (e := (5, 28, .int .i64 (i : Int))) 5 rfl rfl (hon 5 (by kernel_rfl)) rfl
      have e31 : a.tmps[31]? = some (m8_) := by rw [ha]; exact putSel_on (e := (8, 31, m8_)) 8 rfl rfl (hon 8 (by kernel_rfl)) rfl
      rw [Q_X8_ (hon 8 (by kernel_rfl))] at e31
      replace ha := Aside0.mk ha
      have B5 := Aside0.mk (Q_B5 hb_)
      have BX := Aside0.mk Q_BX
      have ZB := Aside0.mk (Q_ZB hb_)
      have ZG := Aside0.mk (Q_ZG (hoff 12 (by kernel_rfl)))
      have RR := Aside0.mk (Q_RR hb_)
      have CA := Aside0.mk (Q_CA hb_)
      have PR := Aside0.mk (Q_PR (hon 7 (by kernel_rfl)) hb_)
      have GX := Aside0.mk (Q_GX (hon 8 (by kernel_rfl)) hb_)
      refine goes_ Try.func30 (by kernel_rfl) rfl #[.slice A1 l.length c1, .int .i64 (i : Int), .slice (some ⟨gx, 0, none⟩) 1 1] (by rfl) rfl rfl (by first | (simp only [List.map_toArray, List.map_cons, List.map_nil, Act.eval, Array.getD_eq_getD_getElem?, Option.getD_some, e27, e28, e31]; done) | (simp only [List.map_toArray, List.map_cons, List.map_nil, Act.eval, Array.getD_eq_getD_getElem?, Option.getD_some, e27, e28, e31]; rfl)) ?_
      with_reducible refine (HIS.out _ _ _ _ B5.out.size RR.out PR.out GX.out).mono ?_
      rintro e w2 ⟨A_, c_, rfl, hI_, hg_⟩
      refine ⟨_, rfl, ?_⟩
      refine hK.out _ _ ⟨A2, c2, gx, A_, c_, m7_, m8_, (.slice A_ (putAt l i x).length c_), (by rw [ha.out]; exact putSel_upk 9 hb_ rfl rfl rfl), fun h0_ => absurd ((up_self b 9).symm.trans h0_) (by decide), pw_below_grown BX.out _ (Nat.le_trans HG1.out.2.2.1 B5.out.size) hg_ (fun k hk => Nat.le_trans HG1.out.1 (Nat.le_of_lt (RR.out.1 k hk))), fun h0_ => absurd ((up_self b 9).symm.trans h0_) (by decide), fun _ => blk_grown ZG.out hg_ (fun e_ => absurd (RR.out.1 g e_.symm) (Nat.lt_irrefl _)), fun h0_ => absurd ((up_self b 9).symm.trans h0_) (by decide), fun h0_ => absurd ((up_self b 9).symm.trans h0_) (by decide), fun _ h1_ => absurd ((up_self b 9).symm.trans h1_) (by decide), fun _ h1_ => absurd ((up_self b 9).symm.trans h1_) (by decide), fun _ _ => hI_, fun h0_ => absurd ((hoff 12 (by kernel_rfl)).symm.trans h0_) (by decide), Q_X7_, Q_X8_, fun _ => rfl⟩
    refine steps_cons ?_ ?_
    · rintro b a w' ⟨A2, c2, gx, A3, c3, m7_, m8_, m9_, ha, Q_B5, Q_BX, Q_ZB, Q_ZG, Q_RR, Q_CA, Q_PR, Q_GX, Q_IR, Q_FIN, Q_X7_, Q_X8_, Q_X9_⟩ hb_ hon hoff
      refine ⟨_, rfl, fun K hK => ?_⟩
      have e23 : a.tmps[23]? = some (.pointer (some ⟨g, 0, none⟩)) := by rw [ha]; exact putSel_on (e := (0, 23, .pointer (some ⟨g, 0, none⟩))) 0 rfl rfl (hon 0 (by kernel_rfl)) rfl
      replace ha := Aside0.mk ha
      have BX := Aside0.mk Q_BX
      have ZG := Aside0.mk (Q_ZG (hoff 12 (by kernel_rfl)))
      have IR := Aside0.mk (Q_IR (hon 9 (by kernel_rfl)) (hoff 12 (by kernel_rfl)))
      refine value_ (w1 := w') (v := .pointer (some ⟨g, 0, none⟩)) (by rfl) rfl ?_ ?_
      · go_simp
        (try simp only [i64_w])
        try rfl
      refine hK.out _ _ ⟨A2, c2, gx, A3, c3, m7_, m8_, m9_, (by rw [ha.out]; exact putSel_upk 10 hb_ rfl rfl rfl), fun h0_ => absurd ((hon 9 (by kernel_rfl)).symm.trans h0_) (by decide), Q_BX, fun h0_ => absurd ((hon 9 (by kernel_rfl)).symm.trans h0_) (by decide), Q_ZG, fun h0_ => absurd ((hon 9 (by kernel_rfl)).symm.trans h0_) (by decide), fun h0_ => absurd ((hon 9 (by kernel_rfl)).symm.trans h0_) (by decide), fun _ h1_ => absurd ((hon 9 (by kernel_rfl)).symm.trans h1_) (by decide), fun _ h1_ => absurd ((hon 9 (by kernel_rfl)).symm.trans h1_) (by decide), Q_IR, fun h0_ => absurd ((hoff 12 (by kernel_rfl)).symm.trans h0_) (by decide), Q_X7_, Q_X8_, Q_X9_⟩
    refine steps_cons ?_ ?_
    · rintro b a w' ⟨A2, c2, gx, A3, c3, m7_, m8_, m9_, ha, Q_B5, Q_BX, Q_ZB, Q_ZG, Q_RR, Q_CA, Q_PR, Q_GX, Q_IR, Q_FIN, Q_X7_, Q_X8_, Q_X9_⟩ hb_ hon hoff
      refine ⟨_, rfl, fun K hK => ?_⟩
      have e33 : a.tmps[33]? = some (.pointer (some ⟨g, 0, none⟩)) := by rw [ha]; exact putSel_on (e := (10, 33, .pointer (some ⟨g, 0, none⟩))) 10 rfl rfl (hon 10 (by kernel_rfl)) rfl
      replace ha := Aside0.mk ha
      have BX := Aside0.mk Q_BX
      have ZG := Aside0.mk (Q_ZG (hoff 12 (by kernel_rfl)))
      have IR := Aside0.mk (Q_IR (hon 9 (by kernel_rfl)) (hoff 12 (by kernel_rfl)))
      refine value_ (w1 := w') (v := .pointer (some ⟨g, 0, none⟩)) (by rfl) rfl ?_ ?_
      · go_simp
        (try simp only [i64_w])
        try rfl
      refine hK.out _ _ ⟨A2, c2, gx, A3, c3, m7_, m8_, m9_, (by rw [ha.out]; exact putSel_upk 11 hb_ rfl rfl rfl), fun h0_ => absurd ((hon 9 (by kernel_rfl)).symm.trans h0_) (by decide), Q_BX, fun h0_ => absurd ((hon 9 (by kernel_rfl)).symm.trans h0_) (by decide), Q_ZG, fun h0_ => absurd ((hon 9 (by kernel_rfl)).symm.trans h0_) (by decide), fun h0_ => absurd ((hon 9 (by kernel_rfl)).symm.trans h0_) (by decide), fun _ h1_ => absurd ((hon 9 (by kernel_rfl)).symm.trans h1_) (by decide), fun _ h1_ => absurd ((hon 9 (by kernel_rfl)).symm.trans h1_) (by decide), Q_IR, fun h0_ => absurd ((hoff 12 (by kernel_rfl)).symm.trans h0_) (by decide), Q_X7_, Q_X8_, Q_X9_⟩
    refine steps_cons ?_ ?_
    · rintro b a w' ⟨A2, c2, gx, A3, c3, m7_, m8_, m9_, ha, Q_B5, Q_BX, Q_ZB, Q_ZG, Q_RR, Q_CA, Q_PR, Q_GX, Q_IR, Q_FIN, Q_X7_, Q_X8_, Q_X9_⟩ hb_ hon hoff
      refine ⟨_, rfl, fun K hK => ?_⟩
      have e34 : a.tmps[34]? = some (.pointer (some ⟨g, 0, none⟩)) := by rw [ha]; exact putSel_on (e := (11, 34, .pointer (some ⟨g, 0, none⟩))) 11 rfl rfl (hon 11 (by kernel_rfl)) rfl
      have e32 : a.tmps[32]? = some (m9_) := by rw [ha]; exact putSel_on (e := (9, 32, m9_)) 9 rfl rfl (hon 9 (by kernel_rfl)) rfl
      rw [Q_X9_ (hon 9 (by kernel_rfl))] at e32
      replace ha := Aside0.mk ha
      have BX := Aside0.mk Q_BX
      have ZG := Aside0.mk (Q_ZG hb_)
      have IR := Aside0.mk (Q_IR (hon 9 (by kernel_rfl)) hb_)
      have c_ := blk_cell ZG.out 0
      have fr_ := blk_frozen ZG.out 0
      refine skip_ (w1 := ?_) (by rfl) rfl ?_ ?_
      rotate_left
      · go_simp
        rfl
      refine hK.out _ _ ⟨A2, c2, gx, A3, c3, m7_, m8_, m9_, (by rw [ha.out]; exact putSel_none (v := undef) rfl), fun h0_ => absurd ((hon 9 (by kernel_rfl)).symm.trans h0_) (by decide), BX.out.setCell (p := ⟨g, 0, none⟩) HG1.out.1 _, fun h0_ => absurd ((hon 9 (by kernel_rfl)).symm.trans h0_) (by decide), fun h0_ => absurd ((up_self b 12).symm.trans h0_) (by decide), fun h0_ => absurd ((hon 9 (by kernel_rfl)).symm.trans h0_) (by decide), fun h0_ => absurd ((hon 9 (by kernel_rfl)).symm.trans h0_) (by decide), fun _ h1_ => absurd ((hon 9 (by kernel_rfl)).symm.trans h1_) (by decide), fun _ h1_ => absurd ((hon 9 (by kernel_rfl)).symm.trans h1_) (by decide), fun _ h1_ => absurd ((up_self b 12).symm.trans h1_) (by decide), fun _ => ⟨A3, c3, blk_put ZG.out 0 _ (by rw [HPLN.out]; rfl), Kd.R_far (p := ⟨g, 0, none⟩) IR.out (fun k hk => Nat.ne_of_gt hk) _, HG1.out.1⟩, Q_X7_, Q_X8_, Q_X9_⟩
    exact steps_nil
  rintro b a w9 hall ⟨A2, c2, gx, A3, c3, m7_, m8_, m9_, ha, Q_B5, Q_BX, Q_ZB, Q_ZG, Q_RR, Q_CA, Q_PR, Q_GX, Q_IR, Q_FIN, Q_X7_, Q_X8_, Q_X9_⟩
  clear B5 BX CA RR ZB ZG
  have hb0_ := hall 0 (by kernel_rfl)
  have hb1_ := hall 1 (by kernel_rfl)
  have hb2_ := hall 2 (by kernel_rfl)
  have hb3_ := hall 3 (by kernel_rfl)
  have hb4_ := hall 4 (by kernel_rfl)
  have hb5_ := hall 5 (by kernel_rfl)
  have hb6_ := hall 6 (by kernel_rfl)
  have hb7_ := hall 7 (by kernel_rfl)
  have hb8_ := hall 8 (by kernel_rfl)
  have hb9_ := hall 9 (by kernel_rfl)
  have hb10_ := hall 10 (by kernel_rfl)
  have hb11_ := hall 11 (by kernel_rfl)
  have hb12_ := hall 12 (by kernel_rfl)
  subst ha
  obtain rfl := Q_X7_ hb7_
  obtain rfl := Q_X8_ hb8_
  obtain rfl := Q_X9_ hb9_
  simp only [putSel, hb0_, hb1_, hb2_, hb3_, hb4_, hb5_, hb6_, hb7_, hb8_, hb9_, hb10_, hb11_, hb12_, if_true, Act.put, List.setIfInBounds_toArray, List.set_cons_zero, List.set_cons_succ]
  clear Q_B5
  have BX := Aside0.mk Q_BX
  clear Q_BX
  clear Q_ZB
  clear Q_ZG
  clear Q_RR
  clear Q_CA
  clear Q_PR
  clear Q_GX
  clear Q_IR
  have FIN := Aside0.mk (Q_FIN hb12_)
  clear Q_FIN
  clear hall hb0_ hb1_ hb2_ hb3_ hb4_ hb5_ hb6_ hb7_ hb8_ hb9_ hb10_ hb11_ hb12_
  go_wp2_with fail
  go_ret
  exact ⟨rfl, FIN.out, BX.out⟩
theorem put_end {W : World} {base g : Nat} {l : List R0} (h : IX W base g l) (x : R0) (A : Option Addr) (c : Nat) (hC : Kd.C (Kd.int .i64) W A x.f7.length x.f7) (hp : x.f7.length ≤ 1000) (hm : mayB x = true) (hr : Rising keyR l) (hn : l.length ≤ 1000) (hlow : low keyR l x.f0 = l.length) (hk : hasKey keyR l x.f0 = false) :
    Calls Try.prog 17 #[.pointer (some ⟨g, 0, none⟩), ragg x A c] W fun e w' => e = .returned (.int .i64 0) ∧ IX w' base g (l ++ [x]) ∧ Below base W w' := by
  have e : putAt l l.length x = l ++ [x] := by unfold putAt; rw [List.take_length, List.drop_length]
  have h2 := put_any h x A c hC hp hm hr hn hlow hk
  rwa [e] at h2
end Go.Proofs.Ytaepbgieahedjaa.QS
namespace Go.Proofs.Ytaepbgieahedjaa.QS
set_option linter.unusedVariables false
set_option linter.unusedSimpArgs false
open Go.RowKit Go.Proofs.Ytaepbgieahedjaa.Hp Go.Proofs.YtaepbgieahedjaaW.PrintWords Go.Proofs.YtaepbgieahedjaaW.PrintLast Go.Proofs.YtaepbgieahedjaaW.PrintMore
open Go.Proofs.Ytaepbgieahedjaa.IP
end Go.Proofs.Ytaepbgieahedjaa.QS
namespace Go.Proofs.Ytaepbgieahedjaa.QS
set_option linter.unusedVariables false
set_option linter.unusedSimpArgs false
open Go.RowKit Go.Proofs.Ytaepbgieahedjaa.Hp Go.Proofs.YtaepbgieahedjaaW.PrintWords Go.Proofs.YtaepbgieahedjaaW.PrintLast Go.Proofs.YtaepbgieahedjaaW.PrintMore
open Go.Proofs.Ytaepbgieahedjaa.IP
section
variable {P : Program} {ops : Array Oper} {rest : List Oper} {Q : Exit → Act → World → Prop}
end
end Go.Proofs.Ytaepbgieahedjaa.QS
namespace Go.Proofs.Ytaepbgieahedjaa.QS
set_option linter.unusedVariables false
set_option linter.unusedSimpArgs false
open Go.RowKit Go.Proofs.Ytaepbgieahedjaa.Hp Go.Proofs.YtaepbgieahedjaaW.PrintWords Go.Proofs.YtaepbgieahedjaaW.PrintLast Go.Proofs.YtaepbgieahedjaaW.PrintMore
open Go.Proofs.Ytaepbgieahedjaa.IP
theorem fill8 {g N : Nat} {w0 W : World} (x : R0) (A : Option Addr) (c : Nat) (hz : W.heap[g]? = some (.cells #[.int .u64 0, .int .u64 0, .int .i64 0, .int .i64 0, .int .u64 0, .bool false, .int .i64 0, .slice none 0 0] 29 (0, 0))) (hN : N ≤ g) (hb : Below N w0 W) :
    Below N w0 ((((((((W.setCell ⟨g, 0, none⟩ (.int .u64 x.f0)).setCell ⟨g, 1, none⟩ (.int .u64 x.f1)).setCell ⟨g, 2, none⟩ (.int .i64 x.f2)).setCell ⟨g, 3, none⟩ (.int .i64 x.f3)).setCell ⟨g, 4, none⟩ (.int .u64 x.f4)).setCell ⟨g, 5, none⟩ (.bool x.f5)).setCell ⟨g, 6, none⟩ (.int .i64 x.f6)).setCell ⟨g, 7, none⟩ (.slice A x.f7.length c)) ∧ ((((((((W.setCell ⟨g, 0, none⟩ (.int .u64 x.f0)).setCell ⟨g, 1, none⟩ (.int .u64 x.f1)).setCell ⟨g, 2, none⟩ (.int .i64 x.f2)).setCell ⟨g, 3, none⟩ (.int .i64 x.f3)).setCell ⟨g, 4, none⟩ (.int .u64 x.f4)).setCell ⟨g, 5, none⟩ (.bool x.f5)).setCell ⟨g, 6, none⟩ (.int .i64 x.f6)).setCell ⟨g, 7, none⟩ (.slice A x.f7.length c)).heap[g]? = some (.cells #[.int .u64 x.f0, .int .u64 x.f1, .int .i64 x.f2, .int .i64 x.f3, .int .u64 x.f4, .bool x.f5, .int .i64 x.f6, .slice A x.f7.length c] 29 (0, 0)) ∧ ∀ k, k ≠ g → ((((((((W.setCell ⟨g, 0, none⟩ (.int .u64 x.f0)).setCell ⟨g, 1, none⟩ (.int .u64 x.f1)).setCell ⟨g, 2, none⟩ (.int .i64 x.f2)).setCell ⟨g, 3, none⟩ (.int .i64 x.f3)).setCell ⟨g, 4, none⟩ (.int .u64 x.f4)).setCell ⟨g, 5, none⟩ (.bool x.f5)).setCell ⟨g, 6, none⟩ (.int .i64 x.f6)).setCell ⟨g, 7, none⟩ (.slice A x.f7.length c)).heap[k]? = W.heap[k]? := by
  have h0 := blk_put hz 0 (.int .u64 x.f0) (cs' := #[.int .u64 x.f0, .int .u64 0, .int .i64 0, .int .i64 0, .int .u64 0, .bool false, .int .i64 0, .slice none 0 0]) rfl
  have h1 := blk_put h0 1 (.int .u64 x.f1) (cs' := #[.int .u64 x.f0, .int .u64 x.f1, .int .i64 0, .int .i64 0, .int .u64 0, .bool false, .int .i64 0, .slice none 0 0]) rfl
  have h2 := blk_put h1 2 (.int .i64 x.f2) (cs' := #[.int .u64 x.f0, .int .u64 x.f1, .int .i64 x.f2, .int .i64 0, .int .u64 0, .bool false, .int .i64 0, .slice none 0 0]) rfl
  have h3 := blk_put h2 3 (.int .i64 x.f3) (cs' := #[.int .u64 x.f0, .int .u64 x.f1, .int .i64 x.f2, .int .i64 x.f3, .int .u64 0, .bool false, .int .i64 0, .slice none 0 0]) rfl
  have h4 := blk_put h3 4 (.int .u64 x.f4) (cs' := #[.int .u64 x.f0, .int .u64 x.f1, .int .i64 x.f2, .int .i64 x.f3, .int .u64 x.f4, .bool false, .int .i64 0, .slice none 0 0]) rfl
  have h5 := blk_put h4 5 (.bool x.f5) (cs' := #[.int .u64 x.f0, .int .u64 x.f1, .int .i64 x.f2, .int .i64 x.f3, .int .u64 x.f4, .bool x.f5, .int .i64 0, .slice none 0 0]) rfl
  have h6 := blk_put h5 6 (.int .i64 x.f6) (cs' := #[.int .u64 x.f0, .int .u64 x.f1, .int .i64 x.f2, .int .i64 x.f3, .int .u64 x.f4, .bool x.f5, .int .i64 x.f6, .slice none 0 0]) rfl
  have h7 := blk_put h6 7 (.slice A x.f7.length c) (cs' := #[.int .u64 x.f0, .int .u64 x.f1, .int .i64 x.f2, .int .i64 x.f3, .int .u64 x.f4, .bool x.f5, .int .i64 x.f6, .slice A x.f7.length c]) rfl
  refine ⟨((((((((hb.setCell (p := ⟨g, 0, none⟩) hN _).setCell (p := ⟨g, 1, none⟩) hN _).setCell (p := ⟨g, 2, none⟩) hN _).setCell (p := ⟨g, 3, none⟩) hN _).setCell (p := ⟨g, 4, none⟩) hN _).setCell (p := ⟨g, 5, none⟩) hN _).setCell (p := ⟨g, 6, none⟩) hN _).setCell (p := ⟨g, 7, none⟩) hN _), h7, fun k hk => ?_⟩
  exact (Below.heap_setCell _ ⟨g, 7, none⟩ _ k hk).trans ((Below.heap_setCell _ ⟨g, 6, none⟩ _ k hk).trans ((Below.heap_setCell _ ⟨g, 5, none⟩ _ k hk).trans ((Below.heap_setCell _ ⟨g, 4, none⟩ _ k hk).trans ((Below.heap_setCell _ ⟨g, 3, none⟩ _ k hk).trans ((Below.heap_setCell _ ⟨g, 2, none⟩ _ k hk).trans ((Below.heap_setCell _ ⟨g, 1, none⟩ _ k hk).trans ((Below.heap_setCell _ ⟨g, 0, none⟩ _ k hk))))))))
theorem IX.at {W : World} {base g i : Nat} {l : List R0} {x : R0} {A : Option Addr} {c : Nat} (hR : k29.R 29 W base (fun k => g < k) (.slice A l.length c) l) (hx : l[i]? = some x) :
    ∃ (gr : Nat) (Ax : Option Addr) (cx : Nat) (cur : Array Value), A = some ⟨gr, 0, none⟩ ∧ g < gr ∧ W.heap[gr]? = some (.cells cur 29 (0, 0)) ∧ (∀ k u, (encR x Ax cx)[k]? = some u → cur[i * 8 + k]? = some u) ∧ (Kd.int .i64).R 3 W base (fun k => g < k ∧ k ≠ gr) (.slice Ax x.f7.length cx) x.f7 := by
  have hi := (List.getElem?_eq_some_iff.1 hx).1
  obtain ⟨ps, hps, ho, hmade⟩ := rows_of_R hR
  have hlen : ps.length = l.length := by rw [← hps, List.length_map]
  obtain ⟨hxs, ⟨hv, hn0⟩ | ⟨gr, c', cur, hv, hgb, hz, hnc, hcm, hcs, htk⟩⟩ := ho
  · omega
  injection hv with e1 e2 e3
  clear e2
  subst e1 e3
  have hp : ps[i]? = some (ps[i]'(by omega)) := List.getElem?_eq_getElem (by omega)
  have hpx : (ps[i]'(by omega)).1 = x := by
    rw [← hps, List.getElem?_map, hp] at hx
    exact Option.some.inj hx
  have hm := hmade _ (List.getElem_mem (show i < ps.length by omega))
  refine ⟨gr, (ps[i]'(by omega)).2.1, (ps[i]'(by omega)).2.2, cur, rfl, hR.1 gr rfl, hz, fun k u hu => ?_, ?_⟩
  · have hk8 : k < 8 := (List.getElem?_eq_some_iff.1 hu).1
    have e : (recOf (ps[i]'(by omega))).enc = encR x (ps[i]'(by omega)).2.1 (ps[i]'(by omega)).2.2 := by rw [← hpx]; rfl
    have e2 := encs_at (ps.map recOf) i (recOf (ps[i]'(by omega))) (by rw [List.getElem?_map, hp]; rfl) k hk8
    rw [e, hu, ← htk, List.getElem?_take, if_pos (by omega), Array.getElem?_toList] at e2
    exact e2
  · rw [← hpx]
    exact Kd.R_mono hm (fun k hk => ⟨hk.1, fun he => hk.2 (by rw [he]; rfl)⟩)
end Go.Proofs.Ytaepbgieahedjaa.QS
namespace Go.Proofs.Ytaepbgieahedjaa.QS
set_option linter.unusedVariables false
set_option linter.unusedSimpArgs false
open Go.RowKit Go.Proofs.Ytaepbgieahedjaa.Hp Go.Proofs.YtaepbgieahedjaaW.PrintWords Go.Proofs.YtaepbgieahedjaaW.PrintLast Go.Proofs.YtaepbgieahedjaaW.PrintMore
open Go.Proofs.Ytaepbgieahedjaa.IP
end Go.Proofs.Ytaepbgieahedjaa.QS
namespace Go.Proofs.Ytaepbgieahedjaa.QS
set_option linter.unusedVariables false
set_option linter.unusedSimpArgs false
open Go.RowKit Go.Proofs.Ytaepbgieahedjaa.Hp Go.Proofs.YtaepbgieahedjaaW.PrintWords Go.Proofs.YtaepbgieahedjaaW.PrintLast Go.Proofs.YtaepbgieahedjaaW.PrintMore
open Go.Proofs.Ytaepbgieahedjaa.IP
def frI (n : Int) : Int := if n < 1 then 0 else wrap64 ((wrap64 (Int.tdiv (wrap64 (n - 1)) 100)) + 1)
theorem frames_calls (n : Int) (w : World) : Calls Try.prog 14 #[.int .i64 n] w fun e w' => e = .returned (.int .i64 (frI n)) ∧ Below w.heap.size w w' := by
  refine (index_Frames.calls n (frI n) w ?_).mono ?_
  · unfold index_Frames.f frI
    split <;> rfl
  · rintro e w' ⟨rfl, h⟩
    exact ⟨rfl, h.below⟩
def inB (n : Int) (x : R0) : Bool := decide (x.f1 ≤ n) && decide (IntKind.u64.wrap (n - x.f1) < IntKind.u64.wrap (frI x.f3))
def fr0.T1 : Bool × List (List Nat × List Nat) := (true, [([], []), ([], []), ([1], [1]), ([0, 2], [0, 2]), ([3], [3]), ([4], [4]), ([4], [4]), ([6, 4], [4, 6]), ([5, 7, 4], [4, 5, 7]), ([4], [4]), ([9, 4], [4, 9]), ([10, 4, 4], [4, 10]), ([11, 4], [4, 11]), ([8, 12, 4], [4, 8, 12]), ([4, 13], [4, 13]), ([14, 11, 0, 1, 2, 3, 4, 5, 6, 7, 8, 9, 10, 11, 12, 13, 14], [14])])
def fr0.B1 : List Nat := [0, 0, 2, 7, 15, 31, 31, 95, 255, 31, 543, 1567, 3615, 8191, 16383, 32767]
theorem fr0.tab1 : rtab .any (opsOf Try.f26 1) = fr0.T1 := by kernel_rfl
theorem fr0.bits1 : waitsOk fr0.T1.2 fr0.B1 = true := by kernel_rfl
def fr1.T1 : Bool × List (List Nat × List Nat) := (true, [([], []), ([], []), ([1], [1]), ([0, 2], [0, 2]), ([3], [3]), ([4], [4]), ([4], [4]), ([6, 4], [4, 6]), ([5, 7, 4], [4, 5, 7]), ([4], [4]), ([9, 4], [4, 9]), ([10, 4, 4], [4, 10]), ([11, 4], [4, 11]), ([8, 12, 4], [4, 8, 12]), ([4, 13], [4, 13]), ([14, 11, 0, 1, 2, 3, 4, 5, 6, 7, 8, 9, 10, 11, 12, 13, 14], [14])])
def fr1.B1 : List Nat := [0, 0, 2, 7, 15, 31, 31, 95, 255, 31, 543, 1567, 3615, 8191, 16383, 32767]
theorem fr1.tab1 : rtab .any (opsOf Try.f26 1) = fr1.T1 := by kernel_rfl
theorem fr1.bits1 : waitsOk fr1.T1.2 fr1.B1 = true := by kernel_rfl
set_option maxHeartbeats 2000000 in
set_option maxRecDepth 100000 in
theorem frame_fn {gb : Nat} {n : Int} (x : R0) (Ap : Option Addr) (cpp : Nat) (W : World) (hc : W.heap[gb]? = some (.cells #[.int .u64 n] 23 (0, 0))) : Calls Try.prog 26 (#[.agg #[.int .u64 x.f0, .int .u64 x.f1, .int .i64 x.f2, .int .i64 x.f3, .int .u64 x.f4, .bool x.f5, .int .i64 x.f6, .slice Ap x.f7.length cpp]] ++ #[.pointer (some ⟨gb, 0, none⟩)]) W fun e w' => e = .returned (.bool (inB n x)) ∧ Below W.heap.size W w' := by
  have hz := heap_alloc_new W (.cells #[.int .u64 x.f0, .int .u64 x.f1, .int .i64 x.f2, .int .i64 x.f3, .int .u64 x.f4, .bool x.f5, .int .i64 x.f6, .slice Ap x.f7.length cpp] 29)
  have hb := below_alloc (Below.refl W.heap.size W) (.cells #[.int .u64 x.f0, .int .u64 x.f1, .int .i64 x.f2, .int .i64 x.f3, .int .u64 x.f4, .bool x.f5, .int .i64 x.f6, .slice Ap x.f7.length cpp] 29)
  have hk := blk_below hc hb
  obtain ⟨g2, hg2⟩ : ∃ g, g = W.heap.size := ⟨_, rfl⟩
  show Calls Try.prog 26 #[.agg #[.int .u64 x.f0, .int .u64 x.f1, .int .i64 x.f2, .int .i64 x.f3, .int .u64 x.f4, .bool x.f5, .int .i64 x.f6, .slice Ap x.f7.length cpp], .pointer (some ⟨gb, 0, none⟩)] W _
  clear hc
  obtain ⟨rb, hrb⟩ : ∃ b, b = inB n x := ⟨_, rfl⟩
  rw [← hrb]
  unfold inB at hrb
  obtain ⟨F, hF⟩ : ∃ F, F = frI x.f3 := ⟨_, rfl⟩
  rw [← hF] at hrb
  have HRB := Aside0.mk hrb
  clear hrb
  have HFC : Aside0 (∀ W, Calls Try.prog 14 #[.int .i64 x.f3] W fun e w' => e = .returned (.int .i64 F) ∧ Below W.heap.size W w') := ⟨fun W => by rw [hF]; exact frames_calls x.f3 W⟩
  clear hF
  go_enter Try.func26, Try.ntmps26
  go_upto_region 1 with fail
  generalize W.alloc (.cells #[.int .u64 x.f0, .int .u64 x.f1, .int .i64 x.f2, .int .i64 x.f3, .int .u64 x.f4, .bool x.f5, .int .i64 x.f6, .slice Ap x.f7.length cpp] 29) = W1 at hz hb hk ⊢
  rw [← hg2] at hz ⊢
  have HZ := Aside0.mk hz
  have HB := Aside0.mk hb
  have HK := Aside0.mk hk
  have HB1 := Aside0.mk (Below.refl W1.heap.size W1)
  have B0 := Aside0.mk (below_drew1 (Below.refl W1.heap.size W1))
  clear hz hb hg2 hk
  cases h1 : decide (x.f1 ≤ n) with
  | false =>
    have HE : Aside0 (rb = false) := ⟨by rw [HRB.out, h1, Bool.false_and]⟩
    refine start_ (n := 16) (S := fun w' => True) (ds := []) #[false, false, false, false, false, false, false, false, false, false, false, false, false, false, false, false] (by kernel_rfl) rfl rfl trivial (fun hHeld => ?_)
    refine with_tabW fr0.tab1 fr0.bits1 (fun HT_ HW_ => ?_)
    generalize W1.drew = wz at B0 hHeld ⊢
    refine inv_at [0, 1, 2, 3, 4, 5, 6, 7, 8, 9, 10, 11, 12, 13, 14, 15] (fun a0_ b a w' => a = putSel a0_ b [(0, 4, .int .u64 n), (1, 5, .pointer (some ⟨g2, 1, none⟩)), (2, 6, .int .u64 x.f1), (3, 7, .bool false), (4, 8, .bool false), (5, 9, undef), (6, 10, undef), (7, 11, undef), (8, 12, undef), (9, 13, undef), (10, 14, undef), (11, 15, undef), (12, 16, undef), (13, 17, undef), (14, 18, .bool false), (15, 3, .bool false)] ∧ (Below W1.heap.size W1 w')) HT_.out HW_.out (by kernel_rfl) (by kernel_rfl) ?_ ?_ ?_
    · exact ⟨by simp only [putSel, Bool.false_eq_true, if_false], B0.out⟩
    · skip
      clear B0
      refine steps_cons ?_ ?_
      · rintro b a w' ⟨ha, Q_B0⟩ hb_ hon hoff
        refine ⟨_, rfl, fun K hK => ?_⟩
        have e1 : a.tmps[1]? = some (.pointer (some ⟨gb, 0, none⟩)) := by rw [ha]; exact (putSel_off rfl).trans rfl
        replace ha := Aside0.mk ha
        have B0 := Aside0.mk Q_B0
        have c0_ := blk_cell (blk_below HK.out B0.out) 0
        refine value_ (w1 := w') (v := .int .u64 n) (by rfl) rfl ?_ ?_
        · go_simp
          (try simp only [i64_w])
          try rfl
        refine hK.out _ _ ⟨(by rw [ha.out]; exact putSel_upk 0 hb_ rfl rfl rfl), Q_B0⟩
      refine steps_cons ?_ ?_
      · rintro b a w' ⟨ha, Q_B0⟩ hb_ hon hoff
        refine ⟨_, rfl, fun K hK => ?_⟩
        have e2 : a.tmps[2]? = some (.pointer (some ⟨g2, 0, none⟩)) := by rw [ha]; exact (putSel_off rfl).trans rfl
        replace ha := Aside0.mk ha
        have B0 := Aside0.mk Q_B0
        refine value_ (w1 := w') (v := .pointer (some ⟨g2, 1, none⟩)) (by rfl) rfl ?_ ?_
        · go_simp
          (try simp only [i64_w])
          try rfl
        refine hK.out _ _ ⟨(by rw [ha.out]; exact putSel_upk 1 hb_ rfl rfl rfl), Q_B0⟩
      refine steps_cons ?_ ?_
      · rintro b a w' ⟨ha, Q_B0⟩ hb_ hon hoff
        refine ⟨_, rfl, fun K hK => ?_⟩
        have e5 : a.tmps[5]? = some (.pointer (some ⟨g2, 1, none⟩)) := by rw [ha]; exact putSel_on (e := (1, 5, .pointer (some ⟨g2, 1, none⟩))) 1 rfl rfl (hon 1 (by kernel_rfl)) rfl
        replace ha := Aside0.mk ha
        have B0 := Aside0.mk Q_B0
        have c0_ := blk_cell (blk_below HZ.out B0.out) 1
        refine value_ (w1 := w') (v := .int .u64 x.f1) (by rfl) rfl ?_ ?_
        · go_simp
          (try simp only [i64_w])
          try rfl
        refine hK.out _ _ ⟨(by rw [ha.out]; exact putSel_upk 2 hb_ rfl rfl rfl), Q_B0⟩
      refine steps_cons ?_ ?_
      · rintro b a w' ⟨ha, Q_B0⟩ hb_ hon hoff
        refine ⟨_, rfl, fun K hK => ?_⟩
        have e4 : a.tmps[4]? = some (.int .u64 n) := by rw [ha]; exact putSel_on (e := (0, 4, .int .u64 n)) 0 rfl rfl (hon 0 (by kernel_rfl)) rfl
        have e6 : a.tmps[6]? = some (.int .u64 x.f1) := by rw [ha]; exact putSel_on (e := (2, 6, .int .u64 x.f1)) 2 rfl rfl (hon 2 (by kernel_rfl)) rfl
        replace ha := Aside0.mk ha
        have B0 := Aside0.mk Q_B0
        refine value_ (w1 := w') (v := .bool false) (by rfl) rfl ?_ ?_
        · go_simp
          (try simp only [i64_w])
          try rfl
        refine hK.out _ _ ⟨(by rw [ha.out]; exact putSel_upk 3 hb_ rfl rfl rfl), Q_B0⟩
      refine steps_cons ?_ ?_
      · rintro b a w' ⟨ha, Q_B0⟩ hb_ hon hoff
        refine ⟨_, rfl, fun K hK => ?_⟩
        have e7 : a.tmps[7]? = some (.bool false) := by rw [ha]; exact putSel_on (e := (3, 7, .bool false)) 3 rfl rfl (hon 3 (by kernel_rfl)) rfl
        replace ha := Aside0.mk ha
        have B0 := Aside0.mk Q_B0
        refine value_ (w1 := w') (v := .bool false) (by rfl) rfl ?_ ?_
        · go_simp
          (try simp only [i64_w])
          try rfl
        refine hK.out _ _ ⟨(by rw [ha.out]; exact putSel_upk 4 hb_ rfl rfl rfl), Q_B0⟩
      refine steps_cons ?_ ?_
      · rintro b a w' ⟨ha, Q_B0⟩ hb_ hon hoff
        refine ⟨_, rfl, fun K hK => ?_⟩
        have e8 : a.tmps[8]? = some (.bool false) := by rw [ha]; exact putSel_on (e := (4, 8, .bool false)) 4 rfl rfl (hon 4 (by kernel_rfl)) rfl
        replace ha := Aside0.mk ha
        have B0 := Aside0.mk Q_B0
        refine off_ (wanted_off rfl rfl rfl (e8.trans (by first | rfl | (simp [*]; done)))) ?_
        refine hK.out _ _ ⟨(by rw [ha.out]; exact putSel_upk 5 hb_ rfl rfl rfl), Q_B0⟩
      refine steps_cons ?_ ?_
      · rintro b a w' ⟨ha, Q_B0⟩ hb_ hon hoff
        refine ⟨_, rfl, fun K hK => ?_⟩
        have e8 : a.tmps[8]? = some (.bool false) := by rw [ha]; exact putSel_on (e := (4, 8, .bool false)) 4 rfl rfl (hon 4 (by kernel_rfl)) rfl
        replace ha := Aside0.mk ha
        have B0 := Aside0.mk Q_B0
        refine off_ (wanted_off rfl rfl rfl (e8.trans (by first | rfl | (simp [*]; done)))) ?_
        refine hK.out _ _ ⟨(by rw [ha.out]; exact putSel_upk 6 hb_ rfl rfl rfl), Q_B0⟩
      refine steps_cons ?_ ?_
      · rintro b a w' ⟨ha, Q_B0⟩ hb_ hon hoff
        refine ⟨_, rfl, fun K hK => ?_⟩
        have e8 : a.tmps[8]? = some (.bool false) := by rw [ha]; exact putSel_on (e := (4, 8, .bool false)) 4 rfl rfl (hon 4 (by kernel_rfl)) rfl
        replace ha := Aside0.mk ha
        have B0 := Aside0.mk Q_B0
        refine off_ (wanted_off rfl rfl rfl (e8.trans (by first | rfl | (simp [*]; done)))) ?_
        refine hK.out _ _ ⟨(by rw [ha.out]; exact putSel_upk 7 hb_ rfl rfl rfl), Q_B0⟩
      refine steps_cons ?_ ?_
      · rintro b a w' ⟨ha, Q_B0⟩ hb_ hon hoff
        refine ⟨_, rfl, fun K hK => ?_⟩
        have e8 : a.tmps[8]? = some (.bool false) := by rw [ha]; exact putSel_on (e := (4, 8, .bool false)) 4 rfl rfl (hon 4 (by kernel_rfl)) rfl
        replace ha := Aside0.mk ha
        have B0 := Aside0.mk Q_B0
        refine off_ (wanted_off rfl rfl rfl (e8.trans (by first | rfl | (simp [*]; done)))) ?_
        refine hK.out _ _ ⟨(by rw [ha.out]; exact putSel_upk 8 hb_ rfl rfl rfl), Q_B0⟩
      refine steps_cons ?_ ?_
      · rintro b a w' ⟨ha, Q_B0⟩ hb_ hon hoff
        refine ⟨_, rfl, fun K hK => ?_⟩
        have e8 : a.tmps[8]? = some (.bool false) := by rw [ha]; exact putSel_on (e := (4, 8, .bool false)) 4 rfl rfl (hon 4 (by kernel_rfl)) rfl
        replace ha := Aside0.mk ha
        have B0 := Aside0.mk Q_B0
        refine off_ (wanted_off rfl rfl rfl (e8.trans (by first | rfl | (simp [*]; done)))) ?_
        refine hK.out _ _ ⟨(by rw [ha.out]; exact putSel_upk 9 hb_ rfl rfl rfl), Q_B0⟩
      refine steps_cons ?_ ?_
      · rintro b a w' ⟨ha, Q_B0⟩ hb_ hon hoff
        refine ⟨_, rfl, fun K hK => ?_⟩
        have e8 : a.tmps[8]? = some (.bool false) := by rw [ha]; exact putSel_on (e := (4, 8, .bool false)) 4 rfl rfl (hon 4 (by kernel_rfl)) rfl
        replace ha := Aside0.mk ha
        have B0 := Aside0.mk Q_B0
        refine off_ (wanted_off rfl rfl rfl (e8.trans (by first | rfl | (simp [*]; done)))) ?_
        refine hK.out _ _ ⟨(by rw [ha.out]; exact putSel_upk 10 hb_ rfl rfl rfl), Q_B0⟩
      refine steps_cons ?_ ?_
      · rintro b a w' ⟨ha, Q_B0⟩ hb_ hon hoff
        refine ⟨_, rfl, fun K hK => ?_⟩
        have e8 : a.tmps[8]? = some (.bool false) := by rw [ha]; exact putSel_on (e := (4, 8, .bool false)) 4 rfl rfl (hon 4 (by kernel_rfl)) rfl
        replace ha := Aside0.mk ha
        have B0 := Aside0.mk Q_B0
        refine off_ (wanted_off rfl rfl rfl (e8.trans (by first | rfl | (simp [*]; done)))) ?_
        refine hK.out _ _ ⟨(by rw [ha.out]; exact putSel_upk 11 hb_ rfl rfl rfl), Q_B0⟩
      refine steps_cons ?_ ?_
      · rintro b a w' ⟨ha, Q_B0⟩ hb_ hon hoff
        refine ⟨_, rfl, fun K hK => ?_⟩
        have e8 : a.tmps[8]? = some (.bool false) := by rw [ha]; exact putSel_on (e := (4, 8, .bool false)) 4 rfl rfl (hon 4 (by kernel_rfl)) rfl
        replace ha := Aside0.mk ha
        have B0 := Aside0.mk Q_B0
        refine off_ (wanted_off rfl rfl rfl (e8.trans (by first | rfl | (simp [*]; done)))) ?_
        refine hK.out _ _ ⟨(by rw [ha.out]; exact putSel_upk 12 hb_ rfl rfl rfl), Q_B0⟩
      refine steps_cons ?_ ?_
      · rintro b a w' ⟨ha, Q_B0⟩ hb_ hon hoff
        refine ⟨_, rfl, fun K hK => ?_⟩
        have e8 : a.tmps[8]? = some (.bool false) := by rw [ha]; exact putSel_on (e := (4, 8, .bool false)) 4 rfl rfl (hon 4 (by kernel_rfl)) rfl
        replace ha := Aside0.mk ha
        have B0 := Aside0.mk Q_B0
        refine off_ (wanted_off rfl rfl rfl (e8.trans (by first | rfl | (simp [*]; done)))) ?_
        refine hK.out _ _ ⟨(by rw [ha.out]; exact putSel_upk 13 hb_ rfl rfl rfl), Q_B0⟩
      refine steps_cons ?_ ?_
      · rintro b a w' ⟨ha, Q_B0⟩ hb_ hon hoff
        refine ⟨_, rfl, fun K hK => ?_⟩
        have e8 : a.tmps[8]? = some (.bool false) := by rw [ha]; exact putSel_on (e := (4, 8, .bool false)) 4 rfl rfl (hon 4 (by kernel_rfl)) rfl
        have e17 : a.tmps[17]? = some (undef) := by rw [ha]; exact putSel_on (e := (13, 17, undef)) 13 rfl rfl (hon 13 (by kernel_rfl)) rfl
        replace ha := Aside0.mk ha
        have B0 := Aside0.mk Q_B0
        refine value_ (w1 := w') (v := .bool false) (by rfl) rfl ?_ ?_
        · go_simp
          (try simp only [i64_w])
          try rfl
        refine hK.out _ _ ⟨(by rw [ha.out]; exact putSel_upk 14 hb_ rfl rfl rfl), Q_B0⟩
      refine steps_cons ?_ ?_
      · rintro b a w' ⟨ha, Q_B0⟩ hb_ hon hoff
        refine ⟨_, rfl, fun K hK => ?_⟩
        have e18 : a.tmps[18]? = some (.bool false) := by rw [ha]; exact putSel_on (e := (14, 18, .bool false)) 14 rfl rfl (hon 14 (by kernel_rfl)) rfl
        replace ha := Aside0.mk ha
        have B0 := Aside0.mk Q_B0
        refine value_ (w1 := w') (v := .bool false) (by rfl) rfl ?_ ?_
        · go_simp
          (try simp only [i64_w])
          try rfl
        refine hK.out _ _ ⟨(by rw [ha.out]; exact putSel_upk 15 hb_ rfl rfl rfl), Q_B0⟩
      exact steps_nil
    rintro b a w9 hall ⟨ha, Q_B0⟩
    clear B0
    have hb0_ := hall 0 (by kernel_rfl)
    have hb1_ := hall 1 (by kernel_rfl)
    have hb2_ := hall 2 (by kernel_rfl)
    have hb3_ := hall 3 (by kernel_rfl)
    have hb4_ := hall 4 (by kernel_rfl)
    have hb5_ := hall 5 (by kernel_rfl)
    have hb6_ := hall 6 (by kernel_rfl)
    have hb7_ := hall 7 (by kernel_rfl)
    have hb8_ := hall 8 (by kernel_rfl)
    have hb9_ := hall 9 (by kernel_rfl)
    have hb10_ := hall 10 (by kernel_rfl)
    have hb11_ := hall 11 (by kernel_rfl)
    have hb12_ := hall 12 (by kernel_rfl)
    have hb13_ := hall 13 (by kernel_rfl)
    have hb14_ := hall 14 (by kernel_rfl)
    have hb15_ := hall 15 (by kernel_rfl)
    subst ha
    simp only [putSel, hb0_, hb1_, hb2_, hb3_, hb4_, hb5_, hb6_, hb7_, hb8_, hb9_, hb10_, hb11_, hb12_, hb13_, hb14_, hb15_, if_true, Act.put, List.setIfInBounds_toArray, List.set_cons_zero, List.set_cons_succ]
    have B0 := Aside0.mk Q_B0
    clear Q_B0
    clear hall hb0_ hb1_ hb2_ hb3_ hb4_ hb5_ hb6_ hb7_ hb8_ hb9_ hb10_ hb11_ hb12_ hb13_ hb14_ hb15_
    go_wp2_with fail
    go_ret
    exact ⟨by rw [HE.out]; rfl, below_then HB.out HB.out.size B0.out⟩
  | true =>
    obtain ⟨bq, hbq⟩ : ∃ b, b = decide (IntKind.u64.wrap (n - x.f1) < IntKind.u64.wrap F) := ⟨_, rfl⟩
    have e1 := hbq.symm
    have HE : Aside0 (rb = bq) := ⟨by rw [HRB.out, h1, Bool.true_and, hbq]⟩
    clear hbq
    refine start_ (n := 16) (S := fun w' => True) (ds := []) #[false, false, false, false, false, false, false, false, false, false, false, false, false, false, false, false] (by kernel_rfl) rfl rfl trivial (fun hHeld => ?_)
    refine with_tabW fr1.tab1 fr1.bits1 (fun HT_ HW_ => ?_)
    generalize W1.drew = wz at B0 hHeld ⊢
    refine inv_at [0, 1, 2, 3, 4, 5, 6, 7, 8, 9, 10, 11, 12, 13, 14, 15] (fun a0_ b a w' => a = putSel a0_ b [(0, 4, .int .u64 n), (1, 5, .pointer (some ⟨g2, 1, none⟩)), (2, 6, .int .u64 x.f1), (3, 7, .bool true), (4, 8, .bool true), (5, 9, .int .u64 n), (6, 10, .pointer (some ⟨g2, 1, none⟩)), (7, 11, .int .u64 x.f1), (8, 12, .int .u64 (IntKind.u64.wrap (n - x.f1))), (9, 13, .pointer (some ⟨g2, 3, none⟩)), (10, 14, .int .i64 x.f3), (11, 15, .int .i64 F), (12, 16, .int .u64 (IntKind.u64.wrap F)), (13, 17, .bool bq), (14, 18, .bool bq), (15, 3, .bool bq)] ∧ (Below W1.heap.size W1 w')) HT_.out HW_.out (by kernel_rfl) (by kernel_rfl) ?_ ?_ ?_
    · exact ⟨by simp only [putSel, Bool.false_eq_true, if_false], B0.out⟩
    · skip
      clear B0
      refine steps_cons ?_ ?_
      · rintro b a w' ⟨ha, Q_B0⟩ hb_ hon hoff
        refine ⟨_, rfl, fun K hK => ?_⟩
        have e1 : a.tmps[1]? = some (.pointer (some ⟨gb, 0, none⟩)) := by rw [ha]; exact (putSel_off rfl).trans rfl
        replace ha := Aside0.mk ha
        have B0 := Aside0.mk Q_B0
        have c0_ := blk_cell (blk_below HK.out B0.out) 0
        refine value_ (w1 := w') (v := .int .u64 n) (by rfl) rfl ?_ ?_
        · go_simp
          (try simp only [i64_w])
          try rfl
        refine hK.out _ _ ⟨(by rw [ha.out]; exact putSel_upk 0 hb_ rfl rfl rfl), Q_B0⟩
      refine steps_cons ?_ ?_
      · rintro b a w' ⟨ha, Q_B0⟩ hb_ hon hoff
        refine ⟨_, rfl, fun K hK => ?_⟩
        have e2 : a.tmps[2]? = some (.pointer (some ⟨g2, 0, none⟩)) := by rw [ha]; exact (putSel_off rfl).trans rfl
        replace ha := Aside0.mk ha
        have B0 := Aside0.mk Q_B0
        refine value_ (w1 := w') (v := .pointer (some ⟨g2, 1, none⟩)) (by rfl) rfl ?_ ?_
        · go_simp
          (try simp only [i64_w])
          try rfl
        refine hK.out _ _ ⟨(by rw [ha.out]; exact putSel_upk 1 hb_ rfl rfl rfl), Q_B0⟩
      refine steps_cons ?_ ?_
      · rintro b a w' ⟨ha, Q_B0⟩ hb_ hon hoff
        refine ⟨_, rfl, fun K hK => ?_⟩
        have e5 : a.tmps[5]? = some (.pointer (some ⟨g2, 1, none⟩)) := by rw [ha]; exact putSel_on (e := (1, 5, .pointer (some ⟨g2, 1, none⟩))) 1 rfl rfl (hon 1 (by kernel_rfl)) rfl
        replace ha := Aside0.mk ha
        have B0 := Aside0.mk Q_B0
        have c0_ := blk_cell (blk_below HZ.out B0.out) 1
        refine value_ (w1 := w') (v := .int .u64 x.f1) (by rfl) rfl ?_ ?_
        · go_simp
          (try simp only [i64_w])
          try rfl
        refine hK.out _ _ ⟨(by rw [ha.out]; exact putSel_upk 2 hb_ rfl rfl rfl), Q_B0⟩
      refine steps_cons ?_ ?_
      · rintro b a w' ⟨ha, Q_B0⟩ hb_ hon hoff
        refine ⟨_, rfl, fun K hK => ?_⟩
        have e4 : a.tmps[4]? = some (.int .u64 n) := by rw [ha]; exact putSel_on (e := (0, 4, .int .u64 n)) 0 rfl rfl (hon 0 (by kernel_rfl)) rfl
        have e6 : a.tmps[6]? = some (.int .u64 x.f1) := by rw [ha]; exact putSel_on (e := (2, 6, .int .u64 x.f1)) 2 rfl rfl (hon 2 (by kernel_rfl)) rfl
        replace ha := Aside0.mk ha
        have B0 := Aside0.mk Q_B0
        refine value_ (w1 := w') (v := .bool true) (by rfl) rfl ?_ ?_
        · go_simp
          (try simp only [i64_w])
          try rfl
        refine hK.out _ _ ⟨(by rw [ha.out]; exact putSel_upk 3 hb_ rfl rfl rfl), Q_B0⟩
      refine steps_cons ?_ ?_
      · rintro b a w' ⟨ha, Q_B0⟩ hb_ hon hoff
        refine ⟨_, rfl, fun K hK => ?_⟩
        have e7 : a.tmps[7]? = some (.bool true) := by rw [ha]; exact putSel_on (e := (3, 7, .bool true)) 3 rfl rfl (hon 3 (by kernel_rfl)) rfl
        replace ha := Aside0.mk ha
        have B0 := Aside0.mk Q_B0
        refine value_ (w1 := w') (v := .bool true) (by rfl) rfl ?_ ?_
        · go_simp
          (try simp only [i64_w])
          try rfl
        refine hK.out _ _ ⟨(by rw [ha.out]; exact putSel_upk 4 hb_ rfl rfl rfl), Q_B0⟩
      refine steps_cons ?_ ?_
      · rintro b a w' ⟨ha, Q_B0⟩ hb_ hon hoff
        refine ⟨_, rfl, fun K hK => ?_⟩
        have e1 : a.tmps[1]? = some (.pointer (some ⟨gb, 0, none⟩)) := by rw [ha]; exact (putSel_off rfl).trans rfl
        have e8 : a.tmps[8]? = some (.bool true) := by rw [ha]; exact putSel_on (e := (4, 8, .bool true)) 4 rfl rfl (hon 4 (by kernel_rfl)) rfl
        replace ha := Aside0.mk ha
        have B0 := Aside0.mk Q_B0
        have c0_ := blk_cell (blk_below HK.out B0.out) 0
        refine value_ (w1 := w') (v := .int .u64 n) (wanted_on rfl rfl rfl (e8.trans (by first | rfl | (simp [*]; done)))) rfl ?_ ?_
        · go_simp
          (try simp only [i64_w])
          try rfl
        refine hK.out _ _ ⟨(by rw [ha.out]; exact putSel_upk 5 hb_ rfl rfl rfl), Q_B0⟩
      refine steps_cons ?_ ?_
      · rintro b a w' ⟨ha, Q_B0⟩ hb_ hon hoff
        refine ⟨_, rfl, fun K hK => ?_⟩
        have e2 : a.tmps[2]? = some (.pointer (some ⟨g2, 0, none⟩)) := by rw [ha]; exact (putSel_off rfl).trans rfl
        have e8 : a.tmps[8]? = some (.bool true) := by rw [ha]; exact putSel_on (e := (4, 8, .bool true)) 4 rfl rfl (hon 4 (by kernel_rfl)) rfl
        replace ha := Aside0.mk ha
        have B0 := Aside0.mk Q_B0
        refine value_ (w1 := w') (v := .pointer (some ⟨g2, 1, none⟩)) (wanted_on rfl rfl rfl (e8.trans (by first | rfl | (simp [*]; done)))) rfl ?_ ?_
        · go_simp
          (try simp only [i64_w])
          try rfl
        refine hK.out _ _ ⟨(by rw [ha.out]; exact putSel_upk 6 hb_ rfl rfl rfl), Q_B0⟩
      refine steps_cons ?_ ?_
      · rintro b a w' ⟨ha, Q_B0⟩ hb_ hon hoff
        refine ⟨_, rfl, fun K hK => ?_⟩
        have e10 : a.tmps[10]? = some (.pointer (some ⟨g2, 1, none⟩)) := by rw [ha]; exact putSel_on (e := (6, 10, .pointer (some ⟨g2, 1, none⟩))) 6 rfl rfl (hon 6 (by kernel_rfl)) rfl
        have e8 : a.tmps[8]? = some (.bool true) := by rw [ha]; exact putSel_on (e := (4, 8, .bool true)) 4 rfl rfl (hon 4 (by kernel_rfl)) rfl
        replace ha := Aside0.mk ha
        have B0 := Aside0.mk Q_B0
        have c0_ := blk_cell (blk_below HZ.out B0.out) 1
        refine value_ (w1 := w') (v := .int .u64 x.f1) (wanted_on rfl rfl rfl (e8.trans (by first | rfl | (simp [*]; done)))) rfl ?_ ?_
        · go_simp
          (try simp only [i64_w])
          try rfl
        refine hK.out _ _ ⟨(by rw [ha.out]; exact putSel_upk 7 hb_ rfl rfl rfl), Q_B0⟩
      refine steps_cons ?_ ?_
      · rintro b a w' ⟨ha, Q_B0⟩ hb_ hon hoff
        refine ⟨_, rfl, fun K hK => ?_⟩
        have e9 : a.tmps[9]? = some (.int .u64 n) := by rw [ha]; exact putSel_on (e := (5, 9, .int .u64 n)) 5 rfl rfl (hon 5 (by kernel_rfl)) rfl
        have e11 : a.tmps[11]? = some (.int .u64 x.f1) := by rw [ha]; exact putSel_on (e := (7, 11, .int .u64 x.f1)) 7 rfl rfl (hon 7 (by kernel_rfl)) rfl
        have e8 : a.tmps[8]? = some (.bool true) := by rw [ha]; exact putSel_on (e := (4, 8, .bool true)) 4 rfl rfl (hon 4 (by kernel_rfl)) rfl
        replace ha := Aside0.mk ha
        have B0 := Aside0.mk Q_B0
        refine value_ (w1 := w') (v := .int .u64 (IntKind.u64.wrap (n - x.f1))) (wanted_on rfl rfl rfl (e8.trans (by first | rfl | (simp [*]; done)))) rfl ?_ ?_
        · go_simp
          (try simp only [i64_w])
          try rfl
        refine hK.out _ _ ⟨(by rw [ha.out]; exact putSel_upk 8 hb_ rfl rfl rfl), Q_B0⟩
      refine steps_cons ?_ ?_
      · rintro b a w' ⟨ha, Q_B0⟩ hb_ hon hoff
        refine ⟨_, rfl, fun K hK => ?_⟩
        have e2 : a.tmps[2]? = some (.pointer (some ⟨g2, 0, none⟩)) := by rw [ha]; exact (putSel_off rfl).trans rfl
        have e8 : a.tmps[8]? = some (.bool true) := by rw [ha]; exact putSel_on (e := (4, 8, .bool true)) 4 rfl rfl (hon 4 (by kernel_rfl)) rfl
        replace ha := Aside0.mk ha
        have B0 := Aside0.mk Q_B0
        refine value_ (w1 := w') (v := .pointer (some ⟨g2, 3, none⟩)) (wanted_on rfl rfl rfl (e8.trans (by first | rfl | (simp [*]; done)))) rfl ?_ ?_
        · go_simp
          (try simp only [i64_w])
          try rfl
        refine hK.out _ _ ⟨(by rw [ha.out]; exact putSel_upk 9 hb_ rfl rfl rfl), Q_B0⟩
      refine steps_cons ?_ ?_
      · rintro b a w' ⟨ha, Q_B0⟩ hb_ hon hoff
        refine ⟨_, rfl, fun K hK => ?_⟩
        have e13 : a.tmps[13]? = some (.pointer (some ⟨g2, 3, none⟩)) := by rw [ha]; exact putSel_on (e := (9, 13, .pointer (some ⟨g2, 3, none⟩))) 9 rfl rfl (hon 9 (by kernel_rfl)) rfl
        have e8 : a.tmps[8]? = some (.bool true) := by rw [ha]; exact putSel_on (e := (4, 8, .bool true)) 4 rfl rfl (hon 4 (by kernel_rfl)) rfl
        replace ha := Aside0.mk ha
        have B0 := Aside0.mk Q_B0
        have c0_ := blk_cell (blk_below HZ.out B0.out) 3
        refine value_ (w1 := w') (v := .int .i64 x.f3) (wanted_on rfl rfl rfl (e8.trans (by first | rfl | (simp [*]; done)))) rfl ?_ ?_
        · go_simp
          (try simp only [i64_w])
          try rfl
        refine hK.out _ _ ⟨(by rw [ha.out]; exact putSel_upk 10 hb_ rfl rfl rfl), Q_B0⟩
      refine steps_cons ?_ ?_
      · rintro b a w' ⟨ha, Q_B0⟩ hb_ hon hoff
        refine ⟨_, rfl, fun K hK => ?_⟩
        have e14 : a.tmps[14]? = some (.int .i64 x.f3) := by rw [ha]; exact putSel_on (e := (10, 14, .int .i64 x.f3)) 10 rfl rfl (hon 10 (by kernel_rfl)) rfl
        have e8 : a.tmps[8]? = some (.bool true) := by rw [ha]; exact putSel_on (e := (4, 8, .bool true)) 4 rfl rfl (hon 4 (by kernel_rfl)) rfl
        replace ha := Aside0.mk ha
        have B0 := Aside0.mk Q_B0
        refine goes_ Try.func14 (by kernel_rfl) rfl #[.int .i64 x.f3] (wanted_on rfl rfl rfl (e8.trans rfl)) rfl rfl (by first | (simp only [List.map_toArray, List.map_cons, List.map_nil, Act.eval, Array.getD_eq_getD_getElem?, Option.getD_some, e14, e8]; done) | (simp only [List.map_toArray, List.map_cons, List.map_nil, Act.eval, Array.getD_eq_getD_getElem?, Option.getD_some, e14, e8]; rfl)) ?_
        with_reducible refine (HFC.out _).mono ?_
        rintro e w2 ⟨rfl, hb⟩
        refine ⟨_, rfl, ?_⟩
        refine hK.out _ _ ⟨(by rw [ha.out]; exact putSel_upk 11 hb_ rfl rfl rfl), below_then B0.out B0.out.size hb⟩
      refine steps_cons ?_ ?_
      · rintro b a w' ⟨ha, Q_B0⟩ hb_ hon hoff
        refine ⟨_, rfl, fun K hK => ?_⟩
        have e15 : a.tmps[15]? = some (.int .i64 F) := by rw [ha]; exact putSel_on (e := (11, 15, .int .i64 F)) 11 rfl rfl (hon 11 (by kernel_rfl)) rfl
        have e8 : a.tmps[8]? = some (.bool true) := by rw [ha]; exact putSel_on (e := (4, 8, .bool true)) 4 rfl rfl (hon 4 (by kernel_rfl)) rfl
        replace ha := Aside0.mk ha
        have B0 := Aside0.mk Q_B0
        refine value_ (w1 := w') (v := .int .u64 (IntKind.u64.wrap F)) (wanted_on rfl rfl rfl (e8.trans (by first | rfl | (simp [*]; done)))) rfl ?_ ?_
        · go_simp
          (try simp only [i64_w])
          try rfl
        refine hK.out _ _ ⟨(by rw [ha.out]; exact putSel_upk 12 hb_ rfl rfl rfl), Q_B0⟩
      refine steps_cons ?_ ?_
      · rintro b a w' ⟨ha, Q_B0⟩ hb_ hon hoff
        refine ⟨_, rfl, fun K hK => ?_⟩
        have e12 : a.tmps[12]? = some (.int .u64 (IntKind.u64.wrap (n - x.f1))) := by rw [ha]; exact putSel_on (e := (8, 12, .int .u64 (IntKind.u64.wrap (n - x.f1)))) 8 rfl rfl (hon 8 (by kernel_rfl)) rfl
        have e16 : a.tmps[16]? = some (.int .u64 (IntKind.u64.wrap F)) := by rw [ha]; exact putSel_on (e := (12, 16, .int .u64 (IntKind.u64.wrap F))) 12 rfl rfl (hon 12 (by kernel_rfl)) rfl
        have e8 : a.tmps[8]? = some (.bool true) := by rw [ha]; exact putSel_on (e := (4, 8, .bool true)) 4 rfl rfl (hon 4 (by kernel_rfl)) rfl
        replace ha := Aside0.mk ha
        have B0 := Aside0.mk Q_B0
        refine value_ (w1 := w') (v := .bool bq) (wanted_on rfl rfl rfl (e8.trans (by first | rfl | (simp [*]; done)))) rfl ?_ ?_
        · go_simp
          (try simp only [i64_w])
          try rfl
        refine hK.out _ _ ⟨(by rw [ha.out]; exact putSel_upk 13 hb_ rfl rfl rfl), Q_B0⟩
      refine steps_cons ?_ ?_
      · rintro b a w' ⟨ha, Q_B0⟩ hb_ hon hoff
        refine ⟨_, rfl, fun K hK => ?_⟩
        have e8 : a.tmps[8]? = some (.bool true) := by rw [ha]; exact putSel_on (e := (4, 8, .bool true)) 4 rfl rfl (hon 4 (by kernel_rfl)) rfl
        have e17 : a.tmps[17]? = some (.bool bq) := by rw [ha]; exact putSel_on (e := (13, 17, .bool bq)) 13 rfl rfl (hon 13 (by kernel_rfl)) rfl
        replace ha := Aside0.mk ha
        have B0 := Aside0.mk Q_B0
        refine value_ (w1 := w') (v := .bool bq) (by rfl) rfl ?_ ?_
        · go_simp
          (try simp only [i64_w])
          try rfl
        refine hK.out _ _ ⟨(by rw [ha.out]; exact putSel_upk 14 hb_ rfl rfl rfl), Q_B0⟩
      refine steps_cons ?_ ?_
      · rintro b a w' ⟨ha, Q_B0⟩ hb_ hon hoff
        refine ⟨_, rfl, fun K hK => ?_⟩
        have e18 : a.tmps[18]? = some (.bool bq) := by rw [ha]; exact putSel_on (e := (14, 18, .bool bq)) 14 rfl rfl (hon 14 (by kernel_rfl)) rfl
        replace ha := Aside0.mk ha
        have B0 := Aside0.mk Q_B0
        refine value_ (w1 := w') (v := .bool bq) (by rfl) rfl ?_ ?_
        · go_simp
          (try simp only [i64_w])
          try rfl
        refine hK.out _ _ ⟨(by rw [ha.out]; exact putSel_upk 15 hb_ rfl rfl rfl), Q_B0⟩
      exact steps_nil
    rintro b a w9 hall ⟨ha, Q_B0⟩
    clear B0
    have hb0_ := hall 0 (by kernel_rfl)
    have hb1_ := hall 1 (by kernel_rfl)
    have hb2_ := hall 2 (by kernel_rfl)
    have hb3_ := hall 3 (by kernel_rfl)
    have hb4_ := hall 4 (by kernel_rfl)
    have hb5_ := hall 5 (by kernel_rfl)
    have hb6_ := hall 6 (by kernel_rfl)
    have hb7_ := hall 7 (by kernel_rfl)
    have hb8_ := hall 8 (by kernel_rfl)
    have hb9_ := hall 9 (by kernel_rfl)
    have hb10_ := hall 10 (by kernel_rfl)
    have hb11_ := hall 11 (by kernel_rfl)
    have hb12_ := hall 12 (by kernel_rfl)
    have hb13_ := hall 13 (by kernel_rfl)
    have hb14_ := hall 14 (by kernel_rfl)
    have hb15_ := hall 15 (by kernel_rfl)
    subst ha
    simp only [putSel, hb0_, hb1_, hb2_, hb3_, hb4_, hb5_, hb6_, hb7_, hb8_, hb9_, hb10_, hb11_, hb12_, hb13_, hb14_, hb15_, if_true, Act.put, List.setIfInBounds_toArray, List.set_cons_zero, List.set_cons_succ]
    have B0 := Aside0.mk Q_B0
    clear Q_B0
    clear hall hb0_ hb1_ hb2_ hb3_ hb4_ hb5_ hb6_ hb7_ hb8_ hb9_ hb10_ hb11_ hb12_ hb13_ hb14_ hb15_
    go_wp2_with fail
    go_ret
    exact ⟨by rw [HE.out]; rfl, below_then HB.out HB.out.size B0.out⟩
end Go.Proofs.Ytaepbgieahedjaa.QS
namespace Go.Proofs.Ytaepbgieahedjaa.QS
set_option linter.unusedVariables false
set_option linter.unusedSimpArgs false
open Go.RowKit Go.Proofs.Ytaepbgieahedjaa.Hp Go.Proofs.YtaepbgieahedjaaW.PrintWords Go.Proofs.YtaepbgieahedjaaW.PrintLast Go.Proofs.YtaepbgieahedjaaW.PrintMore
open Go.Proofs.Ytaepbgieahedjaa.IP
def frm4.T4 : Bool × List (List Nat × List Nat) := (true, [([], []), ([0], [0]), ([1], [1]), ([], []), ([], []), ([4], [4]), ([5], [5]), ([6], [6]), ([3, 7], [3, 7]), ([8], [8]), ([2, 0, 1, 2], [2]), ([9, 10, 0, 1, 2, 3, 4, 5, 6, 7, 8, 9, 10], [9]), ([11, 0, 1, 2, 3, 4, 5, 6, 7, 8, 9, 10, 11], [])])
def frm4.B4 : List Nat := [0, 1, 3, 0, 0, 16, 48, 112, 248, 504, 7, 2047, 4095]
theorem frm4.tab4 : rtab .any (opsOf Try.f10 4) = frm4.T4 := by kernel_rfl
theorem frm4.bits4 : waitsOk frm4.T4.2 frm4.B4 = true := by kernel_rfl
def FrameTo (W w' : World) (e : Ending) (x : R0) (n : Int) : Prop := ∃ A c, e = .returned (.tuple #[ragg x A c, .int .i64 (IntKind.i64.wrap (IntKind.u64.wrap (n - x.f1))), .bool true]) ∧ Kd.C (Kd.int .i64) w' A x.f7.length x.f7 ∧ x.f7.length ≤ c ∧ Below W.heap.size W w'
set_option maxHeartbeats 4000000 in
set_option maxRecDepth 100000 in
theorem frame_yes {W : World} {base g0 : Nat} {l : List R0} (h : IX W base g0 l) (hn : l.length ≤ 1000) (hp : ∀ x ∈ l, x.f7.length ≤ 1000) (n : Int) (x : R0) (r : List R0) (hf : l.filter (inB n) = x :: r) : Calls Try.prog 10 #[.pointer (some ⟨g0, 0, none⟩), .int .u64 n] W fun e w' => FrameTo W w' e x n := by
  have hbx := heap_alloc_new W (.cells #[.int .u64 n] 23)
  have hz := heap_alloc_new (W.alloc (.cells #[.int .u64 n] 23)) (.cells #[.int .u64 0, .int .u64 0, .int .i64 0, .int .i64 0, .int .u64 0, .bool false, .int .i64 0, .slice none 0 0] 29)
  have hb := below_alloc (below_alloc (Below.refl W.heap.size W) (.cells #[.int .u64 n] 23)) (.cells #[.int .u64 0, .int .u64 0, .int .i64 0, .int .i64 0, .int .u64 0, .bool false, .int .i64 0, .slice none 0 0] 29)
  have hs : (W.alloc (.cells #[.int .u64 n] 23)).heap.size = W.heap.size + 1 := by simp
  have hbx := blk_below hbx (below_alloc (Below.refl _ _) (.cells #[.int .u64 0, .int .u64 0, .int .i64 0, .int .i64 0, .int .u64 0, .bool false, .int .i64 0, .slice none 0 0] 29))
  rw [hs] at hz
  obtain ⟨g, hg⟩ : ∃ g, g = W.heap.size + 1 := ⟨_, rfl⟩
  obtain ⟨gb, hgb⟩ : ∃ g, g = W.heap.size := ⟨_, rfl⟩
  have HX1 := Aside0.mk (h.below hb)
  have HN := Aside0.mk (And.intro hn hp)
  have HF := Aside0.mk hf
  clear h hn hp hf
  go_enter Try.func10, Try.ntmps10
  go_upto_region 1 with fail
  generalize (W.alloc (.cells #[.int .u64 n] 23)).alloc (.cells #[.int .u64 0, .int .u64 0, .int .i64 0, .int .i64 0, .int .u64 0, .bool false, .int .i64 0, .slice none 0 0] 29) = W1 at hz hb hbx HX1 ⊢
  clear hs
  rw [← hg] at hz ⊢
  rw [← hgb] at hbx ⊢
  have HG : Aside0 (W.heap.size ≤ g) := ⟨by omega⟩
  have HGB : Aside0 (gb + 1 = g) := ⟨by omega⟩
  have HZ := Aside0.mk hz
  have HB := Aside0.mk hb
  have HBX := Aside0.mk hbx
  have HS := Aside0.mk (isome_calls 26 _ #[.pointer (some ⟨gb, 0, none⟩)] Try.func26 rfl rfl (inB n) l base g0 W1 HN.out.1 HN.out.2 HX1.out (fun W' hW x Ap cpp => frame_fn x Ap cpp W' (blk_below HBX.out hW)))
  clear hz hb hg hgb hbx
  go_upto_region 4 with (go_at_call 25; refine HS.out.mono ?_; rintro e w2 ⟨v, rfl, hR, hb⟩; rw [HF.out] at hR; obtain ⟨Av, cv, rfl⟩ := Kd.R_slice hR; have HR := Aside0.mk hR; have HZ2 := Aside0.mk (blk_below HZ.out hb); have HBX2 := Aside0.mk (blk_below HBX.out hb); have HB2 := Aside0.mk (below_then HB.out HB.out.size hb); clear hb hR)
  have hR3 : k29.R 29 w2 W1.heap.size (fun k => g < k) (.slice Av (x :: r).length cv) (x :: r) := Kd.R_mono HR.out (fun k hk => Nat.lt_of_lt_of_le (blk_lt HZ.out) hk)
  obtain ⟨gq, Ax, cx, cur, rfl, hgq, hzq, hcur, hRx⟩ := IX.at (i := 0) hR3 rfl
  have HCUR : Aside0 (∀ k u, (encR x Ax cx)[k]? = some u → cur[k]? = some u) := ⟨fun k u h => by have := hcur k u h; rwa [Nat.zero_mul, Nat.zero_add] at this⟩
  have B0 := Aside0.mk (below_then HB2.out HB2.out.size (below_drew1 (Below.refl w2.heap.size w2)))
  have ZQ := Aside0.mk (show w2.drew.heap[gq]? = some (.cells cur 29 (0, 0)) from hzq)
  have ZN := Aside0.mk (show w2.drew.heap[gb]? = some (.cells #[.int .u64 n] 23 (0, 0)) from HBX2.out)
  have ZZ := Aside0.mk (show w2.drew.heap[g]? = some (.cells #[.int .u64 0, .int .u64 0, .int .i64 0, .int .i64 0, .int .u64 0, .bool false, .int .i64 0, .slice none 0 0] 29 (0, 0)) from HZ2.out)
  have RX := Aside0.mk (Kd.R_below hRx (below_drew1 (Below.refl w2.heap.size w2)))
  have HNE : Aside0 (gq ≠ g ∧ gb ≠ g) := ⟨by omega, by have := HGB.out; omega⟩
  have q0 := eq_true (show (0 : Int) < (r.length : Int) + 1 by omega)
  have FIN := True.intro
  clear hR3 hgq hzq hcur hRx HR HS HF HBX HZ2 HBX2 HB2
  refine start_ (n := 13) (S := fun w' => True) (ds := []) #[false, false, false, false, false, false, false, false, false, false, false, false, false] (by kernel_rfl) rfl rfl trivial (fun hHeld => ?_)
  refine with_tabW frm4.tab4 frm4.bits4 (fun HT_ HW_ => ?_)
  generalize w2.drew = wz at B0 ZQ ZN ZZ RX hHeld ⊢
  refine inv_at [0, 1, 2, 3, 4, 5, 6, 7, 8, 9, 10, 11, 12] (fun a0_ b a w' => a = putSel a0_ b [(0, 15, .slice (some ⟨gq, 0, none⟩) (r.length + 1) cv), (1, 16, .pointer (some ⟨gq, 0, none⟩)), (2, 17, .agg #[.int .u64 x.f0, .int .u64 x.f1, .int .i64 x.f2, .int .i64 x.f3, .int .u64 x.f4, .bool x.f5, .int .i64 x.f6, .slice Ax x.f7.length cx]), (3, 18, .int .u64 n), (4, 19, .slice (some ⟨gq, 0, none⟩) (r.length + 1) cv), (5, 20, .pointer (some ⟨gq, 0, none⟩)), (6, 21, .pointer (some ⟨gq, 1, none⟩)), (7, 22, .int .u64 x.f1), (8, 23, .int .u64 (IntKind.u64.wrap (n - x.f1))), (9, 24, .int .i64 (IntKind.i64.wrap (IntKind.u64.wrap (n - x.f1)))), (11, 5, .int .i64 (IntKind.i64.wrap (IntKind.u64.wrap (n - x.f1)))), (12, 6, .bool true)] ∧ (Below W.heap.size W w') ∧ (w'.heap[gq]? = some (.cells cur 29 (0, 0))) ∧ (w'.heap[gb]? = some (.cells #[.int .u64 n] 23 (0, 0))) ∧ (b 10 = false → w'.heap[g]? = some (.cells #[.int .u64 0, .int .u64 0, .int .i64 0, .int .i64 0, .int .u64 0, .bool false, .int .i64 0, .slice none 0 0] 29 (0, 0))) ∧ ((Kd.int .i64).R 3 w' W1.heap.size (fun k => g < k ∧ k ≠ gq) (.slice Ax x.f7.length cx) x.f7) ∧ (b 10 = true → w'.heap[g]? = some (.cells #[.int .u64 x.f0, .int .u64 x.f1, .int .i64 x.f2, .int .i64 x.f3, .int .u64 x.f4, .bool x.f5, .int .i64 x.f6, .slice Ax x.f7.length cx] 29 (0, 0)))) HT_.out HW_.out (by kernel_rfl) (by kernel_rfl) ?_ ?_ ?_
  · exact ⟨by simp only [putSel, Bool.false_eq_true, if_false], B0.out, ZQ.out, ZN.out, fun _ => ZZ.out, RX.out, fun h_ => absurd h_ (by decide)⟩
  · skip
    clear B0 RX ZN ZQ ZZ
    refine steps_cons ?_ ?_
    · rintro b a w' ⟨ha, Q_B0, Q_ZQ, Q_ZN, Q_ZZ, Q_RX, Q_FIN⟩ hb_ hon hoff
      refine ⟨_, rfl, fun K hK => ?_⟩
      have e7 : a.tmps[7]? = some (.slice (some ⟨gq, 0, none⟩) (r.length + 1) cv) := by rw [ha]; exact (putSel_off rfl).trans rfl
      replace ha := Aside0.mk ha
      have B0 := Aside0.mk Q_B0
      have ZQ := Aside0.mk Q_ZQ
      have ZN := Aside0.mk Q_ZN
      have ZZ := Aside0.mk (Q_ZZ (hoff 10 (by kernel_rfl)))
      have RX := Aside0.mk Q_RX
      refine value_ (w1 := w') (v := .slice (some ⟨gq, 0, none⟩) (r.length + 1) cv) (by rfl) rfl ?_ ?_
      · go_simp
        (try simp only [i64_w])
        try rfl
      refine hK.out _ _ ⟨(by rw [ha.out]; exact putSel_upk 0 hb_ rfl rfl rfl), Q_B0, Q_ZQ, Q_ZN, Q_ZZ, Q_RX, fun h0_ => absurd ((hoff 10 (by kernel_rfl)).symm.trans h0_) (by decide)⟩
    refine steps_cons ?_ ?_
    · rintro b a w' ⟨ha, Q_B0, Q_ZQ, Q_ZN, Q_ZZ, Q_RX, Q_FIN⟩ hb_ hon hoff
      refine ⟨_, rfl, fun K hK => ?_⟩
      have e15 : a.tmps[15]? = some (.slice (some ⟨gq, 0, none⟩) (r.length + 1) cv) := by rw [ha]; exact putSel_on (e := (0, 15, .slice (some ⟨gq, 0, none⟩) (r.length + 1) cv)) 0 rfl rfl (hon 0 (by kernel_rfl)) rfl
      replace ha := Aside0.mk ha
      have B0 := Aside0.mk Q_B0
      have ZQ := Aside0.mk Q_ZQ
      have ZN := Aside0.mk Q_ZN
      have ZZ := Aside0.mk (Q_ZZ (hoff 10 (by kernel_rfl)))
      have RX := Aside0.mk Q_RX
      refine value_ (w1 := w') (v := .pointer (some ⟨gq, 0, none⟩)) (by rfl) rfl ?_ ?_
      · go_simp
        (try simp only [i64_w])
        try rfl
      refine hK.out _ _ ⟨(by rw [ha.out]; exact putSel_upk 1 hb_ rfl rfl rfl), Q_B0, Q_ZQ, Q_ZN, Q_ZZ, Q_RX, fun h0_ => absurd ((hoff 10 (by kernel_rfl)).symm.trans h0_) (by decide)⟩
    refine steps_cons ?_ ?_
    · rintro b a w' ⟨ha, Q_B0, Q_ZQ, Q_ZN, Q_ZZ, Q_RX, Q_FIN⟩ hb_ hon hoff
      refine ⟨_, rfl, fun K hK => ?_⟩
      have e16 : a.tmps[16]? = some (.pointer (some ⟨gq, 0, none⟩)) := by rw [ha]; exact putSel_on (e := (1, 16, .pointer (some ⟨gq, 0, none⟩))) 1 rfl rfl (hon 1 (by kernel_rfl)) rfl
      replace ha := Aside0.mk ha
      have B0 := Aside0.mk Q_B0
      have ZQ := Aside0.mk Q_ZQ
      have ZN := Aside0.mk Q_ZN
      have ZZ := Aside0.mk (Q_ZZ (hoff 10 (by kernel_rfl)))
      have RX := Aside0.mk Q_RX
      have r0_ := (blk_cell ZQ.out 0).trans (HCUR.out 0 _ rfl)
      have r1_ := (blk_cell ZQ.out 1).trans (HCUR.out 1 _ rfl)
      have r2_ := (blk_cell ZQ.out 2).trans (HCUR.out 2 _ rfl)
      have r3_ := (blk_cell ZQ.out 3).trans (HCUR.out 3 _ rfl)
      have r4_ := (blk_cell ZQ.out 4).trans (HCUR.out 4 _ rfl)
      have r5_ := (blk_cell ZQ.out 5).trans (HCUR.out 5 _ rfl)
      have r6_ := (blk_cell ZQ.out 6).trans (HCUR.out 6 _ rfl)
      have r7_ := (blk_cell ZQ.out 7).trans (HCUR.out 7 _ rfl)
      refine value_ (w1 := w') (v := .agg #[.int .u64 x.f0, .int .u64 x.f1, .int .i64 x.f2, .int .i64 x.f3, .int .u64 x.f4, .bool x.f5, .int .i64 x.f6, .slice Ax x.f7.length cx]) (by rfl) rfl ?_ ?_
      · go_simp
        (try simp only [i64_w])
        try rfl
      refine hK.out _ _ ⟨(by rw [ha.out]; exact putSel_upk 2 hb_ rfl rfl rfl), Q_B0, Q_ZQ, Q_ZN, Q_ZZ, Q_RX, fun h0_ => absurd ((hoff 10 (by kernel_rfl)).symm.trans h0_) (by decide)⟩
    refine steps_cons ?_ ?_
    · rintro b a w' ⟨ha, Q_B0, Q_ZQ, Q_ZN, Q_ZZ, Q_RX, Q_FIN⟩ hb_ hon hoff
      refine ⟨_, rfl, fun K hK => ?_⟩
      have e3 : a.tmps[3]? = some (.pointer (some ⟨gb, 0, none⟩)) := by rw [ha]; exact (putSel_off rfl).trans rfl
      replace ha := Aside0.mk ha
      have B0 := Aside0.mk Q_B0
      have ZQ := Aside0.mk Q_ZQ
      have ZN := Aside0.mk Q_ZN
      have RX := Aside0.mk Q_RX
      have c0_ := blk_cell (ZN.out) 0
      refine value_ (w1 := w') (v := .int .u64 n) (by rfl) rfl ?_ ?_
      · go_simp
        (try simp only [i64_w])
        try rfl
      refine hK.out _ _ ⟨(by rw [ha.out]; exact putSel_upk 3 hb_ rfl rfl rfl), Q_B0, Q_ZQ, Q_ZN, Q_ZZ, Q_RX, Q_FIN⟩
    refine steps_cons ?_ ?_
    · rintro b a w' ⟨ha, Q_B0, Q_ZQ, Q_ZN, Q_ZZ, Q_RX, Q_FIN⟩ hb_ hon hoff
      refine ⟨_, rfl, fun K hK => ?_⟩
      have e7 : a.tmps[7]? = some (.slice (some ⟨gq, 0, none⟩) (r.length + 1) cv) := by rw [ha]; exact (putSel_off rfl).trans rfl
      replace ha := Aside0.mk ha
      have B0 := Aside0.mk Q_B0
      have ZQ := Aside0.mk Q_ZQ
      have ZN := Aside0.mk Q_ZN
      have RX := Aside0.mk Q_RX
      refine value_ (w1 := w') (v := .slice (some ⟨gq, 0, none⟩) (r.length + 1) cv) (by rfl) rfl ?_ ?_
      · go_simp
        (try simp only [i64_w])
        try rfl
      refine hK.out _ _ ⟨(by rw [ha.out]; exact putSel_upk 4 hb_ rfl rfl rfl), Q_B0, Q_ZQ, Q_ZN, Q_ZZ, Q_RX, Q_FIN⟩
    refine steps_cons ?_ ?_
    · rintro b a w' ⟨ha, Q_B0, Q_ZQ, Q_ZN, Q_ZZ, Q_RX, Q_FIN⟩ hb_ hon hoff
      refine ⟨_, rfl, fun K hK => ?_⟩
      have e19 : a.tmps[19]? = some (.slice (some ⟨gq, 0, none⟩) (r.length + 1) cv) := by rw [ha]; exact putSel_on (e := (4, 19, .slice (some ⟨gq, 0, none⟩) (r.length + 1) cv)) 4 rfl rfl (hon 4 (by kernel_rfl)) rfl
      replace ha := Aside0.mk ha
      have B0 := Aside0.mk Q_B0
      have ZQ := Aside0.mk Q_ZQ
      have ZN := Aside0.mk Q_ZN
      have RX := Aside0.mk Q_RX
      refine value_ (w1 := w') (v := .pointer (some ⟨gq, 0, none⟩)) (by rfl) rfl ?_ ?_
      · go_simp
        (try simp only [i64_w])
        try rfl
      refine hK.out _ _ ⟨(by rw [ha.out]; exact putSel_upk 5 hb_ rfl rfl rfl), Q_B0, Q_ZQ, Q_ZN, Q_ZZ, Q_RX, Q_FIN⟩
    refine steps_cons ?_ ?_
    · rintro b a w' ⟨ha, Q_B0, Q_ZQ, Q_ZN, Q_ZZ, Q_RX, Q_FIN⟩ hb_ hon hoff
      refine ⟨_, rfl, fun K hK => ?_⟩
      have e20 : a.tmps[20]? = some (.pointer (some ⟨gq, 0, none⟩)) := by rw [ha]; exact putSel_on (e := (5, 20, .pointer (some ⟨gq, 0, none⟩))) 5 rfl rfl (hon 5 (by kernel_rfl)) rfl
      replace ha := Aside0.mk ha
      have B0 := Aside0.mk Q_B0
      have ZQ := Aside0.mk Q_ZQ
      have ZN := Aside0.mk Q_ZN
      have RX := Aside0.mk Q_RX
      refine value_ (w1 := w') (v := .pointer (some ⟨gq, 1, none⟩)) (by rfl) rfl ?_ ?_
      · go_simp
        (try simp only [i64_w])
        try rfl
      refine hK.out _ _ ⟨(by rw [ha.out]; exact putSel_upk 6 hb_ rfl rfl rfl), Q_B0, Q_ZQ, Q_ZN, Q_ZZ, Q_RX, Q_FIN⟩
    refine steps_cons ?_ ?_
    · rintro b a w' ⟨ha, Q_B0, Q_ZQ, Q_ZN, Q_ZZ, Q_RX, Q_FIN⟩ hb_ hon hoff
      refine ⟨_, rfl, fun K hK => ?_⟩
      have e21 : a.tmps[21]? = some (.pointer (some ⟨gq, 1, none⟩)) := by rw [ha]; exact putSel_on (e := (6, 21, .pointer (some ⟨gq, 1, none⟩))) 6 rfl rfl (hon 6 (by kernel_rfl)) rfl
      replace ha := Aside0.mk ha
      have B0 := Aside0.mk Q_B0
      have ZQ := Aside0.mk Q_ZQ
      have ZN := Aside0.mk Q_ZN
      have RX := Aside0.mk Q_RX
      have r1_ := (blk_cell ZQ.out 1).trans (HCUR.out 1 _ rfl)
      refine value_ (w1 := w') (v := .int .u64 x.f1) (by rfl) rfl ?_ ?_
      · go_simp
        (try simp only [i64_w])
        try rfl
      refine hK.out _ _ ⟨(by rw [ha.out]; exact putSel_upk 7 hb_ rfl rfl rfl), Q_B0, Q_ZQ, Q_ZN, Q_ZZ, Q_RX, Q_FIN⟩
    refine steps_cons ?_ ?_
    · rintro b a w' ⟨ha, Q_B0, Q_ZQ, Q_ZN, Q_ZZ, Q_RX, Q_FIN⟩ hb_ hon hoff
      refine ⟨_, rfl, fun K hK => ?_⟩
      have e18 : a.tmps[18]? = some (.int .u64 n) := by rw [ha]; exact putSel_on (e := (3, 18, .int .u64 n)) 3 rfl rfl (hon 3 (by kernel_rfl)) rfl
      have e22 : a.tmps[22]? = some (.int .u64 x.f1) := by rw [ha]; exact putSel_on (e := (7, 22, .int .u64 x.f1)) 7 rfl rfl (hon 7 (by kernel_rfl)) rfl
      replace ha := Aside0.mk ha
      have B0 := Aside0.mk Q_B0
      have ZQ := Aside0.mk Q_ZQ
      have ZN := Aside0.mk Q_ZN
      have RX := Aside0.mk Q_RX
      refine value_ (w1 := w') (v := .int .u64 (IntKind.u64.wrap (n - x.f1))) (by rfl) rfl ?_ ?_
      · go_simp
        (try simp only [i64_w])
        try rfl
      refine hK.out _ _ ⟨(by rw [ha.out]; exact putSel_upk 8 hb_ rfl rfl rfl), Q_B0, Q_ZQ, Q_ZN, Q_ZZ, Q_RX, Q_FIN⟩
    refine steps_cons ?_ ?_
    · rintro b a w' ⟨ha, Q_B0, Q_ZQ, Q_ZN, Q_ZZ, Q_RX, Q_FIN⟩ hb_ hon hoff
      refine ⟨_, rfl, fun K hK => ?_⟩
      have e23 : a.tmps[23]? = some (.int .u64 (IntKind.u64.wrap (n - x.f1))) := by rw [ha]; exact putSel_on (e := (8, 23, .int .u64 (IntKind.u64.wrap (n - x.f1)))) 8 rfl rfl (hon 8 (by kernel_rfl)) rfl
      replace ha := Aside0.mk ha
      have B0 := Aside0.mk Q_B0
      have ZQ := Aside0.mk Q_ZQ
      have ZN := Aside0.mk Q_ZN
      have RX := Aside0.mk Q_RX
      refine value_ (w1 := w') (v := .int .i64 (IntKind.i64.wrap (IntKind.u64.wrap (n - x.f1)))) (by rfl) rfl ?_ ?_
      · go_simp
        (try simp only [i64_w])
        try rfl
      refine hK.out _ _ ⟨(by rw [ha.out]; exact putSel_upk 9 hb_ rfl rfl rfl), Q_B0, Q_ZQ, Q_ZN, Q_ZZ, Q_RX, Q_FIN⟩
    refine steps_cons ?_ ?_
    · rintro b a w' ⟨ha, Q_B0, Q_ZQ, Q_ZN, Q_ZZ, Q_RX, Q_FIN⟩ hb_ hon hoff
      refine ⟨_, rfl, fun K hK => ?_⟩
      have e4 : a.tmps[4]? = some (.pointer (some ⟨g, 0, none⟩)) := by rw [ha]; exact (putSel_off rfl).trans rfl
      have e17 : a.tmps[17]? = some (.agg #[.int .u64 x.f0, .int .u64 x.f1, .int .i64 x.f2, .int .i64 x.f3, .int .u64 x.f4, .bool x.f5, .int .i64 x.f6, .slice Ax x.f7.length cx]) := by rw [ha]; exact putSel_on (e := (2, 17, .agg #[.int .u64 x.f0, .int .u64 x.f1, .int .i64 x.f2, .int .i64 x.f3, .int .u64 x.f4, .bool x.f5, .int .i64 x.f6, .slice Ax x.f7.length cx])) 2 rfl rfl (hon 2 (by kernel_rfl)) rfl
      replace ha := Aside0.mk ha
      have B0 := Aside0.mk Q_B0
      have ZQ := Aside0.mk Q_ZQ
      have ZN := Aside0.mk Q_ZN
      have ZZ := Aside0.mk (Q_ZZ hb_)
      have RX := Aside0.mk Q_RX
      have c0_ := blk_cell ZZ.out 0
      have c1_ := blk_cell ZZ.out 1
      have c2_ := blk_cell ZZ.out 2
      have c3_ := blk_cell ZZ.out 3
      have c4_ := blk_cell ZZ.out 4
      have c5_ := blk_cell ZZ.out 5
      have c6_ := blk_cell ZZ.out 6
      have c7_ := blk_cell ZZ.out 7
      have fr0_ := blk_frozen ZZ.out 0
      have fr1_ := blk_frozen ZZ.out 1
      have fr2_ := blk_frozen ZZ.out 2
      have fr3_ := blk_frozen ZZ.out 3
      have fr4_ := blk_frozen ZZ.out 4
      have fr5_ := blk_frozen ZZ.out 5
      have fr6_ := blk_frozen ZZ.out 6
      have fr7_ := blk_frozen ZZ.out 7
      refine skip_ (w1 := ?_) (by rfl) rfl ?_ ?_
      rotate_left
      · go_simp
        rfl
      refine hK.out _ _ ⟨(by rw [ha.out]; exact putSel_none (v := undef) rfl), (fill8 x Ax cx ZZ.out HG.out B0.out).1, ((fill8 x Ax cx ZZ.out HG.out B0.out).2.2 gq HNE.out.1).trans ZQ.out, ((fill8 x Ax cx ZZ.out HG.out B0.out).2.2 gb HNE.out.2).trans ZN.out, fun h0_ => absurd ((up_self b 10).symm.trans h0_) (by decide), Kd.R_step RX.out (fun k hk _ => (fill8 x Ax cx ZZ.out HG.out B0.out).2.2 k (Nat.ne_of_gt hk.1)), fun _ => (fill8 x Ax cx ZZ.out HG.out B0.out).2.1⟩
    refine steps_cons ?_ ?_
    · rintro b a w' ⟨ha, Q_B0, Q_ZQ, Q_ZN, Q_ZZ, Q_RX, Q_FIN⟩ hb_ hon hoff
      refine ⟨_, rfl, fun K hK => ?_⟩
      have e24 : a.tmps[24]? = some (.int .i64 (IntKind.i64.wrap (IntKind.u64.wrap (n - x.f1)))) := by rw [ha]; exact putSel_on (e := (9, 24, .int .i64 (IntKind.i64.wrap (IntKind.u64.wrap (n - x.f1))))) 9 rfl rfl (hon 9 (by kernel_rfl)) rfl
      replace ha := Aside0.mk ha
      have B0 := Aside0.mk Q_B0
      have ZQ := Aside0.mk Q_ZQ
      have ZN := Aside0.mk Q_ZN
      have RX := Aside0.mk Q_RX
      have FIN := Aside0.mk (Q_FIN (hon 10 (by kernel_rfl)))
      refine value_ (w1 := w') (v := .int .i64 (IntKind.i64.wrap (IntKind.u64.wrap (n - x.f1)))) (by rfl) rfl ?_ ?_
      · go_simp
        (try simp only [i64_w])
        try rfl
      refine hK.out _ _ ⟨(by rw [ha.out]; exact putSel_upk 10 hb_ rfl rfl rfl), Q_B0, Q_ZQ, Q_ZN, fun h0_ => absurd ((hon 10 (by kernel_rfl)).symm.trans h0_) (by decide), Q_RX, Q_FIN⟩
    refine steps_cons ?_ ?_
    · rintro b a w' ⟨ha, Q_B0, Q_ZQ, Q_ZN, Q_ZZ, Q_RX, Q_FIN⟩ hb_ hon hoff
      refine ⟨_, rfl, fun K hK => ?_⟩
      replace ha := Aside0.mk ha
      have B0 := Aside0.mk Q_B0
      have ZQ := Aside0.mk Q_ZQ
      have ZN := Aside0.mk Q_ZN
      have RX := Aside0.mk Q_RX
      have FIN := Aside0.mk (Q_FIN (hon 10 (by kernel_rfl)))
      refine value_ (w1 := w') (v := .bool true) (by rfl) rfl ?_ ?_
      · go_simp
        (try simp only [i64_w])
        try rfl
      refine hK.out _ _ ⟨(by rw [ha.out]; exact putSel_upk 11 hb_ rfl rfl rfl), Q_B0, Q_ZQ, Q_ZN, fun h0_ => absurd ((hon 10 (by kernel_rfl)).symm.trans h0_) (by decide), Q_RX, Q_FIN⟩
    exact steps_nil
  rintro b a w9 hall ⟨ha, Q_B0, Q_ZQ, Q_ZN, Q_ZZ, Q_RX, Q_FIN⟩
  clear B0 RX ZN ZQ ZZ
  have hb0_ := hall 0 (by kernel_rfl)
  have hb1_ := hall 1 (by kernel_rfl)
  have hb2_ := hall 2 (by kernel_rfl)
  have hb3_ := hall 3 (by kernel_rfl)
  have hb4_ := hall 4 (by kernel_rfl)
  have hb5_ := hall 5 (by kernel_rfl)
  have hb6_ := hall 6 (by kernel_rfl)
  have hb7_ := hall 7 (by kernel_rfl)
  have hb8_ := hall 8 (by kernel_rfl)
  have hb9_ := hall 9 (by kernel_rfl)
  have hb10_ := hall 10 (by kernel_rfl)
  have hb11_ := hall 11 (by kernel_rfl)
  have hb12_ := hall 12 (by kernel_rfl)
  subst ha
  simp only [putSel, hb0_, hb1_, hb2_, hb3_, hb4_, hb5_, hb6_, hb7_, hb8_, hb9_, hb10_, hb11_, hb12_, if_true, Act.put, List.setIfInBounds_toArray, List.set_cons_zero, List.set_cons_succ]
  have B0 := Aside0.mk Q_B0
  clear Q_B0
  have ZQ := Aside0.mk Q_ZQ
  clear Q_ZQ
  have ZN := Aside0.mk Q_ZN
  clear Q_ZN
  clear Q_ZZ
  have RX := Aside0.mk Q_RX
  clear Q_RX
  have FIN := Aside0.mk (Q_FIN hb10_)
  clear Q_FIN
  clear hall hb0_ hb1_ hb2_ hb3_ hb4_ hb5_ hb6_ hb7_ hb8_ hb9_ hb10_ hb11_ hb12_
  go_wp2_with fail
  (try simp only [Exit.inBlock, Exit.then])
  refine bodyPost_ret (results_ctt rfl _ _ g 29 _ (0, 0) _ _ _ rfl rfl rfl FIN.out Try.underlying29 rfl (by kernel_rfl)) rfl ?_
  obtain ⟨A8, c8, e, hl, hc⟩ := Kd.R_reads RX.out
  injection e with e1 _ e3
  subst e1 e3
  exact ⟨Ax, cx, rfl, hc, hl, B0.out⟩
end Go.Proofs.Ytaepbgieahedjaa.QS
namespace Go.Proofs.Ytaepbgieahedjaa.QS
set_option linter.unusedVariables false
set_option linter.unusedSimpArgs false
open Go.RowKit Go.Proofs.Ytaepbgieahedjaa.Hp Go.Proofs.YtaepbgieahedjaaW.PrintWords Go.Proofs.YtaepbgieahedjaaW.PrintLast Go.Proofs.YtaepbgieahedjaaW.PrintMore
open Go.Proofs.Ytaepbgieahedjaa.IP
section
variable {P : Program} {ops : Array Oper} {Q : Exit → Act → World → Prop}
theorem app_step {oi : Oper} {N : Option Tmp} {a : Act} {w : World} {K : Act → World → Prop} (hw : Region.wanted oi (yielded ops a.tmps) = true) (hN : oi.dst = N) {ts tx : Tmp} {t : TypeId} (ho : oi.op = .call { callee := .builtin .append, args := #[.tmp ts, .tmp tx], argTypes := #[t, t] })
    {v xv : Value} (hs : a.tmps[ts]? = some v) (hx : a.tmps[tx]? = some xv) {v' : Value} {w' : World} (hr : (Builtin.append_ #[t, t] oi.type #[v, xv]).run P w = .ok v' w') (h : K (a.put N v') w') :
    if Region.wanted oi (yielded ops a.tmps) = true then Oper.wp P oi a w K Q else K (a.put N undef) w := by
  rw [if_pos hw]
  subst hN
  have e1 : a.eval (.tmp ts) = v := by simp [Act.eval, Array.getD_eq_getD_getElem?, hs]
  have e2 : a.eval (.tmp tx) = xv := by simp [Act.eval, Array.getD_eq_getD_getElem?, hx]
  unfold Oper.wp execOp
  simp only [ho, resolve, invoke, builtin, Sem.run_bind, Sem.run_pure, Result.andThen_ok, List.map_toArray, List.map_cons, List.map_nil, e1, e2, hr]
  exact h
end
theorem int_app {W : World} {base : Nat} {v : Value} {xs : List Int} (ho : W.ownsRow base 3 1 v xs.length (nums .i64 xs)) (ad : Addr) (m c : Nat) (ys : List Int) (hm : ys.length = m) (h0 : 0 < m) (hc : ∀ (j : Nat) (u : Value), (nums .i64 ys)[j]? = some u → W.cell? (ad.add j) = some u) (hn : xs.length + m ≤ 100000) (hb : base ≤ W.heap.size) (ty : TypeId) (n : Nat) (hN : xs.length + m = n) :
    ∃ A' c' w', (Builtin.append_ #[27, 27] ty #[v, .slice (some ad) m c]).run Try.prog W = .ok (.slice A' n c') w' ∧ w'.ownsRow base 3 1 (.slice A' n c') (xs ++ ys).length (nums .i64 (xs ++ ys)) ∧ W.grownBy w' v.ownBlock ∧ ∀ k, (Value.slice A' n c').ownBlock = some k → v.ownBlock = some k ∨ W.heap.size ≤ k := by
  subst hN
  obtain ⟨v', w', h1, h2, h3, h4⟩ := app_any base ty 27 3 Try.underlying27 inf_int rfl (by decide) (by decide) (by decide) v xs.length (nums .i64 xs) ho ad m c (nums .i64 ys) (by rw [nums_length, hm, Nat.mul_one]) hc (by intro u hu; obtain ⟨x, _, rfl⟩ := List.mem_map.1 hu; rfl) hn hb
  obtain ⟨g, cap, rfl, _, _⟩ := h2.form (by omega)
  refine ⟨_, _, w', h1, ?_, h3, fun k hk => ?_⟩
  · rw [List.length_append, hm]
    have e : nums .i64 (xs ++ ys) = nums .i64 xs ++ nums .i64 ys := by unfold nums; rw [List.map_append]
    rw [e]
    exact h2
  · rcases h4 with h4 | h4
    · exact .inl (h4.symm.trans hk)
    · rw [h4] at hk
      exact .inr (Nat.le_of_eq (Option.some.inj hk))
theorem one_src {W : World} {gx : Nat} {y : Int} (h : W.heap[gx]? = some (.cells #[.int .i64 y] 3 (0, 0))) : ∀ (j : Nat) (u : Value), (nums .i64 [y])[j]? = some u → W.cell? ((⟨gx, 0, none⟩ : Addr).add j) = some u := by
  intro j u hu
  cases j with
  | zero => rw [add_at, blk_cell h]; exact hu
  | succ j => cases hu
def pagesOf (l : List R0) : List Int := l.flatMap fun x => x.f6 :: x.f7
theorem pages_succ {l : List R0} {i : Nat} {x : R0} (h : l[i]? = some x) : pagesOf (l.take (i + 1)) = pagesOf (l.take i) ++ [x.f6] ++ x.f7 := by
  unfold pagesOf
  rw [List.take_add_one, h, List.flatMap_append]
  simp
theorem pages_len (l : List R0) (h : ∀ x ∈ l, x.f7.length ≤ 14) : (pagesOf l).length ≤ l.length * 15 := by
  unfold pagesOf
  induction l with
  | nil => simp
  | cons a r ih =>
    rw [List.flatMap_cons, List.length_append, List.length_cons, List.length_cons, Nat.add_mul]
    have := h a (List.mem_cons_self ..)
    have := ih (fun x hx => h x (List.mem_cons_of_mem _ hx))
    omega
def PagesTo (W w' : World) (e : Ending) (l : List Int) : Prop := ∃ v, e = .returned v ∧ (Kd.int .i64).R 3 w' W.heap.size (fun k => W.heap.size ≤ k) v l ∧ Below W.heap.size W w'
def ipg5.T5 : Bool × List (List Nat × List Nat) := (true, [([], []), ([], []), ([1], [1]), ([2], [2]), ([0, 3], [0, 3]), ([], []), ([5], [5]), ([4, 6, 4], [4, 6]), ([7, 7, 0, 1, 2, 3, 4, 5, 6, 7], [0, 7])])
def ipg5.B5 : List Nat := [0, 0, 2, 6, 15, 0, 32, 127, 255]
theorem ipg5.tab5 : rtab .any (opsOf Try.f13 5) = ipg5.T5 := by kernel_rfl
theorem ipg5.bits5 : waitsOk ipg5.T5.2 ipg5.B5 = true := by kernel_rfl
set_option maxHeartbeats 4000000 in
set_option maxRecDepth 100000 in
theorem pages_calls {W : World} {base g0 : Nat} {l : List R0} (h : IX W base g0 l) (hn : l.length ≤ 1000) (hp : ∀ x ∈ l, 1 ≤ x.f7.length ∧ x.f7.length ≤ 14) : Calls Try.prog 13 #[.pointer (some ⟨g0, 0, none⟩)] W fun e w' => PagesTo W w' e (pagesOf l) := by
  have HS := Aside0.mk (all_calls h hn (fun x hx => by have := hp x hx; omega))
  have HN := Aside0.mk (And.intro hn hp)
  clear h hn hp
  go_enter Try.func13, Try.ntmps13
  go_upto_block 0 with (go_at_call 21; refine HS.out.mono ?_; rintro e w2 ⟨v, rfl, hR, hb⟩; obtain ⟨A, cp, e1, hcl, hC⟩ := Kd.R_reads hR; subst e1; have HC := Aside0.mk hC; have HB := Aside0.mk hb; clear hb hR hC hcl)
  clear HS
  go_wp2_with fail
  go_loopg [3, 9] (l.length + 1) (fun kq v3 v9 w' => ∃ i : Nat, v9 = .int .i64 (i : Int) ∧ Aside0 (i ≤ l.length ∧ kq + i = l.length + 1) ∧ Aside0 (w'.ownsRow w2.heap.size 3 1 v3 (pagesOf (l.take i)).length (nums .i64 (pagesOf (l.take i)))) ∧ Aside0 (Below w2.heap.size w2 w'))
  case atStart => exact ⟨0, rfl, ⟨Nat.zero_le _, rfl⟩, ⟨World.ownsRow_nil _ _ _ _⟩, ⟨Below.refl _ _⟩⟩
  case round =>
    obtain ⟨i, rfl, HI, HO, BB⟩ := hrel
    by_cases hi : i < l.length
    case neg =>
      have hie : i = l.length := by have := HI.out; omega
      subst hie
      have t1 : decide ((l.length : Int) < (l.length : Int)) = false := decide_eq_false (by omega)
      have ho := HO.out
      rw [List.take_length] at ho
      replace ho := Aside0.mk ho
      clear HO hi
      go_wp2_with fail
      go_ret
      have hsz : W.heap.size ≤ w2.heap.size := HB.out.size
      exact ⟨_, rfl, Kd.R_lower (Kd.R_of_own (enc := Value.int .i64) ho.out (fun k hk => Nat.le_trans hsz (ho.out.lt k hk).1)) hsz, below_then HB.out HB.out.size BB.out⟩
    case pos =>
      have t1 : decide ((i : Int) < (l.length : Int)) = true := decide_eq_true (by omega)
      have t2 : decide (i < l.length) = true := decide_eq_true hi
      obtain ⟨ad, Ap, cpp, rfl, hx0, hx1, hx2, hx3, hx4, hx5, hx6, hx7, hlp, hCp⟩ := at_T29 HC.out (i : Int) (by omega) (by omega)
      obtain ⟨x, hxe⟩ : ∃ x, x = l[i] := ⟨_, rfl⟩
      have hrd : rd_T29 l (i : Int) = x := by
        unfold rd_T29
        rw [hxe, Int.toNat_natCast, List.getD_eq_getElem?_getD, List.getElem?_eq_getElem hi]
        rfl
      rw [hrd] at hx0 hx1 hx2 hx3 hx4 hx5 hx6 hx7 hlp hCp
      rw [Int.toNat_natCast] at hx0 hx1 hx2 hx3 hx4 hx5 hx6 hx7
      replace hx0 := pw_cell_below BB.out hx0
      replace hx1 := pw_cell_below BB.out hx1
      replace hx2 := pw_cell_below BB.out hx2
      replace hx3 := pw_cell_below BB.out hx3
      replace hx4 := pw_cell_below BB.out hx4
      replace hx5 := pw_cell_below BB.out hx5
      replace hx6 := pw_cell_below BB.out hx6
      replace hx7 := pw_cell_below BB.out hx7
      have hxp := HN.out.2 x (by rw [hxe]; exact List.getElem_mem hi)
      have HXI : Aside0 (l[i]? = some x) := ⟨by rw [List.getElem?_eq_getElem hi, hxe]⟩
      have p1 := eq_true (show (0 : Int) ≤ (i : Int) by omega)
      have q1 := eq_true (show (i : Int) < (l.length : Int) by omega)
      obtain ⟨acc, hacc⟩ : ∃ acc, acc = pagesOf (l.take i) := ⟨_, rfl⟩
      rw [← hacc] at HO
      have HAL : Aside0 (acc.length ≤ 15000) := ⟨by
        rw [hacc]
        have h1 := pages_len (l.take i) (fun y hy => (HN.out.2 y (List.mem_of_mem_take hy)).2)
        have h2 := List.length_take_le i l
        have h3 := HN.out.1
        have h4 : (l.take i).length ≤ 1000 := by rw [List.length_take]; omega
        omega⟩
      have HAS : Aside0 (pagesOf (l.take (i + 1)) = acc ++ [x.f6] ++ x.f7) := ⟨by rw [hacc]; exact pages_succ HXI.out⟩
      obtain ⟨adp, hadp⟩ : ∃ ad, Ap = some ad := by
        obtain ⟨ad, e, _⟩ := (Kd.reads_of_C (d := (0 : Int)) hCp).2.2 (by omega)
        exact ⟨ad, e⟩
      subst hadp
      obtain ⟨g5, hg5⟩ : ∃ g, g = wr.heap.size := ⟨_, rfl⟩
      have hbx := heap_alloc_new wr (.cells #[.int .u64 x.f0, .int .u64 x.f1, .int .i64 x.f2, .int .i64 x.f3, .int .u64 x.f4, .bool x.f5, .int .i64 x.f6, .slice (some adp) x.f7.length cpp] 29)
      have hbb := below_alloc (Below.refl wr.heap.size wr) (.cells #[.int .u64 x.f0, .int .u64 x.f1, .int .i64 x.f2, .int .i64 x.f3, .int .u64 x.f4, .bool x.f5, .int .i64 x.f6, .slice (some adp) x.f7.length cpp] 29)
      have HI2 := Aside0.mk hi
      have HU : Aside0 (∀ k, u3.ownBlock = some k → k ≠ g5) := ⟨fun k hk => by have := (HO.out.lt k hk).2; omega⟩
      have HC2 := Aside0.mk hCp
      have HO1 := Aside0.mk (HO.out.alloc (.cells #[.int .u64 x.f0, .int .u64 x.f1, .int .i64 x.f2, .int .i64 x.f3, .int .u64 x.f4, .bool x.f5, .int .i64 x.f6, .slice (some adp) x.f7.length cpp] 29))
      have HXP := Aside0.mk hxp
      have HLP := Aside0.mk hlp
      clear hlp hCp hrd hxp hi hxe
      go_upto_region 5 with fail
      generalize wr.alloc (.cells #[.int .u64 x.f0, .int .u64 x.f1, .int .i64 x.f2, .int .i64 x.f3, .int .u64 x.f4, .bool x.f5, .int .i64 x.f6, .slice (some adp) x.f7.length cpp] 29) = W1 at hbx hbb HO1 ⊢
      rw [← hg5] at hbx ⊢
      clear hx0 hx1 hx2 hx3 hx4 hx5 hx6 hx7 p1 q1 t1 t2 HO
      have HSZ : Aside0 (w2.heap.size ≤ W1.heap.size) := ⟨Nat.le_trans BB.out.size hbb.size⟩
      have BX := Aside0.mk (below_then (below_then BB.out BB.out.size hbb) (Nat.le_trans BB.out.size hbb.size) (below_drew1 (Below.refl W1.heap.size W1)))
      have OR := Aside0.mk (HO1.out.kept (grown_of_below (below_drew1 (Below.refl W1.heap.size W1)) none) (by cases h : u3.ownBlock with | none => exact .inl rfl | some k => exact .inr (by simp)))
      have ZR := Aside0.mk (show W1.drew.heap[g5]? = some (.cells #[.int .u64 x.f0, .int .u64 x.f1, .int .i64 x.f2, .int .i64 x.f3, .int .u64 x.f4, .bool x.f5, .int .i64 x.f6, .slice (some adp) x.f7.length cpp] 29 (0, 0)) from hbx)
      obtain ⟨n1, hn1⟩ : ∃ n, acc.length + 1 = n := ⟨_, rfl⟩
      obtain ⟨n2, hn2⟩ : ∃ n, (acc ++ [x.f6]).length + x.f7.length = n := ⟨_, rfl⟩
      have HN1 := Aside0.mk hn1
      have HN2 := Aside0.mk hn2
      have SZ := Aside0.mk (show W1.heap.size ≤ W1.drew.heap.size from Nat.le_refl _)
      have HCW := Aside0.mk (And.intro (blk_lt hbx) hbb)
      have HCC : Aside0 (∀ w' : World, Below w2.heap.size w2 w' → ∀ (j : Nat) (u : Value), (nums .i64 x.f7)[j]? = some u → w'.cell? (adp.add j) = some u) := ⟨fun w' hb j u hu => by
        unfold nums at hu
        rw [List.getElem?_map] at hu
        obtain ⟨y, hy, rfl⟩ := Option.map_eq_some_iff.1 hu
        have hj := (List.getElem?_eq_some_iff.1 hy).1
        obtain ⟨ad', he, hc⟩ := (Kd.reads_of_C (d := (0 : Int)) (Kd.C_below HC2.out hb)).2.2 (by omega)
        obtain rfl := Option.some.inj he
        rw [hc j hj, List.getD_eq_getElem?_getD, hy]
        rfl⟩
      have GX := True.intro
      have ON := True.intro
      have FIN := True.intro
      have HLL : Aside0 ((acc ++ [x.f6]).length + x.f7.length ≤ 100000 ∧ acc.length + 1 ≤ 100000 ∧ 0 < x.f7.length) := ⟨by have := HAL.out; have := HXP.out; rw [List.length_append, List.length_singleton]; omega⟩
      clear hbx hbb hn1 hn2 hg5 hacc
      refine start_ (n := 9) (S := fun w' => True) (ds := []) #[false, false, false, false, false, false, false, false, false] (by kernel_rfl) rfl rfl trivial (fun hHeld => ?_)
      refine with_tabW ipg5.tab5 ipg5.bits5 (fun HT_ HW_ => ?_)
      generalize W1.drew = wz at BX SZ OR ZR hHeld ⊢
      refine inv_at [0, 1, 2, 3, 4, 5, 6, 7, 8] (fun a0_ b a w' => ∃ (gx : Nat) (A17 : Option Addr) (c17 : Nat) (A20 : Option Addr) (c20 : Nat) (m3_ : Value) (m4_ : Value) (m7_ : Value) (m8_ : Value), a = putSel a0_ b [(0, 13, u3), (1, 14, .pointer (some ⟨g5, 6, none⟩)), (2, 15, .int .i64 x.f6), (3, 16, m3_), (4, 17, m4_), (5, 18, .pointer (some ⟨g5, 7, none⟩)), (6, 19, .slice (some adp) x.f7.length cpp), (7, 20, m7_), (8, 3, m8_)] ∧ (Below w2.heap.size w2 w') ∧ (W1.heap.size ≤ w'.heap.size) ∧ (b 4 = false → w'.ownsRow w2.heap.size 3 1 u3 acc.length (nums .i64 acc)) ∧ (w'.heap[g5]? = some (.cells #[.int .u64 x.f0, .int .u64 x.f1, .int .i64 x.f2, .int .i64 x.f3, .int .u64 x.f4, .bool x.f5, .int .i64 x.f6, .slice (some adp) x.f7.length cpp] 29 (0, 0))) ∧ (b 3 = true → b 4 = false → w'.heap[gx]? = some (.cells #[.int .i64 x.f6] 3 (0, 0))) ∧ (b 4 = true → b 7 = false → (w'.ownsRow w2.heap.size 3 1 (.slice A17 n1 c17) (acc ++ [x.f6]).length (nums .i64 (acc ++ [x.f6])) ∧ ∀ k, (Value.slice A17 n1 c17).ownBlock = some k → k ≠ g5)) ∧ (b 7 = true → w'.ownsRow w2.heap.size 3 1 (.slice A20 n2 c20) (acc ++ [x.f6] ++ x.f7).length (nums .i64 (acc ++ [x.f6] ++ x.f7))) ∧ (b 3 = true → (m3_ : Value) = .slice (some ⟨gx, 0, none⟩) 1 1) ∧ (b 4 = true → (m4_ : Value) = .slice A17 n1 c17) ∧ (b 7 = true → (m7_ : Value) = .slice A20 n2 c20) ∧ (b 8 = true → (m8_ : Value) = .slice A20 n2 c20)) HT_.out HW_.out (by kernel_rfl) (by kernel_rfl) ?_ ?_ ?_
      · exact ⟨0, none, 0, none, 0, .bool false, .bool false, .bool false, .bool false, by simp only [putSel, Bool.false_eq_true, if_false], BX.out, SZ.out, fun _ => OR.out, ZR.out, fun h_ => absurd h_ (by decide), fun h_ => absurd h_ (by decide), fun h_ => absurd h_ (by decide), fun h_ => absurd h_ (by decide), fun h_ => absurd h_ (by decide), fun h_ => absurd h_ (by decide), fun h_ => absurd h_ (by decide)⟩
      · skip
        clear BX OR SZ ZR
        refine steps_cons ?_ ?_
        · rintro b a w' ⟨gx, A17, c17, A20, c20, m3_, m4_, m7_, m8_, ha, Q_BX, Q_SZ, Q_OR, Q_ZR, Q_GX, Q_ON, Q_FIN, Q_X3_, Q_X4_, Q_X7_, Q_X8_⟩ hb_ hon hoff
          refine ⟨_, rfl, fun K hK => ?_⟩
          have e3 : a.tmps[3]? = some (u3) := by rw [ha]; exact (putSel_not (hoff 8 (by kernel_rfl)) rfl).trans rfl
          replace ha := Aside0.mk ha
          have BX := Aside0.mk Q_BX
          have SZ := Aside0.mk Q_SZ
          have OR := Aside0.mk (Q_OR (hoff 4 (by kernel_rfl)))
          have ZR := Aside0.mk Q_ZR
          refine value_ (w1 := w') (v := u3) (by rfl) rfl ?_ ?_
          · go_simp
            (try simp only [i64_w])
            try rfl
          refine hK.out _ _ ⟨gx, A17, c17, A20, c20, m3_, m4_, m7_, m8_, (by rw [ha.out]; exact putSel_upk 0 hb_ rfl rfl rfl), Q_BX, Q_SZ, Q_OR, Q_ZR, Q_GX, fun h0_ _ => absurd ((hoff 4 (by kernel_rfl)).symm.trans h0_) (by decide), fun h0_ => absurd ((hoff 7 (by kernel_rfl)).symm.trans h0_) (by decide), Q_X3_, fun h0_ => absurd ((hoff 4 (by kernel_rfl)).symm.trans h0_) (by decide), fun h0_ => absurd ((hoff 7 (by kernel_rfl)).symm.trans h0_) (by decide), fun h0_ => absurd ((hoff 8 (by kernel_rfl)).symm.trans h0_) (by decide)⟩
        refine steps_cons ?_ ?_
        · rintro b a w' ⟨gx, A17, c17, A20, c20, m3_, m4_, m7_, m8_, ha, Q_BX, Q_SZ, Q_OR, Q_ZR, Q_GX, Q_ON, Q_FIN, Q_X3_, Q_X4_, Q_X7_, Q_X8_⟩ hb_ hon hoff
          refine ⟨_, rfl, fun K hK => ?_⟩
          have e5 : a.tmps[5]? = some (.pointer (some ⟨g5, 0, none⟩)) := by rw [ha]; exact (putSel_off rfl).trans rfl
          replace ha := Aside0.mk ha
          have BX := Aside0.mk Q_BX
          have SZ := Aside0.mk Q_SZ
          have OR := Aside0.mk (Q_OR (hoff 4 (by kernel_rfl)))
          have ZR := Aside0.mk Q_ZR
          refine value_ (w1 := w') (v := .pointer (some ⟨g5, 6, none⟩)) (by rfl) rfl ?_ ?_
          · go_simp
            (try simp only [i64_w])
            try rfl
          refine hK.out _ _ ⟨gx, A17, c17, A20, c20, m3_, m4_, m7_, m8_, (by rw [ha.out]; exact putSel_upk 1 hb_ rfl rfl rfl), Q_BX, Q_SZ, Q_OR, Q_ZR, fun h0_ _ => absurd ((hoff 3 (by kernel_rfl)).symm.trans h0_) (by decide), fun h0_ _ => absurd ((hoff 4 (by kernel_rfl)).symm.trans h0_) (by decide), fun h0_ => absurd ((hoff 7 (by kernel_rfl)).symm.trans h0_) (by decide), fun h0_ => absurd ((hoff 3 (by kernel_rfl)).symm.trans h0_) (by decide), fun h0_ => absurd ((hoff 4 (by kernel_rfl)).symm.trans h0_) (by decide), fun h0_ => absurd ((hoff 7 (by kernel_rfl)).symm.trans h0_) (by decide), fun h0_ => absurd ((hoff 8 (by kernel_rfl)).symm.trans h0_) (by decide)⟩
        refine steps_cons ?_ ?_
        · rintro b a w' ⟨gx, A17, c17, A20, c20, m3_, m4_, m7_, m8_, ha, Q_BX, Q_SZ, Q_OR, Q_ZR, Q_GX, Q_ON, Q_FIN, Q_X3_, Q_X4_, Q_X7_, Q_X8_⟩ hb_ hon hoff
          refine ⟨_, rfl, fun K hK => ?_⟩
          have e14 : a.tmps[14]? = some (.pointer (some ⟨g5, 6, none⟩)) := by rw [ha]; exact putSel_on (e := (1, 14, .pointer (some ⟨g5, 6, none⟩))) 1 rfl rfl (hon 1 (by kernel_rfl)) rfl
          replace ha := Aside0.mk ha
          have BX := Aside0.mk Q_BX
          have SZ := Aside0.mk Q_SZ
          have OR := Aside0.mk (Q_OR (hoff 4 (by kernel_rfl)))
          have ZR := Aside0.mk Q_ZR
          have c0_ := blk_cell (ZR.out) 6
          refine value_ (w1 := w') (v := .int .i64 x.f6) (by rfl) rfl ?_ ?_
          · go_simp
            (try simp only [i64_w])
            try rfl
          refine hK.out _ _ ⟨gx, A17, c17, A20, c20, m3_, m4_, m7_, m8_, (by rw [ha.out]; exact putSel_upk 2 hb_ rfl rfl rfl), Q_BX, Q_SZ, Q_OR, Q_ZR, fun h0_ _ => absurd ((hoff 3 (by kernel_rfl)).symm.trans h0_) (by decide), fun h0_ _ => absurd ((hoff 4 (by kernel_rfl)).symm.trans h0_) (by decide), fun h0_ => absurd ((hoff 7 (by kernel_rfl)).symm.trans h0_) (by decide), fun h0_ => absurd ((hoff 3 (by kernel_rfl)).symm.trans h0_) (by decide), fun h0_ => absurd ((hoff 4 (by kernel_rfl)).symm.trans h0_) (by decide), fun h0_ => absurd ((hoff 7 (by kernel_rfl)).symm.trans h0_) (by decide), fun h0_ => absurd ((hoff 8 (by kernel_rfl)).symm.trans h0_) (by decide)⟩
        refine steps_cons ?_ ?_
        · rintro b a w' ⟨gx, A17, c17, A20, c20, m3_, m4_, m7_, m8_, ha, Q_BX, Q_SZ, Q_OR, Q_ZR, Q_GX, Q_ON, Q_FIN, Q_X3_, Q_X4_, Q_X7_, Q_X8_⟩ hb_ hon hoff
          refine ⟨_, rfl, fun K hK => ?_⟩
          have e15 : a.tmps[15]? = some (.int .i64 x.f6) := by rw [ha]; exact putSel_on (e := (2, 15, .int .i64 x.f6)) 2 rfl rfl (hon 2 (by kernel_rfl)) rfl
          replace ha := Aside0.mk ha
          have BX := Aside0.mk Q_BX
          have SZ := Aside0.mk Q_SZ
          have OR := Aside0.mk (Q_OR (hoff 4 (by kernel_rfl)))
          have ZR := Aside0.mk Q_ZR
          refine value_ (w1 := w'.alloc (Obj.cells #[.int .i64 x.f6] 3)) (v := .slice (some ⟨w'.heap.size, 0, none⟩) 1 1) (by rfl) rfl (by first | (go_simp; done) | (go_simp; rfl)) ?_
          have hb := below_alloc (Below.refl w'.heap.size w') (Obj.cells #[.int .i64 x.f6] 3)
          refine hK.out _ _ ⟨w'.heap.size, A17, c17, A20, c20, (.slice (some ⟨w'.heap.size, 0, none⟩) 1 1), m4_, m7_, m8_, (by rw [ha.out]; exact putSel_upk 3 hb_ rfl rfl rfl), below_then BX.out BX.out.size hb, Nat.le_trans SZ.out hb.size, fun _ => OR.out.alloc _, blk_below ZR.out hb, fun _ _ => heap_alloc_new w' _, fun h0_ _ => absurd ((hoff 4 (by kernel_rfl)).symm.trans h0_) (by decide), fun h0_ => absurd ((hoff 7 (by kernel_rfl)).symm.trans h0_) (by decide), fun _ => rfl, fun h0_ => absurd ((hoff 4 (by kernel_rfl)).symm.trans h0_) (by decide), fun h0_ => absurd ((hoff 7 (by kernel_rfl)).symm.trans h0_) (by decide), fun h0_ => absurd ((hoff 8 (by kernel_rfl)).symm.trans h0_) (by decide)⟩
        refine steps_cons ?_ ?_
        · rintro b a w' ⟨gx, A17, c17, A20, c20, m3_, m4_, m7_, m8_, ha, Q_BX, Q_SZ, Q_OR, Q_ZR, Q_GX, Q_ON, Q_FIN, Q_X3_, Q_X4_, Q_X7_, Q_X8_⟩ hb_ hon hoff
          refine ⟨_, rfl, fun K hK => ?_⟩
          have e13 : a.tmps[13]? = some (u3) := by rw [ha]; exact putSel_on (e := (0, 13, u3)) 0 rfl rfl (hon 0 (by kernel_rfl)) rfl
          have e16 : a.tmps[16]? = some (m3_) := by rw [ha]; exact putSel_on (e := (3, 16, m3_)) 3 rfl rfl (hon 3 (by kernel_rfl)) rfl
          rw [Q_X3_ (hon 3 (by kernel_rfl))] at e16
          replace ha := Aside0.mk ha
          have BX := Aside0.mk Q_BX
          have SZ := Aside0.mk Q_SZ
          have OR := Aside0.mk (Q_OR hb_)
          have ZR := Aside0.mk Q_ZR
          have GX := Aside0.mk (Q_GX (hon 3 (by kernel_rfl)) hb_)
          obtain ⟨A_, c_, w2_, hr_, ho_, hg_, hk_⟩ := int_app OR.out ⟨gx, 0, none⟩ 1 1 [x.f6] rfl (by decide) (one_src GX.out) HLL.out.2.1 BX.out.size 27 n1 HN1.out
          refine app_step (by rfl) rfl rfl e13 e16 hr_ ?_
          refine hK.out _ _ ⟨gx, A_, c_, A20, c20, m3_, (.slice A_ n1 c_), m7_, m8_, (by rw [ha.out]; exact putSel_upk 4 hb_ rfl rfl rfl), pw_below_grown BX.out _ BX.out.size hg_ (fun k hk => (OR.out.lt k hk).1), Nat.le_trans SZ.out hg_.size, fun h0_ => absurd ((up_self b 4).symm.trans h0_) (by decide), blk_grown ZR.out hg_ (fun e_ => HU.out g5 e_.symm rfl), fun _ h1_ => absurd ((up_self b 4).symm.trans h1_) (by decide), fun _ _ => ⟨ho_, fun k hk => (hk_ k hk).elim (HU.out k) (fun h => Nat.ne_of_gt (Nat.lt_of_lt_of_le HCW.out.1 (Nat.le_trans SZ.out h)))⟩, fun h0_ => absurd ((hoff 7 (by kernel_rfl)).symm.trans h0_) (by decide), Q_X3_, fun _ => rfl, fun h0_ => absurd ((hoff 7 (by kernel_rfl)).symm.trans h0_) (by decide), fun h0_ => absurd ((hoff 8 (by kernel_rfl)).symm.trans h0_) (by decide)⟩
        refine steps_cons ?_ ?_
        · rintro b a w' ⟨gx, A17, c17, A20, c20, m3_, m4_, m7_, m8_, ha, Q_BX, Q_SZ, Q_OR, Q_ZR, Q_GX, Q_ON, Q_FIN, Q_X3_, Q_X4_, Q_X7_, Q_X8_⟩ hb_ hon hoff
          refine ⟨_, rfl, fun K hK => ?_⟩
          have e5 : a.tmps[5]? = some (.pointer (some ⟨g5, 0, none⟩)) := by rw [ha]; exact (putSel_off rfl).trans rfl
          replace ha := Aside0.mk ha
          have BX := Aside0.mk Q_BX
          have SZ := Aside0.mk Q_SZ
          have ZR := Aside0.mk Q_ZR
          refine value_ (w1 := w') (v := .pointer (some ⟨g5, 7, none⟩)) (by rfl) rfl ?_ ?_
          · go_simp
            (try simp only [i64_w])
            try rfl
          refine hK.out _ _ ⟨gx, A17, c17, A20, c20, m3_, m4_, m7_, m8_, (by rw [ha.out]; exact putSel_upk 5 hb_ rfl rfl rfl), Q_BX, Q_SZ, Q_OR, Q_ZR, Q_GX, Q_ON, fun h0_ => absurd ((hoff 7 (by kernel_rfl)).symm.trans h0_) (by decide), Q_X3_, Q_X4_, fun h0_ => absurd ((hoff 7 (by kernel_rfl)).symm.trans h0_) (by decide), fun h0_ => absurd ((hoff 8 (by kernel_rfl)).symm.trans h0_) (by decide)⟩
        refine steps_cons ?_ ?_
        · rintro b a w' ⟨gx, A17, c17, A20, c20, m3_, m4_, m7_, m8_, ha, Q_BX, Q_SZ, Q_OR, Q_ZR, Q_GX, Q_ON, Q_FIN, Q_X3_, Q_X4_, Q_X7_, Q_X8_⟩ hb_ hon hoff
          refine ⟨_, rfl, fun K hK => ?_⟩
          have e18 : a.tmps[18]? = some (.pointer (some ⟨g5, 7, none⟩)) := by rw [ha]; exact putSel_on (e := (5, 18, .pointer (some ⟨g5, 7, none⟩))) 5 rfl rfl (hon 5 (by kernel_rfl)) rfl
          replace ha := Aside0.mk ha
          have BX := Aside0.mk Q_BX
          have SZ := Aside0.mk Q_SZ
          have ZR := Aside0.mk Q_ZR
          have c0_ := blk_cell (ZR.out) 7
          refine value_ (w1 := w') (v := .slice (some adp) x.f7.length cpp) (by rfl) rfl ?_ ?_
          · go_simp
            (try simp only [i64_w])
            try rfl
          refine hK.out _ _ ⟨gx, A17, c17, A20, c20, m3_, m4_, m7_, m8_, (by rw [ha.out]; exact putSel_upk 6 hb_ rfl rfl rfl), Q_BX, Q_SZ, Q_OR, Q_ZR, Q_GX, Q_ON, fun h0_ => absurd ((hoff 7 (by kernel_rfl)).symm.trans h0_) (by decide), Q_X3_, Q_X4_, fun h0_ => absurd ((hoff 7 (by kernel_rfl)).symm.trans h0_) (by decide), fun h0_ => absurd ((hoff 8 (by kernel_rfl)).symm.trans h0_) (by decide)⟩
        refine steps_cons ?_ ?_
        · rintro b a w' ⟨gx, A17, c17, A20, c20, m3_, m4_, m7_, m8_, ha, Q_BX, Q_SZ, Q_OR, Q_ZR, Q_GX, Q_ON, Q_FIN, Q_X3_, Q_X4_, Q_X7_, Q_X8_⟩ hb_ hon hoff
          refine ⟨_, rfl, fun K hK => ?_⟩
          have e17 : a.tmps[17]? = some (m4_) := by rw [ha]; exact putSel_on (e := (4, 17, m4_)) 4 rfl rfl (hon 4 (by kernel_rfl)) rfl
          rw [Q_X4_ (hon 4 (by kernel_rfl))] at e17
          have e19 : a.tmps[19]? = some (.slice (some adp) x.f7.length cpp) := by rw [ha]; exact putSel_on (e := (6, 19, .slice (some adp) x.f7.length cpp)) 6 rfl rfl (hon 6 (by kernel_rfl)) rfl
          replace ha := Aside0.mk ha
          have BX := Aside0.mk Q_BX
          have SZ := Aside0.mk Q_SZ
          have ZR := Aside0.mk Q_ZR
          have ON := Aside0.mk (Q_ON (hon 4 (by kernel_rfl)) hb_)
          obtain ⟨A_, c_, w2_, hr_, ho_, hg_, hk_⟩ := int_app ON.out.1 adp x.f7.length cpp x.f7 rfl HLL.out.2.2 (HCC.out w' BX.out) HLL.out.1 BX.out.size 27 n2 HN2.out
          refine app_step (by rfl) rfl rfl e17 e19 hr_ ?_
          refine hK.out _ _ ⟨gx, A17, c17, A_, c_, m3_, m4_, (.slice A_ n2 c_), m8_, (by rw [ha.out]; exact putSel_upk 7 hb_ rfl rfl rfl), pw_below_grown BX.out _ BX.out.size hg_ (fun k hk => (ON.out.1.lt k hk).1), Nat.le_trans SZ.out hg_.size, fun h0_ => absurd ((hon 4 (by kernel_rfl)).symm.trans h0_) (by decide), blk_grown ZR.out hg_ (fun e_ => ON.out.2 g5 e_.symm rfl), fun _ h1_ => absurd ((hon 4 (by kernel_rfl)).symm.trans h1_) (by decide), fun _ h1_ => absurd ((up_self b 7).symm.trans h1_) (by decide), fun _ => ho_, Q_X3_, Q_X4_, fun _ => rfl, fun h0_ => absurd ((hoff 8 (by kernel_rfl)).symm.trans h0_) (by decide)⟩
        refine steps_cons ?_ ?_
        · rintro b a w' ⟨gx, A17, c17, A20, c20, m3_, m4_, m7_, m8_, ha, Q_BX, Q_SZ, Q_OR, Q_ZR, Q_GX, Q_ON, Q_FIN, Q_X3_, Q_X4_, Q_X7_, Q_X8_⟩ hb_ hon hoff
          refine ⟨_, rfl, fun K hK => ?_⟩
          have e20 : a.tmps[20]? = some (m7_) := by rw [ha]; exact putSel_on (e := (7, 20, m7_)) 7 rfl rfl (hon 7 (by kernel_rfl)) rfl
          rw [Q_X7_ (hon 7 (by kernel_rfl))] at e20
          replace ha := Aside0.mk ha
          have BX := Aside0.mk Q_BX
          have SZ := Aside0.mk Q_SZ
          have ZR := Aside0.mk Q_ZR
          have FIN := Aside0.mk (Q_FIN (hon 7 (by kernel_rfl)))
          refine value_ (w1 := w') (v := .slice A20 n2 c20) (by rfl) rfl ?_ ?_
          · go_simp
            (try simp only [i64_w])
            try rfl
          refine hK.out _ _ ⟨gx, A17, c17, A20, c20, m3_, m4_, m7_, (.slice A20 n2 c20), (by rw [ha.out]; exact putSel_upk 8 hb_ rfl rfl rfl), Q_BX, Q_SZ, fun h0_ => absurd ((hon 4 (by kernel_rfl)).symm.trans h0_) (by decide), Q_ZR, fun _ h1_ => absurd ((hon 4 (by kernel_rfl)).symm.trans h1_) (by decide), fun _ h1_ => absurd ((hon 7 (by kernel_rfl)).symm.trans h1_) (by decide), Q_FIN, Q_X3_, Q_X4_, Q_X7_, fun _ => rfl⟩
        exact steps_nil
      rintro b a w9 hall ⟨gx, A17, c17, A20, c20, m3_, m4_, m7_, m8_, ha, Q_BX, Q_SZ, Q_OR, Q_ZR, Q_GX, Q_ON, Q_FIN, Q_X3_, Q_X4_, Q_X7_, Q_X8_⟩
      clear BX OR SZ ZR
      have hb0_ := hall 0 (by kernel_rfl)
      have hb1_ := hall 1 (by kernel_rfl)
      have hb2_ := hall 2 (by kernel_rfl)
      have hb3_ := hall 3 (by kernel_rfl)
      have hb4_ := hall 4 (by kernel_rfl)
      have hb5_ := hall 5 (by kernel_rfl)
      have hb6_ := hall 6 (by kernel_rfl)
      have hb7_ := hall 7 (by kernel_rfl)
      have hb8_ := hall 8 (by kernel_rfl)
      subst ha
      obtain rfl := Q_X3_ hb3_
      obtain rfl := Q_X4_ hb4_
      obtain rfl := Q_X7_ hb7_
      obtain rfl := Q_X8_ hb8_
      simp only [putSel, hb0_, hb1_, hb2_, hb3_, hb4_, hb5_, hb6_, hb7_, hb8_, if_true, Act.put, List.setIfInBounds_toArray, List.set_cons_zero, List.set_cons_succ]
      have BX := Aside0.mk Q_BX
      clear Q_BX
      have SZ := Aside0.mk Q_SZ
      clear Q_SZ
      clear Q_OR
      have ZR := Aside0.mk Q_ZR
      clear Q_ZR
      clear Q_GX
      clear Q_ON
      have FIN := Aside0.mk (Q_FIN hb7_)
      clear Q_FIN
      clear hall hb0_ hb1_ hb2_ hb3_ hb4_ hb5_ hb6_ hb7_ hb8_
      have t3 : IntKind.i64.wrap ((i : Int) + 1) = ((i + 1 : Nat) : Int) := by have := HI2.out; have := HN.out.1; rw [i64_w]; unfold wrap64; omega
      go_wp2_with fail
      go_roundg (l.length - i)
      case measure => have := HI.out; have := HI2.out; omega
      case rel => exact ⟨i + 1, by first | rfl | (rw [← i64_w, t3]) | (simp; unfold wrap64; have := HI2.out; have := HN.out.1; omega), ⟨by have := HI2.out; omega, by have := HI.out; have := HI2.out; omega⟩, ⟨by rw [HAS.out]; exact FIN.out⟩, BX⟩
end Go.Proofs.Ytaepbgieahedjaa.QS
namespace Go.Proofs.Ytaepbgieahedjaa.QS
set_option linter.unusedVariables false
set_option linter.unusedSimpArgs false
open Go.RowKit Go.Proofs.Ytaepbgieahedjaa.Hp Go.Proofs.YtaepbgieahedjaaW.PrintWords Go.Proofs.YtaepbgieahedjaaW.PrintLast Go.Proofs.YtaepbgieahedjaaW.PrintMore
open Go.Proofs.Ytaepbgieahedjaa.IP
set_option maxHeartbeats 4000000 in
set_option maxRecDepth 100000 in
theorem new_one (x : R0) (A : Option Addr) (c : Nat) (w : World) (hC : Kd.C k29 w A 1 [x]) (hp : x.f7.length ≤ 1000) (hm : mayB x = true) : Calls Try.prog 7 #[.slice A 1 c] w fun e w' => ∃ g, e = .returned (.pointer (some ⟨g, 0, none⟩)) ∧ IX w' w.heap.size g [x] ∧ Below w.heap.size w w' := by
  have hz := heap_alloc_new w (.cells #[.slice none 0 0] 57)
  have hb := below_alloc (Below.refl w.heap.size w) (.cells #[.slice none 0 0] 57)
  obtain ⟨g, hg⟩ : ∃ g, g = w.heap.size := ⟨_, rfl⟩
  have kb : ∀ W : World, (Instr.build 57 #[]).run Try.prog W = .ok (.agg #[.slice none 0 0]) W := fun W => by kernel_rfl
  have HC := Aside0.mk hC
  have HXM := Aside0.mk (And.intro hp hm)
  clear hC hp hm
  go_enter Try.func7, Try.ntmps7
  go_upto_region 2 with fail
  generalize w.alloc (.cells #[.slice none 0 0] 57) = W1 at hz hb ⊢
  rw [← hg] at hz ⊢
  have HB := Aside0.mk hb
  have HX : Aside0 (IX W1 w.heap.size g ([x].take 0)) := ⟨none, 0, hz, Kd.R_nil _ _ _ _ _, Nat.le_of_eq hg.symm⟩
  clear hz hb hg kb
  go_wp2_with fail
  go_loopg [10] 2 (fun kq v10 w' => ∃ i : Nat, v10 = .int .i64 (i : Int) ∧ Aside0 (i ≤ 1 ∧ kq + i = 2) ∧ Aside0 (IX w' w.heap.size g ([x].take i)) ∧ Aside0 (Below w.heap.size w w'))
  case atStart => exact ⟨0, by first | rfl | go_num, ⟨by decide, rfl⟩, HX, HB⟩
  case round =>
    obtain ⟨i, rfl, HI, HX2, HB2⟩ := hrel
    rcases Nat.eq_zero_or_pos i with hi | hi
    · subst hi
      obtain ⟨ad, Ap, cpp, rfl, x0, x1, x2, x3, x4, x5, x6, x7, hlp, hCp⟩ := at_T29 (Kd.C_below HC.out HB2.out) (0 : Int) (by decide) (by decide)
      have hrd : rd_T29 [x] (0 : Int) = x := rfl
      rw [hrd] at x0 x1 x2 x3 x4 x5 x6 x7 hlp hCp
      have h0 : ad.add ((0 : Int).toNat * 8) = ad := by simp [Addr.add]
      rw [h0] at x0 x1 x2 x3 x4 x5 x6 x7
      clear h0
      have hz5 := heap_alloc_new wr (.cells #[.int .u64 x.f0, .int .u64 x.f1, .int .i64 x.f2, .int .i64 x.f3, .int .u64 x.f4, .bool x.f5, .int .i64 x.f6, .slice Ap x.f7.length cpp] 29)
      have hb5 := below_alloc (Below.refl wr.heap.size wr) (.cells #[.int .u64 x.f0, .int .u64 x.f1, .int .i64 x.f2, .int .i64 x.f3, .int .u64 x.f4, .bool x.f5, .int .i64 x.f6, .slice Ap x.f7.length cpp] 29)
      obtain ⟨g5, hg5⟩ : ∃ g, g = wr.heap.size := ⟨_, rfl⟩
      have HCP := Aside0.mk (Kd.C_below hCp hb5)
      have HX5 := Aside0.mk (HX2.out.below hb5)
      clear hlp hCp hrd
      go_upto_region 5 with fail
      generalize wr.alloc (.cells #[.int .u64 x.f0, .int .u64 x.f1, .int .i64 x.f2, .int .i64 x.f3, .int .u64 x.f4, .bool x.f5, .int .i64 x.f6, .slice Ap x.f7.length cpp] 29) = W5 at hz5 hb5 HCP HX5 ⊢
      rw [← hg5] at hz5 ⊢
      have HB5 := Aside0.mk (below_then HB2.out HB2.out.size hb5)
      have c0 := blk_cell hz5 0
      have c1 := blk_cell hz5 1
      have c2 := blk_cell hz5 2
      have c3 := blk_cell hz5 3
      have c4 := blk_cell hz5 4
      have c5 := blk_cell hz5 5
      have c6 := blk_cell hz5 6
      have c7 := blk_cell hz5 7
      have hput := put_end (base := w.heap.size) (l := []) HX5.out x Ap cpp HCP.out HXM.out.1 HXM.out.2 (fun i j a b _ ha _ => by simp at ha) (by decide) rfl rfl
      unfold ragg at hput
      have HPUT := Aside0.mk hput
      clear hz5 hb5 hg5 hput x0 x1 x2 x3 x4 x5 x6 x7
      go_wp2_with (go_at_call 17; refine HPUT.out.mono ?_; rintro e w6 ⟨rfl, hX, hb⟩; have HX6 := Aside0.mk hX; have HB6 := Aside0.mk (HB5.out.trans hb); clear hX hb c0 c1 c2 c3 c4 c5 c6 c7)
      go_roundg 1
      case measure => have := HI.out; omega
      case rel => exact ⟨1, by first | rfl | go_num, ⟨by decide, rfl⟩, HX6, HB6⟩
    · have h1 : i = 1 := by have := HI.out; omega
      subst h1
      clear hi
      go_wp2_with fail
      go_ret
      exact ⟨g, rfl, HX2.out, HB2.out⟩
end Go.Proofs.Ytaepbgieahedjaa.QS
namespace Go.Proofs.Ytaepbgieahedjaa.QS
set_option linter.unusedVariables false
set_option linter.unusedSimpArgs false
open Go.RowKit Go.Proofs.Ytaepbgieahedjaa.Hp Go.Proofs.YtaepbgieahedjaaW.PrintWords Go.Proofs.YtaepbgieahedjaaW.PrintLast Go.Proofs.YtaepbgieahedjaaW.PrintMore
open Go.Proofs.Ytaepbgieahedjaa.IP
theorem C_one {W : World} {g gp c : Nat} {x : R0} {cx : Nat} {cp : Array Value} (hg : W.heap[g]? = some (.cells #[.int .u64 x.f0, .int .u64 x.f1, .int .i64 x.f2, .int .i64 x.f3, .int .u64 x.f4, .bool x.f5, .int .i64 x.f6, .slice (some ⟨gp, 0, none⟩) x.f7.length x.f7.length] 29 (0, 0))) (hp : W.heap[gp]? = some (.cells (nums .i64 x.f7).toArray 3 (0, 0))) (hne : gp ≠ g) (hl : x.f7.length ≤ 1000) :
    Kd.C k29 W (some ⟨g, 0, none⟩) 1 [x] := by
  have hR := R_of_rows (W := W) (base := 0) (ok := fun _ => True) (v := .slice (some ⟨g, 0, none⟩) 1 1) (ps := [(x, (some ⟨gp, 0, none⟩, x.f7.length))]) (fun _ _ => trivial) ?_ ?_
  · obtain ⟨A, c, e, _, hC⟩ := Kd.R_reads hR
    injection e with e1 _ _
    rw [e1]
    exact hC
  · exact ⟨rfl, .inr ⟨g, 1, _, rfl, Nat.zero_le _, hg, Nat.le_refl _, by decide, rfl, rfl⟩⟩
  · intro p hpm
    obtain rfl := List.mem_singleton.1 hpm
    have ho : W.ownsRow 0 3 1 (.slice (some ⟨gp, 0, none⟩) x.f7.length x.f7.length) x.f7.length (nums .i64 x.f7) := ⟨by rw [nums_length, Nat.mul_one], .inr ⟨gp, x.f7.length, _, rfl, Nat.zero_le _, hp, Nat.le_refl _, by unfold maxLen; omega, by rw [List.size_toArray, nums_length, Nat.mul_one], by rw [Nat.mul_one, ← nums_length .i64 x.f7]; exact List.take_length⟩⟩
    exact Kd.R_of_own (enc := Value.int .i64) ho (fun k hk => ⟨trivial, fun e => by have h1 : gp = k := Option.some.inj hk; have h2 : k = g := Option.some.inj e; omega⟩)
abbrev xa : R0 := ⟨4, 5, 0, 250, 9, false, 1, [2, 3]⟩
theorem xa_in : [xa].filter (inB 7) = [xa] := by
  have h : inB 7 xa = true := by kernel_rfl
  rw [List.filter_cons, h, if_pos rfl]
  rfl
theorem ints123 (A A' : Option Addr) (c c' : Nat) (w : World) (h1 : Kd.C (Kd.int .i64) w A 3 [1, 2, 3]) (h2 : 3 ≤ c) (h3 : Kd.C (Kd.int .i64) w A' 3 [1, 2, 3]) (h4 : 3 ≤ c') : Calls Try.prog 12 #[.slice A 3 c, .slice A' 3 c'] w fun e w' => e = .returned (.bool true) ∧ Below w.heap.size w w' := by
  refine (wagtailref01_Ints.calls 9 A c [1, 2, 3] A' c' [1, 2, 3] true w h1 h2 h3 h4 (by kernel_rfl)).mono ?_
  rintro e w' ⟨he, hb⟩
  exact ⟨he, by first | exact hb | exact hb.below⟩
theorem C_lit {W : World} {g : Nat} {xs : List Int} (h : W.heap[g]? = some (.cells (nums .i64 xs).toArray 3 (0, 0))) (hl : xs.length ≤ 1000) : Kd.C (Kd.int .i64) W (some ⟨g, 0, none⟩) xs.length xs := by
  have ho : W.ownsRow 0 3 1 (.slice (some ⟨g, 0, none⟩) xs.length xs.length) xs.length (nums .i64 xs) := ⟨by rw [nums_length, Nat.mul_one], .inr ⟨g, xs.length, _, rfl, Nat.zero_le _, h, Nat.le_refl _, by unfold maxLen; omega, by rw [List.size_toArray, nums_length, Nat.mul_one], by rw [Nat.mul_one, ← nums_length .i64 xs]; exact List.take_length⟩⟩
  obtain ⟨A, c, e, _, hC⟩ := Kd.R_reads (Kd.R_of_own (enc := Value.int .i64) (ok := fun _ => True) ho (fun _ _ => trivial))
  injection e with e1 _ _
  rw [e1]
  exact hC
theorem xa_over : ([xa].filter fun x => decide (x.f4 ≤ 9)) = [xa] := rfl
theorem xa_alive : ([xa].filter fun x => decide (8 < x.f4)) = [xa] := rfl
theorem xa_pages : pagesOf [xa] = [1, 2, 3] := rfl
theorem fr250 : frI 250 = 3 := by kernel_rfl
set_option maxHeartbeats 4000000 in
set_option maxRecDepth 100000 in
theorem awake27_calls (w : World) : Calls Try.prog 6 #[] w fun e w' => e = .returned (.bool true) ∧ Below w.heap.size w w' := by
  have hzp := heap_alloc_new w (.cells #[.int .i64 2, .int .i64 3] 3)
  have hbp := below_alloc (Below.refl w.heap.size w) (.cells #[.int .i64 2, .int .i64 3] 3)
  obtain ⟨gp, hgp⟩ : ∃ g, g = w.heap.size := ⟨_, rfl⟩
  have hs1 : (w.alloc (.cells #[.int .i64 2, .int .i64 3] 3)).heap.size = w.heap.size + 1 := by simp
  rw [← hgp] at hzp hs1
  have HN : Aside0 (∀ wq : World, wq = (w.alloc (.cells #[.int .i64 2, .int .i64 3] 3)).alloc (.cells #[.int .u64 4, .int .u64 5, .int .i64 0, .int .i64 250, .int .u64 9, .bool false, .int .i64 1, .slice (some ⟨gp, 0, none⟩) 2 2] 29) → Below w.heap.size w wq ∧ Calls Try.prog 7 #[.slice (some ⟨gp + 1, 0, none⟩) 1 1] wq fun e w' => ∃ g, e = .returned (.pointer (some ⟨g, 0, none⟩)) ∧ IX w' wq.heap.size g [xa] ∧ Below wq.heap.size wq w') := ⟨fun wq e => by
    subst e
    have hb2 := below_alloc hbp (.cells #[.int .u64 4, .int .u64 5, .int .i64 0, .int .i64 250, .int .u64 9, .bool false, .int .i64 1, .slice (some ⟨gp, 0, none⟩) 2 2] 29)
    have hz2 := heap_alloc_new (w.alloc (.cells #[.int .i64 2, .int .i64 3] 3)) (.cells #[.int .u64 4, .int .u64 5, .int .i64 0, .int .i64 250, .int .u64 9, .bool false, .int .i64 1, .slice (some ⟨gp, 0, none⟩) 2 2] 29)
    rw [hs1] at hz2
    exact ⟨hb2, new_one xa (some ⟨gp + 1, 0, none⟩) 1 _ (C_one (c := 0) (cx := 0) (cp := #[]) (gp := gp) hz2 (blk_below hzp (below_alloc (Below.refl _ _) _)) (by omega) (by decide)) (by decide) (by decide)⟩⟩
  clear hzp hbp hs1
  have HG := Aside0.mk hgp
  go_enter Try.func6, Try.ntmps6
  rw [hgp] at HN
  clear hgp
  go_upto_region 2 with ((go_at_call 7); obtain ⟨hb0, hnew⟩ := HN.out _ rfl; refine hnew.mono ?_; rintro e w3 ⟨g, rfl, hX, hb⟩; have HX := Aside0.mk hX; have HB := Aside0.mk (below_then hb0 hb0.size hb); clear hb0 hnew hX hb)
  clear HN
  have HP : Aside0 (∀ x ∈ [xa], x.f7.length ≤ 1000) := ⟨fun x hx => by rw [List.mem_singleton.1 hx]; decide⟩
  have HP2 : Aside0 (∀ x ∈ [xa], 1 ≤ x.f7.length ∧ x.f7.length ≤ 14) := ⟨fun x hx => by rw [List.mem_singleton.1 hx]; decide⟩
  have HFR := Aside0.mk (frame_yes HX.out (by decide) HP.out 7 xa [] xa_in)
  go_upto_region 3 with ((go_at_call 10); refine HFR.out.mono ?_; rintro e w4 ⟨A4, c4, rfl, _, _, hb⟩; rw [show IntKind.i64.wrap (IntKind.u64.wrap (7 - xa.f1)) = 2 from by decide]; have HX4 := Aside0.mk (HX.out.below hb); have HB4 := Aside0.mk (below_then HB.out HB.out.size hb); clear hb)
  have hz5 := heap_alloc_new w4 (.cells #[.int .u64 4, .int .u64 5, .int .i64 0, .int .i64 250, .int .u64 9, .bool false, .int .i64 1, .slice A4 2 c4] 29)
  have hb5 := below_alloc (Below.refl w4.heap.size w4) (.cells #[.int .u64 4, .int .u64 5, .int .i64 0, .int .i64 250, .int .u64 9, .bool false, .int .i64 1, .slice A4 2 c4] 29)
  obtain ⟨g5, hg5⟩ : ∃ g, g = w4.heap.size := ⟨_, rfl⟩
  clear HX HB HFR
  generalize w4.alloc (.cells #[.int .u64 4, .int .u64 5, .int .i64 0, .int .i64 250, .int .u64 9, .bool false, .int .i64 1, .slice A4 2 c4] 29) = W5 at hz5 hb5 ⊢
  rw [← hg5] at hz5 ⊢
  obtain ⟨bs, HX5⟩ : ∃ bs, Aside0 (IX W5 bs g [xa]) := ⟨_, ⟨HX4.out.below hb5⟩⟩
  have HB5 := Aside0.mk (below_then HB4.out HB4.out.size hb5)
  have c0 := blk_cell hz5 0
  clear hz5 hb5 hg5 HX4 HB4 HG
  go_wp2_with (first
    | (go_at_call 14; refine (frames_calls 250 _).mono ?_; rintro e w6 ⟨rfl, hb⟩; rw [fr250]; have HX6 := Aside0.mk (HX5.out.below hb); have HB6 := Aside0.mk (below_then HB5.out HB5.out.size hb); clear hb c0)
    | (go_at_call 22; refine (over_calls HX6.out (by decide) HP.out 9).mono ?_; rintro e w7 ⟨v, rfl, hR, hb⟩; rw [xa_over] at hR; obtain ⟨A7, c7, rfl⟩ := Kd.R_slice hR; have HX7 := Aside0.mk (HX6.out.below hb); have HB7 := Aside0.mk (below_then HB6.out HB6.out.size hb); clear hb hR)
    | (go_at_call 24; refine (alive_calls HX7.out (by decide) HP.out 8).mono ?_; rintro e w8 ⟨v, rfl, hR, hb⟩; rw [xa_alive] at hR; obtain ⟨A8, c8, rfl⟩ := Kd.R_slice hR; have HX8 := Aside0.mk (HX7.out.below hb); have HB8 := Aside0.mk (below_then HB7.out HB7.out.size hb); clear hb hR)
    | (go_at_call 13; refine (pages_calls HX8.out (by decide) HP2.out).mono ?_; rintro e w9 ⟨v, rfl, hR, hb⟩; rw [xa_pages] at hR; obtain ⟨A9, c9, rfl, hl9, hC9⟩ := Kd.R_reads hR; have HC9 := Aside0.mk (And.intro hC9 hl9); have HB9 := Aside0.mk (below_then HB8.out HB8.out.size hb); clear hb hR hC9 hl9)
    | (go_at_call 12; refine (ints123 _ _ _ _ _ (Kd.C_below HC9.out.1 (below_alloc (Below.refl _ _) _)) HC9.out.2 (C_lit (xs := [1, 2, 3]) (heap_alloc_new _ _) (by decide)) (by decide)).mono ?_; rintro e w10 ⟨rfl, hb⟩; have HB10 := Aside0.mk (below_then (below_alloc HB9.out _) (by have := HB9.out.size; simp; omega) hb); clear hb))
  go_ret
  exact ⟨rfl, HB10.out⟩
end Go.Proofs.Ytaepbgieahedjaa.QS
namespace Go.Proofs.Ytaepbgieahedjaa.QS
set_option linter.unusedVariables false
set_option linter.unusedSimpArgs false
open Go.RowKit Go.Proofs.Ytaepbgieahedjaa.Hp Go.Proofs.YtaepbgieahedjaaW.PrintWords Go.Proofs.YtaepbgieahedjaaW.PrintLast Go.Proofs.YtaepbgieahedjaaW.PrintMore
open Go.Proofs.Ytaepbgieahedjaa.IP
set_option maxHeartbeats 4000000 in
set_option maxRecDepth 100000 in
theorem none_calls (x : R0) (A : Option Addr) (c : Nat) (id : Int) (w : World) : Calls Try.prog 5 #[ragg x A c, .int .u64 id] w fun e w' => e = .returned (.bool true) ∧ Below w.heap.size w w' := by
  have hz := heap_alloc_new w (.cells #[.int .u64 x.f0, .int .u64 x.f1, .int .i64 x.f2, .int .i64 x.f3, .int .u64 x.f4, .bool x.f5, .int .i64 x.f6, .slice A x.f7.length c] 29)
  have hb := below_alloc (Below.refl w.heap.size w) (.cells #[.int .u64 x.f0, .int .u64 x.f1, .int .i64 x.f2, .int .i64 x.f3, .int .u64 x.f4, .bool x.f5, .int .i64 x.f6, .slice A x.f7.length c] 29)
  obtain ⟨g, hg⟩ : ∃ g, g = w.heap.size := ⟨_, rfl⟩
  unfold ragg
  go_enter Try.func5, Try.ntmps5
  go_upto_region 1 with fail
  generalize w.alloc (.cells #[.int .u64 x.f0, .int .u64 x.f1, .int .i64 x.f2, .int .i64 x.f3, .int .u64 x.f4, .bool x.f5, .int .i64 x.f6, .slice A x.f7.length c] 29) = W1 at hz hb ⊢
  rw [← hg] at hz ⊢
  have HZ1 := Aside0.mk hz
  have HB1 := Aside0.mk hb
  clear hz hb hg
  go_upto_region 3 with (go_at_call 19; refine (find_nil _ _).mono ?_; rintro e w2 ⟨rfl, hb⟩; have HZ2 := Aside0.mk (blk_below HZ1.out hb); have HB2 := Aside0.mk (below_then HB1.out HB1.out.size hb); clear hb)
  have hzb := below_alloc (Below.refl w2.heap.size w2) (.cells #[.int .u64 0, .int .u64 0, .int .i64 0, .int .i64 0, .int .u64 0, .bool false, .int .i64 0, .slice none 0 0] 29)
  generalize w2.alloc (.cells #[.int .u64 0, .int .u64 0, .int .i64 0, .int .i64 0, .int .u64 0, .bool false, .int .i64 0, .slice none 0 0] 29) = W3 at hzb ⊢
  have HZ3 := Aside0.mk (blk_below HZ2.out hzb)
  have HB3 := Aside0.mk (below_then HB2.out HB2.out.size hzb)
  clear hzb
  go_upto_region 4 with (go_at_call 15; refine (drop_nil _ _).mono ?_; rintro e w4 ⟨rfl, hb⟩; have HZ4 := Aside0.mk (blk_below HZ3.out hb); have HB4 := Aside0.mk (below_then HB3.out HB3.out.size hb); clear hb)
  have hzb := below_alloc (Below.refl w4.heap.size w4) (.cells #[.int .u64 0, .int .u64 0, .int .i64 0, .int .i64 0, .int .u64 0, .bool false, .int .i64 0, .slice none 0 0] 29)
  generalize w4.alloc (.cells #[.int .u64 0, .int .u64 0, .int .i64 0, .int .i64 0, .int .u64 0, .bool false, .int .i64 0, .slice none 0 0] 29) = W5 at hzb ⊢
  have HZ5 := Aside0.mk (blk_below HZ4.out hzb)
  have HB5 := Aside0.mk (below_then HB4.out HB4.out.size hzb)
  clear hzb
  go_upto_region 5 with (go_at_call 10; refine (frame_nil _ _).mono ?_; rintro e w6 ⟨rfl, hb⟩; have HZ6 := Aside0.mk (blk_below HZ5.out hb); have HB6 := Aside0.mk (below_then HB5.out HB5.out.size hb); clear hb)
  have hzb := below_alloc (Below.refl w6.heap.size w6) (.cells #[.int .u64 0, .int .u64 0, .int .i64 0, .int .i64 0, .int .u64 0, .bool false, .int .i64 0, .slice none 0 0] 29)
  generalize w6.alloc (.cells #[.int .u64 0, .int .u64 0, .int .i64 0, .int .i64 0, .int .u64 0, .bool false, .int .i64 0, .slice none 0 0] 29) = W7 at hzb ⊢
  have HZ7 := Aside0.mk (blk_below HZ6.out hzb)
  have HB7 := Aside0.mk (below_then HB6.out HB6.out.size hzb)
  clear hzb
  go_wp2_with (first
    | (go_at_call 6; refine (awake27_calls _).mono ?_; rintro e w8 ⟨rfl, hb⟩; have HZ8 := Aside0.mk (blk_below HZ7.out hb); have HB8 := Aside0.mk (below_then HB7.out HB7.out.size hb); clear hb; have c0 := blk_cell HZ8.out 0; have c1 := blk_cell HZ8.out 1; have c2 := blk_cell HZ8.out 2; have c3 := blk_cell HZ8.out 3; have c4 := blk_cell HZ8.out 4; have c5 := blk_cell HZ8.out 5; have c6 := blk_cell HZ8.out 6; have c7 := blk_cell HZ8.out 7)
    | (go_at_call 17; refine (put_nil x A c _).mono ?_; rintro e w9 ⟨rfl, hb⟩; have HB9 := Aside0.mk (below_then HB8.out HB8.out.size hb); clear hb c0 c1 c2 c3 c4 c5 c6 c7)
    | (go_at_call 21; refine (all_nil _).mono ?_; rintro e w10 ⟨rfl, hb⟩; have HB10 := Aside0.mk (below_then HB9.out HB9.out.size hb); clear hb)
    | (go_at_call 22; refine (over_nil _ _).mono ?_; rintro e w11 ⟨rfl, hb⟩; have HB11 := Aside0.mk (below_then HB10.out HB10.out.size hb); clear hb)
    | (go_at_call 24; refine (alive_nil _ _).mono ?_; rintro e w12 ⟨rfl, hb⟩; have HB12 := Aside0.mk (below_then HB11.out HB11.out.size hb); clear hb)
    | (go_at_call 13; refine (pages_nil _).mono ?_; rintro e w13 ⟨rfl, hb⟩; have HB13 := Aside0.mk (below_then HB12.out HB12.out.size hb); clear hb))
  go_ret
  exact ⟨rfl, HB13.out⟩
end Go.Proofs.Ytaepbgieahedjaa.QS
namespace Go.Proofs.Ytaepbgieahedjaa.Hp
open Go.RowKit Go.Proofs.YtaepbgieahedjaaW.PrintWords Go.Proofs.YtaepbgieahedjaaW.PrintLast Go.Proofs.YtaepbgieahedjaaW.PrintMore
attribute [local go_sem] max2_int min2_int max_two min_two max_three min_three max_four min_four   -- for this text's walks alone
set_option linter.unusedVariables false
set_option linter.unusedSimpArgs false
def wagtaillaw27_IndexNone.f (p0 p1 p2 p3 p4 : Int) (p5 : Bool) (p6 : Int) (l : List Int) (id : Int) : Option Bool := some true
set_option maxHeartbeats 8000000 in
set_option maxRecDepth 100000 in
theorem wagtaillaw27_IndexNone.calls (a0_0 : Int) (a0_1 : Int) (a0_2 : Int) (a0_3 : Int) (a0_4 : Int) (a0_5 : Bool) (a0_6 : Int) (A0_7 : Option Addr) (c0_7 : Nat) (l0_7 : List Int) (a1 : Int) (r : Bool) (w : World) (hr0_7 : Kd.C (Kd.int .i64) w A0_7 l0_7.length l0_7) (hc0_7 : l0_7.length ≤ c0_7) (h : wagtaillaw27_IndexNone.f a0_0 a0_1 a0_2 a0_3 a0_4 a0_5 a0_6 l0_7 a1 = some r) :
    Calls Try.prog 5 #[.agg #[.int .u64 a0_0, .int .u64 a0_1, .int .i64 a0_2, .int .i64 a0_3, .int .u64 a0_4, .bool a0_5, .int .i64 a0_6, .slice A0_7 l0_7.length c0_7], .int .u64 a1] w fun e w' => e = .returned (.bool r) ∧ Below w.heap.size w w' := by
  obtain rfl := Option.some.inj h
  exact QS.none_calls ⟨a0_0, a0_1, a0_2, a0_3, a0_4, a0_5, a0_6, l0_7⟩ A0_7 c0_7 a1 w
end Go.Proofs.Ytaepbgieahedjaa.Hp
namespace Go.Proofs.Ytaepbgieahedjaa.Hp
open Go.RowKit Go.Proofs.YtaepbgieahedjaaW.PrintWords
def ok29 (x : S29) : Prop := ((Lit.int .u64 x.f0).wf = true) ∧ ((Lit.int .u64 x.f1).wf = true) ∧ ((Lit.int .i64 x.f2).wf = true) ∧ ((Lit.int .i64 x.f3).wf = true) ∧ ((Lit.int .u64 x.f4).wf = true) ∧ (True) ∧ ((Lit.int .i64 x.f6).wf = true) ∧ (x.f7.length ≤ 9223372036854775807 ∧ ∀ x_ ∈ x.f7, (Lit.int .i64 x_).wf = true)
theorem tk29 : Tk Try.prog k29 29 ok29 :=
  Tk.imp (Tk.iso (Tk.struct Try.underlying29 (by kernel_rfl) (Tks.cons (Tk.int Try.underlying23) rfl (by kernel_rfl) (Tks.cons (Tk.int Try.underlying23) rfl (by kernel_rfl) (Tks.cons (Tk.int Try.underlying3) rfl (by kernel_rfl) (Tks.cons (Tk.int Try.underlying3) rfl (by kernel_rfl) (Tks.cons (Tk.int Try.underlying23) rfl (by kernel_rfl) (Tks.cons (Tk.bool Try.underlying4) rfl (by kernel_rfl) (Tks.cons (Tk.int Try.underlying3) rfl (by kernel_rfl) (Tks.last (Tk.slice (Tk.int Try.underlying3) Try.underlying27 (by kernel_rfl)) rfl (by kernel_rfl)))))))))) (fun x : S29 => (x.f0, x.f1, x.f2, x.f3, x.f4, x.f5, x.f6, x.f7)) (fun p => ⟨p.1, p.2.1, p.2.2.1, p.2.2.2.1, p.2.2.2.2.1, p.2.2.2.2.2.1, p.2.2.2.2.2.2.1, p.2.2.2.2.2.2.2⟩) (fun _ => rfl)) (fun x h => h)
end Go.Proofs.Ytaepbgieahedjaa.Hp
namespace Go.Proofs.Ytaepbgieahedjaa.Hp
open Go.RowKit Go.Proofs.YtaepbgieahedjaaW.PrintWords
def wagtaillaw27_IndexNone.Pure : Prop := ∀ (x0 : S29) (a1 : Int), (ok29 x0) → ((Lit.int .u64 a1).wf = true) → ∃ _k : Nat, wagtaillaw27_IndexNone.f x0.f0 x0.f1 x0.f2 x0.f3 x0.f4 x0.f5 x0.f6 x0.f7 a1 = some true
end Go.Proofs.Ytaepbgieahedjaa.Hp
namespace Go.Proofs.Ytaepbgieahedjaa.Pure
set_option linter.unusedVariables false
open Go.RowKit Go.Proofs.Ytaepbgieahedjaa.Hp Go.Proofs.YtaepbgieahedjaaW.PrintWords Go.Proofs.YtaepbgieahedjaaW.PrintLast
theorem IndexNone : wagtaillaw27_IndexNone.Pure := by
  intro x a _ _
  exact ⟨0, rfl⟩
end Go.Proofs.Ytaepbgieahedjaa.Pure
namespace Go.Proofs.YtaepbgieahedjaaW.PrintWords
open Go.ChangeShapes Go.WideShapes
end Go.Proofs.YtaepbgieahedjaaW.PrintWords
namespace Go.Proofs.Ytaepbgieahedjaa.indexNone
open Go.ChangeShapes Go.WideShapes Go.ChangeAt Go.RowKit Go.Proofs.YtaepbgieahedjaaW.PrintWords Go.Proofs.Ytaepbgieahedjaa.Hp
open Go.ChangeMaps (open_string shut_string)
set_option linter.unusedVariables false
set_option linter.unusedSimpArgs false
theorem own : ownKnob Try.prog.godebug = none := by kernel_rfl
theorem laidOut : laidOutB Try.prog = true := by kernel_rfl
set_option maxRecDepth 100000 in
theorem lifted (os : Os) (started : os.Started) (H : Type) (enc : TypeId × Value → H) :
    ReturnsInHanded {} Try.checked os 5 .any (Rows.indexNoneSpec.pre6 enc Try.prog Try.f5 Rows.indexNoneRow.domain false) (Rows.indexNoneSpec.post enc Try.prog Try.f5 false true false false) := by
  refine returnsInHanded_of_change_sized (C := Try.checked) own started (by kernel_rfl) Try.func5
    (ChangeSpec.witness6 (enc := enc) (C := Try.checked) false ⟨#[], #[.agg #[.int .u64 0, .int .u64 0, .int .i64 0, .int .i64 0, .int .u64 0, .bool false, .int .i64 0, .slice none 0 0], .int .u64 0], []⟩ 8 (by kernel_rfl) (by kernel_rfl) (by kernel_rfl) (by kernel_rfl)) ?_
  intro W base args ds gs before hval0 hW hcnd hsz0 _
  have hsz : (DataW.weightsEach Try.prog (Try.f5.params.toList ++ Rows.indexNoneSpec.plain.varTypes Try.prog) (ds ++ gs)).all (· ≤ reachBytes) = true := hsz0
  have hval : ∀ (j : Nat) t v, Try.f5.params[j]? = some t → args[j]? = some v → Value.okWide Try.prog W .any base t v := hval0
  have hW' := hW
  obtain ⟨p, q, hA0, hV, rfl, hfz, hnd⟩ := hW
  have hA : DataW.TrodAll enc Try.prog W 0 (fun _ => true) true Try.f5.params.toList args.toList ds p := hA0
  rw [Try.params5] at hA hval hsz
  obtain ⟨v0, vs0, d0, ds0, p0, q0, hargs, rfl, rfl, h0, r0⟩ := trodAll_cons hA
  obtain ⟨v1, vs1, d1, ds1, p1, q1, rfl, rfl, rfl, h1, r1⟩ := trodAll_cons r0
  obtain ⟨rfl, rfl, rfl⟩ := trodAll_nil r1
  obtain rfl : args = #[v0, v1] := by cases args; simp_all
  obtain ⟨rfl, rfl⟩ := trodVars_none hV
  have k0 := h0
  have lt0 : ∀ x ∈ p0, x.block < W.heap.size := by obtain ⟨m, hm⟩ := k0; exact DataW.trod_lt m _ _ _ hm
  obtain ⟨cs0, rfl, _⟩ := okWide_struct Try.underlying29 (hval 0 29 v0 rfl rfl)
  obtain ⟨x0, z0, g0⟩ := (show ∃ y, k29.K W y cs0.toList ∧ ok29 y from by obtain ⟨fuel, hf⟩ := h0; exact tk29.go hf)
  obtain ⟨A7_0, c7_0, e0, y0_0, y0_1⟩ := k29_open z0
  obtain rfl : cs0 = #[.int .u64 x0.f0, .int .u64 x0.f1, .int .i64 x0.f2, .int .i64 x0.f3, .int .u64 x0.f4, .bool x0.f5, .int .i64 x0.f6, .slice A7_0 x0.f7.length c7_0] := by cases cs0; simpa using e0
  have k1 := h1
  have lt1 : ∀ x ∈ p1, x.block < W.heap.size := by obtain ⟨m, hm⟩ := k1; exact DataW.trod_lt m _ _ _ hm
  obtain ⟨a1, rfl, _, _, g1⟩ := open_int Try.underlying23 (hval 1 23 v1 rfl rfl) h1
  clear hA0 hval0 hsz0 hsz
  obtain ⟨kk, hk⟩ := Pure.IndexNone x0 a1 g0 g1
  refine (wagtaillaw27_IndexNone.calls x0.f0 x0.f1 x0.f2 x0.f3 x0.f4 x0.f5 x0.f6 A7_0 c7_0 x0.f7 a1 true W y0_1 y0_0 hk).mono fun e W' ⟨he, bel0⟩ => ?_
  have bel : Below W.heap.size W W' := bel0
  subst he
  exact ⟨_, rfl, _, _, _, [], _, [], hW', trodAll_mk1 (shut_bool Try.underlying4 _), (trodAll_cons_mk (Below.trod laidOut (by kernel_rfl) (of_decide_eq_true (by kernel_rfl)) k0 bel lt0) (trodAll_cons_mk (Below.trod laidOut (by kernel_rfl) (of_decide_eq_true (by kernel_rfl)) k1 bel lt1) trodAll_mk0)), rfl, bel.frame _, fun h => by cases h⟩
theorem over : Rows.indexNoneRow.holds Try.pinned (OpenSpec.ofChange Rows.indexNoneSpec) :=
  OpenClaim.holds_of_wide 5 Try.f5 rfl rfl rfl rfl rfl rfl rfl ⟨rfl, rfl, rfl, rfl, rfl⟩ rfl rfl rfl rfl rfl (by kernel_rfl) Try.func5 (by kernel_rfl)
    (of_decide_eq_true (by kernel_rfl)) (by unfold Func.isWrapper; first | (rw [if_pos (by decide +kernel)]; kernel_rfl) | (rw [if_neg (by decide +kernel)]; exact ⟨rfl, rfl⟩))
    (fun os started H enc _ => lifted os started H enc)
theorem proved : Rows.IndexNoneSaid := over
#print axioms proved
end Go.Proofs.Ytaepbgieahedjaa.indexNone
namespace Go.Proofs.Ytaepbgieahedjaa
theorem indexNone_holds : Rows.IndexNoneSaid := indexNone.proved
end Go.Proofs.Ytaepbgieahedjaa
