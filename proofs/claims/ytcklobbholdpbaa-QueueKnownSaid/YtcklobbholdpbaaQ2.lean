/- Bytes in the cells of a block: written, copied, cut; the reference's queue. -/
import Derived.Test.YtcklobbholdpbaaQ1
import Derived.Laws.CopyRow
import Derived.Lib.Hide
set_option linter.unusedSimpArgs false
set_option linter.unusedVariables false
namespace Go.Proofs.Ytcklobbholdpbaa
open Go.RowKit Go.Eff
theorem info5 : (Try.prog.info? 5).map (·.size) = some 1 := by kernel_rfl
theorem size5 (w : World) : (sizeOf 5).run Try.prog w = .ok 1 w := by kernel_rfl
/-- bytes written from a place on -/
def writeAt (cs : Array Value) (o : Nat) (bs : List UInt8) : Array Value := (cs.toList.take o ++ bs.map (fun b => Value.int .u8 (b.toNat : Int)) ++ cs.toList.drop (o + bs.length)).toArray
theorem writeAt_size (cs : Array Value) (o : Nat) (bs : List UInt8) (h : o + bs.length ≤ cs.size) : (writeAt cs o bs).size = cs.size := by
  simp [writeAt]; omega
theorem writeAt_get (cs : Array Value) (o : Nat) (bs : List UInt8) (i : Nat) (h : o + bs.length ≤ cs.size) : (writeAt cs o bs)[i]? = if o ≤ i ∧ i < o + bs.length then some (.int .u8 ((bs.getD (i - o) 0).toNat : Int)) else cs[i]? := by
  unfold writeAt
  simp only [List.getElem?_toArray]
  have hl : (cs.toList.take o).length = o := by simp; omega
  by_cases h1 : i < o
  · rw [if_neg (by omega), List.getElem?_append_left (by simp; omega), List.getElem?_append_left (by omega), List.getElem?_take, if_pos h1]
    simp
  · by_cases h2 : i < o + bs.length
    · rw [if_pos (by omega), List.getElem?_append_left (by simp; omega), List.getElem?_append_right (by omega), hl]
      have h3 : i - o < bs.length := by omega
      simp [List.getElem?_eq_getElem h3]
    · rw [if_neg (by omega), List.getElem?_append_right (by simp; omega)]
      simp only [List.length_append, hl, List.length_map, List.getElem?_drop]
      rw [show o + bs.length + (i - (o + bs.length)) = i by omega]
      simp
theorem setRow_blk {w : World} {g : Nat} {t : TypeId} {cs : Array Value} (hB : Blk w g t cs) (cs' : Array Value) : Blk (w.setRow g cs') g t cs' ∧ w.grownBy (w.setRow g cs') (some g) := by
  refine ⟨setRow_heap w g cs cs' t (0, 0) hB, rfl, rfl, rfl, by simp [World.setRow], fun k hk hne => ?_⟩
  have hne' : g ≠ k := fun e => hne (by rw [e])
  simp [World.setRow, Array.getElem?_modify, hne']
theorem run_copy_str (w : World) (ty : TypeId) (g o dLen dCap k : Nat) (t : TypeId) (s : ByteArray) (cs : Array Value) (hB : Blk w g t cs) (hk : k = min s.size dLen) (hfit : o + k ≤ cs.size) :
    (Builtin.copy_ #[39, 9] ty #[.slice (some ⟨g, o, none⟩) dLen dCap, .string s]).run Try.prog w = .ok (.int .i64 k) (w.setRow g (writeAt cs o (s.data.toList.take k))) := by
  have hk2 : k ≤ s.data.toList.length := by simp; omega
  have e : ((s.extract 0 k).data.map fun b => Value.int .u8 b.toNat).toList = (s.data.toList.take k).map (fun b => Value.int .u8 (b.toNat : Int)) := by
    rw [ByteArray.data_extract]
    simp [Array.toList_extract, List.extract, List.map_take]
  have hl : (s.data.toList.take k).length = k := by simp; omega
  have hst := run_storeCells_at Try.prog g o t ((s.data.toList.take k).map (fun b => Value.int .u8 (b.toNat : Int))) 0 cs w hB (by simp [hl]; omega) (by intro v hv; obtain ⟨b, _, rfl⟩ := List.mem_map.1 hv; rfl)
  have hn : Nat.min s.size dLen = k := hk.symm
  simp only [Builtin.copy_, List.getElem?_toArray]
  simp [run_underlying Try.underlying39, Builtin.lenOf, Builtin.firstCells, size5, hn, e, hst]
  rw [← List.map_take, hst]
  simp only [Result.andThen_ok, Nat.add_zero, List.length_map]
  rfl
theorem take_extract (s : ByteArray) (q k : Nat) (h : q ≤ k) : (s.extract 0 k).data.toList.take q = s.data.toList.take q := by
  rw [ByteArray.data_extract]
  simp [Array.toList_extract, List.extract, List.take_take, Nat.min_eq_left h]
theorem drop_extract (s : ByteArray) (q k j : Nat) (h : k ≤ s.size) (hj : j = k - q) : (s.extract q k).data.toList.take j = (s.data.toList.take k).drop q := by
  rw [ByteArray.data_extract]
  subst hj
  simp [Array.toList_extract, List.extract, List.drop_take, List.take_take]
/-- a byte's cell -/
def bv (b : UInt8) : Value := .int .u8 (b.toNat : Int)
theorem strOf_bytes (l : List UInt8) : strOfNums (l.map fun b => (b.toNat : Int)) = ⟨l.toArray⟩ := by
  unfold strOfNums
  congr 2
  rw [List.map_map]
  conv => rhs; rw [← List.map_id l]
  apply List.map_congr_left
  intro b _
  simp
theorem copy_in (w : World) (ty : TypeId) (o at_ dLen dCap : Nat) (g p sLen sCap : Nat) (cur cs : Array Value) (bs : List UInt8) (hB : Blk w o 5 cur) (hS : Blk w g 5 cs) (hn : bs.length = Nat.min sLen dLen)
    (hsrc : ∀ j, j < bs.length → cs[p + j]? = some (bv (bs.getD j 0))) (hfit : at_ + bs.length ≤ cur.size) :
    (Builtin.copy_ #[39, 39] ty #[.slice (some ⟨o, at_, none⟩) dLen dCap, .slice (some ⟨g, p, none⟩) sLen sCap]).run Try.prog w = .ok (.int .i64 bs.length) (w.setRow o (writeAt cur at_ bs)) := by
  have h := run_copy_row (P := Try.prog) w 39 39 ty 5 o at_ dLen dCap ⟨g, p, none⟩ sLen sCap cur 5 (bs.map bv) Try.underlying39 info5 hB (by simpa using hn) (fun j v hj => by
    have hj' : j < bs.length := by simpa using (List.getElem?_eq_some_iff.1 hj).1
    have e : (⟨g, p, none⟩ : Addr).add j = ⟨g, p + j, none⟩ := by unfold Addr.add; split <;> simp_all
    rw [e, hS.cell, hsrc j hj']
    simp [List.getElem?_eq_getElem hj'] at hj
    rw [← hj, List.getD_eq_getElem?_getD, List.getElem?_eq_getElem hj']
    rfl) (by simpa using hfit) (by intro v hv; obtain ⟨b, _, rfl⟩ := List.mem_map.1 hv; rfl)
  rw [h]
  simp only [List.length_map]
  rfl
theorem slice_rest (o k q : Nat) (hq : q ≤ k) (hk : k ≤ 4096) : ∃ oa, (q < k → oa = q) ∧ oa ≤ q ∧ ∀ w : World, (Instr.sliceAt 39 (.slice (some ⟨o, 0, none⟩) k k) (some (.int .i64 q)) none none).run Try.prog w = .ok (.slice (some ⟨o, oa, none⟩) (k - q) (k - q)) w := by
  have hel : Try.prog.elem 39 = 5 := by kernel_rfl
  refine ⟨if k = q then 0 else q, fun h => if_neg (by omega), by split <;> omega, fun w => ?_⟩
  have hu : Try.prog.underlying 39 = some (.slice (Try.prog.elem 39)) := by rw [hel]; exact Try.underlying39
  rw [run_sliceAt_slice (P := Try.prog) w 39 _ _ _ _ hu, run_slice_l (P := Try.prog) w 39 (some ⟨o, 0, none⟩) k k hu .i64 q (by omega) (by omega), hel, size5]
  simp only [Result.andThen_ok, sliced, Int.toNat_natCast, Nat.mul_one]
  by_cases h : k = q
  · simp [h]
  · rw [if_neg h, if_neg h]
    unfold Addr.add
    simp
    intro h0
    simp [h0]
/-- what both copies have left -/
theorem two_parts (k q oa : Nat) (xs : List UInt8) (hq : q ≤ k) (hk : k ≤ xs.length) (ho : q < k → oa = q) (ho' : oa ≤ q) : writeAt (writeAt (madeCells #[.int .u8 0] k) 0 (xs.take q)) oa ((xs.take k).drop q) = (((xs.take k).map fun b => (b.toNat : Int)).map (Value.int .u8)).toArray := by
  have h1 : (xs.take q).length = q := by simp; omega
  have h2 : ((xs.take k).drop q).length = k - q := by simp; omega
  have h0 : (madeCells #[.int .u8 0] k).size = k := made_size k
  have hs1 : (writeAt (madeCells #[.int .u8 0] k) 0 (xs.take q)).size = k := by rw [writeAt_size _ _ _ (by omega), h0]
  apply Array.ext_getElem?
  intro i
  have hfit : oa + ((xs.take k).drop q).length ≤ (writeAt (madeCells #[.int .u8 0] k) 0 (xs.take q)).size := by
    rcases Nat.lt_or_ge q k with h | h
    · have := ho h; omega
    · omega
  rw [writeAt_get _ _ _ _ hfit, writeAt_get _ _ _ _ (by omega), h1, h2]
  simp only [List.getElem?_toArray, List.getElem?_map]
  by_cases hi : i < k
  · have e : xs[i]? = some (xs[i]'(by omega)) := List.getElem?_eq_getElem (by omega)
    rw [List.getElem?_take, if_pos hi, e]
    by_cases hiq : i < q
    · rw [if_neg (by intro h; have := ho (by omega); omega), if_pos (by omega)]
      simp [List.getElem?_take, hiq, e]
    · have := ho (by omega)
      rw [if_pos (by omega)]
      subst this
      simp [List.getElem?_take, List.getElem?_drop, show oa + (i - oa) = i by omega, hi, e]
  · rw [if_neg (by intro h; rcases Nat.lt_or_ge q k with h' | h'; · have := ho h'; omega
                   · omega), if_neg (by omega), Array.getElem?_eq_none (by omega), List.getElem?_eq_none (by simp; omega)]
    rfl
theorem rlen (h r : Nat) (t : ByteArray) (w : World) (h1 : RQ w h r t) : Blk w h 36 #[.int .i64 (r : Int), .string t] := h1
theorem rput_any (h r : Nat) (t s : ByteArray) (k : Nat) (w : World) (hB_q : RQ w h r t) (b1 : t.size ≤ r) (b2 : r ≤ 4096) (b4 : s.size ≤ 9223372036854775807) (hk : min s.size (r - t.size) = k) :
    Calls Try.prog 19 #[.pointer (some ⟨h, 0, none⟩), .string s] w (Ret (.int .i64 k) fun w' => RQ w' h r (t ++ s.extract 0 k) ∧ w.grownBy w' (some h)) := by
  have e1 : min ((r : Int) - t.size) (s.size : Int) = (k : Int) := by omega
  have hk1 : k ≤ s.size := by omega
  have hk2 : k ≤ 4096 := by omega
  clear hk
  unfold RQ at hB_q ⊢
  have hx : (s.extract 0 k).size = k := by simp; omega
  go_enter Try.func19, Try.ntmps19
  have F0 : Below w.heap.size w w := Below.refl _ _
  have hc_q := hB_q.cell
  repeat (first | with_reducible apply wpList_nil | with_reducible apply seq_region | with_reducible apply wp_region_lit | ((with_reducible apply seq_q); (focus rfl); (focus (simp [go_sem, effAt, ↓IntWalk.iteOmega, *]; (try go_ints); (first | (with_reducible exact effUpon_val) | (with_reducible exact effUpon_skip)))); (focus ((simp only [Act.put, List.setIfInBounds_toArray, List.set_cons_zero, List.set_cons_succ]; rfl)))) | ((with_reducible apply seq_s); (focus rfl); (focus ((simp only [Act.put, List.setIfInBounds_toArray, List.set_cons_zero, List.set_cons_succ]; rfl)))) | with_reducible apply wp_seq | with_reducible apply wp_block | with_reducible apply wp_skip | with_reducible apply wp_exit | with_reducible apply wp_ret | ((with_reducible apply wp_cond_true); (focus (first | rfl | (simp [go_sem, *]; done)))) | ((with_reducible apply wp_cond_false); (focus (first | rfl | (simp [go_sem, *]; done)))) | (simp only [Exit.then, Exit.inBlock, ↓reduceIte, Nat.reduceEqDiff]))
  refine wp_region_pure (E := fun i => [].contains i) (by kernel_rfl) (by kernel_rfl) ?_
  repeat (first | ((with_reducible apply lex_q); (focus rfl); (focus rfl); (focus (intro w' hS; have hc_q := (hB_q.below hS hB_q.lt).cell; simp [go_sem, effAt, ↓IntWalk.iteOmega, *]; (try go_ints); (first | (with_reducible exact effUpon_val) | (with_reducible exact effUpon_skip)))); (focus ((simp only [Act.put, List.setIfInBounds_toArray, List.set_cons_zero, List.set_cons_succ]; rfl)))) | ((with_reducible apply lex_s); (focus rfl); (focus ((simp only [Act.put, List.setIfInBounds_toArray, List.set_cons_zero, List.set_cons_succ]; rfl)))))
  with_reducible apply lex_nil
  intro w1 hs
  have Fw1 := F0.trans (hs.mono F0.size)
  replace hB_q := hB_q.below hs hB_q.lt
  clear hs F0
  clear hc_q; have hc_q := hB_q.cell
  repeat (first | with_reducible apply wpList_nil | with_reducible apply seq_region | with_reducible apply wp_region_lit | ((with_reducible apply seq_q); (focus rfl); (focus (simp [go_sem, effAt, ↓IntWalk.iteOmega, *]; (try go_ints); (first | (with_reducible exact effUpon_val) | (with_reducible exact effUpon_skip)))); (focus ((simp only [Act.put, List.setIfInBounds_toArray, List.set_cons_zero, List.set_cons_succ]; rfl)))) | ((with_reducible apply seq_s); (focus rfl); (focus ((simp only [Act.put, List.setIfInBounds_toArray, List.set_cons_zero, List.set_cons_succ]; rfl)))) | with_reducible apply wp_seq | with_reducible apply wp_block | with_reducible apply wp_skip | with_reducible apply wp_exit | with_reducible apply wp_ret | ((with_reducible apply wp_cond_true); (focus (first | rfl | (simp [go_sem, *]; done)))) | ((with_reducible apply wp_cond_false); (focus (first | rfl | (simp [go_sem, *]; done)))) | (simp only [Exit.then, Exit.inBlock, ↓reduceIte, Nat.reduceEqDiff]))
  have hf_q := hB_q.frozen
  refine wp_region_effA (S := fun _ => True) (I := (· = World.drew _)) (E := fun i => [11].contains i) (A := fun i => [4].contains i) (by kernel_rfl) (by kernel_rfl) rfl (fun _ _ => trivial) ?_
  repeat (first | ((with_reducible apply lexA_q); (focus rfl); (focus rfl); (focus rfl); (focus (intro w' hS; simp [go_sem, effAt, ↓IntWalk.iteOmega, *]; (try go_ints); (first | (with_reducible exact effUpon_val) | (with_reducible exact effUpon_skip)))); (focus ((simp only [Act.put, List.setIfInBounds_toArray, List.set_cons_zero, List.set_cons_succ]; rfl)))) | ((with_reducible apply lexA_s); (focus rfl); (focus ((simp only [Act.put, List.setIfInBounds_toArray, List.set_cons_zero, List.set_cons_succ]; rfl)))) | ((with_reducible apply lexA_a); (focus rfl); (focus rfl); (focus rfl); (focus (intro w' hS; subst hS; simp [go_sem, effAt, ↓IntWalk.iteOmega, *]; (try go_ints); (first | (with_reducible exact effUpon_val) | (with_reducible exact effUpon_skip)))); (focus ((simp only [Act.put, List.setIfInBounds_toArray, List.set_cons_zero, List.set_cons_succ]; rfl)))))
  with_reducible apply lexA_e (fun w' => Blk w' h 36 #[.int .i64 (r : Int), .string (t ++ s.extract 0 k)] ∧ w1.grownBy w' (some h))
  focus rfl
  focus rfl
  focus
    intro w' hS
    subst hS
    simp [go_sem, effAt, *]
    exact ⟨rfl, hB_q.drew.set_ 1 _, grown_undrew (grown_set (World.grownBy.refl _ _))⟩
  focus exact fun _ _ => trivial
  (simp only [Act.put, List.setIfInBounds_toArray, List.set_cons_zero, List.set_cons_succ]; rfl)
  with_reducible apply lexA_nil
  rintro w6 ⟨hB6, hg6⟩
  clear hc_q hf_q
  repeat (first | with_reducible apply wpList_nil | with_reducible apply seq_region | with_reducible apply wp_region_lit | ((with_reducible apply seq_q); (focus rfl); (focus (simp [go_sem, effAt, ↓IntWalk.iteOmega, *]; (try go_ints); (first | (with_reducible exact effUpon_val) | (with_reducible exact effUpon_skip)))); (focus ((simp only [Act.put, List.setIfInBounds_toArray, List.set_cons_zero, List.set_cons_succ]; rfl)))) | ((with_reducible apply seq_s); (focus rfl); (focus ((simp only [Act.put, List.setIfInBounds_toArray, List.set_cons_zero, List.set_cons_succ]; rfl)))) | with_reducible apply wp_seq | with_reducible apply wp_block | with_reducible apply wp_skip | with_reducible apply wp_exit | with_reducible apply wp_ret | ((with_reducible apply wp_cond_true); (focus (first | rfl | (simp [go_sem, *]; done)))) | ((with_reducible apply wp_cond_false); (focus (first | rfl | (simp [go_sem, *]; done)))) | (simp only [Exit.then, Exit.inBlock, ↓reduceIte, Nat.reduceEqDiff]))
  go_ret
  exact ⟨rfl, hB6, grown_trans (grown_below (by assumption) _) hg6⟩
theorem rpeek_any (h r : Nat) (t : ByteArray) (n : Int) (k : Nat) (w : World) (hB_q : RQ w h r t) (b1 : t.size ≤ 4096) (hk : max 0 (min (t.size : Int) n) = (k : Int)) :
    Calls Try.prog 15 #[.pointer (some ⟨h, 0, none⟩), .int .i64 n] w (Ret (.string (t.extract 0 k)) (Below w.heap.size w)) := by
  have e1 : min (t.size : Int) (max n 0) = (k : Int) := by omega
  have hk1 : k ≤ t.size := by omega
  clear hk
  unfold RQ at hB_q
  go_enter Try.func15, Try.ntmps15
  have F0 : Below w.heap.size w w := Below.refl _ _
  have hc_q := hB_q.cell
  repeat (first | with_reducible apply wpList_nil | with_reducible apply seq_region | with_reducible apply wp_region_lit | ((with_reducible apply seq_q); (focus rfl); (focus (simp [go_sem, effAt, ↓IntWalk.iteOmega, *]; (try go_ints); (first | (with_reducible exact effUpon_val) | (with_reducible exact effUpon_skip)))); (focus ((simp only [Act.put, List.setIfInBounds_toArray, List.set_cons_zero, List.set_cons_succ]; rfl)))) | ((with_reducible apply seq_s); (focus rfl); (focus ((simp only [Act.put, List.setIfInBounds_toArray, List.set_cons_zero, List.set_cons_succ]; rfl)))) | with_reducible apply wp_seq | with_reducible apply wp_block | with_reducible apply wp_skip | with_reducible apply wp_exit | with_reducible apply wp_ret | ((with_reducible apply wp_cond_true); (focus (first | rfl | (simp [go_sem, *]; done)))) | ((with_reducible apply wp_cond_false); (focus (first | rfl | (simp [go_sem, *]; done)))) | (simp only [Exit.then, Exit.inBlock, ↓reduceIte, Nat.reduceEqDiff]))
  refine wp_region_pure (E := fun i => [].contains i) (by kernel_rfl) (by kernel_rfl) ?_
  repeat (first | ((with_reducible apply lex_q); (focus rfl); (focus rfl); (focus (intro w' hS; have hc_q := (hB_q.below hS hB_q.lt).cell; simp [go_sem, effAt, ↓IntWalk.iteOmega, *]; (try go_ints); (first | (with_reducible exact effUpon_val) | (with_reducible exact effUpon_skip)))); (focus ((simp only [Act.put, List.setIfInBounds_toArray, List.set_cons_zero, List.set_cons_succ]; rfl)))) | ((with_reducible apply lex_s); (focus rfl); (focus ((simp only [Act.put, List.setIfInBounds_toArray, List.set_cons_zero, List.set_cons_succ]; rfl)))))
  with_reducible apply lex_nil
  intro w1 hs
  have Fw1 := F0.trans (hs.mono F0.size)
  replace hB_q := hB_q.below hs hB_q.lt
  clear hs F0
  clear hc_q; have hc_q := hB_q.cell
  repeat (first | with_reducible apply wpList_nil | with_reducible apply seq_region | with_reducible apply wp_region_lit | ((with_reducible apply seq_q); (focus rfl); (focus (simp [go_sem, effAt, ↓IntWalk.iteOmega, *]; (try go_ints); (first | (with_reducible exact effUpon_val) | (with_reducible exact effUpon_skip)))); (focus ((simp only [Act.put, List.setIfInBounds_toArray, List.set_cons_zero, List.set_cons_succ]; rfl)))) | ((with_reducible apply seq_s); (focus rfl); (focus ((simp only [Act.put, List.setIfInBounds_toArray, List.set_cons_zero, List.set_cons_succ]; rfl)))) | with_reducible apply wp_seq | with_reducible apply wp_block | with_reducible apply wp_skip | with_reducible apply wp_exit | with_reducible apply wp_ret | ((with_reducible apply wp_cond_true); (focus (first | rfl | (simp [go_sem, *]; done)))) | ((with_reducible apply wp_cond_false); (focus (first | rfl | (simp [go_sem, *]; done)))) | (simp only [Exit.then, Exit.inBlock, ↓reduceIte, Nat.reduceEqDiff]))
  go_ret
  exact ⟨rfl, by assumption⟩
theorem rnext_any (h r : Nat) (t : ByteArray) (n : Int) (k : Nat) (w : World) (hB_q : RQ w h r t) (b1 : t.size ≤ 4096) (hk : max 0 (min (t.size : Int) n) = (k : Int)) :
    Calls Try.prog 13 #[.pointer (some ⟨h, 0, none⟩), .int .i64 n] w (Ret (.string (t.extract 0 k)) fun w' => RQ w' h r (t.extract k t.size) ∧ w.grownBy w' (some h)) := by
  have hk1 : k ≤ t.size := by omega
  have hP := fun w hB => rpeek_any h r t n k w hB b1 hk
  have hx : (t.extract 0 k).size = k := by simp; omega
  clear hk
  unfold RQ at *
  generalize t.extract 0 k = u at *
  go_enter Try.func13, Try.ntmps13
  have F0 : Below w.heap.size w w := Below.refl _ _
  have hc_q := hB_q.cell
  repeat (first | with_reducible apply wpList_nil | with_reducible apply seq_region | with_reducible apply wp_region_lit | ((with_reducible apply seq_q); (focus rfl); (focus (simp [go_sem, effAt, ↓IntWalk.iteOmega, *]; (try go_ints); (first | (with_reducible exact effUpon_val) | (with_reducible exact effUpon_skip)))); (focus ((simp only [Act.put, List.setIfInBounds_toArray, List.set_cons_zero, List.set_cons_succ]; rfl)))) | ((with_reducible apply seq_s); (focus rfl); (focus ((simp only [Act.put, List.setIfInBounds_toArray, List.set_cons_zero, List.set_cons_succ]; rfl)))) | with_reducible apply wp_seq | with_reducible apply wp_block | with_reducible apply wp_skip | with_reducible apply wp_exit | with_reducible apply wp_ret | ((with_reducible apply wp_cond_true); (focus (first | rfl | (simp [go_sem, *]; done)))) | ((with_reducible apply wp_cond_false); (focus (first | rfl | (simp [go_sem, *]; done)))) | (simp only [Exit.then, Exit.inBlock, ↓reduceIte, Nat.reduceEqDiff]))
  ((with_reducible apply seq_e (Below w.heap.size w)); (focus rfl); (focus (simp only [effAt]; simp [go_sem]; (with_reducible exact effUpon_enter (hP _ hB_q)))); (focus ((simp only [Act.put, List.setIfInBounds_toArray, List.set_cons_zero, List.set_cons_succ]; rfl))))
  intro w1 hs
  have Fw1 := F0.trans (hs.mono F0.size)
  replace hB_q := hB_q.below hs hB_q.lt
  clear hs F0
  clear hc_q; have hc_q := hB_q.cell
  repeat (first | with_reducible apply wpList_nil | with_reducible apply seq_region | with_reducible apply wp_region_lit | ((with_reducible apply seq_q); (focus rfl); (focus (simp [go_sem, effAt, ↓IntWalk.iteOmega, *]; (try go_ints); (first | (with_reducible exact effUpon_val) | (with_reducible exact effUpon_skip)))); (focus ((simp only [Act.put, List.setIfInBounds_toArray, List.set_cons_zero, List.set_cons_succ]; rfl)))) | ((with_reducible apply seq_s); (focus rfl); (focus ((simp only [Act.put, List.setIfInBounds_toArray, List.set_cons_zero, List.set_cons_succ]; rfl)))) | with_reducible apply wp_seq | with_reducible apply wp_block | with_reducible apply wp_skip | with_reducible apply wp_exit | with_reducible apply wp_ret | ((with_reducible apply wp_cond_true); (focus (first | rfl | (simp [go_sem, *]; done)))) | ((with_reducible apply wp_cond_false); (focus (first | rfl | (simp [go_sem, *]; done)))) | (simp only [Exit.then, Exit.inBlock, ↓reduceIte, Nat.reduceEqDiff]))
  have hf_q := hB_q.frozen
  with_reducible apply seq_e (fun w' => Blk w' h 36 #[.int .i64 (r : Int), .string (t.extract k t.size)] ∧ w1.grownBy w' (some h))
  focus rfl
  focus
    simp [go_sem, effAt, *]
    exact ⟨rfl, hB_q.set_ 1 _, grown_set (World.grownBy.refl _ _)⟩
  (simp only [Act.put, List.setIfInBounds_toArray, List.set_cons_zero, List.set_cons_succ]; rfl)
  rintro w4 ⟨hB4, hg4⟩
  clear hc_q hf_q
  repeat (first | with_reducible apply wpList_nil | with_reducible apply seq_region | with_reducible apply wp_region_lit | ((with_reducible apply seq_q); (focus rfl); (focus (simp [go_sem, effAt, ↓IntWalk.iteOmega, *]; (try go_ints); (first | (with_reducible exact effUpon_val) | (with_reducible exact effUpon_skip)))); (focus ((simp only [Act.put, List.setIfInBounds_toArray, List.set_cons_zero, List.set_cons_succ]; rfl)))) | ((with_reducible apply seq_s); (focus rfl); (focus ((simp only [Act.put, List.setIfInBounds_toArray, List.set_cons_zero, List.set_cons_succ]; rfl)))) | with_reducible apply wp_seq | with_reducible apply wp_block | with_reducible apply wp_skip | with_reducible apply wp_exit | with_reducible apply wp_ret | ((with_reducible apply wp_cond_true); (focus (first | rfl | (simp [go_sem, *]; done)))) | ((with_reducible apply wp_cond_false); (focus (first | rfl | (simp [go_sem, *]; done)))) | (simp only [Exit.then, Exit.inBlock, ↓reduceIte, Nat.reduceEqDiff]))
  go_ret
  exact ⟨rfl, hB4, grown_trans (grown_below (by assumption) _) hg4⟩
theorem rclear_any (h r : Nat) (t : ByteArray) (w : World) (hB_q : RQ w h r t) (b1 : t.size ≤ 4096) :
    Calls Try.prog 17 #[.pointer (some ⟨h, 0, none⟩)] w (Ret (.int .i64 t.size) fun w' => RQ w' h r ⟨#[]⟩ ∧ w.grownBy w' (some h)) := by
  unfold RQ at *
  go_enter Try.func17, Try.ntmps17
  have F0 : Below w.heap.size w w := Below.refl _ _
  have hc_q := hB_q.cell
  repeat (first | with_reducible apply wpList_nil | with_reducible apply seq_region | with_reducible apply wp_region_lit | ((with_reducible apply seq_q); (focus rfl); (focus (simp [go_sem, effAt, ↓IntWalk.iteOmega, *]; (try go_ints); (first | (with_reducible exact effUpon_val) | (with_reducible exact effUpon_skip)))); (focus ((simp only [Act.put, List.setIfInBounds_toArray, List.set_cons_zero, List.set_cons_succ]; rfl)))) | ((with_reducible apply seq_s); (focus rfl); (focus ((simp only [Act.put, List.setIfInBounds_toArray, List.set_cons_zero, List.set_cons_succ]; rfl)))) | with_reducible apply wp_seq | with_reducible apply wp_block | with_reducible apply wp_skip | with_reducible apply wp_exit | with_reducible apply wp_ret | ((with_reducible apply wp_cond_true); (focus (first | rfl | (simp [go_sem, *]; done)))) | ((with_reducible apply wp_cond_false); (focus (first | rfl | (simp [go_sem, *]; done)))) | (simp only [Exit.then, Exit.inBlock, ↓reduceIte, Nat.reduceEqDiff]))
  have hf_q := hB_q.frozen
  with_reducible apply seq_e (fun w' => Blk w' h 36 #[.int .i64 (r : Int), .string ⟨#[]⟩] ∧ w.grownBy w' (some h))
  focus rfl
  focus
    simp [go_sem, effAt, *]
    exact ⟨rfl, hB_q.set_ 1 _, grown_set (World.grownBy.refl _ _)⟩
  (simp only [Act.put, List.setIfInBounds_toArray, List.set_cons_zero, List.set_cons_succ]; rfl)
  rintro w4 ⟨hB4, hg4⟩
  clear hc_q hf_q
  repeat (first | with_reducible apply wpList_nil | with_reducible apply seq_region | with_reducible apply wp_region_lit | ((with_reducible apply seq_q); (focus rfl); (focus (simp [go_sem, effAt, ↓IntWalk.iteOmega, *]; (try go_ints); (first | (with_reducible exact effUpon_val) | (with_reducible exact effUpon_skip)))); (focus ((simp only [Act.put, List.setIfInBounds_toArray, List.set_cons_zero, List.set_cons_succ]; rfl)))) | ((with_reducible apply seq_s); (focus rfl); (focus ((simp only [Act.put, List.setIfInBounds_toArray, List.set_cons_zero, List.set_cons_succ]; rfl)))) | with_reducible apply wp_seq | with_reducible apply wp_block | with_reducible apply wp_skip | with_reducible apply wp_exit | with_reducible apply wp_ret | ((with_reducible apply wp_cond_true); (focus (first | rfl | (simp [go_sem, *]; done)))) | ((with_reducible apply wp_cond_false); (focus (first | rfl | (simp [go_sem, *]; done)))) | (simp only [Exit.then, Exit.inBlock, ↓reduceIte, Nat.reduceEqDiff]))
  go_ret
  exact ⟨rfl, hB4, hg4⟩
