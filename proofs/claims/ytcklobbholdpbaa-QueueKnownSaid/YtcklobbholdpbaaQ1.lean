/- A queue's blocks; the walks of Len, Free, New, and of the reference's calls. -/
import Derived.Test.YtcklobbholdpbaaRows
import Derived.Test.YtcklobbholdpbaaBase
import Derived.Test.YtcklobbholdpbaaTn
set_option linter.unusedSimpArgs false
set_option linter.unusedVariables false
namespace Go.Proofs.Ytcklobbholdpbaa
open Go.RowKit Go.Eff
theorem Blk.turn {T : Nat → Prop} {w w' : World} {g : Nat} {t : TypeId} {cs : Array Value} (h : Blk w g t cs) (hb : Turn T w w') (hg : ¬ T g) : Blk w' g t cs := (hb.block g h.lt hg).trans h
/-- a queue's fields: the ring's block, its room, the place, the number -/
def Fds (w : World) (g b r f n : Nat) : Prop := Blk w g 42 #[.slice (some ⟨b, 0, none⟩) r r, .int .i64 (f : Int), .int .i64 (n : Int)]
/-- the document's queue -/
def RQ (w : World) (h r : Nat) (t : ByteArray) : Prop := Blk w h 36 #[.int .i64 (r : Int), .string t]
theorem len_nil (w : World) : Calls Try.prog 20 #[.pointer none] w (Ret (.int .i64 0) (Below w.heap.size w)) := by
  go_enter Try.func20, Try.ntmps20
  have F0 : Below w.heap.size w w := Below.refl _ _
  repeat (first | with_reducible apply wpList_nil | with_reducible apply seq_region | with_reducible apply wp_region_lit | ((with_reducible apply seq_q); (focus rfl); (focus (simp [go_sem, effAt, ↓IntWalk.iteOmega, *]; (try go_ints); (first | (with_reducible exact effUpon_val) | (with_reducible exact effUpon_skip)))); (focus ((simp only [Act.put, List.setIfInBounds_toArray, List.set_cons_zero, List.set_cons_succ]; rfl)))) | ((with_reducible apply seq_s); (focus rfl); (focus ((simp only [Act.put, List.setIfInBounds_toArray, List.set_cons_zero, List.set_cons_succ]; rfl)))) | with_reducible apply wp_seq | with_reducible apply wp_block | with_reducible apply wp_skip | with_reducible apply wp_exit | with_reducible apply wp_ret | ((with_reducible apply wp_cond_true); (focus (first | rfl | (simp [go_sem, *]; done)))) | ((with_reducible apply wp_cond_false); (focus (first | rfl | (simp [go_sem, *]; done)))) | (simp only [Exit.then, Exit.inBlock, ↓reduceIte, Nat.reduceEqDiff]))
  go_ret
  exact ⟨rfl, by assumption⟩
theorem len_any (g b r f n : Nat) (w : World) (hB_q : Fds w g b r f n) :
    Calls Try.prog 20 #[.pointer (some ⟨g, 0, none⟩)] w (Ret (.int .i64 (n : Int)) (Below w.heap.size w)) := by
  unfold Fds at hB_q
  go_enter Try.func20, Try.ntmps20
  have F0 : Below w.heap.size w w := Below.refl _ _
  have hc_q := hB_q.cell
  repeat (first | with_reducible apply wpList_nil | with_reducible apply seq_region | with_reducible apply wp_region_lit | ((with_reducible apply seq_q); (focus rfl); (focus (simp [go_sem, effAt, ↓IntWalk.iteOmega, *]; (try go_ints); (first | (with_reducible exact effUpon_val) | (with_reducible exact effUpon_skip)))); (focus ((simp only [Act.put, List.setIfInBounds_toArray, List.set_cons_zero, List.set_cons_succ]; rfl)))) | ((with_reducible apply seq_s); (focus rfl); (focus ((simp only [Act.put, List.setIfInBounds_toArray, List.set_cons_zero, List.set_cons_succ]; rfl)))) | with_reducible apply wp_seq | with_reducible apply wp_block | with_reducible apply wp_skip | with_reducible apply wp_exit | with_reducible apply wp_ret | ((with_reducible apply wp_cond_true); (focus (first | rfl | (simp [go_sem, *]; done)))) | ((with_reducible apply wp_cond_false); (focus (first | rfl | (simp [go_sem, *]; done)))) | (simp only [Exit.then, Exit.inBlock, ↓reduceIte, Nat.reduceEqDiff]))
  go_ret
  exact ⟨rfl, by assumption⟩
theorem free_nil (w : World) : Calls Try.prog 21 #[.pointer none] w (Ret (.int .i64 0) (Below w.heap.size w)) := by
  go_enter Try.func21, Try.ntmps21
  have F0 : Below w.heap.size w w := Below.refl _ _
  repeat (first | with_reducible apply wpList_nil | with_reducible apply seq_region | with_reducible apply wp_region_lit | ((with_reducible apply seq_q); (focus rfl); (focus (simp [go_sem, effAt, ↓IntWalk.iteOmega, *]; (try go_ints); (first | (with_reducible exact effUpon_val) | (with_reducible exact effUpon_skip)))); (focus ((simp only [Act.put, List.setIfInBounds_toArray, List.set_cons_zero, List.set_cons_succ]; rfl)))) | ((with_reducible apply seq_s); (focus rfl); (focus ((simp only [Act.put, List.setIfInBounds_toArray, List.set_cons_zero, List.set_cons_succ]; rfl)))) | with_reducible apply wp_seq | with_reducible apply wp_block | with_reducible apply wp_skip | with_reducible apply wp_exit | with_reducible apply wp_ret | ((with_reducible apply wp_cond_true); (focus (first | rfl | (simp [go_sem, *]; done)))) | ((with_reducible apply wp_cond_false); (focus (first | rfl | (simp [go_sem, *]; done)))) | (simp only [Exit.then, Exit.inBlock, ↓reduceIte, Nat.reduceEqDiff]))
  go_ret
  exact ⟨rfl, by assumption⟩
theorem free_any (g b r f n : Nat) (w : World) (hB_q : Fds w g b r f n) (b1 : n ≤ r) (b2 : r ≤ 4096) :
    Calls Try.prog 21 #[.pointer (some ⟨g, 0, none⟩)] w (Ret (.int .i64 ((r : Int) - n)) (Below w.heap.size w)) := by
  unfold Fds at hB_q
  go_enter Try.func21, Try.ntmps21
  have F0 : Below w.heap.size w w := Below.refl _ _
  have hc_q := hB_q.cell
  repeat (first | with_reducible apply wpList_nil | with_reducible apply seq_region | with_reducible apply wp_region_lit | ((with_reducible apply seq_q); (focus rfl); (focus (simp [go_sem, effAt, ↓IntWalk.iteOmega, *]; (try go_ints); (first | (with_reducible exact effUpon_val) | (with_reducible exact effUpon_skip)))); (focus ((simp only [Act.put, List.setIfInBounds_toArray, List.set_cons_zero, List.set_cons_succ]; rfl)))) | ((with_reducible apply seq_s); (focus rfl); (focus ((simp only [Act.put, List.setIfInBounds_toArray, List.set_cons_zero, List.set_cons_succ]; rfl)))) | with_reducible apply wp_seq | with_reducible apply wp_block | with_reducible apply wp_skip | with_reducible apply wp_exit | with_reducible apply wp_ret | ((with_reducible apply wp_cond_true); (focus (first | rfl | (simp [go_sem, *]; done)))) | ((with_reducible apply wp_cond_false); (focus (first | rfl | (simp [go_sem, *]; done)))) | (simp only [Exit.then, Exit.inBlock, ↓reduceIte, Nat.reduceEqDiff]))
  refine wp_region_pure (E := fun i => [].contains i) (by kernel_rfl) (by kernel_rfl) ?_
  repeat (first | ((with_reducible apply lex_q); (focus rfl); (focus rfl); (focus (intro w' hS; have hc_q := (hB_q.below hS hB_q.lt).cell; simp [go_sem, effAt, ↓IntWalk.iteOmega, *]; (try go_ints); (first | (with_reducible exact effUpon_val) | (with_reducible exact effUpon_skip)))); (focus ((simp only [Act.put, List.setIfInBounds_toArray, List.set_cons_zero, List.set_cons_succ]; rfl)))) | ((with_reducible apply lex_s); (focus rfl); (focus ((simp only [Act.put, List.setIfInBounds_toArray, List.set_cons_zero, List.set_cons_succ]; rfl)))))
  with_reducible apply lex_nil
  intro w1 hs
  have Fw1 := F0.trans (hs.mono F0.size)
  replace hB_q := hB_q.below hs hB_q.lt
  clear hs F0
  clear hc_q; have hc_q := hB_q.cell
  repeat (first | with_reducible apply wpList_nil | with_reducible apply seq_region | with_reducible apply wp_region_lit | ((with_reducible apply seq_q); (focus rfl); (focus (simp [go_sem, effAt, ↓IntWalk.iteOmega, *]; (try go_ints); (first | (with_reducible exact effUpon_val) | (with_reducible exact effUpon_skip)))); (focus ((simp only [Act.put, List.setIfInBounds_toArray, List.set_cons_zero, List.set_cons_succ]; rfl)))) | ((with_reducible apply seq_s); (focus rfl); (focus ((simp only [Act.put, List.setIfInBounds_toArray, List.set_cons_zero, List.set_cons_succ]; rfl)))) | with_reducible apply wp_seq | with_reducible apply wp_block | with_reducible apply wp_skip | with_reducible apply wp_exit | with_reducible apply wp_ret | ((with_reducible apply wp_cond_true); (focus (first | rfl | (simp [go_sem, *]; done)))) | ((with_reducible apply wp_cond_false); (focus (first | rfl | (simp [go_sem, *]; done)))) | (simp only [Exit.then, Exit.inBlock, ↓reduceIte, Nat.reduceEqDiff]))
  go_ret
  exact ⟨rfl, by assumption⟩
/-- a room as it is brought to one -/
def roomOf (room : Int) : Nat := (max 1 (min room 4096)).toNat
theorem roomOf_bounds (room : Int) : 1 ≤ roomOf room ∧ roomOf room ≤ 4096 := by unfold roomOf; omega
theorem roomOf_int (room : Int) : max 1 (min 4096 room) = (roomOf room : Int) ∧ min 4096 (max room 1) = (roomOf room : Int) := by unfold roomOf; omega
theorem rnew_any (room : Int) (w : World) : Calls Try.prog 10 #[.int .i64 room] w (Ret (.pointer (some ⟨w.heap.size, 0, none⟩)) fun w' => RQ w' w.heap.size (roomOf room) ⟨#[]⟩ ∧ Below w.heap.size w w') := by
  have e1 := (roomOf_int room).2
  unfold RQ
  generalize roomOf room = r at *
  go_enter Try.func10, Try.ntmps10
  have F0 : Below w.heap.size w w := Below.refl _ _
  repeat (first | with_reducible apply wpList_nil | with_reducible apply seq_region | with_reducible apply wp_region_lit | ((with_reducible apply seq_q); (focus rfl); (focus (simp [go_sem, effAt, ↓IntWalk.iteOmega, *]; (try go_ints); (first | (with_reducible exact effUpon_val) | (with_reducible exact effUpon_skip)))); (focus ((simp only [Act.put, List.setIfInBounds_toArray, List.set_cons_zero, List.set_cons_succ]; rfl)))) | ((with_reducible apply seq_s); (focus rfl); (focus ((simp only [Act.put, List.setIfInBounds_toArray, List.set_cons_zero, List.set_cons_succ]; rfl)))) | with_reducible apply wp_seq | with_reducible apply wp_block | with_reducible apply wp_skip | with_reducible apply wp_exit | with_reducible apply wp_ret | ((with_reducible apply wp_cond_true); (focus (first | rfl | (simp [go_sem, *]; done)))) | ((with_reducible apply wp_cond_false); (focus (first | rfl | (simp [go_sem, *]; done)))) | (simp only [Exit.then, Exit.inBlock, ↓reduceIte, Nat.reduceEqDiff]))
  ((with_reducible apply seq_box); (focus rfl); (focus (simp [go_sem, effAt]; exact ⟨rfl, rfl⟩)); (focus ((simp only [Act.put, List.setIfInBounds_toArray, List.set_cons_zero, List.set_cons_succ]; rfl))))
  intro w1 hB_b hs
  have Fw1 := F0.trans (hs.mono F0.size)
  clear hs F0
  have hc_b := hB_b.cell
  repeat (first | with_reducible apply wpList_nil | with_reducible apply seq_region | with_reducible apply wp_region_lit | ((with_reducible apply seq_q); (focus rfl); (focus (simp [go_sem, effAt, ↓IntWalk.iteOmega, *]; (try go_ints); (first | (with_reducible exact effUpon_val) | (with_reducible exact effUpon_skip)))); (focus ((simp only [Act.put, List.setIfInBounds_toArray, List.set_cons_zero, List.set_cons_succ]; rfl)))) | ((with_reducible apply seq_s); (focus rfl); (focus ((simp only [Act.put, List.setIfInBounds_toArray, List.set_cons_zero, List.set_cons_succ]; rfl)))) | with_reducible apply wp_seq | with_reducible apply wp_block | with_reducible apply wp_skip | with_reducible apply wp_exit | with_reducible apply wp_ret | ((with_reducible apply wp_cond_true); (focus (first | rfl | (simp [go_sem, *]; done)))) | ((with_reducible apply wp_cond_false); (focus (first | rfl | (simp [go_sem, *]; done)))) | (simp only [Exit.then, Exit.inBlock, ↓reduceIte, Nat.reduceEqDiff]))
  go_ret
  exact ⟨rfl, hB_b, by assumption⟩
theorem info5m : (Try.prog.info? 5).map (fun i => (i.zero, i.size, i.bytes)) = some (some (.int .u8 0), 1, 1) := by kernel_rfl
theorem make_bytes (k : Nat) (hk : k ≤ 4096) (u : World) : (Instr.makeSlice 39 (.int .i64 (k : Int)) (.int .i64 (k : Int))).run Try.prog u =
      .ok (.slice (some ⟨u.heap.size, 0, none⟩) k k) (u.alloc (.cells (madeCells #[.int .u8 0] k) 5)) := by
  obtain ⟨i0, hi, hz0, hz1, hz2⟩ := info_parts info5m
  have h := run_make (P := Try.prog) u 39 5 i0 (.int .u8 0) Try.underlying39 hi hz0 .i64 .i64 (k : Int) (k : Int) (by omega) (Int.le_refl _) (by rw [hz2]; omega) (by omega)
  simpa [hz1, Value.cells] using h
theorem made_size (k : Nat) : (madeCells #[.int .u8 0] k).size = k := by simp [madeCells]
theorem new_any (room : Int) (w : World) : Calls Try.prog 9 #[.int .i64 room] w (Ret (.pointer (some ⟨w.heap.size + 1, 0, none⟩)) fun w' => Fds w' (w.heap.size + 1) w.heap.size (roomOf room) 0 0 ∧ Blk w' w.heap.size 5 (madeCells #[.int .u8 0] (roomOf room)) ∧ Below w.heap.size w w') := by
  have e1 := (roomOf_int room).1
  have hb := roomOf_bounds room
  unfold Fds
  generalize roomOf room = r at *
  have hmk := make_bytes r hb.2
  have hs1 : (w.alloc (.cells (madeCells #[.int .u8 0] r) 5)).heap.size = w.heap.size + 1 := by simp
  go_enter Try.func9, Try.ntmps9
  have F0 : Below w.heap.size w w := Below.refl _ _
  repeat (first | with_reducible apply wpList_nil | with_reducible apply seq_region | with_reducible apply wp_region_lit | ((with_reducible apply seq_q); (focus rfl); (focus (simp [go_sem, effAt, ↓IntWalk.iteOmega, *]; (try go_ints); (first | (with_reducible exact effUpon_val) | (with_reducible exact effUpon_skip)))); (focus ((simp only [Act.put, List.setIfInBounds_toArray, List.set_cons_zero, List.set_cons_succ]; rfl)))) | ((with_reducible apply seq_s); (focus rfl); (focus ((simp only [Act.put, List.setIfInBounds_toArray, List.set_cons_zero, List.set_cons_succ]; rfl)))) | with_reducible apply wp_seq | with_reducible apply wp_block | with_reducible apply wp_skip | with_reducible apply wp_exit | with_reducible apply wp_ret | ((with_reducible apply wp_cond_true); (focus (first | rfl | (simp [go_sem, *]; done)))) | ((with_reducible apply wp_cond_false); (focus (first | rfl | (simp [go_sem, *]; done)))) | (simp only [Exit.then, Exit.inBlock, ↓reduceIte, Nat.reduceEqDiff]))
  with_reducible apply seq_e (fun w' => w' = w.alloc (.cells (madeCells #[.int .u8 0] r) 5))
  focus rfl
  focus (simp [go_sem, effAt, hmk, e1]; exact ⟨rfl, rfl⟩)
  (simp only [Act.put, List.setIfInBounds_toArray, List.set_cons_zero, List.set_cons_succ]; rfl)
  rintro w1 hw1
  have hB_b : Blk w1 w.heap.size 5 (madeCells #[.int .u8 0] r) := hw1 ▸ Blk.new w _ _
  have Fw1 : Below w.heap.size w w1 := hw1 ▸ (Below.refl _ _).alloc (Nat.le_refl _) _
  rw [← hw1] at hs1
  clear hw1
  repeat (first | with_reducible apply wpList_nil | with_reducible apply seq_region | with_reducible apply wp_region_lit | ((with_reducible apply seq_q); (focus rfl); (focus (simp [go_sem, effAt, ↓IntWalk.iteOmega, *]; (try go_ints); (first | (with_reducible exact effUpon_val) | (with_reducible exact effUpon_skip)))); (focus ((simp only [Act.put, List.setIfInBounds_toArray, List.set_cons_zero, List.set_cons_succ]; rfl)))) | ((with_reducible apply seq_s); (focus rfl); (focus ((simp only [Act.put, List.setIfInBounds_toArray, List.set_cons_zero, List.set_cons_succ]; rfl)))) | with_reducible apply wp_seq | with_reducible apply wp_block | with_reducible apply wp_skip | with_reducible apply wp_exit | with_reducible apply wp_ret | ((with_reducible apply wp_cond_true); (focus (first | rfl | (simp [go_sem, *]; done)))) | ((with_reducible apply wp_cond_false); (focus (first | rfl | (simp [go_sem, *]; done)))) | (simp only [Exit.then, Exit.inBlock, ↓reduceIte, Nat.reduceEqDiff]))
  with_reducible apply seq_box
  focus rfl
  focus (simp [go_sem, effAt]; exact ⟨rfl, rfl⟩)
  (simp only [Act.put, List.setIfInBounds_toArray, List.set_cons_zero, List.set_cons_succ]; rfl)
  intro w2 hB_q hs
  rw [hs1] at hB_q
  repeat (first | with_reducible apply wpList_nil | with_reducible apply seq_region | with_reducible apply wp_region_lit | ((with_reducible apply seq_q); (focus rfl); (focus (simp [go_sem, effAt, ↓IntWalk.iteOmega, *]; (try go_ints); (first | (with_reducible exact effUpon_val) | (with_reducible exact effUpon_skip)))); (focus ((simp only [Act.put, List.setIfInBounds_toArray, List.set_cons_zero, List.set_cons_succ]; rfl)))) | ((with_reducible apply seq_s); (focus rfl); (focus ((simp only [Act.put, List.setIfInBounds_toArray, List.set_cons_zero, List.set_cons_succ]; rfl)))) | with_reducible apply wp_seq | with_reducible apply wp_block | with_reducible apply wp_skip | with_reducible apply wp_exit | with_reducible apply wp_ret | ((with_reducible apply wp_cond_true); (focus (first | rfl | (simp [go_sem, *]; done)))) | ((with_reducible apply wp_cond_false); (focus (first | rfl | (simp [go_sem, *]; done)))) | (simp only [Exit.then, Exit.inBlock, ↓reduceIte, Nat.reduceEqDiff]))
  rw [hs1]
  go_ret
  exact ⟨rfl, hB_q, hB_b.below hs hB_b.lt, Fw1.trans (hs.mono Fw1.size)⟩
theorem pick_any (i : Int) (n : Int) (hn : 1 ≤ n ∧ n ≤ 1000) (hi : -9223372036854775808 ≤ i ∧ i ≤ 9223372036854775807) (w : World) : Calls Try.prog 11 #[.int .i64 i, .int .i64 n] w (Ret (.int .i64 (i % n)) (Below w.heap.size w)) := by
  have h1 : ¬ n ≤ 0 := by omega
  have e : Int.tmod (Int.tmod i n + n) n = i % n := by
    rw [Int.tmod_eq_emod_of_nonneg (a := Int.tmod i n + n) (by have := Int.lt_tmod_of_pos i (b := n) (by omega); omega)]
    rw [Int.add_emod_right]
    have h3 := Int.mul_tdiv_add_tmod i n
    have h4 : i % n = (Int.tmod i n) % n := by
      conv => lhs; rw [← h3]
      rw [Int.add_comm, Int.add_mul_emod_self_left]
    exact h4.symm
  have hb := Int.lt_tmod_of_pos i (b := n) (by omega)
  have hb2 := Int.tmod_lt_of_pos i (b := n) (by omega)
  obtain ⟨m, hm⟩ : ∃ m, Int.tmod i n = m := ⟨_, rfl⟩
  rw [hm] at e hb hb2
  go_enter Try.func11, Try.ntmps11
  have F0 : Below w.heap.size w w := Below.refl _ _
  repeat (first | with_reducible apply wpList_nil | with_reducible apply seq_region | with_reducible apply wp_region_lit | ((with_reducible apply seq_q); (focus rfl); (focus (simp [go_sem, effAt, ↓IntWalk.iteOmega, *]; (try go_ints); (first | (with_reducible exact effUpon_val) | (with_reducible exact effUpon_skip)))); (focus ((simp only [Act.put, List.setIfInBounds_toArray, List.set_cons_zero, List.set_cons_succ]; rfl)))) | ((with_reducible apply seq_s); (focus rfl); (focus ((simp only [Act.put, List.setIfInBounds_toArray, List.set_cons_zero, List.set_cons_succ]; rfl)))) | with_reducible apply wp_seq | with_reducible apply wp_block | with_reducible apply wp_skip | with_reducible apply wp_exit | with_reducible apply wp_ret | ((with_reducible apply wp_cond_true); (focus (first | rfl | (simp [go_sem, *]; done)))) | ((with_reducible apply wp_cond_false); (focus (first | rfl | (simp [go_sem, *]; done)))) | (simp only [Exit.then, Exit.inBlock, ↓reduceIte, Nat.reduceEqDiff]))
  go_ret
  exact ⟨rfl, by assumption⟩
