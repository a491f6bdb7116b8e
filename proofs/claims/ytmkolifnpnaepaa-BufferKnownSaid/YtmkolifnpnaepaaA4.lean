/- The walk of a buffer's Put: the bytes are copied into the ring in one or two parts. -/
import Derived.Test.YtmkolifnpnaepaaA3
import Derived.Lib.Hide
set_option linter.unusedSimpArgs false
set_option linter.unusedVariables false
namespace Go.Proofs.Ytmkolifnpnaepaa
open Go.RowKit Go.Eff
/-- the cells behind a Put of k bytes, q of them up to the ring's end -/
def putCells (cs : Array Value) (p q k n : Nat) (s : ByteArray) : Array Value := (writeAt (writeAt cs p (s.data.toList.take q)) 0 ((s.data.toList.take k).drop q)).setIfInBounds 4097 (.int .i64 ((n : Int) + k))
theorem take_extract (s : ByteArray) (q k : Nat) (h : q ≤ k) : (s.extract 0 k).data.toList.take q = s.data.toList.take q := by
  rw [ByteArray.data_extract]
  simp [Array.toList_extract, List.extract, List.take_take, Nat.min_eq_left h]
theorem drop_extract (s : ByteArray) (q k j : Nat) (h : k ≤ s.size) (hj : j = k - q) : (s.extract q k).data.toList.take j = (s.data.toList.take k).drop q := by
  rw [ByteArray.data_extract]
  subst hj
  simp [Array.toList_extract, List.extract, List.drop_take, List.take_take]
set_option maxHeartbeats 1000000 in
theorem put_walk (g : Nat) (cs : Array Value) (f n r m : Nat) (s : ByteArray) (k : Nat) (w : World) (hB_b : Blk w g 42 cs) (h96 : cs[4096]? = some (.int .i64 f)) (h97 : cs[4097]? = some (.int .i64 n)) (h98 : cs[4098]? = some (.int .i64 r)) (h99 : cs[4099]? = some (.int .i64 m))
    (b1 : n < r) (b2 : r ≤ 4096) (b3 : f < r) (b4 : 0 < s.size) (b5 : s.size ≤ 200) (hk : k = min s.size (r - n)) (hz : 4100 ≤ cs.size) (p : Nat) (hp : (f + n) % r = p) :
    Calls Try.prog 13 #[.pointer (some ⟨g, 0, none⟩), .string s] w (Ret (.int .i64 k) fun w' => Blk w' g 42 (putCells cs p (min k (r - p)) k n s) ∧ w.grownBy w' (some g)) := by
  have e1 : min ((r : Int) - n) (s.size : Int) = (k : Int) := by omega
  have e2 : ((k : Int) == 0) = false := by simp; omega
  have hk1 : 0 < k := by omega
  have hk2 : k ≤ s.size := by omega
  have hk3 : k + n ≤ r := by omega
  clear hk
  have e3 : ((f : Int) + (n : Int)) % (r : Int) = (p : Int) := by rw [← hp, Int.natCast_emod, Int.natCast_add]
  have hp1 : p < r := by rw [← hp]; exact Nat.mod_lt _ (by omega)
  clear hp
  obtain ⟨q, hq⟩ : ∃ q, q = min k (r - p) := ⟨_, rfl⟩
  have hq1 : q ≤ k := by omega
  have hq2 : q ≤ r - p := by omega
  have hq3 : k - q ≤ r := by omega
  have HQ : Hid (q = min k (r - p)) := hq
  clear hq
  have hsl := arr_slice g p r hp1 b2
  have hsl0 := arr_slice0 g r b2
  go_enter Try.func13, Try.ntmps13
  have F0 : Below w.heap.size w w := Below.refl _ _
  have hc_b := hB_b.cell
  repeat (first | with_reducible apply wpList_nil | with_reducible apply seq_region | with_reducible apply wp_region_lit | ((with_reducible apply seq_q); (focus rfl); (focus (simp [go_sem, effAt, ↓IntWalk.iteOmega, *]; (try go_ints); (first | (with_reducible exact effUpon_val) | (with_reducible exact effUpon_skip)))); (focus ((simp only [Act.put, List.setIfInBounds_toArray, List.set_cons_zero, List.set_cons_succ]; rfl)))) | ((with_reducible apply seq_s); (focus rfl); (focus ((simp only [Act.put, List.setIfInBounds_toArray, List.set_cons_zero, List.set_cons_succ]; rfl)))) | with_reducible apply wp_seq | with_reducible apply wp_block | with_reducible apply wp_skip | with_reducible apply wp_exit | with_reducible apply wp_ret | ((with_reducible apply wp_cond_true); (focus (first | rfl | (simp [go_sem, *]; done)))) | ((with_reducible apply wp_cond_false); (focus (first | rfl | (simp [go_sem, *]; done)))) | (simp only [Exit.then, Exit.inBlock, ↓reduceIte, Nat.reduceEqDiff]))
  ((with_reducible apply seq_e (Below w.heap.size w)); (focus rfl); (focus (simp only [effAt]; simp [go_sem]; (with_reducible exact effUpon_enter (free_any g cs n r _ hB_b h97 h98 (by omega) (by omega))))); (focus ((simp only [Act.put, List.setIfInBounds_toArray, List.set_cons_zero, List.set_cons_succ]; rfl))))
  intro w1 hs
  have Fw1 := F0.trans (hs.mono F0.size)
  replace hB_b := hB_b.below hs hB_b.lt
  clear hs F0
  clear hc_b; have hc_b := hB_b.cell
  repeat (first | with_reducible apply wpList_nil | with_reducible apply seq_region | with_reducible apply wp_region_lit | ((with_reducible apply seq_q); (focus rfl); (focus (simp [go_sem, effAt, ↓IntWalk.iteOmega, *]; (try go_ints); (first | (with_reducible exact effUpon_val) | (with_reducible exact effUpon_skip)))); (focus ((simp only [Act.put, List.setIfInBounds_toArray, List.set_cons_zero, List.set_cons_succ]; rfl)))) | ((with_reducible apply seq_s); (focus rfl); (focus ((simp only [Act.put, List.setIfInBounds_toArray, List.set_cons_zero, List.set_cons_succ]; rfl)))) | with_reducible apply wp_seq | with_reducible apply wp_block | with_reducible apply wp_skip | with_reducible apply wp_exit | with_reducible apply wp_ret | ((with_reducible apply wp_cond_true); (focus (first | rfl | (simp [go_sem, *]; done)))) | ((with_reducible apply wp_cond_false); (focus (first | rfl | (simp [go_sem, *]; done)))) | (simp only [Exit.then, Exit.inBlock, ↓reduceIte, Nat.reduceEqDiff]))
  refine wp_region_eff (S := fun w' => Fld w' g f n r m) (I := (· = World.drew _)) (E := fun i => [].contains i) (by kernel_rfl) (by kernel_rfl) rfl (fun w' h => h ▸ fld_of hB_b.drew h96 h97 h98 h99) ?_
  repeat (first | ((with_reducible apply lex_q); (focus rfl); (focus rfl); (focus (intro w' hS; obtain ⟨c96, c97, c98, c99⟩ := hS; simp [go_sem, effAt, ↓IntWalk.iteOmega, *]; (try go_ints); (first | (with_reducible exact effUpon_val) | (with_reducible exact effUpon_skip)))); (focus ((simp only [Act.put, List.setIfInBounds_toArray, List.set_cons_zero, List.set_cons_succ]; rfl)))) | ((with_reducible apply lex_s); (focus rfl); (focus ((simp only [Act.put, List.setIfInBounds_toArray, List.set_cons_zero, List.set_cons_succ]; rfl)))))
  with_reducible apply lex_nil
  rintro _ rfl
  replace hB_b := hB_b.drew
  replace Fw1 := Fw1.drew
  clear hc_b
  have hc_b := hB_b.cell
  repeat (first | with_reducible apply wpList_nil | with_reducible apply seq_region | with_reducible apply wp_region_lit | with_reducible apply wp_seq | with_reducible apply wp_block | with_reducible apply wp_skip | with_reducible apply wp_exit | with_reducible apply wp_ret | ((with_reducible apply wp_cond_true); (focus (first | rfl | (simp [go_sem, *]; done)))) | ((with_reducible apply wp_cond_false); (focus (first | rfl | (simp [go_sem, *]; done)))) | (simp only [Exit.then, Exit.inBlock, ↓reduceIte, Nat.reduceEqDiff]))
  refine wp_region_eff (S := fun w' => Fld w' g f n r m) (I := (· = World.drew _)) (E := fun i => [12].contains i) (by kernel_rfl) (by kernel_rfl) rfl (fun w' h => h ▸ fld_of hB_b.drew h96 h97 h98 h99) ?_
  repeat (first | ((with_reducible apply lex_q); (focus rfl); (focus rfl); (focus (intro w' hS; obtain ⟨c96, c97, c98, c99⟩ := hS; simp [go_sem, effAt, ↓IntWalk.iteOmega, *]; (try go_ints); (first | (with_reducible exact effUpon_val) | (with_reducible exact effUpon_skip)))); (focus ((simp only [Act.put, List.setIfInBounds_toArray, List.set_cons_zero, List.set_cons_succ]; rfl)))) | ((with_reducible apply lex_s); (focus rfl); (focus ((simp only [Act.put, List.setIfInBounds_toArray, List.set_cons_zero, List.set_cons_succ]; rfl)))))
  have hx1 : (s.extract 0 k).size = k := by simp; omega
  have hcp := run_copy_str w1.drew.drew 3 g p (r - p) (4096 - p) q 42 (s.extract 0 k) cs hB_b.drew (by rw [hx1]; exact HQ.out) (by omega)
  rw [take_extract s q k hq1] at hcp
  have hs1 : (writeAt cs p (s.data.toList.take q)).size = cs.size := writeAt_size _ _ _ (by simp; omega)
  have hget : ∀ i, 4096 ≤ i → (writeAt cs p (s.data.toList.take q))[i]? = cs[i]? := fun i hi => by rw [writeAt_get _ _ _ _ (by simp; omega), if_neg (by simp; omega)]
  have HX : Hid ((s.extract 0 k).size = k) := hx1
  clear hx1
  with_reducible apply lex_e (fun w' => Blk w' g 42 (writeAt cs p (s.data.toList.take q)) ∧ w1.grownBy w' (some g))
  focus rfl
  focus rfl
  focus
    intro w' hw'
    subst hw'
    simp only [effAt]
    simp [go_sem, hcp]
    exact ⟨rfl, (setRow_blk (w := w1.drew.drew) hB_b _).1, grown_undrew (grown_undrew (setRow_blk (w := w1.drew.drew) hB_b _).2)⟩
  focus
    rintro w' ⟨h1, h2⟩
    exact fld_of h1 (by rw [hget _ (by omega)]; exact h96) (by rw [hget _ (by omega)]; exact h97) (by rw [hget _ (by omega)]; exact h98) (by rw [hget _ (by omega)]; exact h99)
  (simp only [Act.put, List.setIfInBounds_toArray, List.set_cons_zero, List.set_cons_succ]; rfl)
  clear hcp
  repeat (first | ((with_reducible apply lex_q); (focus rfl); (focus rfl); (focus (intro w' hS; obtain ⟨c96, c97, c98, c99⟩ := hS; simp [go_sem, effAt, ↓IntWalk.iteOmega, *]; (try go_ints); (first | (with_reducible exact effUpon_val) | (with_reducible exact effUpon_skip)))); (focus ((simp only [Act.put, List.setIfInBounds_toArray, List.set_cons_zero, List.set_cons_succ]; rfl)))) | ((with_reducible apply lex_s); (focus rfl); (focus ((simp only [Act.put, List.setIfInBounds_toArray, List.set_cons_zero, List.set_cons_succ]; rfl)))))
  with_reducible apply lex_nil
  rintro w2 ⟨hB2, hg2⟩
  repeat (first | with_reducible apply wpList_nil | with_reducible apply seq_region | with_reducible apply wp_region_lit | with_reducible apply wp_seq | with_reducible apply wp_block | with_reducible apply wp_skip | with_reducible apply wp_exit | with_reducible apply wp_ret | ((with_reducible apply wp_cond_true); (focus (first | rfl | (simp [go_sem, *]; done)))) | ((with_reducible apply wp_cond_false); (focus (first | rfl | (simp [go_sem, *]; done)))) | (simp only [Exit.then, Exit.inBlock, ↓reduceIte, Nat.reduceEqDiff]))
  obtain ⟨cs1, hcs1⟩ : ∃ cs1, writeAt cs p (s.data.toList.take q) = cs1 := ⟨_, rfl⟩
  rw [hcs1] at hB2 hs1 hget
  have g96 : cs1[4096]? = some (.int .i64 (f : Int)) := by rw [hget _ (by omega)]; exact h96
  have g97 : cs1[4097]? = some (.int .i64 (n : Int)) := by rw [hget _ (by omega)]; exact h97
  have g98 : cs1[4098]? = some (.int .i64 (r : Int)) := by rw [hget _ (by omega)]; exact h98
  have g99 : cs1[4099]? = some (.int .i64 (m : Int)) := by rw [hget _ (by omega)]; exact h99
  have hz1 : 4100 ≤ cs1.size := by omega
  have HC := Lib.hid hcs1
  clear hcs1 hs1 hget h96 h97 h98 h99 hc_b hB_b
  refine wp_region_eff (S := fun w' => Fld w' g f n r m) (I := (· = World.drew _)) (E := fun i => [12].contains i) (by kernel_rfl) (by kernel_rfl) rfl (fun w' h => h ▸ fld_of hB2.drew g96 g97 g98 g99) ?_
  repeat (first | ((with_reducible apply lex_q); (focus rfl); (focus rfl); (focus (intro w' hS; obtain ⟨c96, c97, c98, c99⟩ := hS; simp [go_sem, effAt, ↓IntWalk.iteOmega, *]; (try go_ints); (first | (with_reducible exact effUpon_val) | (with_reducible exact effUpon_skip)))); (focus ((simp only [Act.put, List.setIfInBounds_toArray, List.set_cons_zero, List.set_cons_succ]; rfl)))) | ((with_reducible apply lex_s); (focus rfl); (focus ((simp only [Act.put, List.setIfInBounds_toArray, List.set_cons_zero, List.set_cons_succ]; rfl)))))
  have hx1 : (s.extract q k).size = k - q := by simp; omega
  have hcp := run_copy_str w2.drew 3 g 0 r 4096 (k - q) 42 (s.extract q k) cs1 hB2.drew (by rw [hx1]; omega) (by omega)
  rw [drop_extract s q k (k - q) hk2 rfl] at hcp
  have hlen : ((s.data.toList.take k).drop q).length = k - q := by simp; omega
  have hget : ∀ i, 4096 ≤ i → (writeAt cs1 0 ((s.data.toList.take k).drop q))[i]? = cs1[i]? := fun i hi => by rw [writeAt_get _ _ _ _ (by omega), if_neg (by omega)]
  have HX1 := Lib.hid hx1
  have HL := Lib.hid hlen
  clear hx1 hlen
  with_reducible apply lex_e (fun w' => Blk w' g 42 (writeAt cs1 0 ((s.data.toList.take k).drop q)) ∧ w2.grownBy w' (some g))
  focus rfl
  focus rfl
  focus
    intro w' hw'
    subst hw'
    simp only [effAt]
    simp [go_sem, hcp]
    exact ⟨rfl, (setRow_blk (w := w2.drew) hB2 _).1, grown_undrew (setRow_blk (w := w2.drew) hB2 _).2⟩
  focus
    rintro w' ⟨h1, h2⟩
    exact fld_of h1 (by rw [hget _ (by omega)]; exact g96) (by rw [hget _ (by omega)]; exact g97) (by rw [hget _ (by omega)]; exact g98) (by rw [hget _ (by omega)]; exact g99)
  (simp only [Act.put, List.setIfInBounds_toArray, List.set_cons_zero, List.set_cons_succ]; rfl)
  clear hcp
  repeat (first | ((with_reducible apply lex_q); (focus rfl); (focus rfl); (focus (intro w' hS; obtain ⟨c96, c97, c98, c99⟩ := hS; simp [go_sem, effAt, ↓IntWalk.iteOmega, *]; (try go_ints); (first | (with_reducible exact effUpon_val) | (with_reducible exact effUpon_skip)))); (focus ((simp only [Act.put, List.setIfInBounds_toArray, List.set_cons_zero, List.set_cons_succ]; rfl)))) | ((with_reducible apply lex_s); (focus rfl); (focus ((simp only [Act.put, List.setIfInBounds_toArray, List.set_cons_zero, List.set_cons_succ]; rfl)))))
  with_reducible apply lex_nil
  rintro w3 ⟨hB3, hg3⟩
  have g97' := (hget 4097 (by omega)).trans g97
  obtain ⟨cs2, hcs2⟩ : ∃ cs2, writeAt cs1 0 ((s.data.toList.take k).drop q) = cs2 := ⟨_, rfl⟩
  rw [hcs2] at hB3 hget g97'
  have HC2 := Lib.hid hcs2
  clear hcs2 hget
  have hc3 := hB3.cell
  have hf3 := hB3.frozen
  repeat (first | with_reducible apply wpList_nil | with_reducible apply seq_region | with_reducible apply wp_region_lit | ((with_reducible apply seq_q); (focus rfl); (focus (simp [go_sem, effAt, ↓IntWalk.iteOmega, *]; (try go_ints); (first | (with_reducible exact effUpon_val) | (with_reducible exact effUpon_skip)))); (focus ((simp only [Act.put, List.setIfInBounds_toArray, List.set_cons_zero, List.set_cons_succ]; rfl)))) | ((with_reducible apply seq_s); (focus rfl); (focus ((simp only [Act.put, List.setIfInBounds_toArray, List.set_cons_zero, List.set_cons_succ]; rfl)))) | with_reducible apply wp_seq | with_reducible apply wp_block | with_reducible apply wp_skip | with_reducible apply wp_exit | with_reducible apply wp_ret | ((with_reducible apply wp_cond_true); (focus (first | rfl | (simp [go_sem, *]; done)))) | ((with_reducible apply wp_cond_false); (focus (first | rfl | (simp [go_sem, *]; done)))) | (simp only [Exit.then, Exit.inBlock, ↓reduceIte, Nat.reduceEqDiff]))
  with_reducible apply seq_e (fun w' => Blk w' g 42 (cs2.setIfInBounds 4097 (.int .i64 ((n : Int) + k))) ∧ w3.grownBy w' (some g))
  focus rfl
  focus
    simp [go_sem, effAt, *]
    exact ⟨rfl, hB3.set_ _ _, grown_set (World.grownBy.refl _ _)⟩
  (simp only [Act.put, List.setIfInBounds_toArray, List.set_cons_zero, List.set_cons_succ]; rfl)
  rintro w4 ⟨hB4, hg4⟩
  clear hc3 hf3
  repeat (first | with_reducible apply wpList_nil | with_reducible apply seq_region | with_reducible apply wp_region_lit | ((with_reducible apply seq_q); (focus rfl); (focus (simp [go_sem, effAt, ↓IntWalk.iteOmega, *]; (try go_ints); (first | (with_reducible exact effUpon_val) | (with_reducible exact effUpon_skip)))); (focus ((simp only [Act.put, List.setIfInBounds_toArray, List.set_cons_zero, List.set_cons_succ]; rfl)))) | ((with_reducible apply seq_s); (focus rfl); (focus ((simp only [Act.put, List.setIfInBounds_toArray, List.set_cons_zero, List.set_cons_succ]; rfl)))) | with_reducible apply wp_seq | with_reducible apply wp_block | with_reducible apply wp_skip | with_reducible apply wp_exit | with_reducible apply wp_ret | ((with_reducible apply wp_cond_true); (focus (first | rfl | (simp [go_sem, *]; done)))) | ((with_reducible apply wp_cond_false); (focus (first | rfl | (simp [go_sem, *]; done)))) | (simp only [Exit.then, Exit.inBlock, ↓reduceIte, Nat.reduceEqDiff]))
  go_ret
  refine ⟨rfl, ?_, ?_⟩
  · unfold putCells
    rw [← HQ.out, HC.out, HC2.out]
    exact hB4
  · exact grown_trans (grown_trans (grown_trans (grown_undrew' (grown_below Fw1 (some g))) hg2) hg3) hg4
theorem put_zero (g : Nat) (cs : Array Value) (n r : Nat) (s : ByteArray) (w : World) (hB_b : Blk w g 42 cs) (h97 : cs[4097]? = some (.int .i64 n)) (h98 : cs[4098]? = some (.int .i64 r))
    (b1 : n ≤ r) (b2 : r ≤ 4096) (hk : min s.size (r - n) = 0) :
    Calls Try.prog 13 #[.pointer (some ⟨g, 0, none⟩), .string s] w (Ret (.int .i64 0) (Below w.heap.size w)) := by
  have e1 : min ((r : Int) - n) (s.size : Int) = 0 := by omega
  clear hk
  go_enter Try.func13, Try.ntmps13
  have F0 : Below w.heap.size w w := Below.refl _ _
  have hc_b := hB_b.cell
  repeat (first | with_reducible apply wpList_nil | with_reducible apply seq_region | with_reducible apply wp_region_lit | ((with_reducible apply seq_q); (focus rfl); (focus (simp [go_sem, effAt, ↓IntWalk.iteOmega, *]; (try go_ints); (first | (with_reducible exact effUpon_val) | (with_reducible exact effUpon_skip)))); (focus ((simp only [Act.put, List.setIfInBounds_toArray, List.set_cons_zero, List.set_cons_succ]; rfl)))) | ((with_reducible apply seq_s); (focus rfl); (focus ((simp only [Act.put, List.setIfInBounds_toArray, List.set_cons_zero, List.set_cons_succ]; rfl)))) | with_reducible apply wp_seq | with_reducible apply wp_block | with_reducible apply wp_skip | with_reducible apply wp_exit | with_reducible apply wp_ret | ((with_reducible apply wp_cond_true); (focus (first | rfl | (simp [go_sem, *]; done)))) | ((with_reducible apply wp_cond_false); (focus (first | rfl | (simp [go_sem, *]; done)))) | (simp only [Exit.then, Exit.inBlock, ↓reduceIte, Nat.reduceEqDiff]))
  ((with_reducible apply seq_e (Below w.heap.size w)); (focus rfl); (focus (simp only [effAt]; simp [go_sem]; (with_reducible exact effUpon_enter (free_any g cs n r _ hB_b h97 h98 (by omega) (by omega))))); (focus ((simp only [Act.put, List.setIfInBounds_toArray, List.set_cons_zero, List.set_cons_succ]; rfl))))
  intro w1 hs
  have Fw1 := F0.trans (hs.mono F0.size)
  replace hB_b := hB_b.below hs hB_b.lt
  clear hs F0
  clear hc_b; have hc_b := hB_b.cell
  repeat (first | with_reducible apply wpList_nil | with_reducible apply seq_region | with_reducible apply wp_region_lit | ((with_reducible apply seq_q); (focus rfl); (focus (simp [go_sem, effAt, ↓IntWalk.iteOmega, *]; (try go_ints); (first | (with_reducible exact effUpon_val) | (with_reducible exact effUpon_skip)))); (focus ((simp only [Act.put, List.setIfInBounds_toArray, List.set_cons_zero, List.set_cons_succ]; rfl)))) | ((with_reducible apply seq_s); (focus rfl); (focus ((simp only [Act.put, List.setIfInBounds_toArray, List.set_cons_zero, List.set_cons_succ]; rfl)))) | with_reducible apply wp_seq | with_reducible apply wp_block | with_reducible apply wp_skip | with_reducible apply wp_exit | with_reducible apply wp_ret | ((with_reducible apply wp_cond_true); (focus (first | rfl | (simp [go_sem, *]; done)))) | ((with_reducible apply wp_cond_false); (focus (first | rfl | (simp [go_sem, *]; done)))) | (simp only [Exit.then, Exit.inBlock, ↓reduceIte, Nat.reduceEqDiff]))
  go_ret
  exact ⟨rfl, by assumption⟩
theorem put_nil (s : ByteArray) (w : World) : Calls Try.prog 13 #[.pointer none, .string s] w (Ret (.int .i64 0) (Below w.heap.size w)) := by
  have e1 : min (0 : Int) (s.size : Int) = 0 := by omega
  go_enter Try.func13, Try.ntmps13
  have F0 : Below w.heap.size w w := Below.refl _ _
  repeat (first | with_reducible apply wpList_nil | with_reducible apply seq_region | with_reducible apply wp_region_lit | ((with_reducible apply seq_q); (focus rfl); (focus (simp [go_sem, effAt, ↓IntWalk.iteOmega, *]; (try go_ints); (first | (with_reducible exact effUpon_val) | (with_reducible exact effUpon_skip)))); (focus ((simp only [Act.put, List.setIfInBounds_toArray, List.set_cons_zero, List.set_cons_succ]; rfl)))) | ((with_reducible apply seq_s); (focus rfl); (focus ((simp only [Act.put, List.setIfInBounds_toArray, List.set_cons_zero, List.set_cons_succ]; rfl)))) | with_reducible apply wp_seq | with_reducible apply wp_block | with_reducible apply wp_skip | with_reducible apply wp_exit | with_reducible apply wp_ret | ((with_reducible apply wp_cond_true); (focus (first | rfl | (simp [go_sem, *]; done)))) | ((with_reducible apply wp_cond_false); (focus (first | rfl | (simp [go_sem, *]; done)))) | (simp only [Exit.then, Exit.inBlock, ↓reduceIte, Nat.reduceEqDiff]))
  ((with_reducible apply seq_e (Below w.heap.size w)); (focus rfl); (focus (simp only [effAt]; simp [go_sem]; (with_reducible exact effUpon_enter (free_nil _)))); (focus ((simp only [Act.put, List.setIfInBounds_toArray, List.set_cons_zero, List.set_cons_succ]; rfl))))
  intro w1 hs
  have Fw1 := F0.trans (hs.mono F0.size)
  clear hs F0
  repeat (first | with_reducible apply wpList_nil | with_reducible apply seq_region | with_reducible apply wp_region_lit | ((with_reducible apply seq_q); (focus rfl); (focus (simp [go_sem, effAt, ↓IntWalk.iteOmega, *]; (try go_ints); (first | (with_reducible exact effUpon_val) | (with_reducible exact effUpon_skip)))); (focus ((simp only [Act.put, List.setIfInBounds_toArray, List.set_cons_zero, List.set_cons_succ]; rfl)))) | ((with_reducible apply seq_s); (focus rfl); (focus ((simp only [Act.put, List.setIfInBounds_toArray, List.set_cons_zero, List.set_cons_succ]; rfl)))) | with_reducible apply wp_seq | with_reducible apply wp_block | with_reducible apply wp_skip | with_reducible apply wp_exit | with_reducible apply wp_ret | ((with_reducible apply wp_cond_true); (focus (first | rfl | (simp [go_sem, *]; done)))) | ((with_reducible apply wp_cond_false); (focus (first | rfl | (simp [go_sem, *]; done)))) | (simp only [Exit.then, Exit.inBlock, ↓reduceIte, Nat.reduceEqDiff]))
  go_ret
  exact ⟨rfl, by assumption⟩
