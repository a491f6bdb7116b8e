/- The walk of law08.ref, of both Agree and of pn.Lowers. -/
import Derived.Test.YtcnckejeepkflaaW2
set_option linter.unusedSimpArgs false
set_option linter.unusedVariables false
namespace Go.Proofs.Ytcnckejeepkflaa
open Go.RowKit Go.Eff
set_option maxHeartbeats 400000 in
theorem ref_any (d f c p t n m k : Int) (w : World) : Calls Try.prog 10 #[.agg #[.int .u8 d, .int .u8 f, .int .u8 c, .int .u8 p, .int .i64 t, .int .i64 n, .int .i64 m, .int .i64 k]] w (Ret (.agg #[.int .u8 d, .int .u8 f, .int .u8 c, .int .u8 p, .int .i64 t, .int .i64 n, .int .i64 m, .int .i64 k]) (Below w.heap.size w)) := by
  go_enter Try.func10, Try.ntmps10
  go_wp2
  refine bodyPost_ret (v := .agg #[.int .u8 d, .int .u8 f, .int .u8 c, .int .u8 p, .int .i64 t, .int .i64 n, .int .i64 m, .int .i64 k]) (by simp [results, Try.results10, go_sem]) rfl ⟨rfl, ?_⟩
  repeat (first | exact Below.refl _ _ | refine Below.drew ?_ | refine Below.alloc ?_ (by first | (simp; done) | (simp; omega)) _ | refine Below.setCell ?_ (by first | (simp; done) | (simp; omega)) _)
set_option maxHeartbeats 400000 in
theorem agree_any (d f c p t n m k d' f' c' p' t' n' m' k' : Int) (w : World) : Calls Try.prog 15 #[.agg #[.int .u8 d, .int .u8 f, .int .u8 c, .int .u8 p, .int .i64 t, .int .i64 n, .int .i64 m, .int .i64 k], .agg #[.int .u8 d', .int .u8 f', .int .u8 c', .int .u8 p', .int .i64 t', .int .i64 n', .int .i64 m', .int .i64 k']] w
   (Ret (.agg #[.int .u8 d', .int .u8 f', .int .u8 c', .int .u8 p', .int .i64 t', .int .i64 (min n n'), .int .i64 m', .int .i64 (min k k')]) (Below w.heap.size w)) := by
  go_enter Try.func15, Try.ntmps15
  go_wp2
  go_region
  all_goals go_wp2
  all_goals
    refine bodyPost_ret (v := .agg #[.int .u8 d', .int .u8 f', .int .u8 c', .int .u8 p', .int .i64 t', .int .i64 (min n n'), .int .i64 m', .int .i64 (min k k')]) (by simp [results, Try.results15, go_sem, Int.min_comm]) rfl ⟨rfl, ?_⟩
    repeat (first | exact Below.refl _ _ | refine Below.drew ?_ | refine Below.alloc ?_ (by first | (simp; done) | (simp; omega)) _ | refine Below.setCell ?_ (by first | (simp; done) | (simp; omega)) _)
set_option maxHeartbeats 400000 in
theorem agree_ref (d f c p t n m k d' f' c' p' t' n' m' k' : Int) (w : World) : Calls Try.prog 16 #[.agg #[.int .u8 d, .int .u8 f, .int .u8 c, .int .u8 p, .int .i64 t, .int .i64 n, .int .i64 m, .int .i64 k], .agg #[.int .u8 d', .int .u8 f', .int .u8 c', .int .u8 p', .int .i64 t', .int .i64 n', .int .i64 m', .int .i64 k']] w
   (Ret (.agg #[.int .u8 d', .int .u8 f', .int .u8 c', .int .u8 p', .int .i64 t', .int .i64 (min n n'), .int .i64 m', .int .i64 (min k k')]) (Below w.heap.size w)) := by
  go_enter Try.func16, Try.ntmps16
  go_wp2
  refine bodyPost_ret (v := .agg #[.int .u8 d', .int .u8 f', .int .u8 c', .int .u8 p', .int .i64 t', .int .i64 (min n n'), .int .i64 m', .int .i64 (min k k')]) (by simp [results, Try.results16, go_sem, Int.min_comm]) rfl ⟨rfl, ?_⟩
  repeat (first | exact Below.refl _ _ | refine Below.drew ?_ | refine Below.alloc ?_ (by first | (simp; done) | (simp; omega)) _ | refine Below.setCell ?_ (by first | (simp; done) | (simp; omega)) _)

/-- lowers: the first is what the second is, N1 and K at most -/
def LowP (d f c p t n m k d' f' c' p' t' n' m' k' : Int) : Prop := d = d' ∧ f = f' ∧ c = c' ∧ p = p' ∧ t = t' ∧ m = m' ∧ n ≤ n' ∧ k ≤ k'
instance (d f c p t n m k d' f' c' p' t' n' m' k' : Int) : Decidable (LowP d f c p t n m k d' f' c' p' t' n' m' k') := by unfold LowP; infer_instance
def lowB (d f c p t n m k d' f' c' p' t' n' m' k' : Int) : Bool := decide (LowP d f c p t n m k d' f' c' p' t' n' m' k')
theorem low_eq (d f c p t n m k d' f' c' p' t' n' m' k' : Int) : (if d' = d then if f' = f then if c' = c then if p' = p then if t' = t then if min n n' = n then if m' = m then if min k k' = k then true else false else false else false else false else false else false else false else false)
    = lowB d f c p t n m k d' f' c' p' t' n' m' k' := by
  unfold lowB
  repeat' split
  all_goals first | (symm; rw [decide_eq_true_iff]; unfold LowP; omega) | (symm; rw [decide_eq_false_iff_not]; unfold LowP; omega)
set_option maxHeartbeats 400000 in
theorem lowers_any (d f c p t n m k d' f' c' p' t' n' m' k' : Int) (w : World) : Calls Try.prog 17 #[.agg #[.int .u8 d, .int .u8 f, .int .u8 c, .int .u8 p, .int .i64 t, .int .i64 n, .int .i64 m, .int .i64 k], .agg #[.int .u8 d', .int .u8 f', .int .u8 c', .int .u8 p', .int .i64 t', .int .i64 n', .int .i64 m', .int .i64 k']] w
   (Ret (.bool (lowB d f c p t n m k d' f' c' p' t' n' m' k')) (Below w.heap.size w)) := by
  go_enter Try.func17, Try.ntmps17
  have F0 : Below w.heap.size w w := Below.refl _ _
  with_reducible apply seq_region
  ((with_reducible apply seq_box); (focus rfl); (focus (simp [go_sem, effAt]; exact ⟨rfl, rfl⟩)); (focus ((simp only [Act.put, List.setIfInBounds_toArray, List.set_cons_zero, List.set_cons_succ]; rfl))))
  intro w1 hB_p hs
  have Fw1 := F0.trans (hs.mono F0.size)
  clear hs F0
  have hc_p := hB_p.cell
  have lt_p_q := hB_p.lt
  ((with_reducible apply seq_box); (focus rfl); (focus (simp [go_sem, effAt]; exact ⟨rfl, rfl⟩)); (focus ((simp only [Act.put, List.setIfInBounds_toArray, List.set_cons_zero, List.set_cons_succ]; rfl))))
  intro w2 hB_q hs
  have Fw2 := Fw1.trans (hs.mono Fw1.size)
  replace hB_p := hB_p.below hs hB_p.lt
  clear hs Fw1
  clear hc_p; have hc_p := hB_p.cell
  have hc_q := hB_q.cell
  repeat (first | with_reducible apply wpList_nil | with_reducible apply seq_region | with_reducible apply wp_region_lit | ((with_reducible apply seq_q); (focus rfl); (focus (simp [go_sem, effAt, ↓IntWalk.iteOmega, *]; (try go_ints); (first | (with_reducible exact effUpon_val) | (with_reducible exact effUpon_skip)))); (focus ((simp only [Act.put, List.setIfInBounds_toArray, List.set_cons_zero, List.set_cons_succ]; rfl)))) | ((with_reducible apply seq_s); (focus rfl); (focus ((simp only [Act.put, List.setIfInBounds_toArray, List.set_cons_zero, List.set_cons_succ]; rfl)))) | with_reducible apply wp_seq | with_reducible apply wp_block | with_reducible apply wp_skip | with_reducible apply wp_exit | with_reducible apply wp_ret | ((with_reducible apply wp_cond_true); (focus (first | rfl | (simp [go_sem, *]; done)))) | ((with_reducible apply wp_cond_false); (focus (first | rfl | (simp [go_sem, *]; done)))) | (simp only [Exit.then, Exit.inBlock, ↓reduceIte, Nat.reduceEqDiff]))
  refine wp_region_pure (E := fun i => [2].contains i) (by kernel_rfl) (by kernel_rfl) ?_
  repeat (first | ((with_reducible apply lex_q); (focus rfl); (focus rfl); (focus (intro w' hS; have hc_p := (hB_p.below hS hB_p.lt).cell; have hc_q := (hB_q.below hS hB_q.lt).cell; simp [go_sem, effAt, ↓IntWalk.iteOmega, *]; (try go_ints); (first | (with_reducible exact effUpon_val) | (with_reducible exact effUpon_skip)))); (focus ((simp only [Act.put, List.setIfInBounds_toArray, List.set_cons_zero, List.set_cons_succ]; rfl)))) | ((with_reducible apply lex_s); (focus rfl); (focus ((simp only [Act.put, List.setIfInBounds_toArray, List.set_cons_zero, List.set_cons_succ]; rfl)))))
  ((with_reducible apply lex_e (Below w2.heap.size w2)); (focus rfl); (focus rfl); (focus (intro w' hS; simp only [effAt]; simp [go_sem]; (with_reducible exact eff_call hS (agree_any _ _ _ _ _ _ _ _ _ _ _ _ _ _ _ _ _)))); (focus (exact fun _ h => h)); (focus ((simp only [Act.put, List.setIfInBounds_toArray, List.set_cons_zero, List.set_cons_succ]; rfl))))
  repeat (first | ((with_reducible apply lex_q); (focus rfl); (focus rfl); (focus (intro w' hS; have hc_p := (hB_p.below hS hB_p.lt).cell; have hc_q := (hB_q.below hS hB_q.lt).cell; simp [go_sem, effAt, ↓IntWalk.iteOmega, *]; (try go_ints); (first | (with_reducible exact effUpon_val) | (with_reducible exact effUpon_skip)))); (focus ((simp only [Act.put, List.setIfInBounds_toArray, List.set_cons_zero, List.set_cons_succ]; rfl)))) | ((with_reducible apply lex_s); (focus rfl); (focus ((simp only [Act.put, List.setIfInBounds_toArray, List.set_cons_zero, List.set_cons_succ]; rfl)))))
  with_reducible apply lex_nil
  intro w3 hs
  have Fw3 := Fw2.trans (hs.mono Fw2.size)
  replace hB_p := hB_p.below hs hB_p.lt
  replace hB_q := hB_q.below hs hB_q.lt
  clear hs Fw2
  clear hc_p; have hc_p := hB_p.cell
  clear hc_q; have hc_q := hB_q.cell
  repeat (first | with_reducible apply wpList_nil | with_reducible apply seq_region | with_reducible apply wp_region_lit | ((with_reducible apply seq_q); (focus rfl); (focus (simp [go_sem, effAt, ↓IntWalk.iteOmega, *]; (try go_ints); (first | (with_reducible exact effUpon_val) | (with_reducible exact effUpon_skip)))); (focus ((simp only [Act.put, List.setIfInBounds_toArray, List.set_cons_zero, List.set_cons_succ]; rfl)))) | ((with_reducible apply seq_s); (focus rfl); (focus ((simp only [Act.put, List.setIfInBounds_toArray, List.set_cons_zero, List.set_cons_succ]; rfl)))) | with_reducible apply wp_seq | with_reducible apply wp_block | with_reducible apply wp_skip | with_reducible apply wp_exit | with_reducible apply wp_ret | ((with_reducible apply wp_cond_true); (focus (first | rfl | (simp [go_sem, *]; done)))) | ((with_reducible apply wp_cond_false); (focus (first | rfl | (simp [go_sem, *]; done)))) | (simp only [Exit.then, Exit.inBlock, ↓reduceIte, Nat.reduceEqDiff]))
  go_ret
  exact ⟨by simp [← low_eq], by assumption⟩
