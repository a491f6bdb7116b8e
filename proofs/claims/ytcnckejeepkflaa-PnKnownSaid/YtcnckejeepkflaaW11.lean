/- The walk of PnBack. -/
import Derived.Test.YtcnckejeepkflaaW10
import Derived.Test.YtcnckejeepkflaaKf
import Derived.Test.YtcnckejeepkflaaOh
import Derived.Deep.DeepCutAuto
set_option linter.unusedSimpArgs false
set_option linter.unusedVariables false
namespace Go.Proofs.Ytcnckejeepkflaa
open Go.RowKit Go.Eff
attribute [local irreducible] Go.wpList Go.wpAnyH Go.wpOp
set_option maxRecDepth 100000 in
set_option maxHeartbeats 8000000 in
theorem back_small (d f c p t n m k d' f' c' p' t' n' m' k' : Int) (v : ByteArray) (w : World) (hd' : 0 ≤ d' ∧ d' ≤ 255) (hf' : 0 ≤ f') (hc' : 0 ≤ c') (hp' : 0 ≤ p') (hv : v.size ≤ 100) :
   Calls Try.prog 5 #[.agg #[.int .u8 d, .int .u8 f, .int .u8 c, .int .u8 p, .int .i64 t, .int .i64 n, .int .i64 m, .int .i64 k], .agg #[.int .u8 d', .int .u8 f', .int .u8 c', .int .u8 p', .int .i64 t', .int .i64 n', .int .i64 m', .int .i64 k'], .string v] w (Ret (.bool true) (Below w.heap.size w)) := by
  have hlt : ¬ ((100 : Int) < (v.size : Int)) := by omega
  obtain ⟨S, e, x, hP1, d1, f1, c1, p1, t1, n1, m1, k1, hG1, hcase1⟩ := back_first d' f' c' p' t' n' m' k' hd' hf' hc' hp'
  obtain ⟨g, h, d2, f2, c2, p2, t2, n2, m2, k2, T, hG2, hP2, hcase2⟩ := back_second v (by omega)
  clear hd' hf' hc' hp' hv
  have hM := fun w1 => may_any d' f' c' p' t' n' m' k' w1
  have hMo := fun w1 => may_any d f c p t n m k w1
  have hMg := fun w1 => may_any d' f' c' p' t' (min n n') m' (min k k') w1
  have hA1 := fun w1 => agree_any d f c p t n m k d' f' c' p' t' n' m' k' w1
  have hA2 := fun w1 => agree_any d' f' c' p' t' n' m' k' d f c p t n m k w1
  have hA3 := fun w1 => agree_any d f c p t n m k d' f' c' p' t' (min n n') m' (min k k') w1
  have hA4 := fun w1 => agree_any d' f' c' p' t' n' m' k' d' f' c' p' t' (min n n') m' (min k k') w1
  have hL := fun w1 => lowers_any d' f' c' p' t' (min n n') m' (min k k') d' f' c' p' t' n' m' k' w1
  have hz : mayB d f c p t n m k = true → mayB d' f' c' p' t' n' m' k' = true → mayB d' f' c' p' t' (min n n') m' (min k k') = true := fun h h' => mayB_t (may_agreed (of_decide_eq_true h) (of_decide_eq_true h'))
  rw [low_agreed] at hL
  have en : min n' n = min n n' := Int.min_comm _ _
  have ek : min k' k = min k k' := Int.min_comm _ _
  have en3 : min n (min n n') = min n n' := by omega
  have ek3 : min k (min k k') = min k k' := by omega
  have en4 : min n' (min n n') = min n n' := by omega
  have ek4 : min k' (min k k') = min k k' := by omega
  rw [en, ek] at hA2
  rw [en3, ek3] at hA3
  rw [en4, ek4] at hA4
  clear en ek en3 ek3 en4 ek4
  have hN : ¬ n < min n n' := by omega
  have hK : ¬ k < min k k' := by omega
  generalize min n n' = N at *
  generalize min k k' = M at *
  generalize mayB d f c p t n m k = xo at *
  generalize mayB d' f' c' p' t' N m' M = xg at *
  obtain ⟨xa, hxa⟩ : ∃ xa, mayB d' f' c' p' t' n' m' k' = xa := ⟨_, rfl⟩
  rw [hxa] at hz
  have hMa : ∀ w1, Calls Try.prog 13 #[.agg #[.int .u8 d', .int .u8 f', .int .u8 c', .int .u8 p', .int .i64 t', .int .i64 n', .int .i64 m', .int .i64 k']] w1 (Ret (.bool xa) (Below w1.heap.size w1)) := fun w1 => hxa ▸ hM w1
  clear hxa
  have HZ := Lib.hid hz
  clear hz
  have HC1 := Lib.hid hcase1
  have HC2 := Lib.hid hcase2
  clear hcase1 hcase2
  go_enter Try.func5, Try.ntmps5
  have F0 : Below w.heap.size w w := Below.refl _ _
  with_reducible apply region_k
  intro KK kk
  ((with_reducible apply seq_box); (focus rfl); (focus (simp [go_sem, effAt]; exact ⟨rfl, rfl⟩)); (focus ((first | (apply put_some rfl; focus (conv => lhs; dsimp only [List.set_cons_zero, List.set_cons_succ]) <;> rfl) | exact put_none rfl))))
  intro w1 hB_p hs
  have Fw1 := F0.trans (hs.mono F0.size)
  clear hs F0
  have hc_p := hB_p.cell
  have lt_p_q := hB_p.lt
  ((with_reducible apply seq_box); (focus rfl); (focus (simp [go_sem, effAt]; exact ⟨rfl, rfl⟩)); (focus ((first | (apply put_some rfl; focus (conv => lhs; dsimp only [List.set_cons_zero, List.set_cons_succ]) <;> rfl) | exact put_none rfl))))
  intro w2 hB_q hs
  have Fw2 := Fw1.trans (hs.mono Fw1.size)
  replace hB_p := hB_p.below hs hB_p.lt
  clear hs Fw1
  clear hc_p; have hc_p := hB_p.cell
  have hc_q := hB_q.cell
  repeat (first | with_reducible apply wpList_nil | ((with_reducible apply region_k); intro KK kk) | with_reducible apply wp_region_lit | ((with_reducible apply seq_k); intro KK kk) | ((with_reducible apply seq_q); (focus (first | exact wanted_none rfl | exact wanted_yes rfl rfl rfl)); (focus (simp [go_sem, effAt, ↓IntWalk.iteOmega, *]; (try go_ints); (first | (with_reducible exact effUpon_val) | (with_reducible exact effUpon_skip)))); (focus ((first | (apply put_some rfl; focus (conv => lhs; dsimp only [List.set_cons_zero, List.set_cons_succ]) <;> rfl) | exact put_none rfl)))) | ((with_reducible apply seq_s); (focus (first | exact wanted_no rfl rfl rfl | exact wanted_undef rfl rfl rfl)); (focus ((first | (apply put_some rfl; focus (conv => lhs; dsimp only [List.set_cons_zero, List.set_cons_succ]) <;> rfl) | exact put_none rfl)))) | with_reducible apply wp_block | with_reducible apply wp_skip | with_reducible apply wp_exit | with_reducible apply wp_ret | ((with_reducible apply wp_cond_true); (focus (first | rfl | (simp [go_sem, *]; done)))) | ((with_reducible apply wp_cond_false); (focus (first | rfl | (simp [go_sem, *]; done)))) | (simp only [Exit.then, Exit.inBlock, ↓reduceIte, Nat.reduceEqDiff]) | ((with_reducible apply kf_out); (focus assumption)))
  ((with_reducible apply seq_e (Below w2.heap.size w2)); (focus rfl); (focus (simp only [effAt]; simp [go_sem]; (with_reducible exact effUpon_enter (hP1 _)))); (focus ((first | (apply put_some rfl; focus (conv => lhs; dsimp only [List.set_cons_zero, List.set_cons_succ]) <;> rfl) | exact put_none rfl))))
  intro w3 hs
  have Fw3 := Fw2.trans (hs.mono Fw2.size)
  replace hB_p := hB_p.below hs hB_p.lt
  replace hB_q := hB_q.below hs hB_q.lt
  clear hs Fw2
  clear hc_p; have hc_p := hB_p.cell
  clear hc_q; have hc_q := hB_q.cell
  repeat (first | with_reducible apply wpList_nil | ((with_reducible apply region_k); intro KK kk) | with_reducible apply wp_region_lit | ((with_reducible apply seq_k); intro KK kk) | ((with_reducible apply seq_q); (focus (first | exact wanted_none rfl | exact wanted_yes rfl rfl rfl)); (focus (simp [go_sem, effAt, ↓IntWalk.iteOmega, *]; (try go_ints); (first | (with_reducible exact effUpon_val) | (with_reducible exact effUpon_skip)))); (focus ((first | (apply put_some rfl; focus (conv => lhs; dsimp only [List.set_cons_zero, List.set_cons_succ]) <;> rfl) | exact put_none rfl)))) | ((with_reducible apply seq_s); (focus (first | exact wanted_no rfl rfl rfl | exact wanted_undef rfl rfl rfl)); (focus ((first | (apply put_some rfl; focus (conv => lhs; dsimp only [List.set_cons_zero, List.set_cons_succ]) <;> rfl) | exact put_none rfl)))) | with_reducible apply wp_block | with_reducible apply wp_skip | with_reducible apply wp_exit | with_reducible apply wp_ret | ((with_reducible apply wp_cond_true); (focus (first | rfl | (simp [go_sem, *]; done)))) | ((with_reducible apply wp_cond_false); (focus (first | rfl | (simp [go_sem, *]; done)))) | (simp only [Exit.then, Exit.inBlock, ↓reduceIte, Nat.reduceEqDiff]) | ((with_reducible apply kf_out); (focus assumption)))
  ((with_reducible apply seq_e (Below w3.heap.size w3)); (focus rfl); (focus (simp only [effAt]; simp [go_sem]; (with_reducible exact effUpon_enter (hG1 _)))); (focus ((first | (apply put_some rfl; focus (conv => lhs; dsimp only [List.set_cons_zero, List.set_cons_succ]) <;> rfl) | exact put_none rfl))))
  intro w4 hs
  have Fw4 := Fw3.trans (hs.mono Fw3.size)
  replace hB_p := hB_p.below hs hB_p.lt
  replace hB_q := hB_q.below hs hB_q.lt
  clear hs Fw3
  clear hc_p; have hc_p := hB_p.cell
  clear hc_q; have hc_q := hB_q.cell
  repeat (first | with_reducible apply wpList_nil | ((with_reducible apply region_k); intro KK kk) | with_reducible apply wp_region_lit | ((with_reducible apply seq_k); intro KK kk) | ((with_reducible apply seq_q); (focus (first | exact wanted_none rfl | exact wanted_yes rfl rfl rfl)); (focus (simp [go_sem, effAt, ↓IntWalk.iteOmega, *]; (try go_ints); (first | (with_reducible exact effUpon_val) | (with_reducible exact effUpon_skip)))); (focus ((first | (apply put_some rfl; focus (conv => lhs; dsimp only [List.set_cons_zero, List.set_cons_succ]) <;> rfl) | exact put_none rfl)))) | ((with_reducible apply seq_s); (focus (first | exact wanted_no rfl rfl rfl | exact wanted_undef rfl rfl rfl)); (focus ((first | (apply put_some rfl; focus (conv => lhs; dsimp only [List.set_cons_zero, List.set_cons_succ]) <;> rfl) | exact put_none rfl)))) | with_reducible apply wp_block | with_reducible apply wp_skip | with_reducible apply wp_exit | with_reducible apply wp_ret | ((with_reducible apply wp_cond_true); (focus (first | rfl | (simp [go_sem, *]; done)))) | ((with_reducible apply wp_cond_false); (focus (first | rfl | (simp [go_sem, *]; done)))) | (simp only [Exit.then, Exit.inBlock, ↓reduceIte, Nat.reduceEqDiff]) | ((with_reducible apply kf_out); (focus assumption)))
  have lt_p_a := hB_p.lt
  have lt_q_a := hB_q.lt
  ((with_reducible apply seq_box); (focus rfl); (focus (simp [go_sem, effAt]; exact ⟨rfl, rfl⟩)); (focus ((first | (apply put_some rfl; focus (conv => lhs; dsimp only [List.set_cons_zero, List.set_cons_succ]) <;> rfl) | exact put_none rfl))))
  intro w5 hB_a hs
  have Fw5 := Fw4.trans (hs.mono Fw4.size)
  replace hB_p := hB_p.below hs hB_p.lt
  replace hB_q := hB_q.below hs hB_q.lt
  clear hs Fw4
  clear hc_p; have hc_p := hB_p.cell
  clear hc_q; have hc_q := hB_q.cell
  have hc_a := hB_a.cell
  have hf_a := hB_a.frozen
  ((with_reducible apply seq_e (fun w' => Blk w' _ _ _ ∧ w5.grownBy w' (some _))); (focus rfl); (focus (simp [go_sem, effAt, *]; exact ⟨rfl, ((((((((hB_a.set_ 0 _).set_ 1 _).set_ 2 _).set_ 3 _).set_ 4 _).set_ 5 _).set_ 6 _).set_ 7 _), (grown_set (grown_set (grown_set (grown_set (grown_set (grown_set (grown_set (grown_set (World.grownBy.refl _ _)))))))))⟩)); (focus ((first | (apply put_some rfl; focus (conv => lhs; dsimp only [List.set_cons_zero, List.set_cons_succ]) <;> rfl) | exact put_none rfl))))
  clear hf_a hc_a hB_a
  intro w6 hs
  obtain ⟨hB_a, hs⟩ := hs
  simp only [List.setIfInBounds_toArray, List.set_cons_zero, List.set_cons_succ] at hB_a
  have Fw6 := Fw5.grown hs Fw5.size (by intro k hk; first | (injection hk with hk; subst hk; first | exact Nat.le_refl _ | exact Fw5.size | omega) | omega)
  replace hB_p := hB_p.grown hs (by intro hk; injection hk with hk; have := hB_p.lt; have := hB_a.lt; omega)
  replace hB_q := hB_q.grown hs (by intro hk; injection hk with hk; have := hB_q.lt; have := hB_a.lt; omega)
  clear hs Fw5
  clear hc_p; have hc_p := hB_p.cell
  clear hc_q; have hc_q := hB_q.cell
  have hc_a := hB_a.cell
  repeat (first | ((with_reducible apply seq_q); (focus (first | exact wanted_none rfl | exact wanted_yes rfl rfl rfl)); (focus (simp [go_sem, effAt, ↓IntWalk.iteOmega, *]; (try go_ints); (first | (with_reducible exact effUpon_val) | (with_reducible exact effUpon_skip)))); (focus ((first | (apply put_some rfl; focus (conv => lhs; dsimp only [List.set_cons_zero, List.set_cons_succ]) <;> rfl) | exact put_none rfl)))) | ((with_reducible apply seq_s); (focus (first | exact wanted_no rfl rfl rfl | exact wanted_undef rfl rfl rfl)); (focus ((first | (apply put_some rfl; focus (conv => lhs; dsimp only [List.set_cons_zero, List.set_cons_succ]) <;> rfl) | exact put_none rfl)))))
  with_reducible apply wpList_nil
  (simp only [Exit.then, Exit.inBlock, ↓reduceIte, Nat.reduceEqDiff])
  (with_reducible apply kf_out); (focus assumption)
  (with_reducible apply seq_k); intro KK kk
  go_cut [] (fun wx => Blk wx w.heap.size 23 #[.int .u8 d, .int .u8 f, .int .u8 c, .int .u8 p, .int .i64 t, .int .i64 n, .int .i64 m, .int .i64 k] ∧ Blk wx w1.heap.size 23 #[.int .u8 d', .int .u8 f', .int .u8 c', .int .u8 p', .int .i64 t', .int .i64 n', .int .i64 m', .int .i64 k'] ∧ Below w.heap.size w wx)
  case first =>
    rename_i hJJ hKK
    have hJJ := Lib.hid hJJ
    have hKK := Lib.hid hKK
    rcases HC1.out with ⟨rfl, rfl, hm, rfl, rfl, rfl, rfl, rfl, rfl, rfl, rfl⟩ | ⟨rfl, rfl, hm⟩
    case inl =>
      rw [hm] at hM
      clear hm HC1 HC2
      repeat (first | with_reducible apply wpList_nil | ((with_reducible apply region_k); intro KK kk) | with_reducible apply wp_region_lit | ((with_reducible apply seq_k); intro KK kk) | ((with_reducible apply seq_q); (focus (first | exact wanted_none rfl | exact wanted_yes rfl rfl rfl)); (focus (simp [go_sem, effAt, ↓IntWalk.iteOmega, *]; (try go_ints); (first | (with_reducible exact effUpon_val) | (with_reducible exact effUpon_skip)))); (focus ((first | (apply put_some rfl; focus (conv => lhs; dsimp only [List.set_cons_zero, List.set_cons_succ]) <;> rfl) | exact put_none rfl)))) | ((with_reducible apply seq_s); (focus (first | exact wanted_no rfl rfl rfl | exact wanted_undef rfl rfl rfl)); (focus ((first | (apply put_some rfl; focus (conv => lhs; dsimp only [List.set_cons_zero, List.set_cons_succ]) <;> rfl) | exact put_none rfl)))) | with_reducible apply wp_block | with_reducible apply wp_skip | with_reducible apply wp_exit | with_reducible apply wp_ret | ((with_reducible apply wp_cond_true); (focus (first | rfl | (simp [go_sem, *]; done)))) | ((with_reducible apply wp_cond_false); (focus (first | rfl | (simp [go_sem, *]; done)))) | (simp only [Exit.then, Exit.inBlock, ↓reduceIte, Nat.reduceEqDiff]) | ((with_reducible apply kf_out); (focus assumption)))
      ((with_reducible apply seq_e (Below w6.heap.size w6)); (focus rfl); (focus (simp only [effAt]; simp [go_sem]; (with_reducible exact effUpon_enter (hM _)))); (focus ((first | (apply put_some rfl; focus (conv => lhs; dsimp only [List.set_cons_zero, List.set_cons_succ]) <;> rfl) | exact put_none rfl))))
      intro w7 hs
      have Fw7 := Fw6.trans (hs.mono Fw6.size)
      replace hB_p := hB_p.below hs hB_p.lt
      replace hB_q := hB_q.below hs hB_q.lt
      replace hB_a := hB_a.below hs hB_a.lt
      clear hs Fw6
      clear hc_p; have hc_p := hB_p.cell
      clear hc_q; have hc_q := hB_q.cell
      clear hc_a; have hc_a := hB_a.cell
      repeat (first | with_reducible apply wpList_nil | ((with_reducible apply region_k); intro KK kk) | with_reducible apply wp_region_lit | ((with_reducible apply seq_k); intro KK kk) | ((with_reducible apply seq_q); (focus (first | exact wanted_none rfl | exact wanted_yes rfl rfl rfl)); (focus (simp [go_sem, effAt, ↓IntWalk.iteOmega, *]; (try go_ints); (first | (with_reducible exact effUpon_val) | (with_reducible exact effUpon_skip)))); (focus ((first | (apply put_some rfl; focus (conv => lhs; dsimp only [List.set_cons_zero, List.set_cons_succ]) <;> rfl) | exact put_none rfl)))) | ((with_reducible apply seq_s); (focus (first | exact wanted_no rfl rfl rfl | exact wanted_undef rfl rfl rfl)); (focus ((first | (apply put_some rfl; focus (conv => lhs; dsimp only [List.set_cons_zero, List.set_cons_succ]) <;> rfl) | exact put_none rfl)))) | with_reducible apply wp_block | with_reducible apply wp_skip | with_reducible apply wp_exit | with_reducible apply wp_ret | ((with_reducible apply wp_cond_true); (focus (first | rfl | (simp [go_sem, *]; done)))) | ((with_reducible apply wp_cond_false); (focus (first | rfl | (simp [go_sem, *]; done)))) | (simp only [Exit.then, Exit.inBlock, ↓reduceIte, Nat.reduceEqDiff]) | ((with_reducible apply kf_out); (focus assumption)))
      refine hKK.out _ _ (Met.intro (hJJ.out _ _ ?_))
      (repeat apply Exists.intro)
      refine ⟨?rel, rfl⟩
      case rel => exact ⟨hB_p, hB_q, by assumption⟩
    case inr =>
      rw [hm] at hM
      clear hm HC1 HC2
      repeat (first | with_reducible apply wpList_nil | ((with_reducible apply region_k); intro KK kk) | with_reducible apply wp_region_lit | ((with_reducible apply seq_k); intro KK kk) | ((with_reducible apply seq_q); (focus (first | exact wanted_none rfl | exact wanted_yes rfl rfl rfl)); (focus (simp [go_sem, effAt, ↓IntWalk.iteOmega, *]; (try go_ints); (first | (with_reducible exact effUpon_val) | (with_reducible exact effUpon_skip)))); (focus ((first | (apply put_some rfl; focus (conv => lhs; dsimp only [List.set_cons_zero, List.set_cons_succ]) <;> rfl) | exact put_none rfl)))) | ((with_reducible apply seq_s); (focus (first | exact wanted_no rfl rfl rfl | exact wanted_undef rfl rfl rfl)); (focus ((first | (apply put_some rfl; focus (conv => lhs; dsimp only [List.set_cons_zero, List.set_cons_succ]) <;> rfl) | exact put_none rfl)))) | with_reducible apply wp_block | with_reducible apply wp_skip | with_reducible apply wp_exit | with_reducible apply wp_ret | ((with_reducible apply wp_cond_true); (focus (first | rfl | (simp [go_sem, *]; done)))) | ((with_reducible apply wp_cond_false); (focus (first | rfl | (simp [go_sem, *]; done)))) | (simp only [Exit.then, Exit.inBlock, ↓reduceIte, Nat.reduceEqDiff]) | ((with_reducible apply kf_out); (focus assumption)))
      ((with_reducible apply seq_e (Below w6.heap.size w6)); (focus rfl); (focus (simp only [effAt]; simp [go_sem]; (with_reducible exact effUpon_enter (hM _)))); (focus ((first | (apply put_some rfl; focus (conv => lhs; dsimp only [List.set_cons_zero, List.set_cons_succ]) <;> rfl) | exact put_none rfl))))
      intro w8 hs
      have Fw8 := Fw6.trans (hs.mono Fw6.size)
      replace hB_p := hB_p.below hs hB_p.lt
      replace hB_q := hB_q.below hs hB_q.lt
      replace hB_a := hB_a.below hs hB_a.lt
      clear hs Fw6
      clear hc_p; have hc_p := hB_p.cell
      clear hc_q; have hc_q := hB_q.cell
      clear hc_a; have hc_a := hB_a.cell
      repeat (first | with_reducible apply wpList_nil | ((with_reducible apply region_k); intro KK kk) | with_reducible apply wp_region_lit | ((with_reducible apply seq_k); intro KK kk) | ((with_reducible apply seq_q); (focus (first | exact wanted_none rfl | exact wanted_yes rfl rfl rfl)); (focus (simp [go_sem, effAt, ↓IntWalk.iteOmega, *]; (try go_ints); (first | (with_reducible exact effUpon_val) | (with_reducible exact effUpon_skip)))); (focus ((first | (apply put_some rfl; focus (conv => lhs; dsimp only [List.set_cons_zero, List.set_cons_succ]) <;> rfl) | exact put_none rfl)))) | ((with_reducible apply seq_s); (focus (first | exact wanted_no rfl rfl rfl | exact wanted_undef rfl rfl rfl)); (focus ((first | (apply put_some rfl; focus (conv => lhs; dsimp only [List.set_cons_zero, List.set_cons_succ]) <;> rfl) | exact put_none rfl)))) | with_reducible apply wp_block | with_reducible apply wp_skip | with_reducible apply wp_exit | with_reducible apply wp_ret | ((with_reducible apply wp_cond_true); (focus (first | rfl | (simp [go_sem, *]; done)))) | ((with_reducible apply wp_cond_false); (focus (first | rfl | (simp [go_sem, *]; done)))) | (simp only [Exit.then, Exit.inBlock, ↓reduceIte, Nat.reduceEqDiff]) | ((with_reducible apply kf_out); (focus assumption)))
      refine hKK.out _ _ (Met.intro (hJJ.out _ _ ?_))
      (repeat apply Exists.intro)
      refine ⟨?rel, rfl⟩
      case rel => exact ⟨hB_p, hB_q, by assumption⟩
  case rest =>
    clear hB_p hB_q hB_a hc_p hc_q hc_a Fw6 HC1 hP1 hG1 hM
    obtain ⟨hB_p, hB_q, Fwc⟩ := hcut
    skip
    have hc_p := hB_p.cell
    have hc_q := hB_q.cell
    repeat (first | with_reducible apply wpList_nil | ((with_reducible apply region_k); intro KK kk) | with_reducible apply wp_region_lit | ((with_reducible apply seq_k); intro KK kk) | ((with_reducible apply seq_q); (focus (first | exact wanted_none rfl | exact wanted_yes rfl rfl rfl)); (focus (simp [go_sem, effAt, ↓IntWalk.iteOmega, *]; (try go_ints); (first | (with_reducible exact effUpon_val) | (with_reducible exact effUpon_skip)))); (focus ((first | (apply put_some rfl; focus (conv => lhs; dsimp only [List.set_cons_zero, List.set_cons_succ]) <;> rfl) | exact put_none rfl)))) | ((with_reducible apply seq_s); (focus (first | exact wanted_no rfl rfl rfl | exact wanted_undef rfl rfl rfl)); (focus ((first | (apply put_some rfl; focus (conv => lhs; dsimp only [List.set_cons_zero, List.set_cons_succ]) <;> rfl) | exact put_none rfl)))) | with_reducible apply wp_block | with_reducible apply wp_skip | with_reducible apply wp_exit | with_reducible apply wp_ret | ((with_reducible apply wp_cond_true); (focus (first | rfl | (simp [go_sem, *]; done)))) | ((with_reducible apply wp_cond_false); (focus (first | rfl | (simp [go_sem, *]; done)))) | (simp only [Exit.then, Exit.inBlock, ↓reduceIte, Nat.reduceEqDiff]) | ((with_reducible apply kf_out); (focus assumption)))
    ((with_reducible apply seq_e (Below wc.heap.size wc)); (focus rfl); (focus (simp only [effAt]; simp [go_sem]; (with_reducible exact effUpon_enter (hG2 _)))); (focus ((first | (apply put_some rfl; focus (conv => lhs; dsimp only [List.set_cons_zero, List.set_cons_succ]) <;> rfl) | exact put_none rfl))))
    intro w9 hs
    have Fw9 := Fwc.trans (hs.mono Fwc.size)
    replace hB_p := hB_p.below hs hB_p.lt
    replace hB_q := hB_q.below hs hB_q.lt
    clear hs Fwc
    clear hc_p; have hc_p := hB_p.cell
    clear hc_q; have hc_q := hB_q.cell
    repeat (first | with_reducible apply wpList_nil | ((with_reducible apply region_k); intro KK kk) | with_reducible apply wp_region_lit | ((with_reducible apply seq_k); intro KK kk) | ((with_reducible apply seq_q); (focus (first | exact wanted_none rfl | exact wanted_yes rfl rfl rfl)); (focus (simp [go_sem, effAt, ↓IntWalk.iteOmega, *]; (try go_ints); (first | (with_reducible exact effUpon_val) | (with_reducible exact effUpon_skip)))); (focus ((first | (apply put_some rfl; focus (conv => lhs; dsimp only [List.set_cons_zero, List.set_cons_succ]) <;> rfl) | exact put_none rfl)))) | ((with_reducible apply seq_s); (focus (first | exact wanted_no rfl rfl rfl | exact wanted_undef rfl rfl rfl)); (focus ((first | (apply put_some rfl; focus (conv => lhs; dsimp only [List.set_cons_zero, List.set_cons_succ]) <;> rfl) | exact put_none rfl)))) | with_reducible apply wp_block | with_reducible apply wp_skip | with_reducible apply wp_exit | with_reducible apply wp_ret | ((with_reducible apply wp_cond_true); (focus (first | rfl | (simp [go_sem, *]; done)))) | ((with_reducible apply wp_cond_false); (focus (first | rfl | (simp [go_sem, *]; done)))) | (simp only [Exit.then, Exit.inBlock, ↓reduceIte, Nat.reduceEqDiff]) | ((with_reducible apply kf_out); (focus assumption)))
    have lt_p_a := hB_p.lt
    have lt_q_a := hB_q.lt
    ((with_reducible apply seq_box); (focus rfl); (focus (simp [go_sem, effAt]; exact ⟨rfl, rfl⟩)); (focus ((first | (apply put_some rfl; focus (conv => lhs; dsimp only [List.set_cons_zero, List.set_cons_succ]) <;> rfl) | exact put_none rfl))))
    intro w10 hB_a hs
    have Fw10 := Fw9.trans (hs.mono Fw9.size)
    replace hB_p := hB_p.below hs hB_p.lt
    replace hB_q := hB_q.below hs hB_q.lt
    clear hs Fw9
    clear hc_p; have hc_p := hB_p.cell
    clear hc_q; have hc_q := hB_q.cell
    have hc_a := hB_a.cell
    have hf_a := hB_a.frozen
    ((with_reducible apply seq_e (fun w' => Blk w' _ _ _ ∧ w10.grownBy w' (some _))); (focus rfl); (focus (simp [go_sem, effAt, *]; exact ⟨rfl, ((((((((hB_a.set_ 0 _).set_ 1 _).set_ 2 _).set_ 3 _).set_ 4 _).set_ 5 _).set_ 6 _).set_ 7 _), (grown_set (grown_set (grown_set (grown_set (grown_set (grown_set (grown_set (grown_set (World.grownBy.refl _ _)))))))))⟩)); (focus ((first | (apply put_some rfl; focus (conv => lhs; dsimp only [List.set_cons_zero, List.set_cons_succ]) <;> rfl) | exact put_none rfl))))
    clear hf_a hc_a hB_a
    intro w11 hs
    obtain ⟨hB_a, hs⟩ := hs
    simp only [List.setIfInBounds_toArray, List.set_cons_zero, List.set_cons_succ] at hB_a
    have Fw11 := Fw10.grown hs Fw10.size (by intro k hk; first | (injection hk with hk; subst hk; first | exact Nat.le_refl _ | exact Fw10.size | omega) | omega)
    replace hB_p := hB_p.grown hs (by intro hk; injection hk with hk; have := hB_p.lt; have := hB_a.lt; omega)
    replace hB_q := hB_q.grown hs (by intro hk; injection hk with hk; have := hB_q.lt; have := hB_a.lt; omega)
    clear hs Fw10
    clear hc_p; have hc_p := hB_p.cell
    clear hc_q; have hc_q := hB_q.cell
    have hc_a := hB_a.cell
    repeat (first | with_reducible apply wpList_nil | ((with_reducible apply region_k); intro KK kk) | with_reducible apply wp_region_lit | ((with_reducible apply seq_k); intro KK kk) | ((with_reducible apply seq_q); (focus (first | exact wanted_none rfl | exact wanted_yes rfl rfl rfl)); (focus (simp [go_sem, effAt, ↓IntWalk.iteOmega, *]; (try go_ints); (first | (with_reducible exact effUpon_val) | (with_reducible exact effUpon_skip)))); (focus ((first | (apply put_some rfl; focus (conv => lhs; dsimp only [List.set_cons_zero, List.set_cons_succ]) <;> rfl) | exact put_none rfl)))) | ((with_reducible apply seq_s); (focus (first | exact wanted_no rfl rfl rfl | exact wanted_undef rfl rfl rfl)); (focus ((first | (apply put_some rfl; focus (conv => lhs; dsimp only [List.set_cons_zero, List.set_cons_succ]) <;> rfl) | exact put_none rfl)))) | with_reducible apply wp_block | with_reducible apply wp_skip | with_reducible apply wp_exit | with_reducible apply wp_ret | ((with_reducible apply wp_cond_true); (focus (first | rfl | (simp [go_sem, *]; done)))) | ((with_reducible apply wp_cond_false); (focus (first | rfl | (simp [go_sem, *]; done)))) | (simp only [Exit.then, Exit.inBlock, ↓reduceIte, Nat.reduceEqDiff]) | ((with_reducible apply kf_out); (focus assumption)))
    ((with_reducible apply seq_e (Below w11.heap.size w11)); (focus rfl); (focus (simp only [effAt]; simp [go_sem]; (with_reducible exact effUpon_enter (hP2 _)))); (focus ((first | (apply put_some rfl; focus (conv => lhs; dsimp only [List.set_cons_zero, List.set_cons_succ]) <;> rfl) | exact put_none rfl))))
    intro w12 hs
    have Fw12 := Fw11.trans (hs.mono Fw11.size)
    replace hB_p := hB_p.below hs hB_p.lt
    replace hB_q := hB_q.below hs hB_q.lt
    replace hB_a := hB_a.below hs hB_a.lt
    clear hs Fw11
    clear hc_p; have hc_p := hB_p.cell
    clear hc_q; have hc_q := hB_q.cell
    clear hc_a; have hc_a := hB_a.cell
    repeat (first | ((with_reducible apply seq_q); (focus (first | exact wanted_none rfl | exact wanted_yes rfl rfl rfl)); (focus (simp [go_sem, effAt, ↓IntWalk.iteOmega, *]; (try go_ints); (first | (with_reducible exact effUpon_val) | (with_reducible exact effUpon_skip)))); (focus ((first | (apply put_some rfl; focus (conv => lhs; dsimp only [List.set_cons_zero, List.set_cons_succ]) <;> rfl) | exact put_none rfl)))) | ((with_reducible apply seq_s); (focus (first | exact wanted_no rfl rfl rfl | exact wanted_undef rfl rfl rfl)); (focus ((first | (apply put_some rfl; focus (conv => lhs; dsimp only [List.set_cons_zero, List.set_cons_succ]) <;> rfl) | exact put_none rfl)))))
    with_reducible apply wpList_nil
    (simp only [Exit.then, Exit.inBlock, ↓reduceIte, Nat.reduceEqDiff])
    (with_reducible apply kf_out); (focus assumption)
    (with_reducible apply seq_k); intro KK kk
    go_cut [] (fun wx => Blk wx w.heap.size 23 #[.int .u8 d, .int .u8 f, .int .u8 c, .int .u8 p, .int .i64 t, .int .i64 n, .int .i64 m, .int .i64 k] ∧ Blk wx w1.heap.size 23 #[.int .u8 d', .int .u8 f', .int .u8 c', .int .u8 p', .int .i64 t', .int .i64 n', .int .i64 m', .int .i64 k'] ∧ Below w.heap.size w wx)
    case first =>
      rename_i hJJ hKK
      have hJJ := Lib.hid hJJ
      have hKK := Lib.hid hKK
      rcases HC2.out with ⟨rfl, rfl, rfl⟩ | ⟨hg1, hg2, rfl, rfl, rfl, rfl, rfl, rfl, rfl, rfl⟩
      case inl =>
        clear HC2
        repeat (first | with_reducible apply wpList_nil | ((with_reducible apply region_k); intro KK kk) | with_reducible apply wp_region_lit | ((with_reducible apply seq_k); intro KK kk) | ((with_reducible apply seq_q); (focus (first | exact wanted_none rfl | exact wanted_yes rfl rfl rfl)); (focus (simp [go_sem, effAt, ↓IntWalk.iteOmega, *]; (try go_ints); (first | (with_reducible exact effUpon_val) | (with_reducible exact effUpon_skip)))); (focus ((first | (apply put_some rfl; focus (conv => lhs; dsimp only [List.set_cons_zero, List.set_cons_succ]) <;> rfl) | exact put_none rfl)))) | ((with_reducible apply seq_s); (focus (first | exact wanted_no rfl rfl rfl | exact wanted_undef rfl rfl rfl)); (focus ((first | (apply put_some rfl; focus (conv => lhs; dsimp only [List.set_cons_zero, List.set_cons_succ]) <;> rfl) | exact put_none rfl)))) | with_reducible apply wp_block | with_reducible apply wp_skip | with_reducible apply wp_exit | with_reducible apply wp_ret | ((with_reducible apply wp_cond_true); (focus (first | rfl | (simp [go_sem, *]; done)))) | ((with_reducible apply wp_cond_false); (focus (first | rfl | (simp [go_sem, *]; done)))) | (simp only [Exit.then, Exit.inBlock, ↓reduceIte, Nat.reduceEqDiff]) | ((with_reducible apply kf_out); (focus assumption)))
        refine hKK.out _ _ (Met.intro (hJJ.out _ _ ?_))
        (repeat apply Exists.intro)
        refine ⟨?rel, rfl⟩
        case rel => exact ⟨hB_p, hB_q, by assumption⟩
      case inr =>
        clear HC2
        repeat (first | with_reducible apply wpList_nil | ((with_reducible apply region_k); intro KK kk) | with_reducible apply wp_region_lit | ((with_reducible apply seq_k); intro KK kk) | ((with_reducible apply seq_q); (focus (first | exact wanted_none rfl | exact wanted_yes rfl rfl rfl)); (focus (simp [go_sem, effAt, ↓IntWalk.iteOmega, *]; (try go_ints); (first | (with_reducible exact effUpon_val) | (with_reducible exact effUpon_skip)))); (focus ((first | (apply put_some rfl; focus (conv => lhs; dsimp only [List.set_cons_zero, List.set_cons_succ]) <;> rfl) | exact put_none rfl)))) | ((with_reducible apply seq_s); (focus (first | exact wanted_no rfl rfl rfl | exact wanted_undef rfl rfl rfl)); (focus ((first | (apply put_some rfl; focus (conv => lhs; dsimp only [List.set_cons_zero, List.set_cons_succ]) <;> rfl) | exact put_none rfl)))) | with_reducible apply wp_block | with_reducible apply wp_skip | with_reducible apply wp_exit | with_reducible apply wp_ret | ((with_reducible apply wp_cond_true); (focus (first | rfl | (simp [go_sem, *]; done)))) | ((with_reducible apply wp_cond_false); (focus (first | rfl | (simp [go_sem, *]; done)))) | (simp only [Exit.then, Exit.inBlock, ↓reduceIte, Nat.reduceEqDiff]) | ((with_reducible apply kf_out); (focus assumption)))
        refine hKK.out _ _ (Met.intro (hJJ.out _ _ ?_))
        (repeat apply Exists.intro)
        refine ⟨?rel, rfl⟩
        case rel => exact ⟨hB_p, hB_q, by assumption⟩
    case rest =>
      clear hB_p hB_q hB_a hc_p hc_q hc_a HC2 hP2 hG2
      obtain ⟨hB_p, hB_q, Fwc⟩ := hcut
      skip
      have hc_p := hB_p.cell
      have hc_q := hB_q.cell
      repeat (first | with_reducible apply wpList_nil | ((with_reducible apply region_k); intro KK kk) | with_reducible apply wp_region_lit | ((with_reducible apply seq_k); intro KK kk) | ((with_reducible apply seq_q); (focus (first | exact wanted_none rfl | exact wanted_yes rfl rfl rfl)); (focus (simp [go_sem, effAt, ↓IntWalk.iteOmega, *]; (try go_ints); (first | (with_reducible exact effUpon_val) | (with_reducible exact effUpon_skip)))); (focus ((first | (apply put_some rfl; focus (conv => lhs; dsimp only [List.set_cons_zero, List.set_cons_succ]) <;> rfl) | exact put_none rfl)))) | ((with_reducible apply seq_s); (focus (first | exact wanted_no rfl rfl rfl | exact wanted_undef rfl rfl rfl)); (focus ((first | (apply put_some rfl; focus (conv => lhs; dsimp only [List.set_cons_zero, List.set_cons_succ]) <;> rfl) | exact put_none rfl)))) | with_reducible apply wp_block | with_reducible apply wp_skip | with_reducible apply wp_exit | with_reducible apply wp_ret | ((with_reducible apply wp_cond_true); (focus (first | rfl | (simp [go_sem, *]; done)))) | ((with_reducible apply wp_cond_false); (focus (first | rfl | (simp [go_sem, *]; done)))) | (simp only [Exit.then, Exit.inBlock, ↓reduceIte, Nat.reduceEqDiff]) | ((with_reducible apply kf_out); (focus assumption)))
      go_cut [15, 16] (fun s15 s16 wx => ∃ ga gb, s15 = .pointer (some ⟨ga, 0, none⟩) ∧ s16 = .pointer (some ⟨gb, 0, none⟩) ∧ Blk wx ga 23 #[.int .u8 d', .int .u8 f', .int .u8 c', .int .u8 p', .int .i64 t', .int .i64 N, .int .i64 m', .int .i64 M] ∧ Blk wx gb 23 #[.int .u8 d, .int .u8 f, .int .u8 c, .int .u8 p, .int .i64 t, .int .i64 N, .int .i64 m, .int .i64 M] ∧ Blk wx w.heap.size 23 #[.int .u8 d, .int .u8 f, .int .u8 c, .int .u8 p, .int .i64 t, .int .i64 n, .int .i64 m, .int .i64 k] ∧ Blk wx w1.heap.size 23 #[.int .u8 d', .int .u8 f', .int .u8 c', .int .u8 p', .int .i64 t', .int .i64 n', .int .i64 m', .int .i64 k'] ∧ Below w.heap.size w wx)
      case first =>
        rename_i hJJ hKK
        have hJJ := Lib.hid hJJ
        have hKK := Lib.hid hKK
        clear hA3 hA4 hL hMo hMa hMg HZ hN hK hlt
        refine held_region 10 (Below wc.heap.size wc) (by kernel_rfl) (by kernel_rfl) ?_
        have F0 : Below wc.heap.size wc wc.drew := (Below.refl _ _).drew
        generalize wc.drew = u0 at F0 ⊢
        (with_reducible apply held_q 0 (.agg #[.int .u8 d, .int .u8 f, .int .u8 c, .int .u8 p, .int .i64 t, .int .i64 n, .int .i64 m, .int .i64 k]))
        (focus rfl)
        (focus kernel_rfl)
        (focus kernel_rfl)
        (focus kernel_rfl)
        (focus exact fun _ _ _ h => h)
        (focus rfl)
        (focus (intro w' hS; have hc_p := (hB_p.below hS hB_p.lt).cell; have hc_q := (hB_q.below hS hB_q.lt).cell; simp [go_sem, *]; done))
        (focus exact F0)
        (focus (first | (apply put_some rfl; focus (conv => lhs; dsimp only [List.set_cons_zero, List.set_cons_succ]) <;> rfl) | exact put_none rfl))
        (with_reducible apply held_q 1 (.agg #[.int .u8 d', .int .u8 f', .int .u8 c', .int .u8 p', .int .i64 t', .int .i64 n', .int .i64 m', .int .i64 k']))
        (focus rfl)
        (focus kernel_rfl)
        (focus kernel_rfl)
        (focus kernel_rfl)
        (focus exact fun _ _ _ h => h)
        (focus rfl)
        (focus (intro w' hS; have hc_p := (hB_p.below hS hB_p.lt).cell; have hc_q := (hB_q.below hS hB_q.lt).cell; simp [go_sem, *]; done))
        (focus exact F0)
        (focus (first | (apply put_some rfl; focus (conv => lhs; dsimp only [List.set_cons_zero, List.set_cons_succ]) <;> rfl) | exact put_none rfl))
        (with_reducible apply held_q 3 (.agg #[.int .u8 d', .int .u8 f', .int .u8 c', .int .u8 p', .int .i64 t', .int .i64 n', .int .i64 m', .int .i64 k']))
        (focus rfl)
        (focus kernel_rfl)
        (focus kernel_rfl)
        (focus kernel_rfl)
        (focus exact fun _ _ _ h => h)
        (focus rfl)
        (focus (intro w' hS; have hc_p := (hB_p.below hS hB_p.lt).cell; have hc_q := (hB_q.below hS hB_q.lt).cell; simp [go_sem, *]; done))
        (focus exact F0)
        (focus (first | (apply put_some rfl; focus (conv => lhs; dsimp only [List.set_cons_zero, List.set_cons_succ]) <;> rfl) | exact put_none rfl))
        (with_reducible apply held_q 4 (.agg #[.int .u8 d, .int .u8 f, .int .u8 c, .int .u8 p, .int .i64 t, .int .i64 n, .int .i64 m, .int .i64 k]))
        (focus rfl)
        (focus kernel_rfl)
        (focus kernel_rfl)
        (focus kernel_rfl)
        (focus exact fun _ _ _ h => h)
        (focus rfl)
        (focus (intro w' hS; have hc_p := (hB_p.below hS hB_p.lt).cell; have hc_q := (hB_q.below hS hB_q.lt).cell; simp [go_sem, *]; done))
        (focus exact F0)
        (focus (first | (apply put_some rfl; focus (conv => lhs; dsimp only [List.set_cons_zero, List.set_cons_succ]) <;> rfl) | exact put_none rfl))
        clear hc_p hc_q
        refine wpAnyH_all (rs := [2, 6, 7]) (by kernel_rfl) (by simp) ?_
        refine List.forall_mem_cons.2 ⟨?_, List.forall_mem_cons.2 ⟨?_, List.forall_mem_cons.2 ⟨?_, by intro _ h; cases h⟩⟩⟩
        · (with_reducible apply held_e (Below u0.heap.size u0))
          (focus rfl)
          (focus rfl)
          (focus (simp only [effAt]; simp [go_sem]; (with_reducible exact effUpon_enter (hA1 _))))
          (focus (first | (apply put_some rfl; focus (conv => lhs; dsimp only [List.set_cons_zero, List.set_cons_succ]) <;> rfl) | exact put_none rfl))
          (focus exact fun w' h => F0.trans (h.mono F0.size))
          intro u1w hs
          have G1 := F0.trans (hs.mono F0.size)
          clear hs
          refine wpAnyH_all (rs := [5, 6, 7]) (by kernel_rfl) (by simp) ?_
          refine List.forall_mem_cons.2 ⟨?_, List.forall_mem_cons.2 ⟨?_, List.forall_mem_cons.2 ⟨?_, by intro _ h; cases h⟩⟩⟩
          · (with_reducible apply held_e (Below u1w.heap.size u1w))
            (focus rfl)
            (focus rfl)
            (focus (simp only [effAt]; simp [go_sem]; (with_reducible exact effUpon_enter (hA2 _))))
            (focus (first | (apply put_some rfl; focus (conv => lhs; dsimp only [List.set_cons_zero, List.set_cons_succ]) <;> rfl) | exact put_none rfl))
            (focus exact fun w' h => G1.trans (h.mono G1.size))
            intro u2w hs
            have G2 := G1.trans (hs.mono G1.size)
            clear hs
            refine wpAnyH_all (rs := [6, 7]) (by kernel_rfl) (by simp) ?_
            refine List.forall_mem_cons.2 ⟨?_, List.forall_mem_cons.2 ⟨?_, by intro _ h; cases h⟩⟩
            · (with_reducible apply held_e (fun w' => Blk w' u2w.heap.size _ _ ∧ Below u2w.heap.size u2w w'))
              (focus rfl)
              (focus rfl)
              (focus (simp [go_sem, effAt]; exact ⟨rfl, Blk.new _ _ _, (Below.refl _ _).alloc (Nat.le_refl _) _⟩))
              (focus (first | (apply put_some rfl; focus (conv => lhs; dsimp only [List.set_cons_zero, List.set_cons_succ]) <;> rfl) | exact put_none rfl))
              (focus exact fun w' h => G2.trans (h.2.mono G2.size))
              intro u3w hs
              obtain ⟨hB_a, hs⟩ := hs
              have G3 := G2.trans (hs.mono G2.size)
              have le_a := G2.size
              clear hs
              refine wpAnyH_all (rs := [7]) (by kernel_rfl) (by simp) ?_
              refine List.forall_mem_cons.2 ⟨?_, by intro _ h; cases h⟩
              · (with_reducible apply held_e (fun w' => Blk w' u3w.heap.size _ _ ∧ Below u3w.heap.size u3w w'))
                (focus rfl)
                (focus rfl)
                (focus (simp [go_sem, effAt]; exact ⟨rfl, Blk.new _ _ _, (Below.refl _ _).alloc (Nat.le_refl _) _⟩))
                (focus (first | (apply put_some rfl; focus (conv => lhs; dsimp only [List.set_cons_zero, List.set_cons_succ]) <;> rfl) | exact put_none rfl))
                (focus exact fun w' h => G3.trans (h.2.mono G3.size))
                intro u4w hs
                obtain ⟨hB_b, hs⟩ := hs
                have G4 := G3.trans (hs.mono G3.size)
                have le_b := G3.size
                have lt_a_b := hB_a.lt
                replace hB_a := hB_a.below hs hB_a.lt
                clear hs
                refine wpAnyH_all (rs := [8]) (by kernel_rfl) (by simp) ?_
                refine List.forall_mem_cons.2 ⟨?_, by intro _ h; cases h⟩
                · (with_reducible apply held_e (fun w' => Blk w' _ _ _ ∧ u4w.grownBy w' (some _)))
                  (focus rfl)
                  (focus rfl)
                  (focus (have hcx := hB_a.cell; have hfx := hB_a.frozen; simp [go_sem, effAt, *]; exact ⟨rfl, store8 hB_a, grown8⟩))
                  (focus (first | (apply put_some rfl; focus (conv => lhs; dsimp only [List.set_cons_zero, List.set_cons_succ]) <;> rfl) | exact put_none rfl))
                  (focus exact fun w' h => G4.grown h.2 G4.size (by intro k hk; injection hk with hk; omega))
                  intro u5w hs
                  obtain ⟨hB, hs⟩ := hs
                  have G5 := G4.grown hs G4.size (by intro k hk; injection hk with hk; omega)
                  replace hB_b := hB_b.grown hs (by intro hk; injection hk with hk; omega)
                  replace hB_a := hB
                  clear hs hB
                  refine wpAnyH_all (rs := [9]) (by kernel_rfl) (by simp) ?_
                  refine List.forall_mem_cons.2 ⟨?_, by intro _ h; cases h⟩
                  · (with_reducible apply held_e (fun w' => Blk w' _ _ _ ∧ u5w.grownBy w' (some _)))
                    (focus rfl)
                    (focus rfl)
                    (focus (have hcx := hB_b.cell; have hfx := hB_b.frozen; simp [go_sem, effAt, *]; exact ⟨rfl, store8 hB_b, grown8⟩))
                    (focus (first | (apply put_some rfl; focus (conv => lhs; dsimp only [List.set_cons_zero, List.set_cons_succ]) <;> rfl) | exact put_none rfl))
                    (focus exact fun w' h => G5.grown h.2 G5.size (by intro k hk; injection hk with hk; omega))
                    intro u6w hs
                    obtain ⟨hB, hs⟩ := hs
                    have G6 := G5.grown hs G5.size (by intro k hk; injection hk with hk; omega)
                    replace hB_a := hB_a.grown hs (by intro hk; injection hk with hk; omega)
                    replace hB_b := hB
                    clear hs hB
                    (with_reducible apply held_done)
                    (focus kernel_rfl)
                    (simp only [Exit.then, Exit.inBlock, ↓reduceIte, Nat.reduceEqDiff])
                    refine hKK.out _ _ (Met.intro (hJJ.out _ _ ?_))
                    (repeat apply Exists.intro)
                    refine ⟨?rel, rfl⟩
                    case rel => exact ⟨_, _, rfl, rfl, hB_a, hB_b, hB_p.below G6 hB_p.lt, hB_q.below G6 hB_q.lt, Fwc.trans (G6.mono Fwc.size)⟩
            · (with_reducible apply held_e (fun w' => Blk w' u2w.heap.size _ _ ∧ Below u2w.heap.size u2w w'))
              (focus rfl)
              (focus rfl)
              (focus (simp [go_sem, effAt]; exact ⟨rfl, Blk.new _ _ _, (Below.refl _ _).alloc (Nat.le_refl _) _⟩))
              (focus (first | (apply put_some rfl; focus (conv => lhs; dsimp only [List.set_cons_zero, List.set_cons_succ]) <;> rfl) | exact put_none rfl))
              (focus exact fun w' h => G2.trans (h.2.mono G2.size))
              intro u7w hs
              obtain ⟨hB_b, hs⟩ := hs
              have G7 := G2.trans (hs.mono G2.size)
              have le_b := G2.size
              clear hs
              refine wpAnyH_all (rs := [6]) (by kernel_rfl) (by simp) ?_
              refine List.forall_mem_cons.2 ⟨?_, by intro _ h; cases h⟩
              · (with_reducible apply held_e (fun w' => Blk w' u7w.heap.size _ _ ∧ Below u7w.heap.size u7w w'))
                (focus rfl)
                (focus rfl)
                (focus (simp [go_sem, effAt]; exact ⟨rfl, Blk.new _ _ _, (Below.refl _ _).alloc (Nat.le_refl _) _⟩))
                (focus (first | (apply put_some rfl; focus (conv => lhs; dsimp only [List.set_cons_zero, List.set_cons_succ]) <;> rfl) | exact put_none rfl))
                (focus exact fun w' h => G7.trans (h.2.mono G7.size))
                intro u8w hs
                obtain ⟨hB_a, hs⟩ := hs
                have G8 := G7.trans (hs.mono G7.size)
                have le_a := G7.size
                have lt_b_a := hB_b.lt
                replace hB_b := hB_b.below hs hB_b.lt
                clear hs
                refine wpAnyH_all (rs := [8]) (by kernel_rfl) (by simp) ?_
                refine List.forall_mem_cons.2 ⟨?_, by intro _ h; cases h⟩
                · (with_reducible apply held_e (fun w' => Blk w' _ _ _ ∧ u8w.grownBy w' (some _)))
                  (focus rfl)
                  (focus rfl)
                  (focus (have hcx := hB_a.cell; have hfx := hB_a.frozen; simp [go_sem, effAt, *]; exact ⟨rfl, store8 hB_a, grown8⟩))
                  (focus (first | (apply put_some rfl; focus (conv => lhs; dsimp only [List.set_cons_zero, List.set_cons_succ]) <;> rfl) | exact put_none rfl))
                  (focus exact fun w' h => G8.grown h.2 G8.size (by intro k hk; injection hk with hk; omega))
                  intro u9w hs
                  obtain ⟨hB, hs⟩ := hs
                  have G9 := G8.grown hs G8.size (by intro k hk; injection hk with hk; omega)
                  replace hB_b := hB_b.grown hs (by intro hk; injection hk with hk; omega)
                  replace hB_a := hB
                  clear hs hB
                  refine wpAnyH_all (rs := [9]) (by kernel_rfl) (by simp) ?_
                  refine List.forall_mem_cons.2 ⟨?_, by intro _ h; cases h⟩
                  · (with_reducible apply held_e (fun w' => Blk w' _ _ _ ∧ u9w.grownBy w' (some _)))
                    (focus rfl)
                    (focus rfl)
                    (focus (have hcx := hB_b.cell; have hfx := hB_b.frozen; simp [go_sem, effAt, *]; exact ⟨rfl, store8 hB_b, grown8⟩))
                    (focus (first | (apply put_some rfl; focus (conv => lhs; dsimp only [List.set_cons_zero, List.set_cons_succ]) <;> rfl) | exact put_none rfl))
                    (focus exact fun w' h => G9.grown h.2 G9.size (by intro k hk; injection hk with hk; omega))
                    intro u10w hs
                    obtain ⟨hB, hs⟩ := hs
                    have G10 := G9.grown hs G9.size (by intro k hk; injection hk with hk; omega)
                    replace hB_a := hB_a.grown hs (by intro hk; injection hk with hk; omega)
                    replace hB_b := hB
                    clear hs hB
                    (with_reducible apply held_done)
                    (focus kernel_rfl)
                    (simp only [Exit.then, Exit.inBlock, ↓reduceIte, Nat.reduceEqDiff])
                    refine hKK.out _ _ (Met.intro (hJJ.out _ _ ?_))
                    (repeat apply Exists.intro)
                    refine ⟨?rel, rfl⟩
                    case rel => exact ⟨_, _, rfl, rfl, hB_a, hB_b, hB_p.below G10 hB_p.lt, hB_q.below G10 hB_q.lt, Fwc.trans (G10.mono Fwc.size)⟩
          · (with_reducible apply held_e (fun w' => Blk w' u1w.heap.size _ _ ∧ Below u1w.heap.size u1w w'))
            (focus rfl)
            (focus rfl)
            (focus (simp [go_sem, effAt]; exact ⟨rfl, Blk.new _ _ _, (Below.refl _ _).alloc (Nat.le_refl _) _⟩))
            (focus (first | (apply put_some rfl; focus (conv => lhs; dsimp only [List.set_cons_zero, List.set_cons_succ]) <;> rfl) | exact put_none rfl))
            (focus exact fun w' h => G1.trans (h.2.mono G1.size))
            intro u11w hs
            obtain ⟨hB_a, hs⟩ := hs
            have G11 := G1.trans (hs.mono G1.size)
            have le_a := G1.size
            clear hs
            refine wpAnyH_all (rs := [5, 7]) (by kernel_rfl) (by simp) ?_
            refine List.forall_mem_cons.2 ⟨?_, List.forall_mem_cons.2 ⟨?_, by intro _ h; cases h⟩⟩
            · (with_reducible apply held_e (Below u11w.heap.size u11w))
              (focus rfl)
              (focus rfl)
              (focus (simp only [effAt]; simp [go_sem]; (with_reducible exact effUpon_enter (hA2 _))))
              (focus (first | (apply put_some rfl; focus (conv => lhs; dsimp only [List.set_cons_zero, List.set_cons_succ]) <;> rfl) | exact put_none rfl))
              (focus exact fun w' h => G11.trans (h.mono G11.size))
              intro u12w hs
              have G12 := G11.trans (hs.mono G11.size)
              replace hB_a := hB_a.below hs hB_a.lt
              clear hs
              refine wpAnyH_all (rs := [7]) (by kernel_rfl) (by simp) ?_
              refine List.forall_mem_cons.2 ⟨?_, by intro _ h; cases h⟩
              · (with_reducible apply held_e (fun w' => Blk w' u12w.heap.size _ _ ∧ Below u12w.heap.size u12w w'))
                (focus rfl)
                (focus rfl)
                (focus (simp [go_sem, effAt]; exact ⟨rfl, Blk.new _ _ _, (Below.refl _ _).alloc (Nat.le_refl _) _⟩))
                (focus (first | (apply put_some rfl; focus (conv => lhs; dsimp only [List.set_cons_zero, List.set_cons_succ]) <;> rfl) | exact put_none rfl))
                (focus exact fun w' h => G12.trans (h.2.mono G12.size))
                intro u13w hs
                obtain ⟨hB_b, hs⟩ := hs
                have G13 := G12.trans (hs.mono G12.size)
                have le_b := G12.size
                have lt_a_b := hB_a.lt
                replace hB_a := hB_a.below hs hB_a.lt
                clear hs
                refine wpAnyH_all (rs := [8]) (by kernel_rfl) (by simp) ?_
                refine List.forall_mem_cons.2 ⟨?_, by intro _ h; cases h⟩
                · (with_reducible apply held_e (fun w' => Blk w' _ _ _ ∧ u13w.grownBy w' (some _)))
                  (focus rfl)
                  (focus rfl)
                  (focus (have hcx := hB_a.cell; have hfx := hB_a.frozen; simp [go_sem, effAt, *]; exact ⟨rfl, store8 hB_a, grown8⟩))
                  (focus (first | (apply put_some rfl; focus (conv => lhs; dsimp only [List.set_cons_zero, List.set_cons_succ]) <;> rfl) | exact put_none rfl))
                  (focus exact fun w' h => G13.grown h.2 G13.size (by intro k hk; injection hk with hk; omega))
                  intro u14w hs
                  obtain ⟨hB, hs⟩ := hs
                  have G14 := G13.grown hs G13.size (by intro k hk; injection hk with hk; omega)
                  replace hB_b := hB_b.grown hs (by intro hk; injection hk with hk; omega)
                  replace hB_a := hB
                  clear hs hB
                  refine wpAnyH_all (rs := [9]) (by kernel_rfl) (by simp) ?_
                  refine List.forall_mem_cons.2 ⟨?_, by intro _ h; cases h⟩
                  · (with_reducible apply held_e (fun w' => Blk w' _ _ _ ∧ u14w.grownBy w' (some _)))
                    (focus rfl)
                    (focus rfl)
                    (focus (have hcx := hB_b.cell; have hfx := hB_b.frozen; simp [go_sem, effAt, *]; exact ⟨rfl, store8 hB_b, grown8⟩))
                    (focus (first | (apply put_some rfl; focus (conv => lhs; dsimp only [List.set_cons_zero, List.set_cons_succ]) <;> rfl) | exact put_none rfl))
                    (focus exact fun w' h => G14.grown h.2 G14.size (by intro k hk; injection hk with hk; omega))
                    intro u15w hs
                    obtain ⟨hB, hs⟩ := hs
                    have G15 := G14.grown hs G14.size (by intro k hk; injection hk with hk; omega)
                    replace hB_a := hB_a.grown hs (by intro hk; injection hk with hk; omega)
                    replace hB_b := hB
                    clear hs hB
                    (with_reducible apply held_done)
                    (focus kernel_rfl)
                    (simp only [Exit.then, Exit.inBlock, ↓reduceIte, Nat.reduceEqDiff])
                    refine hKK.out _ _ (Met.intro (hJJ.out _ _ ?_))
                    (repeat apply Exists.intro)
                    refine ⟨?rel, rfl⟩
                    case rel => exact ⟨_, _, rfl, rfl, hB_a, hB_b, hB_p.below G15 hB_p.lt, hB_q.below G15 hB_q.lt, Fwc.trans (G15.mono Fwc.size)⟩
            · (with_reducible apply held_e (fun w' => Blk w' u11w.heap.size _ _ ∧ Below u11w.heap.size u11w w'))
              (focus rfl)
              (focus rfl)
              (focus (simp [go_sem, effAt]; exact ⟨rfl, Blk.new _ _ _, (Below.refl _ _).alloc (Nat.le_refl _) _⟩))
              (focus (first | (apply put_some rfl; focus (conv => lhs; dsimp only [List.set_cons_zero, List.set_cons_succ]) <;> rfl) | exact put_none rfl))
              (focus exact fun w' h => G11.trans (h.2.mono G11.size))
              intro u16w hs
              obtain ⟨hB_b, hs⟩ := hs
              have G16 := G11.trans (hs.mono G11.size)
              have le_b := G11.size
              have lt_a_b := hB_a.lt
              replace hB_a := hB_a.below hs hB_a.lt
              clear hs
              refine wpAnyH_all (rs := [5]) (by kernel_rfl) (by simp) ?_
              refine List.forall_mem_cons.2 ⟨?_, by intro _ h; cases h⟩
              · (with_reducible apply held_e (Below u16w.heap.size u16w))
                (focus rfl)
                (focus rfl)
                (focus (simp only [effAt]; simp [go_sem]; (with_reducible exact effUpon_enter (hA2 _))))
                (focus (first | (apply put_some rfl; focus (conv => lhs; dsimp only [List.set_cons_zero, List.set_cons_succ]) <;> rfl) | exact put_none rfl))
                (focus exact fun w' h => G16.trans (h.mono G16.size))
                intro u17w hs
                have G17 := G16.trans (hs.mono G16.size)
                replace hB_a := hB_a.below hs hB_a.lt
                replace hB_b := hB_b.below hs hB_b.lt
                clear hs
                refine wpAnyH_all (rs := [8]) (by kernel_rfl) (by simp) ?_
                refine List.forall_mem_cons.2 ⟨?_, by intro _ h; cases h⟩
                · (with_reducible apply held_e (fun w' => Blk w' _ _ _ ∧ u17w.grownBy w' (some _)))
                  (focus rfl)
                  (focus rfl)
                  (focus (have hcx := hB_a.cell; have hfx := hB_a.frozen; simp [go_sem, effAt, *]; exact ⟨rfl, store8 hB_a, grown8⟩))
                  (focus (first | (apply put_some rfl; focus (conv => lhs; dsimp only [List.set_cons_zero, List.set_cons_succ]) <;> rfl) | exact put_none rfl))
                  (focus exact fun w' h => G17.grown h.2 G17.size (by intro k hk; injection hk with hk; omega))
                  intro u18w hs
                  obtain ⟨hB, hs⟩ := hs
                  have G18 := G17.grown hs G17.size (by intro k hk; injection hk with hk; omega)
                  replace hB_b := hB_b.grown hs (by intro hk; injection hk with hk; omega)
                  replace hB_a := hB
                  clear hs hB
                  refine wpAnyH_all (rs := [9]) (by kernel_rfl) (by simp) ?_
                  refine List.forall_mem_cons.2 ⟨?_, by intro _ h; cases h⟩
                  · (with_reducible apply held_e (fun w' => Blk w' _ _ _ ∧ u18w.grownBy w' (some _)))
                    (focus rfl)
                    (focus rfl)
                    (focus (have hcx := hB_b.cell; have hfx := hB_b.frozen; simp [go_sem, effAt, *]; exact ⟨rfl, store8 hB_b, grown8⟩))
                    (focus (first | (apply put_some rfl; focus (conv => lhs; dsimp only [List.set_cons_zero, List.set_cons_succ]) <;> rfl) | exact put_none rfl))
                    (focus exact fun w' h => G18.grown h.2 G18.size (by intro k hk; injection hk with hk; omega))
                    intro u19w hs
                    obtain ⟨hB, hs⟩ := hs
                    have G19 := G18.grown hs G18.size (by intro k hk; injection hk with hk; omega)
                    replace hB_a := hB_a.grown hs (by intro hk; injection hk with hk; omega)
                    replace hB_b := hB
                    clear hs hB
                    (with_reducible apply held_done)
                    (focus kernel_rfl)
                    (simp only [Exit.then, Exit.inBlock, ↓reduceIte, Nat.reduceEqDiff])
                    refine hKK.out _ _ (Met.intro (hJJ.out _ _ ?_))
                    (repeat apply Exists.intro)
                    refine ⟨?rel, rfl⟩
                    case rel => exact ⟨_, _, rfl, rfl, hB_a, hB_b, hB_p.below G19 hB_p.lt, hB_q.below G19 hB_q.lt, Fwc.trans (G19.mono Fwc.size)⟩
          · (with_reducible apply held_e (fun w' => Blk w' u1w.heap.size _ _ ∧ Below u1w.heap.size u1w w'))
            (focus rfl)
            (focus rfl)
            (focus (simp [go_sem, effAt]; exact ⟨rfl, Blk.new _ _ _, (Below.refl _ _).alloc (Nat.le_refl _) _⟩))
            (focus (first | (apply put_some rfl; focus (conv => lhs; dsimp only [List.set_cons_zero, List.set_cons_succ]) <;> rfl) | exact put_none rfl))
            (focus exact fun w' h => G1.trans (h.2.mono G1.size))
            intro u20w hs
            obtain ⟨hB_b, hs⟩ := hs
            have G20 := G1.trans (hs.mono G1.size)
            have le_b := G1.size
            clear hs
            refine wpAnyH_all (rs := [5, 6]) (by kernel_rfl) (by simp) ?_
            refine List.forall_mem_cons.2 ⟨?_, List.forall_mem_cons.2 ⟨?_, by intro _ h; cases h⟩⟩
            · (with_reducible apply held_e (Below u20w.heap.size u20w))
              (focus rfl)
              (focus rfl)
              (focus (simp only [effAt]; simp [go_sem]; (with_reducible exact effUpon_enter (hA2 _))))
              (focus (first | (apply put_some rfl; focus (conv => lhs; dsimp only [List.set_cons_zero, List.set_cons_succ]) <;> rfl) | exact put_none rfl))
              (focus exact fun w' h => G20.trans (h.mono G20.size))
              intro u21w hs
              have G21 := G20.trans (hs.mono G20.size)
              replace hB_b := hB_b.below hs hB_b.lt
              clear hs
              refine wpAnyH_all (rs := [6]) (by kernel_rfl) (by simp) ?_
              refine List.forall_mem_cons.2 ⟨?_, by intro _ h; cases h⟩
              · (with_reducible apply held_e (fun w' => Blk w' u21w.heap.size _ _ ∧ Below u21w.heap.size u21w w'))
                (focus rfl)
                (focus rfl)
                (focus (simp [go_sem, effAt]; exact ⟨rfl, Blk.new _ _ _, (Below.refl _ _).alloc (Nat.le_refl _) _⟩))
                (focus (first | (apply put_some rfl; focus (conv => lhs; dsimp only [List.set_cons_zero, List.set_cons_succ]) <;> rfl) | exact put_none rfl))
                (focus exact fun w' h => G21.trans (h.2.mono G21.size))
                intro u22w hs
                obtain ⟨hB_a, hs⟩ := hs
                have G22 := G21.trans (hs.mono G21.size)
                have le_a := G21.size
                have lt_b_a := hB_b.lt
                replace hB_b := hB_b.below hs hB_b.lt
                clear hs
                refine wpAnyH_all (rs := [8]) (by kernel_rfl) (by simp) ?_
                refine List.forall_mem_cons.2 ⟨?_, by intro _ h; cases h⟩
                · (with_reducible apply held_e (fun w' => Blk w' _ _ _ ∧ u22w.grownBy w' (some _)))
                  (focus rfl)
                  (focus rfl)
                  (focus (have hcx := hB_a.cell; have hfx := hB_a.frozen; simp [go_sem, effAt, *]; exact ⟨rfl, store8 hB_a, grown8⟩))
                  (focus (first | (apply put_some rfl; focus (conv => lhs; dsimp only [List.set_cons_zero, List.set_cons_succ]) <;> rfl) | exact put_none rfl))
                  (focus exact fun w' h => G22.grown h.2 G22.size (by intro k hk; injection hk with hk; omega))
                  intro u23w hs
                  obtain ⟨hB, hs⟩ := hs
                  have G23 := G22.grown hs G22.size (by intro k hk; injection hk with hk; omega)
                  replace hB_b := hB_b.grown hs (by intro hk; injection hk with hk; omega)
                  replace hB_a := hB
                  clear hs hB
                  refine wpAnyH_all (rs := [9]) (by kernel_rfl) (by simp) ?_
                  refine List.forall_mem_cons.2 ⟨?_, by intro _ h; cases h⟩
                  · (with_reducible apply held_e (fun w' => Blk w' _ _ _ ∧ u23w.grownBy w' (some _)))
                    (focus rfl)
                    (focus rfl)
                    (focus (have hcx := hB_b.cell; have hfx := hB_b.frozen; simp [go_sem, effAt, *]; exact ⟨rfl, store8 hB_b, grown8⟩))
                    (focus (first | (apply put_some rfl; focus (conv => lhs; dsimp only [List.set_cons_zero, List.set_cons_succ]) <;> rfl) | exact put_none rfl))
                    (focus exact fun w' h => G23.grown h.2 G23.size (by intro k hk; injection hk with hk; omega))
                    intro u24w hs
                    obtain ⟨hB, hs⟩ := hs
                    have G24 := G23.grown hs G23.size (by intro k hk; injection hk with hk; omega)
                    replace hB_a := hB_a.grown hs (by intro hk; injection hk with hk; omega)
                    replace hB_b := hB
                    clear hs hB
                    (with_reducible apply held_done)
                    (focus kernel_rfl)
                    (simp only [Exit.then, Exit.inBlock, ↓reduceIte, Nat.reduceEqDiff])
                    refine hKK.out _ _ (Met.intro (hJJ.out _ _ ?_))
                    (repeat apply Exists.intro)
                    refine ⟨?rel, rfl⟩
                    case rel => exact ⟨_, _, rfl, rfl, hB_a, hB_b, hB_p.below G24 hB_p.lt, hB_q.below G24 hB_q.lt, Fwc.trans (G24.mono Fwc.size)⟩
            · (with_reducible apply held_e (fun w' => Blk w' u20w.heap.size _ _ ∧ Below u20w.heap.size u20w w'))
              (focus rfl)
              (focus rfl)
              (focus (simp [go_sem, effAt]; exact ⟨rfl, Blk.new _ _ _, (Below.refl _ _).alloc (Nat.le_refl _) _⟩))
              (focus (first | (apply put_some rfl; focus (conv => lhs; dsimp only [List.set_cons_zero, List.set_cons_succ]) <;> rfl) | exact put_none rfl))
              (focus exact fun w' h => G20.trans (h.2.mono G20.size))
              intro u25w hs
              obtain ⟨hB_a, hs⟩ := hs
              have G25 := G20.trans (hs.mono G20.size)
              have le_a := G20.size
              have lt_b_a := hB_b.lt
              replace hB_b := hB_b.below hs hB_b.lt
              clear hs
              refine wpAnyH_all (rs := [5]) (by kernel_rfl) (by simp) ?_
              refine List.forall_mem_cons.2 ⟨?_, by intro _ h; cases h⟩
              · (with_reducible apply held_e (Below u25w.heap.size u25w))
                (focus rfl)
                (focus rfl)
                (focus (simp only [effAt]; simp [go_sem]; (with_reducible exact effUpon_enter (hA2 _))))
                (focus (first | (apply put_some rfl; focus (conv => lhs; dsimp only [List.set_cons_zero, List.set_cons_succ]) <;> rfl) | exact put_none rfl))
                (focus exact fun w' h => G25.trans (h.mono G25.size))
                intro u26w hs
                have G26 := G25.trans (hs.mono G25.size)
                replace hB_b := hB_b.below hs hB_b.lt
                replace hB_a := hB_a.below hs hB_a.lt
                clear hs
                refine wpAnyH_all (rs := [8]) (by kernel_rfl) (by simp) ?_
                refine List.forall_mem_cons.2 ⟨?_, by intro _ h; cases h⟩
                · (with_reducible apply held_e (fun w' => Blk w' _ _ _ ∧ u26w.grownBy w' (some _)))
                  (focus rfl)
                  (focus rfl)
                  (focus (have hcx := hB_a.cell; have hfx := hB_a.frozen; simp [go_sem, effAt, *]; exact ⟨rfl, store8 hB_a, grown8⟩))
                  (focus (first | (apply put_some rfl; focus (conv => lhs; dsimp only [List.set_cons_zero, List.set_cons_succ]) <;> rfl) | exact put_none rfl))
                  (focus exact fun w' h => G26.grown h.2 G26.size (by intro k hk; injection hk with hk; omega))
                  intro u27w hs
                  obtain ⟨hB, hs⟩ := hs
                  have G27 := G26.grown hs G26.size (by intro k hk; injection hk with hk; omega)
                  replace hB_b := hB_b.grown hs (by intro hk; injection hk with hk; omega)
                  replace hB_a := hB
                  clear hs hB
                  refine wpAnyH_all (rs := [9]) (by kernel_rfl) (by simp) ?_
                  refine List.forall_mem_cons.2 ⟨?_, by intro _ h; cases h⟩
                  · (with_reducible apply held_e (fun w' => Blk w' _ _ _ ∧ u27w.grownBy w' (some _)))
                    (focus rfl)
                    (focus rfl)
                    (focus (have hcx := hB_b.cell; have hfx := hB_b.frozen; simp [go_sem, effAt, *]; exact ⟨rfl, store8 hB_b, grown8⟩))
                    (focus (first | (apply put_some rfl; focus (conv => lhs; dsimp only [List.set_cons_zero, List.set_cons_succ]) <;> rfl) | exact put_none rfl))
                    (focus exact fun w' h => G27.grown h.2 G27.size (by intro k hk; injection hk with hk; omega))
                    intro u28w hs
                    obtain ⟨hB, hs⟩ := hs
                    have G28 := G27.grown hs G27.size (by intro k hk; injection hk with hk; omega)
                    replace hB_a := hB_a.grown hs (by intro hk; injection hk with hk; omega)
                    replace hB_b := hB
                    clear hs hB
                    (with_reducible apply held_done)
                    (focus kernel_rfl)
                    (simp only [Exit.then, Exit.inBlock, ↓reduceIte, Nat.reduceEqDiff])
                    refine hKK.out _ _ (Met.intro (hJJ.out _ _ ?_))
                    (repeat apply Exists.intro)
                    refine ⟨?rel, rfl⟩
                    case rel => exact ⟨_, _, rfl, rfl, hB_a, hB_b, hB_p.below G28 hB_p.lt, hB_q.below G28 hB_q.lt, Fwc.trans (G28.mono Fwc.size)⟩
        · (with_reducible apply held_e (fun w' => Blk w' u0.heap.size _ _ ∧ Below u0.heap.size u0 w'))
          (focus rfl)
          (focus rfl)
          (focus (simp [go_sem, effAt]; exact ⟨rfl, Blk.new _ _ _, (Below.refl _ _).alloc (Nat.le_refl _) _⟩))
          (focus (first | (apply put_some rfl; focus (conv => lhs; dsimp only [List.set_cons_zero, List.set_cons_succ]) <;> rfl) | exact put_none rfl))
          (focus exact fun w' h => F0.trans (h.2.mono F0.size))
          intro u29w hs
          obtain ⟨hB_a, hs⟩ := hs
          have G29 := F0.trans (hs.mono F0.size)
          have le_a := F0.size
          clear hs
          refine wpAnyH_all (rs := [2, 7]) (by kernel_rfl) (by simp) ?_
          refine List.forall_mem_cons.2 ⟨?_, List.forall_mem_cons.2 ⟨?_, by intro _ h; cases h⟩⟩
          · (with_reducible apply held_e (Below u29w.heap.size u29w))
            (focus rfl)
            (focus rfl)
            (focus (simp only [effAt]; simp [go_sem]; (with_reducible exact effUpon_enter (hA1 _))))
            (focus (first | (apply put_some rfl; focus (conv => lhs; dsimp only [List.set_cons_zero, List.set_cons_succ]) <;> rfl) | exact put_none rfl))
            (focus exact fun w' h => G29.trans (h.mono G29.size))
            intro u30w hs
            have G30 := G29.trans (hs.mono G29.size)
            replace hB_a := hB_a.below hs hB_a.lt
            clear hs
            refine wpAnyH_all (rs := [5, 7]) (by kernel_rfl) (by simp) ?_
            refine List.forall_mem_cons.2 ⟨?_, List.forall_mem_cons.2 ⟨?_, by intro _ h; cases h⟩⟩
            · (with_reducible apply held_e (Below u30w.heap.size u30w))
              (focus rfl)
              (focus rfl)
              (focus (simp only [effAt]; simp [go_sem]; (with_reducible exact effUpon_enter (hA2 _))))
              (focus (first | (apply put_some rfl; focus (conv => lhs; dsimp only [List.set_cons_zero, List.set_cons_succ]) <;> rfl) | exact put_none rfl))
              (focus exact fun w' h => G30.trans (h.mono G30.size))
              intro u31w hs
              have G31 := G30.trans (hs.mono G30.size)
              replace hB_a := hB_a.below hs hB_a.lt
              clear hs
              refine wpAnyH_all (rs := [7]) (by kernel_rfl) (by simp) ?_
              refine List.forall_mem_cons.2 ⟨?_, by intro _ h; cases h⟩
              · (with_reducible apply held_e (fun w' => Blk w' u31w.heap.size _ _ ∧ Below u31w.heap.size u31w w'))
                (focus rfl)
                (focus rfl)
                (focus (simp [go_sem, effAt]; exact ⟨rfl, Blk.new _ _ _, (Below.refl _ _).alloc (Nat.le_refl _) _⟩))
                (focus (first | (apply put_some rfl; focus (conv => lhs; dsimp only [List.set_cons_zero, List.set_cons_succ]) <;> rfl) | exact put_none rfl))
                (focus exact fun w' h => G31.trans (h.2.mono G31.size))
                intro u32w hs
                obtain ⟨hB_b, hs⟩ := hs
                have G32 := G31.trans (hs.mono G31.size)
                have le_b := G31.size
                have lt_a_b := hB_a.lt
                replace hB_a := hB_a.below hs hB_a.lt
                clear hs
                refine wpAnyH_all (rs := [8]) (by kernel_rfl) (by simp) ?_
                refine List.forall_mem_cons.2 ⟨?_, by intro _ h; cases h⟩
                · (with_reducible apply held_e (fun w' => Blk w' _ _ _ ∧ u32w.grownBy w' (some _)))
                  (focus rfl)
                  (focus rfl)
                  (focus (have hcx := hB_a.cell; have hfx := hB_a.frozen; simp [go_sem, effAt, *]; exact ⟨rfl, store8 hB_a, grown8⟩))
                  (focus (first | (apply put_some rfl; focus (conv => lhs; dsimp only [List.set_cons_zero, List.set_cons_succ]) <;> rfl) | exact put_none rfl))
                  (focus exact fun w' h => G32.grown h.2 G32.size (by intro k hk; injection hk with hk; omega))
                  intro u33w hs
                  obtain ⟨hB, hs⟩ := hs
                  have G33 := G32.grown hs G32.size (by intro k hk; injection hk with hk; omega)
                  replace hB_b := hB_b.grown hs (by intro hk; injection hk with hk; omega)
                  replace hB_a := hB
                  clear hs hB
                  refine wpAnyH_all (rs := [9]) (by kernel_rfl) (by simp) ?_
                  refine List.forall_mem_cons.2 ⟨?_, by intro _ h; cases h⟩
                  · (with_reducible apply held_e (fun w' => Blk w' _ _ _ ∧ u33w.grownBy w' (some _)))
                    (focus rfl)
                    (focus rfl)
                    (focus (have hcx := hB_b.cell; have hfx := hB_b.frozen; simp [go_sem, effAt, *]; exact ⟨rfl, store8 hB_b, grown8⟩))
                    (focus (first | (apply put_some rfl; focus (conv => lhs; dsimp only [List.set_cons_zero, List.set_cons_succ]) <;> rfl) | exact put_none rfl))
                    (focus exact fun w' h => G33.grown h.2 G33.size (by intro k hk; injection hk with hk; omega))
                    intro u34w hs
                    obtain ⟨hB, hs⟩ := hs
                    have G34 := G33.grown hs G33.size (by intro k hk; injection hk with hk; omega)
                    replace hB_a := hB_a.grown hs (by intro hk; injection hk with hk; omega)
                    replace hB_b := hB
                    clear hs hB
                    (with_reducible apply held_done)
                    (focus kernel_rfl)
                    (simp only [Exit.then, Exit.inBlock, ↓reduceIte, Nat.reduceEqDiff])
                    refine hKK.out _ _ (Met.intro (hJJ.out _ _ ?_))
                    (repeat apply Exists.intro)
                    refine ⟨?rel, rfl⟩
                    case rel => exact ⟨_, _, rfl, rfl, hB_a, hB_b, hB_p.below G34 hB_p.lt, hB_q.below G34 hB_q.lt, Fwc.trans (G34.mono Fwc.size)⟩
            · (with_reducible apply held_e (fun w' => Blk w' u30w.heap.size _ _ ∧ Below u30w.heap.size u30w w'))
              (focus rfl)
              (focus rfl)
              (focus (simp [go_sem, effAt]; exact ⟨rfl, Blk.new _ _ _, (Below.refl _ _).alloc (Nat.le_refl _) _⟩))
              (focus (first | (apply put_some rfl; focus (conv => lhs; dsimp only [List.set_cons_zero, List.set_cons_succ]) <;> rfl) | exact put_none rfl))
              (focus exact fun w' h => G30.trans (h.2.mono G30.size))
              intro u35w hs
              obtain ⟨hB_b, hs⟩ := hs
              have G35 := G30.trans (hs.mono G30.size)
              have le_b := G30.size
              have lt_a_b := hB_a.lt
              replace hB_a := hB_a.below hs hB_a.lt
              clear hs
              refine wpAnyH_all (rs := [5]) (by kernel_rfl) (by simp) ?_
              refine List.forall_mem_cons.2 ⟨?_, by intro _ h; cases h⟩
              · (with_reducible apply held_e (Below u35w.heap.size u35w))
                (focus rfl)
                (focus rfl)
                (focus (simp only [effAt]; simp [go_sem]; (with_reducible exact effUpon_enter (hA2 _))))
                (focus (first | (apply put_some rfl; focus (conv => lhs; dsimp only [List.set_cons_zero, List.set_cons_succ]) <;> rfl) | exact put_none rfl))
                (focus exact fun w' h => G35.trans (h.mono G35.size))
                intro u36w hs
                have G36 := G35.trans (hs.mono G35.size)
                replace hB_a := hB_a.below hs hB_a.lt
                replace hB_b := hB_b.below hs hB_b.lt
                clear hs
                refine wpAnyH_all (rs := [8]) (by kernel_rfl) (by simp) ?_
                refine List.forall_mem_cons.2 ⟨?_, by intro _ h; cases h⟩
                · (with_reducible apply held_e (fun w' => Blk w' _ _ _ ∧ u36w.grownBy w' (some _)))
                  (focus rfl)
                  (focus rfl)
                  (focus (have hcx := hB_a.cell; have hfx := hB_a.frozen; simp [go_sem, effAt, *]; exact ⟨rfl, store8 hB_a, grown8⟩))
                  (focus (first | (apply put_some rfl; focus (conv => lhs; dsimp only [List.set_cons_zero, List.set_cons_succ]) <;> rfl) | exact put_none rfl))
                  (focus exact fun w' h => G36.grown h.2 G36.size (by intro k hk; injection hk with hk; omega))
                  intro u37w hs
                  obtain ⟨hB, hs⟩ := hs
                  have G37 := G36.grown hs G36.size (by intro k hk; injection hk with hk; omega)
                  replace hB_b := hB_b.grown hs (by intro hk; injection hk with hk; omega)
                  replace hB_a := hB
                  clear hs hB
                  refine wpAnyH_all (rs := [9]) (by kernel_rfl) (by simp) ?_
                  refine List.forall_mem_cons.2 ⟨?_, by intro _ h; cases h⟩
                  · (with_reducible apply held_e (fun w' => Blk w' _ _ _ ∧ u37w.grownBy w' (some _)))
                    (focus rfl)
                    (focus rfl)
                    (focus (have hcx := hB_b.cell; have hfx := hB_b.frozen; simp [go_sem, effAt, *]; exact ⟨rfl, store8 hB_b, grown8⟩))
                    (focus (first | (apply put_some rfl; focus (conv => lhs; dsimp only [List.set_cons_zero, List.set_cons_succ]) <;> rfl) | exact put_none rfl))
                    (focus exact fun w' h => G37.grown h.2 G37.size (by intro k hk; injection hk with hk; omega))
                    intro u38w hs
                    obtain ⟨hB, hs⟩ := hs
                    have G38 := G37.grown hs G37.size (by intro k hk; injection hk with hk; omega)
                    replace hB_a := hB_a.grown hs (by intro hk; injection hk with hk; omega)
                    replace hB_b := hB
                    clear hs hB
                    (with_reducible apply held_done)
                    (focus kernel_rfl)
                    (simp only [Exit.then, Exit.inBlock, ↓reduceIte, Nat.reduceEqDiff])
                    refine hKK.out _ _ (Met.intro (hJJ.out _ _ ?_))
                    (repeat apply Exists.intro)
                    refine ⟨?rel, rfl⟩
                    case rel => exact ⟨_, _, rfl, rfl, hB_a, hB_b, hB_p.below G38 hB_p.lt, hB_q.below G38 hB_q.lt, Fwc.trans (G38.mono Fwc.size)⟩
          · (with_reducible apply held_e (fun w' => Blk w' u29w.heap.size _ _ ∧ Below u29w.heap.size u29w w'))
            (focus rfl)
            (focus rfl)
            (focus (simp [go_sem, effAt]; exact ⟨rfl, Blk.new _ _ _, (Below.refl _ _).alloc (Nat.le_refl _) _⟩))
            (focus (first | (apply put_some rfl; focus (conv => lhs; dsimp only [List.set_cons_zero, List.set_cons_succ]) <;> rfl) | exact put_none rfl))
            (focus exact fun w' h => G29.trans (h.2.mono G29.size))
            intro u39w hs
            obtain ⟨hB_b, hs⟩ := hs
            have G39 := G29.trans (hs.mono G29.size)
            have le_b := G29.size
            have lt_a_b := hB_a.lt
            replace hB_a := hB_a.below hs hB_a.lt
            clear hs
            refine wpAnyH_all (rs := [2]) (by kernel_rfl) (by simp) ?_
            refine List.forall_mem_cons.2 ⟨?_, by intro _ h; cases h⟩
            · (with_reducible apply held_e (Below u39w.heap.size u39w))
              (focus rfl)
              (focus rfl)
              (focus (simp only [effAt]; simp [go_sem]; (with_reducible exact effUpon_enter (hA1 _))))
              (focus (first | (apply put_some rfl; focus (conv => lhs; dsimp only [List.set_cons_zero, List.set_cons_succ]) <;> rfl) | exact put_none rfl))
              (focus exact fun w' h => G39.trans (h.mono G39.size))
              intro u40w hs
              have G40 := G39.trans (hs.mono G39.size)
              replace hB_a := hB_a.below hs hB_a.lt
              replace hB_b := hB_b.below hs hB_b.lt
              clear hs
              refine wpAnyH_all (rs := [5]) (by kernel_rfl) (by simp) ?_
              refine List.forall_mem_cons.2 ⟨?_, by intro _ h; cases h⟩
              · (with_reducible apply held_e (Below u40w.heap.size u40w))
                (focus rfl)
                (focus rfl)
                (focus (simp only [effAt]; simp [go_sem]; (with_reducible exact effUpon_enter (hA2 _))))
                (focus (first | (apply put_some rfl; focus (conv => lhs; dsimp only [List.set_cons_zero, List.set_cons_succ]) <;> rfl) | exact put_none rfl))
                (focus exact fun w' h => G40.trans (h.mono G40.size))
                intro u41w hs
                have G41 := G40.trans (hs.mono G40.size)
                replace hB_a := hB_a.below hs hB_a.lt
                replace hB_b := hB_b.below hs hB_b.lt
                clear hs
                refine wpAnyH_all (rs := [8]) (by kernel_rfl) (by simp) ?_
                refine List.forall_mem_cons.2 ⟨?_, by intro _ h; cases h⟩
                · (with_reducible apply held_e (fun w' => Blk w' _ _ _ ∧ u41w.grownBy w' (some _)))
                  (focus rfl)
                  (focus rfl)
                  (focus (have hcx := hB_a.cell; have hfx := hB_a.frozen; simp [go_sem, effAt, *]; exact ⟨rfl, store8 hB_a, grown8⟩))
                  (focus (first | (apply put_some rfl; focus (conv => lhs; dsimp only [List.set_cons_zero, List.set_cons_succ]) <;> rfl) | exact put_none rfl))
                  (focus exact fun w' h => G41.grown h.2 G41.size (by intro k hk; injection hk with hk; omega))
                  intro u42w hs
                  obtain ⟨hB, hs⟩ := hs
                  have G42 := G41.grown hs G41.size (by intro k hk; injection hk with hk; omega)
                  replace hB_b := hB_b.grown hs (by intro hk; injection hk with hk; omega)
                  replace hB_a := hB
                  clear hs hB
                  refine wpAnyH_all (rs := [9]) (by kernel_rfl) (by simp) ?_
                  refine List.forall_mem_cons.2 ⟨?_, by intro _ h; cases h⟩
                  · (with_reducible apply held_e (fun w' => Blk w' _ _ _ ∧ u42w.grownBy w' (some _)))
                    (focus rfl)
                    (focus rfl)
                    (focus (have hcx := hB_b.cell; have hfx := hB_b.frozen; simp [go_sem, effAt, *]; exact ⟨rfl, store8 hB_b, grown8⟩))
                    (focus (first | (apply put_some rfl; focus (conv => lhs; dsimp only [List.set_cons_zero, List.set_cons_succ]) <;> rfl) | exact put_none rfl))
                    (focus exact fun w' h => G42.grown h.2 G42.size (by intro k hk; injection hk with hk; omega))
                    intro u43w hs
                    obtain ⟨hB, hs⟩ := hs
                    have G43 := G42.grown hs G42.size (by intro k hk; injection hk with hk; omega)
                    replace hB_a := hB_a.grown hs (by intro hk; injection hk with hk; omega)
                    replace hB_b := hB
                    clear hs hB
                    (with_reducible apply held_done)
                    (focus kernel_rfl)
                    (simp only [Exit.then, Exit.inBlock, ↓reduceIte, Nat.reduceEqDiff])
                    refine hKK.out _ _ (Met.intro (hJJ.out _ _ ?_))
                    (repeat apply Exists.intro)
                    refine ⟨?rel, rfl⟩
                    case rel => exact ⟨_, _, rfl, rfl, hB_a, hB_b, hB_p.below G43 hB_p.lt, hB_q.below G43 hB_q.lt, Fwc.trans (G43.mono Fwc.size)⟩
        · (with_reducible apply held_e (fun w' => Blk w' u0.heap.size _ _ ∧ Below u0.heap.size u0 w'))
          (focus rfl)
          (focus rfl)
          (focus (simp [go_sem, effAt]; exact ⟨rfl, Blk.new _ _ _, (Below.refl _ _).alloc (Nat.le_refl _) _⟩))
          (focus (first | (apply put_some rfl; focus (conv => lhs; dsimp only [List.set_cons_zero, List.set_cons_succ]) <;> rfl) | exact put_none rfl))
          (focus exact fun w' h => F0.trans (h.2.mono F0.size))
          intro u44w hs
          obtain ⟨hB_b, hs⟩ := hs
          have G44 := F0.trans (hs.mono F0.size)
          have le_b := F0.size
          clear hs
          refine wpAnyH_all (rs := [2, 6]) (by kernel_rfl) (by simp) ?_
          refine List.forall_mem_cons.2 ⟨?_, List.forall_mem_cons.2 ⟨?_, by intro _ h; cases h⟩⟩
          · (with_reducible apply held_e (Below u44w.heap.size u44w))
            (focus rfl)
            (focus rfl)
            (focus (simp only [effAt]; simp [go_sem]; (with_reducible exact effUpon_enter (hA1 _))))
            (focus (first | (apply put_some rfl; focus (conv => lhs; dsimp only [List.set_cons_zero, List.set_cons_succ]) <;> rfl) | exact put_none rfl))
            (focus exact fun w' h => G44.trans (h.mono G44.size))
            intro u45w hs
            have G45 := G44.trans (hs.mono G44.size)
            replace hB_b := hB_b.below hs hB_b.lt
            clear hs
            refine wpAnyH_all (rs := [5, 6]) (by kernel_rfl) (by simp) ?_
            refine List.forall_mem_cons.2 ⟨?_, List.forall_mem_cons.2 ⟨?_, by intro _ h; cases h⟩⟩
            · (with_reducible apply held_e (Below u45w.heap.size u45w))
              (focus rfl)
              (focus rfl)
              (focus (simp only [effAt]; simp [go_sem]; (with_reducible exact effUpon_enter (hA2 _))))
              (focus (first | (apply put_some rfl; focus (conv => lhs; dsimp only [List.set_cons_zero, List.set_cons_succ]) <;> rfl) | exact put_none rfl))
              (focus exact fun w' h => G45.trans (h.mono G45.size))
              intro u46w hs
              have G46 := G45.trans (hs.mono G45.size)
              replace hB_b := hB_b.below hs hB_b.lt
              clear hs
              refine wpAnyH_all (rs := [6]) (by kernel_rfl) (by simp) ?_
              refine List.forall_mem_cons.2 ⟨?_, by intro _ h; cases h⟩
              · (with_reducible apply held_e (fun w' => Blk w' u46w.heap.size _ _ ∧ Below u46w.heap.size u46w w'))
                (focus rfl)
                (focus rfl)
                (focus (simp [go_sem, effAt]; exact ⟨rfl, Blk.new _ _ _, (Below.refl _ _).alloc (Nat.le_refl _) _⟩))
                (focus (first | (apply put_some rfl; focus (conv => lhs; dsimp only [List.set_cons_zero, List.set_cons_succ]) <;> rfl) | exact put_none rfl))
                (focus exact fun w' h => G46.trans (h.2.mono G46.size))
                intro u47w hs
                obtain ⟨hB_a, hs⟩ := hs
                have G47 := G46.trans (hs.mono G46.size)
                have le_a := G46.size
                have lt_b_a := hB_b.lt
                replace hB_b := hB_b.below hs hB_b.lt
                clear hs
                refine wpAnyH_all (rs := [8]) (by kernel_rfl) (by simp) ?_
                refine List.forall_mem_cons.2 ⟨?_, by intro _ h; cases h⟩
                · (with_reducible apply held_e (fun w' => Blk w' _ _ _ ∧ u47w.grownBy w' (some _)))
                  (focus rfl)
                  (focus rfl)
                  (focus (have hcx := hB_a.cell; have hfx := hB_a.frozen; simp [go_sem, effAt, *]; exact ⟨rfl, store8 hB_a, grown8⟩))
                  (focus (first | (apply put_some rfl; focus (conv => lhs; dsimp only [List.set_cons_zero, List.set_cons_succ]) <;> rfl) | exact put_none rfl))
                  (focus exact fun w' h => G47.grown h.2 G47.size (by intro k hk; injection hk with hk; omega))
                  intro u48w hs
                  obtain ⟨hB, hs⟩ := hs
                  have G48 := G47.grown hs G47.size (by intro k hk; injection hk with hk; omega)
                  replace hB_b := hB_b.grown hs (by intro hk; injection hk with hk; omega)
                  replace hB_a := hB
                  clear hs hB
                  refine wpAnyH_all (rs := [9]) (by kernel_rfl) (by simp) ?_
                  refine List.forall_mem_cons.2 ⟨?_, by intro _ h; cases h⟩
                  · (with_reducible apply held_e (fun w' => Blk w' _ _ _ ∧ u48w.grownBy w' (some _)))
                    (focus rfl)
                    (focus rfl)
                    (focus (have hcx := hB_b.cell; have hfx := hB_b.frozen; simp [go_sem, effAt, *]; exact ⟨rfl, store8 hB_b, grown8⟩))
                    (focus (first | (apply put_some rfl; focus (conv => lhs; dsimp only [List.set_cons_zero, List.set_cons_succ]) <;> rfl) | exact put_none rfl))
                    (focus exact fun w' h => G48.grown h.2 G48.size (by intro k hk; injection hk with hk; omega))
                    intro u49w hs
                    obtain ⟨hB, hs⟩ := hs
                    have G49 := G48.grown hs G48.size (by intro k hk; injection hk with hk; omega)
                    replace hB_a := hB_a.grown hs (by intro hk; injection hk with hk; omega)
                    replace hB_b := hB
                    clear hs hB
                    (with_reducible apply held_done)
                    (focus kernel_rfl)
                    (simp only [Exit.then, Exit.inBlock, ↓reduceIte, Nat.reduceEqDiff])
                    refine hKK.out _ _ (Met.intro (hJJ.out _ _ ?_))
                    (repeat apply Exists.intro)
                    refine ⟨?rel, rfl⟩
                    case rel => exact ⟨_, _, rfl, rfl, hB_a, hB_b, hB_p.below G49 hB_p.lt, hB_q.below G49 hB_q.lt, Fwc.trans (G49.mono Fwc.size)⟩
            · (with_reducible apply held_e (fun w' => Blk w' u45w.heap.size _ _ ∧ Below u45w.heap.size u45w w'))
              (focus rfl)
              (focus rfl)
              (focus (simp [go_sem, effAt]; exact ⟨rfl, Blk.new _ _ _, (Below.refl _ _).alloc (Nat.le_refl _) _⟩))
              (focus (first | (apply put_some rfl; focus (conv => lhs; dsimp only [List.set_cons_zero, List.set_cons_succ]) <;> rfl) | exact put_none rfl))
              (focus exact fun w' h => G45.trans (h.2.mono G45.size))
              intro u50w hs
              obtain ⟨hB_a, hs⟩ := hs
              have G50 := G45.trans (hs.mono G45.size)
              have le_a := G45.size
              have lt_b_a := hB_b.lt
              replace hB_b := hB_b.below hs hB_b.lt
              clear hs
              refine wpAnyH_all (rs := [5]) (by kernel_rfl) (by simp) ?_
              refine List.forall_mem_cons.2 ⟨?_, by intro _ h; cases h⟩
              · (with_reducible apply held_e (Below u50w.heap.size u50w))
                (focus rfl)
                (focus rfl)
                (focus (simp only [effAt]; simp [go_sem]; (with_reducible exact effUpon_enter (hA2 _))))
                (focus (first | (apply put_some rfl; focus (conv => lhs; dsimp only [List.set_cons_zero, List.set_cons_succ]) <;> rfl) | exact put_none rfl))
                (focus exact fun w' h => G50.trans (h.mono G50.size))
                intro u51w hs
                have G51 := G50.trans (hs.mono G50.size)
                replace hB_b := hB_b.below hs hB_b.lt
                replace hB_a := hB_a.below hs hB_a.lt
                clear hs
                refine wpAnyH_all (rs := [8]) (by kernel_rfl) (by simp) ?_
                refine List.forall_mem_cons.2 ⟨?_, by intro _ h; cases h⟩
                · (with_reducible apply held_e (fun w' => Blk w' _ _ _ ∧ u51w.grownBy w' (some _)))
                  (focus rfl)
                  (focus rfl)
                  (focus (have hcx := hB_a.cell; have hfx := hB_a.frozen; simp [go_sem, effAt, *]; exact ⟨rfl, store8 hB_a, grown8⟩))
                  (focus (first | (apply put_some rfl; focus (conv => lhs; dsimp only [List.set_cons_zero, List.set_cons_succ]) <;> rfl) | exact put_none rfl))
                  (focus exact fun w' h => G51.grown h.2 G51.size (by intro k hk; injection hk with hk; omega))
                  intro u52w hs
                  obtain ⟨hB, hs⟩ := hs
                  have G52 := G51.grown hs G51.size (by intro k hk; injection hk with hk; omega)
                  replace hB_b := hB_b.grown hs (by intro hk; injection hk with hk; omega)
                  replace hB_a := hB
                  clear hs hB
                  refine wpAnyH_all (rs := [9]) (by kernel_rfl) (by simp) ?_
                  refine List.forall_mem_cons.2 ⟨?_, by intro _ h; cases h⟩
                  · (with_reducible apply held_e (fun w' => Blk w' _ _ _ ∧ u52w.grownBy w' (some _)))
                    (focus rfl)
                    (focus rfl)
                    (focus (have hcx := hB_b.cell; have hfx := hB_b.frozen; simp [go_sem, effAt, *]; exact ⟨rfl, store8 hB_b, grown8⟩))
                    (focus (first | (apply put_some rfl; focus (conv => lhs; dsimp only [List.set_cons_zero, List.set_cons_succ]) <;> rfl) | exact put_none rfl))
                    (focus exact fun w' h => G52.grown h.2 G52.size (by intro k hk; injection hk with hk; omega))
                    intro u53w hs
                    obtain ⟨hB, hs⟩ := hs
                    have G53 := G52.grown hs G52.size (by intro k hk; injection hk with hk; omega)
                    replace hB_a := hB_a.grown hs (by intro hk; injection hk with hk; omega)
                    replace hB_b := hB
                    clear hs hB
                    (with_reducible apply held_done)
                    (focus kernel_rfl)
                    (simp only [Exit.then, Exit.inBlock, ↓reduceIte, Nat.reduceEqDiff])
                    refine hKK.out _ _ (Met.intro (hJJ.out _ _ ?_))
                    (repeat apply Exists.intro)
                    refine ⟨?rel, rfl⟩
                    case rel => exact ⟨_, _, rfl, rfl, hB_a, hB_b, hB_p.below G53 hB_p.lt, hB_q.below G53 hB_q.lt, Fwc.trans (G53.mono Fwc.size)⟩
          · (with_reducible apply held_e (fun w' => Blk w' u44w.heap.size _ _ ∧ Below u44w.heap.size u44w w'))
            (focus rfl)
            (focus rfl)
            (focus (simp [go_sem, effAt]; exact ⟨rfl, Blk.new _ _ _, (Below.refl _ _).alloc (Nat.le_refl _) _⟩))
            (focus (first | (apply put_some rfl; focus (conv => lhs; dsimp only [List.set_cons_zero, List.set_cons_succ]) <;> rfl) | exact put_none rfl))
            (focus exact fun w' h => G44.trans (h.2.mono G44.size))
            intro u54w hs
            obtain ⟨hB_a, hs⟩ := hs
            have G54 := G44.trans (hs.mono G44.size)
            have le_a := G44.size
            have lt_b_a := hB_b.lt
            replace hB_b := hB_b.below hs hB_b.lt
            clear hs
            refine wpAnyH_all (rs := [2]) (by kernel_rfl) (by simp) ?_
            refine List.forall_mem_cons.2 ⟨?_, by intro _ h; cases h⟩
            · (with_reducible apply held_e (Below u54w.heap.size u54w))
              (focus rfl)
              (focus rfl)
              (focus (simp only [effAt]; simp [go_sem]; (with_reducible exact effUpon_enter (hA1 _))))
              (focus (first | (apply put_some rfl; focus (conv => lhs; dsimp only [List.set_cons_zero, List.set_cons_succ]) <;> rfl) | exact put_none rfl))
              (focus exact fun w' h => G54.trans (h.mono G54.size))
              intro u55w hs
              have G55 := G54.trans (hs.mono G54.size)
              replace hB_b := hB_b.below hs hB_b.lt
              replace hB_a := hB_a.below hs hB_a.lt
              clear hs
              refine wpAnyH_all (rs := [5]) (by kernel_rfl) (by simp) ?_
              refine List.forall_mem_cons.2 ⟨?_, by intro _ h; cases h⟩
              · (with_reducible apply held_e (Below u55w.heap.size u55w))
                (focus rfl)
                (focus rfl)
                (focus (simp only [effAt]; simp [go_sem]; (with_reducible exact effUpon_enter (hA2 _))))
                (focus (first | (apply put_some rfl; focus (conv => lhs; dsimp only [List.set_cons_zero, List.set_cons_succ]) <;> rfl) | exact put_none rfl))
                (focus exact fun w' h => G55.trans (h.mono G55.size))
                intro u56w hs
                have G56 := G55.trans (hs.mono G55.size)
                replace hB_b := hB_b.below hs hB_b.lt
                replace hB_a := hB_a.below hs hB_a.lt
                clear hs
                refine wpAnyH_all (rs := [8]) (by kernel_rfl) (by simp) ?_
                refine List.forall_mem_cons.2 ⟨?_, by intro _ h; cases h⟩
                · (with_reducible apply held_e (fun w' => Blk w' _ _ _ ∧ u56w.grownBy w' (some _)))
                  (focus rfl)
                  (focus rfl)
                  (focus (have hcx := hB_a.cell; have hfx := hB_a.frozen; simp [go_sem, effAt, *]; exact ⟨rfl, store8 hB_a, grown8⟩))
                  (focus (first | (apply put_some rfl; focus (conv => lhs; dsimp only [List.set_cons_zero, List.set_cons_succ]) <;> rfl) | exact put_none rfl))
                  (focus exact fun w' h => G56.grown h.2 G56.size (by intro k hk; injection hk with hk; omega))
                  intro u57w hs
                  obtain ⟨hB, hs⟩ := hs
                  have G57 := G56.grown hs G56.size (by intro k hk; injection hk with hk; omega)
                  replace hB_b := hB_b.grown hs (by intro hk; injection hk with hk; omega)
                  replace hB_a := hB
                  clear hs hB
                  refine wpAnyH_all (rs := [9]) (by kernel_rfl) (by simp) ?_
                  refine List.forall_mem_cons.2 ⟨?_, by intro _ h; cases h⟩
                  · (with_reducible apply held_e (fun w' => Blk w' _ _ _ ∧ u57w.grownBy w' (some _)))
                    (focus rfl)
                    (focus rfl)
                    (focus (have hcx := hB_b.cell; have hfx := hB_b.frozen; simp [go_sem, effAt, *]; exact ⟨rfl, store8 hB_b, grown8⟩))
                    (focus (first | (apply put_some rfl; focus (conv => lhs; dsimp only [List.set_cons_zero, List.set_cons_succ]) <;> rfl) | exact put_none rfl))
                    (focus exact fun w' h => G57.grown h.2 G57.size (by intro k hk; injection hk with hk; omega))
                    intro u58w hs
                    obtain ⟨hB, hs⟩ := hs
                    have G58 := G57.grown hs G57.size (by intro k hk; injection hk with hk; omega)
                    replace hB_a := hB_a.grown hs (by intro hk; injection hk with hk; omega)
                    replace hB_b := hB
                    clear hs hB
                    (with_reducible apply held_done)
                    (focus kernel_rfl)
                    (simp only [Exit.then, Exit.inBlock, ↓reduceIte, Nat.reduceEqDiff])
                    refine hKK.out _ _ (Met.intro (hJJ.out _ _ ?_))
                    (repeat apply Exists.intro)
                    refine ⟨?rel, rfl⟩
                    case rel => exact ⟨_, _, rfl, rfl, hB_a, hB_b, hB_p.below G58 hB_p.lt, hB_q.below G58 hB_q.lt, Fwc.trans (G58.mono Fwc.size)⟩
      case rest =>
        clear hB_p hB_q hc_p hc_q hA1 hA2 Fwc
        obtain ⟨ga, gb, rfl, rfl, hB_a, hB_b, hB_p, hB_q, Fwc⟩ := hcut
        skip
        have hc_p := hB_p.cell
        have hc_q := hB_q.cell
        have hc_a := hB_a.cell
        have hc_b := hB_b.cell
        repeat (first | with_reducible apply wpList_nil | ((with_reducible apply region_k); intro KK kk) | with_reducible apply wp_region_lit | ((with_reducible apply seq_k); intro KK kk) | ((with_reducible apply seq_q); (focus (first | exact wanted_none rfl | exact wanted_yes rfl rfl rfl)); (focus (simp [go_sem, effAt, ↓IntWalk.iteOmega, *]; (try go_ints); (first | (with_reducible exact effUpon_val) | (with_reducible exact effUpon_skip)))); (focus ((first | (apply put_some rfl; focus (conv => lhs; dsimp only [List.set_cons_zero, List.set_cons_succ]) <;> rfl) | exact put_none rfl)))) | ((with_reducible apply seq_s); (focus (first | exact wanted_no rfl rfl rfl | exact wanted_undef rfl rfl rfl)); (focus ((first | (apply put_some rfl; focus (conv => lhs; dsimp only [List.set_cons_zero, List.set_cons_succ]) <;> rfl) | exact put_none rfl)))) | with_reducible apply wp_block | with_reducible apply wp_skip | with_reducible apply wp_exit | with_reducible apply wp_ret | ((with_reducible apply wp_cond_true); (focus (first | rfl | (simp [go_sem, *]; done)))) | ((with_reducible apply wp_cond_false); (focus (first | rfl | (simp [go_sem, *]; done)))) | (simp only [Exit.then, Exit.inBlock, ↓reduceIte, Nat.reduceEqDiff]) | ((with_reducible apply kf_out); (focus assumption)))
        refine wp_region_pure (E := fun i => [2, 7, 14].contains i) (by kernel_rfl) (by kernel_rfl) ?_
        repeat (first | ((with_reducible apply lex_q); (focus (first | exact wanted_none rfl | exact wanted_yes rfl rfl rfl)); (focus rfl); (focus (intro w' hS; have hc_p := (hB_p.below hS hB_p.lt).cell; have hc_q := (hB_q.below hS hB_q.lt).cell; have hc_a := (hB_a.below hS hB_a.lt).cell; have hc_b := (hB_b.below hS hB_b.lt).cell; simp [go_sem, effAt, ↓IntWalk.iteOmega, *]; (try go_ints); (first | (with_reducible exact effUpon_val) | (with_reducible exact effUpon_skip)))); (focus ((first | (apply put_some rfl; focus (conv => lhs; dsimp only [List.set_cons_zero, List.set_cons_succ]) <;> rfl) | exact put_none rfl)))) | ((with_reducible apply lex_s); (focus (first | exact wanted_no rfl rfl rfl | exact wanted_undef rfl rfl rfl)); (focus ((first | (apply put_some rfl; focus (conv => lhs; dsimp only [List.set_cons_zero, List.set_cons_succ]) <;> rfl) | exact put_none rfl)))))
        ((with_reducible apply lex_e (Below wc.heap.size wc)); (focus rfl); (focus rfl); (focus (intro w' hS; simp only [effAt]; simp [go_sem]; (with_reducible exact eff_call hS (hL _)))); (focus (exact fun _ h => h)); (focus ((first | (apply put_some rfl; focus (conv => lhs; dsimp only [List.set_cons_zero, List.set_cons_succ]) <;> rfl) | exact put_none rfl))))
        repeat (first | ((with_reducible apply lex_q); (focus (first | exact wanted_none rfl | exact wanted_yes rfl rfl rfl)); (focus rfl); (focus (intro w' hS; have hc_p := (hB_p.below hS hB_p.lt).cell; have hc_q := (hB_q.below hS hB_q.lt).cell; have hc_a := (hB_a.below hS hB_a.lt).cell; have hc_b := (hB_b.below hS hB_b.lt).cell; simp [go_sem, effAt, ↓IntWalk.iteOmega, *]; (try go_ints); (first | (with_reducible exact effUpon_val) | (with_reducible exact effUpon_skip)))); (focus ((first | (apply put_some rfl; focus (conv => lhs; dsimp only [List.set_cons_zero, List.set_cons_succ]) <;> rfl) | exact put_none rfl)))) | ((with_reducible apply lex_s); (focus (first | exact wanted_no rfl rfl rfl | exact wanted_undef rfl rfl rfl)); (focus ((first | (apply put_some rfl; focus (conv => lhs; dsimp only [List.set_cons_zero, List.set_cons_succ]) <;> rfl) | exact put_none rfl)))))
        ((with_reducible apply lex_e (Below wc.heap.size wc)); (focus rfl); (focus rfl); (focus (intro w' hS; simp only [effAt]; simp [go_sem]; (with_reducible exact eff_call hS (hA3 _)))); (focus (exact fun _ h => h)); (focus ((first | (apply put_some rfl; focus (conv => lhs; dsimp only [List.set_cons_zero, List.set_cons_succ]) <;> rfl) | exact put_none rfl))))
        repeat (first | ((with_reducible apply lex_q); (focus (first | exact wanted_none rfl | exact wanted_yes rfl rfl rfl)); (focus rfl); (focus (intro w' hS; have hc_p := (hB_p.below hS hB_p.lt).cell; have hc_q := (hB_q.below hS hB_q.lt).cell; have hc_a := (hB_a.below hS hB_a.lt).cell; have hc_b := (hB_b.below hS hB_b.lt).cell; simp [go_sem, effAt, ↓IntWalk.iteOmega, *]; (try go_ints); (first | (with_reducible exact effUpon_val) | (with_reducible exact effUpon_skip)))); (focus ((first | (apply put_some rfl; focus (conv => lhs; dsimp only [List.set_cons_zero, List.set_cons_succ]) <;> rfl) | exact put_none rfl)))) | ((with_reducible apply lex_s); (focus (first | exact wanted_no rfl rfl rfl | exact wanted_undef rfl rfl rfl)); (focus ((first | (apply put_some rfl; focus (conv => lhs; dsimp only [List.set_cons_zero, List.set_cons_succ]) <;> rfl) | exact put_none rfl)))))
        ((with_reducible apply lex_e (Below wc.heap.size wc)); (focus rfl); (focus rfl); (focus (intro w' hS; simp only [effAt]; simp [go_sem]; (with_reducible exact eff_call hS (hA4 _)))); (focus (exact fun _ h => h)); (focus ((first | (apply put_some rfl; focus (conv => lhs; dsimp only [List.set_cons_zero, List.set_cons_succ]) <;> rfl) | exact put_none rfl))))
        repeat (first | ((with_reducible apply lex_q); (focus (first | exact wanted_none rfl | exact wanted_yes rfl rfl rfl)); (focus rfl); (focus (intro w' hS; have hc_p := (hB_p.below hS hB_p.lt).cell; have hc_q := (hB_q.below hS hB_q.lt).cell; have hc_a := (hB_a.below hS hB_a.lt).cell; have hc_b := (hB_b.below hS hB_b.lt).cell; simp [go_sem, effAt, ↓IntWalk.iteOmega, *]; (try go_ints); (first | (with_reducible exact effUpon_val) | (with_reducible exact effUpon_skip)))); (focus ((first | (apply put_some rfl; focus (conv => lhs; dsimp only [List.set_cons_zero, List.set_cons_succ]) <;> rfl) | exact put_none rfl)))) | ((with_reducible apply lex_s); (focus (first | exact wanted_no rfl rfl rfl | exact wanted_undef rfl rfl rfl)); (focus ((first | (apply put_some rfl; focus (conv => lhs; dsimp only [List.set_cons_zero, List.set_cons_succ]) <;> rfl) | exact put_none rfl)))))
        with_reducible apply lex_nil
        intro w13 hs
        have Fw13 := Fwc.trans (hs.mono Fwc.size)
        replace hB_p := hB_p.below hs hB_p.lt
        replace hB_q := hB_q.below hs hB_q.lt
        replace hB_a := hB_a.below hs hB_a.lt
        replace hB_b := hB_b.below hs hB_b.lt
        clear hs Fwc
        clear hc_p; have hc_p := hB_p.cell
        clear hc_q; have hc_q := hB_q.cell
        clear hc_a; have hc_a := hB_a.cell
        clear hc_b; have hc_b := hB_b.cell
        clear hA3 hA4 hL
        cases xo
        case false =>
          repeat (first | with_reducible apply wpList_nil | ((with_reducible apply region_k); intro KK kk) | with_reducible apply wp_region_lit | ((with_reducible apply seq_k); intro KK kk) | ((with_reducible apply seq_q); (focus (first | exact wanted_none rfl | exact wanted_yes rfl rfl rfl)); (focus (simp [go_sem, effAt, ↓IntWalk.iteOmega, *]; (try go_ints); (first | (with_reducible exact effUpon_val) | (with_reducible exact effUpon_skip)))); (focus ((first | (apply put_some rfl; focus (conv => lhs; dsimp only [List.set_cons_zero, List.set_cons_succ]) <;> rfl) | exact put_none rfl)))) | ((with_reducible apply seq_s); (focus (first | exact wanted_no rfl rfl rfl | exact wanted_undef rfl rfl rfl)); (focus ((first | (apply put_some rfl; focus (conv => lhs; dsimp only [List.set_cons_zero, List.set_cons_succ]) <;> rfl) | exact put_none rfl)))) | with_reducible apply wp_block | with_reducible apply wp_skip | with_reducible apply wp_exit | with_reducible apply wp_ret | ((with_reducible apply wp_cond_true); (focus (first | rfl | (simp [go_sem, *]; done)))) | ((with_reducible apply wp_cond_false); (focus (first | rfl | (simp [go_sem, *]; done)))) | (simp only [Exit.then, Exit.inBlock, ↓reduceIte, Nat.reduceEqDiff]) | ((with_reducible apply kf_out); (focus assumption)))
          ((with_reducible apply seq_e (Below w13.heap.size w13)); (focus rfl); (focus (simp only [effAt]; simp [go_sem]; (with_reducible exact effUpon_enter (hMo _)))); (focus ((first | (apply put_some rfl; focus (conv => lhs; dsimp only [List.set_cons_zero, List.set_cons_succ]) <;> rfl) | exact put_none rfl))))
          intro w14 hs
          have Fw14 := Fw13.trans (hs.mono Fw13.size)
          replace hB_p := hB_p.below hs hB_p.lt
          replace hB_q := hB_q.below hs hB_q.lt
          replace hB_a := hB_a.below hs hB_a.lt
          replace hB_b := hB_b.below hs hB_b.lt
          clear hs Fw13
          clear hc_p; have hc_p := hB_p.cell
          clear hc_q; have hc_q := hB_q.cell
          clear hc_a; have hc_a := hB_a.cell
          clear hc_b; have hc_b := hB_b.cell
          repeat (first | with_reducible apply wpList_nil | ((with_reducible apply region_k); intro KK kk) | with_reducible apply wp_region_lit | ((with_reducible apply seq_k); intro KK kk) | ((with_reducible apply seq_q); (focus (first | exact wanted_none rfl | exact wanted_yes rfl rfl rfl)); (focus (simp [go_sem, effAt, ↓IntWalk.iteOmega, *]; (try go_ints); (first | (with_reducible exact effUpon_val) | (with_reducible exact effUpon_skip)))); (focus ((first | (apply put_some rfl; focus (conv => lhs; dsimp only [List.set_cons_zero, List.set_cons_succ]) <;> rfl) | exact put_none rfl)))) | ((with_reducible apply seq_s); (focus (first | exact wanted_no rfl rfl rfl | exact wanted_undef rfl rfl rfl)); (focus ((first | (apply put_some rfl; focus (conv => lhs; dsimp only [List.set_cons_zero, List.set_cons_succ]) <;> rfl) | exact put_none rfl)))) | with_reducible apply wp_block | with_reducible apply wp_skip | with_reducible apply wp_exit | with_reducible apply wp_ret | ((with_reducible apply wp_cond_true); (focus (first | rfl | (simp [go_sem, *]; done)))) | ((with_reducible apply wp_cond_false); (focus (first | rfl | (simp [go_sem, *]; done)))) | (simp only [Exit.then, Exit.inBlock, ↓reduceIte, Nat.reduceEqDiff]) | ((with_reducible apply kf_out); (focus assumption)))
          ((with_reducible apply seq_e (Below w14.heap.size w14)); (focus rfl); (focus (simp only [effAt]; simp [go_sem]; (with_reducible exact effUpon_enter (works_any _)))); (focus ((first | (apply put_some rfl; focus (conv => lhs; dsimp only [List.set_cons_zero, List.set_cons_succ]) <;> rfl) | exact put_none rfl))))
          intro w15 hs
          have Fw15 := Fw14.trans (hs.mono Fw14.size)
          replace hB_p := hB_p.below hs hB_p.lt
          replace hB_q := hB_q.below hs hB_q.lt
          replace hB_a := hB_a.below hs hB_a.lt
          replace hB_b := hB_b.below hs hB_b.lt
          clear hs Fw14
          clear hc_p; have hc_p := hB_p.cell
          clear hc_q; have hc_q := hB_q.cell
          clear hc_a; have hc_a := hB_a.cell
          clear hc_b; have hc_b := hB_b.cell
          repeat (first | with_reducible apply wpList_nil | ((with_reducible apply region_k); intro KK kk) | with_reducible apply wp_region_lit | ((with_reducible apply seq_k); intro KK kk) | ((with_reducible apply seq_q); (focus (first | exact wanted_none rfl | exact wanted_yes rfl rfl rfl)); (focus (simp [go_sem, effAt, ↓IntWalk.iteOmega, *]; (try go_ints); (first | (with_reducible exact effUpon_val) | (with_reducible exact effUpon_skip)))); (focus ((first | (apply put_some rfl; focus (conv => lhs; dsimp only [List.set_cons_zero, List.set_cons_succ]) <;> rfl) | exact put_none rfl)))) | ((with_reducible apply seq_s); (focus (first | exact wanted_no rfl rfl rfl | exact wanted_undef rfl rfl rfl)); (focus ((first | (apply put_some rfl; focus (conv => lhs; dsimp only [List.set_cons_zero, List.set_cons_succ]) <;> rfl) | exact put_none rfl)))) | with_reducible apply wp_block | with_reducible apply wp_skip | with_reducible apply wp_exit | with_reducible apply wp_ret | ((with_reducible apply wp_cond_true); (focus (first | rfl | (simp [go_sem, *]; done)))) | ((with_reducible apply wp_cond_false); (focus (first | rfl | (simp [go_sem, *]; done)))) | (simp only [Exit.then, Exit.inBlock, ↓reduceIte, Nat.reduceEqDiff]) | ((with_reducible apply kf_out); (focus assumption)))
          go_ret
          exact ⟨rfl, by assumption⟩
        case true =>
          cases xa
          case false =>
            repeat (first | with_reducible apply wpList_nil | ((with_reducible apply region_k); intro KK kk) | with_reducible apply wp_region_lit | ((with_reducible apply seq_k); intro KK kk) | ((with_reducible apply seq_q); (focus (first | exact wanted_none rfl | exact wanted_yes rfl rfl rfl)); (focus (simp [go_sem, effAt, ↓IntWalk.iteOmega, *]; (try go_ints); (first | (with_reducible exact effUpon_val) | (with_reducible exact effUpon_skip)))); (focus ((first | (apply put_some rfl; focus (conv => lhs; dsimp only [List.set_cons_zero, List.set_cons_succ]) <;> rfl) | exact put_none rfl)))) | ((with_reducible apply seq_s); (focus (first | exact wanted_no rfl rfl rfl | exact wanted_undef rfl rfl rfl)); (focus ((first | (apply put_some rfl; focus (conv => lhs; dsimp only [List.set_cons_zero, List.set_cons_succ]) <;> rfl) | exact put_none rfl)))) | with_reducible apply wp_block | with_reducible apply wp_skip | with_reducible apply wp_exit | with_reducible apply wp_ret | ((with_reducible apply wp_cond_true); (focus (first | rfl | (simp [go_sem, *]; done)))) | ((with_reducible apply wp_cond_false); (focus (first | rfl | (simp [go_sem, *]; done)))) | (simp only [Exit.then, Exit.inBlock, ↓reduceIte, Nat.reduceEqDiff]) | ((with_reducible apply kf_out); (focus assumption)))
            ((with_reducible apply seq_e (Below w13.heap.size w13)); (focus rfl); (focus (simp only [effAt]; simp [go_sem]; (with_reducible exact effUpon_enter (hMo _)))); (focus ((first | (apply put_some rfl; focus (conv => lhs; dsimp only [List.set_cons_zero, List.set_cons_succ]) <;> rfl) | exact put_none rfl))))
            intro w16 hs
            have Fw16 := Fw13.trans (hs.mono Fw13.size)
            replace hB_p := hB_p.below hs hB_p.lt
            replace hB_q := hB_q.below hs hB_q.lt
            replace hB_a := hB_a.below hs hB_a.lt
            replace hB_b := hB_b.below hs hB_b.lt
            clear hs Fw13
            clear hc_p; have hc_p := hB_p.cell
            clear hc_q; have hc_q := hB_q.cell
            clear hc_a; have hc_a := hB_a.cell
            clear hc_b; have hc_b := hB_b.cell
            repeat (first | with_reducible apply wpList_nil | ((with_reducible apply region_k); intro KK kk) | with_reducible apply wp_region_lit | ((with_reducible apply seq_k); intro KK kk) | ((with_reducible apply seq_q); (focus (first | exact wanted_none rfl | exact wanted_yes rfl rfl rfl)); (focus (simp [go_sem, effAt, ↓IntWalk.iteOmega, *]; (try go_ints); (first | (with_reducible exact effUpon_val) | (with_reducible exact effUpon_skip)))); (focus ((first | (apply put_some rfl; focus (conv => lhs; dsimp only [List.set_cons_zero, List.set_cons_succ]) <;> rfl) | exact put_none rfl)))) | ((with_reducible apply seq_s); (focus (first | exact wanted_no rfl rfl rfl | exact wanted_undef rfl rfl rfl)); (focus ((first | (apply put_some rfl; focus (conv => lhs; dsimp only [List.set_cons_zero, List.set_cons_succ]) <;> rfl) | exact put_none rfl)))) | with_reducible apply wp_block | with_reducible apply wp_skip | with_reducible apply wp_exit | with_reducible apply wp_ret | ((with_reducible apply wp_cond_true); (focus (first | rfl | (simp [go_sem, *]; done)))) | ((with_reducible apply wp_cond_false); (focus (first | rfl | (simp [go_sem, *]; done)))) | (simp only [Exit.then, Exit.inBlock, ↓reduceIte, Nat.reduceEqDiff]) | ((with_reducible apply kf_out); (focus assumption)))
            ((with_reducible apply seq_e (Below w16.heap.size w16)); (focus rfl); (focus (simp only [effAt]; simp [go_sem]; (with_reducible exact effUpon_enter (hMa _)))); (focus ((first | (apply put_some rfl; focus (conv => lhs; dsimp only [List.set_cons_zero, List.set_cons_succ]) <;> rfl) | exact put_none rfl))))
            intro w17 hs
            have Fw17 := Fw16.trans (hs.mono Fw16.size)
            replace hB_p := hB_p.below hs hB_p.lt
            replace hB_q := hB_q.below hs hB_q.lt
            replace hB_a := hB_a.below hs hB_a.lt
            replace hB_b := hB_b.below hs hB_b.lt
            clear hs Fw16
            clear hc_p; have hc_p := hB_p.cell
            clear hc_q; have hc_q := hB_q.cell
            clear hc_a; have hc_a := hB_a.cell
            clear hc_b; have hc_b := hB_b.cell
            repeat (first | with_reducible apply wpList_nil | ((with_reducible apply region_k); intro KK kk) | with_reducible apply wp_region_lit | ((with_reducible apply seq_k); intro KK kk) | ((with_reducible apply seq_q); (focus (first | exact wanted_none rfl | exact wanted_yes rfl rfl rfl)); (focus (simp [go_sem, effAt, ↓IntWalk.iteOmega, *]; (try go_ints); (first | (with_reducible exact effUpon_val) | (with_reducible exact effUpon_skip)))); (focus ((first | (apply put_some rfl; focus (conv => lhs; dsimp only [List.set_cons_zero, List.set_cons_succ]) <;> rfl) | exact put_none rfl)))) | ((with_reducible apply seq_s); (focus (first | exact wanted_no rfl rfl rfl | exact wanted_undef rfl rfl rfl)); (focus ((first | (apply put_some rfl; focus (conv => lhs; dsimp only [List.set_cons_zero, List.set_cons_succ]) <;> rfl) | exact put_none rfl)))) | with_reducible apply wp_block | with_reducible apply wp_skip | with_reducible apply wp_exit | with_reducible apply wp_ret | ((with_reducible apply wp_cond_true); (focus (first | rfl | (simp [go_sem, *]; done)))) | ((with_reducible apply wp_cond_false); (focus (first | rfl | (simp [go_sem, *]; done)))) | (simp only [Exit.then, Exit.inBlock, ↓reduceIte, Nat.reduceEqDiff]) | ((with_reducible apply kf_out); (focus assumption)))
            ((with_reducible apply seq_e (Below w17.heap.size w17)); (focus rfl); (focus (simp only [effAt]; simp [go_sem]; (with_reducible exact effUpon_enter (works_any _)))); (focus ((first | (apply put_some rfl; focus (conv => lhs; dsimp only [List.set_cons_zero, List.set_cons_succ]) <;> rfl) | exact put_none rfl))))
            intro w18 hs
            have Fw18 := Fw17.trans (hs.mono Fw17.size)
            replace hB_p := hB_p.below hs hB_p.lt
            replace hB_q := hB_q.below hs hB_q.lt
            replace hB_a := hB_a.below hs hB_a.lt
            replace hB_b := hB_b.below hs hB_b.lt
            clear hs Fw17
            clear hc_p; have hc_p := hB_p.cell
            clear hc_q; have hc_q := hB_q.cell
            clear hc_a; have hc_a := hB_a.cell
            clear hc_b; have hc_b := hB_b.cell
            repeat (first | with_reducible apply wpList_nil | ((with_reducible apply region_k); intro KK kk) | with_reducible apply wp_region_lit | ((with_reducible apply seq_k); intro KK kk) | ((with_reducible apply seq_q); (focus (first | exact wanted_none rfl | exact wanted_yes rfl rfl rfl)); (focus (simp [go_sem, effAt, ↓IntWalk.iteOmega, *]; (try go_ints); (first | (with_reducible exact effUpon_val) | (with_reducible exact effUpon_skip)))); (focus ((first | (apply put_some rfl; focus (conv => lhs; dsimp only [List.set_cons_zero, List.set_cons_succ]) <;> rfl) | exact put_none rfl)))) | ((with_reducible apply seq_s); (focus (first | exact wanted_no rfl rfl rfl | exact wanted_undef rfl rfl rfl)); (focus ((first | (apply put_some rfl; focus (conv => lhs; dsimp only [List.set_cons_zero, List.set_cons_succ]) <;> rfl) | exact put_none rfl)))) | with_reducible apply wp_block | with_reducible apply wp_skip | with_reducible apply wp_exit | with_reducible apply wp_ret | ((with_reducible apply wp_cond_true); (focus (first | rfl | (simp [go_sem, *]; done)))) | ((with_reducible apply wp_cond_false); (focus (first | rfl | (simp [go_sem, *]; done)))) | (simp only [Exit.then, Exit.inBlock, ↓reduceIte, Nat.reduceEqDiff]) | ((with_reducible apply kf_out); (focus assumption)))
            go_ret
            exact ⟨rfl, by assumption⟩
          case true =>
            obtain rfl := HZ.out rfl rfl
            repeat (first | with_reducible apply wpList_nil | ((with_reducible apply region_k); intro KK kk) | with_reducible apply wp_region_lit | ((with_reducible apply seq_k); intro KK kk) | ((with_reducible apply seq_q); (focus (first | exact wanted_none rfl | exact wanted_yes rfl rfl rfl)); (focus (simp [go_sem, effAt, ↓IntWalk.iteOmega, *]; (try go_ints); (first | (with_reducible exact effUpon_val) | (with_reducible exact effUpon_skip)))); (focus ((first | (apply put_some rfl; focus (conv => lhs; dsimp only [List.set_cons_zero, List.set_cons_succ]) <;> rfl) | exact put_none rfl)))) | ((with_reducible apply seq_s); (focus (first | exact wanted_no rfl rfl rfl | exact wanted_undef rfl rfl rfl)); (focus ((first | (apply put_some rfl; focus (conv => lhs; dsimp only [List.set_cons_zero, List.set_cons_succ]) <;> rfl) | exact put_none rfl)))) | with_reducible apply wp_block | with_reducible apply wp_skip | with_reducible apply wp_exit | with_reducible apply wp_ret | ((with_reducible apply wp_cond_true); (focus (first | rfl | (simp [go_sem, *]; done)))) | ((with_reducible apply wp_cond_false); (focus (first | rfl | (simp [go_sem, *]; done)))) | (simp only [Exit.then, Exit.inBlock, ↓reduceIte, Nat.reduceEqDiff]) | ((with_reducible apply kf_out); (focus assumption)))
            ((with_reducible apply seq_e (Below w13.heap.size w13)); (focus rfl); (focus (simp only [effAt]; simp [go_sem]; (with_reducible exact effUpon_enter (hMo _)))); (focus ((first | (apply put_some rfl; focus (conv => lhs; dsimp only [List.set_cons_zero, List.set_cons_succ]) <;> rfl) | exact put_none rfl))))
            intro w19 hs
            have Fw19 := Fw13.trans (hs.mono Fw13.size)
            replace hB_p := hB_p.below hs hB_p.lt
            replace hB_q := hB_q.below hs hB_q.lt
            replace hB_a := hB_a.below hs hB_a.lt
            replace hB_b := hB_b.below hs hB_b.lt
            clear hs Fw13
            clear hc_p; have hc_p := hB_p.cell
            clear hc_q; have hc_q := hB_q.cell
            clear hc_a; have hc_a := hB_a.cell
            clear hc_b; have hc_b := hB_b.cell
            repeat (first | with_reducible apply wpList_nil | ((with_reducible apply region_k); intro KK kk) | with_reducible apply wp_region_lit | ((with_reducible apply seq_k); intro KK kk) | ((with_reducible apply seq_q); (focus (first | exact wanted_none rfl | exact wanted_yes rfl rfl rfl)); (focus (simp [go_sem, effAt, ↓IntWalk.iteOmega, *]; (try go_ints); (first | (with_reducible exact effUpon_val) | (with_reducible exact effUpon_skip)))); (focus ((first | (apply put_some rfl; focus (conv => lhs; dsimp only [List.set_cons_zero, List.set_cons_succ]) <;> rfl) | exact put_none rfl)))) | ((with_reducible apply seq_s); (focus (first | exact wanted_no rfl rfl rfl | exact wanted_undef rfl rfl rfl)); (focus ((first | (apply put_some rfl; focus (conv => lhs; dsimp only [List.set_cons_zero, List.set_cons_succ]) <;> rfl) | exact put_none rfl)))) | with_reducible apply wp_block | with_reducible apply wp_skip | with_reducible apply wp_exit | with_reducible apply wp_ret | ((with_reducible apply wp_cond_true); (focus (first | rfl | (simp [go_sem, *]; done)))) | ((with_reducible apply wp_cond_false); (focus (first | rfl | (simp [go_sem, *]; done)))) | (simp only [Exit.then, Exit.inBlock, ↓reduceIte, Nat.reduceEqDiff]) | ((with_reducible apply kf_out); (focus assumption)))
            ((with_reducible apply seq_e (Below w19.heap.size w19)); (focus rfl); (focus (simp only [effAt]; simp [go_sem]; (with_reducible exact effUpon_enter (hMa _)))); (focus ((first | (apply put_some rfl; focus (conv => lhs; dsimp only [List.set_cons_zero, List.set_cons_succ]) <;> rfl) | exact put_none rfl))))
            intro w20 hs
            have Fw20 := Fw19.trans (hs.mono Fw19.size)
            replace hB_p := hB_p.below hs hB_p.lt
            replace hB_q := hB_q.below hs hB_q.lt
            replace hB_a := hB_a.below hs hB_a.lt
            replace hB_b := hB_b.below hs hB_b.lt
            clear hs Fw19
            clear hc_p; have hc_p := hB_p.cell
            clear hc_q; have hc_q := hB_q.cell
            clear hc_a; have hc_a := hB_a.cell
            clear hc_b; have hc_b := hB_b.cell
            repeat (first | with_reducible apply wpList_nil | ((with_reducible apply region_k); intro KK kk) | with_reducible apply wp_region_lit | ((with_reducible apply seq_k); intro KK kk) | ((with_reducible apply seq_q); (focus (first | exact wanted_none rfl | exact wanted_yes rfl rfl rfl)); (focus (simp [go_sem, effAt, ↓IntWalk.iteOmega, *]; (try go_ints); (first | (with_reducible exact effUpon_val) | (with_reducible exact effUpon_skip)))); (focus ((first | (apply put_some rfl; focus (conv => lhs; dsimp only [List.set_cons_zero, List.set_cons_succ]) <;> rfl) | exact put_none rfl)))) | ((with_reducible apply seq_s); (focus (first | exact wanted_no rfl rfl rfl | exact wanted_undef rfl rfl rfl)); (focus ((first | (apply put_some rfl; focus (conv => lhs; dsimp only [List.set_cons_zero, List.set_cons_succ]) <;> rfl) | exact put_none rfl)))) | with_reducible apply wp_block | with_reducible apply wp_skip | with_reducible apply wp_exit | with_reducible apply wp_ret | ((with_reducible apply wp_cond_true); (focus (first | rfl | (simp [go_sem, *]; done)))) | ((with_reducible apply wp_cond_false); (focus (first | rfl | (simp [go_sem, *]; done)))) | (simp only [Exit.then, Exit.inBlock, ↓reduceIte, Nat.reduceEqDiff]) | ((with_reducible apply kf_out); (focus assumption)))
            ((with_reducible apply seq_e (Below w20.heap.size w20)); (focus rfl); (focus (simp only [effAt]; simp [go_sem]; (with_reducible exact effUpon_enter (hMg _)))); (focus ((first | (apply put_some rfl; focus (conv => lhs; dsimp only [List.set_cons_zero, List.set_cons_succ]) <;> rfl) | exact put_none rfl))))
            intro w21 hs
            have Fw21 := Fw20.trans (hs.mono Fw20.size)
            replace hB_p := hB_p.below hs hB_p.lt
            replace hB_q := hB_q.below hs hB_q.lt
            replace hB_a := hB_a.below hs hB_a.lt
            replace hB_b := hB_b.below hs hB_b.lt
            clear hs Fw20
            clear hc_p; have hc_p := hB_p.cell
            clear hc_q; have hc_q := hB_q.cell
            clear hc_a; have hc_a := hB_a.cell
            clear hc_b; have hc_b := hB_b.cell
            repeat (first | with_reducible apply wpList_nil | ((with_reducible apply region_k); intro KK kk) | with_reducible apply wp_region_lit | ((with_reducible apply seq_k); intro KK kk) | ((with_reducible apply seq_q); (focus (first | exact wanted_none rfl | exact wanted_yes rfl rfl rfl)); (focus (simp [go_sem, effAt, ↓IntWalk.iteOmega, *]; (try go_ints); (first | (with_reducible exact effUpon_val) | (with_reducible exact effUpon_skip)))); (focus ((first | (apply put_some rfl; focus (conv => lhs; dsimp only [List.set_cons_zero, List.set_cons_succ]) <;> rfl) | exact put_none rfl)))) | ((with_reducible apply seq_s); (focus (first | exact wanted_no rfl rfl rfl | exact wanted_undef rfl rfl rfl)); (focus ((first | (apply put_some rfl; focus (conv => lhs; dsimp only [List.set_cons_zero, List.set_cons_succ]) <;> rfl) | exact put_none rfl)))) | with_reducible apply wp_block | with_reducible apply wp_skip | with_reducible apply wp_exit | with_reducible apply wp_ret | ((with_reducible apply wp_cond_true); (focus (first | rfl | (simp [go_sem, *]; done)))) | ((with_reducible apply wp_cond_false); (focus (first | rfl | (simp [go_sem, *]; done)))) | (simp only [Exit.then, Exit.inBlock, ↓reduceIte, Nat.reduceEqDiff]) | ((with_reducible apply kf_out); (focus assumption)))
            ((with_reducible apply seq_e (Below w21.heap.size w21)); (focus rfl); (focus (simp only [effAt]; simp [go_sem]; (with_reducible exact effUpon_enter (works_any _)))); (focus ((first | (apply put_some rfl; focus (conv => lhs; dsimp only [List.set_cons_zero, List.set_cons_succ]) <;> rfl) | exact put_none rfl))))
            intro w22 hs
            have Fw22 := Fw21.trans (hs.mono Fw21.size)
            replace hB_p := hB_p.below hs hB_p.lt
            replace hB_q := hB_q.below hs hB_q.lt
            replace hB_a := hB_a.below hs hB_a.lt
            replace hB_b := hB_b.below hs hB_b.lt
            clear hs Fw21
            clear hc_p; have hc_p := hB_p.cell
            clear hc_q; have hc_q := hB_q.cell
            clear hc_a; have hc_a := hB_a.cell
            clear hc_b; have hc_b := hB_b.cell
            repeat (first | with_reducible apply wpList_nil | ((with_reducible apply region_k); intro KK kk) | with_reducible apply wp_region_lit | ((with_reducible apply seq_k); intro KK kk) | ((with_reducible apply seq_q); (focus (first | exact wanted_none rfl | exact wanted_yes rfl rfl rfl)); (focus (simp [go_sem, effAt, ↓IntWalk.iteOmega, *]; (try go_ints); (first | (with_reducible exact effUpon_val) | (with_reducible exact effUpon_skip)))); (focus ((first | (apply put_some rfl; focus (conv => lhs; dsimp only [List.set_cons_zero, List.set_cons_succ]) <;> rfl) | exact put_none rfl)))) | ((with_reducible apply seq_s); (focus (first | exact wanted_no rfl rfl rfl | exact wanted_undef rfl rfl rfl)); (focus ((first | (apply put_some rfl; focus (conv => lhs; dsimp only [List.set_cons_zero, List.set_cons_succ]) <;> rfl) | exact put_none rfl)))) | with_reducible apply wp_block | with_reducible apply wp_skip | with_reducible apply wp_exit | with_reducible apply wp_ret | ((with_reducible apply wp_cond_true); (focus (first | rfl | (simp [go_sem, *]; done)))) | ((with_reducible apply wp_cond_false); (focus (first | rfl | (simp [go_sem, *]; done)))) | (simp only [Exit.then, Exit.inBlock, ↓reduceIte, Nat.reduceEqDiff]) | ((with_reducible apply kf_out); (focus assumption)))
            go_ret
            exact ⟨rfl, by assumption⟩
set_option maxRecDepth 100000 in
set_option maxHeartbeats 1000000 in
theorem back_any (d f c p t n m k d' f' c' p' t' n' m' k' : Int) (v : ByteArray) (w : World) (hd' : 0 ≤ d' ∧ d' ≤ 255) (hf' : 0 ≤ f') (hc' : 0 ≤ c') (hp' : 0 ≤ p') (hv : v.size ≤ 9223372036854775807) :
   Calls Try.prog 5 #[.agg #[.int .u8 d, .int .u8 f, .int .u8 c, .int .u8 p, .int .i64 t, .int .i64 n, .int .i64 m, .int .i64 k], .agg #[.int .u8 d', .int .u8 f', .int .u8 c', .int .u8 p', .int .i64 t', .int .i64 n', .int .i64 m', .int .i64 k'], .string v] w (Ret (.bool true) (Below w.heap.size w)) := by
  by_cases h : v.size ≤ 100
  · exact back_small _ _ _ _ _ _ _ _ _ _ _ _ _ _ _ _ v w hd' hf' hc' hp' h
  have hgt : ((100 : Int) < (v.size : Int)) := by omega
  go_enter Try.func5, Try.ntmps5
  have F0 : Below w.heap.size w w := Below.refl _ _
  with_reducible apply seq_region
  ((with_reducible apply seq_box); (focus rfl); (focus (simp [go_sem, effAt]; exact ⟨rfl, rfl⟩)); (focus ((first | (apply put_some rfl; focus (conv => lhs; dsimp only [List.set_cons_zero, List.set_cons_succ]) <;> rfl) | exact put_none rfl))))
  intro w1 hB_p hs
  have Fw1 := F0.trans (hs.mono F0.size)
  clear hs F0
  have hc_p := hB_p.cell
  have lt_p_q := hB_p.lt
  ((with_reducible apply seq_box); (focus rfl); (focus (simp [go_sem, effAt]; exact ⟨rfl, rfl⟩)); (focus ((first | (apply put_some rfl; focus (conv => lhs; dsimp only [List.set_cons_zero, List.set_cons_succ]) <;> rfl) | exact put_none rfl))))
  intro w2 hB_q hs
  have Fw2 := Fw1.trans (hs.mono Fw1.size)
  replace hB_p := hB_p.below hs hB_p.lt
  clear hs Fw1
  clear hc_p; have hc_p := hB_p.cell
  have hc_q := hB_q.cell
  repeat (first | with_reducible apply wpList_nil | ((with_reducible apply region_k); intro KK kk) | with_reducible apply wp_region_lit | ((with_reducible apply seq_k); intro KK kk) | ((with_reducible apply seq_q); (focus (first | exact wanted_none rfl | exact wanted_yes rfl rfl rfl)); (focus (simp [go_sem, effAt, ↓IntWalk.iteOmega, *]; (try go_ints); (first | (with_reducible exact effUpon_val) | (with_reducible exact effUpon_skip)))); (focus ((first | (apply put_some rfl; focus (conv => lhs; dsimp only [List.set_cons_zero, List.set_cons_succ]) <;> rfl) | exact put_none rfl)))) | ((with_reducible apply seq_s); (focus (first | exact wanted_no rfl rfl rfl | exact wanted_undef rfl rfl rfl)); (focus ((first | (apply put_some rfl; focus (conv => lhs; dsimp only [List.set_cons_zero, List.set_cons_succ]) <;> rfl) | exact put_none rfl)))) | with_reducible apply wp_block | with_reducible apply wp_skip | with_reducible apply wp_exit | with_reducible apply wp_ret | ((with_reducible apply wp_cond_true); (focus (first | rfl | (simp [go_sem, *]; done)))) | ((with_reducible apply wp_cond_false); (focus (first | rfl | (simp [go_sem, *]; done)))) | (simp only [Exit.then, Exit.inBlock, ↓reduceIte, Nat.reduceEqDiff]) | ((with_reducible apply kf_out); (focus assumption)))
  ((with_reducible apply seq_e (Below w2.heap.size w2)); (focus rfl); (focus (simp only [effAt]; simp [go_sem]; (with_reducible exact effUpon_enter (works_any _)))); (focus ((first | (apply put_some rfl; focus (conv => lhs; dsimp only [List.set_cons_zero, List.set_cons_succ]) <;> rfl) | exact put_none rfl))))
  intro w3 hs
  have Fw3 := Fw2.trans (hs.mono Fw2.size)
  replace hB_p := hB_p.below hs hB_p.lt
  replace hB_q := hB_q.below hs hB_q.lt
  clear hs Fw2
  clear hc_p; have hc_p := hB_p.cell
  clear hc_q; have hc_q := hB_q.cell
  repeat (first | with_reducible apply wpList_nil | ((with_reducible apply region_k); intro KK kk) | with_reducible apply wp_region_lit | ((with_reducible apply seq_k); intro KK kk) | ((with_reducible apply seq_q); (focus (first | exact wanted_none rfl | exact wanted_yes rfl rfl rfl)); (focus (simp [go_sem, effAt, ↓IntWalk.iteOmega, *]; (try go_ints); (first | (with_reducible exact effUpon_val) | (with_reducible exact effUpon_skip)))); (focus ((first | (apply put_some rfl; focus (conv => lhs; dsimp only [List.set_cons_zero, List.set_cons_succ]) <;> rfl) | exact put_none rfl)))) | ((with_reducible apply seq_s); (focus (first | exact wanted_no rfl rfl rfl | exact wanted_undef rfl rfl rfl)); (focus ((first | (apply put_some rfl; focus (conv => lhs; dsimp only [List.set_cons_zero, List.set_cons_succ]) <;> rfl) | exact put_none rfl)))) | with_reducible apply wp_block | with_reducible apply wp_skip | with_reducible apply wp_exit | with_reducible apply wp_ret | ((with_reducible apply wp_cond_true); (focus (first | rfl | (simp [go_sem, *]; done)))) | ((with_reducible apply wp_cond_false); (focus (first | rfl | (simp [go_sem, *]; done)))) | (simp only [Exit.then, Exit.inBlock, ↓reduceIte, Nat.reduceEqDiff]) | ((with_reducible apply kf_out); (focus assumption)))
  go_ret
  exact ⟨rfl, by assumption⟩
end Go.Proofs.Ytcnckejeepkflaa
