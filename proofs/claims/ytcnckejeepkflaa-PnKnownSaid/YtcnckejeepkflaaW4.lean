/- The walk of the reference's Lowers, case by case. -/
import Derived.Test.YtcnckejeepkflaaW3
set_option linter.unusedSimpArgs false
set_option linter.unusedVariables false
namespace Go.Proofs.Ytcnckejeepkflaa
open Go.RowKit Go.Eff
theorem lowB_t {d f c p t n m k d' f' c' p' t' n' m' k' : Int} (h : LowP d f c p t n m k d' f' c' p' t' n' m' k') : lowB d f c p t n m k d' f' c' p' t' n' m' k' = true := decide_eq_true h
theorem lowB_f {d f c p t n m k d' f' c' p' t' n' m' k' : Int} (h : ¬ LowP d f c p t n m k d' f' c' p' t' n' m' k') : lowB d f c p t n m k d' f' c' p' t' n' m' k' = false := decide_eq_false h
set_option maxHeartbeats 8000000 in
theorem lowers_ref (d f c p t n m k d' f' c' p' t' n' m' k' : Int) (w : World) : Calls Try.prog 18 #[.agg #[.int .u8 d, .int .u8 f, .int .u8 c, .int .u8 p, .int .i64 t, .int .i64 n, .int .i64 m, .int .i64 k], .agg #[.int .u8 d', .int .u8 f', .int .u8 c', .int .u8 p', .int .i64 t', .int .i64 n', .int .i64 m', .int .i64 k']] w
   (Ret (.bool (lowB d f c p t n m k d' f' c' p' t' n' m' k')) (Below w.heap.size w)) := by
  by_cases h0 : d = d'
  case neg =>
    have hb := beq_eq_false_iff_ne.2 h0
    go_enter Try.func18, Try.ntmps18
    have F0 : Below w.heap.size w w := Below.refl _ _
    with_reducible apply seq_region
    ((with_reducible apply seq_box); (focus rfl); (focus (simp [go_sem, effAt]; exact ⟨rfl, rfl⟩)); (focus ((simp only [Act.put, List.setIfInBounds_toArray, List.set_cons_zero, List.set_cons_succ]; rfl))))
    intro w1 hB_p hs
    have Fw1 := F0.trans (hs.mono F0.size)
    clear hs F0
    have hc_p := hB_p.cell
    have lt_p_q := hB_p.lt
    ((with_reducible apply seq_box); (focus rfl); (focus (simp [go_sem, effAt]; exact ⟨rfl, rfl⟩)); (focus ((simp only [Act.put, List.setIfInBounds_toArray, List.set_cons_zero, List.set_cons_succ]; rfl))))
    intro w2 hB_q hs
    have Fw2 := Fw1.trans (hs.mono Fw1.size)
    replace hB_p := hB_p.below hs hB_p.lt
    clear hs Fw1
    clear hc_p; have hc_p := hB_p.cell
    have hc_q := hB_q.cell
    repeat (first | with_reducible apply wpList_nil | with_reducible apply seq_region | with_reducible apply wp_region_lit | ((with_reducible apply seq_q); (focus rfl); (focus (simp [go_sem, effAt, ↓IntWalk.iteOmega, *]; (try go_ints); (first | (with_reducible exact effUpon_val) | (with_reducible exact effUpon_skip)))); (focus ((simp only [Act.put, List.setIfInBounds_toArray, List.set_cons_zero, List.set_cons_succ]; rfl)))) | ((with_reducible apply seq_s); (focus rfl); (focus ((simp only [Act.put, List.setIfInBounds_toArray, List.set_cons_zero, List.set_cons_succ]; rfl)))) | with_reducible apply wp_seq | with_reducible apply wp_block | with_reducible apply wp_skip | with_reducible apply wp_exit | with_reducible apply wp_ret | ((with_reducible apply wp_cond_true); (focus (first | rfl | (simp [go_sem, *]; done)))) | ((with_reducible apply wp_cond_false); (focus (first | rfl | (simp [go_sem, *]; done)))) | (simp only [Exit.then, Exit.inBlock, ↓reduceIte, Nat.reduceEqDiff]))
    go_ret
    exact ⟨by rw [lowB_f (by unfold LowP; omega)]; rfl, by assumption⟩
  by_cases h1 : f = f'
  case neg =>
    have hb := beq_eq_false_iff_ne.2 h1
    go_enter Try.func18, Try.ntmps18
    have F0 : Below w.heap.size w w := Below.refl _ _
    with_reducible apply seq_region
    ((with_reducible apply seq_box); (focus rfl); (focus (simp [go_sem, effAt]; exact ⟨rfl, rfl⟩)); (focus ((simp only [Act.put, List.setIfInBounds_toArray, List.set_cons_zero, List.set_cons_succ]; rfl))))
    intro w3 hB_p hs
    have Fw3 := F0.trans (hs.mono F0.size)
    clear hs F0
    have hc_p := hB_p.cell
    have lt_p_q := hB_p.lt
    ((with_reducible apply seq_box); (focus rfl); (focus (simp [go_sem, effAt]; exact ⟨rfl, rfl⟩)); (focus ((simp only [Act.put, List.setIfInBounds_toArray, List.set_cons_zero, List.set_cons_succ]; rfl))))
    intro w4 hB_q hs
    have Fw4 := Fw3.trans (hs.mono Fw3.size)
    replace hB_p := hB_p.below hs hB_p.lt
    clear hs Fw3
    clear hc_p; have hc_p := hB_p.cell
    have hc_q := hB_q.cell
    repeat (first | with_reducible apply wpList_nil | with_reducible apply seq_region | with_reducible apply wp_region_lit | ((with_reducible apply seq_q); (focus rfl); (focus (simp [go_sem, effAt, ↓IntWalk.iteOmega, *]; (try go_ints); (first | (with_reducible exact effUpon_val) | (with_reducible exact effUpon_skip)))); (focus ((simp only [Act.put, List.setIfInBounds_toArray, List.set_cons_zero, List.set_cons_succ]; rfl)))) | ((with_reducible apply seq_s); (focus rfl); (focus ((simp only [Act.put, List.setIfInBounds_toArray, List.set_cons_zero, List.set_cons_succ]; rfl)))) | with_reducible apply wp_seq | with_reducible apply wp_block | with_reducible apply wp_skip | with_reducible apply wp_exit | with_reducible apply wp_ret | ((with_reducible apply wp_cond_true); (focus (first | rfl | (simp [go_sem, *]; done)))) | ((with_reducible apply wp_cond_false); (focus (first | rfl | (simp [go_sem, *]; done)))) | (simp only [Exit.then, Exit.inBlock, ↓reduceIte, Nat.reduceEqDiff]))
    go_ret
    exact ⟨by rw [lowB_f (by unfold LowP; omega)]; rfl, by assumption⟩
  by_cases h2 : c = c'
  case neg =>
    have hb := beq_eq_false_iff_ne.2 h2
    go_enter Try.func18, Try.ntmps18
    have F0 : Below w.heap.size w w := Below.refl _ _
    with_reducible apply seq_region
    ((with_reducible apply seq_box); (focus rfl); (focus (simp [go_sem, effAt]; exact ⟨rfl, rfl⟩)); (focus ((simp only [Act.put, List.setIfInBounds_toArray, List.set_cons_zero, List.set_cons_succ]; rfl))))
    intro w5 hB_p hs
    have Fw5 := F0.trans (hs.mono F0.size)
    clear hs F0
    have hc_p := hB_p.cell
    have lt_p_q := hB_p.lt
    ((with_reducible apply seq_box); (focus rfl); (focus (simp [go_sem, effAt]; exact ⟨rfl, rfl⟩)); (focus ((simp only [Act.put, List.setIfInBounds_toArray, List.set_cons_zero, List.set_cons_succ]; rfl))))
    intro w6 hB_q hs
    have Fw6 := Fw5.trans (hs.mono Fw5.size)
    replace hB_p := hB_p.below hs hB_p.lt
    clear hs Fw5
    clear hc_p; have hc_p := hB_p.cell
    have hc_q := hB_q.cell
    repeat (first | with_reducible apply wpList_nil | with_reducible apply seq_region | with_reducible apply wp_region_lit | ((with_reducible apply seq_q); (focus rfl); (focus (simp [go_sem, effAt, ↓IntWalk.iteOmega, *]; (try go_ints); (first | (with_reducible exact effUpon_val) | (with_reducible exact effUpon_skip)))); (focus ((simp only [Act.put, List.setIfInBounds_toArray, List.set_cons_zero, List.set_cons_succ]; rfl)))) | ((with_reducible apply seq_s); (focus rfl); (focus ((simp only [Act.put, List.setIfInBounds_toArray, List.set_cons_zero, List.set_cons_succ]; rfl)))) | with_reducible apply wp_seq | with_reducible apply wp_block | with_reducible apply wp_skip | with_reducible apply wp_exit | with_reducible apply wp_ret | ((with_reducible apply wp_cond_true); (focus (first | rfl | (simp [go_sem, *]; done)))) | ((with_reducible apply wp_cond_false); (focus (first | rfl | (simp [go_sem, *]; done)))) | (simp only [Exit.then, Exit.inBlock, ↓reduceIte, Nat.reduceEqDiff]))
    go_ret
    exact ⟨by rw [lowB_f (by unfold LowP; omega)]; rfl, by assumption⟩
  by_cases h3 : p = p'
  case neg =>
    have hb := beq_eq_false_iff_ne.2 h3
    go_enter Try.func18, Try.ntmps18
    have F0 : Below w.heap.size w w := Below.refl _ _
    with_reducible apply seq_region
    ((with_reducible apply seq_box); (focus rfl); (focus (simp [go_sem, effAt]; exact ⟨rfl, rfl⟩)); (focus ((simp only [Act.put, List.setIfInBounds_toArray, List.set_cons_zero, List.set_cons_succ]; rfl))))
    intro w7 hB_p hs
    have Fw7 := F0.trans (hs.mono F0.size)
    clear hs F0
    have hc_p := hB_p.cell
    have lt_p_q := hB_p.lt
    ((with_reducible apply seq_box); (focus rfl); (focus (simp [go_sem, effAt]; exact ⟨rfl, rfl⟩)); (focus ((simp only [Act.put, List.setIfInBounds_toArray, List.set_cons_zero, List.set_cons_succ]; rfl))))
    intro w8 hB_q hs
    have Fw8 := Fw7.trans (hs.mono Fw7.size)
    replace hB_p := hB_p.below hs hB_p.lt
    clear hs Fw7
    clear hc_p; have hc_p := hB_p.cell
    have hc_q := hB_q.cell
    repeat (first | with_reducible apply wpList_nil | with_reducible apply seq_region | with_reducible apply wp_region_lit | ((with_reducible apply seq_q); (focus rfl); (focus (simp [go_sem, effAt, ↓IntWalk.iteOmega, *]; (try go_ints); (first | (with_reducible exact effUpon_val) | (with_reducible exact effUpon_skip)))); (focus ((simp only [Act.put, List.setIfInBounds_toArray, List.set_cons_zero, List.set_cons_succ]; rfl)))) | ((with_reducible apply seq_s); (focus rfl); (focus ((simp only [Act.put, List.setIfInBounds_toArray, List.set_cons_zero, List.set_cons_succ]; rfl)))) | with_reducible apply wp_seq | with_reducible apply wp_block | with_reducible apply wp_skip | with_reducible apply wp_exit | with_reducible apply wp_ret | ((with_reducible apply wp_cond_true); (focus (first | rfl | (simp [go_sem, *]; done)))) | ((with_reducible apply wp_cond_false); (focus (first | rfl | (simp [go_sem, *]; done)))) | (simp only [Exit.then, Exit.inBlock, ↓reduceIte, Nat.reduceEqDiff]))
    go_ret
    exact ⟨by rw [lowB_f (by unfold LowP; omega)]; rfl, by assumption⟩
  by_cases h4 : t = t'
  case neg =>
    have hb := beq_eq_false_iff_ne.2 h4
    go_enter Try.func18, Try.ntmps18
    have F0 : Below w.heap.size w w := Below.refl _ _
    with_reducible apply seq_region
    ((with_reducible apply seq_box); (focus rfl); (focus (simp [go_sem, effAt]; exact ⟨rfl, rfl⟩)); (focus ((simp only [Act.put, List.setIfInBounds_toArray, List.set_cons_zero, List.set_cons_succ]; rfl))))
    intro w9 hB_p hs
    have Fw9 := F0.trans (hs.mono F0.size)
    clear hs F0
    have hc_p := hB_p.cell
    have lt_p_q := hB_p.lt
    ((with_reducible apply seq_box); (focus rfl); (focus (simp [go_sem, effAt]; exact ⟨rfl, rfl⟩)); (focus ((simp only [Act.put, List.setIfInBounds_toArray, List.set_cons_zero, List.set_cons_succ]; rfl))))
    intro w10 hB_q hs
    have Fw10 := Fw9.trans (hs.mono Fw9.size)
    replace hB_p := hB_p.below hs hB_p.lt
    clear hs Fw9
    clear hc_p; have hc_p := hB_p.cell
    have hc_q := hB_q.cell
    repeat (first | with_reducible apply wpList_nil | with_reducible apply seq_region | with_reducible apply wp_region_lit | ((with_reducible apply seq_q); (focus rfl); (focus (simp [go_sem, effAt, ↓IntWalk.iteOmega, *]; (try go_ints); (first | (with_reducible exact effUpon_val) | (with_reducible exact effUpon_skip)))); (focus ((simp only [Act.put, List.setIfInBounds_toArray, List.set_cons_zero, List.set_cons_succ]; rfl)))) | ((with_reducible apply seq_s); (focus rfl); (focus ((simp only [Act.put, List.setIfInBounds_toArray, List.set_cons_zero, List.set_cons_succ]; rfl)))) | with_reducible apply wp_seq | with_reducible apply wp_block | with_reducible apply wp_skip | with_reducible apply wp_exit | with_reducible apply wp_ret | ((with_reducible apply wp_cond_true); (focus (first | rfl | (simp [go_sem, *]; done)))) | ((with_reducible apply wp_cond_false); (focus (first | rfl | (simp [go_sem, *]; done)))) | (simp only [Exit.then, Exit.inBlock, ↓reduceIte, Nat.reduceEqDiff]))
    go_ret
    exact ⟨by rw [lowB_f (by unfold LowP; omega)]; rfl, by assumption⟩
  by_cases h5 : m = m'
  case neg =>
    have hb := beq_eq_false_iff_ne.2 h5
    go_enter Try.func18, Try.ntmps18
    have F0 : Below w.heap.size w w := Below.refl _ _
    with_reducible apply seq_region
    ((with_reducible apply seq_box); (focus rfl); (focus (simp [go_sem, effAt]; exact ⟨rfl, rfl⟩)); (focus ((simp only [Act.put, List.setIfInBounds_toArray, List.set_cons_zero, List.set_cons_succ]; rfl))))
    intro w11 hB_p hs
    have Fw11 := F0.trans (hs.mono F0.size)
    clear hs F0
    have hc_p := hB_p.cell
    have lt_p_q := hB_p.lt
    ((with_reducible apply seq_box); (focus rfl); (focus (simp [go_sem, effAt]; exact ⟨rfl, rfl⟩)); (focus ((simp only [Act.put, List.setIfInBounds_toArray, List.set_cons_zero, List.set_cons_succ]; rfl))))
    intro w12 hB_q hs
    have Fw12 := Fw11.trans (hs.mono Fw11.size)
    replace hB_p := hB_p.below hs hB_p.lt
    clear hs Fw11
    clear hc_p; have hc_p := hB_p.cell
    have hc_q := hB_q.cell
    repeat (first | with_reducible apply wpList_nil | with_reducible apply seq_region | with_reducible apply wp_region_lit | ((with_reducible apply seq_q); (focus rfl); (focus (simp [go_sem, effAt, ↓IntWalk.iteOmega, *]; (try go_ints); (first | (with_reducible exact effUpon_val) | (with_reducible exact effUpon_skip)))); (focus ((simp only [Act.put, List.setIfInBounds_toArray, List.set_cons_zero, List.set_cons_succ]; rfl)))) | ((with_reducible apply seq_s); (focus rfl); (focus ((simp only [Act.put, List.setIfInBounds_toArray, List.set_cons_zero, List.set_cons_succ]; rfl)))) | with_reducible apply wp_seq | with_reducible apply wp_block | with_reducible apply wp_skip | with_reducible apply wp_exit | with_reducible apply wp_ret | ((with_reducible apply wp_cond_true); (focus (first | rfl | (simp [go_sem, *]; done)))) | ((with_reducible apply wp_cond_false); (focus (first | rfl | (simp [go_sem, *]; done)))) | (simp only [Exit.then, Exit.inBlock, ↓reduceIte, Nat.reduceEqDiff]))
    go_ret
    exact ⟨by rw [lowB_f (by unfold LowP; omega)]; rfl, by assumption⟩
  by_cases h6 : n ≤ n'
  case neg =>
    go_enter Try.func18, Try.ntmps18
    have F0 : Below w.heap.size w w := Below.refl _ _
    with_reducible apply seq_region
    ((with_reducible apply seq_box); (focus rfl); (focus (simp [go_sem, effAt]; exact ⟨rfl, rfl⟩)); (focus ((simp only [Act.put, List.setIfInBounds_toArray, List.set_cons_zero, List.set_cons_succ]; rfl))))
    intro w13 hB_p hs
    have Fw13 := F0.trans (hs.mono F0.size)
    clear hs F0
    have hc_p := hB_p.cell
    have lt_p_q := hB_p.lt
    ((with_reducible apply seq_box); (focus rfl); (focus (simp [go_sem, effAt]; exact ⟨rfl, rfl⟩)); (focus ((simp only [Act.put, List.setIfInBounds_toArray, List.set_cons_zero, List.set_cons_succ]; rfl))))
    intro w14 hB_q hs
    have Fw14 := Fw13.trans (hs.mono Fw13.size)
    replace hB_p := hB_p.below hs hB_p.lt
    clear hs Fw13
    clear hc_p; have hc_p := hB_p.cell
    have hc_q := hB_q.cell
    repeat (first | with_reducible apply wpList_nil | with_reducible apply seq_region | with_reducible apply wp_region_lit | ((with_reducible apply seq_q); (focus rfl); (focus (simp [go_sem, effAt, ↓IntWalk.iteOmega, *]; (try go_ints); (first | (with_reducible exact effUpon_val) | (with_reducible exact effUpon_skip)))); (focus ((simp only [Act.put, List.setIfInBounds_toArray, List.set_cons_zero, List.set_cons_succ]; rfl)))) | ((with_reducible apply seq_s); (focus rfl); (focus ((simp only [Act.put, List.setIfInBounds_toArray, List.set_cons_zero, List.set_cons_succ]; rfl)))) | with_reducible apply wp_seq | with_reducible apply wp_block | with_reducible apply wp_skip | with_reducible apply wp_exit | with_reducible apply wp_ret | ((with_reducible apply wp_cond_true); (focus (first | rfl | (simp [go_sem, *]; done)))) | ((with_reducible apply wp_cond_false); (focus (first | rfl | (simp [go_sem, *]; done)))) | (simp only [Exit.then, Exit.inBlock, ↓reduceIte, Nat.reduceEqDiff]))
    go_ret
    exact ⟨by rw [lowB_f (by unfold LowP; omega)]; rfl, by assumption⟩
  by_cases h7 : k ≤ k'
  case neg =>
    go_enter Try.func18, Try.ntmps18
    have F0 : Below w.heap.size w w := Below.refl _ _
    with_reducible apply seq_region
    ((with_reducible apply seq_box); (focus rfl); (focus (simp [go_sem, effAt]; exact ⟨rfl, rfl⟩)); (focus ((simp only [Act.put, List.setIfInBounds_toArray, List.set_cons_zero, List.set_cons_succ]; rfl))))
    intro w15 hB_p hs
    have Fw15 := F0.trans (hs.mono F0.size)
    clear hs F0
    have hc_p := hB_p.cell
    have lt_p_q := hB_p.lt
    ((with_reducible apply seq_box); (focus rfl); (focus (simp [go_sem, effAt]; exact ⟨rfl, rfl⟩)); (focus ((simp only [Act.put, List.setIfInBounds_toArray, List.set_cons_zero, List.set_cons_succ]; rfl))))
    intro w16 hB_q hs
    have Fw16 := Fw15.trans (hs.mono Fw15.size)
    replace hB_p := hB_p.below hs hB_p.lt
    clear hs Fw15
    clear hc_p; have hc_p := hB_p.cell
    have hc_q := hB_q.cell
    repeat (first | with_reducible apply wpList_nil | with_reducible apply seq_region | with_reducible apply wp_region_lit | ((with_reducible apply seq_q); (focus rfl); (focus (simp [go_sem, effAt, ↓IntWalk.iteOmega, *]; (try go_ints); (first | (with_reducible exact effUpon_val) | (with_reducible exact effUpon_skip)))); (focus ((simp only [Act.put, List.setIfInBounds_toArray, List.set_cons_zero, List.set_cons_succ]; rfl)))) | ((with_reducible apply seq_s); (focus rfl); (focus ((simp only [Act.put, List.setIfInBounds_toArray, List.set_cons_zero, List.set_cons_succ]; rfl)))) | with_reducible apply wp_seq | with_reducible apply wp_block | with_reducible apply wp_skip | with_reducible apply wp_exit | with_reducible apply wp_ret | ((with_reducible apply wp_cond_true); (focus (first | rfl | (simp [go_sem, *]; done)))) | ((with_reducible apply wp_cond_false); (focus (first | rfl | (simp [go_sem, *]; done)))) | (simp only [Exit.then, Exit.inBlock, ↓reduceIte, Nat.reduceEqDiff]))
    go_ret
    exact ⟨by rw [lowB_f (by unfold LowP; omega)]; rfl, by assumption⟩
  go_enter Try.func18, Try.ntmps18
  have F0 : Below w.heap.size w w := Below.refl _ _
  with_reducible apply seq_region
  ((with_reducible apply seq_box); (focus rfl); (focus (simp [go_sem, effAt]; exact ⟨rfl, rfl⟩)); (focus ((simp only [Act.put, List.setIfInBounds_toArray, List.set_cons_zero, List.set_cons_succ]; rfl))))
  intro w17 hB_p hs
  have Fw17 := F0.trans (hs.mono F0.size)
  clear hs F0
  have hc_p := hB_p.cell
  have lt_p_q := hB_p.lt
  ((with_reducible apply seq_box); (focus rfl); (focus (simp [go_sem, effAt]; exact ⟨rfl, rfl⟩)); (focus ((simp only [Act.put, List.setIfInBounds_toArray, List.set_cons_zero, List.set_cons_succ]; rfl))))
  intro w18 hB_q hs
  have Fw18 := Fw17.trans (hs.mono Fw17.size)
  replace hB_p := hB_p.below hs hB_p.lt
  clear hs Fw17
  clear hc_p; have hc_p := hB_p.cell
  have hc_q := hB_q.cell
  repeat (first | with_reducible apply wpList_nil | with_reducible apply seq_region | with_reducible apply wp_region_lit | ((with_reducible apply seq_q); (focus rfl); (focus (simp [go_sem, effAt, ↓IntWalk.iteOmega, *]; (try go_ints); (first | (with_reducible exact effUpon_val) | (with_reducible exact effUpon_skip)))); (focus ((simp only [Act.put, List.setIfInBounds_toArray, List.set_cons_zero, List.set_cons_succ]; rfl)))) | ((with_reducible apply seq_s); (focus rfl); (focus ((simp only [Act.put, List.setIfInBounds_toArray, List.set_cons_zero, List.set_cons_succ]; rfl)))) | with_reducible apply wp_seq | with_reducible apply wp_block | with_reducible apply wp_skip | with_reducible apply wp_exit | with_reducible apply wp_ret | ((with_reducible apply wp_cond_true); (focus (first | rfl | (simp [go_sem, *]; done)))) | ((with_reducible apply wp_cond_false); (focus (first | rfl | (simp [go_sem, *]; done)))) | (simp only [Exit.then, Exit.inBlock, ↓reduceIte, Nat.reduceEqDiff]))
  go_ret
  exact ⟨by rw [lowB_t (by unfold LowP; omega)]; rfl, by assumption⟩
