/- The block of one whose turn it is; the walks of is, Class, Ready, May. -/
import Derived.Test.YtminenipklgbcaaRows
import Derived.Test.YtminenipklgbcaaP1
import Derived.Test.YtminenipklgbcaaBase
import Derived.Test.YtminenipklgbcaaTn
import Derived.Test.YtminenipklgbcaaKf
import Derived.Deep.LoopGhost
import Derived.Deep.MidRow
import Derived.Lib.Hide
set_option linter.unusedSimpArgs false
set_option linter.unusedVariables false
namespace Go.Proofs.Ytminenipklgbcaa
open Go.RowKit Go.Eff
attribute [local irreducible] Go.wpList
/-- the block's cells: 64 classes, 64 marks, 64 last turns and 1 -/
def cellsP (s : PS) : Array Value := (s.cl.map (Value.int .u8) ++ s.rd.map Value.bool ++ s.la.map fun x => Value.int .i64 (x + 1)).toArray
theorem cellsP_c {s : PS} (hs : s.Ok) {d : Nat} (hd : d < 64) : (cellsP s)[d]? = some (.int .u8 (s.c d)) := by
  have h1 := hs.cl64
  have h2 := hs.rd64
  unfold cellsP PS.c
  rw [List.getElem?_toArray, List.append_assoc, List.getElem?_append_left (by simp; omega), List.getElem?_map]
  simp [List.getD_eq_getElem?_getD, List.getElem?_eq_getElem (show d < s.cl.length by omega)]
theorem cellsP_r {s : PS} (hs : s.Ok) {d : Nat} (hd : d < 64) : (cellsP s)[64 + d]? = some (.bool (s.r d)) := by
  have h1 := hs.cl64
  have h2 := hs.rd64
  unfold cellsP PS.r
  rw [List.getElem?_toArray, List.append_assoc, List.getElem?_append_right (by simp; omega), List.getElem?_append_left (by simp; omega), List.getElem?_map]
  simp [List.getD_eq_getElem?_getD, h1, List.getElem?_eq_getElem (show d < s.rd.length by omega)]
theorem cellsP_l {s : PS} (hs : s.Ok) {d : Nat} (hd : d < 64) : (cellsP s)[128 + d]? = some (.int .i64 (s.l d + 1)) := by
  have h1 := hs.cl64
  have h2 := hs.rd64
  have h3 := hs.la64
  unfold cellsP PS.l
  rw [List.getElem?_toArray, List.getElem?_append_right (by simp; omega), List.getElem?_map]
  simp [List.getD_eq_getElem?_getD, h1, h2, show 128 + d - (64 + 64) = d by omega, List.getElem?_eq_getElem (show d < s.la.length by omega)]
theorem r_out {s : PS} (hs : s.Ok) {d : Nat} (hd : ¬ d < 64) : s.r d = false := by
  have := hs.rd64
  unfold PS.r
  simp [List.getD_eq_getElem?_getD, List.getElem?_eq_none (show s.rd.length ≤ d by omega)]
theorem c_out {s : PS} (hs : s.Ok) {d : Nat} (hd : ¬ d < 64) : s.c d = 0 := by
  have := hs.cl64
  unfold PS.c
  simp [List.getD_eq_getElem?_getD, List.getElem?_eq_none (show s.cl.length ≤ d by omega)]
abbrev PB (w : World) (g : Nat) (s : PS) : Prop := Blk w g 47 (cellsP s)
section
variable {s : PS} {g d : Nat} {w : World}
theorem is_any (g d : Nat) (w : World) : Calls Try.prog 25 #[.pointer (some ⟨g, 0, none⟩), .int .u8 d] w (Ret (.bool (decide (d < 64))) (Below w.heap.size w)) := by
  by_cases hd : d < 64
  case pos =>
    have hd' : (d : Int) < 64 := by omega
    have e : decide (d < 64) = true := by simpa using hd
    rw [e]
    go_enter Try.func25, Try.ntmps25
    have F0 : Below w.heap.size w w := Below.refl _ _
    repeat (first | with_reducible apply wpList_nil | ((with_reducible apply region_k); intro KK kk) | with_reducible apply wp_region_lit | ((with_reducible apply seq_k); intro KK kk) | ((with_reducible apply seq_q); (focus (first | exact wanted_none rfl | exact wanted_yes rfl rfl rfl)); (focus (simp [go_sem, effAt, ↓IntWalk.iteOmega, *]; (try go_ints); (first | (with_reducible exact effUpon_val) | (with_reducible exact effUpon_skip)))); (focus ((first | (apply put_some rfl; focus (conv => lhs; dsimp only [List.set_cons_zero, List.set_cons_succ]) <;> rfl) | exact put_none rfl)))) | ((with_reducible apply seq_s); (focus (first | exact wanted_no rfl rfl rfl | exact wanted_undef rfl rfl rfl)); (focus ((first | (apply put_some rfl; focus (conv => lhs; dsimp only [List.set_cons_zero, List.set_cons_succ]) <;> rfl) | exact put_none rfl)))) | with_reducible apply wp_block | with_reducible apply wp_skip | with_reducible apply wp_exit | with_reducible apply wp_ret | ((with_reducible apply wp_cond_true); (focus (first | rfl | (simp [go_sem, *]; done)))) | ((with_reducible apply wp_cond_false); (focus (first | rfl | (simp [go_sem, *]; done)))) | (simp only [Exit.then, Exit.inBlock, ↓reduceIte, Nat.reduceEqDiff]) | ((with_reducible apply kf_out); (focus assumption)))
    go_ret
    exact ⟨rfl, by assumption⟩
  case neg =>
    have hd' : ¬ (d : Int) < 64 := by omega
    have e : decide (d < 64) = false := by simpa using hd
    rw [e]
    go_enter Try.func25, Try.ntmps25
    have F0 : Below w.heap.size w w := Below.refl _ _
    repeat (first | with_reducible apply wpList_nil | ((with_reducible apply region_k); intro KK kk) | with_reducible apply wp_region_lit | ((with_reducible apply seq_k); intro KK kk) | ((with_reducible apply seq_q); (focus (first | exact wanted_none rfl | exact wanted_yes rfl rfl rfl)); (focus (simp [go_sem, effAt, ↓IntWalk.iteOmega, *]; (try go_ints); (first | (with_reducible exact effUpon_val) | (with_reducible exact effUpon_skip)))); (focus ((first | (apply put_some rfl; focus (conv => lhs; dsimp only [List.set_cons_zero, List.set_cons_succ]) <;> rfl) | exact put_none rfl)))) | ((with_reducible apply seq_s); (focus (first | exact wanted_no rfl rfl rfl | exact wanted_undef rfl rfl rfl)); (focus ((first | (apply put_some rfl; focus (conv => lhs; dsimp only [List.set_cons_zero, List.set_cons_succ]) <;> rfl) | exact put_none rfl)))) | with_reducible apply wp_block | with_reducible apply wp_skip | with_reducible apply wp_exit | with_reducible apply wp_ret | ((with_reducible apply wp_cond_true); (focus (first | rfl | (simp [go_sem, *]; done)))) | ((with_reducible apply wp_cond_false); (focus (first | rfl | (simp [go_sem, *]; done)))) | (simp only [Exit.then, Exit.inBlock, ↓reduceIte, Nat.reduceEqDiff]) | ((with_reducible apply kf_out); (focus assumption)))
    go_ret
    exact ⟨rfl, by assumption⟩
theorem is_nil (d : Nat) (w : World) : Calls Try.prog 25 #[.pointer none, .int .u8 d] w (Ret (.bool false) (Below w.heap.size w)) := by
  go_enter Try.func25, Try.ntmps25
  have F0 : Below w.heap.size w w := Below.refl _ _
  repeat (first | with_reducible apply wpList_nil | ((with_reducible apply region_k); intro KK kk) | with_reducible apply wp_region_lit | ((with_reducible apply seq_k); intro KK kk) | ((with_reducible apply seq_q); (focus (first | exact wanted_none rfl | exact wanted_yes rfl rfl rfl)); (focus (simp [go_sem, effAt, ↓IntWalk.iteOmega, *]; (try go_ints); (first | (with_reducible exact effUpon_val) | (with_reducible exact effUpon_skip)))); (focus ((first | (apply put_some rfl; focus (conv => lhs; dsimp only [List.set_cons_zero, List.set_cons_succ]) <;> rfl) | exact put_none rfl)))) | ((with_reducible apply seq_s); (focus (first | exact wanted_no rfl rfl rfl | exact wanted_undef rfl rfl rfl)); (focus ((first | (apply put_some rfl; focus (conv => lhs; dsimp only [List.set_cons_zero, List.set_cons_succ]) <;> rfl) | exact put_none rfl)))) | with_reducible apply wp_block | with_reducible apply wp_skip | with_reducible apply wp_exit | with_reducible apply wp_ret | ((with_reducible apply wp_cond_true); (focus (first | rfl | (simp [go_sem, *]; done)))) | ((with_reducible apply wp_cond_false); (focus (first | rfl | (simp [go_sem, *]; done)))) | (simp only [Exit.then, Exit.inBlock, ↓reduceIte, Nat.reduceEqDiff]) | ((with_reducible apply kf_out); (focus assumption)))
  go_ret
  exact ⟨rfl, by assumption⟩
theorem class_any (hs : s.Ok) (g d : Nat) (w : World) (hB_p : PB w g s) : Calls Try.prog 16 #[.pointer (some ⟨g, 0, none⟩), .int .u8 d] w (Ret (.int .u8 (s.c d)) (Below w.heap.size w)) := by
  have hI := is_any g d
  by_cases hd : d < 64
  case pos =>
    have e1 := cellsP_c hs hd
    have hd' : (d : Int) < 64 := by omega
    rw [show decide (d < 64) = true by simpa using hd] at hI
    clear hs
    go_enter Try.func16, Try.ntmps16
    have F0 : Below w.heap.size w w := Below.refl _ _
    have hc_p := hB_p.cell
    repeat (first | with_reducible apply wpList_nil | ((with_reducible apply region_k); intro KK kk) | with_reducible apply wp_region_lit | ((with_reducible apply seq_k); intro KK kk) | ((with_reducible apply seq_q); (focus (first | exact wanted_none rfl | exact wanted_yes rfl rfl rfl)); (focus (simp [go_sem, effAt, ↓IntWalk.iteOmega, *]; (try go_ints); (first | (with_reducible exact effUpon_val) | (with_reducible exact effUpon_skip)))); (focus ((first | (apply put_some rfl; focus (conv => lhs; dsimp only [List.set_cons_zero, List.set_cons_succ]) <;> rfl) | exact put_none rfl)))) | ((with_reducible apply seq_s); (focus (first | exact wanted_no rfl rfl rfl | exact wanted_undef rfl rfl rfl)); (focus ((first | (apply put_some rfl; focus (conv => lhs; dsimp only [List.set_cons_zero, List.set_cons_succ]) <;> rfl) | exact put_none rfl)))) | with_reducible apply wp_block | with_reducible apply wp_skip | with_reducible apply wp_exit | with_reducible apply wp_ret | ((with_reducible apply wp_cond_true); (focus (first | rfl | (simp [go_sem, *]; done)))) | ((with_reducible apply wp_cond_false); (focus (first | rfl | (simp [go_sem, *]; done)))) | (simp only [Exit.then, Exit.inBlock, ↓reduceIte, Nat.reduceEqDiff]) | ((with_reducible apply kf_out); (focus assumption)))
    ((with_reducible apply seq_e (Below w.heap.size w)); (focus rfl); (focus (simp only [effAt]; simp [go_sem]; (with_reducible exact effUpon_enter (hI _)))); (focus ((first | (apply put_some rfl; focus (conv => lhs; dsimp only [List.set_cons_zero, List.set_cons_succ]) <;> rfl) | exact put_none rfl))))
    intro w1 hs
    have Fw1 := F0.trans (hs.mono F0.size)
    replace hB_p := hB_p.below hs hB_p.lt
    clear hs F0
    clear hc_p; have hc_p := hB_p.cell
    repeat (first | with_reducible apply wpList_nil | ((with_reducible apply region_k); intro KK kk) | with_reducible apply wp_region_lit | ((with_reducible apply seq_k); intro KK kk) | ((with_reducible apply seq_q); (focus (first | exact wanted_none rfl | exact wanted_yes rfl rfl rfl)); (focus (simp [go_sem, effAt, ↓IntWalk.iteOmega, *]; (try go_ints); (first | (with_reducible exact effUpon_val) | (with_reducible exact effUpon_skip)))); (focus ((first | (apply put_some rfl; focus (conv => lhs; dsimp only [List.set_cons_zero, List.set_cons_succ]) <;> rfl) | exact put_none rfl)))) | ((with_reducible apply seq_s); (focus (first | exact wanted_no rfl rfl rfl | exact wanted_undef rfl rfl rfl)); (focus ((first | (apply put_some rfl; focus (conv => lhs; dsimp only [List.set_cons_zero, List.set_cons_succ]) <;> rfl) | exact put_none rfl)))) | with_reducible apply wp_block | with_reducible apply wp_skip | with_reducible apply wp_exit | with_reducible apply wp_ret | ((with_reducible apply wp_cond_true); (focus (first | rfl | (simp [go_sem, *]; done)))) | ((with_reducible apply wp_cond_false); (focus (first | rfl | (simp [go_sem, *]; done)))) | (simp only [Exit.then, Exit.inBlock, ↓reduceIte, Nat.reduceEqDiff]) | ((with_reducible apply kf_out); (focus assumption)))
    go_ret
    exact ⟨rfl, by assumption⟩
  case neg =>
    rw [c_out hs hd]
    rw [show decide (d < 64) = false by simpa using hd] at hI
    clear hs
    go_enter Try.func16, Try.ntmps16
    have F0 : Below w.heap.size w w := Below.refl _ _
    repeat (first | with_reducible apply wpList_nil | ((with_reducible apply region_k); intro KK kk) | with_reducible apply wp_region_lit | ((with_reducible apply seq_k); intro KK kk) | ((with_reducible apply seq_q); (focus (first | exact wanted_none rfl | exact wanted_yes rfl rfl rfl)); (focus (simp [go_sem, effAt, ↓IntWalk.iteOmega, *]; (try go_ints); (first | (with_reducible exact effUpon_val) | (with_reducible exact effUpon_skip)))); (focus ((first | (apply put_some rfl; focus (conv => lhs; dsimp only [List.set_cons_zero, List.set_cons_succ]) <;> rfl) | exact put_none rfl)))) | ((with_reducible apply seq_s); (focus (first | exact wanted_no rfl rfl rfl | exact wanted_undef rfl rfl rfl)); (focus ((first | (apply put_some rfl; focus (conv => lhs; dsimp only [List.set_cons_zero, List.set_cons_succ]) <;> rfl) | exact put_none rfl)))) | with_reducible apply wp_block | with_reducible apply wp_skip | with_reducible apply wp_exit | with_reducible apply wp_ret | ((with_reducible apply wp_cond_true); (focus (first | rfl | (simp [go_sem, *]; done)))) | ((with_reducible apply wp_cond_false); (focus (first | rfl | (simp [go_sem, *]; done)))) | (simp only [Exit.then, Exit.inBlock, ↓reduceIte, Nat.reduceEqDiff]) | ((with_reducible apply kf_out); (focus assumption)))
    ((with_reducible apply seq_e (Below w.heap.size w)); (focus rfl); (focus (simp only [effAt]; simp [go_sem]; (with_reducible exact effUpon_enter (hI _)))); (focus ((first | (apply put_some rfl; focus (conv => lhs; dsimp only [List.set_cons_zero, List.set_cons_succ]) <;> rfl) | exact put_none rfl))))
    intro w2 hs
    have Fw2 := F0.trans (hs.mono F0.size)
    clear hs F0
    repeat (first | with_reducible apply wpList_nil | ((with_reducible apply region_k); intro KK kk) | with_reducible apply wp_region_lit | ((with_reducible apply seq_k); intro KK kk) | ((with_reducible apply seq_q); (focus (first | exact wanted_none rfl | exact wanted_yes rfl rfl rfl)); (focus (simp [go_sem, effAt, ↓IntWalk.iteOmega, *]; (try go_ints); (first | (with_reducible exact effUpon_val) | (with_reducible exact effUpon_skip)))); (focus ((first | (apply put_some rfl; focus (conv => lhs; dsimp only [List.set_cons_zero, List.set_cons_succ]) <;> rfl) | exact put_none rfl)))) | ((with_reducible apply seq_s); (focus (first | exact wanted_no rfl rfl rfl | exact wanted_undef rfl rfl rfl)); (focus ((first | (apply put_some rfl; focus (conv => lhs; dsimp only [List.set_cons_zero, List.set_cons_succ]) <;> rfl) | exact put_none rfl)))) | with_reducible apply wp_block | with_reducible apply wp_skip | with_reducible apply wp_exit | with_reducible apply wp_ret | ((with_reducible apply wp_cond_true); (focus (first | rfl | (simp [go_sem, *]; done)))) | ((with_reducible apply wp_cond_false); (focus (first | rfl | (simp [go_sem, *]; done)))) | (simp only [Exit.then, Exit.inBlock, ↓reduceIte, Nat.reduceEqDiff]) | ((with_reducible apply kf_out); (focus assumption)))
    go_ret
    exact ⟨rfl, by assumption⟩
theorem class_nil (d : Nat) (w : World) : Calls Try.prog 16 #[.pointer none, .int .u8 d] w (Ret (.int .u8 0) (Below w.heap.size w)) := by
  have hI := is_nil d
  go_enter Try.func16, Try.ntmps16
  have F0 : Below w.heap.size w w := Below.refl _ _
  repeat (first | with_reducible apply wpList_nil | ((with_reducible apply region_k); intro KK kk) | with_reducible apply wp_region_lit | ((with_reducible apply seq_k); intro KK kk) | ((with_reducible apply seq_q); (focus (first | exact wanted_none rfl | exact wanted_yes rfl rfl rfl)); (focus (simp [go_sem, effAt, ↓IntWalk.iteOmega, *]; (try go_ints); (first | (with_reducible exact effUpon_val) | (with_reducible exact effUpon_skip)))); (focus ((first | (apply put_some rfl; focus (conv => lhs; dsimp only [List.set_cons_zero, List.set_cons_succ]) <;> rfl) | exact put_none rfl)))) | ((with_reducible apply seq_s); (focus (first | exact wanted_no rfl rfl rfl | exact wanted_undef rfl rfl rfl)); (focus ((first | (apply put_some rfl; focus (conv => lhs; dsimp only [List.set_cons_zero, List.set_cons_succ]) <;> rfl) | exact put_none rfl)))) | with_reducible apply wp_block | with_reducible apply wp_skip | with_reducible apply wp_exit | with_reducible apply wp_ret | ((with_reducible apply wp_cond_true); (focus (first | rfl | (simp [go_sem, *]; done)))) | ((with_reducible apply wp_cond_false); (focus (first | rfl | (simp [go_sem, *]; done)))) | (simp only [Exit.then, Exit.inBlock, ↓reduceIte, Nat.reduceEqDiff]) | ((with_reducible apply kf_out); (focus assumption)))
  ((with_reducible apply seq_e (Below w.heap.size w)); (focus rfl); (focus (simp only [effAt]; simp [go_sem]; (with_reducible exact effUpon_enter (hI _)))); (focus ((first | (apply put_some rfl; focus (conv => lhs; dsimp only [List.set_cons_zero, List.set_cons_succ]) <;> rfl) | exact put_none rfl))))
  intro w1 hs
  have Fw1 := F0.trans (hs.mono F0.size)
  clear hs F0
  repeat (first | with_reducible apply wpList_nil | ((with_reducible apply region_k); intro KK kk) | with_reducible apply wp_region_lit | ((with_reducible apply seq_k); intro KK kk) | ((with_reducible apply seq_q); (focus (first | exact wanted_none rfl | exact wanted_yes rfl rfl rfl)); (focus (simp [go_sem, effAt, ↓IntWalk.iteOmega, *]; (try go_ints); (first | (with_reducible exact effUpon_val) | (with_reducible exact effUpon_skip)))); (focus ((first | (apply put_some rfl; focus (conv => lhs; dsimp only [List.set_cons_zero, List.set_cons_succ]) <;> rfl) | exact put_none rfl)))) | ((with_reducible apply seq_s); (focus (first | exact wanted_no rfl rfl rfl | exact wanted_undef rfl rfl rfl)); (focus ((first | (apply put_some rfl; focus (conv => lhs; dsimp only [List.set_cons_zero, List.set_cons_succ]) <;> rfl) | exact put_none rfl)))) | with_reducible apply wp_block | with_reducible apply wp_skip | with_reducible apply wp_exit | with_reducible apply wp_ret | ((with_reducible apply wp_cond_true); (focus (first | rfl | (simp [go_sem, *]; done)))) | ((with_reducible apply wp_cond_false); (focus (first | rfl | (simp [go_sem, *]; done)))) | (simp only [Exit.then, Exit.inBlock, ↓reduceIte, Nat.reduceEqDiff]) | ((with_reducible apply kf_out); (focus assumption)))
  go_ret
  exact ⟨rfl, by assumption⟩
theorem ready_any (hs : s.Ok) (g d : Nat) (w : World) (hB_p : PB w g s) : Calls Try.prog 15 #[.pointer (some ⟨g, 0, none⟩), .int .u8 d] w (Ret (.bool (s.r d)) (Below w.heap.size w)) := by
  have hI := is_any g d
  by_cases hd : d < 64
  case pos =>
    have e1 := cellsP_r hs hd
    have hd' : (d : Int) < 64 := by omega
    rw [show decide (d < 64) = true by simpa using hd] at hI
    clear hs
    go_enter Try.func15, Try.ntmps15
    have F0 : Below w.heap.size w w := Below.refl _ _
    have hc_p := hB_p.cell
    repeat (first | with_reducible apply wpList_nil | ((with_reducible apply region_k); intro KK kk) | with_reducible apply wp_region_lit | ((with_reducible apply seq_k); intro KK kk) | ((with_reducible apply seq_q); (focus (first | exact wanted_none rfl | exact wanted_yes rfl rfl rfl)); (focus (simp [go_sem, effAt, ↓IntWalk.iteOmega, *]; (try go_ints); (first | (with_reducible exact effUpon_val) | (with_reducible exact effUpon_skip)))); (focus ((first | (apply put_some rfl; focus (conv => lhs; dsimp only [List.set_cons_zero, List.set_cons_succ]) <;> rfl) | exact put_none rfl)))) | ((with_reducible apply seq_s); (focus (first | exact wanted_no rfl rfl rfl | exact wanted_undef rfl rfl rfl)); (focus ((first | (apply put_some rfl; focus (conv => lhs; dsimp only [List.set_cons_zero, List.set_cons_succ]) <;> rfl) | exact put_none rfl)))) | with_reducible apply wp_block | with_reducible apply wp_skip | with_reducible apply wp_exit | with_reducible apply wp_ret | ((with_reducible apply wp_cond_true); (focus (first | rfl | (simp [go_sem, *]; done)))) | ((with_reducible apply wp_cond_false); (focus (first | rfl | (simp [go_sem, *]; done)))) | (simp only [Exit.then, Exit.inBlock, ↓reduceIte, Nat.reduceEqDiff]) | ((with_reducible apply kf_out); (focus assumption)))
    ((with_reducible apply seq_e (Below w.heap.size w)); (focus rfl); (focus (simp only [effAt]; simp [go_sem]; (with_reducible exact effUpon_enter (hI _)))); (focus ((first | (apply put_some rfl; focus (conv => lhs; dsimp only [List.set_cons_zero, List.set_cons_succ]) <;> rfl) | exact put_none rfl))))
    intro w1 hs
    have Fw1 := F0.trans (hs.mono F0.size)
    replace hB_p := hB_p.below hs hB_p.lt
    clear hs F0
    clear hc_p; have hc_p := hB_p.cell
    repeat (first | with_reducible apply wpList_nil | ((with_reducible apply region_k); intro KK kk) | with_reducible apply wp_region_lit | ((with_reducible apply seq_k); intro KK kk) | ((with_reducible apply seq_q); (focus (first | exact wanted_none rfl | exact wanted_yes rfl rfl rfl)); (focus (simp [go_sem, effAt, ↓IntWalk.iteOmega, *]; (try go_ints); (first | (with_reducible exact effUpon_val) | (with_reducible exact effUpon_skip)))); (focus ((first | (apply put_some rfl; focus (conv => lhs; dsimp only [List.set_cons_zero, List.set_cons_succ]) <;> rfl) | exact put_none rfl)))) | ((with_reducible apply seq_s); (focus (first | exact wanted_no rfl rfl rfl | exact wanted_undef rfl rfl rfl)); (focus ((first | (apply put_some rfl; focus (conv => lhs; dsimp only [List.set_cons_zero, List.set_cons_succ]) <;> rfl) | exact put_none rfl)))) | with_reducible apply wp_block | with_reducible apply wp_skip | with_reducible apply wp_exit | with_reducible apply wp_ret | ((with_reducible apply wp_cond_true); (focus (first | rfl | (simp [go_sem, *]; done)))) | ((with_reducible apply wp_cond_false); (focus (first | rfl | (simp [go_sem, *]; done)))) | (simp only [Exit.then, Exit.inBlock, ↓reduceIte, Nat.reduceEqDiff]) | ((with_reducible apply kf_out); (focus assumption)))
    go_ret
    exact ⟨rfl, by assumption⟩
  case neg =>
    rw [r_out hs hd]
    rw [show decide (d < 64) = false by simpa using hd] at hI
    clear hs
    go_enter Try.func15, Try.ntmps15
    have F0 : Below w.heap.size w w := Below.refl _ _
    repeat (first | with_reducible apply wpList_nil | ((with_reducible apply region_k); intro KK kk) | with_reducible apply wp_region_lit | ((with_reducible apply seq_k); intro KK kk) | ((with_reducible apply seq_q); (focus (first | exact wanted_none rfl | exact wanted_yes rfl rfl rfl)); (focus (simp [go_sem, effAt, ↓IntWalk.iteOmega, *]; (try go_ints); (first | (with_reducible exact effUpon_val) | (with_reducible exact effUpon_skip)))); (focus ((first | (apply put_some rfl; focus (conv => lhs; dsimp only [List.set_cons_zero, List.set_cons_succ]) <;> rfl) | exact put_none rfl)))) | ((with_reducible apply seq_s); (focus (first | exact wanted_no rfl rfl rfl | exact wanted_undef rfl rfl rfl)); (focus ((first | (apply put_some rfl; focus (conv => lhs; dsimp only [List.set_cons_zero, List.set_cons_succ]) <;> rfl) | exact put_none rfl)))) | with_reducible apply wp_block | with_reducible apply wp_skip | with_reducible apply wp_exit | with_reducible apply wp_ret | ((with_reducible apply wp_cond_true); (focus (first | rfl | (simp [go_sem, *]; done)))) | ((with_reducible apply wp_cond_false); (focus (first | rfl | (simp [go_sem, *]; done)))) | (simp only [Exit.then, Exit.inBlock, ↓reduceIte, Nat.reduceEqDiff]) | ((with_reducible apply kf_out); (focus assumption)))
    ((with_reducible apply seq_e (Below w.heap.size w)); (focus rfl); (focus (simp only [effAt]; simp [go_sem]; (with_reducible exact effUpon_enter (hI _)))); (focus ((first | (apply put_some rfl; focus (conv => lhs; dsimp only [List.set_cons_zero, List.set_cons_succ]) <;> rfl) | exact put_none rfl))))
    intro w2 hs
    have Fw2 := F0.trans (hs.mono F0.size)
    clear hs F0
    repeat (first | with_reducible apply wpList_nil | ((with_reducible apply region_k); intro KK kk) | with_reducible apply wp_region_lit | ((with_reducible apply seq_k); intro KK kk) | ((with_reducible apply seq_q); (focus (first | exact wanted_none rfl | exact wanted_yes rfl rfl rfl)); (focus (simp [go_sem, effAt, ↓IntWalk.iteOmega, *]; (try go_ints); (first | (with_reducible exact effUpon_val) | (with_reducible exact effUpon_skip)))); (focus ((first | (apply put_some rfl; focus (conv => lhs; dsimp only [List.set_cons_zero, List.set_cons_succ]) <;> rfl) | exact put_none rfl)))) | ((with_reducible apply seq_s); (focus (first | exact wanted_no rfl rfl rfl | exact wanted_undef rfl rfl rfl)); (focus ((first | (apply put_some rfl; focus (conv => lhs; dsimp only [List.set_cons_zero, List.set_cons_succ]) <;> rfl) | exact put_none rfl)))) | with_reducible apply wp_block | with_reducible apply wp_skip | with_reducible apply wp_exit | with_reducible apply wp_ret | ((with_reducible apply wp_cond_true); (focus (first | rfl | (simp [go_sem, *]; done)))) | ((with_reducible apply wp_cond_false); (focus (first | rfl | (simp [go_sem, *]; done)))) | (simp only [Exit.then, Exit.inBlock, ↓reduceIte, Nat.reduceEqDiff]) | ((with_reducible apply kf_out); (focus assumption)))
    go_ret
    exact ⟨rfl, by assumption⟩
theorem ready_nil (d : Nat) (w : World) : Calls Try.prog 15 #[.pointer none, .int .u8 d] w (Ret (.bool false) (Below w.heap.size w)) := by
  have hI := is_nil d
  go_enter Try.func15, Try.ntmps15
  have F0 : Below w.heap.size w w := Below.refl _ _
  repeat (first | with_reducible apply wpList_nil | ((with_reducible apply region_k); intro KK kk) | with_reducible apply wp_region_lit | ((with_reducible apply seq_k); intro KK kk) | ((with_reducible apply seq_q); (focus (first | exact wanted_none rfl | exact wanted_yes rfl rfl rfl)); (focus (simp [go_sem, effAt, ↓IntWalk.iteOmega, *]; (try go_ints); (first | (with_reducible exact effUpon_val) | (with_reducible exact effUpon_skip)))); (focus ((first | (apply put_some rfl; focus (conv => lhs; dsimp only [List.set_cons_zero, List.set_cons_succ]) <;> rfl) | exact put_none rfl)))) | ((with_reducible apply seq_s); (focus (first | exact wanted_no rfl rfl rfl | exact wanted_undef rfl rfl rfl)); (focus ((first | (apply put_some rfl; focus (conv => lhs; dsimp only [List.set_cons_zero, List.set_cons_succ]) <;> rfl) | exact put_none rfl)))) | with_reducible apply wp_block | with_reducible apply wp_skip | with_reducible apply wp_exit | with_reducible apply wp_ret | ((with_reducible apply wp_cond_true); (focus (first | rfl | (simp [go_sem, *]; done)))) | ((with_reducible apply wp_cond_false); (focus (first | rfl | (simp [go_sem, *]; done)))) | (simp only [Exit.then, Exit.inBlock, ↓reduceIte, Nat.reduceEqDiff]) | ((with_reducible apply kf_out); (focus assumption)))
  ((with_reducible apply seq_e (Below w.heap.size w)); (focus rfl); (focus (simp only [effAt]; simp [go_sem]; (with_reducible exact effUpon_enter (hI _)))); (focus ((first | (apply put_some rfl; focus (conv => lhs; dsimp only [List.set_cons_zero, List.set_cons_succ]) <;> rfl) | exact put_none rfl))))
  intro w1 hs
  have Fw1 := F0.trans (hs.mono F0.size)
  clear hs F0
  repeat (first | with_reducible apply wpList_nil | ((with_reducible apply region_k); intro KK kk) | with_reducible apply wp_region_lit | ((with_reducible apply seq_k); intro KK kk) | ((with_reducible apply seq_q); (focus (first | exact wanted_none rfl | exact wanted_yes rfl rfl rfl)); (focus (simp [go_sem, effAt, ↓IntWalk.iteOmega, *]; (try go_ints); (first | (with_reducible exact effUpon_val) | (with_reducible exact effUpon_skip)))); (focus ((first | (apply put_some rfl; focus (conv => lhs; dsimp only [List.set_cons_zero, List.set_cons_succ]) <;> rfl) | exact put_none rfl)))) | ((with_reducible apply seq_s); (focus (first | exact wanted_no rfl rfl rfl | exact wanted_undef rfl rfl rfl)); (focus ((first | (apply put_some rfl; focus (conv => lhs; dsimp only [List.set_cons_zero, List.set_cons_succ]) <;> rfl) | exact put_none rfl)))) | with_reducible apply wp_block | with_reducible apply wp_skip | with_reducible apply wp_exit | with_reducible apply wp_ret | ((with_reducible apply wp_cond_true); (focus (first | rfl | (simp [go_sem, *]; done)))) | ((with_reducible apply wp_cond_false); (focus (first | rfl | (simp [go_sem, *]; done)))) | (simp only [Exit.then, Exit.inBlock, ↓reduceIte, Nat.reduceEqDiff]) | ((with_reducible apply kf_out); (focus assumption)))
  go_ret
  exact ⟨rfl, by assumption⟩
end
end Go.Proofs.Ytminenipklgbcaa
