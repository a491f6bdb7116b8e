/- A row of octets that is sorted in place; the walks of cmp.Less, cmp.isNaN at uint8. -/
import Derived.Test.YtckjgdlceckhpaaRows
import Derived.Test.YtckjgdlceckhpaaBase
import Derived.Test.YtckjgdlceckhpaaTn
import Derived.Test.YtckjgdlceckhpaaKf
import Derived.Deep.LoopGhost
import Derived.Deep.MidRow
import Derived.Lib.Hide
import Derived.Sort.AssemblyPlain
set_option linter.unusedSimpArgs false
set_option linter.unusedVariables false
namespace Go.Proofs.Ytckjgdlceckhpaa
open Go.RowKit Go.Eff
open Go.Sort (swp ltInt)
attribute [local irreducible] Go.wpList
/-- the cells of a row, what stands in its spare behind them -/
def cellsS (pad : List Value) (d : Array Int) : Array Value := (d.toList.map (Value.int .u8) ++ pad).toArray
abbrev SB (w : World) (g : Nat) (pad : List Value) (d : Array Int) : Prop := Blk w g 5 (cellsS pad d)
theorem cellsS_get {d : Array Int} {i : Nat} {x : Int} (pad : List Value) (hi : i < d.size) (hx : d[i]! = x) : (cellsS pad d)[i]? = some (.int .u8 x) := by
  unfold cellsS
  rw [List.getElem?_toArray, List.getElem?_append_left (by simpa using hi), List.getElem?_map, Array.getElem?_toList, ← hx]
  simp [hi, getElem!_pos]
theorem cellsS_set {d : Array Int} {i : Nat} (pad : List Value) (hi : i < d.size) (x : Int) : (cellsS pad d).setIfInBounds i (.int .u8 x) = cellsS pad (d.setIfInBounds i x) := by
  unfold cellsS
  rw [List.setIfInBounds_toArray, List.set_append_left _ _ (by simpa using hi), Array.toList_setIfInBounds, List.map_set]
theorem cellsS_swp {d : Array Int} {i j : Nat} {x y : Int} (pad : List Value) (hi : i < d.size) (hj : j < d.size) (hx : d[i]! = x) (hy : d[j]! = y) :
    ((cellsS pad d).setIfInBounds i (.int .u8 y)).setIfInBounds j (.int .u8 x) = cellsS pad (swp d i j) := by
  rw [cellsS_set pad hi, cellsS_set pad (by simpa using hj), ← hx, ← hy]
  rfl
theorem cellsS_get2 {d : Array Int} {i j : Nat} (pad : List Value) (y : Int) (hi : i < d.size) (hj : j < d.size) : ∃ z, ((cellsS pad d).setIfInBounds i (.int .u8 y))[j]? = some (.int .u8 z) :=
  ⟨_, by rw [cellsS_set pad hi]; exact cellsS_get pad (by simpa using hj) rfl⟩
theorem swp_size (d : Array Int) (i j : Nat) : (swp d i j).size = d.size := by simp [swp]
theorem nan_any (x : Int) (w : World) : Calls Try.prog 43 #[.int .u8 x] w (Ret (.bool false) (Below w.heap.size w)) := by
  go_enter Try.func43, Try.ntmps43
  have F0 : Below w.heap.size w w := Below.refl _ _
  repeat (first | with_reducible apply wpList_nil | ((with_reducible apply region_k); intro KK kk) | with_reducible apply wp_region_lit | ((with_reducible apply seq_k); intro KK kk) | ((with_reducible apply seq_q); (focus (first | exact wanted_none rfl | exact wanted_yes rfl rfl rfl)); (focus (simp [go_sem, effAt, ↓IntWalk.iteOmega, *]; (try go_ints); (first | (with_reducible exact effUpon_val) | (with_reducible exact effUpon_skip)))); (focus ((first | (apply put_some rfl; focus (conv => lhs; dsimp only [List.set_cons_zero, List.set_cons_succ]) <;> rfl) | exact put_none rfl)))) | ((with_reducible apply seq_s); (focus (first | exact wanted_no rfl rfl rfl | exact wanted_undef rfl rfl rfl)); (focus ((first | (apply put_some rfl; focus (conv => lhs; dsimp only [List.set_cons_zero, List.set_cons_succ]) <;> rfl) | exact put_none rfl)))) | with_reducible apply wp_block | with_reducible apply wp_skip | with_reducible apply wp_exit | with_reducible apply wp_ret | ((with_reducible apply wp_cond_true); (focus (first | rfl | (simp [go_sem, *]; done)))) | ((with_reducible apply wp_cond_false); (focus (first | rfl | (simp [go_sem, *]; done)))) | (simp only [Exit.then, Exit.inBlock, ↓reduceIte, Nat.reduceEqDiff]) | ((with_reducible apply kf_out); (focus assumption)))
  go_ret
  exact ⟨rfl, by assumption⟩
theorem less_any (x y : Int) (w : World) : Calls Try.prog 33 #[.int .u8 x, .int .u8 y] w (Ret (.bool (ltInt x y)) (Below w.heap.size w)) := by
  have hN := nan_any
  obtain ⟨b, hb⟩ : ∃ b, ltInt x y = b := ⟨_, rfl⟩
  rw [hb]
  unfold ltInt at hb
  go_enter Try.func33, Try.ntmps33
  have F0 : Below w.heap.size w w := Below.refl _ _
  repeat (first | with_reducible apply wpList_nil | ((with_reducible apply region_k); intro KK kk) | with_reducible apply wp_region_lit | ((with_reducible apply seq_k); intro KK kk) | ((with_reducible apply seq_q); (focus (first | exact wanted_none rfl | exact wanted_yes rfl rfl rfl)); (focus (simp [go_sem, effAt, ↓IntWalk.iteOmega, *]; (try go_ints); (first | (with_reducible exact effUpon_val) | (with_reducible exact effUpon_skip)))); (focus ((first | (apply put_some rfl; focus (conv => lhs; dsimp only [List.set_cons_zero, List.set_cons_succ]) <;> rfl) | exact put_none rfl)))) | ((with_reducible apply seq_s); (focus (first | exact wanted_no rfl rfl rfl | exact wanted_undef rfl rfl rfl)); (focus ((first | (apply put_some rfl; focus (conv => lhs; dsimp only [List.set_cons_zero, List.set_cons_succ]) <;> rfl) | exact put_none rfl)))) | with_reducible apply wp_block | with_reducible apply wp_skip | with_reducible apply wp_exit | with_reducible apply wp_ret | ((with_reducible apply wp_cond_true); (focus (first | rfl | (simp [go_sem, *]; done)))) | ((with_reducible apply wp_cond_false); (focus (first | rfl | (simp [go_sem, *]; done)))) | (simp only [Exit.then, Exit.inBlock, ↓reduceIte, Nat.reduceEqDiff]) | ((with_reducible apply kf_out); (focus assumption)))
  ((with_reducible apply seq_e (Below w.heap.size w)); (focus rfl); (focus (simp only [effAt]; simp [go_sem]; (with_reducible exact effUpon_enter (hN x _)))); (focus ((first | (apply put_some rfl; focus (conv => lhs; dsimp only [List.set_cons_zero, List.set_cons_succ]) <;> rfl) | exact put_none rfl))))
  intro w1 hs
  have Fw1 := F0.trans (hs.mono F0.size)
  clear hs F0
  repeat (first | with_reducible apply wpList_nil | ((with_reducible apply region_k); intro KK kk) | with_reducible apply wp_region_lit | ((with_reducible apply seq_k); intro KK kk) | ((with_reducible apply seq_q); (focus (first | exact wanted_none rfl | exact wanted_yes rfl rfl rfl)); (focus (simp [go_sem, effAt, ↓IntWalk.iteOmega, *]; (try go_ints); (first | (with_reducible exact effUpon_val) | (with_reducible exact effUpon_skip)))); (focus ((first | (apply put_some rfl; focus (conv => lhs; dsimp only [List.set_cons_zero, List.set_cons_succ]) <;> rfl) | exact put_none rfl)))) | ((with_reducible apply seq_s); (focus (first | exact wanted_no rfl rfl rfl | exact wanted_undef rfl rfl rfl)); (focus ((first | (apply put_some rfl; focus (conv => lhs; dsimp only [List.set_cons_zero, List.set_cons_succ]) <;> rfl) | exact put_none rfl)))) | with_reducible apply wp_block | with_reducible apply wp_skip | with_reducible apply wp_exit | with_reducible apply wp_ret | ((with_reducible apply wp_cond_true); (focus (first | rfl | (simp [go_sem, *]; done)))) | ((with_reducible apply wp_cond_false); (focus (first | rfl | (simp [go_sem, *]; done)))) | (simp only [Exit.then, Exit.inBlock, ↓reduceIte, Nat.reduceEqDiff]) | ((with_reducible apply kf_out); (focus assumption)))
  go_ret
  exact ⟨by simp [hb], by assumption⟩
end Go.Proofs.Ytckjgdlceckhpaa
