/- The walk of WheelPlays. -/
import Derived.Test.YtckjgdlceckhpaaKf
import Derived.Test.YtckjgdlceckhpaaPh
import Derived.Test.YtckjgdlceckhpaaWa
set_option linter.unusedSimpArgs false
set_option linter.unusedVariables false
namespace Go.Proofs.Ytckjgdlceckhpaa
open Go.RowKit Go.Eff
attribute [local irreducible] Go.wpList Go.wpOp Go.Eff.wpAnyG Go.wpAny
def lateP (i : Nat) : Bool := decide (6 ≤ i)
set_option maxRecDepth 100000 in
set_option maxHeartbeats 8000000 in
theorem plays_any (sl : Int) (v : Value) (l : List Cll) (w : World) (hsl : fitN sl) (h : Arg w v l) : Calls Try.prog 3 #[.int .i64 sl, v] w (Ret (.bool true) (Below w.heap.size w)) := by
  obtain ⟨pa, cap, rfl, hlc, hmax, hc⟩ := h
  obtain ⟨n, hn'⟩ : ∃ n, l.length = n := ⟨_, rfl⟩
  rw [hn'] at hlc ⊢
  have HC := Lib.hid hc
  clear hc
  by_cases hf : (200 : Int) < (n : Int)
  case pos =>
    have b1 : (n : Int) ≤ 9223372036854775807 := by omega
    go_enter Try.func3, Try.ntmps3
    have F0 : Below w.heap.size w w := Below.refl _ _
    repeat (first | with_reducible apply wpList_nil | ((with_reducible apply region_k); intro KK kk) | with_reducible apply wp_region_lit | ((with_reducible apply seq_k); intro KK kk) | ((with_reducible apply seq_q); (focus (first | exact wanted_none rfl | exact wanted_yes rfl rfl rfl)); (focus (simp [go_sem, effAt, ↓IntWalk.iteOmega, *]; (try go_ints); (first | (with_reducible exact effUpon_val) | (with_reducible exact effUpon_skip)))); (focus ((first | (apply put_some rfl; focus (conv => lhs; dsimp only [List.set_cons_zero, List.set_cons_succ]) <;> rfl) | exact put_none rfl)))) | ((with_reducible apply seq_s); (focus (first | exact wanted_no rfl rfl rfl | exact wanted_undef rfl rfl rfl)); (focus ((first | (apply put_some rfl; focus (conv => lhs; dsimp only [List.set_cons_zero, List.set_cons_succ]) <;> rfl) | exact put_none rfl)))) | with_reducible apply wp_block | with_reducible apply wp_skip | with_reducible apply wp_exit | with_reducible apply wp_ret | ((with_reducible apply wp_cond_true); (focus (first | rfl | (simp [go_sem, *]; done)))) | ((with_reducible apply wp_cond_false); (focus (first | rfl | (simp [go_sem, *]; done)))) | (simp only [Exit.then, Exit.inBlock, ↓reduceIte, Nat.reduceEqDiff]) | ((with_reducible apply kf_out); (focus assumption)))
    ((with_reducible apply seq_e (Below w.heap.size w)); (focus rfl); (focus (simp only [effAt]; simp [go_sem]; (with_reducible exact effUpon_enter (works_any _)))); (focus ((first | (apply put_some rfl; focus (conv => lhs; dsimp only [List.set_cons_zero, List.set_cons_succ]) <;> rfl) | exact put_none rfl))))
    intro w1 hs
    have Fw1 := F0.trans (hs.mono F0.size)
    clear hs F0
    repeat (first | with_reducible apply wpList_nil | ((with_reducible apply region_k); intro KK kk) | with_reducible apply wp_region_lit | ((with_reducible apply seq_k); intro KK kk) | ((with_reducible apply seq_q); (focus (first | exact wanted_none rfl | exact wanted_yes rfl rfl rfl)); (focus (simp [go_sem, effAt, ↓IntWalk.iteOmega, *]; (try go_ints); (first | (with_reducible exact effUpon_val) | (with_reducible exact effUpon_skip)))); (focus ((first | (apply put_some rfl; focus (conv => lhs; dsimp only [List.set_cons_zero, List.set_cons_succ]) <;> rfl) | exact put_none rfl)))) | ((with_reducible apply seq_s); (focus (first | exact wanted_no rfl rfl rfl | exact wanted_undef rfl rfl rfl)); (focus ((first | (apply put_some rfl; focus (conv => lhs; dsimp only [List.set_cons_zero, List.set_cons_succ]) <;> rfl) | exact put_none rfl)))) | with_reducible apply wp_block | with_reducible apply wp_skip | with_reducible apply wp_exit | with_reducible apply wp_ret | ((with_reducible apply wp_cond_true); (focus (first | rfl | (simp [go_sem, *]; done)))) | ((with_reducible apply wp_cond_false); (focus (first | rfl | (simp [go_sem, *]; done)))) | (simp only [Exit.then, Exit.inBlock, ↓reduceIte, Nat.reduceEqDiff]) | ((with_reducible apply kf_out); (focus assumption)))
    go_ret
    exact ⟨rfl, by assumption⟩
  have b1 : (n : Int) ≤ 200 := by omega
  by_cases h1 : sl < 1
  case pos =>
    have hN := fun w1 => new_no sl (.inl h1) hsl w1
    clear hsl
    go_enter Try.func3, Try.ntmps3
    have F0 : Below w.heap.size w w := Below.refl _ _
    repeat (first | with_reducible apply wpList_nil | ((with_reducible apply region_k); intro KK kk) | with_reducible apply wp_region_lit | ((with_reducible apply seq_k); intro KK kk) | ((with_reducible apply seq_q); (focus (first | exact wanted_none rfl | exact wanted_yes rfl rfl rfl)); (focus (simp [go_sem, effAt, ↓IntWalk.iteOmega, *]; (try go_ints); (first | (with_reducible exact effUpon_val) | (with_reducible exact effUpon_skip)))); (focus ((first | (apply put_some rfl; focus (conv => lhs; dsimp only [List.set_cons_zero, List.set_cons_succ]) <;> rfl) | exact put_none rfl)))) | ((with_reducible apply seq_s); (focus (first | exact wanted_no rfl rfl rfl | exact wanted_undef rfl rfl rfl)); (focus ((first | (apply put_some rfl; focus (conv => lhs; dsimp only [List.set_cons_zero, List.set_cons_succ]) <;> rfl) | exact put_none rfl)))) | with_reducible apply wp_block | with_reducible apply wp_skip | with_reducible apply wp_exit | with_reducible apply wp_ret | ((with_reducible apply wp_cond_true); (focus (first | rfl | (simp [go_sem, *]; done)))) | ((with_reducible apply wp_cond_false); (focus (first | rfl | (simp [go_sem, *]; done)))) | (simp only [Exit.then, Exit.inBlock, ↓reduceIte, Nat.reduceEqDiff]) | ((with_reducible apply kf_out); (focus assumption)))
    ((with_reducible apply seq_e (Below w.heap.size w)); (focus rfl); (focus (simp only [effAt]; simp [go_sem]; (with_reducible exact effUpon_enter (hN _)))); (focus ((first | (apply put_some rfl; focus (conv => lhs; dsimp only [List.set_cons_zero, List.set_cons_succ]) <;> rfl) | exact put_none rfl))))
    intro w2 hs
    have Fw2 := F0.trans (hs.mono F0.size)
    clear hs F0
    repeat (first | with_reducible apply wpList_nil | ((with_reducible apply region_k); intro KK kk) | with_reducible apply wp_region_lit | ((with_reducible apply seq_k); intro KK kk) | ((with_reducible apply seq_q); (focus (first | exact wanted_none rfl | exact wanted_yes rfl rfl rfl)); (focus (simp [go_sem, effAt, ↓IntWalk.iteOmega, *]; (try go_ints); (first | (with_reducible exact effUpon_val) | (with_reducible exact effUpon_skip)))); (focus ((first | (apply put_some rfl; focus (conv => lhs; dsimp only [List.set_cons_zero, List.set_cons_succ]) <;> rfl) | exact put_none rfl)))) | ((with_reducible apply seq_s); (focus (first | exact wanted_no rfl rfl rfl | exact wanted_undef rfl rfl rfl)); (focus ((first | (apply put_some rfl; focus (conv => lhs; dsimp only [List.set_cons_zero, List.set_cons_succ]) <;> rfl) | exact put_none rfl)))) | with_reducible apply wp_block | with_reducible apply wp_skip | with_reducible apply wp_exit | with_reducible apply wp_ret | ((with_reducible apply wp_cond_true); (focus (first | rfl | (simp [go_sem, *]; done)))) | ((with_reducible apply wp_cond_false); (focus (first | rfl | (simp [go_sem, *]; done)))) | (simp only [Exit.then, Exit.inBlock, ↓reduceIte, Nat.reduceEqDiff]) | ((with_reducible apply kf_out); (focus assumption)))
    ((with_reducible apply seq_e (Below w2.heap.size w2)); (focus rfl); (focus (simp only [effAt]; simp [go_sem]; (with_reducible exact effUpon_enter (works_any _)))); (focus ((first | (apply put_some rfl; focus (conv => lhs; dsimp only [List.set_cons_zero, List.set_cons_succ]) <;> rfl) | exact put_none rfl))))
    intro w3 hs
    have Fw3 := Fw2.trans (hs.mono Fw2.size)
    clear hs Fw2
    repeat (first | with_reducible apply wpList_nil | ((with_reducible apply region_k); intro KK kk) | with_reducible apply wp_region_lit | ((with_reducible apply seq_k); intro KK kk) | ((with_reducible apply seq_q); (focus (first | exact wanted_none rfl | exact wanted_yes rfl rfl rfl)); (focus (simp [go_sem, effAt, ↓IntWalk.iteOmega, *]; (try go_ints); (first | (with_reducible exact effUpon_val) | (with_reducible exact effUpon_skip)))); (focus ((first | (apply put_some rfl; focus (conv => lhs; dsimp only [List.set_cons_zero, List.set_cons_succ]) <;> rfl) | exact put_none rfl)))) | ((with_reducible apply seq_s); (focus (first | exact wanted_no rfl rfl rfl | exact wanted_undef rfl rfl rfl)); (focus ((first | (apply put_some rfl; focus (conv => lhs; dsimp only [List.set_cons_zero, List.set_cons_succ]) <;> rfl) | exact put_none rfl)))) | with_reducible apply wp_block | with_reducible apply wp_skip | with_reducible apply wp_exit | with_reducible apply wp_ret | ((with_reducible apply wp_cond_true); (focus (first | rfl | (simp [go_sem, *]; done)))) | ((with_reducible apply wp_cond_false); (focus (first | rfl | (simp [go_sem, *]; done)))) | (simp only [Exit.then, Exit.inBlock, ↓reduceIte, Nat.reduceEqDiff]) | ((with_reducible apply kf_out); (focus assumption)))
    go_ret
    exact ⟨rfl, by assumption⟩
  by_cases h2 : 256 < sl
  case pos =>
    have hN := fun w1 => new_no sl (.inr h2) hsl w1
    clear hsl
    go_enter Try.func3, Try.ntmps3
    have F0 : Below w.heap.size w w := Below.refl _ _
    repeat (first | with_reducible apply wpList_nil | ((with_reducible apply region_k); intro KK kk) | with_reducible apply wp_region_lit | ((with_reducible apply seq_k); intro KK kk) | ((with_reducible apply seq_q); (focus (first | exact wanted_none rfl | exact wanted_yes rfl rfl rfl)); (focus (simp [go_sem, effAt, ↓IntWalk.iteOmega, *]; (try go_ints); (first | (with_reducible exact effUpon_val) | (with_reducible exact effUpon_skip)))); (focus ((first | (apply put_some rfl; focus (conv => lhs; dsimp only [List.set_cons_zero, List.set_cons_succ]) <;> rfl) | exact put_none rfl)))) | ((with_reducible apply seq_s); (focus (first | exact wanted_no rfl rfl rfl | exact wanted_undef rfl rfl rfl)); (focus ((first | (apply put_some rfl; focus (conv => lhs; dsimp only [List.set_cons_zero, List.set_cons_succ]) <;> rfl) | exact put_none rfl)))) | with_reducible apply wp_block | with_reducible apply wp_skip | with_reducible apply wp_exit | with_reducible apply wp_ret | ((with_reducible apply wp_cond_true); (focus (first | rfl | (simp [go_sem, *]; done)))) | ((with_reducible apply wp_cond_false); (focus (first | rfl | (simp [go_sem, *]; done)))) | (simp only [Exit.then, Exit.inBlock, ↓reduceIte, Nat.reduceEqDiff]) | ((with_reducible apply kf_out); (focus assumption)))
    ((with_reducible apply seq_e (Below w.heap.size w)); (focus rfl); (focus (simp only [effAt]; simp [go_sem]; (with_reducible exact effUpon_enter (hN _)))); (focus ((first | (apply put_some rfl; focus (conv => lhs; dsimp only [List.set_cons_zero, List.set_cons_succ]) <;> rfl) | exact put_none rfl))))
    intro w4 hs
    have Fw4 := F0.trans (hs.mono F0.size)
    clear hs F0
    repeat (first | with_reducible apply wpList_nil | ((with_reducible apply region_k); intro KK kk) | with_reducible apply wp_region_lit | ((with_reducible apply seq_k); intro KK kk) | ((with_reducible apply seq_q); (focus (first | exact wanted_none rfl | exact wanted_yes rfl rfl rfl)); (focus (simp [go_sem, effAt, ↓IntWalk.iteOmega, *]; (try go_ints); (first | (with_reducible exact effUpon_val) | (with_reducible exact effUpon_skip)))); (focus ((first | (apply put_some rfl; focus (conv => lhs; dsimp only [List.set_cons_zero, List.set_cons_succ]) <;> rfl) | exact put_none rfl)))) | ((with_reducible apply seq_s); (focus (first | exact wanted_no rfl rfl rfl | exact wanted_undef rfl rfl rfl)); (focus ((first | (apply put_some rfl; focus (conv => lhs; dsimp only [List.set_cons_zero, List.set_cons_succ]) <;> rfl) | exact put_none rfl)))) | with_reducible apply wp_block | with_reducible apply wp_skip | with_reducible apply wp_exit | with_reducible apply wp_ret | ((with_reducible apply wp_cond_true); (focus (first | rfl | (simp [go_sem, *]; done)))) | ((with_reducible apply wp_cond_false); (focus (first | rfl | (simp [go_sem, *]; done)))) | (simp only [Exit.then, Exit.inBlock, ↓reduceIte, Nat.reduceEqDiff]) | ((with_reducible apply kf_out); (focus assumption)))
    ((with_reducible apply seq_e (Below w4.heap.size w4)); (focus rfl); (focus (simp only [effAt]; simp [go_sem]; (with_reducible exact effUpon_enter (works_any _)))); (focus ((first | (apply put_some rfl; focus (conv => lhs; dsimp only [List.set_cons_zero, List.set_cons_succ]) <;> rfl) | exact put_none rfl))))
    intro w5 hs
    have Fw5 := Fw4.trans (hs.mono Fw4.size)
    clear hs Fw4
    repeat (first | with_reducible apply wpList_nil | ((with_reducible apply region_k); intro KK kk) | with_reducible apply wp_region_lit | ((with_reducible apply seq_k); intro KK kk) | ((with_reducible apply seq_q); (focus (first | exact wanted_none rfl | exact wanted_yes rfl rfl rfl)); (focus (simp [go_sem, effAt, ↓IntWalk.iteOmega, *]; (try go_ints); (first | (with_reducible exact effUpon_val) | (with_reducible exact effUpon_skip)))); (focus ((first | (apply put_some rfl; focus (conv => lhs; dsimp only [List.set_cons_zero, List.set_cons_succ]) <;> rfl) | exact put_none rfl)))) | ((with_reducible apply seq_s); (focus (first | exact wanted_no rfl rfl rfl | exact wanted_undef rfl rfl rfl)); (focus ((first | (apply put_some rfl; focus (conv => lhs; dsimp only [List.set_cons_zero, List.set_cons_succ]) <;> rfl) | exact put_none rfl)))) | with_reducible apply wp_block | with_reducible apply wp_skip | with_reducible apply wp_exit | with_reducible apply wp_ret | ((with_reducible apply wp_cond_true); (focus (first | rfl | (simp [go_sem, *]; done)))) | ((with_reducible apply wp_cond_false); (focus (first | rfl | (simp [go_sem, *]; done)))) | (simp only [Exit.then, Exit.inBlock, ↓reduceIte, Nat.reduceEqDiff]) | ((with_reducible apply kf_out); (focus assumption)))
    go_ret
    exact ⟨rfl, by assumption⟩
  obtain ⟨sn, rfl⟩ : ∃ k : Nat, sl = (k : Int) := ⟨sl.toNat, by omega⟩
  have hN := new_abs sn (by omega) (by omega) w
  clear hsl
  go_enter Try.func3, Try.ntmps3
  have F0 : Below w.heap.size w w := Below.refl _ _
  repeat (first | with_reducible apply wpList_nil | ((with_reducible apply region_k); intro KK kk) | with_reducible apply wp_region_lit | ((with_reducible apply seq_k); intro KK kk) | ((with_reducible apply seq_q); (focus (first | exact wanted_none rfl | exact wanted_yes rfl rfl rfl)); (focus (simp [go_sem, effAt, ↓IntWalk.iteOmega, *]; (try go_ints); (first | (with_reducible exact effUpon_val) | (with_reducible exact effUpon_skip)))); (focus ((first | (apply put_some rfl; focus (conv => lhs; dsimp only [List.set_cons_zero, List.set_cons_succ]) <;> rfl) | exact put_none rfl)))) | ((with_reducible apply seq_s); (focus (first | exact wanted_no rfl rfl rfl | exact wanted_undef rfl rfl rfl)); (focus ((first | (apply put_some rfl; focus (conv => lhs; dsimp only [List.set_cons_zero, List.set_cons_succ]) <;> rfl) | exact put_none rfl)))) | with_reducible apply wp_block | with_reducible apply wp_skip | with_reducible apply wp_exit | with_reducible apply wp_ret | ((with_reducible apply wp_cond_true); (focus (first | rfl | (simp [go_sem, *]; done)))) | ((with_reducible apply wp_cond_false); (focus (first | rfl | (simp [go_sem, *]; done)))) | (simp only [Exit.then, Exit.inBlock, ↓reduceIte, Nat.reduceEqDiff]) | ((with_reducible apply kf_out); (focus assumption)))
  with_reducible apply seq_e (fun w' => Wheel (fun j => w.heap.size ≤ j ∧ j < w'.heap.size) w' (w.heap.size + 2) (fun _ => 0) ∧ Below w.heap.size w w')
  (focus (first | exact wanted_none rfl | exact wanted_yes rfl rfl rfl))
  (focus (simp only [effAt]; simp [go_sem]; (with_reducible exact effUpon_enter (hN))))
  (focus ((first | (apply put_some rfl; focus (conv => lhs; dsimp only [List.set_cons_zero, List.set_cons_succ]) <;> rfl) | exact put_none rfl)))
  rintro x1 ⟨hW1, hb1⟩
  clear hN F0
  obtain ⟨p, hp⟩ : ∃ p, w.heap.size + 2 = p := ⟨_, rfl⟩
  rw [hp] at hW1 ⊢
  clear hp
  have hR := rnew_any x1
  have Fx1 : Below x1.heap.size x1 x1 := Below.refl _ _
  repeat (first | with_reducible apply wpList_nil | ((with_reducible apply region_k); intro KK kk) | with_reducible apply wp_region_lit | ((with_reducible apply seq_k); intro KK kk) | ((with_reducible apply seq_q); (focus (first | exact wanted_none rfl | exact wanted_yes rfl rfl rfl)); (focus (simp [go_sem, effAt, ↓IntWalk.iteOmega, *]; (try go_ints); (first | (with_reducible exact effUpon_val) | (with_reducible exact effUpon_skip)))); (focus ((first | (apply put_some rfl; focus (conv => lhs; dsimp only [List.set_cons_zero, List.set_cons_succ]) <;> rfl) | exact put_none rfl)))) | ((with_reducible apply seq_s); (focus (first | exact wanted_no rfl rfl rfl | exact wanted_undef rfl rfl rfl)); (focus ((first | (apply put_some rfl; focus (conv => lhs; dsimp only [List.set_cons_zero, List.set_cons_succ]) <;> rfl) | exact put_none rfl)))) | with_reducible apply wp_block | with_reducible apply wp_skip | with_reducible apply wp_exit | with_reducible apply wp_ret | ((with_reducible apply wp_cond_true); (focus (first | rfl | (simp [go_sem, *]; done)))) | ((with_reducible apply wp_cond_false); (focus (first | rfl | (simp [go_sem, *]; done)))) | (simp only [Exit.then, Exit.inBlock, ↓reduceIte, Nat.reduceEqDiff]) | ((with_reducible apply kf_out); (focus assumption)))
  with_reducible apply seq_e (fun w' => RefW w' (x1.heap.size + 1) x1.heap.size (fun _ => 0) ∧ Below x1.heap.size x1 w')
  (focus (first | exact wanted_none rfl | exact wanted_yes rfl rfl rfl))
  (focus (simp only [effAt]; simp [go_sem]; (with_reducible exact effUpon_enter (hR))))
  (focus ((first | (apply put_some rfl; focus (conv => lhs; dsimp only [List.set_cons_zero, List.set_cons_succ]) <;> rfl) | exact put_none rfl)))
  rintro x2 ⟨hR2, hb2⟩
  clear hR
  obtain ⟨F0, hF0⟩ : ∃ F : Nat → Prop, (fun j => w.heap.size ≤ j ∧ j < x1.heap.size) = F := ⟨_, rfl⟩
  have hF0b : ∀ j, F0 j → w.heap.size ≤ j ∧ j < x1.heap.size := fun j hj => by rw [← hF0] at hj; exact hj
  rw [hF0] at hW1
  have hS2 : St F0 x2 p (x1.heap.size + 1) x1.heap.size (fun _ => 0) (fun _ => 0) := ⟨hW1.below hb2, hR2, fun e => by have := hF0b _ e; omega, fun e => by have := hF0b _ e; omega⟩
  have hbb := hb1.trans (hb2.mono hb1.size)
  have zb1 := hb1.size
  obtain ⟨la, hla⟩ : ∃ la, x1.heap.size = la := ⟨_, rfl⟩
  obtain ⟨r, hr⟩ : ∃ r, la + 1 = r := ⟨_, rfl⟩
  rw [hla] at hS2 zb1 hF0b ⊢
  rw [hr] at hS2 ⊢
  have hFb : ∀ j, F0 j → w.heap.size ≤ j := fun j hj => (hF0b j hj).1
  have hrb : w.heap.size ≤ r := by omega
  clear hW1 hb1 hR2 hb2 hF0 hF0b hla hr
  have Fx2 : Below x2.heap.size x2 x2 := Below.refl _ _
  repeat (first | with_reducible apply wpList_nil | ((with_reducible apply region_k); intro KK kk) | with_reducible apply wp_region_lit | ((with_reducible apply seq_k); intro KK kk) | ((with_reducible apply seq_q); (focus (first | exact wanted_none rfl | exact wanted_yes rfl rfl rfl)); (focus (simp [go_sem, effAt, ↓IntWalk.iteOmega, *]; (try go_ints); (first | (with_reducible exact effUpon_val) | (with_reducible exact effUpon_skip)))); (focus ((first | (apply put_some rfl; focus (conv => lhs; dsimp only [List.set_cons_zero, List.set_cons_succ]) <;> rfl) | exact put_none rfl)))) | ((with_reducible apply seq_s); (focus (first | exact wanted_no rfl rfl rfl | exact wanted_undef rfl rfl rfl)); (focus ((first | (apply put_some rfl; focus (conv => lhs; dsimp only [List.set_cons_zero, List.set_cons_succ]) <;> rfl) | exact put_none rfl)))) | with_reducible apply wp_block | with_reducible apply wp_skip | with_reducible apply wp_exit | with_reducible apply wp_ret | ((with_reducible apply wp_cond_true); (focus (first | rfl | (simp [go_sem, *]; done)))) | ((with_reducible apply wp_cond_false); (focus (first | rfl | (simp [go_sem, *]; done)))) | (simp only [Exit.then, Exit.inBlock, ↓reduceIte, Nat.reduceEqDiff]) | ((with_reducible apply kf_out); (focus assumption)))
  go_loopg [7] n (fun q v7 wr => ∃ (i : Nat) (F : Nat → Prop) (L : Nat → Nat), v7 = .int .i64 (i : Int) ∧ i + q = n ∧ St F wr p r la L L ∧ Below w.heap.size w wr ∧ ∀ j, F j → w.heap.size ≤ j)
  case atStart => exact ⟨0, F0, _, rfl, by omega, hS2, hbb, hFb⟩
  case round =>
    rename_i J K hJ hK
    clear hS2 hbb hFb
    obtain ⟨i, F, L, rfl, hi, hS, hb, hFb⟩ := hrel
    by_cases hlt : i < n
    case neg =>
      have hlt' : ¬ (i : Int) < (n : Int) := by omega
      clear hJ hK
      skip
      have Fwr : Below wr.heap.size wr wr := Below.refl _ _
      repeat (first | with_reducible apply wpList_nil | ((with_reducible apply region_k); intro KK kk) | with_reducible apply wp_region_lit | ((with_reducible apply seq_k); intro KK kk) | ((with_reducible apply seq_q); (focus (first | exact wanted_none rfl | exact wanted_yes rfl rfl rfl)); (focus (simp [go_sem, effAt, ↓IntWalk.iteOmega, *]; (try go_ints); (first | (with_reducible exact effUpon_val) | (with_reducible exact effUpon_skip)))); (focus ((first | (apply put_some rfl; focus (conv => lhs; dsimp only [List.set_cons_zero, List.set_cons_succ]) <;> rfl) | exact put_none rfl)))) | ((with_reducible apply seq_s); (focus (first | exact wanted_no rfl rfl rfl | exact wanted_undef rfl rfl rfl)); (focus ((first | (apply put_some rfl; focus (conv => lhs; dsimp only [List.set_cons_zero, List.set_cons_succ]) <;> rfl) | exact put_none rfl)))) | with_reducible apply wp_block | with_reducible apply wp_skip | with_reducible apply wp_exit | with_reducible apply wp_ret | ((with_reducible apply wp_cond_true); (focus (first | rfl | (simp [go_sem, *]; done)))) | ((with_reducible apply wp_cond_false); (focus (first | rfl | (simp [go_sem, *]; done)))) | (simp only [Exit.then, Exit.inBlock, ↓reduceIte, Nat.reduceEqDiff]) | ((with_reducible apply kf_out); (focus assumption)))
      ((with_reducible apply seq_e (Below wr.heap.size wr)); (focus rfl); (focus (simp only [effAt]; simp [go_sem]; (with_reducible exact effUpon_enter (works_any _)))); (focus ((first | (apply put_some rfl; focus (conv => lhs; dsimp only [List.set_cons_zero, List.set_cons_succ]) <;> rfl) | exact put_none rfl))))
      intro w1 hs
      have Fw1 := Fwr.trans (hs.mono Fwr.size)
      clear hs Fwr
      repeat (first | with_reducible apply wpList_nil | ((with_reducible apply region_k); intro KK kk) | with_reducible apply wp_region_lit | ((with_reducible apply seq_k); intro KK kk) | ((with_reducible apply seq_q); (focus (first | exact wanted_none rfl | exact wanted_yes rfl rfl rfl)); (focus (simp [go_sem, effAt, ↓IntWalk.iteOmega, *]; (try go_ints); (first | (with_reducible exact effUpon_val) | (with_reducible exact effUpon_skip)))); (focus ((first | (apply put_some rfl; focus (conv => lhs; dsimp only [List.set_cons_zero, List.set_cons_succ]) <;> rfl) | exact put_none rfl)))) | ((with_reducible apply seq_s); (focus (first | exact wanted_no rfl rfl rfl | exact wanted_undef rfl rfl rfl)); (focus ((first | (apply put_some rfl; focus (conv => lhs; dsimp only [List.set_cons_zero, List.set_cons_succ]) <;> rfl) | exact put_none rfl)))) | with_reducible apply wp_block | with_reducible apply wp_skip | with_reducible apply wp_exit | with_reducible apply wp_ret | ((with_reducible apply wp_cond_true); (focus (first | rfl | (simp [go_sem, *]; done)))) | ((with_reducible apply wp_cond_false); (focus (first | rfl | (simp [go_sem, *]; done)))) | (simp only [Exit.then, Exit.inBlock, ↓reduceIte, Nat.reduceEqDiff]) | ((with_reducible apply kf_out); (focus assumption)))
      go_ret
      exact ⟨rfl, hb.trans (Below.mono (by assumption) hb.size)⟩
    case pos =>
      have hlt' : (i : Int) < (n : Int) := by omega
      obtain ⟨c, hce⟩ : ∃ c, l[i]? = some c := ⟨_, List.getElem?_eq_getElem (by omega)⟩
      obtain ⟨a, ga, o, rfl, hao, ha, c0, c1, c2, d1, d2, d3⟩ := HC.out i c hce
      clear hce
      obtain ⟨d, id, nn⟩ := c
      dsimp only at c0 c1 c2 d1 d2 d3
      have C0 := Lib.hid c0
      have C1 := Lib.hid c1
      have C2 := Lib.hid c2
      have hdo := does_any hS.drew d1 d2 d3.1 d3.2 (n := nn)
      have hidI : (id : Int) < 256 := by omega
      clear c0 c1 c2
      skip
      have Fwr : Below wr.heap.size wr wr := Below.refl _ _
      repeat (first | with_reducible apply wpList_nil | ((with_reducible apply region_k); intro KK kk) | with_reducible apply wp_region_lit | ((with_reducible apply seq_k); intro KK kk) | ((with_reducible apply seq_q); (focus (first | exact wanted_none rfl | exact wanted_yes rfl rfl rfl)); (focus (simp [go_sem, effAt, ↓IntWalk.iteOmega, *]; (try go_ints); (first | (with_reducible exact effUpon_val) | (with_reducible exact effUpon_skip)))); (focus ((first | (apply put_some rfl; focus (conv => lhs; dsimp only [List.set_cons_zero, List.set_cons_succ]) <;> rfl) | exact put_none rfl)))) | ((with_reducible apply seq_s); (focus (first | exact wanted_no rfl rfl rfl | exact wanted_undef rfl rfl rfl)); (focus ((first | (apply put_some rfl; focus (conv => lhs; dsimp only [List.set_cons_zero, List.set_cons_succ]) <;> rfl) | exact put_none rfl)))) | with_reducible apply wp_block | with_reducible apply wp_skip | with_reducible apply wp_exit | with_reducible apply wp_ret | ((with_reducible apply wp_cond_true); (focus (first | rfl | (simp [go_sem, *]; done)))) | ((with_reducible apply wp_cond_false); (focus (first | rfl | (simp [go_sem, *]; done)))) | (simp only [Exit.then, Exit.inBlock, ↓reduceIte, Nat.reduceEqDiff]) | ((with_reducible apply kf_out); (focus assumption)))
      refine late_region 36 (Below w.heap.size w) lateP (by kernel_rfl) (by kernel_rfl) ?_
      have hb0 : Below w.heap.size w wr.drew := hb.drew
      (with_reducible apply late_v 0)
      (focus rfl)
      (focus kernel_rfl)
      (focus kernel_rfl)
      (focus kernel_rfl)
      (focus kernel_rfl)
      (focus kernel_rfl)
      (focus rfl)
      (focus exact fun _ _ _ h => h)
      (focus (first | exact wanted_none rfl | exact wanted_yes rfl rfl rfl))
      (focus (intro w' hS; have c0 := (hS.cell (p := ⟨ga, o, none⟩) ha).trans C0.out; have c1 := (hS.cell (p := ⟨ga, o + 1, none⟩) ha).trans C1.out; have c2 := (hS.cell (p := ⟨ga, o + 2, none⟩) ha).trans C2.out; simp [go_sem, valAt, ↓IntWalk.iteOmega, *]; (try go_ints); (with_reducible exact valUpon_val)))
      (focus exact hb0)
      (focus (first | (apply put_some rfl; focus (conv => lhs; dsimp only [List.set_cons_zero, List.set_cons_succ]) <;> rfl) | exact put_none rfl))
      (with_reducible apply late_v 1)
      (focus rfl)
      (focus kernel_rfl)
      (focus kernel_rfl)
      (focus kernel_rfl)
      (focus kernel_rfl)
      (focus kernel_rfl)
      (focus rfl)
      (focus exact fun _ _ _ h => h)
      (focus (first | exact wanted_none rfl | exact wanted_yes rfl rfl rfl))
      (focus (intro w' hS; have c0 := (hS.cell (p := ⟨ga, o, none⟩) ha).trans C0.out; have c1 := (hS.cell (p := ⟨ga, o + 1, none⟩) ha).trans C1.out; have c2 := (hS.cell (p := ⟨ga, o + 2, none⟩) ha).trans C2.out; simp [go_sem, valAt, ↓IntWalk.iteOmega, *]; (try go_ints); (with_reducible exact valUpon_val)))
      (focus exact hb0)
      (focus (first | (apply put_some rfl; focus (conv => lhs; dsimp only [List.set_cons_zero, List.set_cons_succ]) <;> rfl) | exact put_none rfl))
      (with_reducible apply late_v 2)
      (focus rfl)
      (focus kernel_rfl)
      (focus kernel_rfl)
      (focus kernel_rfl)
      (focus kernel_rfl)
      (focus kernel_rfl)
      (focus rfl)
      (focus exact fun _ _ _ h => h)
      (focus (first | exact wanted_none rfl | exact wanted_yes rfl rfl rfl))
      (focus (intro w' hS; have c0 := (hS.cell (p := ⟨ga, o, none⟩) ha).trans C0.out; have c1 := (hS.cell (p := ⟨ga, o + 1, none⟩) ha).trans C1.out; have c2 := (hS.cell (p := ⟨ga, o + 2, none⟩) ha).trans C2.out; simp [go_sem, valAt, ↓IntWalk.iteOmega, *]; (try go_ints); (with_reducible exact valUpon_val)))
      (focus exact hb0)
      (focus (first | (apply put_some rfl; focus (conv => lhs; dsimp only [List.set_cons_zero, List.set_cons_succ]) <;> rfl) | exact put_none rfl))
      (with_reducible apply late_v 3)
      (focus rfl)
      (focus kernel_rfl)
      (focus kernel_rfl)
      (focus kernel_rfl)
      (focus kernel_rfl)
      (focus kernel_rfl)
      (focus rfl)
      (focus exact fun _ _ _ h => h)
      (focus (first | exact wanted_none rfl | exact wanted_yes rfl rfl rfl))
      (focus (intro w' hS; have c0 := (hS.cell (p := ⟨ga, o, none⟩) ha).trans C0.out; have c1 := (hS.cell (p := ⟨ga, o + 1, none⟩) ha).trans C1.out; have c2 := (hS.cell (p := ⟨ga, o + 2, none⟩) ha).trans C2.out; simp [go_sem, valAt, ↓IntWalk.iteOmega, *]; (try go_ints); (with_reducible exact valUpon_val)))
      (focus exact hb0)
      (focus (first | (apply put_some rfl; focus (conv => lhs; dsimp only [List.set_cons_zero, List.set_cons_succ]) <;> rfl) | exact put_none rfl))
      (with_reducible apply late_v 4)
      (focus rfl)
      (focus kernel_rfl)
      (focus kernel_rfl)
      (focus kernel_rfl)
      (focus kernel_rfl)
      (focus kernel_rfl)
      (focus rfl)
      (focus exact fun _ _ _ h => h)
      (focus (first | exact wanted_none rfl | exact wanted_yes rfl rfl rfl))
      (focus (intro w' hS; have c0 := (hS.cell (p := ⟨ga, o, none⟩) ha).trans C0.out; have c1 := (hS.cell (p := ⟨ga, o + 1, none⟩) ha).trans C1.out; have c2 := (hS.cell (p := ⟨ga, o + 2, none⟩) ha).trans C2.out; simp [go_sem, valAt, ↓IntWalk.iteOmega, *]; (try go_ints); (with_reducible exact valUpon_val)))
      (focus exact hb0)
      (focus (first | (apply put_some rfl; focus (conv => lhs; dsimp only [List.set_cons_zero, List.set_cons_succ]) <;> rfl) | exact put_none rfl))
      (with_reducible apply late_v 5)
      (focus rfl)
      (focus kernel_rfl)
      (focus kernel_rfl)
      (focus kernel_rfl)
      (focus kernel_rfl)
      (focus kernel_rfl)
      (focus rfl)
      (focus exact fun _ _ _ h => h)
      (focus (first | exact wanted_none rfl | exact wanted_yes rfl rfl rfl))
      (focus (intro w' hS; have c0 := (hS.cell (p := ⟨ga, o, none⟩) ha).trans C0.out; have c1 := (hS.cell (p := ⟨ga, o + 1, none⟩) ha).trans C1.out; have c2 := (hS.cell (p := ⟨ga, o + 2, none⟩) ha).trans C2.out; simp [go_sem, valAt, ↓IntWalk.iteOmega, *]; (try go_ints); (with_reducible exact valUpon_val)))
      (focus exact hb0)
      (focus (first | (apply put_some rfl; focus (conv => lhs; dsimp only [List.set_cons_zero, List.set_cons_succ]) <;> rfl) | exact put_none rfl))
      refine late_all (rs := [6]) (by kernel_rfl) (by simp) ?_
      refine List.forall_mem_cons.2 ⟨?_, by intro _ h; cases h⟩
      (with_reducible apply late_e (fun w' => ∃ F', St F' w' p r la (stepL L d id nn) (stepL L d id nn) ∧ Ev F wr.drew F' w' r la))
      (focus rfl)
      (focus (first | exact wanted_none rfl | exact wanted_yes rfl rfl rfl))
      (focus (simp only [effAt]; simp [go_sem]; (with_reducible exact effUpon_enter hdo)))
      (focus (first | (apply put_some rfl; focus (conv => lhs; dsimp only [List.set_cons_zero, List.set_cons_succ]) <;> rfl) | exact put_none rfl))
      (focus exact fun w' h => .inl rfl)
      rintro u ⟨F2, hS2, hE2⟩
      have hb2 : Below w.heap.size w u := hE2.1.undrew.behind hb (Nat.le_refl _) (fun j hj => by
        have := hb.size
        rcases hj with hj | hj | hj | hj
        · exact hFb j hj
        · omega
        · omega
        · have : wr.heap.size ≤ j := hj
          omega)
      have hFb2 : ∀ j, F2 j → w.heap.size ≤ j := fun j hj => by
        have := hb.size
        rcases hE2.2 j hj with h | h
        · exact hFb j h
        · have : wr.heap.size ≤ j := h
          omega
      clear hdo hE2 hS hb hFb hb0
      generalize stepL L d id nn = L2 at hS2 ⊢
      have eg := refC_get (L := L2) d2
      obtain ⟨lv, hlv⟩ : ∃ x, L2 id = x := ⟨_, rfl⟩
      obtain ⟨cv, hcv⟩ : ∃ x, cnt L2 = x := ⟨_, rfl⟩
      have hleft := fun (u : World) (h : St F2 u p r la L2 L2) => left_abs (k := id) h.wh
      have hcount := fun (u : World) (h : St F2 u p r la L2 L2) => count_abs h.wh
      have hrcount := fun (u : World) (h : St F2 u p r la L2 L2) => rcount_any h.rf
      rw [hcv] at hcount hrcount
      rw [hlv] at eg hleft
      obtain ⟨C, hC⟩ : ∃ C, refC L2 = C := ⟨_, rfl⟩
      rw [hC] at eg
      have HCC := Lib.hid hC
      clear hC hlv hcv
      refine late_rest _ _ _ _ (by kernel_rfl) ?_
      refine any_lex (S := fun w' => St F2 w' p r la L2 L2 ∧ Below w.heap.size w w') (I := (· = u)) (E := fun i => [10, 12, 22].contains i) (A := fun _ => false) 7 rfl rfl (by kernel_rfl) (by kernel_rfl) (by kernel_rfl) rfl (fun _ h => by subst h; exact ⟨hS2, hb2⟩) ?_
      simp only [List.drop_succ_cons, List.drop_zero]
      repeat (first | ((with_reducible apply lexA_q); (focus rfl); (focus rfl); (focus rfl); (focus (intro w' hS; have c1 := (hS.2.cell (p := ⟨ga, o + 1, none⟩) ha).trans C1.out; have hc_r := hS.1.rf.hr.cell; have hc_l := hS.1.rf.hl.cell; rw [HCC.out] at hc_l; simp [go_sem, effAt, ↓IntWalk.iteOmega, *]; (try go_ints); (first | (with_reducible exact effUpon_val) | (with_reducible exact effUpon_skip)))); (focus ((first | (apply put_some rfl; focus (conv => lhs; dsimp only [List.set_cons_zero, List.set_cons_succ]) <;> rfl) | exact put_none rfl)))) | ((with_reducible apply lexA_s); (focus rfl); (focus ((first | (apply put_some rfl; focus (conv => lhs; dsimp only [List.set_cons_zero, List.set_cons_succ]) <;> rfl) | exact put_none rfl)))))
      with_reducible apply lexA_e (fun w' => St F2 w' p r la L2 L2 ∧ Below w.heap.size w w')
      (focus (first | exact wanted_none rfl | exact wanted_yes rfl rfl rfl))
      focus rfl
      focus
        rintro w' hw
        subst hw
        simp only [effAt]
        simp [go_sem]
        (with_reducible exact effUpon_enter (ret_mono (hcount _ hS2) (fun _ h => ⟨hS2.below h, hb2.trans (h.mono hb2.size)⟩)))
      focus exact fun _ h => h
      (focus (first | (apply put_some rfl; focus (conv => lhs; dsimp only [List.set_cons_zero, List.set_cons_succ]) <;> rfl) | exact put_none rfl))
      repeat (first | ((with_reducible apply lexA_q); (focus rfl); (focus rfl); (focus rfl); (focus (intro w' hS; have c1 := (hS.2.cell (p := ⟨ga, o + 1, none⟩) ha).trans C1.out; have hc_r := hS.1.rf.hr.cell; have hc_l := hS.1.rf.hl.cell; rw [HCC.out] at hc_l; simp [go_sem, effAt, ↓IntWalk.iteOmega, *]; (try go_ints); (first | (with_reducible exact effUpon_val) | (with_reducible exact effUpon_skip)))); (focus ((first | (apply put_some rfl; focus (conv => lhs; dsimp only [List.set_cons_zero, List.set_cons_succ]) <;> rfl) | exact put_none rfl)))) | ((with_reducible apply lexA_s); (focus rfl); (focus ((first | (apply put_some rfl; focus (conv => lhs; dsimp only [List.set_cons_zero, List.set_cons_succ]) <;> rfl) | exact put_none rfl)))))
      with_reducible apply lexA_e (fun w' => St F2 w' p r la L2 L2 ∧ Below w.heap.size w w')
      (focus (first | exact wanted_none rfl | exact wanted_yes rfl rfl rfl))
      focus rfl
      focus
        rintro w' ⟨hS, hb⟩
        simp only [effAt]
        simp [go_sem]
        (with_reducible exact effUpon_enter (ret_mono (hrcount _ hS) (fun _ h => ⟨hS.below h, hb.trans (h.mono hb.size)⟩)))
      focus exact fun _ h => h
      (focus (first | (apply put_some rfl; focus (conv => lhs; dsimp only [List.set_cons_zero, List.set_cons_succ]) <;> rfl) | exact put_none rfl))
      repeat (first | ((with_reducible apply lexA_q); (focus rfl); (focus rfl); (focus rfl); (focus (intro w' hS; have c1 := (hS.2.cell (p := ⟨ga, o + 1, none⟩) ha).trans C1.out; have hc_r := hS.1.rf.hr.cell; have hc_l := hS.1.rf.hl.cell; rw [HCC.out] at hc_l; simp [go_sem, effAt, ↓IntWalk.iteOmega, *]; (try go_ints); (first | (with_reducible exact effUpon_val) | (with_reducible exact effUpon_skip)))); (focus ((first | (apply put_some rfl; focus (conv => lhs; dsimp only [List.set_cons_zero, List.set_cons_succ]) <;> rfl) | exact put_none rfl)))) | ((with_reducible apply lexA_s); (focus rfl); (focus ((first | (apply put_some rfl; focus (conv => lhs; dsimp only [List.set_cons_zero, List.set_cons_succ]) <;> rfl) | exact put_none rfl)))))
      with_reducible apply lexA_e (fun w' => St F2 w' p r la L2 L2 ∧ Below w.heap.size w w')
      (focus (first | exact wanted_none rfl | exact wanted_yes rfl rfl rfl))
      focus rfl
      focus
        rintro w' ⟨hS, hb⟩
        simp only [effAt]
        simp [go_sem]
        (with_reducible exact effUpon_enter (ret_mono (hleft _ hS) (fun _ h => ⟨hS.below h, hb.trans (h.mono hb.size)⟩)))
      focus exact fun _ h => h
      (focus (first | (apply put_some rfl; focus (conv => lhs; dsimp only [List.set_cons_zero, List.set_cons_succ]) <;> rfl) | exact put_none rfl))
      repeat (first | ((with_reducible apply lexA_q); (focus rfl); (focus rfl); (focus rfl); (focus (intro w' hS; have c1 := (hS.2.cell (p := ⟨ga, o + 1, none⟩) ha).trans C1.out; have hc_r := hS.1.rf.hr.cell; have hc_l := hS.1.rf.hl.cell; rw [HCC.out] at hc_l; simp [go_sem, effAt, ↓IntWalk.iteOmega, *]; (try go_ints); (first | (with_reducible exact effUpon_val) | (with_reducible exact effUpon_skip)))); (focus ((first | (apply put_some rfl; focus (conv => lhs; dsimp only [List.set_cons_zero, List.set_cons_succ]) <;> rfl) | exact put_none rfl)))) | ((with_reducible apply lexA_s); (focus rfl); (focus ((first | (apply put_some rfl; focus (conv => lhs; dsimp only [List.set_cons_zero, List.set_cons_succ]) <;> rfl) | exact put_none rfl)))))
      with_reducible apply lexA_nil
      rintro u2 ⟨hS3, hb3⟩
      clear hS2 hb2 hleft hcount hrcount
      have Fu2 : Below u2.heap.size u2 u2 := Below.refl _ _
      repeat (first | with_reducible apply wpList_nil | ((with_reducible apply region_k); intro KK kk) | with_reducible apply wp_region_lit | ((with_reducible apply seq_k); intro KK kk) | ((with_reducible apply seq_q); (focus (first | exact wanted_none rfl | exact wanted_yes rfl rfl rfl)); (focus (simp [go_sem, effAt, ↓IntWalk.iteOmega, *]; (try go_ints); (first | (with_reducible exact effUpon_val) | (with_reducible exact effUpon_skip)))); (focus ((first | (apply put_some rfl; focus (conv => lhs; dsimp only [List.set_cons_zero, List.set_cons_succ]) <;> rfl) | exact put_none rfl)))) | ((with_reducible apply seq_s); (focus (first | exact wanted_no rfl rfl rfl | exact wanted_undef rfl rfl rfl)); (focus ((first | (apply put_some rfl; focus (conv => lhs; dsimp only [List.set_cons_zero, List.set_cons_succ]) <;> rfl) | exact put_none rfl)))) | with_reducible apply wp_block | with_reducible apply wp_skip | with_reducible apply wp_exit | with_reducible apply wp_ret | ((with_reducible apply wp_cond_true); (focus (first | rfl | (simp [go_sem, *]; done)))) | ((with_reducible apply wp_cond_false); (focus (first | rfl | (simp [go_sem, *]; done)))) | (simp only [Exit.then, Exit.inBlock, ↓reduceIte, Nat.reduceEqDiff]) | ((with_reducible apply kf_out); (focus assumption)))
      refine hK _ _ (Handed.intro (gk - 1) ?measure (hJ _ _ _ ?_))
      rotate_left
      (repeat apply Exists.intro)
      refine ⟨?rel, rfl⟩
      case rel => exact ⟨i + 1, F2, L2, by go_num, by omega, hS3, hb3, hFb2⟩
      case measure => omega
end Go.Proofs.Ytckjgdlceckhpaa
