/- The walk of WheelDue. -/
import Derived.Test.YtckjgdlceckhpaaWa
set_option linter.unusedSimpArgs false
set_option linter.unusedVariables false
namespace Go.Proofs.Ytckjgdlceckhpaa
open Go.RowKit Go.Eff
attribute [local irreducible] Go.wpList
/-- another timer is set: this one stays -/
theorem oset {w0 u : World} {p k id : Nat} {nn : Int} {L : Nat → Nat} (h : WheelN w0 u p L) (hk : k < 256) (hne : k ≠ id) (hn : fitN nn) :
    Calls Try.prog 14 #[ptr p, .int .u8 (k : Int), .int .i64 nn] u (Ret (.int .i64 (if nn < 1 ∨ 65535 < nn then 2 else 0)) fun w' => ∃ L', L' id = L id ∧ WheelN w0 w' p L') := by
  by_cases hb : nn < 1 ∨ 65535 < nn
  · rw [if_pos hb]
    exact ret_mono (set_no p _ nn hb u) fun _ hh => ⟨L, rfl, h.below hh⟩
  · rw [if_neg hb]
    obtain ⟨t, rfl⟩ : ∃ t : Nat, nn = (t : Int) := ⟨nn.toNat, by omega⟩
    exact ret_mono (fset h hk (by omega) (by omega)) fun _ hh => ⟨_, upd_ne _ _ (Ne.symm hne), hh⟩
theorem mem_due {L : Nat → Nat} {id : Nat} (hid : id < 256) : id ∈ dueL L ↔ L id = 1 := by
  unfold dueL
  rw [List.mem_filter, List.mem_range]
  simp only [decide_eq_true_eq]
  exact ⟨fun h => h.2, fun h => ⟨hid, h⟩⟩
set_option maxRecDepth 100000 in
set_option maxHeartbeats 16000000 in
theorem due_any (an id tk : Nat) (v : Value) (l : List Cll) (w : World) (ha8 : an < 256) (hid : id < 256) (htk : tk < 65536) (h : Arg w v l) : Calls Try.prog 4 #[.int .u8 (an : Int), .int .u8 (id : Int), .int .u16 (tk : Int), v] w (Ret (.bool true) (Below w.heap.size w)) := by
  obtain ⟨pa, cap, rfl, hlc, hmax, hc⟩ := h
  obtain ⟨n, hn'⟩ : ∃ n, l.length = n := ⟨_, rfl⟩
  rw [hn'] at hlc ⊢
  have HC := Lib.hid hc
  clear hc
  have a1 : (an : Int) < 256 := by omega
  have a2 : (id : Int) < 256 := by omega
  have a3 : (tk : Int) < 65536 := by omega
  by_cases ht6 : 600 < tk
  case pos =>
    have ht6' : (600 : Int) < (tk : Int) := by omega
    go_enter Try.func4, Try.ntmps4
    have F0 : Below w.heap.size w w := Below.refl _ _
    repeat (first | with_reducible apply wpList_nil | with_reducible apply seq_region | with_reducible apply wp_region_lit | with_reducible apply wp_seq | ((with_reducible apply seq_q); (focus rfl); (focus (simp [go_sem, effAt, ↓IntWalk.iteOmega, *]; (try go_ints); (first | (with_reducible exact effUpon_val) | (with_reducible exact effUpon_skip)))); (focus ((simp only [Act.put, List.setIfInBounds_toArray, List.set_cons_zero, List.set_cons_succ]; rfl)))) | ((with_reducible apply seq_s); (focus rfl); (focus ((simp only [Act.put, List.setIfInBounds_toArray, List.set_cons_zero, List.set_cons_succ]; rfl)))) | with_reducible apply wp_block | with_reducible apply wp_skip | with_reducible apply wp_exit | with_reducible apply wp_ret | ((with_reducible apply wp_cond_true); (focus (first | rfl | (simp [go_sem, *]; done)))) | ((with_reducible apply wp_cond_false); (focus (first | rfl | (simp [go_sem, *]; done)))) | (simp only [Exit.then, Exit.inBlock, ↓reduceIte, Nat.reduceEqDiff]))
    ((with_reducible apply seq_e (Below w.heap.size w)); (focus rfl); (focus (simp only [effAt]; simp [go_sem]; (with_reducible exact effUpon_enter (works_any _)))); (focus ((simp only [Act.put, List.setIfInBounds_toArray, List.set_cons_zero, List.set_cons_succ]; rfl))))
    intro w1 hs
    have Fw1 := F0.trans (hs.mono F0.size)
    clear hs F0
    repeat (first | with_reducible apply wpList_nil | with_reducible apply seq_region | with_reducible apply wp_region_lit | with_reducible apply wp_seq | ((with_reducible apply seq_q); (focus rfl); (focus (simp [go_sem, effAt, ↓IntWalk.iteOmega, *]; (try go_ints); (first | (with_reducible exact effUpon_val) | (with_reducible exact effUpon_skip)))); (focus ((simp only [Act.put, List.setIfInBounds_toArray, List.set_cons_zero, List.set_cons_succ]; rfl)))) | ((with_reducible apply seq_s); (focus rfl); (focus ((simp only [Act.put, List.setIfInBounds_toArray, List.set_cons_zero, List.set_cons_succ]; rfl)))) | with_reducible apply wp_block | with_reducible apply wp_skip | with_reducible apply wp_exit | with_reducible apply wp_ret | ((with_reducible apply wp_cond_true); (focus (first | rfl | (simp [go_sem, *]; done)))) | ((with_reducible apply wp_cond_false); (focus (first | rfl | (simp [go_sem, *]; done)))) | (simp only [Exit.then, Exit.inBlock, ↓reduceIte, Nat.reduceEqDiff]))
    go_ret
    exact ⟨rfl, by assumption⟩
  have ht6' : ¬ (600 : Int) < (tk : Int) := by omega
  have ht6'' : ¬ 600 < tk := ht6
  by_cases hf : (100 : Int) < (n : Int)
  case pos =>
    have b1 : (n : Int) ≤ 9223372036854775807 := by omega
    go_enter Try.func4, Try.ntmps4
    have F0 : Below w.heap.size w w := Below.refl _ _
    repeat (first | with_reducible apply wpList_nil | with_reducible apply seq_region | with_reducible apply wp_region_lit | with_reducible apply wp_seq | ((with_reducible apply seq_q); (focus rfl); (focus (simp [go_sem, effAt, ↓IntWalk.iteOmega, *]; (try go_ints); (first | (with_reducible exact effUpon_val) | (with_reducible exact effUpon_skip)))); (focus ((simp only [Act.put, List.setIfInBounds_toArray, List.set_cons_zero, List.set_cons_succ]; rfl)))) | ((with_reducible apply seq_s); (focus rfl); (focus ((simp only [Act.put, List.setIfInBounds_toArray, List.set_cons_zero, List.set_cons_succ]; rfl)))) | with_reducible apply wp_block | with_reducible apply wp_skip | with_reducible apply wp_exit | with_reducible apply wp_ret | ((with_reducible apply wp_cond_true); (focus (first | rfl | (simp [go_sem, *]; done)))) | ((with_reducible apply wp_cond_false); (focus (first | rfl | (simp [go_sem, *]; done)))) | (simp only [Exit.then, Exit.inBlock, ↓reduceIte, Nat.reduceEqDiff]))
    ((with_reducible apply seq_e (Below w.heap.size w)); (focus rfl); (focus (simp only [effAt]; simp [go_sem]; (with_reducible exact effUpon_enter (works_any _)))); (focus ((simp only [Act.put, List.setIfInBounds_toArray, List.set_cons_zero, List.set_cons_succ]; rfl))))
    intro w2 hs
    have Fw2 := F0.trans (hs.mono F0.size)
    clear hs F0
    repeat (first | with_reducible apply wpList_nil | with_reducible apply seq_region | with_reducible apply wp_region_lit | with_reducible apply wp_seq | ((with_reducible apply seq_q); (focus rfl); (focus (simp [go_sem, effAt, ↓IntWalk.iteOmega, *]; (try go_ints); (first | (with_reducible exact effUpon_val) | (with_reducible exact effUpon_skip)))); (focus ((simp only [Act.put, List.setIfInBounds_toArray, List.set_cons_zero, List.set_cons_succ]; rfl)))) | ((with_reducible apply seq_s); (focus rfl); (focus ((simp only [Act.put, List.setIfInBounds_toArray, List.set_cons_zero, List.set_cons_succ]; rfl)))) | with_reducible apply wp_block | with_reducible apply wp_skip | with_reducible apply wp_exit | with_reducible apply wp_ret | ((with_reducible apply wp_cond_true); (focus (first | rfl | (simp [go_sem, *]; done)))) | ((with_reducible apply wp_cond_false); (focus (first | rfl | (simp [go_sem, *]; done)))) | (simp only [Exit.then, Exit.inBlock, ↓reduceIte, Nat.reduceEqDiff]))
    go_ret
    exact ⟨rfl, by assumption⟩
  have b1 : (n : Int) ≤ 100 := by omega
  have hN1 := fnew (w0 := w) (w := w) (1 + an) (by omega) (by omega) (Below.refl _ _)
  simp only [show ((1 + an : Nat) : Int) = 1 + (an : Int) from Int.natCast_add 1 an] at hN1
  by_cases ht0 : tk = 0
  case pos =>
    subst ht0
    go_enter Try.func4, Try.ntmps4
    have F0 : Below w.heap.size w w := Below.refl _ _
    repeat (first | with_reducible apply wpList_nil | with_reducible apply seq_region | with_reducible apply wp_region_lit | with_reducible apply wp_seq | ((with_reducible apply seq_q); (focus rfl); (focus (simp [go_sem, effAt, ↓IntWalk.iteOmega, *]; (try go_ints); (first | (with_reducible exact effUpon_val) | (with_reducible exact effUpon_skip)))); (focus ((simp only [Act.put, List.setIfInBounds_toArray, List.set_cons_zero, List.set_cons_succ]; rfl)))) | ((with_reducible apply seq_s); (focus rfl); (focus ((simp only [Act.put, List.setIfInBounds_toArray, List.set_cons_zero, List.set_cons_succ]; rfl)))) | with_reducible apply wp_block | with_reducible apply wp_skip | with_reducible apply wp_exit | with_reducible apply wp_ret | ((with_reducible apply wp_cond_true); (focus (first | rfl | (simp [go_sem, *]; done)))) | ((with_reducible apply wp_cond_false); (focus (first | rfl | (simp [go_sem, *]; done)))) | (simp only [Exit.then, Exit.inBlock, ↓reduceIte, Nat.reduceEqDiff]))
    with_reducible apply seq_e (fun w' => WheelN w w' (w.heap.size + 2) (fun _ => 0))
    (focus (first | exact wanted_none rfl | exact wanted_yes rfl rfl rfl))
    (focus (simp only [effAt]; simp [go_sem]; (with_reducible exact effUpon_enter (hN1))))
    (focus ((simp only [Act.put, List.setIfInBounds_toArray, List.set_cons_zero, List.set_cons_succ]; rfl)))
    intro x1 hW
    obtain ⟨p, hp⟩ : ∃ p, w.heap.size + 2 = p := ⟨_, rfl⟩
    rw [hp] at hW ⊢
    clear hp F0 hN1
    have hb1 := hW.2
    have hS := set_no p (id : Int) 0 (.inl (by omega))
    have Fx1 : Below x1.heap.size x1 x1 := Below.refl _ _
    repeat (first | with_reducible apply wpList_nil | with_reducible apply seq_region | with_reducible apply wp_region_lit | with_reducible apply wp_seq | ((with_reducible apply seq_q); (focus rfl); (focus (simp [go_sem, effAt, ↓IntWalk.iteOmega, *]; (try go_ints); (first | (with_reducible exact effUpon_val) | (with_reducible exact effUpon_skip)))); (focus ((simp only [Act.put, List.setIfInBounds_toArray, List.set_cons_zero, List.set_cons_succ]; rfl)))) | ((with_reducible apply seq_s); (focus rfl); (focus ((simp only [Act.put, List.setIfInBounds_toArray, List.set_cons_zero, List.set_cons_succ]; rfl)))) | with_reducible apply wp_block | with_reducible apply wp_skip | with_reducible apply wp_exit | with_reducible apply wp_ret | ((with_reducible apply wp_cond_true); (focus (first | rfl | (simp [go_sem, *]; done)))) | ((with_reducible apply wp_cond_false); (focus (first | rfl | (simp [go_sem, *]; done)))) | (simp only [Exit.then, Exit.inBlock, ↓reduceIte, Nat.reduceEqDiff]))
    ((with_reducible apply seq_e (Below x1.heap.size x1)); (focus rfl); (focus (simp only [effAt]; simp [go_sem]; (with_reducible exact effUpon_enter (hS _)))); (focus ((simp only [Act.put, List.setIfInBounds_toArray, List.set_cons_zero, List.set_cons_succ]; rfl))))
    intro w3 hs
    have Fw3 := Fx1.trans (hs.mono Fx1.size)
    clear hs Fx1
    repeat (first | with_reducible apply wpList_nil | with_reducible apply seq_region | with_reducible apply wp_region_lit | with_reducible apply wp_seq | ((with_reducible apply seq_q); (focus rfl); (focus (simp [go_sem, effAt, ↓IntWalk.iteOmega, *]; (try go_ints); (first | (with_reducible exact effUpon_val) | (with_reducible exact effUpon_skip)))); (focus ((simp only [Act.put, List.setIfInBounds_toArray, List.set_cons_zero, List.set_cons_succ]; rfl)))) | ((with_reducible apply seq_s); (focus rfl); (focus ((simp only [Act.put, List.setIfInBounds_toArray, List.set_cons_zero, List.set_cons_succ]; rfl)))) | with_reducible apply wp_block | with_reducible apply wp_skip | with_reducible apply wp_exit | with_reducible apply wp_ret | ((with_reducible apply wp_cond_true); (focus (first | rfl | (simp [go_sem, *]; done)))) | ((with_reducible apply wp_cond_false); (focus (first | rfl | (simp [go_sem, *]; done)))) | (simp only [Exit.then, Exit.inBlock, ↓reduceIte, Nat.reduceEqDiff]))
    ((with_reducible apply seq_e (Below w3.heap.size w3)); (focus rfl); (focus (simp only [effAt]; simp [go_sem]; (with_reducible exact effUpon_enter (works_any _)))); (focus ((simp only [Act.put, List.setIfInBounds_toArray, List.set_cons_zero, List.set_cons_succ]; rfl))))
    intro w4 hs
    have Fw4 := Fw3.trans (hs.mono Fw3.size)
    clear hs Fw3
    repeat (first | with_reducible apply wpList_nil | with_reducible apply seq_region | with_reducible apply wp_region_lit | with_reducible apply wp_seq | ((with_reducible apply seq_q); (focus rfl); (focus (simp [go_sem, effAt, ↓IntWalk.iteOmega, *]; (try go_ints); (first | (with_reducible exact effUpon_val) | (with_reducible exact effUpon_skip)))); (focus ((simp only [Act.put, List.setIfInBounds_toArray, List.set_cons_zero, List.set_cons_succ]; rfl)))) | ((with_reducible apply seq_s); (focus rfl); (focus ((simp only [Act.put, List.setIfInBounds_toArray, List.set_cons_zero, List.set_cons_succ]; rfl)))) | with_reducible apply wp_block | with_reducible apply wp_skip | with_reducible apply wp_exit | with_reducible apply wp_ret | ((with_reducible apply wp_cond_true); (focus (first | rfl | (simp [go_sem, *]; done)))) | ((with_reducible apply wp_cond_false); (focus (first | rfl | (simp [go_sem, *]; done)))) | (simp only [Exit.then, Exit.inBlock, ↓reduceIte, Nat.reduceEqDiff]))
    go_ret
    exact ⟨rfl, hb1.trans (Below.mono (by assumption) hb1.size)⟩
  have ht1 : 1 ≤ tk := by omega
  have ht1' : 1 ≤ (tk : Int) := by omega
  have ht2' : (tk : Int) ≤ 600 := by omega
  have htz : ((tk : Int) == 0) = false := by simp; omega
  clear ht0 ht6
  go_enter Try.func4, Try.ntmps4
  have F0 : Below w.heap.size w w := Below.refl _ _
  repeat (first | with_reducible apply wpList_nil | with_reducible apply seq_region | with_reducible apply wp_region_lit | with_reducible apply wp_seq | ((with_reducible apply seq_q); (focus rfl); (focus (simp [go_sem, effAt, ↓IntWalk.iteOmega, *]; (try go_ints); (first | (with_reducible exact effUpon_val) | (with_reducible exact effUpon_skip)))); (focus ((simp only [Act.put, List.setIfInBounds_toArray, List.set_cons_zero, List.set_cons_succ]; rfl)))) | ((with_reducible apply seq_s); (focus rfl); (focus ((simp only [Act.put, List.setIfInBounds_toArray, List.set_cons_zero, List.set_cons_succ]; rfl)))) | with_reducible apply wp_block | with_reducible apply wp_skip | with_reducible apply wp_exit | with_reducible apply wp_ret | ((with_reducible apply wp_cond_true); (focus (first | rfl | (simp [go_sem, *]; done)))) | ((with_reducible apply wp_cond_false); (focus (first | rfl | (simp [go_sem, *]; done)))) | (simp only [Exit.then, Exit.inBlock, ↓reduceIte, Nat.reduceEqDiff]))
  with_reducible apply seq_e (fun w' => WheelN w w' (w.heap.size + 2) (fun _ => 0))
  (focus (first | exact wanted_none rfl | exact wanted_yes rfl rfl rfl))
  (focus (simp only [effAt]; simp [go_sem]; (with_reducible exact effUpon_enter (hN1))))
  (focus ((simp only [Act.put, List.setIfInBounds_toArray, List.set_cons_zero, List.set_cons_succ]; rfl)))
  intro x1 hW
  obtain ⟨p, hp⟩ : ∃ p, w.heap.size + 2 = p := ⟨_, rfl⟩
  rw [hp] at hW ⊢
  clear hp F0 hN1
  have Fx1 : Below x1.heap.size x1 x1 := Below.refl _ _
  repeat (first | with_reducible apply wpList_nil | with_reducible apply seq_region | with_reducible apply wp_region_lit | with_reducible apply wp_seq | ((with_reducible apply seq_q); (focus rfl); (focus (simp [go_sem, effAt, ↓IntWalk.iteOmega, *]; (try go_ints); (first | (with_reducible exact effUpon_val) | (with_reducible exact effUpon_skip)))); (focus ((simp only [Act.put, List.setIfInBounds_toArray, List.set_cons_zero, List.set_cons_succ]; rfl)))) | ((with_reducible apply seq_s); (focus rfl); (focus ((simp only [Act.put, List.setIfInBounds_toArray, List.set_cons_zero, List.set_cons_succ]; rfl)))) | with_reducible apply wp_block | with_reducible apply wp_skip | with_reducible apply wp_exit | with_reducible apply wp_ret | ((with_reducible apply wp_cond_true); (focus (first | rfl | (simp [go_sem, *]; done)))) | ((with_reducible apply wp_cond_false); (focus (first | rfl | (simp [go_sem, *]; done)))) | (simp only [Exit.then, Exit.inBlock, ↓reduceIte, Nat.reduceEqDiff]))
  with_reducible apply seq_e (fun w' => WheelN w w' p (upd (fun _ => 0) id tk))
  (focus (first | exact wanted_none rfl | exact wanted_yes rfl rfl rfl))
  (focus (simp only [effAt]; simp [go_sem]; (with_reducible exact effUpon_enter (fset hW hid ht1 (by omega)))))
  (focus ((simp only [Act.put, List.setIfInBounds_toArray, List.set_cons_zero, List.set_cons_succ]; rfl)))
  clear hW
  intro x2 hW
  have Fx2 : Below x2.heap.size x2 x2 := Below.refl _ _
  repeat (first | with_reducible apply wpList_nil | with_reducible apply seq_region | with_reducible apply wp_region_lit | with_reducible apply wp_seq | ((with_reducible apply seq_q); (focus rfl); (focus (simp [go_sem, effAt, ↓IntWalk.iteOmega, *]; (try go_ints); (first | (with_reducible exact effUpon_val) | (with_reducible exact effUpon_skip)))); (focus ((simp only [Act.put, List.setIfInBounds_toArray, List.set_cons_zero, List.set_cons_succ]; rfl)))) | ((with_reducible apply seq_s); (focus rfl); (focus ((simp only [Act.put, List.setIfInBounds_toArray, List.set_cons_zero, List.set_cons_succ]; rfl)))) | with_reducible apply wp_block | with_reducible apply wp_skip | with_reducible apply wp_exit | with_reducible apply wp_ret | ((with_reducible apply wp_cond_true); (focus (first | rfl | (simp [go_sem, *]; done)))) | ((with_reducible apply wp_cond_false); (focus (first | rfl | (simp [go_sem, *]; done)))) | (simp only [Exit.then, Exit.inBlock, ↓reduceIte, Nat.reduceEqDiff]))
  go_loopg [10] 611 (fun q v10 wr => ∃ (i : Nat) (L : Nat → Nat), v10 = .int .i64 ((i : Int) + 1) ∧ i ≤ 610 ∧ 610 ≤ i + q ∧ L id = tk - i ∧ WheelN w wr p L)
  case atStart => exact ⟨0, _, by first | rfl | go_num, by omega, by omega, by rw [upd_same]; rfl, hW⟩
  case round =>
    rename_i OJ OK hOJ hOK
    clear hW
    obtain ⟨i, L, rfl, hi1, hi2, hL, hW⟩ := hrel
    by_cases hlt : i < 610
    case neg =>
      have hlt' : ¬ (i : Int) + 1 ≤ 610 := by omega
      have hb := hW.2
      clear hOJ hOK
      skip
      have Fwr : Below wr.heap.size wr wr := Below.refl _ _
      repeat (first | with_reducible apply wpList_nil | with_reducible apply seq_region | with_reducible apply wp_region_lit | with_reducible apply wp_seq | ((with_reducible apply seq_q); (focus rfl); (focus (simp [go_sem, effAt, ↓IntWalk.iteOmega, *]; (try go_ints); (first | (with_reducible exact effUpon_val) | (with_reducible exact effUpon_skip)))); (focus ((simp only [Act.put, List.setIfInBounds_toArray, List.set_cons_zero, List.set_cons_succ]; rfl)))) | ((with_reducible apply seq_s); (focus rfl); (focus ((simp only [Act.put, List.setIfInBounds_toArray, List.set_cons_zero, List.set_cons_succ]; rfl)))) | with_reducible apply wp_block | with_reducible apply wp_skip | with_reducible apply wp_exit | with_reducible apply wp_ret | ((with_reducible apply wp_cond_true); (focus (first | rfl | (simp [go_sem, *]; done)))) | ((with_reducible apply wp_cond_false); (focus (first | rfl | (simp [go_sem, *]; done)))) | (simp only [Exit.then, Exit.inBlock, ↓reduceIte, Nat.reduceEqDiff]))
      ((with_reducible apply seq_e (Below wr.heap.size wr)); (focus rfl); (focus (simp only [effAt]; simp [go_sem]; (with_reducible exact effUpon_enter (works_any _)))); (focus ((simp only [Act.put, List.setIfInBounds_toArray, List.set_cons_zero, List.set_cons_succ]; rfl))))
      intro w1 hs
      have Fw1 := Fwr.trans (hs.mono Fwr.size)
      clear hs Fwr
      repeat (first | with_reducible apply wpList_nil | with_reducible apply seq_region | with_reducible apply wp_region_lit | with_reducible apply wp_seq | ((with_reducible apply seq_q); (focus rfl); (focus (simp [go_sem, effAt, ↓IntWalk.iteOmega, *]; (try go_ints); (first | (with_reducible exact effUpon_val) | (with_reducible exact effUpon_skip)))); (focus ((simp only [Act.put, List.setIfInBounds_toArray, List.set_cons_zero, List.set_cons_succ]; rfl)))) | ((with_reducible apply seq_s); (focus rfl); (focus ((simp only [Act.put, List.setIfInBounds_toArray, List.set_cons_zero, List.set_cons_succ]; rfl)))) | with_reducible apply wp_block | with_reducible apply wp_skip | with_reducible apply wp_exit | with_reducible apply wp_ret | ((with_reducible apply wp_cond_true); (focus (first | rfl | (simp [go_sem, *]; done)))) | ((with_reducible apply wp_cond_false); (focus (first | rfl | (simp [go_sem, *]; done)))) | (simp only [Exit.then, Exit.inBlock, ↓reduceIte, Nat.reduceEqDiff]))
      go_ret
      exact ⟨rfl, hb.trans (Below.mono (by assumption) hb.size)⟩
    case pos =>
      have hlt' : (i : Int) + 1 ≤ 610 := by omega
      have HOJ := Lib.hid hOJ
      have HOK := Lib.hid hOK
      clear hOJ hOK
      by_cases hin : i < n
      case neg =>
        have hin' : ¬ (i : Int) + 1 ≤ (n : Int) := by omega
        skip
        have Fwr : Below wr.heap.size wr wr := Below.refl _ _
        repeat (first | with_reducible apply wpList_nil | with_reducible apply seq_region | with_reducible apply wp_region_lit | with_reducible apply wp_seq | ((with_reducible apply seq_q); (focus rfl); (focus (simp [go_sem, effAt, ↓IntWalk.iteOmega, *]; (try go_ints); (first | (with_reducible exact effUpon_val) | (with_reducible exact effUpon_skip)))); (focus ((simp only [Act.put, List.setIfInBounds_toArray, List.set_cons_zero, List.set_cons_succ]; rfl)))) | ((with_reducible apply seq_s); (focus rfl); (focus ((simp only [Act.put, List.setIfInBounds_toArray, List.set_cons_zero, List.set_cons_succ]; rfl)))) | with_reducible apply wp_block | with_reducible apply wp_skip | with_reducible apply wp_exit | with_reducible apply wp_ret | ((with_reducible apply wp_cond_true); (focus (first | rfl | (simp [go_sem, *]; done)))) | ((with_reducible apply wp_cond_false); (focus (first | rfl | (simp [go_sem, *]; done)))) | (simp only [Exit.then, Exit.inBlock, ↓reduceIte, Nat.reduceEqDiff]))
        with_reducible refine seq_ev2 (ftick hW) ?hw ?hrun ?_
        case hw => first | exact wanted_none rfl | exact wanted_yes rfl rfl rfl
        case hrun => simp [go_sem]
        clear hW
        rintro v1 u1 ⟨hW1, hD1⟩
        obtain ⟨ao, ca, hv1, hcell⟩ := octs_slice hD1.octs
        rw [List.length_map] at hv1 hcell
        subst hv1
        (with_reducible apply ex_put)
        (focus ((simp only [Act.put, List.setIfInBounds_toArray, List.set_cons_zero, List.set_cons_succ]; rfl)))
        have hdl := dueL_len L
        have hmd := mem_due (L := L) hid
        have hdi : dec L id = tk - (i + 1) := by unfold dec; rw [hL]; omega
        obtain ⟨D, hDD⟩ : ∃ D, dueL L = D := ⟨_, rfl⟩
        rw [hDD] at hdl hmd hcell ⊢
        obtain ⟨dn, hdn⟩ : ∃ x, D.length = x := ⟨_, rfl⟩
        rw [hdn] at hdl hcell ⊢
        have HDN := Lib.hid hdn
        have HCE := Lib.hid hcell
        have HMD := Lib.hid (hmd.trans (by rw [hL]; exact ⟨fun h => by omega, fun h => by omega⟩ : L id = 1 ↔ i + 1 = tk))
        have hdnI : (dn : Int) ≤ 256 := by omega
        obtain ⟨L2, hL2⟩ : ∃ L2, dec L = L2 := ⟨_, rfl⟩
        rw [hL2] at hW1 hdi
        have HDI := Lib.hid hdi
        clear hD1 hmd hDD hdn hcell hL2 hdi hL
        skip
        have Fu1 : Below u1.heap.size u1 u1 := Below.refl _ _
        repeat (first | with_reducible apply wpList_nil | with_reducible apply seq_region | with_reducible apply wp_region_lit | with_reducible apply wp_seq | ((with_reducible apply seq_q); (focus rfl); (focus (simp [go_sem, effAt, ↓IntWalk.iteOmega, *]; (try go_ints); (first | (with_reducible exact effUpon_val) | (with_reducible exact effUpon_skip)))); (focus ((simp only [Act.put, List.setIfInBounds_toArray, List.set_cons_zero, List.set_cons_succ]; rfl)))) | ((with_reducible apply seq_s); (focus rfl); (focus ((simp only [Act.put, List.setIfInBounds_toArray, List.set_cons_zero, List.set_cons_succ]; rfl)))) | with_reducible apply wp_block | with_reducible apply wp_skip | with_reducible apply wp_exit | with_reducible apply wp_ret | ((with_reducible apply wp_cond_true); (focus (first | rfl | (simp [go_sem, *]; done)))) | ((with_reducible apply wp_cond_false); (focus (first | rfl | (simp [go_sem, *]; done)))) | (simp only [Exit.then, Exit.inBlock, ↓reduceIte, Nat.reduceEqDiff]))
        go_loopg [11, 13] dn (fun q v11 v13 wr => ∃ j : Nat, v13 = .int .i64 (j : Int) ∧ v11 = .bool (decide (id ∈ D.take j)) ∧ j + q = dn ∧ WheelN w wr p L2 ∧ Below u1.heap.size u1 wr)
        case atStart => exact ⟨0, rfl, by simp, by omega, hW1, Below.refl _ _⟩
        case round =>
          rename_i J K hJ hK
          clear hW1
          obtain ⟨j, rfl, rfl, hj, hW1, hb1⟩ := hrel
          by_cases hlt2 : j < dn
          case neg =>
            obtain rfl : j = dn := by omega
            have hlt2' : ¬ (j : Int) < (j : Int) := by omega
            have hE : (((i : Int) + 1) == (tk : Int)) = decide (id ∈ D.take j) := by
              rw [← HDN.out, List.take_length]
              have := HMD.out
              by_cases he : i + 1 = tk
              · rw [decide_eq_true (this.2 he)]; simp; omega
              · rw [decide_eq_false (fun h => he (this.1 h))]; simp; omega
            obtain ⟨e, he⟩ : ∃ e, decide (id ∈ D.take j) = e := ⟨_, rfl⟩
            rw [he] at hE ⊢
            obtain ⟨m2, hm2⟩ : ∃ m, tk - (i + 1) = m := ⟨_, rfl⟩
            have hmx1 : max 0 ((tk : Int) - ((i : Int) + 1)) = (m2 : Int) := by omega
            have hmx2 : (if (i : Int) + 1 < (tk : Int) then (tk : Int) - ((i : Int) + 1) else 0) = (m2 : Int) := by split <;> omega
            have hlf := fleft (k := id) hW1
            rw [HDI.out, hm2] at hlf
            have hm2I : (m2 : Int) ≤ 600 := by omega
            clear hJ hK he
            skip
            have Fwr : Below wr.heap.size wr wr := Below.refl _ _
            repeat (first | with_reducible apply wpList_nil | with_reducible apply seq_region | with_reducible apply wp_region_lit | with_reducible apply wp_seq | ((with_reducible apply seq_q); (focus rfl); (focus (simp [go_sem, effAt, ↓IntWalk.iteOmega, *]; (try go_ints); (first | (with_reducible exact effUpon_val) | (with_reducible exact effUpon_skip)))); (focus ((simp only [Act.put, List.setIfInBounds_toArray, List.set_cons_zero, List.set_cons_succ]; rfl)))) | ((with_reducible apply seq_s); (focus rfl); (focus ((simp only [Act.put, List.setIfInBounds_toArray, List.set_cons_zero, List.set_cons_succ]; rfl)))) | with_reducible apply wp_block | with_reducible apply wp_skip | with_reducible apply wp_exit | with_reducible apply wp_ret | ((with_reducible apply wp_cond_true); (focus (first | rfl | (simp [go_sem, *]; done)))) | ((with_reducible apply wp_cond_false); (focus (first | rfl | (simp [go_sem, *]; done)))) | (simp only [Exit.then, Exit.inBlock, ↓reduceIte, Nat.reduceEqDiff]))
            with_reducible apply seq_e (fun w' => WheelN w w' p L2 ∧ Below wr.heap.size wr w')
            (focus (first | exact wanted_none rfl | exact wanted_yes rfl rfl rfl))
            (focus (simp only [effAt]; simp [go_sem]; (with_reducible exact effUpon_enter (hlf))))
            (focus ((simp only [Act.put, List.setIfInBounds_toArray, List.set_cons_zero, List.set_cons_succ]; rfl)))
            rintro u3 ⟨hW3, _⟩
            clear hW1 hlf hb1
            have Fu3 : Below u3.heap.size u3 u3 := Below.refl _ _
            repeat (first | with_reducible apply wpList_nil | with_reducible apply seq_region | with_reducible apply wp_region_lit | with_reducible apply wp_seq | ((with_reducible apply seq_q); (focus rfl); (focus (simp [go_sem, effAt, ↓IntWalk.iteOmega, *]; (try go_ints); (first | (with_reducible exact effUpon_val) | (with_reducible exact effUpon_skip)))); (focus ((simp only [Act.put, List.setIfInBounds_toArray, List.set_cons_zero, List.set_cons_succ]; rfl)))) | ((with_reducible apply seq_s); (focus rfl); (focus ((simp only [Act.put, List.setIfInBounds_toArray, List.set_cons_zero, List.set_cons_succ]; rfl)))) | with_reducible apply wp_block | with_reducible apply wp_skip | with_reducible apply wp_exit | with_reducible apply wp_ret | ((with_reducible apply wp_cond_true); (focus (first | rfl | (simp [go_sem, *]; done)))) | ((with_reducible apply wp_cond_false); (focus (first | rfl | (simp [go_sem, *]; done)))) | (simp only [Exit.then, Exit.inBlock, ↓reduceIte, Nat.reduceEqDiff]))
            refine HOK.out _ _ (Handed.intro (610 - (i + 1)) ?measure (HOJ.out _ _ _ ?_))
            rotate_left
            (repeat apply Exists.intro)
            refine ⟨?rel, rfl⟩
            case rel => exact ⟨i + 1, L2, by go_num, by omega, by omega, HDI.out, hW3⟩
            case measure => omega
          case pos =>
            have hlt2' : (j : Int) < (dn : Int) := by omega
            obtain ⟨g, pad, rfl, hB_d⟩ := HCE.out j (by omega)
            replace hB_d := hB_d.below hb1 hB_d.lt
            obtain ⟨k, hk⟩ : ∃ k, D[j]? = some k := ⟨_, List.getElem?_eq_getElem (by have := HDN.out; omega)⟩
            have ec := cellsS_get (d := (D.map fun (k : Nat) => (k : Int)).toArray) (i := j) (x := (k : Int)) pad (by have := HDN.out; simp; omega) (by
              have hi2 : j < D.length := by have := HDN.out; omega
              rw [List.getElem?_eq_getElem hi2] at hk
              injection hk with hk
              rw [getElem!_pos _ j (by simpa using hi2)]
              simp [hk])
            have htn := take_next hk
            obtain ⟨cl, hcl⟩ : ∃ cl, cellsS pad (D.map fun (k : Nat) => (k : Int)).toArray = cl := ⟨_, rfl⟩
            unfold SB at hB_d
            rw [hcl] at ec hB_d
            clear hk hcl
            by_cases hb : id ∈ D.take j
            case pos =>
              have hn : decide (id ∈ D.take (j + 1)) = true := by rw [htn]; simp [hb]
              rw [decide_eq_true hb]
              have HN9 := Lib.hid hn
              clear hb hn htn
              skip
              have Fwr : Below wr.heap.size wr wr := Below.refl _ _
              have hc_d := hB_d.cell
              repeat (first | with_reducible apply wpList_nil | with_reducible apply seq_region | with_reducible apply wp_region_lit | with_reducible apply wp_seq | ((with_reducible apply seq_q); (focus rfl); (focus (simp [go_sem, effAt, ↓IntWalk.iteOmega, *]; (try go_ints); (first | (with_reducible exact effUpon_val) | (with_reducible exact effUpon_skip)))); (focus ((simp only [Act.put, List.setIfInBounds_toArray, List.set_cons_zero, List.set_cons_succ]; rfl)))) | ((with_reducible apply seq_s); (focus rfl); (focus ((simp only [Act.put, List.setIfInBounds_toArray, List.set_cons_zero, List.set_cons_succ]; rfl)))) | with_reducible apply wp_block | with_reducible apply wp_skip | with_reducible apply wp_exit | with_reducible apply wp_ret | ((with_reducible apply wp_cond_true); (focus (first | rfl | (simp [go_sem, *]; done)))) | ((with_reducible apply wp_cond_false); (focus (first | rfl | (simp [go_sem, *]; done)))) | (simp only [Exit.then, Exit.inBlock, ↓reduceIte, Nat.reduceEqDiff]))
              refine hK _ _ (Handed.intro (gk - 1) ?measure (hJ _ _ _ ?_))
              rotate_left
              (repeat apply Exists.intro)
              refine ⟨?rel, rfl⟩
              case rel => exact ⟨j + 1, by go_num, by rw [HN9.out], by omega, hW1, hb1⟩
              case measure => omega
            case neg =>
              have hn : decide (id ∈ D.take (j + 1)) = ((k : Int) == (id : Int)) := by
                rw [htn]
                by_cases hkk : k = id
                · subst hkk; simp
                · have : ((k : Int) == (id : Int)) = false := by simp; omega
                  rw [this]
                  simp [hb, Ne.symm hkk]
              rw [decide_eq_false hb]
              obtain ⟨ee, hee⟩ : ∃ ee, ((k : Int) == (id : Int)) = ee := ⟨_, rfl⟩
              rw [hee] at hn
              have HN9 := Lib.hid hn
              clear hb hn htn
              skip
              have Fwr : Below wr.heap.size wr wr := Below.refl _ _
              have hc_d := hB_d.cell
              repeat (first | with_reducible apply wpList_nil | with_reducible apply seq_region | with_reducible apply wp_region_lit | with_reducible apply wp_seq | ((with_reducible apply seq_q); (focus rfl); (focus (simp [go_sem, effAt, ↓IntWalk.iteOmega, *]; (try go_ints); (first | (with_reducible exact effUpon_val) | (with_reducible exact effUpon_skip)))); (focus ((simp only [Act.put, List.setIfInBounds_toArray, List.set_cons_zero, List.set_cons_succ]; rfl)))) | ((with_reducible apply seq_s); (focus rfl); (focus ((simp only [Act.put, List.setIfInBounds_toArray, List.set_cons_zero, List.set_cons_succ]; rfl)))) | with_reducible apply wp_block | with_reducible apply wp_skip | with_reducible apply wp_exit | with_reducible apply wp_ret | ((with_reducible apply wp_cond_true); (focus (first | rfl | (simp [go_sem, *]; done)))) | ((with_reducible apply wp_cond_false); (focus (first | rfl | (simp [go_sem, *]; done)))) | (simp only [Exit.then, Exit.inBlock, ↓reduceIte, Nat.reduceEqDiff]))
              refine hK _ _ (Handed.intro (gk - 1) ?measure (hJ _ _ _ ?_))
              rotate_left
              (repeat apply Exists.intro)
              refine ⟨?rel, rfl⟩
              case rel => exact ⟨j + 1, by go_num, by rw [HN9.out], by omega, hW1, hb1⟩
              case measure => omega
      case pos =>
        have hin' : (i : Int) + 1 ≤ (n : Int) := by omega
        obtain ⟨c, hce⟩ : ∃ c, l[i]? = some c := ⟨_, List.getElem?_eq_getElem (by omega)⟩
        obtain ⟨a, ga, o, rfl, hao, hag, c0, c1, c2, d1, d2, d3⟩ := HC.out i c hce
        clear hce
        obtain ⟨d, id2, nn⟩ := c
        dsimp only at c0 c1 c2 d1 d2 d3
        have C0 := Lib.hid c0
        have C1 := Lib.hid c1
        have C2 := Lib.hid c2
        clear c0 c1 c2
        have hb := hW.2
        have c0 := (hb.cell (p := ⟨ga, o, none⟩) hag).trans C0.out
        have c1 := (hb.cell (p := ⟨ga, o + 1, none⟩) hag).trans C1.out
        by_cases hsame : id2 = id
        case pos =>
          have hs9 := hsame.symm
          subst hs9
          clear hsame
          skip
          have Fwr : Below wr.heap.size wr wr := Below.refl _ _
          repeat (first | with_reducible apply wpList_nil | with_reducible apply seq_region | with_reducible apply wp_region_lit | with_reducible apply wp_seq | ((with_reducible apply seq_q); (focus rfl); (focus (simp [go_sem, effAt, ↓IntWalk.iteOmega, *]; (try go_ints); (first | (with_reducible exact effUpon_val) | (with_reducible exact effUpon_skip)))); (focus ((simp only [Act.put, List.setIfInBounds_toArray, List.set_cons_zero, List.set_cons_succ]; rfl)))) | ((with_reducible apply seq_s); (focus rfl); (focus ((simp only [Act.put, List.setIfInBounds_toArray, List.set_cons_zero, List.set_cons_succ]; rfl)))) | with_reducible apply wp_block | with_reducible apply wp_skip | with_reducible apply wp_exit | with_reducible apply wp_ret | ((with_reducible apply wp_cond_true); (focus (first | rfl | (simp [go_sem, *]; done)))) | ((with_reducible apply wp_cond_false); (focus (first | rfl | (simp [go_sem, *]; done)))) | (simp only [Exit.then, Exit.inBlock, ↓reduceIte, Nat.reduceEqDiff]))
          clear c0 c1 hb
          with_reducible refine seq_ev2 (ftick hW) ?hw ?hrun ?_
          case hw => first | exact wanted_none rfl | exact wanted_yes rfl rfl rfl
          case hrun => simp [go_sem]
          clear hW
          rintro v1 u1 ⟨hW1, hD1⟩
          obtain ⟨ao, ca, hv1, hcell⟩ := octs_slice hD1.octs
          rw [List.length_map] at hv1 hcell
          subst hv1
          (with_reducible apply ex_put)
          (focus ((simp only [Act.put, List.setIfInBounds_toArray, List.set_cons_zero, List.set_cons_succ]; rfl)))
          have hdl := dueL_len L
          have hmd := mem_due (L := L) hid
          have hdi : dec L id = tk - (i + 1) := by unfold dec; rw [hL]; omega
          obtain ⟨D, hDD⟩ : ∃ D, dueL L = D := ⟨_, rfl⟩
          rw [hDD] at hdl hmd hcell ⊢
          obtain ⟨dn, hdn⟩ : ∃ x, D.length = x := ⟨_, rfl⟩
          rw [hdn] at hdl hcell ⊢
          have HDN := Lib.hid hdn
          have HCE := Lib.hid hcell
          have HMD := Lib.hid (hmd.trans (by rw [hL]; exact ⟨fun h => by omega, fun h => by omega⟩ : L id = 1 ↔ i + 1 = tk))
          have hdnI : (dn : Int) ≤ 256 := by omega
          obtain ⟨L2, hL2⟩ : ∃ L2, dec L = L2 := ⟨_, rfl⟩
          rw [hL2] at hW1 hdi
          have HDI := Lib.hid hdi
          clear hD1 hmd hDD hdn hcell hL2 hdi hL
          skip
          have Fu1 : Below u1.heap.size u1 u1 := Below.refl _ _
          repeat (first | with_reducible apply wpList_nil | with_reducible apply seq_region | with_reducible apply wp_region_lit | with_reducible apply wp_seq | ((with_reducible apply seq_q); (focus rfl); (focus (simp [go_sem, effAt, ↓IntWalk.iteOmega, *]; (try go_ints); (first | (with_reducible exact effUpon_val) | (with_reducible exact effUpon_skip)))); (focus ((simp only [Act.put, List.setIfInBounds_toArray, List.set_cons_zero, List.set_cons_succ]; rfl)))) | ((with_reducible apply seq_s); (focus rfl); (focus ((simp only [Act.put, List.setIfInBounds_toArray, List.set_cons_zero, List.set_cons_succ]; rfl)))) | with_reducible apply wp_block | with_reducible apply wp_skip | with_reducible apply wp_exit | with_reducible apply wp_ret | ((with_reducible apply wp_cond_true); (focus (first | rfl | (simp [go_sem, *]; done)))) | ((with_reducible apply wp_cond_false); (focus (first | rfl | (simp [go_sem, *]; done)))) | (simp only [Exit.then, Exit.inBlock, ↓reduceIte, Nat.reduceEqDiff]))
          go_loopg [11, 13] dn (fun q v11 v13 wr => ∃ j : Nat, v13 = .int .i64 (j : Int) ∧ v11 = .bool (decide (id ∈ D.take j)) ∧ j + q = dn ∧ WheelN w wr p L2 ∧ Below u1.heap.size u1 wr)
          case atStart => exact ⟨0, rfl, by simp, by omega, hW1, Below.refl _ _⟩
          case round =>
            rename_i J K hJ hK
            clear hW1
            obtain ⟨j, rfl, rfl, hj, hW1, hb1⟩ := hrel
            by_cases hlt2 : j < dn
            case neg =>
              obtain rfl : j = dn := by omega
              have hlt2' : ¬ (j : Int) < (j : Int) := by omega
              have hE : (((i : Int) + 1) == (tk : Int)) = decide (id ∈ D.take j) := by
                rw [← HDN.out, List.take_length]
                have := HMD.out
                by_cases he : i + 1 = tk
                · rw [decide_eq_true (this.2 he)]; simp; omega
                · rw [decide_eq_false (fun h => he (this.1 h))]; simp; omega
              obtain ⟨e, he⟩ : ∃ e, decide (id ∈ D.take j) = e := ⟨_, rfl⟩
              rw [he] at hE ⊢
              obtain ⟨m2, hm2⟩ : ∃ m, tk - (i + 1) = m := ⟨_, rfl⟩
              have hmx1 : max 0 ((tk : Int) - ((i : Int) + 1)) = (m2 : Int) := by omega
              have hmx2 : (if (i : Int) + 1 < (tk : Int) then (tk : Int) - ((i : Int) + 1) else 0) = (m2 : Int) := by split <;> omega
              have hlf := fleft (k := id) hW1
              rw [HDI.out, hm2] at hlf
              have hm2I : (m2 : Int) ≤ 600 := by omega
              clear hJ hK he
              skip
              have Fwr : Below wr.heap.size wr wr := Below.refl _ _
              repeat (first | with_reducible apply wpList_nil | with_reducible apply seq_region | with_reducible apply wp_region_lit | with_reducible apply wp_seq | ((with_reducible apply seq_q); (focus rfl); (focus (simp [go_sem, effAt, ↓IntWalk.iteOmega, *]; (try go_ints); (first | (with_reducible exact effUpon_val) | (with_reducible exact effUpon_skip)))); (focus ((simp only [Act.put, List.setIfInBounds_toArray, List.set_cons_zero, List.set_cons_succ]; rfl)))) | ((with_reducible apply seq_s); (focus rfl); (focus ((simp only [Act.put, List.setIfInBounds_toArray, List.set_cons_zero, List.set_cons_succ]; rfl)))) | with_reducible apply wp_block | with_reducible apply wp_skip | with_reducible apply wp_exit | with_reducible apply wp_ret | ((with_reducible apply wp_cond_true); (focus (first | rfl | (simp [go_sem, *]; done)))) | ((with_reducible apply wp_cond_false); (focus (first | rfl | (simp [go_sem, *]; done)))) | (simp only [Exit.then, Exit.inBlock, ↓reduceIte, Nat.reduceEqDiff]))
              with_reducible apply seq_e (fun w' => WheelN w w' p L2 ∧ Below wr.heap.size wr w')
              (focus (first | exact wanted_none rfl | exact wanted_yes rfl rfl rfl))
              (focus (simp only [effAt]; simp [go_sem]; (with_reducible exact effUpon_enter (hlf))))
              (focus ((simp only [Act.put, List.setIfInBounds_toArray, List.set_cons_zero, List.set_cons_succ]; rfl)))
              rintro u3 ⟨hW3, _⟩
              clear hW1 hlf hb1
              have Fu3 : Below u3.heap.size u3 u3 := Below.refl _ _
              repeat (first | with_reducible apply wpList_nil | with_reducible apply seq_region | with_reducible apply wp_region_lit | with_reducible apply wp_seq | ((with_reducible apply seq_q); (focus rfl); (focus (simp [go_sem, effAt, ↓IntWalk.iteOmega, *]; (try go_ints); (first | (with_reducible exact effUpon_val) | (with_reducible exact effUpon_skip)))); (focus ((simp only [Act.put, List.setIfInBounds_toArray, List.set_cons_zero, List.set_cons_succ]; rfl)))) | ((with_reducible apply seq_s); (focus rfl); (focus ((simp only [Act.put, List.setIfInBounds_toArray, List.set_cons_zero, List.set_cons_succ]; rfl)))) | with_reducible apply wp_block | with_reducible apply wp_skip | with_reducible apply wp_exit | with_reducible apply wp_ret | ((with_reducible apply wp_cond_true); (focus (first | rfl | (simp [go_sem, *]; done)))) | ((with_reducible apply wp_cond_false); (focus (first | rfl | (simp [go_sem, *]; done)))) | (simp only [Exit.then, Exit.inBlock, ↓reduceIte, Nat.reduceEqDiff]))
              refine HOK.out _ _ (Handed.intro (610 - (i + 1)) ?measure (HOJ.out _ _ _ ?_))
              rotate_left
              (repeat apply Exists.intro)
              refine ⟨?rel, rfl⟩
              case rel => exact ⟨i + 1, L2, by go_num, by omega, by omega, HDI.out, hW3⟩
              case measure => omega
            case pos =>
              have hlt2' : (j : Int) < (dn : Int) := by omega
              obtain ⟨g, pad, rfl, hB_d⟩ := HCE.out j (by omega)
              replace hB_d := hB_d.below hb1 hB_d.lt
              obtain ⟨k, hk⟩ : ∃ k, D[j]? = some k := ⟨_, List.getElem?_eq_getElem (by have := HDN.out; omega)⟩
              have ec := cellsS_get (d := (D.map fun (k : Nat) => (k : Int)).toArray) (i := j) (x := (k : Int)) pad (by have := HDN.out; simp; omega) (by
                have hi2 : j < D.length := by have := HDN.out; omega
                rw [List.getElem?_eq_getElem hi2] at hk
                injection hk with hk
                rw [getElem!_pos _ j (by simpa using hi2)]
                simp [hk])
              have htn := take_next hk
              obtain ⟨cl, hcl⟩ : ∃ cl, cellsS pad (D.map fun (k : Nat) => (k : Int)).toArray = cl := ⟨_, rfl⟩
              unfold SB at hB_d
              rw [hcl] at ec hB_d
              clear hk hcl
              by_cases hb : id ∈ D.take j
              case pos =>
                have hn : decide (id ∈ D.take (j + 1)) = true := by rw [htn]; simp [hb]
                rw [decide_eq_true hb]
                have HN9 := Lib.hid hn
                clear hb hn htn
                skip
                have Fwr : Below wr.heap.size wr wr := Below.refl _ _
                have hc_d := hB_d.cell
                repeat (first | with_reducible apply wpList_nil | with_reducible apply seq_region | with_reducible apply wp_region_lit | with_reducible apply wp_seq | ((with_reducible apply seq_q); (focus rfl); (focus (simp [go_sem, effAt, ↓IntWalk.iteOmega, *]; (try go_ints); (first | (with_reducible exact effUpon_val) | (with_reducible exact effUpon_skip)))); (focus ((simp only [Act.put, List.setIfInBounds_toArray, List.set_cons_zero, List.set_cons_succ]; rfl)))) | ((with_reducible apply seq_s); (focus rfl); (focus ((simp only [Act.put, List.setIfInBounds_toArray, List.set_cons_zero, List.set_cons_succ]; rfl)))) | with_reducible apply wp_block | with_reducible apply wp_skip | with_reducible apply wp_exit | with_reducible apply wp_ret | ((with_reducible apply wp_cond_true); (focus (first | rfl | (simp [go_sem, *]; done)))) | ((with_reducible apply wp_cond_false); (focus (first | rfl | (simp [go_sem, *]; done)))) | (simp only [Exit.then, Exit.inBlock, ↓reduceIte, Nat.reduceEqDiff]))
                refine hK _ _ (Handed.intro (gk - 1) ?measure (hJ _ _ _ ?_))
                rotate_left
                (repeat apply Exists.intro)
                refine ⟨?rel, rfl⟩
                case rel => exact ⟨j + 1, by go_num, by rw [HN9.out], by omega, hW1, hb1⟩
                case measure => omega
              case neg =>
                have hn : decide (id ∈ D.take (j + 1)) = ((k : Int) == (id : Int)) := by
                  rw [htn]
                  by_cases hkk : k = id
                  · subst hkk; simp
                  · have : ((k : Int) == (id : Int)) = false := by simp; omega
                    rw [this]
                    simp [hb, Ne.symm hkk]
                rw [decide_eq_false hb]
                obtain ⟨ee, hee⟩ : ∃ ee, ((k : Int) == (id : Int)) = ee := ⟨_, rfl⟩
                rw [hee] at hn
                have HN9 := Lib.hid hn
                clear hb hn htn
                skip
                have Fwr : Below wr.heap.size wr wr := Below.refl _ _
                have hc_d := hB_d.cell
                repeat (first | with_reducible apply wpList_nil | with_reducible apply seq_region | with_reducible apply wp_region_lit | with_reducible apply wp_seq | ((with_reducible apply seq_q); (focus rfl); (focus (simp [go_sem, effAt, ↓IntWalk.iteOmega, *]; (try go_ints); (first | (with_reducible exact effUpon_val) | (with_reducible exact effUpon_skip)))); (focus ((simp only [Act.put, List.setIfInBounds_toArray, List.set_cons_zero, List.set_cons_succ]; rfl)))) | ((with_reducible apply seq_s); (focus rfl); (focus ((simp only [Act.put, List.setIfInBounds_toArray, List.set_cons_zero, List.set_cons_succ]; rfl)))) | with_reducible apply wp_block | with_reducible apply wp_skip | with_reducible apply wp_exit | with_reducible apply wp_ret | ((with_reducible apply wp_cond_true); (focus (first | rfl | (simp [go_sem, *]; done)))) | ((with_reducible apply wp_cond_false); (focus (first | rfl | (simp [go_sem, *]; done)))) | (simp only [Exit.then, Exit.inBlock, ↓reduceIte, Nat.reduceEqDiff]))
                refine hK _ _ (Handed.intro (gk - 1) ?measure (hJ _ _ _ ?_))
                rotate_left
                (repeat apply Exists.intro)
                refine ⟨?rel, rfl⟩
                case rel => exact ⟨j + 1, by go_num, by rw [HN9.out], by omega, hW1, hb1⟩
                case measure => omega
        case neg =>
          have hne : ((id2 : Int) != (id : Int)) = true := by simp; omega
          obtain ⟨m, hm⟩ : ∃ m, d % 5 = m := ⟨_, rfl⟩
          have hmI : Int.tmod (d : Int) 5 = (m : Int) := by rw [← hm]; rfl
          have hdI : (d : Int) < 256 := by omega
          have hidI : (id2 : Int) < 256 := by omega
          have hm5 : (m : Int) < 5 := by omega
          clear hm
          by_cases hm0 : m = 0
          case pos =>
            subst hm0
            have hos := fun (u : World) (h : WheelN w u p L) => oset h d2 hsame d3
            obtain ⟨rv, hrv⟩ : ∃ rv : Int, (if nn < 1 ∨ 65535 < nn then 2 else 0) = rv := ⟨_, rfl⟩
            rw [hrv] at hos
            clear hrv
            skip
            have Fwr : Below wr.heap.size wr wr := Below.refl _ _
            repeat (first | with_reducible apply wpList_nil | with_reducible apply seq_region | with_reducible apply wp_region_lit | with_reducible apply wp_seq | ((with_reducible apply seq_q); (focus rfl); (focus (simp [go_sem, effAt, ↓IntWalk.iteOmega, *]; (try go_ints); (first | (with_reducible exact effUpon_val) | (with_reducible exact effUpon_skip)))); (focus ((simp only [Act.put, List.setIfInBounds_toArray, List.set_cons_zero, List.set_cons_succ]; rfl)))) | ((with_reducible apply seq_s); (focus rfl); (focus ((simp only [Act.put, List.setIfInBounds_toArray, List.set_cons_zero, List.set_cons_succ]; rfl)))) | with_reducible apply wp_block | with_reducible apply wp_skip | with_reducible apply wp_exit | with_reducible apply wp_ret | ((with_reducible apply wp_cond_true); (focus (first | rfl | (simp [go_sem, *]; done)))) | ((with_reducible apply wp_cond_false); (focus (first | rfl | (simp [go_sem, *]; done)))) | (simp only [Exit.then, Exit.inBlock, ↓reduceIte, Nat.reduceEqDiff]))
            refine wp_region_eff (S := Below w.heap.size w) (I := (· = World.drew wr)) (E := fun i => [13].contains i) (by kernel_rfl) (by kernel_rfl) rfl (fun _ h => by subst h; exact hb.drew) ?_
            repeat (first | ((with_reducible apply lex_q); (focus rfl); (focus rfl); (focus (intro w' hS; have c1 := (hS.cell (p := ⟨ga, o + 1, none⟩) hag).trans C1.out; have c2 := (hS.cell (p := ⟨ga, o + 2, none⟩) hag).trans C2.out; simp [go_sem, effAt, ↓IntWalk.iteOmega, *]; (try go_ints); (first | (with_reducible exact effUpon_val) | (with_reducible exact effUpon_skip)))); (focus ((simp only [Act.put, List.setIfInBounds_toArray, List.set_cons_zero, List.set_cons_succ]; rfl)))) | ((with_reducible apply lex_s); (focus rfl); (focus ((simp only [Act.put, List.setIfInBounds_toArray, List.set_cons_zero, List.set_cons_succ]; rfl)))))
            with_reducible apply lex_e (fun w' => ∃ L', L' id = L id ∧ WheelN w w' p L')
            (focus (first | exact wanted_none rfl | exact wanted_yes rfl rfl rfl))
            focus rfl
            focus
              intro w' hw
              subst hw
              simp only [effAt]
              simp [go_sem]
              (with_reducible exact effUpon_enter (hos _ (hW.below (Below.refl _ _).drew)))
            focus
              rintro w' ⟨_, _, h⟩
              exact h.2
            (focus (first | (apply put_some rfl; focus (conv => lhs; dsimp only [List.set_cons_zero, List.set_cons_succ]) <;> rfl) | exact put_none rfl))
            with_reducible apply lex_nil
            rintro x3 ⟨L9, hL9, hW9⟩
            rw [hL] at hL9
            clear c0 c1 hb hW hL hos
            have hW := hW9
            have hL := hL9
            clear hW9 hL9
            skip
            have Fx3 : Below x3.heap.size x3 x3 := Below.refl _ _
            repeat (first | with_reducible apply wpList_nil | with_reducible apply seq_region | with_reducible apply wp_region_lit | with_reducible apply wp_seq | ((with_reducible apply seq_q); (focus rfl); (focus (simp [go_sem, effAt, ↓IntWalk.iteOmega, *]; (try go_ints); (first | (with_reducible exact effUpon_val) | (with_reducible exact effUpon_skip)))); (focus ((simp only [Act.put, List.setIfInBounds_toArray, List.set_cons_zero, List.set_cons_succ]; rfl)))) | ((with_reducible apply seq_s); (focus rfl); (focus ((simp only [Act.put, List.setIfInBounds_toArray, List.set_cons_zero, List.set_cons_succ]; rfl)))) | with_reducible apply wp_block | with_reducible apply wp_skip | with_reducible apply wp_exit | with_reducible apply wp_ret | ((with_reducible apply wp_cond_true); (focus (first | rfl | (simp [go_sem, *]; done)))) | ((with_reducible apply wp_cond_false); (focus (first | rfl | (simp [go_sem, *]; done)))) | (simp only [Exit.then, Exit.inBlock, ↓reduceIte, Nat.reduceEqDiff]))
            with_reducible refine seq_ev2 (ftick hW) ?hw ?hrun ?_
            case hw => first | exact wanted_none rfl | exact wanted_yes rfl rfl rfl
            case hrun => simp [go_sem]
            clear hW
            rintro v1 u1 ⟨hW1, hD1⟩
            obtain ⟨ao, ca, hv1, hcell⟩ := octs_slice hD1.octs
            rw [List.length_map] at hv1 hcell
            subst hv1
            (with_reducible apply ex_put)
            (focus ((simp only [Act.put, List.setIfInBounds_toArray, List.set_cons_zero, List.set_cons_succ]; rfl)))
            have hdl := dueL_len L9
            have hmd := mem_due (L := L9) hid
            have hdi : dec L9 id = tk - (i + 1) := by unfold dec; rw [hL]; omega
            obtain ⟨D, hDD⟩ : ∃ D, dueL L9 = D := ⟨_, rfl⟩
            rw [hDD] at hdl hmd hcell ⊢
            obtain ⟨dn, hdn⟩ : ∃ x, D.length = x := ⟨_, rfl⟩
            rw [hdn] at hdl hcell ⊢
            have HDN := Lib.hid hdn
            have HCE := Lib.hid hcell
            have HMD := Lib.hid (hmd.trans (by rw [hL]; exact ⟨fun h => by omega, fun h => by omega⟩ : L9 id = 1 ↔ i + 1 = tk))
            have hdnI : (dn : Int) ≤ 256 := by omega
            obtain ⟨L2, hL2⟩ : ∃ L2, dec L9 = L2 := ⟨_, rfl⟩
            rw [hL2] at hW1 hdi
            have HDI := Lib.hid hdi
            clear hD1 hmd hDD hdn hcell hL2 hdi hL
            skip
            have Fu1 : Below u1.heap.size u1 u1 := Below.refl _ _
            repeat (first | with_reducible apply wpList_nil | with_reducible apply seq_region | with_reducible apply wp_region_lit | with_reducible apply wp_seq | ((with_reducible apply seq_q); (focus rfl); (focus (simp [go_sem, effAt, ↓IntWalk.iteOmega, *]; (try go_ints); (first | (with_reducible exact effUpon_val) | (with_reducible exact effUpon_skip)))); (focus ((simp only [Act.put, List.setIfInBounds_toArray, List.set_cons_zero, List.set_cons_succ]; rfl)))) | ((with_reducible apply seq_s); (focus rfl); (focus ((simp only [Act.put, List.setIfInBounds_toArray, List.set_cons_zero, List.set_cons_succ]; rfl)))) | with_reducible apply wp_block | with_reducible apply wp_skip | with_reducible apply wp_exit | with_reducible apply wp_ret | ((with_reducible apply wp_cond_true); (focus (first | rfl | (simp [go_sem, *]; done)))) | ((with_reducible apply wp_cond_false); (focus (first | rfl | (simp [go_sem, *]; done)))) | (simp only [Exit.then, Exit.inBlock, ↓reduceIte, Nat.reduceEqDiff]))
            go_loopg [11, 13] dn (fun q v11 v13 wr => ∃ j : Nat, v13 = .int .i64 (j : Int) ∧ v11 = .bool (decide (id ∈ D.take j)) ∧ j + q = dn ∧ WheelN w wr p L2 ∧ Below u1.heap.size u1 wr)
            case atStart => exact ⟨0, rfl, by simp, by omega, hW1, Below.refl _ _⟩
            case round =>
              rename_i J K hJ hK
              clear hW1
              obtain ⟨j, rfl, rfl, hj, hW1, hb1⟩ := hrel
              by_cases hlt2 : j < dn
              case neg =>
                obtain rfl : j = dn := by omega
                have hlt2' : ¬ (j : Int) < (j : Int) := by omega
                have hE : (((i : Int) + 1) == (tk : Int)) = decide (id ∈ D.take j) := by
                  rw [← HDN.out, List.take_length]
                  have := HMD.out
                  by_cases he : i + 1 = tk
                  · rw [decide_eq_true (this.2 he)]; simp; omega
                  · rw [decide_eq_false (fun h => he (this.1 h))]; simp; omega
                obtain ⟨e, he⟩ : ∃ e, decide (id ∈ D.take j) = e := ⟨_, rfl⟩
                rw [he] at hE ⊢
                obtain ⟨m2, hm2⟩ : ∃ m, tk - (i + 1) = m := ⟨_, rfl⟩
                have hmx1 : max 0 ((tk : Int) - ((i : Int) + 1)) = (m2 : Int) := by omega
                have hmx2 : (if (i : Int) + 1 < (tk : Int) then (tk : Int) - ((i : Int) + 1) else 0) = (m2 : Int) := by split <;> omega
                have hlf := fleft (k := id) hW1
                rw [HDI.out, hm2] at hlf
                have hm2I : (m2 : Int) ≤ 600 := by omega
                clear hJ hK he
                skip
                have Fwr : Below wr.heap.size wr wr := Below.refl _ _
                repeat (first | with_reducible apply wpList_nil | with_reducible apply seq_region | with_reducible apply wp_region_lit | with_reducible apply wp_seq | ((with_reducible apply seq_q); (focus rfl); (focus (simp [go_sem, effAt, ↓IntWalk.iteOmega, *]; (try go_ints); (first | (with_reducible exact effUpon_val) | (with_reducible exact effUpon_skip)))); (focus ((simp only [Act.put, List.setIfInBounds_toArray, List.set_cons_zero, List.set_cons_succ]; rfl)))) | ((with_reducible apply seq_s); (focus rfl); (focus ((simp only [Act.put, List.setIfInBounds_toArray, List.set_cons_zero, List.set_cons_succ]; rfl)))) | with_reducible apply wp_block | with_reducible apply wp_skip | with_reducible apply wp_exit | with_reducible apply wp_ret | ((with_reducible apply wp_cond_true); (focus (first | rfl | (simp [go_sem, *]; done)))) | ((with_reducible apply wp_cond_false); (focus (first | rfl | (simp [go_sem, *]; done)))) | (simp only [Exit.then, Exit.inBlock, ↓reduceIte, Nat.reduceEqDiff]))
                with_reducible apply seq_e (fun w' => WheelN w w' p L2 ∧ Below wr.heap.size wr w')
                (focus (first | exact wanted_none rfl | exact wanted_yes rfl rfl rfl))
                (focus (simp only [effAt]; simp [go_sem]; (with_reducible exact effUpon_enter (hlf))))
                (focus ((simp only [Act.put, List.setIfInBounds_toArray, List.set_cons_zero, List.set_cons_succ]; rfl)))
                rintro u3 ⟨hW3, _⟩
                clear hW1 hlf hb1
                have Fu3 : Below u3.heap.size u3 u3 := Below.refl _ _
                repeat (first | with_reducible apply wpList_nil | with_reducible apply seq_region | with_reducible apply wp_region_lit | with_reducible apply wp_seq | ((with_reducible apply seq_q); (focus rfl); (focus (simp [go_sem, effAt, ↓IntWalk.iteOmega, *]; (try go_ints); (first | (with_reducible exact effUpon_val) | (with_reducible exact effUpon_skip)))); (focus ((simp only [Act.put, List.setIfInBounds_toArray, List.set_cons_zero, List.set_cons_succ]; rfl)))) | ((with_reducible apply seq_s); (focus rfl); (focus ((simp only [Act.put, List.setIfInBounds_toArray, List.set_cons_zero, List.set_cons_succ]; rfl)))) | with_reducible apply wp_block | with_reducible apply wp_skip | with_reducible apply wp_exit | with_reducible apply wp_ret | ((with_reducible apply wp_cond_true); (focus (first | rfl | (simp [go_sem, *]; done)))) | ((with_reducible apply wp_cond_false); (focus (first | rfl | (simp [go_sem, *]; done)))) | (simp only [Exit.then, Exit.inBlock, ↓reduceIte, Nat.reduceEqDiff]))
                refine HOK.out _ _ (Handed.intro (610 - (i + 1)) ?measure (HOJ.out _ _ _ ?_))
                rotate_left
                (repeat apply Exists.intro)
                refine ⟨?rel, rfl⟩
                case rel => exact ⟨i + 1, L2, by go_num, by omega, by omega, HDI.out, hW3⟩
                case measure => omega
              case pos =>
                have hlt2' : (j : Int) < (dn : Int) := by omega
                obtain ⟨g, pad, rfl, hB_d⟩ := HCE.out j (by omega)
                replace hB_d := hB_d.below hb1 hB_d.lt
                obtain ⟨k, hk⟩ : ∃ k, D[j]? = some k := ⟨_, List.getElem?_eq_getElem (by have := HDN.out; omega)⟩
                have ec := cellsS_get (d := (D.map fun (k : Nat) => (k : Int)).toArray) (i := j) (x := (k : Int)) pad (by have := HDN.out; simp; omega) (by
                  have hi2 : j < D.length := by have := HDN.out; omega
                  rw [List.getElem?_eq_getElem hi2] at hk
                  injection hk with hk
                  rw [getElem!_pos _ j (by simpa using hi2)]
                  simp [hk])
                have htn := take_next hk
                obtain ⟨cl, hcl⟩ : ∃ cl, cellsS pad (D.map fun (k : Nat) => (k : Int)).toArray = cl := ⟨_, rfl⟩
                unfold SB at hB_d
                rw [hcl] at ec hB_d
                clear hk hcl
                by_cases hb : id ∈ D.take j
                case pos =>
                  have hn : decide (id ∈ D.take (j + 1)) = true := by rw [htn]; simp [hb]
                  rw [decide_eq_true hb]
                  have HN9 := Lib.hid hn
                  clear hb hn htn
                  skip
                  have Fwr : Below wr.heap.size wr wr := Below.refl _ _
                  have hc_d := hB_d.cell
                  repeat (first | with_reducible apply wpList_nil | with_reducible apply seq_region | with_reducible apply wp_region_lit | with_reducible apply wp_seq | ((with_reducible apply seq_q); (focus rfl); (focus (simp [go_sem, effAt, ↓IntWalk.iteOmega, *]; (try go_ints); (first | (with_reducible exact effUpon_val) | (with_reducible exact effUpon_skip)))); (focus ((simp only [Act.put, List.setIfInBounds_toArray, List.set_cons_zero, List.set_cons_succ]; rfl)))) | ((with_reducible apply seq_s); (focus rfl); (focus ((simp only [Act.put, List.setIfInBounds_toArray, List.set_cons_zero, List.set_cons_succ]; rfl)))) | with_reducible apply wp_block | with_reducible apply wp_skip | with_reducible apply wp_exit | with_reducible apply wp_ret | ((with_reducible apply wp_cond_true); (focus (first | rfl | (simp [go_sem, *]; done)))) | ((with_reducible apply wp_cond_false); (focus (first | rfl | (simp [go_sem, *]; done)))) | (simp only [Exit.then, Exit.inBlock, ↓reduceIte, Nat.reduceEqDiff]))
                  refine hK _ _ (Handed.intro (gk - 1) ?measure (hJ _ _ _ ?_))
                  rotate_left
                  (repeat apply Exists.intro)
                  refine ⟨?rel, rfl⟩
                  case rel => exact ⟨j + 1, by go_num, by rw [HN9.out], by omega, hW1, hb1⟩
                  case measure => omega
                case neg =>
                  have hn : decide (id ∈ D.take (j + 1)) = ((k : Int) == (id : Int)) := by
                    rw [htn]
                    by_cases hkk : k = id
                    · subst hkk; simp
                    · have : ((k : Int) == (id : Int)) = false := by simp; omega
                      rw [this]
                      simp [hb, Ne.symm hkk]
                  rw [decide_eq_false hb]
                  obtain ⟨ee, hee⟩ : ∃ ee, ((k : Int) == (id : Int)) = ee := ⟨_, rfl⟩
                  rw [hee] at hn
                  have HN9 := Lib.hid hn
                  clear hb hn htn
                  skip
                  have Fwr : Below wr.heap.size wr wr := Below.refl _ _
                  have hc_d := hB_d.cell
                  repeat (first | with_reducible apply wpList_nil | with_reducible apply seq_region | with_reducible apply wp_region_lit | with_reducible apply wp_seq | ((with_reducible apply seq_q); (focus rfl); (focus (simp [go_sem, effAt, ↓IntWalk.iteOmega, *]; (try go_ints); (first | (with_reducible exact effUpon_val) | (with_reducible exact effUpon_skip)))); (focus ((simp only [Act.put, List.setIfInBounds_toArray, List.set_cons_zero, List.set_cons_succ]; rfl)))) | ((with_reducible apply seq_s); (focus rfl); (focus ((simp only [Act.put, List.setIfInBounds_toArray, List.set_cons_zero, List.set_cons_succ]; rfl)))) | with_reducible apply wp_block | with_reducible apply wp_skip | with_reducible apply wp_exit | with_reducible apply wp_ret | ((with_reducible apply wp_cond_true); (focus (first | rfl | (simp [go_sem, *]; done)))) | ((with_reducible apply wp_cond_false); (focus (first | rfl | (simp [go_sem, *]; done)))) | (simp only [Exit.then, Exit.inBlock, ↓reduceIte, Nat.reduceEqDiff]))
                  refine hK _ _ (Handed.intro (gk - 1) ?measure (hJ _ _ _ ?_))
                  rotate_left
                  (repeat apply Exists.intro)
                  refine ⟨?rel, rfl⟩
                  case rel => exact ⟨j + 1, by go_num, by rw [HN9.out], by omega, hW1, hb1⟩
                  case measure => omega
          case neg =>
            have e0 : ((m : Int) == 0) = false := by simpa using hm0
            have hst := fun (u : World) (h : WheelN w u p L) => ret_mono (fstop (k := id2) h) (fun w' (hw : WheelN w w' p (upd L id2 0)) => (⟨upd L id2 0, upd_ne _ _ (fun e => hsame e.symm), hw⟩ : ∃ L', L' id = L id ∧ WheelN w w' p L'))
            generalize decide (L id2 ≠ 0) = bo at hst
            skip
            have Fwr : Below wr.heap.size wr wr := Below.refl _ _
            repeat (first | with_reducible apply wpList_nil | with_reducible apply seq_region | with_reducible apply wp_region_lit | with_reducible apply wp_seq | ((with_reducible apply seq_q); (focus rfl); (focus (simp [go_sem, effAt, ↓IntWalk.iteOmega, *]; (try go_ints); (first | (with_reducible exact effUpon_val) | (with_reducible exact effUpon_skip)))); (focus ((simp only [Act.put, List.setIfInBounds_toArray, List.set_cons_zero, List.set_cons_succ]; rfl)))) | ((with_reducible apply seq_s); (focus rfl); (focus ((simp only [Act.put, List.setIfInBounds_toArray, List.set_cons_zero, List.set_cons_succ]; rfl)))) | with_reducible apply wp_block | with_reducible apply wp_skip | with_reducible apply wp_exit | with_reducible apply wp_ret | ((with_reducible apply wp_cond_true); (focus (first | rfl | (simp [go_sem, *]; done)))) | ((with_reducible apply wp_cond_false); (focus (first | rfl | (simp [go_sem, *]; done)))) | (simp only [Exit.then, Exit.inBlock, ↓reduceIte, Nat.reduceEqDiff]))
            with_reducible apply seq_e (fun w' => ∃ L', L' id = L id ∧ WheelN w w' p L')
            (focus (first | exact wanted_none rfl | exact wanted_yes rfl rfl rfl))
            (focus (simp only [effAt]; simp [go_sem]; (with_reducible exact effUpon_enter (hst _ hW))))
            (focus ((simp only [Act.put, List.setIfInBounds_toArray, List.set_cons_zero, List.set_cons_succ]; rfl)))
            rintro x3 ⟨L9, hL9, hW9⟩
            rw [hL] at hL9
            clear c0 c1 hb hW hL hst
            have hW := hW9
            have hL := hL9
            clear hW9 hL9
            skip
            have Fx3 : Below x3.heap.size x3 x3 := Below.refl _ _
            repeat (first | with_reducible apply wpList_nil | with_reducible apply seq_region | with_reducible apply wp_region_lit | with_reducible apply wp_seq | ((with_reducible apply seq_q); (focus rfl); (focus (simp [go_sem, effAt, ↓IntWalk.iteOmega, *]; (try go_ints); (first | (with_reducible exact effUpon_val) | (with_reducible exact effUpon_skip)))); (focus ((simp only [Act.put, List.setIfInBounds_toArray, List.set_cons_zero, List.set_cons_succ]; rfl)))) | ((with_reducible apply seq_s); (focus rfl); (focus ((simp only [Act.put, List.setIfInBounds_toArray, List.set_cons_zero, List.set_cons_succ]; rfl)))) | with_reducible apply wp_block | with_reducible apply wp_skip | with_reducible apply wp_exit | with_reducible apply wp_ret | ((with_reducible apply wp_cond_true); (focus (first | rfl | (simp [go_sem, *]; done)))) | ((with_reducible apply wp_cond_false); (focus (first | rfl | (simp [go_sem, *]; done)))) | (simp only [Exit.then, Exit.inBlock, ↓reduceIte, Nat.reduceEqDiff]))
            with_reducible refine seq_ev2 (ftick hW) ?hw ?hrun ?_
            case hw => first | exact wanted_none rfl | exact wanted_yes rfl rfl rfl
            case hrun => simp [go_sem]
            clear hW
            rintro v1 u1 ⟨hW1, hD1⟩
            obtain ⟨ao, ca, hv1, hcell⟩ := octs_slice hD1.octs
            rw [List.length_map] at hv1 hcell
            subst hv1
            (with_reducible apply ex_put)
            (focus ((simp only [Act.put, List.setIfInBounds_toArray, List.set_cons_zero, List.set_cons_succ]; rfl)))
            have hdl := dueL_len L9
            have hmd := mem_due (L := L9) hid
            have hdi : dec L9 id = tk - (i + 1) := by unfold dec; rw [hL]; omega
            obtain ⟨D, hDD⟩ : ∃ D, dueL L9 = D := ⟨_, rfl⟩
            rw [hDD] at hdl hmd hcell ⊢
            obtain ⟨dn, hdn⟩ : ∃ x, D.length = x := ⟨_, rfl⟩
            rw [hdn] at hdl hcell ⊢
            have HDN := Lib.hid hdn
            have HCE := Lib.hid hcell
            have HMD := Lib.hid (hmd.trans (by rw [hL]; exact ⟨fun h => by omega, fun h => by omega⟩ : L9 id = 1 ↔ i + 1 = tk))
            have hdnI : (dn : Int) ≤ 256 := by omega
            obtain ⟨L2, hL2⟩ : ∃ L2, dec L9 = L2 := ⟨_, rfl⟩
            rw [hL2] at hW1 hdi
            have HDI := Lib.hid hdi
            clear hD1 hmd hDD hdn hcell hL2 hdi hL
            skip
            have Fu1 : Below u1.heap.size u1 u1 := Below.refl _ _
            repeat (first | with_reducible apply wpList_nil | with_reducible apply seq_region | with_reducible apply wp_region_lit | with_reducible apply wp_seq | ((with_reducible apply seq_q); (focus rfl); (focus (simp [go_sem, effAt, ↓IntWalk.iteOmega, *]; (try go_ints); (first | (with_reducible exact effUpon_val) | (with_reducible exact effUpon_skip)))); (focus ((simp only [Act.put, List.setIfInBounds_toArray, List.set_cons_zero, List.set_cons_succ]; rfl)))) | ((with_reducible apply seq_s); (focus rfl); (focus ((simp only [Act.put, List.setIfInBounds_toArray, List.set_cons_zero, List.set_cons_succ]; rfl)))) | with_reducible apply wp_block | with_reducible apply wp_skip | with_reducible apply wp_exit | with_reducible apply wp_ret | ((with_reducible apply wp_cond_true); (focus (first | rfl | (simp [go_sem, *]; done)))) | ((with_reducible apply wp_cond_false); (focus (first | rfl | (simp [go_sem, *]; done)))) | (simp only [Exit.then, Exit.inBlock, ↓reduceIte, Nat.reduceEqDiff]))
            go_loopg [11, 13] dn (fun q v11 v13 wr => ∃ j : Nat, v13 = .int .i64 (j : Int) ∧ v11 = .bool (decide (id ∈ D.take j)) ∧ j + q = dn ∧ WheelN w wr p L2 ∧ Below u1.heap.size u1 wr)
            case atStart => exact ⟨0, rfl, by simp, by omega, hW1, Below.refl _ _⟩
            case round =>
              rename_i J K hJ hK
              clear hW1
              obtain ⟨j, rfl, rfl, hj, hW1, hb1⟩ := hrel
              by_cases hlt2 : j < dn
              case neg =>
                obtain rfl : j = dn := by omega
                have hlt2' : ¬ (j : Int) < (j : Int) := by omega
                have hE : (((i : Int) + 1) == (tk : Int)) = decide (id ∈ D.take j) := by
                  rw [← HDN.out, List.take_length]
                  have := HMD.out
                  by_cases he : i + 1 = tk
                  · rw [decide_eq_true (this.2 he)]; simp; omega
                  · rw [decide_eq_false (fun h => he (this.1 h))]; simp; omega
                obtain ⟨e, he⟩ : ∃ e, decide (id ∈ D.take j) = e := ⟨_, rfl⟩
                rw [he] at hE ⊢
                obtain ⟨m2, hm2⟩ : ∃ m, tk - (i + 1) = m := ⟨_, rfl⟩
                have hmx1 : max 0 ((tk : Int) - ((i : Int) + 1)) = (m2 : Int) := by omega
                have hmx2 : (if (i : Int) + 1 < (tk : Int) then (tk : Int) - ((i : Int) + 1) else 0) = (m2 : Int) := by split <;> omega
                have hlf := fleft (k := id) hW1
                rw [HDI.out, hm2] at hlf
                have hm2I : (m2 : Int) ≤ 600 := by omega
                clear hJ hK he
                skip
                have Fwr : Below wr.heap.size wr wr := Below.refl _ _
                repeat (first | with_reducible apply wpList_nil | with_reducible apply seq_region | with_reducible apply wp_region_lit | with_reducible apply wp_seq | ((with_reducible apply seq_q); (focus rfl); (focus (simp [go_sem, effAt, ↓IntWalk.iteOmega, *]; (try go_ints); (first | (with_reducible exact effUpon_val) | (with_reducible exact effUpon_skip)))); (focus ((simp only [Act.put, List.setIfInBounds_toArray, List.set_cons_zero, List.set_cons_succ]; rfl)))) | ((with_reducible apply seq_s); (focus rfl); (focus ((simp only [Act.put, List.setIfInBounds_toArray, List.set_cons_zero, List.set_cons_succ]; rfl)))) | with_reducible apply wp_block | with_reducible apply wp_skip | with_reducible apply wp_exit | with_reducible apply wp_ret | ((with_reducible apply wp_cond_true); (focus (first | rfl | (simp [go_sem, *]; done)))) | ((with_reducible apply wp_cond_false); (focus (first | rfl | (simp [go_sem, *]; done)))) | (simp only [Exit.then, Exit.inBlock, ↓reduceIte, Nat.reduceEqDiff]))
                with_reducible apply seq_e (fun w' => WheelN w w' p L2 ∧ Below wr.heap.size wr w')
                (focus (first | exact wanted_none rfl | exact wanted_yes rfl rfl rfl))
                (focus (simp only [effAt]; simp [go_sem]; (with_reducible exact effUpon_enter (hlf))))
                (focus ((simp only [Act.put, List.setIfInBounds_toArray, List.set_cons_zero, List.set_cons_succ]; rfl)))
                rintro u3 ⟨hW3, _⟩
                clear hW1 hlf hb1
                have Fu3 : Below u3.heap.size u3 u3 := Below.refl _ _
                repeat (first | with_reducible apply wpList_nil | with_reducible apply seq_region | with_reducible apply wp_region_lit | with_reducible apply wp_seq | ((with_reducible apply seq_q); (focus rfl); (focus (simp [go_sem, effAt, ↓IntWalk.iteOmega, *]; (try go_ints); (first | (with_reducible exact effUpon_val) | (with_reducible exact effUpon_skip)))); (focus ((simp only [Act.put, List.setIfInBounds_toArray, List.set_cons_zero, List.set_cons_succ]; rfl)))) | ((with_reducible apply seq_s); (focus rfl); (focus ((simp only [Act.put, List.setIfInBounds_toArray, List.set_cons_zero, List.set_cons_succ]; rfl)))) | with_reducible apply wp_block | with_reducible apply wp_skip | with_reducible apply wp_exit | with_reducible apply wp_ret | ((with_reducible apply wp_cond_true); (focus (first | rfl | (simp [go_sem, *]; done)))) | ((with_reducible apply wp_cond_false); (focus (first | rfl | (simp [go_sem, *]; done)))) | (simp only [Exit.then, Exit.inBlock, ↓reduceIte, Nat.reduceEqDiff]))
                refine HOK.out _ _ (Handed.intro (610 - (i + 1)) ?measure (HOJ.out _ _ _ ?_))
                rotate_left
                (repeat apply Exists.intro)
                refine ⟨?rel, rfl⟩
                case rel => exact ⟨i + 1, L2, by go_num, by omega, by omega, HDI.out, hW3⟩
                case measure => omega
              case pos =>
                have hlt2' : (j : Int) < (dn : Int) := by omega
                obtain ⟨g, pad, rfl, hB_d⟩ := HCE.out j (by omega)
                replace hB_d := hB_d.below hb1 hB_d.lt
                obtain ⟨k, hk⟩ : ∃ k, D[j]? = some k := ⟨_, List.getElem?_eq_getElem (by have := HDN.out; omega)⟩
                have ec := cellsS_get (d := (D.map fun (k : Nat) => (k : Int)).toArray) (i := j) (x := (k : Int)) pad (by have := HDN.out; simp; omega) (by
                  have hi2 : j < D.length := by have := HDN.out; omega
                  rw [List.getElem?_eq_getElem hi2] at hk
                  injection hk with hk
                  rw [getElem!_pos _ j (by simpa using hi2)]
                  simp [hk])
                have htn := take_next hk
                obtain ⟨cl, hcl⟩ : ∃ cl, cellsS pad (D.map fun (k : Nat) => (k : Int)).toArray = cl := ⟨_, rfl⟩
                unfold SB at hB_d
                rw [hcl] at ec hB_d
                clear hk hcl
                by_cases hb : id ∈ D.take j
                case pos =>
                  have hn : decide (id ∈ D.take (j + 1)) = true := by rw [htn]; simp [hb]
                  rw [decide_eq_true hb]
                  have HN9 := Lib.hid hn
                  clear hb hn htn
                  skip
                  have Fwr : Below wr.heap.size wr wr := Below.refl _ _
                  have hc_d := hB_d.cell
                  repeat (first | with_reducible apply wpList_nil | with_reducible apply seq_region | with_reducible apply wp_region_lit | with_reducible apply wp_seq | ((with_reducible apply seq_q); (focus rfl); (focus (simp [go_sem, effAt, ↓IntWalk.iteOmega, *]; (try go_ints); (first | (with_reducible exact effUpon_val) | (with_reducible exact effUpon_skip)))); (focus ((simp only [Act.put, List.setIfInBounds_toArray, List.set_cons_zero, List.set_cons_succ]; rfl)))) | ((with_reducible apply seq_s); (focus rfl); (focus ((simp only [Act.put, List.setIfInBounds_toArray, List.set_cons_zero, List.set_cons_succ]; rfl)))) | with_reducible apply wp_block | with_reducible apply wp_skip | with_reducible apply wp_exit | with_reducible apply wp_ret | ((with_reducible apply wp_cond_true); (focus (first | rfl | (simp [go_sem, *]; done)))) | ((with_reducible apply wp_cond_false); (focus (first | rfl | (simp [go_sem, *]; done)))) | (simp only [Exit.then, Exit.inBlock, ↓reduceIte, Nat.reduceEqDiff]))
                  refine hK _ _ (Handed.intro (gk - 1) ?measure (hJ _ _ _ ?_))
                  rotate_left
                  (repeat apply Exists.intro)
                  refine ⟨?rel, rfl⟩
                  case rel => exact ⟨j + 1, by go_num, by rw [HN9.out], by omega, hW1, hb1⟩
                  case measure => omega
                case neg =>
                  have hn : decide (id ∈ D.take (j + 1)) = ((k : Int) == (id : Int)) := by
                    rw [htn]
                    by_cases hkk : k = id
                    · subst hkk; simp
                    · have : ((k : Int) == (id : Int)) = false := by simp; omega
                      rw [this]
                      simp [hb, Ne.symm hkk]
                  rw [decide_eq_false hb]
                  obtain ⟨ee, hee⟩ : ∃ ee, ((k : Int) == (id : Int)) = ee := ⟨_, rfl⟩
                  rw [hee] at hn
                  have HN9 := Lib.hid hn
                  clear hb hn htn
                  skip
                  have Fwr : Below wr.heap.size wr wr := Below.refl _ _
                  have hc_d := hB_d.cell
                  repeat (first | with_reducible apply wpList_nil | with_reducible apply seq_region | with_reducible apply wp_region_lit | with_reducible apply wp_seq | ((with_reducible apply seq_q); (focus rfl); (focus (simp [go_sem, effAt, ↓IntWalk.iteOmega, *]; (try go_ints); (first | (with_reducible exact effUpon_val) | (with_reducible exact effUpon_skip)))); (focus ((simp only [Act.put, List.setIfInBounds_toArray, List.set_cons_zero, List.set_cons_succ]; rfl)))) | ((with_reducible apply seq_s); (focus rfl); (focus ((simp only [Act.put, List.setIfInBounds_toArray, List.set_cons_zero, List.set_cons_succ]; rfl)))) | with_reducible apply wp_block | with_reducible apply wp_skip | with_reducible apply wp_exit | with_reducible apply wp_ret | ((with_reducible apply wp_cond_true); (focus (first | rfl | (simp [go_sem, *]; done)))) | ((with_reducible apply wp_cond_false); (focus (first | rfl | (simp [go_sem, *]; done)))) | (simp only [Exit.then, Exit.inBlock, ↓reduceIte, Nat.reduceEqDiff]))
                  refine hK _ _ (Handed.intro (gk - 1) ?measure (hJ _ _ _ ?_))
                  rotate_left
                  (repeat apply Exists.intro)
                  refine ⟨?rel, rfl⟩
                  case rel => exact ⟨j + 1, by go_num, by rw [HN9.out], by omega, hW1, hb1⟩
                  case measure => omega
end Go.Proofs.Ytckjgdlceckhpaa
