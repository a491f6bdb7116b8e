/- The walks of bits.Len (of small numbers), nextPowerOfTwo, xorshift.Next. -/
import Derived.Test.YtckjgdlceckhpaaS0
import Derived.Sort.LotD5
import Derived.Laws.Bits64
import Derived.Laws.Bits64b
set_option linter.unusedSimpArgs false
set_option linter.unusedVariables false
namespace Go.Proofs.Ytckjgdlceckhpaa
open Go.RowKit Go.Eff
open Go.Sort (bitsLen xorNextN)
attribute [local irreducible] Go.wpList
theorem bitsLen_256 : ∀ n, n < 1001 → 256 ≤ n → bitsLen n = bitsLen (n / 256) + 8 := by decide +kernel
theorem bitsLen_le : ∀ n, n < 1001 → bitsLen n ≤ 10 := by decide +kernel
set_option maxRecDepth 100000 in
theorem len64_any (n : Nat) (hn : n ≤ 1000) (w : World) : Calls Try.prog 37 #[.int .u64 (n : Int)] w (Ret (.int .i64 (bitsLen n : Nat)) (Below w.heap.size w)) := by
  have h1 : (n : Int) < 4294967296 := by omega
  have h2 : (n : Int) < 65536 := by omega
  have h1' : ¬ 4294967296 ≤ (n : Int) := by omega
  have h2' : ¬ 65536 ≤ (n : Int) := by omega
  by_cases h : n < 256
  case pos =>
    have h3 : (n : Int) < 256 := by omega
    have h3' : ¬ 256 ≤ (n : Int) := by omega
    go_enter Try.func37, Try.ntmps37
    have F0 : Below w.heap.size w w := Below.refl _ _
    repeat (first | with_reducible apply wpList_nil | with_reducible apply seq_region | with_reducible apply wp_region_lit | with_reducible apply wp_seq | ((with_reducible apply seq_q); (focus rfl); (focus (simp [go_sem, effAt, ↓IntWalk.iteOmega, *]; (try go_ints); (first | (with_reducible exact effUpon_val) | (with_reducible exact effUpon_skip)))); (focus ((simp only [Act.put, List.setIfInBounds_toArray, List.set_cons_zero, List.set_cons_succ]; rfl)))) | ((with_reducible apply seq_s); (focus rfl); (focus ((simp only [Act.put, List.setIfInBounds_toArray, List.set_cons_zero, List.set_cons_succ]; rfl)))) | with_reducible apply wp_block | with_reducible apply wp_skip | with_reducible apply wp_exit | with_reducible apply wp_ret | ((with_reducible apply wp_cond_true); (focus (first | rfl | (simp [go_sem, *]; done)))) | ((with_reducible apply wp_cond_false); (focus (first | rfl | (simp [go_sem, *]; done)))) | (simp only [Exit.then, Exit.inBlock, ↓reduceIte, Nat.reduceEqDiff]))
    go_ret
    refine ⟨?_, by assumption⟩
    show Ending.returned (Value.int IntKind.i64 (wrap64 (wrap64 _))) = Ending.returned (Value.int IntKind.i64 _)
    refine congrArg (fun x => Ending.returned (Value.int IntKind.i64 x)) ?_
    clear F0 h3' h1 h2 h1' h2' hn
    revert h3
    revert n
    decide +kernel
  case neg =>
    have h3' : 256 ≤ (n : Int) := by omega
    obtain ⟨k, hk⟩ : ∃ k, n / 256 = k := ⟨_, rfl⟩
    have hkI : (n : Int) / 256 = (k : Int) := by omega
    have hk4 : k < 4 := by omega
    have hkJ : (k : Int) < 256 := by omega
    rw [bitsLen_256 n (by omega) (by omega), hk]
    clear hk hn
    skip
    go_enter Try.func37, Try.ntmps37
    have F0 : Below w.heap.size w w := Below.refl _ _
    repeat (first | with_reducible apply wpList_nil | with_reducible apply seq_region | with_reducible apply wp_region_lit | with_reducible apply wp_seq | ((with_reducible apply seq_q); (focus rfl); (focus (simp [go_sem, effAt, ↓IntWalk.iteOmega, *]; (try go_ints); (first | (with_reducible exact effUpon_val) | (with_reducible exact effUpon_skip)))); (focus ((simp only [Act.put, List.setIfInBounds_toArray, List.set_cons_zero, List.set_cons_succ]; rfl)))) | ((with_reducible apply seq_s); (focus rfl); (focus ((simp only [Act.put, List.setIfInBounds_toArray, List.set_cons_zero, List.set_cons_succ]; rfl)))) | with_reducible apply wp_block | with_reducible apply wp_skip | with_reducible apply wp_exit | with_reducible apply wp_ret | ((with_reducible apply wp_cond_true); (focus (first | rfl | (simp [go_sem, *]; done)))) | ((with_reducible apply wp_cond_false); (focus (first | rfl | (simp [go_sem, *]; done)))) | (simp only [Exit.then, Exit.inBlock, ↓reduceIte, Nat.reduceEqDiff]))
    go_ret
    refine ⟨?_, by assumption⟩
    show Ending.returned (Value.int IntKind.i64 (wrap64 (8 + wrap64 _))) = Ending.returned (Value.int IntKind.i64 _)
    refine congrArg (fun x => Ending.returned (Value.int IntKind.i64 x)) ?_
    clear F0 h3' h1 h2 h1' h2' h hkI
    revert hkJ
    revert k
    decide +kernel
theorem len_any (n : Nat) (hn : n ≤ 1000) (w : World) : Calls Try.prog 26 #[.int .u64 (n : Int)] w (Ret (.int .i64 (bitsLen n : Nat)) (Below w.heap.size w)) := by
  have hL := len64_any n hn
  go_enter Try.func26, Try.ntmps26
  have F0 : Below w.heap.size w w := Below.refl _ _
  repeat (first | with_reducible apply wpList_nil | with_reducible apply seq_region | with_reducible apply wp_region_lit | with_reducible apply wp_seq | ((with_reducible apply seq_q); (focus rfl); (focus (simp [go_sem, effAt, ↓IntWalk.iteOmega, *]; (try go_ints); (first | (with_reducible exact effUpon_val) | (with_reducible exact effUpon_skip)))); (focus ((simp only [Act.put, List.setIfInBounds_toArray, List.set_cons_zero, List.set_cons_succ]; rfl)))) | ((with_reducible apply seq_s); (focus rfl); (focus ((simp only [Act.put, List.setIfInBounds_toArray, List.set_cons_zero, List.set_cons_succ]; rfl)))) | with_reducible apply wp_block | with_reducible apply wp_skip | with_reducible apply wp_exit | with_reducible apply wp_ret | ((with_reducible apply wp_cond_true); (focus (first | rfl | (simp [go_sem, *]; done)))) | ((with_reducible apply wp_cond_false); (focus (first | rfl | (simp [go_sem, *]; done)))) | (simp only [Exit.then, Exit.inBlock, ↓reduceIte, Nat.reduceEqDiff]))
  ((with_reducible apply seq_e (Below w.heap.size w)); (focus rfl); (focus (simp only [effAt]; simp [go_sem]; (with_reducible exact effUpon_enter (hL _)))); (focus ((simp only [Act.put, List.setIfInBounds_toArray, List.set_cons_zero, List.set_cons_succ]; rfl))))
  intro w1 hs
  have Fw1 := F0.trans (hs.mono F0.size)
  clear hs F0
  repeat (first | with_reducible apply wpList_nil | with_reducible apply seq_region | with_reducible apply wp_region_lit | with_reducible apply wp_seq | ((with_reducible apply seq_q); (focus rfl); (focus (simp [go_sem, effAt, ↓IntWalk.iteOmega, *]; (try go_ints); (first | (with_reducible exact effUpon_val) | (with_reducible exact effUpon_skip)))); (focus ((simp only [Act.put, List.setIfInBounds_toArray, List.set_cons_zero, List.set_cons_succ]; rfl)))) | ((with_reducible apply seq_s); (focus rfl); (focus ((simp only [Act.put, List.setIfInBounds_toArray, List.set_cons_zero, List.set_cons_succ]; rfl)))) | with_reducible apply wp_block | with_reducible apply wp_skip | with_reducible apply wp_exit | with_reducible apply wp_ret | ((with_reducible apply wp_cond_true); (focus (first | rfl | (simp [go_sem, *]; done)))) | ((with_reducible apply wp_cond_false); (focus (first | rfl | (simp [go_sem, *]; done)))) | (simp only [Exit.then, Exit.inBlock, ↓reduceIte, Nat.reduceEqDiff]))
  go_ret
  exact ⟨rfl, by assumption⟩
theorem pow_le : ∀ n, n < 1001 → (IntKind.u64.wrap ((2 : Int) ^ bitsLen n) = ((1 <<< bitsLen n : Nat) : Int)) ∧ 1 <<< bitsLen n ≤ 1024 ∧ 1 ≤ 1 <<< bitsLen n := by decide +kernel
theorem next_any (n : Nat) (hn : n ≤ 1000) (w : World) : Calls Try.prog 39 #[.int .i64 (n : Int)] w (Ret (.int .u64 ((1 <<< bitsLen n : Nat) : Int)) (Below w.heap.size w)) := by
  have hL := len_any n hn
  have hp := (pow_le n (by omega)).1
  have hb := bitsLen_le n (by omega)
  obtain ⟨k, hk⟩ : ∃ k, bitsLen n = k := ⟨_, rfl⟩
  rw [hk] at hL hp hb ⊢
  clear hk
  go_enter Try.func39, Try.ntmps39
  have F0 : Below w.heap.size w w := Below.refl _ _
  repeat (first | with_reducible apply wpList_nil | with_reducible apply seq_region | with_reducible apply wp_region_lit | with_reducible apply wp_seq | ((with_reducible apply seq_q); (focus rfl); (focus (simp [go_sem, effAt, ↓IntWalk.iteOmega, *]; (try go_ints); (first | (with_reducible exact effUpon_val) | (with_reducible exact effUpon_skip)))); (focus ((simp only [Act.put, List.setIfInBounds_toArray, List.set_cons_zero, List.set_cons_succ]; rfl)))) | ((with_reducible apply seq_s); (focus rfl); (focus ((simp only [Act.put, List.setIfInBounds_toArray, List.set_cons_zero, List.set_cons_succ]; rfl)))) | with_reducible apply wp_block | with_reducible apply wp_skip | with_reducible apply wp_exit | with_reducible apply wp_ret | ((with_reducible apply wp_cond_true); (focus (first | rfl | (simp [go_sem, *]; done)))) | ((with_reducible apply wp_cond_false); (focus (first | rfl | (simp [go_sem, *]; done)))) | (simp only [Exit.then, Exit.inBlock, ↓reduceIte, Nat.reduceEqDiff]))
  ((with_reducible apply seq_e (Below w.heap.size w)); (focus rfl); (focus (simp only [effAt]; simp [go_sem]; (with_reducible exact effUpon_enter (hL _)))); (focus ((simp only [Act.put, List.setIfInBounds_toArray, List.set_cons_zero, List.set_cons_succ]; rfl))))
  intro w1 hs
  have Fw1 := F0.trans (hs.mono F0.size)
  clear hs F0
  repeat (first | with_reducible apply wpList_nil | with_reducible apply seq_region | with_reducible apply wp_region_lit | with_reducible apply wp_seq | ((with_reducible apply seq_q); (focus rfl); (focus (simp [go_sem, effAt, ↓IntWalk.iteOmega, *]; (try go_ints); (first | (with_reducible exact effUpon_val) | (with_reducible exact effUpon_skip)))); (focus ((simp only [Act.put, List.setIfInBounds_toArray, List.set_cons_zero, List.set_cons_succ]; rfl)))) | ((with_reducible apply seq_s); (focus rfl); (focus ((simp only [Act.put, List.setIfInBounds_toArray, List.set_cons_zero, List.set_cons_succ]; rfl)))) | with_reducible apply wp_block | with_reducible apply wp_skip | with_reducible apply wp_exit | with_reducible apply wp_ret | ((with_reducible apply wp_cond_true); (focus (first | rfl | (simp [go_sem, *]; done)))) | ((with_reducible apply wp_cond_false); (focus (first | rfl | (simp [go_sem, *]; done)))) | (simp only [Exit.then, Exit.inBlock, ↓reduceIte, Nat.reduceEqDiff]))
  go_ret
  exact ⟨rfl, by assumption⟩
set_option maxRecDepth 100000 in
theorem xor_any (g X : Nat) (hX : X < 18446744073709551616) (w : World) (hB_r : Blk w g 74 #[.int .u64 X]) :
    Calls Try.prog 40 #[.pointer (some ⟨g, 0, none⟩)] w (Ret (.int .u64 (xorNextN X : Nat)) fun w' => Blk w' g 74 #[.int .u64 (xorNextN X : Nat)] ∧ w.grownBy w' (some g)) := by
  obtain ⟨A, hA⟩ : ∃ A : Nat, A = X ^^^ (X * 8192 % 18446744073709551616) := ⟨_, rfl⟩
  obtain ⟨B, hB⟩ : ∃ B : Nat, B = A ^^^ (A / 128) := ⟨_, rfl⟩
  obtain ⟨C, hC⟩ : ∃ C : Nat, C = B ^^^ (B * 131072 % 18446744073709551616) := ⟨_, rfl⟩
  have lA : A < 18446744073709551616 := by rw [hA]; exact Nat.xor_lt_two_pow (n := 64) (by omega) (by omega)
  have lB : B < 18446744073709551616 := by rw [hB]; exact Nat.xor_lt_two_pow (n := 64) (by omega) (by omega)
  have e1 : bits .xor .u64 (X : Int) (IntKind.u64.wrap ((X : Int) * 8192)) = (A : Int) := by
    rw [IntKind.wrap_u64, show ((X : Int) * 8192 % 18446744073709551616) = ((X * 8192 % 18446744073709551616 : Nat) : Int) by omega, bits_xor_u64_nat _ _ hX (by omega), hA]
  have e2 : bits .xor .u64 (A : Int) ((A : Int) / 128) = (B : Int) := by
    rw [show ((A : Int) / 128) = ((A / 128 : Nat) : Int) by omega, bits_xor_u64_nat _ _ lA (by omega), hB]
  have e3 : bits .xor .u64 (B : Int) (IntKind.u64.wrap ((B : Int) * 131072)) = (C : Int) := by
    rw [IntKind.wrap_u64, show ((B : Int) * 131072 % 18446744073709551616) = ((B * 131072 % 18446744073709551616 : Nat) : Int) by omega, bits_xor_u64_nat _ _ lB (by omega), hC]
  have hv : xorNextN X = C := by unfold xorNextN; simp only []; rw [← hA, ← hB, ← hC]
  rw [hv]
  clear hA hB hC hv
  go_enter Try.func40, Try.ntmps40
  have F0 : Below w.heap.size w w := Below.refl _ _
  repeat (first | with_reducible apply wpList_nil | with_reducible apply seq_region | with_reducible apply wp_region_lit | with_reducible apply wp_seq | ((with_reducible apply seq_q); (focus rfl); (focus (simp [go_sem, effAt, ↓IntWalk.iteOmega, *]; (try go_ints); (first | (with_reducible exact effUpon_val) | (with_reducible exact effUpon_skip)))); (focus ((simp only [Act.put, List.setIfInBounds_toArray, List.set_cons_zero, List.set_cons_succ]; rfl)))) | ((with_reducible apply seq_s); (focus rfl); (focus ((simp only [Act.put, List.setIfInBounds_toArray, List.set_cons_zero, List.set_cons_succ]; rfl)))) | with_reducible apply wp_block | with_reducible apply wp_skip | with_reducible apply wp_exit | with_reducible apply wp_ret | ((with_reducible apply wp_cond_true); (focus (first | rfl | (simp [go_sem, *]; done)))) | ((with_reducible apply wp_cond_false); (focus (first | rfl | (simp [go_sem, *]; done)))) | (simp only [Exit.then, Exit.inBlock, ↓reduceIte, Nat.reduceEqDiff]))
  refine wp_region_effA (S := fun _ => True) (I := (· = World.drew w)) (E := fun i => [9].contains i) (A := fun i => [2, 5].contains i) (by kernel_rfl) (by kernel_rfl) rfl (fun _ _ => trivial) ?_
  have hc_r := hB_r.cell
  repeat (first | ((with_reducible apply lexA_q); (focus rfl); (focus rfl); (focus rfl); (focus (intro w' hS; simp [go_sem, effAt, ↓IntWalk.iteOmega, *]; (try go_ints); (first | (with_reducible exact effUpon_val) | (with_reducible exact effUpon_skip)))); (focus ((simp only [Act.put, List.setIfInBounds_toArray, List.set_cons_zero, List.set_cons_succ]; rfl)))) | ((with_reducible apply lexA_s); (focus rfl); (focus ((simp only [Act.put, List.setIfInBounds_toArray, List.set_cons_zero, List.set_cons_succ]; rfl)))) | ((with_reducible apply lexA_a); (focus rfl); (focus rfl); (focus rfl); (focus (intro w' hS; subst hS; simp [go_sem, effAt, ↓IntWalk.iteOmega, *]; (try go_ints); (first | (with_reducible exact effUpon_val) | (with_reducible exact effUpon_skip)))); (focus ((simp only [Act.put, List.setIfInBounds_toArray, List.set_cons_zero, List.set_cons_succ]; rfl)))))
  with_reducible apply lexA_e (fun w' => Blk w' g 74 #[.int .u64 (A : Int)] ∧ World.grownBy w w' (some g))
  (focus (first | exact wanted_none rfl | exact wanted_yes rfl rfl rfl))
  focus rfl
  focus
    intro w' hS
    subst hS
    have hf_r := hB_r.frozen
    simp [go_sem, effAt, *]
    exact ⟨rfl, hB_r.drew.set_ 0 _, grown_undrew (grown_set (World.grownBy.refl _ _))⟩
  focus exact fun _ _ => trivial
  (focus (first | (apply put_some rfl; focus (conv => lhs; dsimp only [List.set_cons_zero, List.set_cons_succ]) <;> rfl) | exact put_none rfl))
  with_reducible apply lexA_nil
  rintro wa ⟨hB_n, hg_n⟩
  have hG := hg_n
  clear hB_r hc_r hg_n
  have hB_r := hB_n
  clear hB_n
  have Fwa : Below wa.heap.size wa wa := Below.refl _ _
  repeat (first | with_reducible apply wpList_nil | with_reducible apply seq_region | with_reducible apply wp_region_lit | with_reducible apply wp_seq | ((with_reducible apply seq_q); (focus rfl); (focus (simp [go_sem, effAt, ↓IntWalk.iteOmega, *]; (try go_ints); (first | (with_reducible exact effUpon_val) | (with_reducible exact effUpon_skip)))); (focus ((simp only [Act.put, List.setIfInBounds_toArray, List.set_cons_zero, List.set_cons_succ]; rfl)))) | ((with_reducible apply seq_s); (focus rfl); (focus ((simp only [Act.put, List.setIfInBounds_toArray, List.set_cons_zero, List.set_cons_succ]; rfl)))) | with_reducible apply wp_block | with_reducible apply wp_skip | with_reducible apply wp_exit | with_reducible apply wp_ret | ((with_reducible apply wp_cond_true); (focus (first | rfl | (simp [go_sem, *]; done)))) | ((with_reducible apply wp_cond_false); (focus (first | rfl | (simp [go_sem, *]; done)))) | (simp only [Exit.then, Exit.inBlock, ↓reduceIte, Nat.reduceEqDiff]))
  refine wp_region_effA (S := fun _ => True) (I := (· = World.drew wa)) (E := fun i => [9].contains i) (A := fun i => [2, 5].contains i) (by kernel_rfl) (by kernel_rfl) rfl (fun _ _ => trivial) ?_
  have hc_r := hB_r.cell
  repeat (first | ((with_reducible apply lexA_q); (focus rfl); (focus rfl); (focus rfl); (focus (intro w' hS; simp [go_sem, effAt, ↓IntWalk.iteOmega, *]; (try go_ints); (first | (with_reducible exact effUpon_val) | (with_reducible exact effUpon_skip)))); (focus ((simp only [Act.put, List.setIfInBounds_toArray, List.set_cons_zero, List.set_cons_succ]; rfl)))) | ((with_reducible apply lexA_s); (focus rfl); (focus ((simp only [Act.put, List.setIfInBounds_toArray, List.set_cons_zero, List.set_cons_succ]; rfl)))) | ((with_reducible apply lexA_a); (focus rfl); (focus rfl); (focus rfl); (focus (intro w' hS; subst hS; simp [go_sem, effAt, ↓IntWalk.iteOmega, *]; (try go_ints); (first | (with_reducible exact effUpon_val) | (with_reducible exact effUpon_skip)))); (focus ((simp only [Act.put, List.setIfInBounds_toArray, List.set_cons_zero, List.set_cons_succ]; rfl)))))
  with_reducible apply lexA_e (fun w' => Blk w' g 74 #[.int .u64 (B : Int)] ∧ World.grownBy wa w' (some g))
  (focus (first | exact wanted_none rfl | exact wanted_yes rfl rfl rfl))
  focus rfl
  focus
    intro w' hS
    subst hS
    have hf_r := hB_r.frozen
    simp [go_sem, effAt, *]
    exact ⟨rfl, hB_r.drew.set_ 0 _, grown_undrew (grown_set (World.grownBy.refl _ _))⟩
  focus exact fun _ _ => trivial
  (focus (first | (apply put_some rfl; focus (conv => lhs; dsimp only [List.set_cons_zero, List.set_cons_succ]) <;> rfl) | exact put_none rfl))
  with_reducible apply lexA_nil
  rintro wb ⟨hB_n, hg_n⟩
  have hG2 := grown_trans hG hg_n
  clear hG
  have hG := hG2
  clear hG2
  clear hB_r hc_r hg_n
  have hB_r := hB_n
  clear hB_n
  have Fwb : Below wb.heap.size wb wb := Below.refl _ _
  repeat (first | with_reducible apply wpList_nil | with_reducible apply seq_region | with_reducible apply wp_region_lit | with_reducible apply wp_seq | ((with_reducible apply seq_q); (focus rfl); (focus (simp [go_sem, effAt, ↓IntWalk.iteOmega, *]; (try go_ints); (first | (with_reducible exact effUpon_val) | (with_reducible exact effUpon_skip)))); (focus ((simp only [Act.put, List.setIfInBounds_toArray, List.set_cons_zero, List.set_cons_succ]; rfl)))) | ((with_reducible apply seq_s); (focus rfl); (focus ((simp only [Act.put, List.setIfInBounds_toArray, List.set_cons_zero, List.set_cons_succ]; rfl)))) | with_reducible apply wp_block | with_reducible apply wp_skip | with_reducible apply wp_exit | with_reducible apply wp_ret | ((with_reducible apply wp_cond_true); (focus (first | rfl | (simp [go_sem, *]; done)))) | ((with_reducible apply wp_cond_false); (focus (first | rfl | (simp [go_sem, *]; done)))) | (simp only [Exit.then, Exit.inBlock, ↓reduceIte, Nat.reduceEqDiff]))
  refine wp_region_effA (S := fun _ => True) (I := (· = World.drew wb)) (E := fun i => [9].contains i) (A := fun i => [2, 5].contains i) (by kernel_rfl) (by kernel_rfl) rfl (fun _ _ => trivial) ?_
  have hc_r := hB_r.cell
  repeat (first | ((with_reducible apply lexA_q); (focus rfl); (focus rfl); (focus rfl); (focus (intro w' hS; simp [go_sem, effAt, ↓IntWalk.iteOmega, *]; (try go_ints); (first | (with_reducible exact effUpon_val) | (with_reducible exact effUpon_skip)))); (focus ((simp only [Act.put, List.setIfInBounds_toArray, List.set_cons_zero, List.set_cons_succ]; rfl)))) | ((with_reducible apply lexA_s); (focus rfl); (focus ((simp only [Act.put, List.setIfInBounds_toArray, List.set_cons_zero, List.set_cons_succ]; rfl)))) | ((with_reducible apply lexA_a); (focus rfl); (focus rfl); (focus rfl); (focus (intro w' hS; subst hS; simp [go_sem, effAt, ↓IntWalk.iteOmega, *]; (try go_ints); (first | (with_reducible exact effUpon_val) | (with_reducible exact effUpon_skip)))); (focus ((simp only [Act.put, List.setIfInBounds_toArray, List.set_cons_zero, List.set_cons_succ]; rfl)))))
  with_reducible apply lexA_e (fun w' => Blk w' g 74 #[.int .u64 (C : Int)] ∧ World.grownBy wb w' (some g))
  (focus (first | exact wanted_none rfl | exact wanted_yes rfl rfl rfl))
  focus rfl
  focus
    intro w' hS
    subst hS
    have hf_r := hB_r.frozen
    simp [go_sem, effAt, *]
    exact ⟨rfl, hB_r.drew.set_ 0 _, grown_undrew (grown_set (World.grownBy.refl _ _))⟩
  focus exact fun _ _ => trivial
  (focus (first | (apply put_some rfl; focus (conv => lhs; dsimp only [List.set_cons_zero, List.set_cons_succ]) <;> rfl) | exact put_none rfl))
  with_reducible apply lexA_nil
  rintro wc ⟨hB_n, hg_n⟩
  have hG2 := grown_trans hG hg_n
  clear hG
  have hG := hG2
  clear hG2
  clear hB_r hc_r hg_n
  have hB_r := hB_n
  clear hB_n
  have Fwc : Below wc.heap.size wc wc := Below.refl _ _
  repeat (first | with_reducible apply wpList_nil | with_reducible apply seq_region | with_reducible apply wp_region_lit | with_reducible apply wp_seq | ((with_reducible apply seq_q); (focus rfl); (focus (simp [go_sem, effAt, ↓IntWalk.iteOmega, *]; (try go_ints); (first | (with_reducible exact effUpon_val) | (with_reducible exact effUpon_skip)))); (focus ((simp only [Act.put, List.setIfInBounds_toArray, List.set_cons_zero, List.set_cons_succ]; rfl)))) | ((with_reducible apply seq_s); (focus rfl); (focus ((simp only [Act.put, List.setIfInBounds_toArray, List.set_cons_zero, List.set_cons_succ]; rfl)))) | with_reducible apply wp_block | with_reducible apply wp_skip | with_reducible apply wp_exit | with_reducible apply wp_ret | ((with_reducible apply wp_cond_true); (focus (first | rfl | (simp [go_sem, *]; done)))) | ((with_reducible apply wp_cond_false); (focus (first | rfl | (simp [go_sem, *]; done)))) | (simp only [Exit.then, Exit.inBlock, ↓reduceIte, Nat.reduceEqDiff]))
  have Fwc : Below wc.heap.size wc wc := Below.refl _ _
  have hc_r := hB_r.cell
  repeat (first | with_reducible apply wpList_nil | with_reducible apply seq_region | with_reducible apply wp_region_lit | with_reducible apply wp_seq | ((with_reducible apply seq_q); (focus rfl); (focus (simp [go_sem, effAt, ↓IntWalk.iteOmega, *]; (try go_ints); (first | (with_reducible exact effUpon_val) | (with_reducible exact effUpon_skip)))); (focus ((simp only [Act.put, List.setIfInBounds_toArray, List.set_cons_zero, List.set_cons_succ]; rfl)))) | ((with_reducible apply seq_s); (focus rfl); (focus ((simp only [Act.put, List.setIfInBounds_toArray, List.set_cons_zero, List.set_cons_succ]; rfl)))) | with_reducible apply wp_block | with_reducible apply wp_skip | with_reducible apply wp_exit | with_reducible apply wp_ret | ((with_reducible apply wp_cond_true); (focus (first | rfl | (simp [go_sem, *]; done)))) | ((with_reducible apply wp_cond_false); (focus (first | rfl | (simp [go_sem, *]; done)))) | (simp only [Exit.then, Exit.inBlock, ↓reduceIte, Nat.reduceEqDiff]))
  go_ret
  exact ⟨rfl, hB_r, hG⟩
end Go.Proofs.Ytckjgdlceckhpaa
