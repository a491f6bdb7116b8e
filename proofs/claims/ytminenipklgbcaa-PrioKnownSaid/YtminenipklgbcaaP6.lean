/- The walk of New. -/
import Derived.Test.YtminenipklgbcaaP5
set_option linter.unusedSimpArgs false
set_option linter.unusedVariables false
namespace Go.Proofs.Ytminenipklgbcaa
open Go.RowKit Go.Eff
attribute [local irreducible] Go.wpList
/-- a channel's class at first, but for channel 0 -/
def cls0 (d : Nat) : Nat := min (d ||| 7) 61
/-- as New leaves it behind i channels -/
def partS (i : Nat) : PS := ⟨(List.range 64).map fun d => if d < i then (cls0 d : Int) else 0, List.replicate 64 false, List.replicate 64 (-1)⟩
theorem part_step {i : Nat} (hi : i < 64) : (partS i).setC i (cls0 i) = partS (i + 1) := by
  unfold partS PS.setC
  congr 1
  apply List.ext_getElem
  · simp
  · intro j h1 h2
    simp at h1 h2
    rw [List.getElem_set]
    simp
    by_cases hij : i = j
    · subst hij; simp
    · rw [if_neg hij]
      by_cases h3 : j < i
      · rw [if_pos h3, if_pos (by omega)]
      · rw [if_neg h3, if_neg (by omega)]
theorem part_ok (i : Nat) : (partS i).Ok := by
  refine ⟨by simp [partS], by simp [partS], by simp [partS], fun d hd => ?_, fun d hd => ?_⟩
  · unfold partS PS.c cls0
    simp only [List.getD_eq_getElem?_getD]
    rw [List.getElem?_map, List.getElem?_range hd]
    simp
    split <;> omega
  · unfold partS PS.l
    simp only [List.getD_eq_getElem?_getD]
    rw [List.getElem?_replicate, if_pos hd]
    simp
def newS : PS := (partS 64).setC 0 0
theorem new_ok : newS.Ok := setC_ok (part_ok 64) (by omega)
theorem or7 : ∀ i : Fin 64, bits BinOp.or IntKind.i64 ((i.val : Nat) : Int) 7 = ((i.val ||| 7 : Nat) : Int) ∧ i.val ||| 7 ≤ 63 := by decide +kernel
theorem zero47 (w : World) : (Instr.build 47 #[]).run Try.prog w = .ok (.agg (cellsP (partS 0))) w := by kernel_rfl
theorem new_any (w : World) : Calls Try.prog 8 #[] w (Ret (.pointer (some ⟨w.heap.size, 0, none⟩)) fun w' => PB w' w.heap.size newS ∧ Below w.heap.size w w') := by
  obtain ⟨g, hg⟩ : ∃ g, w.heap.size = g := ⟨_, rfl⟩
  go_enter Try.func8, Try.ntmps8
  have F0 : Below w.heap.size w w := Below.refl _ _
  repeat (first | with_reducible apply wpList_nil | with_reducible apply seq_region | with_reducible apply wp_region_lit | with_reducible apply wp_seq | ((with_reducible apply seq_q); (focus rfl); (focus (simp [go_sem, effAt, ↓IntWalk.iteOmega, *]; (try go_ints); (first | (with_reducible exact effUpon_val) | (with_reducible exact effUpon_skip)))); (focus ((simp only [Act.put, List.setIfInBounds_toArray, List.set_cons_zero, List.set_cons_succ]; rfl)))) | ((with_reducible apply seq_s); (focus rfl); (focus ((simp only [Act.put, List.setIfInBounds_toArray, List.set_cons_zero, List.set_cons_succ]; rfl)))) | with_reducible apply wp_block | with_reducible apply wp_skip | with_reducible apply wp_exit | with_reducible apply wp_ret | ((with_reducible apply wp_cond_true); (focus (first | rfl | (simp [go_sem, *]; done)))) | ((with_reducible apply wp_cond_false); (focus (first | rfl | (simp [go_sem, *]; done)))) | (simp only [Exit.then, Exit.inBlock, ↓reduceIte, Nat.reduceEqDiff]))
  (with_reducible apply seq_q)
  (focus (first | exact wanted_none rfl | exact wanted_yes rfl rfl rfl))
  (focus exact effAt_build (pv := #[]) rfl (by simp) (zero47 _))
  (simp only [Act.put, List.setIfInBounds_toArray, List.set_cons_zero, List.set_cons_succ]; rfl)
  generalize hz : partS 0 = z0
  ((with_reducible apply seq_box); (focus rfl); (focus (simp [go_sem, effAt]; exact ⟨rfl, rfl⟩)); (focus ((simp only [Act.put, List.setIfInBounds_toArray, List.set_cons_zero, List.set_cons_succ]; rfl))))
  intro w1 hB_p hs
  have Fw1 := F0.trans (hs.mono F0.size)
  clear hs F0
  have hc_p := hB_p.cell
  have hB_p' : PB w1 w.heap.size (partS 0) := hz ▸ hB_p
  clear hB_p hc_p hz
  rw [hg] at hB_p' Fw1 ⊢
  repeat (first | with_reducible apply wpList_nil | with_reducible apply seq_region | with_reducible apply wp_region_lit | with_reducible apply wp_seq | ((with_reducible apply seq_q); (focus rfl); (focus (simp [go_sem, effAt, ↓IntWalk.iteOmega, *]; (try go_ints); (first | (with_reducible exact effUpon_val) | (with_reducible exact effUpon_skip)))); (focus ((simp only [Act.put, List.setIfInBounds_toArray, List.set_cons_zero, List.set_cons_succ]; rfl)))) | ((with_reducible apply seq_s); (focus rfl); (focus ((simp only [Act.put, List.setIfInBounds_toArray, List.set_cons_zero, List.set_cons_succ]; rfl)))) | with_reducible apply wp_block | with_reducible apply wp_skip | with_reducible apply wp_exit | with_reducible apply wp_ret | ((with_reducible apply wp_cond_true); (focus (first | rfl | (simp [go_sem, *]; done)))) | ((with_reducible apply wp_cond_false); (focus (first | rfl | (simp [go_sem, *]; done)))) | (simp only [Exit.then, Exit.inBlock, ↓reduceIte, Nat.reduceEqDiff]))
  go_loopg [5, 2] 64 (fun q v5 v2 wr => ∃ (i : Nat), v5 = .int .i64 (i : Int) ∧ i + q = 64 ∧ PB wr g (partS i) ∧ Below g w wr)
  case atStart => exact ⟨0, rfl, by omega, hB_p', Fw1⟩
  case round =>
    rename_i J K hJ hK
    obtain ⟨i, rfl, hi, hB_p, hF⟩ := hrel
    by_cases hlt : i < 64
    case pos =>
      have hlt' : (i : Int) < 64 := by omega
      have e1 := cellsP_c (part_ok i) hlt
      have e2 := cells_setC (part_ok i) hlt (cls0 i)
      rw [part_step hlt] at e2
      obtain ⟨k, hk1, hk2, hk3⟩ : ∃ k : Nat, bits BinOp.or IntKind.i64 (i : Int) 7 = (k : Int) ∧ k ≤ 63 ∧ k = i ||| 7 := ⟨_, (or7 ⟨i, hlt⟩).1, (or7 ⟨i, hlt⟩).2, rfl⟩
      have hcl : (cls0 i : Int) = min 61 (k : Int) := by unfold cls0; rw [← hk3]; omega
      rw [hcl] at e2
      clear hk3 hk2 hcl
      have Fwr : Below wr.heap.size wr wr := Below.refl _ _
      have hc_p := hB_p.cell
      repeat (first | with_reducible apply wpList_nil | with_reducible apply seq_region | with_reducible apply wp_region_lit | with_reducible apply wp_seq | ((with_reducible apply seq_q); (focus rfl); (focus (simp [go_sem, effAt, ↓IntWalk.iteOmega, *]; (try go_ints); (first | (with_reducible exact effUpon_val) | (with_reducible exact effUpon_skip)))); (focus ((simp only [Act.put, List.setIfInBounds_toArray, List.set_cons_zero, List.set_cons_succ]; rfl)))) | ((with_reducible apply seq_s); (focus rfl); (focus ((simp only [Act.put, List.setIfInBounds_toArray, List.set_cons_zero, List.set_cons_succ]; rfl)))) | with_reducible apply wp_block | with_reducible apply wp_skip | with_reducible apply wp_exit | with_reducible apply wp_ret | ((with_reducible apply wp_cond_true); (focus (first | rfl | (simp [go_sem, *]; done)))) | ((with_reducible apply wp_cond_false); (focus (first | rfl | (simp [go_sem, *]; done)))) | (simp only [Exit.then, Exit.inBlock, ↓reduceIte, Nat.reduceEqDiff]))
      have hf_p := hB_p.frozen
      with_reducible apply seq_e (fun w' => PB w' g (partS (i + 1)) ∧ wr.grownBy w' (some g))
      (focus (first | exact wanted_none rfl | exact wanted_yes rfl rfl rfl))
      (focus (simp [go_sem, effAt, *]; exact ⟨rfl, by have h := hB_p.set_ i (.int .u8 (min 61 (k : Int))); rw [e2] at h; exact h, grown_set (World.grownBy.refl _ _)⟩))
      (simp only [Act.put, List.setIfInBounds_toArray, List.set_cons_zero, List.set_cons_succ]; rfl)
      rintro u ⟨hP, hg2⟩
      have hG := hF.grown hg2 (by have := hF.size; omega) (by intro j hj; injection hj with hj; omega)
      clear hg2
      repeat (first | with_reducible apply wpList_nil | with_reducible apply seq_region | with_reducible apply wp_region_lit | with_reducible apply wp_seq | ((with_reducible apply seq_q); (focus rfl); (focus (simp [go_sem, effAt, ↓IntWalk.iteOmega, *]; (try go_ints); (first | (with_reducible exact effUpon_val) | (with_reducible exact effUpon_skip)))); (focus ((simp only [Act.put, List.setIfInBounds_toArray, List.set_cons_zero, List.set_cons_succ]; rfl)))) | ((with_reducible apply seq_s); (focus rfl); (focus ((simp only [Act.put, List.setIfInBounds_toArray, List.set_cons_zero, List.set_cons_succ]; rfl)))) | with_reducible apply wp_block | with_reducible apply wp_skip | with_reducible apply wp_exit | with_reducible apply wp_ret | ((with_reducible apply wp_cond_true); (focus (first | rfl | (simp [go_sem, *]; done)))) | ((with_reducible apply wp_cond_false); (focus (first | rfl | (simp [go_sem, *]; done)))) | (simp only [Exit.then, Exit.inBlock, ↓reduceIte, Nat.reduceEqDiff]))
      refine hK _ _ (Handed.intro (gk - 1) ?measure (hJ _ _ _ ?_))
      rotate_left
      (repeat apply Exists.intro)
      refine ⟨?rel, rfl⟩
      case rel => exact ⟨i + 1, by go_num, by omega, hP, hG⟩
      case measure => omega
    case neg =>
      obtain rfl : i = 64 := by omega
      have hlt' : ¬ ((64 : Nat) : Int) < 64 := by omega
      have e1 := cellsP_c (part_ok 64) (d := 0) (by omega)
      have e2 := cells_setC (part_ok 64) (d := 0) (by omega) 0
      have Fwr : Below wr.heap.size wr wr := Below.refl _ _
      have hc_p := hB_p.cell
      repeat (first | with_reducible apply wpList_nil | with_reducible apply seq_region | with_reducible apply wp_region_lit | with_reducible apply wp_seq | ((with_reducible apply seq_q); (focus rfl); (focus (simp [go_sem, effAt, ↓IntWalk.iteOmega, *]; (try go_ints); (first | (with_reducible exact effUpon_val) | (with_reducible exact effUpon_skip)))); (focus ((simp only [Act.put, List.setIfInBounds_toArray, List.set_cons_zero, List.set_cons_succ]; rfl)))) | ((with_reducible apply seq_s); (focus rfl); (focus ((simp only [Act.put, List.setIfInBounds_toArray, List.set_cons_zero, List.set_cons_succ]; rfl)))) | with_reducible apply wp_block | with_reducible apply wp_skip | with_reducible apply wp_exit | with_reducible apply wp_ret | ((with_reducible apply wp_cond_true); (focus (first | rfl | (simp [go_sem, *]; done)))) | ((with_reducible apply wp_cond_false); (focus (first | rfl | (simp [go_sem, *]; done)))) | (simp only [Exit.then, Exit.inBlock, ↓reduceIte, Nat.reduceEqDiff]))
      have hf_p := hB_p.frozen
      with_reducible apply seq_e (fun w' => PB w' g newS ∧ wr.grownBy w' (some g))
      (focus (first | exact wanted_none rfl | exact wanted_yes rfl rfl rfl))
      (focus (simp [go_sem, effAt, *]; exact ⟨rfl, by have h := hB_p.set_ 0 (.int .u8 0); rw [e2] at h; exact h, grown_set (World.grownBy.refl _ _)⟩))
      (simp only [Act.put, List.setIfInBounds_toArray, List.set_cons_zero, List.set_cons_succ]; rfl)
      rintro u ⟨hP, hg2⟩
      have hG := hF.grown hg2 (by have := hF.size; omega) (by intro j hj; injection hj with hj; omega)
      clear hg2
      repeat (first | with_reducible apply wpList_nil | with_reducible apply seq_region | with_reducible apply wp_region_lit | with_reducible apply wp_seq | ((with_reducible apply seq_q); (focus rfl); (focus (simp [go_sem, effAt, ↓IntWalk.iteOmega, *]; (try go_ints); (first | (with_reducible exact effUpon_val) | (with_reducible exact effUpon_skip)))); (focus ((simp only [Act.put, List.setIfInBounds_toArray, List.set_cons_zero, List.set_cons_succ]; rfl)))) | ((with_reducible apply seq_s); (focus rfl); (focus ((simp only [Act.put, List.setIfInBounds_toArray, List.set_cons_zero, List.set_cons_succ]; rfl)))) | with_reducible apply wp_block | with_reducible apply wp_skip | with_reducible apply wp_exit | with_reducible apply wp_ret | ((with_reducible apply wp_cond_true); (focus (first | rfl | (simp [go_sem, *]; done)))) | ((with_reducible apply wp_cond_false); (focus (first | rfl | (simp [go_sem, *]; done)))) | (simp only [Exit.then, Exit.inBlock, ↓reduceIte, Nat.reduceEqDiff]))
      go_ret
      exact ⟨rfl, hP, hG⟩
end Go.Proofs.Ytminenipklgbcaa
