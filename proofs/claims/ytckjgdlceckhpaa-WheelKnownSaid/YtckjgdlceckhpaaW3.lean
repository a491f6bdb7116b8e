/- The walks of Left and Count. -/
import Derived.Test.YtckjgdlceckhpaaW2
set_option linter.unusedSimpArgs false
set_option linter.unusedVariables false
namespace Go.Proofs.Ytckjgdlceckhpaa
open Go.RowKit Go.Eff
attribute [local irreducible] Go.wpList
theorem MapAt.below {w w' : World} {mb c : Nat} {es : List MapEntry} (h : MapAt w mb es c) (hb : Below w.heap.size w w') : MapAt w' mb es c := (hb.block mb h.lt).trans h
theorem left_nil (k : Int) (w : World) : Calls Try.prog 13 #[.pointer none, .int .u8 k] w (Ret (.int .i64 0) (Below w.heap.size w)) := by
  go_enter Try.func13, Try.ntmps13
  have F0 : Below w.heap.size w w := Below.refl _ _
  repeat (first | with_reducible apply wpList_nil | with_reducible apply seq_region | with_reducible apply wp_region_lit | with_reducible apply wp_seq | ((with_reducible apply seq_q); (focus rfl); (focus (simp [go_sem, effAt, ↓IntWalk.iteOmega, *]; (try go_ints); (first | (with_reducible exact effUpon_val) | (with_reducible exact effUpon_skip)))); (focus ((simp only [Act.put, List.setIfInBounds_toArray, List.set_cons_zero, List.set_cons_succ]; rfl)))) | ((with_reducible apply seq_s); (focus rfl); (focus ((simp only [Act.put, List.setIfInBounds_toArray, List.set_cons_zero, List.set_cons_succ]; rfl)))) | with_reducible apply wp_block | with_reducible apply wp_skip | with_reducible apply wp_exit | with_reducible apply wp_ret | ((with_reducible apply wp_cond_true); (focus (first | rfl | (simp [go_sem, *]; done)))) | ((with_reducible apply wp_cond_false); (focus (first | rfl | (simp [go_sem, *]; done)))) | (simp only [Exit.then, Exit.inBlock, ↓reduceIte, Nat.reduceEqDiff]))
  go_ret
  exact ⟨rfl, by assumption⟩
theorem count_nil (w : World) : Calls Try.prog 11 #[.pointer none] w (Ret (.int .i64 0) (Below w.heap.size w)) := by
  go_enter Try.func11, Try.ntmps11
  have F0 : Below w.heap.size w w := Below.refl _ _
  repeat (first | with_reducible apply wpList_nil | with_reducible apply seq_region | with_reducible apply wp_region_lit | with_reducible apply wp_seq | ((with_reducible apply seq_q); (focus rfl); (focus (simp [go_sem, effAt, ↓IntWalk.iteOmega, *]; (try go_ints); (first | (with_reducible exact effUpon_val) | (with_reducible exact effUpon_skip)))); (focus ((simp only [Act.put, List.setIfInBounds_toArray, List.set_cons_zero, List.set_cons_succ]; rfl)))) | ((with_reducible apply seq_s); (focus rfl); (focus ((simp only [Act.put, List.setIfInBounds_toArray, List.set_cons_zero, List.set_cons_succ]; rfl)))) | with_reducible apply wp_block | with_reducible apply wp_skip | with_reducible apply wp_exit | with_reducible apply wp_ret | ((with_reducible apply wp_cond_true); (focus (first | rfl | (simp [go_sem, *]; done)))) | ((with_reducible apply wp_cond_false); (focus (first | rfl | (simp [go_sem, *]; done)))) | (simp only [Exit.then, Exit.inBlock, ↓reduceIte, Nat.reduceEqDiff]))
  go_ret
  exact ⟨rfl, by assumption⟩
theorem count_raw {F : Nat → Prop} {w : World} {p : Nat} {s : Wh} (h : WI F w p s) : Calls Try.prog 11 #[ptr p] w (Ret (.int .i64 (s.M.length : Nat)) (Below w.heap.size w)) := by
  obtain ⟨es, c, hM, hE⟩ := h.hm
  have hB_p := h.hp
  have hl := ents_len hE
  generalize s.M.length = m at *
  go_enter Try.func11, Try.ntmps11
  have F0 : Below w.heap.size w w := Below.refl _ _
  have hc_p := hB_p.cell
  repeat (first | ((with_reducible apply seq_q); (focus rfl); (focus (exact eff_maplen rfl rfl hM hl)); (focus ((simp only [Act.put, List.setIfInBounds_toArray, List.set_cons_zero, List.set_cons_succ]; rfl)))) | with_reducible apply wpList_nil | with_reducible apply seq_region | with_reducible apply wp_region_lit | with_reducible apply wp_seq | ((with_reducible apply seq_q); (focus rfl); (focus (simp [go_sem, effAt, ↓IntWalk.iteOmega, *]; (try go_ints); (first | (with_reducible exact effUpon_val) | (with_reducible exact effUpon_skip)))); (focus ((simp only [Act.put, List.setIfInBounds_toArray, List.set_cons_zero, List.set_cons_succ]; rfl)))) | ((with_reducible apply seq_s); (focus rfl); (focus ((simp only [Act.put, List.setIfInBounds_toArray, List.set_cons_zero, List.set_cons_succ]; rfl)))) | with_reducible apply wp_block | with_reducible apply wp_skip | with_reducible apply wp_exit | with_reducible apply wp_ret | ((with_reducible apply wp_cond_true); (focus (first | rfl | (simp [go_sem, *]; done)))) | ((with_reducible apply wp_cond_false); (focus (first | rfl | (simp [go_sem, *]; done)))) | (simp only [Exit.then, Exit.inBlock, ↓reduceIte, Nat.reduceEqDiff]))
  go_ret
  exact ⟨rfl, by assumption⟩
theorem left_no {F : Nat → Prop} {w : World} {p k : Nat} {s : Wh} (h : WI F w p s) (hk : k ∉ s.M) : Calls Try.prog 13 #[ptr p, .int .u8 (k : Int)] w (Ret (.int .i64 0) (Below w.heap.size w)) := by
  obtain ⟨es, c, hM, hE⟩ := h.hm
  have hB_p := h.hp
  have hv : (if k ∈ s.M then ptr (s.B k) else .pointer none) = .pointer none := if_neg hk
  go_enter Try.func13, Try.ntmps13
  have F0 : Below w.heap.size w w := Below.refl _ _
  have hc_p := hB_p.cell
  repeat (first | ((with_reducible apply seq_q); (focus rfl); (focus (exact eff_lookup rfl rfl rfl hM hE hv)); (focus ((simp only [Act.put, List.setIfInBounds_toArray, List.set_cons_zero, List.set_cons_succ]; rfl)))) | with_reducible apply wpList_nil | with_reducible apply seq_region | with_reducible apply wp_region_lit | with_reducible apply wp_seq | ((with_reducible apply seq_q); (focus rfl); (focus (simp [go_sem, effAt, ↓IntWalk.iteOmega, *]; (try go_ints); (first | (with_reducible exact effUpon_val) | (with_reducible exact effUpon_skip)))); (focus ((simp only [Act.put, List.setIfInBounds_toArray, List.set_cons_zero, List.set_cons_succ]; rfl)))) | ((with_reducible apply seq_s); (focus rfl); (focus ((simp only [Act.put, List.setIfInBounds_toArray, List.set_cons_zero, List.set_cons_succ]; rfl)))) | with_reducible apply wp_block | with_reducible apply wp_skip | with_reducible apply wp_exit | with_reducible apply wp_ret | ((with_reducible apply wp_cond_true); (focus (first | rfl | (simp [go_sem, *]; done)))) | ((with_reducible apply wp_cond_false); (focus (first | rfl | (simp [go_sem, *]; done)))) | (simp only [Exit.then, Exit.inBlock, ↓reduceIte, Nat.reduceEqDiff]))
  go_ret
  exact ⟨rfl, by assumption⟩
set_option maxRecDepth 100000 in
theorem left_yes {F : Nat → Prop} {w : World} {p k r y sl x : Nat} {s : Wh} (h : WI F w p s) (hk : k ∈ s.M) (hr : s.Rd k = (r : Int)) (hsl : s.Sl k = sl) (hy : Int.tmod ((sl : Int) - (s.tt : Int) - 1 + (s.n : Int)) (s.n : Int) = (y : Int)) (hx : (r : Int) * (s.n : Int) = (x : Int)) (hx2 : x ≤ 100000) (hy2 : y ≤ 1000) :
    Calls Try.prog 13 #[ptr p, .int .u8 (k : Int)] w (Ret (.int .i64 ((x : Int) + (y : Int) + 1)) (Below w.heap.size w)) := by
  obtain ⟨es, c, hM, hE⟩ := h.hm
  have hB_p := h.hp
  have hB_e := h.he k hk
  rw [hr, hsl] at hB_e
  obtain ⟨b, hb⟩ : ∃ b, s.B k = b := ⟨_, rfl⟩
  have hv : (if k ∈ s.M then ptr (s.B k) else .pointer none) = ptr b := by rw [if_pos hk, hb]
  rw [hb] at hB_e
  clear hb
  have b1 : (s.n : Int) ≤ 256 := by have := h.n2; omega
  have b2 : (s.tt : Int) < (s.n : Int) := by have := h.t; omega
  have b3 : (sl : Int) < (s.n : Int) := by have := (h.lt k hk).2; omega
  have b4 : (x : Int) ≤ 100000 := by omega
  have b5 : (y : Int) ≤ 1000 := by omega
  have b6 : 1 ≤ (s.n : Int) := by omega
  have b7 : ((s.n : Int) == 0) = false := by simp; omega
  generalize s.n = n at *
  generalize s.tt = tt at *
  generalize s.sb = sb at *
  generalize s.mb = mb at *
  clear hr hsl hk h
  go_enter Try.func13, Try.ntmps13
  have F0 : Below w.heap.size w w := Below.refl _ _
  have hc_p := hB_p.cell
  have hc_e := hB_e.cell
  repeat (first | ((with_reducible apply seq_q); (focus rfl); (focus (exact eff_lookup rfl rfl rfl hM hE hv)); (focus ((simp only [Act.put, List.setIfInBounds_toArray, List.set_cons_zero, List.set_cons_succ]; rfl)))) | with_reducible apply wpList_nil | with_reducible apply seq_region | with_reducible apply wp_region_lit | with_reducible apply wp_seq | ((with_reducible apply seq_q); (focus rfl); (focus (simp [go_sem, effAt, ↓IntWalk.iteOmega, *]; (try go_ints); (first | (with_reducible exact effUpon_val) | (with_reducible exact effUpon_skip)))); (focus ((simp only [Act.put, List.setIfInBounds_toArray, List.set_cons_zero, List.set_cons_succ]; rfl)))) | ((with_reducible apply seq_s); (focus rfl); (focus ((simp only [Act.put, List.setIfInBounds_toArray, List.set_cons_zero, List.set_cons_succ]; rfl)))) | with_reducible apply wp_block | with_reducible apply wp_skip | with_reducible apply wp_exit | with_reducible apply wp_ret | ((with_reducible apply wp_cond_true); (focus (first | rfl | (simp [go_sem, *]; done)))) | ((with_reducible apply wp_cond_false); (focus (first | rfl | (simp [go_sem, *]; done)))) | (simp only [Exit.then, Exit.inBlock, ↓reduceIte, Nat.reduceEqDiff]))
  refine wp_region_pure (E := fun i => [].contains i) (by kernel_rfl) (by kernel_rfl) ?_
  repeat (first | ((with_reducible apply lex_q); (focus rfl); (focus rfl); (focus (intro w' hS; have hc_p := (hB_p.below hS hB_p.lt).cell; have hc_e := (hB_e.below hS hB_e.lt).cell; simp [go_sem, effAt, ↓IntWalk.iteOmega, *]; (try go_ints); (first | (with_reducible exact effUpon_val) | (with_reducible exact effUpon_skip)))); (focus ((simp only [Act.put, List.setIfInBounds_toArray, List.set_cons_zero, List.set_cons_succ]; rfl)))) | ((with_reducible apply lex_s); (focus rfl); (focus ((simp only [Act.put, List.setIfInBounds_toArray, List.set_cons_zero, List.set_cons_succ]; rfl)))))
  ((with_reducible apply lex_q); (focus rfl); (focus rfl); (focus (intro w' hS; exact eff_lookup rfl rfl rfl (hM.below hS) hE hv)); (focus ((simp only [Act.put, List.setIfInBounds_toArray, List.set_cons_zero, List.set_cons_succ]; rfl))))
  repeat (first | ((with_reducible apply lex_q); (focus rfl); (focus rfl); (focus (intro w' hS; have hc_p := (hB_p.below hS hB_p.lt).cell; have hc_e := (hB_e.below hS hB_e.lt).cell; simp [go_sem, effAt, ↓IntWalk.iteOmega, *]; (try go_ints); (first | (with_reducible exact effUpon_val) | (with_reducible exact effUpon_skip)))); (focus ((simp only [Act.put, List.setIfInBounds_toArray, List.set_cons_zero, List.set_cons_succ]; rfl)))) | ((with_reducible apply lex_s); (focus rfl); (focus ((simp only [Act.put, List.setIfInBounds_toArray, List.set_cons_zero, List.set_cons_succ]; rfl)))))
  with_reducible apply lex_nil
  intro w1 hs
  have Fw1 := F0.trans (hs.mono F0.size)
  replace hB_p := hB_p.below hs hB_p.lt
  replace hB_e := hB_e.below hs hB_e.lt
  clear hs F0
  clear hc_p; have hc_p := hB_p.cell
  clear hc_e; have hc_e := hB_e.cell
  repeat (first | with_reducible apply wpList_nil | with_reducible apply seq_region | with_reducible apply wp_region_lit | with_reducible apply wp_seq | ((with_reducible apply seq_q); (focus rfl); (focus (simp [go_sem, effAt, ↓IntWalk.iteOmega, *]; (try go_ints); (first | (with_reducible exact effUpon_val) | (with_reducible exact effUpon_skip)))); (focus ((simp only [Act.put, List.setIfInBounds_toArray, List.set_cons_zero, List.set_cons_succ]; rfl)))) | ((with_reducible apply seq_s); (focus rfl); (focus ((simp only [Act.put, List.setIfInBounds_toArray, List.set_cons_zero, List.set_cons_succ]; rfl)))) | with_reducible apply wp_block | with_reducible apply wp_skip | with_reducible apply wp_exit | with_reducible apply wp_ret | ((with_reducible apply wp_cond_true); (focus (first | rfl | (simp [go_sem, *]; done)))) | ((with_reducible apply wp_cond_false); (focus (first | rfl | (simp [go_sem, *]; done)))) | (simp only [Exit.then, Exit.inBlock, ↓reduceIte, Nat.reduceEqDiff]))
  refine wp_region_pure (E := fun i => [].contains i) (by kernel_rfl) (by kernel_rfl) ?_
  repeat (first | ((with_reducible apply lex_q); (focus rfl); (focus rfl); (focus (intro w' hS; have hc_p := (hB_p.below hS hB_p.lt).cell; have hc_e := (hB_e.below hS hB_e.lt).cell; simp [go_sem, effAt, ↓IntWalk.iteOmega, *]; (try go_ints); (first | (with_reducible exact effUpon_val) | (with_reducible exact effUpon_skip)))); (focus ((simp only [Act.put, List.setIfInBounds_toArray, List.set_cons_zero, List.set_cons_succ]; rfl)))) | ((with_reducible apply lex_s); (focus rfl); (focus ((simp only [Act.put, List.setIfInBounds_toArray, List.set_cons_zero, List.set_cons_succ]; rfl)))))
  with_reducible apply lex_nil
  intro w2 hs
  have Fw2 := Fw1.trans (hs.mono Fw1.size)
  replace hB_p := hB_p.below hs hB_p.lt
  replace hB_e := hB_e.below hs hB_e.lt
  clear hs Fw1
  clear hc_p; have hc_p := hB_p.cell
  clear hc_e; have hc_e := hB_e.cell
  repeat (first | with_reducible apply wpList_nil | with_reducible apply seq_region | with_reducible apply wp_region_lit | with_reducible apply wp_seq | ((with_reducible apply seq_q); (focus rfl); (focus (simp [go_sem, effAt, ↓IntWalk.iteOmega, *]; (try go_ints); (first | (with_reducible exact effUpon_val) | (with_reducible exact effUpon_skip)))); (focus ((simp only [Act.put, List.setIfInBounds_toArray, List.set_cons_zero, List.set_cons_succ]; rfl)))) | ((with_reducible apply seq_s); (focus rfl); (focus ((simp only [Act.put, List.setIfInBounds_toArray, List.set_cons_zero, List.set_cons_succ]; rfl)))) | with_reducible apply wp_block | with_reducible apply wp_skip | with_reducible apply wp_exit | with_reducible apply wp_ret | ((with_reducible apply wp_cond_true); (focus (first | rfl | (simp [go_sem, *]; done)))) | ((with_reducible apply wp_cond_false); (focus (first | rfl | (simp [go_sem, *]; done)))) | (simp only [Exit.then, Exit.inBlock, ↓reduceIte, Nat.reduceEqDiff]))
  go_ret
  exact ⟨by simp, by assumption⟩
end Go.Proofs.Ytckjgdlceckhpaa
