/- The walk of both Get, case by case. -/
import Derived.Test.YtcnckejeepkflaaW6
set_option linter.unusedSimpArgs false
set_option linter.unusedVariables false
namespace Go.Proofs.Ytcnckejeepkflaa
open Go.RowKit Go.Eff
set_option maxHeartbeats 2000000 in
theorem get_long (v : ByteArray) (w : World) (h : 8 < v.size) (h' : v.size ≤ 9223372036854775807) :
   Calls Try.prog 11 #[.string v] w (Ret (.tuple #[.agg #[.int .u8 0, .int .u8 0, .int .u8 0, .int .u8 0, .int .i64 0, .int .i64 0, .int .i64 0, .int .i64 0], .int .i64 70]) (Below w.heap.size w)) := by
  have b0 := oct_le v 0
  have b1 := oct_le v 1
  have b2 := oct_le v 2
  have b3 := oct_le v 3
  have b4 := oct_le v 4
  have b5 := oct_le v 5
  have b6 := oct_le v 6
  have b7 := oct_le v 7
  obtain ⟨l0, u0⟩ := b0
  obtain ⟨l1, u1⟩ := b1
  obtain ⟨l2, u2⟩ := b2
  obtain ⟨l3, u3⟩ := b3
  obtain ⟨l4, u4⟩ := b4
  obtain ⟨l5, u5⟩ := b5
  obtain ⟨l6, u6⟩ := b6
  obtain ⟨l7, u7⟩ := b7
  have e0 := oct_eq v 0 (by omega)
  have e1 := oct_eq v 1 (by omega)
  have e2 := oct_eq v 2 (by omega)
  have e3 := oct_eq v 3 (by omega)
  have e4 := oct_eq v 4 (by omega)
  have e5 := oct_eq v 5 (by omega)
  have e6 := oct_eq v 6 (by omega)
  have e7 := oct_eq v 7 (by omega)
  have i0 : 0 < v.size := by omega
  have i1 : (1 : Int) < (v.size : Int) := by omega
  have i2 : (2 : Int) < (v.size : Int) := by omega
  have i3 : (3 : Int) < (v.size : Int) := by omega
  have i4 : (4 : Int) < (v.size : Int) := by omega
  have i5 : (5 : Int) < (v.size : Int) := by omega
  have i6 : (6 : Int) < (v.size : Int) := by omega
  have i7 : (7 : Int) < (v.size : Int) := by omega
  have hlt : ¬ ((v.size : Int) < 8) := by omega
  have hand := and_eq (oct v 1) ⟨l1, u1⟩
  have hor := or_eq2 (oct v 4) (oct v 5) ⟨l4, u4⟩ ⟨l5, u5⟩
  have hgt : ((8 : Int) < (v.size : Int)) := by omega
  go_enter Try.func11, Try.ntmps11
  have F0 : Below w.heap.size w w := Below.refl _ _
  with_reducible apply seq_region
  ((with_reducible apply seq_box); (focus rfl); (focus (simp [go_sem, effAt]; exact ⟨rfl, rfl⟩)); (focus ((simp only [Act.put, List.setIfInBounds_toArray, List.set_cons_zero, List.set_cons_succ]; rfl))))
  intro w1 hB_r hs
  have Fw1 := F0.trans (hs.mono F0.size)
  clear hs F0
  have hc_r := hB_r.cell
  repeat (first | with_reducible apply wpList_nil | with_reducible apply seq_region | with_reducible apply wp_region_lit | with_reducible apply wp_seq | ((with_reducible apply seq_q); (focus rfl); (focus (simp [go_sem, effAt, ↓IntWalk.iteOmega, *]; (try go_ints); (first | (with_reducible exact effUpon_val) | (with_reducible exact effUpon_skip)))); (focus ((simp only [Act.put, List.setIfInBounds_toArray, List.set_cons_zero, List.set_cons_succ]; rfl)))) | ((with_reducible apply seq_s); (focus rfl); (focus ((simp only [Act.put, List.setIfInBounds_toArray, List.set_cons_zero, List.set_cons_succ]; rfl)))) | with_reducible apply wp_block | with_reducible apply wp_skip | with_reducible apply wp_exit | with_reducible apply wp_ret | ((with_reducible apply wp_cond_true); (focus (first | rfl | (simp [go_sem, *]; done)))) | ((with_reducible apply wp_cond_false); (focus (first | rfl | (simp [go_sem, *]; done)))) | (simp only [Exit.then, Exit.inBlock, ↓reduceIte, Nat.reduceEqDiff]))
  refine wp_region_eff (S := Below w1.heap.size w1) (I := (· = w1.drew)) (E := fun i => [28, 29].contains i) (by kernel_rfl) (by kernel_rfl) rfl (fun _ h => h ▸ (Below.refl _ _).drew) ?_
  repeat (first | ((with_reducible apply lex_q); (focus rfl); (focus rfl); (focus (intro w' hS; have hc_r := (hB_r.below hS hB_r.lt).cell; simp [go_sem, effAt, ↓IntWalk.iteOmega, *]; (try go_ints); (first | (with_reducible exact effUpon_val) | (with_reducible exact effUpon_skip)))); (focus ((simp only [Act.put, List.setIfInBounds_toArray, List.set_cons_zero, List.set_cons_succ]; rfl)))) | ((with_reducible apply lex_s); (focus rfl); (focus ((simp only [Act.put, List.setIfInBounds_toArray, List.set_cons_zero, List.set_cons_succ]; rfl)))))
  ((with_reducible apply lex_e (fun w' => Blk w' w1.heap.size _ _ ∧ Below w1.heap.size w1 w')); (focus rfl); (focus rfl); (focus (intro w' hw'; subst hw'; simp [go_sem, effAt]; exact ⟨rfl, Blk.new _ _ _, (Below.refl _ _).drew.alloc (Nat.le_refl _) _⟩)); (focus (exact fun _ h => h.2)); (focus ((simp only [Act.put, List.setIfInBounds_toArray, List.set_cons_zero, List.set_cons_succ]; rfl))))
  repeat (first | ((with_reducible apply lex_q); (focus rfl); (focus rfl); (focus (intro w' hS; have hc_r := (hB_r.below hS hB_r.lt).cell; simp [go_sem, effAt, ↓IntWalk.iteOmega, *]; (try go_ints); (first | (with_reducible exact effUpon_val) | (with_reducible exact effUpon_skip)))); (focus ((simp only [Act.put, List.setIfInBounds_toArray, List.set_cons_zero, List.set_cons_succ]; rfl)))) | ((with_reducible apply lex_s); (focus rfl); (focus ((simp only [Act.put, List.setIfInBounds_toArray, List.set_cons_zero, List.set_cons_succ]; rfl)))))
  ((with_reducible apply lex_e (fun w' => Blk w' w1.heap.size _ _ ∧ Below w1.heap.size w1 w')); (focus rfl); (focus rfl); (focus (intro w' hw'; obtain ⟨hBx, hbx⟩ := hw'; have hcx := hBx.cell; have hfx := hBx.frozen; simp [go_sem, effAt, *]; exact ⟨rfl, ((((((((hBx.set_ 0 _).set_ 1 _).set_ 2 _).set_ 3 _).set_ 4 _).set_ 5 _).set_ 6 _).set_ 7 _), ((((((((hbx.setCell (Nat.le_refl _) _).setCell (Nat.le_refl _) _).setCell (Nat.le_refl _) _).setCell (Nat.le_refl _) _).setCell (Nat.le_refl _) _).setCell (Nat.le_refl _) _).setCell (Nat.le_refl _) _).setCell (Nat.le_refl _) _)⟩)); (focus (exact fun _ h => h.2)); (focus ((simp only [Act.put, List.setIfInBounds_toArray, List.set_cons_zero, List.set_cons_succ]; rfl))))
  repeat (first | ((with_reducible apply lex_q); (focus rfl); (focus rfl); (focus (intro w' hS; have hc_r := (hB_r.below hS hB_r.lt).cell; simp [go_sem, effAt, ↓IntWalk.iteOmega, *]; (try go_ints); (first | (with_reducible exact effUpon_val) | (with_reducible exact effUpon_skip)))); (focus ((simp only [Act.put, List.setIfInBounds_toArray, List.set_cons_zero, List.set_cons_succ]; rfl)))) | ((with_reducible apply lex_s); (focus rfl); (focus ((simp only [Act.put, List.setIfInBounds_toArray, List.set_cons_zero, List.set_cons_succ]; rfl)))))
  have lt_r_p := hB_r.lt
  with_reducible apply lex_nil
  intro w2 hs
  obtain ⟨hB_p, hs⟩ := hs
  simp only [List.setIfInBounds_toArray, List.set_cons_zero, List.set_cons_succ] at hB_p
  have Fw2 := Fw1.trans (hs.mono Fw1.size)
  replace hB_r := hB_r.below hs hB_r.lt
  clear hs Fw1
  clear hc_r; have hc_r := hB_r.cell
  have hc_p := hB_p.cell
  repeat (first | with_reducible apply wpList_nil | with_reducible apply seq_region | with_reducible apply wp_region_lit | with_reducible apply wp_seq | ((with_reducible apply seq_q); (focus rfl); (focus (simp [go_sem, effAt, ↓IntWalk.iteOmega, *]; (try go_ints); (first | (with_reducible exact effUpon_val) | (with_reducible exact effUpon_skip)))); (focus ((simp only [Act.put, List.setIfInBounds_toArray, List.set_cons_zero, List.set_cons_succ]; rfl)))) | ((with_reducible apply seq_s); (focus rfl); (focus ((simp only [Act.put, List.setIfInBounds_toArray, List.set_cons_zero, List.set_cons_succ]; rfl)))) | with_reducible apply wp_block | with_reducible apply wp_skip | with_reducible apply wp_exit | with_reducible apply wp_ret | ((with_reducible apply wp_cond_true); (focus (first | rfl | (simp [go_sem, *]; done)))) | ((with_reducible apply wp_cond_false); (focus (first | rfl | (simp [go_sem, *]; done)))) | (simp only [Exit.then, Exit.inBlock, ↓reduceIte, Nat.reduceEqDiff]))
  have hf_r := hB_r.frozen
  ((with_reducible apply seq_e (fun w' => Blk w' _ _ _ ∧ w2.grownBy w' (some _))); (focus rfl); (focus (simp [go_sem, effAt, *]; exact ⟨rfl, ((((((((hB_r.set_ 0 _).set_ 1 _).set_ 2 _).set_ 3 _).set_ 4 _).set_ 5 _).set_ 6 _).set_ 7 _), (grown_set (grown_set (grown_set (grown_set (grown_set (grown_set (grown_set (grown_set (World.grownBy.refl _ _)))))))))⟩)); (focus ((simp only [Act.put, List.setIfInBounds_toArray, List.set_cons_zero, List.set_cons_succ]; rfl))))
  clear hf_r hc_r hB_r
  intro w3 hs
  obtain ⟨hB_r, hs⟩ := hs
  simp only [List.setIfInBounds_toArray, List.set_cons_zero, List.set_cons_succ] at hB_r
  have Fw3 := Fw2.grown hs Fw2.size (by intro k hk; first | (injection hk with hk; subst hk; first | exact Nat.le_refl _ | exact Fw2.size | omega) | omega)
  replace hB_p := hB_p.grown hs (by intro hk; injection hk with hk; have := hB_p.lt; have := hB_r.lt; omega)
  clear hs Fw2
  clear hc_p; have hc_p := hB_p.cell
  have hc_r := hB_r.cell
  repeat (first | with_reducible apply wpList_nil | with_reducible apply seq_region | with_reducible apply wp_region_lit | with_reducible apply wp_seq | ((with_reducible apply seq_q); (focus rfl); (focus (simp [go_sem, effAt, ↓IntWalk.iteOmega, *]; (try go_ints); (first | (with_reducible exact effUpon_val) | (with_reducible exact effUpon_skip)))); (focus ((simp only [Act.put, List.setIfInBounds_toArray, List.set_cons_zero, List.set_cons_succ]; rfl)))) | ((with_reducible apply seq_s); (focus rfl); (focus ((simp only [Act.put, List.setIfInBounds_toArray, List.set_cons_zero, List.set_cons_succ]; rfl)))) | with_reducible apply wp_block | with_reducible apply wp_skip | with_reducible apply wp_exit | with_reducible apply wp_ret | ((with_reducible apply wp_cond_true); (focus (first | rfl | (simp [go_sem, *]; done)))) | ((with_reducible apply wp_cond_false); (focus (first | rfl | (simp [go_sem, *]; done)))) | (simp only [Exit.then, Exit.inBlock, ↓reduceIte, Nat.reduceEqDiff]))
  refine bodyPost_ret (v := .tuple #[.agg #[.int .u8 0, .int .u8 0, .int .u8 0, .int .u8 0, .int .i64 0, .int .i64 0, .int .i64 0, .int .i64 0], .int .i64 70]) (by simp [results, Try.results11, go_sem, *]) rfl ⟨rfl, by assumption⟩
set_option maxHeartbeats 2000000 in
theorem get_bad (v : ByteArray) (w : World) (h : 8 ≤ v.size) (h8 : v.size ≤ 8) (hp : ¬ GetP v) :
   Calls Try.prog 11 #[.string v] w (Ret (.tuple #[.agg #[.int .u8 0, .int .u8 0, .int .u8 0, .int .u8 0, .int .i64 0, .int .i64 0, .int .i64 0, .int .i64 0], .int .i64 70]) (Below w.heap.size w)) := by
  have b0 := oct_le v 0
  have b1 := oct_le v 1
  have b2 := oct_le v 2
  have b3 := oct_le v 3
  have b4 := oct_le v 4
  have b5 := oct_le v 5
  have b6 := oct_le v 6
  have b7 := oct_le v 7
  obtain ⟨l0, u0⟩ := b0
  obtain ⟨l1, u1⟩ := b1
  obtain ⟨l2, u2⟩ := b2
  obtain ⟨l3, u3⟩ := b3
  obtain ⟨l4, u4⟩ := b4
  obtain ⟨l5, u5⟩ := b5
  obtain ⟨l6, u6⟩ := b6
  obtain ⟨l7, u7⟩ := b7
  have e0 := oct_eq v 0 (by omega)
  have e1 := oct_eq v 1 (by omega)
  have e2 := oct_eq v 2 (by omega)
  have e3 := oct_eq v 3 (by omega)
  have e4 := oct_eq v 4 (by omega)
  have e5 := oct_eq v 5 (by omega)
  have e6 := oct_eq v 6 (by omega)
  have e7 := oct_eq v 7 (by omega)
  have i0 : 0 < v.size := by omega
  have i1 : (1 : Int) < (v.size : Int) := by omega
  have i2 : (2 : Int) < (v.size : Int) := by omega
  have i3 : (3 : Int) < (v.size : Int) := by omega
  have i4 : (4 : Int) < (v.size : Int) := by omega
  have i5 : (5 : Int) < (v.size : Int) := by omega
  have i6 : (6 : Int) < (v.size : Int) := by omega
  have i7 : (7 : Int) < (v.size : Int) := by omega
  have hlt : ¬ ((v.size : Int) < 8) := by omega
  have hand := and_eq (oct v 1) ⟨l1, u1⟩
  have hor := or_eq2 (oct v 4) (oct v 5) ⟨l4, u4⟩ ⟨l5, u5⟩
  have hgt : ¬ ((8 : Int) < (v.size : Int)) := by omega
  have hm := mayB_f hp
  go_enter Try.func11, Try.ntmps11
  have F0 : Below w.heap.size w w := Below.refl _ _
  with_reducible apply seq_region
  ((with_reducible apply seq_box); (focus rfl); (focus (simp [go_sem, effAt]; exact ⟨rfl, rfl⟩)); (focus ((simp only [Act.put, List.setIfInBounds_toArray, List.set_cons_zero, List.set_cons_succ]; rfl))))
  intro w1 hB_r hs
  have Fw1 := F0.trans (hs.mono F0.size)
  clear hs F0
  have hc_r := hB_r.cell
  repeat (first | with_reducible apply wpList_nil | with_reducible apply seq_region | with_reducible apply wp_region_lit | with_reducible apply wp_seq | ((with_reducible apply seq_q); (focus rfl); (focus (simp [go_sem, effAt, ↓IntWalk.iteOmega, *]; (try go_ints); (first | (with_reducible exact effUpon_val) | (with_reducible exact effUpon_skip)))); (focus ((simp only [Act.put, List.setIfInBounds_toArray, List.set_cons_zero, List.set_cons_succ]; rfl)))) | ((with_reducible apply seq_s); (focus rfl); (focus ((simp only [Act.put, List.setIfInBounds_toArray, List.set_cons_zero, List.set_cons_succ]; rfl)))) | with_reducible apply wp_block | with_reducible apply wp_skip | with_reducible apply wp_exit | with_reducible apply wp_ret | ((with_reducible apply wp_cond_true); (focus (first | rfl | (simp [go_sem, *]; done)))) | ((with_reducible apply wp_cond_false); (focus (first | rfl | (simp [go_sem, *]; done)))) | (simp only [Exit.then, Exit.inBlock, ↓reduceIte, Nat.reduceEqDiff]))
  refine wp_region_eff (S := Below w1.heap.size w1) (I := (· = w1.drew)) (E := fun i => [28, 29].contains i) (by kernel_rfl) (by kernel_rfl) rfl (fun _ h => h ▸ (Below.refl _ _).drew) ?_
  repeat (first | ((with_reducible apply lex_q); (focus rfl); (focus rfl); (focus (intro w' hS; have hc_r := (hB_r.below hS hB_r.lt).cell; simp [go_sem, effAt, ↓IntWalk.iteOmega, *]; (try go_ints); (first | (with_reducible exact effUpon_val) | (with_reducible exact effUpon_skip)))); (focus ((simp only [Act.put, List.setIfInBounds_toArray, List.set_cons_zero, List.set_cons_succ]; rfl)))) | ((with_reducible apply lex_s); (focus rfl); (focus ((simp only [Act.put, List.setIfInBounds_toArray, List.set_cons_zero, List.set_cons_succ]; rfl)))))
  ((with_reducible apply lex_e (fun w' => Blk w' w1.heap.size _ _ ∧ Below w1.heap.size w1 w')); (focus rfl); (focus rfl); (focus (intro w' hw'; subst hw'; simp [go_sem, effAt]; exact ⟨rfl, Blk.new _ _ _, (Below.refl _ _).drew.alloc (Nat.le_refl _) _⟩)); (focus (exact fun _ h => h.2)); (focus ((simp only [Act.put, List.setIfInBounds_toArray, List.set_cons_zero, List.set_cons_succ]; rfl))))
  repeat (first | ((with_reducible apply lex_q); (focus rfl); (focus rfl); (focus (intro w' hS; have hc_r := (hB_r.below hS hB_r.lt).cell; simp [go_sem, effAt, ↓IntWalk.iteOmega, *]; (try go_ints); (first | (with_reducible exact effUpon_val) | (with_reducible exact effUpon_skip)))); (focus ((simp only [Act.put, List.setIfInBounds_toArray, List.set_cons_zero, List.set_cons_succ]; rfl)))) | ((with_reducible apply lex_s); (focus rfl); (focus ((simp only [Act.put, List.setIfInBounds_toArray, List.set_cons_zero, List.set_cons_succ]; rfl)))))
  ((with_reducible apply lex_e (fun w' => Blk w' w1.heap.size _ _ ∧ Below w1.heap.size w1 w')); (focus rfl); (focus rfl); (focus (intro w' hw'; obtain ⟨hBx, hbx⟩ := hw'; have hcx := hBx.cell; have hfx := hBx.frozen; simp [go_sem, effAt, *]; exact ⟨rfl, ((((((((hBx.set_ 0 _).set_ 1 _).set_ 2 _).set_ 3 _).set_ 4 _).set_ 5 _).set_ 6 _).set_ 7 _), ((((((((hbx.setCell (Nat.le_refl _) _).setCell (Nat.le_refl _) _).setCell (Nat.le_refl _) _).setCell (Nat.le_refl _) _).setCell (Nat.le_refl _) _).setCell (Nat.le_refl _) _).setCell (Nat.le_refl _) _).setCell (Nat.le_refl _) _)⟩)); (focus (exact fun _ h => h.2)); (focus ((simp only [Act.put, List.setIfInBounds_toArray, List.set_cons_zero, List.set_cons_succ]; rfl))))
  repeat (first | ((with_reducible apply lex_q); (focus rfl); (focus rfl); (focus (intro w' hS; have hc_r := (hB_r.below hS hB_r.lt).cell; simp [go_sem, effAt, ↓IntWalk.iteOmega, *]; (try go_ints); (first | (with_reducible exact effUpon_val) | (with_reducible exact effUpon_skip)))); (focus ((simp only [Act.put, List.setIfInBounds_toArray, List.set_cons_zero, List.set_cons_succ]; rfl)))) | ((with_reducible apply lex_s); (focus rfl); (focus ((simp only [Act.put, List.setIfInBounds_toArray, List.set_cons_zero, List.set_cons_succ]; rfl)))))
  have lt_r_p := hB_r.lt
  with_reducible apply lex_nil
  intro w2 hs
  obtain ⟨hB_p, hs⟩ := hs
  simp only [List.setIfInBounds_toArray, List.set_cons_zero, List.set_cons_succ] at hB_p
  have Fw2 := Fw1.trans (hs.mono Fw1.size)
  replace hB_r := hB_r.below hs hB_r.lt
  clear hs Fw1
  clear hc_r; have hc_r := hB_r.cell
  have hc_p := hB_p.cell
  repeat (first | with_reducible apply wpList_nil | with_reducible apply seq_region | with_reducible apply wp_region_lit | with_reducible apply wp_seq | ((with_reducible apply seq_q); (focus rfl); (focus (simp [go_sem, effAt, ↓IntWalk.iteOmega, *]; (try go_ints); (first | (with_reducible exact effUpon_val) | (with_reducible exact effUpon_skip)))); (focus ((simp only [Act.put, List.setIfInBounds_toArray, List.set_cons_zero, List.set_cons_succ]; rfl)))) | ((with_reducible apply seq_s); (focus rfl); (focus ((simp only [Act.put, List.setIfInBounds_toArray, List.set_cons_zero, List.set_cons_succ]; rfl)))) | with_reducible apply wp_block | with_reducible apply wp_skip | with_reducible apply wp_exit | with_reducible apply wp_ret | ((with_reducible apply wp_cond_true); (focus (first | rfl | (simp [go_sem, *]; done)))) | ((with_reducible apply wp_cond_false); (focus (first | rfl | (simp [go_sem, *]; done)))) | (simp only [Exit.then, Exit.inBlock, ↓reduceIte, Nat.reduceEqDiff]))
  ((with_reducible apply seq_e (Below w2.heap.size w2)); (focus rfl); (focus (simp only [effAt]; simp [go_sem]; (with_reducible exact effUpon_enter (hm ▸ may_any _ _ _ _ _ _ _ _ _)))); (focus ((simp only [Act.put, List.setIfInBounds_toArray, List.set_cons_zero, List.set_cons_succ]; rfl))))
  intro w3 hs
  have Fw3 := Fw2.trans (hs.mono Fw2.size)
  replace hB_r := hB_r.below hs hB_r.lt
  replace hB_p := hB_p.below hs hB_p.lt
  clear hs Fw2
  clear hc_r; have hc_r := hB_r.cell
  clear hc_p; have hc_p := hB_p.cell
  repeat (first | with_reducible apply wpList_nil | with_reducible apply seq_region | with_reducible apply wp_region_lit | with_reducible apply wp_seq | ((with_reducible apply seq_q); (focus rfl); (focus (simp [go_sem, effAt, ↓IntWalk.iteOmega, *]; (try go_ints); (first | (with_reducible exact effUpon_val) | (with_reducible exact effUpon_skip)))); (focus ((simp only [Act.put, List.setIfInBounds_toArray, List.set_cons_zero, List.set_cons_succ]; rfl)))) | ((with_reducible apply seq_s); (focus rfl); (focus ((simp only [Act.put, List.setIfInBounds_toArray, List.set_cons_zero, List.set_cons_succ]; rfl)))) | with_reducible apply wp_block | with_reducible apply wp_skip | with_reducible apply wp_exit | with_reducible apply wp_ret | ((with_reducible apply wp_cond_true); (focus (first | rfl | (simp [go_sem, *]; done)))) | ((with_reducible apply wp_cond_false); (focus (first | rfl | (simp [go_sem, *]; done)))) | (simp only [Exit.then, Exit.inBlock, ↓reduceIte, Nat.reduceEqDiff]))
  have hf_r := hB_r.frozen
  ((with_reducible apply seq_e (fun w' => Blk w' _ _ _ ∧ w3.grownBy w' (some _))); (focus rfl); (focus (simp [go_sem, effAt, *]; exact ⟨rfl, ((((((((hB_r.set_ 0 _).set_ 1 _).set_ 2 _).set_ 3 _).set_ 4 _).set_ 5 _).set_ 6 _).set_ 7 _), (grown_set (grown_set (grown_set (grown_set (grown_set (grown_set (grown_set (grown_set (World.grownBy.refl _ _)))))))))⟩)); (focus ((simp only [Act.put, List.setIfInBounds_toArray, List.set_cons_zero, List.set_cons_succ]; rfl))))
  clear hf_r hc_r hB_r
  intro w4 hs
  obtain ⟨hB_r, hs⟩ := hs
  simp only [List.setIfInBounds_toArray, List.set_cons_zero, List.set_cons_succ] at hB_r
  have Fw4 := Fw3.grown hs Fw3.size (by intro k hk; first | (injection hk with hk; subst hk; first | exact Nat.le_refl _ | exact Fw3.size | omega) | omega)
  replace hB_p := hB_p.grown hs (by intro hk; injection hk with hk; have := hB_p.lt; have := hB_r.lt; omega)
  clear hs Fw3
  clear hc_p; have hc_p := hB_p.cell
  have hc_r := hB_r.cell
  repeat (first | with_reducible apply wpList_nil | with_reducible apply seq_region | with_reducible apply wp_region_lit | with_reducible apply wp_seq | ((with_reducible apply seq_q); (focus rfl); (focus (simp [go_sem, effAt, ↓IntWalk.iteOmega, *]; (try go_ints); (first | (with_reducible exact effUpon_val) | (with_reducible exact effUpon_skip)))); (focus ((simp only [Act.put, List.setIfInBounds_toArray, List.set_cons_zero, List.set_cons_succ]; rfl)))) | ((with_reducible apply seq_s); (focus rfl); (focus ((simp only [Act.put, List.setIfInBounds_toArray, List.set_cons_zero, List.set_cons_succ]; rfl)))) | with_reducible apply wp_block | with_reducible apply wp_skip | with_reducible apply wp_exit | with_reducible apply wp_ret | ((with_reducible apply wp_cond_true); (focus (first | rfl | (simp [go_sem, *]; done)))) | ((with_reducible apply wp_cond_false); (focus (first | rfl | (simp [go_sem, *]; done)))) | (simp only [Exit.then, Exit.inBlock, ↓reduceIte, Nat.reduceEqDiff]))
  refine bodyPost_ret (v := .tuple #[.agg #[.int .u8 0, .int .u8 0, .int .u8 0, .int .u8 0, .int .i64 0, .int .i64 0, .int .i64 0, .int .i64 0], .int .i64 70]) (by simp [results, Try.results11, go_sem, *]) rfl ⟨rfl, by assumption⟩
set_option maxHeartbeats 2000000 in
theorem get_ok (v : ByteArray) (w : World) (h : 8 ≤ v.size) (h8 : v.size ≤ 8) (hp : GetP v) :
   Calls Try.prog 11 #[.string v] w (Ret (.tuple #[.agg #[.int .u8 (oct v 0), .int .u8 (oct v 1 % 16), .int .u8 (oct v 1 / 16), .int .u8 (oct v 2), .int .i64 (oct v 3), .int .i64 (oct v 4 + 256 * oct v 5), .int .i64 (oct v 6), .int .i64 (oct v 7)], .int .i64 0]) (Below w.heap.size w)) := by
  have b0 := oct_le v 0
  have b1 := oct_le v 1
  have b2 := oct_le v 2
  have b3 := oct_le v 3
  have b4 := oct_le v 4
  have b5 := oct_le v 5
  have b6 := oct_le v 6
  have b7 := oct_le v 7
  obtain ⟨l0, u0⟩ := b0
  obtain ⟨l1, u1⟩ := b1
  obtain ⟨l2, u2⟩ := b2
  obtain ⟨l3, u3⟩ := b3
  obtain ⟨l4, u4⟩ := b4
  obtain ⟨l5, u5⟩ := b5
  obtain ⟨l6, u6⟩ := b6
  obtain ⟨l7, u7⟩ := b7
  have e0 := oct_eq v 0 (by omega)
  have e1 := oct_eq v 1 (by omega)
  have e2 := oct_eq v 2 (by omega)
  have e3 := oct_eq v 3 (by omega)
  have e4 := oct_eq v 4 (by omega)
  have e5 := oct_eq v 5 (by omega)
  have e6 := oct_eq v 6 (by omega)
  have e7 := oct_eq v 7 (by omega)
  have i0 : 0 < v.size := by omega
  have i1 : (1 : Int) < (v.size : Int) := by omega
  have i2 : (2 : Int) < (v.size : Int) := by omega
  have i3 : (3 : Int) < (v.size : Int) := by omega
  have i4 : (4 : Int) < (v.size : Int) := by omega
  have i5 : (5 : Int) < (v.size : Int) := by omega
  have i6 : (6 : Int) < (v.size : Int) := by omega
  have i7 : (7 : Int) < (v.size : Int) := by omega
  have hlt : ¬ ((v.size : Int) < 8) := by omega
  have hand := and_eq (oct v 1) ⟨l1, u1⟩
  have hor := or_eq2 (oct v 4) (oct v 5) ⟨l4, u4⟩ ⟨l5, u5⟩
  have hgt : ¬ ((8 : Int) < (v.size : Int)) := by omega
  have hm := mayB_t hp
  go_enter Try.func11, Try.ntmps11
  have F0 : Below w.heap.size w w := Below.refl _ _
  with_reducible apply seq_region
  ((with_reducible apply seq_box); (focus rfl); (focus (simp [go_sem, effAt]; exact ⟨rfl, rfl⟩)); (focus ((simp only [Act.put, List.setIfInBounds_toArray, List.set_cons_zero, List.set_cons_succ]; rfl))))
  intro w1 hB_r hs
  have Fw1 := F0.trans (hs.mono F0.size)
  clear hs F0
  have hc_r := hB_r.cell
  repeat (first | with_reducible apply wpList_nil | with_reducible apply seq_region | with_reducible apply wp_region_lit | with_reducible apply wp_seq | ((with_reducible apply seq_q); (focus rfl); (focus (simp [go_sem, effAt, ↓IntWalk.iteOmega, *]; (try go_ints); (first | (with_reducible exact effUpon_val) | (with_reducible exact effUpon_skip)))); (focus ((simp only [Act.put, List.setIfInBounds_toArray, List.set_cons_zero, List.set_cons_succ]; rfl)))) | ((with_reducible apply seq_s); (focus rfl); (focus ((simp only [Act.put, List.setIfInBounds_toArray, List.set_cons_zero, List.set_cons_succ]; rfl)))) | with_reducible apply wp_block | with_reducible apply wp_skip | with_reducible apply wp_exit | with_reducible apply wp_ret | ((with_reducible apply wp_cond_true); (focus (first | rfl | (simp [go_sem, *]; done)))) | ((with_reducible apply wp_cond_false); (focus (first | rfl | (simp [go_sem, *]; done)))) | (simp only [Exit.then, Exit.inBlock, ↓reduceIte, Nat.reduceEqDiff]))
  refine wp_region_eff (S := Below w1.heap.size w1) (I := (· = w1.drew)) (E := fun i => [28, 29].contains i) (by kernel_rfl) (by kernel_rfl) rfl (fun _ h => h ▸ (Below.refl _ _).drew) ?_
  repeat (first | ((with_reducible apply lex_q); (focus rfl); (focus rfl); (focus (intro w' hS; have hc_r := (hB_r.below hS hB_r.lt).cell; simp [go_sem, effAt, ↓IntWalk.iteOmega, *]; (try go_ints); (first | (with_reducible exact effUpon_val) | (with_reducible exact effUpon_skip)))); (focus ((simp only [Act.put, List.setIfInBounds_toArray, List.set_cons_zero, List.set_cons_succ]; rfl)))) | ((with_reducible apply lex_s); (focus rfl); (focus ((simp only [Act.put, List.setIfInBounds_toArray, List.set_cons_zero, List.set_cons_succ]; rfl)))))
  ((with_reducible apply lex_e (fun w' => Blk w' w1.heap.size _ _ ∧ Below w1.heap.size w1 w')); (focus rfl); (focus rfl); (focus (intro w' hw'; subst hw'; simp [go_sem, effAt]; exact ⟨rfl, Blk.new _ _ _, (Below.refl _ _).drew.alloc (Nat.le_refl _) _⟩)); (focus (exact fun _ h => h.2)); (focus ((simp only [Act.put, List.setIfInBounds_toArray, List.set_cons_zero, List.set_cons_succ]; rfl))))
  repeat (first | ((with_reducible apply lex_q); (focus rfl); (focus rfl); (focus (intro w' hS; have hc_r := (hB_r.below hS hB_r.lt).cell; simp [go_sem, effAt, ↓IntWalk.iteOmega, *]; (try go_ints); (first | (with_reducible exact effUpon_val) | (with_reducible exact effUpon_skip)))); (focus ((simp only [Act.put, List.setIfInBounds_toArray, List.set_cons_zero, List.set_cons_succ]; rfl)))) | ((with_reducible apply lex_s); (focus rfl); (focus ((simp only [Act.put, List.setIfInBounds_toArray, List.set_cons_zero, List.set_cons_succ]; rfl)))))
  ((with_reducible apply lex_e (fun w' => Blk w' w1.heap.size _ _ ∧ Below w1.heap.size w1 w')); (focus rfl); (focus rfl); (focus (intro w' hw'; obtain ⟨hBx, hbx⟩ := hw'; have hcx := hBx.cell; have hfx := hBx.frozen; simp [go_sem, effAt, *]; exact ⟨rfl, ((((((((hBx.set_ 0 _).set_ 1 _).set_ 2 _).set_ 3 _).set_ 4 _).set_ 5 _).set_ 6 _).set_ 7 _), ((((((((hbx.setCell (Nat.le_refl _) _).setCell (Nat.le_refl _) _).setCell (Nat.le_refl _) _).setCell (Nat.le_refl _) _).setCell (Nat.le_refl _) _).setCell (Nat.le_refl _) _).setCell (Nat.le_refl _) _).setCell (Nat.le_refl _) _)⟩)); (focus (exact fun _ h => h.2)); (focus ((simp only [Act.put, List.setIfInBounds_toArray, List.set_cons_zero, List.set_cons_succ]; rfl))))
  repeat (first | ((with_reducible apply lex_q); (focus rfl); (focus rfl); (focus (intro w' hS; have hc_r := (hB_r.below hS hB_r.lt).cell; simp [go_sem, effAt, ↓IntWalk.iteOmega, *]; (try go_ints); (first | (with_reducible exact effUpon_val) | (with_reducible exact effUpon_skip)))); (focus ((simp only [Act.put, List.setIfInBounds_toArray, List.set_cons_zero, List.set_cons_succ]; rfl)))) | ((with_reducible apply lex_s); (focus rfl); (focus ((simp only [Act.put, List.setIfInBounds_toArray, List.set_cons_zero, List.set_cons_succ]; rfl)))))
  have lt_r_p := hB_r.lt
  with_reducible apply lex_nil
  intro w2 hs
  obtain ⟨hB_p, hs⟩ := hs
  simp only [List.setIfInBounds_toArray, List.set_cons_zero, List.set_cons_succ] at hB_p
  have Fw2 := Fw1.trans (hs.mono Fw1.size)
  replace hB_r := hB_r.below hs hB_r.lt
  clear hs Fw1
  clear hc_r; have hc_r := hB_r.cell
  have hc_p := hB_p.cell
  repeat (first | with_reducible apply wpList_nil | with_reducible apply seq_region | with_reducible apply wp_region_lit | with_reducible apply wp_seq | ((with_reducible apply seq_q); (focus rfl); (focus (simp [go_sem, effAt, ↓IntWalk.iteOmega, *]; (try go_ints); (first | (with_reducible exact effUpon_val) | (with_reducible exact effUpon_skip)))); (focus ((simp only [Act.put, List.setIfInBounds_toArray, List.set_cons_zero, List.set_cons_succ]; rfl)))) | ((with_reducible apply seq_s); (focus rfl); (focus ((simp only [Act.put, List.setIfInBounds_toArray, List.set_cons_zero, List.set_cons_succ]; rfl)))) | with_reducible apply wp_block | with_reducible apply wp_skip | with_reducible apply wp_exit | with_reducible apply wp_ret | ((with_reducible apply wp_cond_true); (focus (first | rfl | (simp [go_sem, *]; done)))) | ((with_reducible apply wp_cond_false); (focus (first | rfl | (simp [go_sem, *]; done)))) | (simp only [Exit.then, Exit.inBlock, ↓reduceIte, Nat.reduceEqDiff]))
  ((with_reducible apply seq_e (Below w2.heap.size w2)); (focus rfl); (focus (simp only [effAt]; simp [go_sem]; (with_reducible exact effUpon_enter (hm ▸ may_any _ _ _ _ _ _ _ _ _)))); (focus ((simp only [Act.put, List.setIfInBounds_toArray, List.set_cons_zero, List.set_cons_succ]; rfl))))
  intro w3 hs
  have Fw3 := Fw2.trans (hs.mono Fw2.size)
  replace hB_r := hB_r.below hs hB_r.lt
  replace hB_p := hB_p.below hs hB_p.lt
  clear hs Fw2
  clear hc_r; have hc_r := hB_r.cell
  clear hc_p; have hc_p := hB_p.cell
  repeat (first | with_reducible apply wpList_nil | with_reducible apply seq_region | with_reducible apply wp_region_lit | with_reducible apply wp_seq | ((with_reducible apply seq_q); (focus rfl); (focus (simp [go_sem, effAt, ↓IntWalk.iteOmega, *]; (try go_ints); (first | (with_reducible exact effUpon_val) | (with_reducible exact effUpon_skip)))); (focus ((simp only [Act.put, List.setIfInBounds_toArray, List.set_cons_zero, List.set_cons_succ]; rfl)))) | ((with_reducible apply seq_s); (focus rfl); (focus ((simp only [Act.put, List.setIfInBounds_toArray, List.set_cons_zero, List.set_cons_succ]; rfl)))) | with_reducible apply wp_block | with_reducible apply wp_skip | with_reducible apply wp_exit | with_reducible apply wp_ret | ((with_reducible apply wp_cond_true); (focus (first | rfl | (simp [go_sem, *]; done)))) | ((with_reducible apply wp_cond_false); (focus (first | rfl | (simp [go_sem, *]; done)))) | (simp only [Exit.then, Exit.inBlock, ↓reduceIte, Nat.reduceEqDiff]))
  have hf_r := hB_r.frozen
  ((with_reducible apply seq_e (fun w' => Blk w' _ _ _ ∧ w3.grownBy w' (some _))); (focus rfl); (focus (simp [go_sem, effAt, *]; exact ⟨rfl, ((((((((hB_r.set_ 0 _).set_ 1 _).set_ 2 _).set_ 3 _).set_ 4 _).set_ 5 _).set_ 6 _).set_ 7 _), (grown_set (grown_set (grown_set (grown_set (grown_set (grown_set (grown_set (grown_set (World.grownBy.refl _ _)))))))))⟩)); (focus ((simp only [Act.put, List.setIfInBounds_toArray, List.set_cons_zero, List.set_cons_succ]; rfl))))
  clear hf_r hc_r hB_r
  intro w4 hs
  obtain ⟨hB_r, hs⟩ := hs
  simp only [List.setIfInBounds_toArray, List.set_cons_zero, List.set_cons_succ] at hB_r
  have Fw4 := Fw3.grown hs Fw3.size (by intro k hk; first | (injection hk with hk; subst hk; first | exact Nat.le_refl _ | exact Fw3.size | omega) | omega)
  replace hB_p := hB_p.grown hs (by intro hk; injection hk with hk; have := hB_p.lt; have := hB_r.lt; omega)
  clear hs Fw3
  clear hc_p; have hc_p := hB_p.cell
  have hc_r := hB_r.cell
  repeat (first | with_reducible apply wpList_nil | with_reducible apply seq_region | with_reducible apply wp_region_lit | with_reducible apply wp_seq | ((with_reducible apply seq_q); (focus rfl); (focus (simp [go_sem, effAt, ↓IntWalk.iteOmega, *]; (try go_ints); (first | (with_reducible exact effUpon_val) | (with_reducible exact effUpon_skip)))); (focus ((simp only [Act.put, List.setIfInBounds_toArray, List.set_cons_zero, List.set_cons_succ]; rfl)))) | ((with_reducible apply seq_s); (focus rfl); (focus ((simp only [Act.put, List.setIfInBounds_toArray, List.set_cons_zero, List.set_cons_succ]; rfl)))) | with_reducible apply wp_block | with_reducible apply wp_skip | with_reducible apply wp_exit | with_reducible apply wp_ret | ((with_reducible apply wp_cond_true); (focus (first | rfl | (simp [go_sem, *]; done)))) | ((with_reducible apply wp_cond_false); (focus (first | rfl | (simp [go_sem, *]; done)))) | (simp only [Exit.then, Exit.inBlock, ↓reduceIte, Nat.reduceEqDiff]))
  refine bodyPost_ret (v := .tuple #[.agg #[.int .u8 (oct v 0), .int .u8 (oct v 1 % 16), .int .u8 (oct v 1 / 16), .int .u8 (oct v 2), .int .i64 (oct v 3), .int .i64 (oct v 4 + 256 * oct v 5), .int .i64 (oct v 6), .int .i64 (oct v 7)], .int .i64 0]) (by simp [results, Try.results11, go_sem, *]) rfl ⟨rfl, by assumption⟩
set_option maxHeartbeats 2000000 in
theorem rget_long (v : ByteArray) (w : World) (h : 8 < v.size) (h' : v.size ≤ 9223372036854775807) :
   Calls Try.prog 12 #[.string v] w (Ret (.tuple #[.agg #[.int .u8 0, .int .u8 0, .int .u8 0, .int .u8 0, .int .i64 0, .int .i64 0, .int .i64 0, .int .i64 0], .int .i64 70]) (Below w.heap.size w)) := by
  have b0 := oct_le v 0
  have b1 := oct_le v 1
  have b2 := oct_le v 2
  have b3 := oct_le v 3
  have b4 := oct_le v 4
  have b5 := oct_le v 5
  have b6 := oct_le v 6
  have b7 := oct_le v 7
  obtain ⟨l0, u0⟩ := b0
  obtain ⟨l1, u1⟩ := b1
  obtain ⟨l2, u2⟩ := b2
  obtain ⟨l3, u3⟩ := b3
  obtain ⟨l4, u4⟩ := b4
  obtain ⟨l5, u5⟩ := b5
  obtain ⟨l6, u6⟩ := b6
  obtain ⟨l7, u7⟩ := b7
  have e0 := oct_eq v 0 (by omega)
  have e1 := oct_eq v 1 (by omega)
  have e2 := oct_eq v 2 (by omega)
  have e3 := oct_eq v 3 (by omega)
  have e4 := oct_eq v 4 (by omega)
  have e5 := oct_eq v 5 (by omega)
  have e6 := oct_eq v 6 (by omega)
  have e7 := oct_eq v 7 (by omega)
  have i0 : 0 < v.size := by omega
  have i1 : (1 : Int) < (v.size : Int) := by omega
  have i2 : (2 : Int) < (v.size : Int) := by omega
  have i3 : (3 : Int) < (v.size : Int) := by omega
  have i4 : (4 : Int) < (v.size : Int) := by omega
  have i5 : (5 : Int) < (v.size : Int) := by omega
  have i6 : (6 : Int) < (v.size : Int) := by omega
  have i7 : (7 : Int) < (v.size : Int) := by omega
  have hlt : ¬ ((v.size : Int) < 8) := by omega
  have hand := and_eq (oct v 1) ⟨l1, u1⟩
  have hor := or_eq2 (oct v 4) (oct v 5) ⟨l4, u4⟩ ⟨l5, u5⟩
  have hgt : ((8 : Int) < (v.size : Int)) := by omega
  go_enter Try.func12, Try.ntmps12
  have F0 : Below w.heap.size w w := Below.refl _ _
  with_reducible apply seq_region
  ((with_reducible apply seq_box); (focus rfl); (focus (simp [go_sem, effAt]; exact ⟨rfl, rfl⟩)); (focus ((simp only [Act.put, List.setIfInBounds_toArray, List.set_cons_zero, List.set_cons_succ]; rfl))))
  intro w1 hB_r hs
  have Fw1 := F0.trans (hs.mono F0.size)
  clear hs F0
  have hc_r := hB_r.cell
  repeat (first | with_reducible apply wpList_nil | with_reducible apply seq_region | with_reducible apply wp_region_lit | with_reducible apply wp_seq | ((with_reducible apply seq_q); (focus rfl); (focus (simp [go_sem, effAt, ↓IntWalk.iteOmega, *]; (try go_ints); (first | (with_reducible exact effUpon_val) | (with_reducible exact effUpon_skip)))); (focus ((simp only [Act.put, List.setIfInBounds_toArray, List.set_cons_zero, List.set_cons_succ]; rfl)))) | ((with_reducible apply seq_s); (focus rfl); (focus ((simp only [Act.put, List.setIfInBounds_toArray, List.set_cons_zero, List.set_cons_succ]; rfl)))) | with_reducible apply wp_block | with_reducible apply wp_skip | with_reducible apply wp_exit | with_reducible apply wp_ret | ((with_reducible apply wp_cond_true); (focus (first | rfl | (simp [go_sem, *]; done)))) | ((with_reducible apply wp_cond_false); (focus (first | rfl | (simp [go_sem, *]; done)))) | (simp only [Exit.then, Exit.inBlock, ↓reduceIte, Nat.reduceEqDiff]))
  refine wp_region_eff (S := Below w1.heap.size w1) (I := (· = w1.drew)) (E := fun i => [28, 29].contains i) (by kernel_rfl) (by kernel_rfl) rfl (fun _ h => h ▸ (Below.refl _ _).drew) ?_
  repeat (first | ((with_reducible apply lex_q); (focus rfl); (focus rfl); (focus (intro w' hS; have hc_r := (hB_r.below hS hB_r.lt).cell; simp [go_sem, effAt, ↓IntWalk.iteOmega, *]; (try go_ints); (first | (with_reducible exact effUpon_val) | (with_reducible exact effUpon_skip)))); (focus ((simp only [Act.put, List.setIfInBounds_toArray, List.set_cons_zero, List.set_cons_succ]; rfl)))) | ((with_reducible apply lex_s); (focus rfl); (focus ((simp only [Act.put, List.setIfInBounds_toArray, List.set_cons_zero, List.set_cons_succ]; rfl)))))
  ((with_reducible apply lex_e (fun w' => Blk w' w1.heap.size _ _ ∧ Below w1.heap.size w1 w')); (focus rfl); (focus rfl); (focus (intro w' hw'; subst hw'; simp [go_sem, effAt]; exact ⟨rfl, Blk.new _ _ _, (Below.refl _ _).drew.alloc (Nat.le_refl _) _⟩)); (focus (exact fun _ h => h.2)); (focus ((simp only [Act.put, List.setIfInBounds_toArray, List.set_cons_zero, List.set_cons_succ]; rfl))))
  repeat (first | ((with_reducible apply lex_q); (focus rfl); (focus rfl); (focus (intro w' hS; have hc_r := (hB_r.below hS hB_r.lt).cell; simp [go_sem, effAt, ↓IntWalk.iteOmega, *]; (try go_ints); (first | (with_reducible exact effUpon_val) | (with_reducible exact effUpon_skip)))); (focus ((simp only [Act.put, List.setIfInBounds_toArray, List.set_cons_zero, List.set_cons_succ]; rfl)))) | ((with_reducible apply lex_s); (focus rfl); (focus ((simp only [Act.put, List.setIfInBounds_toArray, List.set_cons_zero, List.set_cons_succ]; rfl)))))
  ((with_reducible apply lex_e (fun w' => Blk w' w1.heap.size _ _ ∧ Below w1.heap.size w1 w')); (focus rfl); (focus rfl); (focus (intro w' hw'; obtain ⟨hBx, hbx⟩ := hw'; have hcx := hBx.cell; have hfx := hBx.frozen; simp [go_sem, effAt, *]; exact ⟨rfl, ((((((((hBx.set_ 0 _).set_ 1 _).set_ 2 _).set_ 3 _).set_ 4 _).set_ 5 _).set_ 6 _).set_ 7 _), ((((((((hbx.setCell (Nat.le_refl _) _).setCell (Nat.le_refl _) _).setCell (Nat.le_refl _) _).setCell (Nat.le_refl _) _).setCell (Nat.le_refl _) _).setCell (Nat.le_refl _) _).setCell (Nat.le_refl _) _).setCell (Nat.le_refl _) _)⟩)); (focus (exact fun _ h => h.2)); (focus ((simp only [Act.put, List.setIfInBounds_toArray, List.set_cons_zero, List.set_cons_succ]; rfl))))
  repeat (first | ((with_reducible apply lex_q); (focus rfl); (focus rfl); (focus (intro w' hS; have hc_r := (hB_r.below hS hB_r.lt).cell; simp [go_sem, effAt, ↓IntWalk.iteOmega, *]; (try go_ints); (first | (with_reducible exact effUpon_val) | (with_reducible exact effUpon_skip)))); (focus ((simp only [Act.put, List.setIfInBounds_toArray, List.set_cons_zero, List.set_cons_succ]; rfl)))) | ((with_reducible apply lex_s); (focus rfl); (focus ((simp only [Act.put, List.setIfInBounds_toArray, List.set_cons_zero, List.set_cons_succ]; rfl)))))
  have lt_r_p := hB_r.lt
  with_reducible apply lex_nil
  intro w2 hs
  obtain ⟨hB_p, hs⟩ := hs
  simp only [List.setIfInBounds_toArray, List.set_cons_zero, List.set_cons_succ] at hB_p
  have Fw2 := Fw1.trans (hs.mono Fw1.size)
  replace hB_r := hB_r.below hs hB_r.lt
  clear hs Fw1
  clear hc_r; have hc_r := hB_r.cell
  have hc_p := hB_p.cell
  repeat (first | with_reducible apply wpList_nil | with_reducible apply seq_region | with_reducible apply wp_region_lit | with_reducible apply wp_seq | ((with_reducible apply seq_q); (focus rfl); (focus (simp [go_sem, effAt, ↓IntWalk.iteOmega, *]; (try go_ints); (first | (with_reducible exact effUpon_val) | (with_reducible exact effUpon_skip)))); (focus ((simp only [Act.put, List.setIfInBounds_toArray, List.set_cons_zero, List.set_cons_succ]; rfl)))) | ((with_reducible apply seq_s); (focus rfl); (focus ((simp only [Act.put, List.setIfInBounds_toArray, List.set_cons_zero, List.set_cons_succ]; rfl)))) | with_reducible apply wp_block | with_reducible apply wp_skip | with_reducible apply wp_exit | with_reducible apply wp_ret | ((with_reducible apply wp_cond_true); (focus (first | rfl | (simp [go_sem, *]; done)))) | ((with_reducible apply wp_cond_false); (focus (first | rfl | (simp [go_sem, *]; done)))) | (simp only [Exit.then, Exit.inBlock, ↓reduceIte, Nat.reduceEqDiff]))
  have hf_r := hB_r.frozen
  ((with_reducible apply seq_e (fun w' => Blk w' _ _ _ ∧ w2.grownBy w' (some _))); (focus rfl); (focus (simp [go_sem, effAt, *]; exact ⟨rfl, ((((((((hB_r.set_ 0 _).set_ 1 _).set_ 2 _).set_ 3 _).set_ 4 _).set_ 5 _).set_ 6 _).set_ 7 _), (grown_set (grown_set (grown_set (grown_set (grown_set (grown_set (grown_set (grown_set (World.grownBy.refl _ _)))))))))⟩)); (focus ((simp only [Act.put, List.setIfInBounds_toArray, List.set_cons_zero, List.set_cons_succ]; rfl))))
  clear hf_r hc_r hB_r
  intro w3 hs
  obtain ⟨hB_r, hs⟩ := hs
  simp only [List.setIfInBounds_toArray, List.set_cons_zero, List.set_cons_succ] at hB_r
  have Fw3 := Fw2.grown hs Fw2.size (by intro k hk; first | (injection hk with hk; subst hk; first | exact Nat.le_refl _ | exact Fw2.size | omega) | omega)
  replace hB_p := hB_p.grown hs (by intro hk; injection hk with hk; have := hB_p.lt; have := hB_r.lt; omega)
  clear hs Fw2
  clear hc_p; have hc_p := hB_p.cell
  have hc_r := hB_r.cell
  repeat (first | with_reducible apply wpList_nil | with_reducible apply seq_region | with_reducible apply wp_region_lit | with_reducible apply wp_seq | ((with_reducible apply seq_q); (focus rfl); (focus (simp [go_sem, effAt, ↓IntWalk.iteOmega, *]; (try go_ints); (first | (with_reducible exact effUpon_val) | (with_reducible exact effUpon_skip)))); (focus ((simp only [Act.put, List.setIfInBounds_toArray, List.set_cons_zero, List.set_cons_succ]; rfl)))) | ((with_reducible apply seq_s); (focus rfl); (focus ((simp only [Act.put, List.setIfInBounds_toArray, List.set_cons_zero, List.set_cons_succ]; rfl)))) | with_reducible apply wp_block | with_reducible apply wp_skip | with_reducible apply wp_exit | with_reducible apply wp_ret | ((with_reducible apply wp_cond_true); (focus (first | rfl | (simp [go_sem, *]; done)))) | ((with_reducible apply wp_cond_false); (focus (first | rfl | (simp [go_sem, *]; done)))) | (simp only [Exit.then, Exit.inBlock, ↓reduceIte, Nat.reduceEqDiff]))
  refine bodyPost_ret (v := .tuple #[.agg #[.int .u8 0, .int .u8 0, .int .u8 0, .int .u8 0, .int .i64 0, .int .i64 0, .int .i64 0, .int .i64 0], .int .i64 70]) (by simp [results, Try.results12, go_sem, *]) rfl ⟨rfl, by assumption⟩
set_option maxHeartbeats 2000000 in
theorem rget_bad (v : ByteArray) (w : World) (h : 8 ≤ v.size) (h8 : v.size ≤ 8) (hp : ¬ GetP v) :
   Calls Try.prog 12 #[.string v] w (Ret (.tuple #[.agg #[.int .u8 0, .int .u8 0, .int .u8 0, .int .u8 0, .int .i64 0, .int .i64 0, .int .i64 0, .int .i64 0], .int .i64 70]) (Below w.heap.size w)) := by
  have b0 := oct_le v 0
  have b1 := oct_le v 1
  have b2 := oct_le v 2
  have b3 := oct_le v 3
  have b4 := oct_le v 4
  have b5 := oct_le v 5
  have b6 := oct_le v 6
  have b7 := oct_le v 7
  obtain ⟨l0, u0⟩ := b0
  obtain ⟨l1, u1⟩ := b1
  obtain ⟨l2, u2⟩ := b2
  obtain ⟨l3, u3⟩ := b3
  obtain ⟨l4, u4⟩ := b4
  obtain ⟨l5, u5⟩ := b5
  obtain ⟨l6, u6⟩ := b6
  obtain ⟨l7, u7⟩ := b7
  have e0 := oct_eq v 0 (by omega)
  have e1 := oct_eq v 1 (by omega)
  have e2 := oct_eq v 2 (by omega)
  have e3 := oct_eq v 3 (by omega)
  have e4 := oct_eq v 4 (by omega)
  have e5 := oct_eq v 5 (by omega)
  have e6 := oct_eq v 6 (by omega)
  have e7 := oct_eq v 7 (by omega)
  have i0 : 0 < v.size := by omega
  have i1 : (1 : Int) < (v.size : Int) := by omega
  have i2 : (2 : Int) < (v.size : Int) := by omega
  have i3 : (3 : Int) < (v.size : Int) := by omega
  have i4 : (4 : Int) < (v.size : Int) := by omega
  have i5 : (5 : Int) < (v.size : Int) := by omega
  have i6 : (6 : Int) < (v.size : Int) := by omega
  have i7 : (7 : Int) < (v.size : Int) := by omega
  have hlt : ¬ ((v.size : Int) < 8) := by omega
  have hand := and_eq (oct v 1) ⟨l1, u1⟩
  have hor := or_eq2 (oct v 4) (oct v 5) ⟨l4, u4⟩ ⟨l5, u5⟩
  have hgt : ¬ ((8 : Int) < (v.size : Int)) := by omega
  have hm := mayB_f hp
  go_enter Try.func12, Try.ntmps12
  have F0 : Below w.heap.size w w := Below.refl _ _
  with_reducible apply seq_region
  ((with_reducible apply seq_box); (focus rfl); (focus (simp [go_sem, effAt]; exact ⟨rfl, rfl⟩)); (focus ((simp only [Act.put, List.setIfInBounds_toArray, List.set_cons_zero, List.set_cons_succ]; rfl))))
  intro w1 hB_r hs
  have Fw1 := F0.trans (hs.mono F0.size)
  clear hs F0
  have hc_r := hB_r.cell
  repeat (first | with_reducible apply wpList_nil | with_reducible apply seq_region | with_reducible apply wp_region_lit | with_reducible apply wp_seq | ((with_reducible apply seq_q); (focus rfl); (focus (simp [go_sem, effAt, ↓IntWalk.iteOmega, *]; (try go_ints); (first | (with_reducible exact effUpon_val) | (with_reducible exact effUpon_skip)))); (focus ((simp only [Act.put, List.setIfInBounds_toArray, List.set_cons_zero, List.set_cons_succ]; rfl)))) | ((with_reducible apply seq_s); (focus rfl); (focus ((simp only [Act.put, List.setIfInBounds_toArray, List.set_cons_zero, List.set_cons_succ]; rfl)))) | with_reducible apply wp_block | with_reducible apply wp_skip | with_reducible apply wp_exit | with_reducible apply wp_ret | ((with_reducible apply wp_cond_true); (focus (first | rfl | (simp [go_sem, *]; done)))) | ((with_reducible apply wp_cond_false); (focus (first | rfl | (simp [go_sem, *]; done)))) | (simp only [Exit.then, Exit.inBlock, ↓reduceIte, Nat.reduceEqDiff]))
  refine wp_region_eff (S := Below w1.heap.size w1) (I := (· = w1.drew)) (E := fun i => [28, 29].contains i) (by kernel_rfl) (by kernel_rfl) rfl (fun _ h => h ▸ (Below.refl _ _).drew) ?_
  repeat (first | ((with_reducible apply lex_q); (focus rfl); (focus rfl); (focus (intro w' hS; have hc_r := (hB_r.below hS hB_r.lt).cell; simp [go_sem, effAt, ↓IntWalk.iteOmega, *]; (try go_ints); (first | (with_reducible exact effUpon_val) | (with_reducible exact effUpon_skip)))); (focus ((simp only [Act.put, List.setIfInBounds_toArray, List.set_cons_zero, List.set_cons_succ]; rfl)))) | ((with_reducible apply lex_s); (focus rfl); (focus ((simp only [Act.put, List.setIfInBounds_toArray, List.set_cons_zero, List.set_cons_succ]; rfl)))))
  ((with_reducible apply lex_e (fun w' => Blk w' w1.heap.size _ _ ∧ Below w1.heap.size w1 w')); (focus rfl); (focus rfl); (focus (intro w' hw'; subst hw'; simp [go_sem, effAt]; exact ⟨rfl, Blk.new _ _ _, (Below.refl _ _).drew.alloc (Nat.le_refl _) _⟩)); (focus (exact fun _ h => h.2)); (focus ((simp only [Act.put, List.setIfInBounds_toArray, List.set_cons_zero, List.set_cons_succ]; rfl))))
  repeat (first | ((with_reducible apply lex_q); (focus rfl); (focus rfl); (focus (intro w' hS; have hc_r := (hB_r.below hS hB_r.lt).cell; simp [go_sem, effAt, ↓IntWalk.iteOmega, *]; (try go_ints); (first | (with_reducible exact effUpon_val) | (with_reducible exact effUpon_skip)))); (focus ((simp only [Act.put, List.setIfInBounds_toArray, List.set_cons_zero, List.set_cons_succ]; rfl)))) | ((with_reducible apply lex_s); (focus rfl); (focus ((simp only [Act.put, List.setIfInBounds_toArray, List.set_cons_zero, List.set_cons_succ]; rfl)))))
  ((with_reducible apply lex_e (fun w' => Blk w' w1.heap.size _ _ ∧ Below w1.heap.size w1 w')); (focus rfl); (focus rfl); (focus (intro w' hw'; obtain ⟨hBx, hbx⟩ := hw'; have hcx := hBx.cell; have hfx := hBx.frozen; simp [go_sem, effAt, *]; exact ⟨rfl, ((((((((hBx.set_ 0 _).set_ 1 _).set_ 2 _).set_ 3 _).set_ 4 _).set_ 5 _).set_ 6 _).set_ 7 _), ((((((((hbx.setCell (Nat.le_refl _) _).setCell (Nat.le_refl _) _).setCell (Nat.le_refl _) _).setCell (Nat.le_refl _) _).setCell (Nat.le_refl _) _).setCell (Nat.le_refl _) _).setCell (Nat.le_refl _) _).setCell (Nat.le_refl _) _)⟩)); (focus (exact fun _ h => h.2)); (focus ((simp only [Act.put, List.setIfInBounds_toArray, List.set_cons_zero, List.set_cons_succ]; rfl))))
  repeat (first | ((with_reducible apply lex_q); (focus rfl); (focus rfl); (focus (intro w' hS; have hc_r := (hB_r.below hS hB_r.lt).cell; simp [go_sem, effAt, ↓IntWalk.iteOmega, *]; (try go_ints); (first | (with_reducible exact effUpon_val) | (with_reducible exact effUpon_skip)))); (focus ((simp only [Act.put, List.setIfInBounds_toArray, List.set_cons_zero, List.set_cons_succ]; rfl)))) | ((with_reducible apply lex_s); (focus rfl); (focus ((simp only [Act.put, List.setIfInBounds_toArray, List.set_cons_zero, List.set_cons_succ]; rfl)))))
  have lt_r_p := hB_r.lt
  with_reducible apply lex_nil
  intro w2 hs
  obtain ⟨hB_p, hs⟩ := hs
  simp only [List.setIfInBounds_toArray, List.set_cons_zero, List.set_cons_succ] at hB_p
  have Fw2 := Fw1.trans (hs.mono Fw1.size)
  replace hB_r := hB_r.below hs hB_r.lt
  clear hs Fw1
  clear hc_r; have hc_r := hB_r.cell
  have hc_p := hB_p.cell
  repeat (first | with_reducible apply wpList_nil | with_reducible apply seq_region | with_reducible apply wp_region_lit | with_reducible apply wp_seq | ((with_reducible apply seq_q); (focus rfl); (focus (simp [go_sem, effAt, ↓IntWalk.iteOmega, *]; (try go_ints); (first | (with_reducible exact effUpon_val) | (with_reducible exact effUpon_skip)))); (focus ((simp only [Act.put, List.setIfInBounds_toArray, List.set_cons_zero, List.set_cons_succ]; rfl)))) | ((with_reducible apply seq_s); (focus rfl); (focus ((simp only [Act.put, List.setIfInBounds_toArray, List.set_cons_zero, List.set_cons_succ]; rfl)))) | with_reducible apply wp_block | with_reducible apply wp_skip | with_reducible apply wp_exit | with_reducible apply wp_ret | ((with_reducible apply wp_cond_true); (focus (first | rfl | (simp [go_sem, *]; done)))) | ((with_reducible apply wp_cond_false); (focus (first | rfl | (simp [go_sem, *]; done)))) | (simp only [Exit.then, Exit.inBlock, ↓reduceIte, Nat.reduceEqDiff]))
  ((with_reducible apply seq_e (Below w2.heap.size w2)); (focus rfl); (focus (simp only [effAt]; simp [go_sem]; (with_reducible exact effUpon_enter (hm ▸ may_ref _ _ _ _ _ _ _ _ _ ⟨l0, u0⟩)))); (focus ((simp only [Act.put, List.setIfInBounds_toArray, List.set_cons_zero, List.set_cons_succ]; rfl))))
  intro w3 hs
  have Fw3 := Fw2.trans (hs.mono Fw2.size)
  replace hB_r := hB_r.below hs hB_r.lt
  replace hB_p := hB_p.below hs hB_p.lt
  clear hs Fw2
  clear hc_r; have hc_r := hB_r.cell
  clear hc_p; have hc_p := hB_p.cell
  repeat (first | with_reducible apply wpList_nil | with_reducible apply seq_region | with_reducible apply wp_region_lit | with_reducible apply wp_seq | ((with_reducible apply seq_q); (focus rfl); (focus (simp [go_sem, effAt, ↓IntWalk.iteOmega, *]; (try go_ints); (first | (with_reducible exact effUpon_val) | (with_reducible exact effUpon_skip)))); (focus ((simp only [Act.put, List.setIfInBounds_toArray, List.set_cons_zero, List.set_cons_succ]; rfl)))) | ((with_reducible apply seq_s); (focus rfl); (focus ((simp only [Act.put, List.setIfInBounds_toArray, List.set_cons_zero, List.set_cons_succ]; rfl)))) | with_reducible apply wp_block | with_reducible apply wp_skip | with_reducible apply wp_exit | with_reducible apply wp_ret | ((with_reducible apply wp_cond_true); (focus (first | rfl | (simp [go_sem, *]; done)))) | ((with_reducible apply wp_cond_false); (focus (first | rfl | (simp [go_sem, *]; done)))) | (simp only [Exit.then, Exit.inBlock, ↓reduceIte, Nat.reduceEqDiff]))
  have hf_r := hB_r.frozen
  ((with_reducible apply seq_e (fun w' => Blk w' _ _ _ ∧ w3.grownBy w' (some _))); (focus rfl); (focus (simp [go_sem, effAt, *]; exact ⟨rfl, ((((((((hB_r.set_ 0 _).set_ 1 _).set_ 2 _).set_ 3 _).set_ 4 _).set_ 5 _).set_ 6 _).set_ 7 _), (grown_set (grown_set (grown_set (grown_set (grown_set (grown_set (grown_set (grown_set (World.grownBy.refl _ _)))))))))⟩)); (focus ((simp only [Act.put, List.setIfInBounds_toArray, List.set_cons_zero, List.set_cons_succ]; rfl))))
  clear hf_r hc_r hB_r
  intro w4 hs
  obtain ⟨hB_r, hs⟩ := hs
  simp only [List.setIfInBounds_toArray, List.set_cons_zero, List.set_cons_succ] at hB_r
  have Fw4 := Fw3.grown hs Fw3.size (by intro k hk; first | (injection hk with hk; subst hk; first | exact Nat.le_refl _ | exact Fw3.size | omega) | omega)
  replace hB_p := hB_p.grown hs (by intro hk; injection hk with hk; have := hB_p.lt; have := hB_r.lt; omega)
  clear hs Fw3
  clear hc_p; have hc_p := hB_p.cell
  have hc_r := hB_r.cell
  repeat (first | with_reducible apply wpList_nil | with_reducible apply seq_region | with_reducible apply wp_region_lit | with_reducible apply wp_seq | ((with_reducible apply seq_q); (focus rfl); (focus (simp [go_sem, effAt, ↓IntWalk.iteOmega, *]; (try go_ints); (first | (with_reducible exact effUpon_val) | (with_reducible exact effUpon_skip)))); (focus ((simp only [Act.put, List.setIfInBounds_toArray, List.set_cons_zero, List.set_cons_succ]; rfl)))) | ((with_reducible apply seq_s); (focus rfl); (focus ((simp only [Act.put, List.setIfInBounds_toArray, List.set_cons_zero, List.set_cons_succ]; rfl)))) | with_reducible apply wp_block | with_reducible apply wp_skip | with_reducible apply wp_exit | with_reducible apply wp_ret | ((with_reducible apply wp_cond_true); (focus (first | rfl | (simp [go_sem, *]; done)))) | ((with_reducible apply wp_cond_false); (focus (first | rfl | (simp [go_sem, *]; done)))) | (simp only [Exit.then, Exit.inBlock, ↓reduceIte, Nat.reduceEqDiff]))
  refine bodyPost_ret (v := .tuple #[.agg #[.int .u8 0, .int .u8 0, .int .u8 0, .int .u8 0, .int .i64 0, .int .i64 0, .int .i64 0, .int .i64 0], .int .i64 70]) (by simp [results, Try.results12, go_sem, *]) rfl ⟨rfl, by assumption⟩
set_option maxHeartbeats 2000000 in
theorem rget_ok (v : ByteArray) (w : World) (h : 8 ≤ v.size) (h8 : v.size ≤ 8) (hp : GetP v) :
   Calls Try.prog 12 #[.string v] w (Ret (.tuple #[.agg #[.int .u8 (oct v 0), .int .u8 (oct v 1 % 16), .int .u8 (oct v 1 / 16), .int .u8 (oct v 2), .int .i64 (oct v 3), .int .i64 (oct v 4 + 256 * oct v 5), .int .i64 (oct v 6), .int .i64 (oct v 7)], .int .i64 0]) (Below w.heap.size w)) := by
  have b0 := oct_le v 0
  have b1 := oct_le v 1
  have b2 := oct_le v 2
  have b3 := oct_le v 3
  have b4 := oct_le v 4
  have b5 := oct_le v 5
  have b6 := oct_le v 6
  have b7 := oct_le v 7
  obtain ⟨l0, u0⟩ := b0
  obtain ⟨l1, u1⟩ := b1
  obtain ⟨l2, u2⟩ := b2
  obtain ⟨l3, u3⟩ := b3
  obtain ⟨l4, u4⟩ := b4
  obtain ⟨l5, u5⟩ := b5
  obtain ⟨l6, u6⟩ := b6
  obtain ⟨l7, u7⟩ := b7
  have e0 := oct_eq v 0 (by omega)
  have e1 := oct_eq v 1 (by omega)
  have e2 := oct_eq v 2 (by omega)
  have e3 := oct_eq v 3 (by omega)
  have e4 := oct_eq v 4 (by omega)
  have e5 := oct_eq v 5 (by omega)
  have e6 := oct_eq v 6 (by omega)
  have e7 := oct_eq v 7 (by omega)
  have i0 : 0 < v.size := by omega
  have i1 : (1 : Int) < (v.size : Int) := by omega
  have i2 : (2 : Int) < (v.size : Int) := by omega
  have i3 : (3 : Int) < (v.size : Int) := by omega
  have i4 : (4 : Int) < (v.size : Int) := by omega
  have i5 : (5 : Int) < (v.size : Int) := by omega
  have i6 : (6 : Int) < (v.size : Int) := by omega
  have i7 : (7 : Int) < (v.size : Int) := by omega
  have hlt : ¬ ((v.size : Int) < 8) := by omega
  have hand := and_eq (oct v 1) ⟨l1, u1⟩
  have hor := or_eq2 (oct v 4) (oct v 5) ⟨l4, u4⟩ ⟨l5, u5⟩
  have hgt : ¬ ((8 : Int) < (v.size : Int)) := by omega
  have hm := mayB_t hp
  go_enter Try.func12, Try.ntmps12
  have F0 : Below w.heap.size w w := Below.refl _ _
  with_reducible apply seq_region
  ((with_reducible apply seq_box); (focus rfl); (focus (simp [go_sem, effAt]; exact ⟨rfl, rfl⟩)); (focus ((simp only [Act.put, List.setIfInBounds_toArray, List.set_cons_zero, List.set_cons_succ]; rfl))))
  intro w1 hB_r hs
  have Fw1 := F0.trans (hs.mono F0.size)
  clear hs F0
  have hc_r := hB_r.cell
  repeat (first | with_reducible apply wpList_nil | with_reducible apply seq_region | with_reducible apply wp_region_lit | with_reducible apply wp_seq | ((with_reducible apply seq_q); (focus rfl); (focus (simp [go_sem, effAt, ↓IntWalk.iteOmega, *]; (try go_ints); (first | (with_reducible exact effUpon_val) | (with_reducible exact effUpon_skip)))); (focus ((simp only [Act.put, List.setIfInBounds_toArray, List.set_cons_zero, List.set_cons_succ]; rfl)))) | ((with_reducible apply seq_s); (focus rfl); (focus ((simp only [Act.put, List.setIfInBounds_toArray, List.set_cons_zero, List.set_cons_succ]; rfl)))) | with_reducible apply wp_block | with_reducible apply wp_skip | with_reducible apply wp_exit | with_reducible apply wp_ret | ((with_reducible apply wp_cond_true); (focus (first | rfl | (simp [go_sem, *]; done)))) | ((with_reducible apply wp_cond_false); (focus (first | rfl | (simp [go_sem, *]; done)))) | (simp only [Exit.then, Exit.inBlock, ↓reduceIte, Nat.reduceEqDiff]))
  refine wp_region_eff (S := Below w1.heap.size w1) (I := (· = w1.drew)) (E := fun i => [28, 29].contains i) (by kernel_rfl) (by kernel_rfl) rfl (fun _ h => h ▸ (Below.refl _ _).drew) ?_
  repeat (first | ((with_reducible apply lex_q); (focus rfl); (focus rfl); (focus (intro w' hS; have hc_r := (hB_r.below hS hB_r.lt).cell; simp [go_sem, effAt, ↓IntWalk.iteOmega, *]; (try go_ints); (first | (with_reducible exact effUpon_val) | (with_reducible exact effUpon_skip)))); (focus ((simp only [Act.put, List.setIfInBounds_toArray, List.set_cons_zero, List.set_cons_succ]; rfl)))) | ((with_reducible apply lex_s); (focus rfl); (focus ((simp only [Act.put, List.setIfInBounds_toArray, List.set_cons_zero, List.set_cons_succ]; rfl)))))
  ((with_reducible apply lex_e (fun w' => Blk w' w1.heap.size _ _ ∧ Below w1.heap.size w1 w')); (focus rfl); (focus rfl); (focus (intro w' hw'; subst hw'; simp [go_sem, effAt]; exact ⟨rfl, Blk.new _ _ _, (Below.refl _ _).drew.alloc (Nat.le_refl _) _⟩)); (focus (exact fun _ h => h.2)); (focus ((simp only [Act.put, List.setIfInBounds_toArray, List.set_cons_zero, List.set_cons_succ]; rfl))))
  repeat (first | ((with_reducible apply lex_q); (focus rfl); (focus rfl); (focus (intro w' hS; have hc_r := (hB_r.below hS hB_r.lt).cell; simp [go_sem, effAt, ↓IntWalk.iteOmega, *]; (try go_ints); (first | (with_reducible exact effUpon_val) | (with_reducible exact effUpon_skip)))); (focus ((simp only [Act.put, List.setIfInBounds_toArray, List.set_cons_zero, List.set_cons_succ]; rfl)))) | ((with_reducible apply lex_s); (focus rfl); (focus ((simp only [Act.put, List.setIfInBounds_toArray, List.set_cons_zero, List.set_cons_succ]; rfl)))))
  ((with_reducible apply lex_e (fun w' => Blk w' w1.heap.size _ _ ∧ Below w1.heap.size w1 w')); (focus rfl); (focus rfl); (focus (intro w' hw'; obtain ⟨hBx, hbx⟩ := hw'; have hcx := hBx.cell; have hfx := hBx.frozen; simp [go_sem, effAt, *]; exact ⟨rfl, ((((((((hBx.set_ 0 _).set_ 1 _).set_ 2 _).set_ 3 _).set_ 4 _).set_ 5 _).set_ 6 _).set_ 7 _), ((((((((hbx.setCell (Nat.le_refl _) _).setCell (Nat.le_refl _) _).setCell (Nat.le_refl _) _).setCell (Nat.le_refl _) _).setCell (Nat.le_refl _) _).setCell (Nat.le_refl _) _).setCell (Nat.le_refl _) _).setCell (Nat.le_refl _) _)⟩)); (focus (exact fun _ h => h.2)); (focus ((simp only [Act.put, List.setIfInBounds_toArray, List.set_cons_zero, List.set_cons_succ]; rfl))))
  repeat (first | ((with_reducible apply lex_q); (focus rfl); (focus rfl); (focus (intro w' hS; have hc_r := (hB_r.below hS hB_r.lt).cell; simp [go_sem, effAt, ↓IntWalk.iteOmega, *]; (try go_ints); (first | (with_reducible exact effUpon_val) | (with_reducible exact effUpon_skip)))); (focus ((simp only [Act.put, List.setIfInBounds_toArray, List.set_cons_zero, List.set_cons_succ]; rfl)))) | ((with_reducible apply lex_s); (focus rfl); (focus ((simp only [Act.put, List.setIfInBounds_toArray, List.set_cons_zero, List.set_cons_succ]; rfl)))))
  have lt_r_p := hB_r.lt
  with_reducible apply lex_nil
  intro w2 hs
  obtain ⟨hB_p, hs⟩ := hs
  simp only [List.setIfInBounds_toArray, List.set_cons_zero, List.set_cons_succ] at hB_p
  have Fw2 := Fw1.trans (hs.mono Fw1.size)
  replace hB_r := hB_r.below hs hB_r.lt
  clear hs Fw1
  clear hc_r; have hc_r := hB_r.cell
  have hc_p := hB_p.cell
  repeat (first | with_reducible apply wpList_nil | with_reducible apply seq_region | with_reducible apply wp_region_lit | with_reducible apply wp_seq | ((with_reducible apply seq_q); (focus rfl); (focus (simp [go_sem, effAt, ↓IntWalk.iteOmega, *]; (try go_ints); (first | (with_reducible exact effUpon_val) | (with_reducible exact effUpon_skip)))); (focus ((simp only [Act.put, List.setIfInBounds_toArray, List.set_cons_zero, List.set_cons_succ]; rfl)))) | ((with_reducible apply seq_s); (focus rfl); (focus ((simp only [Act.put, List.setIfInBounds_toArray, List.set_cons_zero, List.set_cons_succ]; rfl)))) | with_reducible apply wp_block | with_reducible apply wp_skip | with_reducible apply wp_exit | with_reducible apply wp_ret | ((with_reducible apply wp_cond_true); (focus (first | rfl | (simp [go_sem, *]; done)))) | ((with_reducible apply wp_cond_false); (focus (first | rfl | (simp [go_sem, *]; done)))) | (simp only [Exit.then, Exit.inBlock, ↓reduceIte, Nat.reduceEqDiff]))
  ((with_reducible apply seq_e (Below w2.heap.size w2)); (focus rfl); (focus (simp only [effAt]; simp [go_sem]; (with_reducible exact effUpon_enter (hm ▸ may_ref _ _ _ _ _ _ _ _ _ ⟨l0, u0⟩)))); (focus ((simp only [Act.put, List.setIfInBounds_toArray, List.set_cons_zero, List.set_cons_succ]; rfl))))
  intro w3 hs
  have Fw3 := Fw2.trans (hs.mono Fw2.size)
  replace hB_r := hB_r.below hs hB_r.lt
  replace hB_p := hB_p.below hs hB_p.lt
  clear hs Fw2
  clear hc_r; have hc_r := hB_r.cell
  clear hc_p; have hc_p := hB_p.cell
  repeat (first | with_reducible apply wpList_nil | with_reducible apply seq_region | with_reducible apply wp_region_lit | with_reducible apply wp_seq | ((with_reducible apply seq_q); (focus rfl); (focus (simp [go_sem, effAt, ↓IntWalk.iteOmega, *]; (try go_ints); (first | (with_reducible exact effUpon_val) | (with_reducible exact effUpon_skip)))); (focus ((simp only [Act.put, List.setIfInBounds_toArray, List.set_cons_zero, List.set_cons_succ]; rfl)))) | ((with_reducible apply seq_s); (focus rfl); (focus ((simp only [Act.put, List.setIfInBounds_toArray, List.set_cons_zero, List.set_cons_succ]; rfl)))) | with_reducible apply wp_block | with_reducible apply wp_skip | with_reducible apply wp_exit | with_reducible apply wp_ret | ((with_reducible apply wp_cond_true); (focus (first | rfl | (simp [go_sem, *]; done)))) | ((with_reducible apply wp_cond_false); (focus (first | rfl | (simp [go_sem, *]; done)))) | (simp only [Exit.then, Exit.inBlock, ↓reduceIte, Nat.reduceEqDiff]))
  have hf_r := hB_r.frozen
  ((with_reducible apply seq_e (fun w' => Blk w' _ _ _ ∧ w3.grownBy w' (some _))); (focus rfl); (focus (simp [go_sem, effAt, *]; exact ⟨rfl, ((((((((hB_r.set_ 0 _).set_ 1 _).set_ 2 _).set_ 3 _).set_ 4 _).set_ 5 _).set_ 6 _).set_ 7 _), (grown_set (grown_set (grown_set (grown_set (grown_set (grown_set (grown_set (grown_set (World.grownBy.refl _ _)))))))))⟩)); (focus ((simp only [Act.put, List.setIfInBounds_toArray, List.set_cons_zero, List.set_cons_succ]; rfl))))
  clear hf_r hc_r hB_r
  intro w4 hs
  obtain ⟨hB_r, hs⟩ := hs
  simp only [List.setIfInBounds_toArray, List.set_cons_zero, List.set_cons_succ] at hB_r
  have Fw4 := Fw3.grown hs Fw3.size (by intro k hk; first | (injection hk with hk; subst hk; first | exact Nat.le_refl _ | exact Fw3.size | omega) | omega)
  replace hB_p := hB_p.grown hs (by intro hk; injection hk with hk; have := hB_p.lt; have := hB_r.lt; omega)
  clear hs Fw3
  clear hc_p; have hc_p := hB_p.cell
  have hc_r := hB_r.cell
  repeat (first | with_reducible apply wpList_nil | with_reducible apply seq_region | with_reducible apply wp_region_lit | with_reducible apply wp_seq | ((with_reducible apply seq_q); (focus rfl); (focus (simp [go_sem, effAt, ↓IntWalk.iteOmega, *]; (try go_ints); (first | (with_reducible exact effUpon_val) | (with_reducible exact effUpon_skip)))); (focus ((simp only [Act.put, List.setIfInBounds_toArray, List.set_cons_zero, List.set_cons_succ]; rfl)))) | ((with_reducible apply seq_s); (focus rfl); (focus ((simp only [Act.put, List.setIfInBounds_toArray, List.set_cons_zero, List.set_cons_succ]; rfl)))) | with_reducible apply wp_block | with_reducible apply wp_skip | with_reducible apply wp_exit | with_reducible apply wp_ret | ((with_reducible apply wp_cond_true); (focus (first | rfl | (simp [go_sem, *]; done)))) | ((with_reducible apply wp_cond_false); (focus (first | rfl | (simp [go_sem, *]; done)))) | (simp only [Exit.then, Exit.inBlock, ↓reduceIte, Nat.reduceEqDiff]))
  refine bodyPost_ret (v := .tuple #[.agg #[.int .u8 (oct v 0), .int .u8 (oct v 1 % 16), .int .u8 (oct v 1 / 16), .int .u8 (oct v 2), .int .i64 (oct v 3), .int .i64 (oct v 4 + 256 * oct v 5), .int .i64 (oct v 6), .int .i64 (oct v 7)], .int .i64 0]) (by simp [results, Try.results12, go_sem, *]) rfl ⟨rfl, by assumption⟩
set_option maxHeartbeats 1000000 in
theorem rget_short (v : ByteArray) (w : World) (h : v.size < 8) :
   Calls Try.prog 12 #[.string v] w (Ret (.tuple #[.agg #[.int .u8 0, .int .u8 0, .int .u8 0, .int .u8 0, .int .i64 0, .int .i64 0, .int .i64 0, .int .i64 0], .int .i64 20]) (Below w.heap.size w)) := by
  have hlt : ((v.size : Int) < 8) := by omega
  go_enter Try.func12, Try.ntmps12
  have F0 : Below w.heap.size w w := Below.refl _ _
  with_reducible apply seq_region
  ((with_reducible apply seq_box); (focus rfl); (focus (simp [go_sem, effAt]; exact ⟨rfl, rfl⟩)); (focus ((simp only [Act.put, List.setIfInBounds_toArray, List.set_cons_zero, List.set_cons_succ]; rfl))))
  intro w1 hB_r hs
  have Fw1 := F0.trans (hs.mono F0.size)
  clear hs F0
  have hc_r := hB_r.cell
  repeat (first | with_reducible apply wpList_nil | with_reducible apply seq_region | with_reducible apply wp_region_lit | with_reducible apply wp_seq | ((with_reducible apply seq_q); (focus rfl); (focus (simp [go_sem, effAt, ↓IntWalk.iteOmega, *]; (try go_ints); (first | (with_reducible exact effUpon_val) | (with_reducible exact effUpon_skip)))); (focus ((simp only [Act.put, List.setIfInBounds_toArray, List.set_cons_zero, List.set_cons_succ]; rfl)))) | ((with_reducible apply seq_s); (focus rfl); (focus ((simp only [Act.put, List.setIfInBounds_toArray, List.set_cons_zero, List.set_cons_succ]; rfl)))) | with_reducible apply wp_block | with_reducible apply wp_skip | with_reducible apply wp_exit | with_reducible apply wp_ret | ((with_reducible apply wp_cond_true); (focus (first | rfl | (simp [go_sem, *]; done)))) | ((with_reducible apply wp_cond_false); (focus (first | rfl | (simp [go_sem, *]; done)))) | (simp only [Exit.then, Exit.inBlock, ↓reduceIte, Nat.reduceEqDiff]))
  have hf_r := hB_r.frozen
  ((with_reducible apply seq_e (fun w' => Blk w' _ _ _ ∧ w1.grownBy w' (some _))); (focus rfl); (focus (simp [go_sem, effAt, *]; exact ⟨rfl, ((((((((hB_r.set_ 0 _).set_ 1 _).set_ 2 _).set_ 3 _).set_ 4 _).set_ 5 _).set_ 6 _).set_ 7 _), (grown_set (grown_set (grown_set (grown_set (grown_set (grown_set (grown_set (grown_set (World.grownBy.refl _ _)))))))))⟩)); (focus ((simp only [Act.put, List.setIfInBounds_toArray, List.set_cons_zero, List.set_cons_succ]; rfl))))
  clear hf_r hc_r hB_r
  intro w2 hs
  obtain ⟨hB_r, hs⟩ := hs
  simp only [List.setIfInBounds_toArray, List.set_cons_zero, List.set_cons_succ] at hB_r
  have Fw2 := Fw1.grown hs Fw1.size (by intro k hk; first | (injection hk with hk; subst hk; first | exact Nat.le_refl _ | exact Fw1.size | omega) | omega)
  clear hs Fw1
  have hc_r := hB_r.cell
  repeat (first | with_reducible apply wpList_nil | with_reducible apply seq_region | with_reducible apply wp_region_lit | with_reducible apply wp_seq | ((with_reducible apply seq_q); (focus rfl); (focus (simp [go_sem, effAt, ↓IntWalk.iteOmega, *]; (try go_ints); (first | (with_reducible exact effUpon_val) | (with_reducible exact effUpon_skip)))); (focus ((simp only [Act.put, List.setIfInBounds_toArray, List.set_cons_zero, List.set_cons_succ]; rfl)))) | ((with_reducible apply seq_s); (focus rfl); (focus ((simp only [Act.put, List.setIfInBounds_toArray, List.set_cons_zero, List.set_cons_succ]; rfl)))) | with_reducible apply wp_block | with_reducible apply wp_skip | with_reducible apply wp_exit | with_reducible apply wp_ret | ((with_reducible apply wp_cond_true); (focus (first | rfl | (simp [go_sem, *]; done)))) | ((with_reducible apply wp_cond_false); (focus (first | rfl | (simp [go_sem, *]; done)))) | (simp only [Exit.then, Exit.inBlock, ↓reduceIte, Nat.reduceEqDiff]))
  refine bodyPost_ret (v := .tuple #[.agg #[.int .u8 0, .int .u8 0, .int .u8 0, .int .u8 0, .int .i64 0, .int .i64 0, .int .i64 0, .int .i64 0], .int .i64 20]) (by simp [results, Try.results12, go_sem, *]) rfl ⟨rfl, by assumption⟩
