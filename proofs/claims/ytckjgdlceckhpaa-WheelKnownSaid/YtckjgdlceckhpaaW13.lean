/- A wheel of the call's own; the walk of works. -/
import Derived.Test.YtckjgdlceckhpaaW12
set_option linter.unusedSimpArgs false
set_option linter.unusedVariables false
namespace Go.Proofs.Ytckjgdlceckhpaa
open Go.RowKit Go.Eff
attribute [local irreducible] Go.wpList
/-- a wheel of the call's own, that began at w0 -/
def WheelN (w0 w : World) (p : Nat) (L : Nat → Nat) : Prop := (∃ F, Wheel F w p L ∧ ∀ j, F j → w0.heap.size ≤ j) ∧ Below w0.heap.size w0 w
section
variable {w0 w : World} {p k t : Nat} {L : Nat → Nat}
theorem WheelN.below {w' : World} (h : WheelN w0 w p L) (hb : Below w.heap.size w w') : WheelN w0 w' p L := by
  obtain ⟨⟨F, h1, h2⟩, h3⟩ := h
  exact ⟨⟨F, h1.below hb, h2⟩, h3.trans (hb.mono h3.size)⟩
theorem fnew (n : Nat) (h1 : 1 ≤ n) (h2 : n ≤ 256) (hb : Below w0.heap.size w0 w) : Calls Try.prog 8 #[.int .i64 (n : Int)] w (Ret (ptr (w.heap.size + 2)) fun w' => WheelN w0 w' (w.heap.size + 2) (fun _ => 0)) :=
  (new_abs n h1 h2 w).mono fun e w' ⟨he, hw, hbb⟩ => ⟨he, ⟨_, hw, fun j hj => Nat.le_trans hb.size hj.1⟩, hb.trans (hbb.mono hb.size)⟩
theorem fset (h : WheelN w0 w p L) (hk : k < 256) (ht : 1 ≤ t) (ht2 : t ≤ 65535) : Calls Try.prog 14 #[ptr p, .int .u8 (k : Int), .int .i64 (t : Int)] w (Ret (.int .i64 0) fun w' => WheelN w0 w' p (upd L k t)) := by
  obtain ⟨⟨F, h1, h2⟩, h3⟩ := h
  refine (set_abs h1 hk ht ht2).mono ?_
  rintro e w' ⟨he, hw, hT⟩
  have hz := h3.size
  exact ⟨he, ⟨_, hw, fun j hj => by rcases hj with hj | hj; exact h2 j hj; omega⟩, hT.behind h3 (Nat.le_refl _) (fun j hj => by rcases hj with hj | hj; exact h2 j hj; omega)⟩
theorem fstop (h : WheelN w0 w p L) : Calls Try.prog 15 #[ptr p, .int .u8 (k : Int)] w (Ret (.bool (decide (L k ≠ 0))) fun w' => WheelN w0 w' p (upd L k 0)) := by
  obtain ⟨⟨F, h1, h2⟩, h3⟩ := h
  refine (stop_abs h1).mono ?_
  rintro e w' ⟨he, hw, hT⟩
  have hz := h3.size
  exact ⟨he, ⟨F, hw, h2⟩, hT.behind h3 (Nat.le_refl _) (fun j hj => by rcases hj with hj | hj; exact h2 j hj; omega)⟩
theorem fleft (h : WheelN w0 w p L) : Calls Try.prog 13 #[ptr p, .int .u8 (k : Int)] w (Ret (.int .i64 (L k : Int)) fun w' => WheelN w0 w' p L ∧ Below w.heap.size w w') := by
  obtain ⟨⟨F, h1, h2⟩, h3⟩ := h
  exact (left_abs h1).mono fun e w' ⟨he, hb⟩ => ⟨he, WheelN.below ⟨⟨F, h1, h2⟩, h3⟩ hb, hb⟩
theorem fcount (h : WheelN w0 w p L) : Calls Try.prog 11 #[ptr p] w (Ret (.int .i64 (cnt L : Int)) fun w' => WheelN w0 w' p L ∧ Below w.heap.size w w') := by
  obtain ⟨⟨F, h1, h2⟩, h3⟩ := h
  exact (count_abs h1).mono fun e w' ⟨he, hb⟩ => ⟨he, WheelN.below ⟨⟨F, h1, h2⟩, h3⟩ hb, hb⟩
theorem ftick (h : WheelN w0 w p L) : Calls Try.prog 16 #[ptr p] w (fun e w' => ∃ v, e = .returned v ∧ WheelN w0 w' p (dec L) ∧ DueR w.heap.size w' v (dueL L)) := by
  obtain ⟨⟨F, h1, h2⟩, h3⟩ := h
  refine (tick_abs h1).mono ?_
  rintro e w' ⟨v, he, hw, hT, hd⟩
  have hz := h3.size
  exact ⟨v, he, ⟨⟨F, hw, h2⟩, hT.behind h3 (Nat.le_refl _) (fun j hj => by rcases hj with hj | hj; exact h2 j hj; omega)⟩, hd⟩
end
theorem seq_ev2 {P : Program} {ops : Array Oper} {Q : Exit → Act → World → Prop} {o : Oper} {rest : List Oper} {a : Act} {w : World} {f : FuncId} {args : Array Value} {X : Value → World → Prop}
    (hc : Calls P f args w (fun e w' => ∃ v, e = .returned v ∧ X v w')) (hw : Region.wanted o (yielded ops a.tmps) = true) (h : (execOp a.eval o).run P w = .ok (.enter f args) w)
    (hn : ∀ v w', X v w' → ∃ a', a.put o.dst v = a' ∧ wpList P ops Q rest a' w') : wpList P ops Q (o :: rest) a w :=
  seq_ev hw h hc fun v w' hx => by obtain ⟨a', e, h'⟩ := hn v w' hx; rw [e]; exact h'
theorem ex_put {α : Type} {x a' : α} {R : α → Prop} (h : x = a') (hn : R a') : ∃ a', x = a' ∧ R a' := ⟨a', h, hn⟩
theorem ret_mono {P : Program} {f : FuncId} {args : Array Value} {w : World} {v : Value} {X Y : World → Prop} (h : Calls P f args w (Ret v X)) (hx : ∀ u, X u → Y u) : Calls P f args w (Ret v Y) := h.mono fun _ _ hh => ⟨hh.1, hx _ hh.2⟩
def wkA : Nat → Nat := upd (fun _ => 0) 7 2
def wkB : Nat → Nat := upd (upd (dec (dec wkA)) 3 9) 3 1
theorem wk1 : (dueL wkA).map (fun (k : Nat) => (k : Int)) = [] := by kernel_rfl
theorem wk2 : (dueL (dec wkA)).map (fun (k : Nat) => (k : Int)) = [7] := by kernel_rfl
theorem wk3 : (dueL wkB).map (fun (k : Nat) => (k : Int)) = [3] := by kernel_rfl
theorem wk4 : cnt (upd (dec wkB) 1 0) = 0 := by kernel_rfl
theorem octs_one {w : World} {y : Nat} {x : Int} (h : Blk w y 5 #[.int .u8 x]) : Octs w (.slice (some ⟨y, 0, none⟩) 1 1) [x] := .inr ⟨y, 1, [], rfl, h⟩
set_option maxRecDepth 100000 in
set_option maxHeartbeats 4000000 in
theorem works_any (w : World) : Calls Try.prog 7 #[] w (Ret (.bool true) (Below w.heap.size w)) := by
  go_enter Try.func7, Try.ntmps7
  have F0 : Below w.heap.size w w := Below.refl _ _
  repeat (first | with_reducible apply wpList_nil | with_reducible apply seq_region | with_reducible apply wp_region_lit | with_reducible apply wp_seq | ((with_reducible apply seq_q); (focus rfl); (focus (simp [go_sem, effAt, ↓IntWalk.iteOmega, *]; (try go_ints); (first | (with_reducible exact effUpon_val) | (with_reducible exact effUpon_skip)))); (focus ((simp only [Act.put, List.setIfInBounds_toArray, List.set_cons_zero, List.set_cons_succ]; rfl)))) | ((with_reducible apply seq_s); (focus rfl); (focus ((simp only [Act.put, List.setIfInBounds_toArray, List.set_cons_zero, List.set_cons_succ]; rfl)))) | with_reducible apply wp_block | with_reducible apply wp_skip | with_reducible apply wp_exit | with_reducible apply wp_ret | ((with_reducible apply wp_cond_true); (focus (first | rfl | (simp [go_sem, *]; done)))) | ((with_reducible apply wp_cond_false); (focus (first | rfl | (simp [go_sem, *]; done)))) | (simp only [Exit.then, Exit.inBlock, ↓reduceIte, Nat.reduceEqDiff]))
  with_reducible apply seq_e (fun w' => WheelN w w' (w.heap.size + 2) (fun _ => 0))
  (focus (first | exact wanted_none rfl | exact wanted_yes rfl rfl rfl))
  (focus (simp only [effAt]; simp [go_sem]; (with_reducible exact effUpon_enter (fnew (w0 := w) 4 (by omega) (by omega) (Below.refl _ _)))))
  (focus ((simp only [Act.put, List.setIfInBounds_toArray, List.set_cons_zero, List.set_cons_succ]; rfl)))
  intro w1 hW
  obtain ⟨p, hp⟩ : ∃ p, w.heap.size + 2 = p := ⟨_, rfl⟩
  rw [hp] at hW ⊢
  clear hp F0
  have Fw1 : Below w1.heap.size w1 w1 := Below.refl _ _
  repeat (first | with_reducible apply wpList_nil | with_reducible apply seq_region | with_reducible apply wp_region_lit | with_reducible apply wp_seq | ((with_reducible apply seq_q); (focus rfl); (focus (simp [go_sem, effAt, ↓IntWalk.iteOmega, *]; (try go_ints); (first | (with_reducible exact effUpon_val) | (with_reducible exact effUpon_skip)))); (focus ((simp only [Act.put, List.setIfInBounds_toArray, List.set_cons_zero, List.set_cons_succ]; rfl)))) | ((with_reducible apply seq_s); (focus rfl); (focus ((simp only [Act.put, List.setIfInBounds_toArray, List.set_cons_zero, List.set_cons_succ]; rfl)))) | with_reducible apply wp_block | with_reducible apply wp_skip | with_reducible apply wp_exit | with_reducible apply wp_ret | ((with_reducible apply wp_cond_true); (focus (first | rfl | (simp [go_sem, *]; done)))) | ((with_reducible apply wp_cond_false); (focus (first | rfl | (simp [go_sem, *]; done)))) | (simp only [Exit.then, Exit.inBlock, ↓reduceIte, Nat.reduceEqDiff]))
  with_reducible apply seq_e (fun w' => WheelN w w' p wkA)
  (focus (first | exact wanted_none rfl | exact wanted_yes rfl rfl rfl))
  (focus (simp only [effAt]; simp [go_sem]; (with_reducible exact effUpon_enter (fset (k := 7) (t := 2) hW (by omega) (by omega) (by omega)))))
  (focus ((simp only [Act.put, List.setIfInBounds_toArray, List.set_cons_zero, List.set_cons_succ]; rfl)))
  clear hW
  intro w2 hW
  have Fw2 : Below w2.heap.size w2 w2 := Below.refl _ _
  repeat (first | with_reducible apply wpList_nil | with_reducible apply seq_region | with_reducible apply wp_region_lit | with_reducible apply wp_seq | ((with_reducible apply seq_q); (focus rfl); (focus (simp [go_sem, effAt, ↓IntWalk.iteOmega, *]; (try go_ints); (first | (with_reducible exact effUpon_val) | (with_reducible exact effUpon_skip)))); (focus ((simp only [Act.put, List.setIfInBounds_toArray, List.set_cons_zero, List.set_cons_succ]; rfl)))) | ((with_reducible apply seq_s); (focus rfl); (focus ((simp only [Act.put, List.setIfInBounds_toArray, List.set_cons_zero, List.set_cons_succ]; rfl)))) | with_reducible apply wp_block | with_reducible apply wp_skip | with_reducible apply wp_exit | with_reducible apply wp_ret | ((with_reducible apply wp_cond_true); (focus (first | rfl | (simp [go_sem, *]; done)))) | ((with_reducible apply wp_cond_false); (focus (first | rfl | (simp [go_sem, *]; done)))) | (simp only [Exit.then, Exit.inBlock, ↓reduceIte, Nat.reduceEqDiff]))
  with_reducible refine seq_ev2 (ftick hW) ?hw ?hrun ?_
  case hw => first | exact wanted_none rfl | exact wanted_yes rfl rfl rfl
  case hrun => simp [go_sem]
  clear hW
  rintro v w3 ⟨hW, hD⟩
  have hO := hD.octs
  rw [wk1] at hO
  obtain ⟨ao, c, rfl, _⟩ := octs_slice hO
  clear hO hD
  (with_reducible apply ex_put)
  (focus ((simp only [Act.put, List.setIfInBounds_toArray, List.set_cons_zero, List.set_cons_succ]; rfl)))
  have Fw3 : Below w3.heap.size w3 w3 := Below.refl _ _
  repeat (first | with_reducible apply wpList_nil | with_reducible apply seq_region | with_reducible apply wp_region_lit | with_reducible apply wp_seq | ((with_reducible apply seq_q); (focus rfl); (focus (simp [go_sem, effAt, ↓IntWalk.iteOmega, *]; (try go_ints); (first | (with_reducible exact effUpon_val) | (with_reducible exact effUpon_skip)))); (focus ((simp only [Act.put, List.setIfInBounds_toArray, List.set_cons_zero, List.set_cons_succ]; rfl)))) | ((with_reducible apply seq_s); (focus rfl); (focus ((simp only [Act.put, List.setIfInBounds_toArray, List.set_cons_zero, List.set_cons_succ]; rfl)))) | with_reducible apply wp_block | with_reducible apply wp_skip | with_reducible apply wp_exit | with_reducible apply wp_ret | ((with_reducible apply wp_cond_true); (focus (first | rfl | (simp [go_sem, *]; done)))) | ((with_reducible apply wp_cond_false); (focus (first | rfl | (simp [go_sem, *]; done)))) | (simp only [Exit.then, Exit.inBlock, ↓reduceIte, Nat.reduceEqDiff]))
  have hl := fleft (k := 7) hW
  rw [show dec wkA 7 = 1 from rfl] at hl
  with_reducible apply seq_e (fun w' => WheelN w w' p (dec wkA) ∧ Below w3.heap.size w3 w')
  (focus (first | exact wanted_none rfl | exact wanted_yes rfl rfl rfl))
  (focus (simp only [effAt]; simp [go_sem]; (with_reducible exact effUpon_enter (hl))))
  (focus ((simp only [Act.put, List.setIfInBounds_toArray, List.set_cons_zero, List.set_cons_succ]; rfl)))
  clear hW hl
  rintro w4 ⟨hW, _⟩
  have Fw4 : Below w4.heap.size w4 w4 := Below.refl _ _
  repeat (first | with_reducible apply wpList_nil | with_reducible apply seq_region | with_reducible apply wp_region_lit | with_reducible apply wp_seq | ((with_reducible apply seq_q); (focus rfl); (focus (simp [go_sem, effAt, ↓IntWalk.iteOmega, *]; (try go_ints); (first | (with_reducible exact effUpon_val) | (with_reducible exact effUpon_skip)))); (focus ((simp only [Act.put, List.setIfInBounds_toArray, List.set_cons_zero, List.set_cons_succ]; rfl)))) | ((with_reducible apply seq_s); (focus rfl); (focus ((simp only [Act.put, List.setIfInBounds_toArray, List.set_cons_zero, List.set_cons_succ]; rfl)))) | with_reducible apply wp_block | with_reducible apply wp_skip | with_reducible apply wp_exit | with_reducible apply wp_ret | ((with_reducible apply wp_cond_true); (focus (first | rfl | (simp [go_sem, *]; done)))) | ((with_reducible apply wp_cond_false); (focus (first | rfl | (simp [go_sem, *]; done)))) | (simp only [Exit.then, Exit.inBlock, ↓reduceIte, Nat.reduceEqDiff]))
  with_reducible refine seq_ev2 (ftick hW) ?hw ?hrun ?_
  case hw => first | exact wanted_none rfl | exact wanted_yes rfl rfl rfl
  case hrun => simp [go_sem]
  clear hW
  rintro v w5 ⟨hW, hD⟩
  have hO := hD.octs
  rw [wk2] at hO
  clear hD
  have hO' := hO
  obtain ⟨ao2, c2, rfl, _⟩ := octs_slice hO
  clear hO
  change Octs w5 (.slice ao2 1 c2) [7] at hO'
  (with_reducible apply ex_put)
  (focus ((simp only [Act.put, List.setIfInBounds_toArray, List.set_cons_zero, List.set_cons_succ]; rfl)))
  skip
  have Fw5 : Below w5.heap.size w5 w5 := Below.refl _ _
  repeat (first | with_reducible apply wpList_nil | with_reducible apply seq_region | with_reducible apply wp_region_lit | with_reducible apply wp_seq | ((with_reducible apply seq_q); (focus rfl); (focus (simp [go_sem, effAt, ↓IntWalk.iteOmega, *]; (try go_ints); (first | (with_reducible exact effUpon_val) | (with_reducible exact effUpon_skip)))); (focus ((simp only [Act.put, List.setIfInBounds_toArray, List.set_cons_zero, List.set_cons_succ]; rfl)))) | ((with_reducible apply seq_s); (focus rfl); (focus ((simp only [Act.put, List.setIfInBounds_toArray, List.set_cons_zero, List.set_cons_succ]; rfl)))) | with_reducible apply wp_block | with_reducible apply wp_skip | with_reducible apply wp_exit | with_reducible apply wp_ret | ((with_reducible apply wp_cond_true); (focus (first | rfl | (simp [go_sem, *]; done)))) | ((with_reducible apply wp_cond_false); (focus (first | rfl | (simp [go_sem, *]; done)))) | (simp only [Exit.then, Exit.inBlock, ↓reduceIte, Nat.reduceEqDiff]))
  ((with_reducible apply seq_box); (focus rfl); (focus (simp [go_sem, effAt]; exact ⟨rfl, rfl⟩)); (focus ((simp only [Act.put, List.setIfInBounds_toArray, List.set_cons_zero, List.set_cons_succ]; rfl))))
  intro w1 hB_y hs
  have Fw1 := Fw5.trans (hs.mono Fw5.size)
  clear hs Fw5
  have hc_y := hB_y.cell
  repeat (first | with_reducible apply wpList_nil | with_reducible apply seq_region | with_reducible apply wp_region_lit | with_reducible apply wp_seq | ((with_reducible apply seq_q); (focus rfl); (focus (simp [go_sem, effAt, ↓IntWalk.iteOmega, *]; (try go_ints); (first | (with_reducible exact effUpon_val) | (with_reducible exact effUpon_skip)))); (focus ((simp only [Act.put, List.setIfInBounds_toArray, List.set_cons_zero, List.set_cons_succ]; rfl)))) | ((with_reducible apply seq_s); (focus rfl); (focus ((simp only [Act.put, List.setIfInBounds_toArray, List.set_cons_zero, List.set_cons_succ]; rfl)))) | with_reducible apply wp_block | with_reducible apply wp_skip | with_reducible apply wp_exit | with_reducible apply wp_ret | ((with_reducible apply wp_cond_true); (focus (first | rfl | (simp [go_sem, *]; done)))) | ((with_reducible apply wp_cond_false); (focus (first | rfl | (simp [go_sem, *]; done)))) | (simp only [Exit.then, Exit.inBlock, ↓reduceIte, Nat.reduceEqDiff]))
  have hWy := hW.below Fw1
  have hS := ret_mono (Y := fun w' => WheelN w w' p (dec (dec wkA))) (same_yes (hO'.below Fw1) (octs_one hB_y) (by simp)) (fun u hb => hWy.below hb)
  clear hW hO'
  with_reducible apply seq_e (fun w' => WheelN w w' p (dec (dec wkA)))
  (focus (first | exact wanted_none rfl | exact wanted_yes rfl rfl rfl))
  (focus (simp only [effAt]; simp [go_sem]; (with_reducible exact effUpon_enter (hS))))
  (focus ((simp only [Act.put, List.setIfInBounds_toArray, List.set_cons_zero, List.set_cons_succ]; rfl)))
  clear hS hWy hB_y hc_y
  intro w6 hW
  have Fw6 : Below w6.heap.size w6 w6 := Below.refl _ _
  repeat (first | with_reducible apply wpList_nil | with_reducible apply seq_region | with_reducible apply wp_region_lit | with_reducible apply wp_seq | ((with_reducible apply seq_q); (focus rfl); (focus (simp [go_sem, effAt, ↓IntWalk.iteOmega, *]; (try go_ints); (first | (with_reducible exact effUpon_val) | (with_reducible exact effUpon_skip)))); (focus ((simp only [Act.put, List.setIfInBounds_toArray, List.set_cons_zero, List.set_cons_succ]; rfl)))) | ((with_reducible apply seq_s); (focus rfl); (focus ((simp only [Act.put, List.setIfInBounds_toArray, List.set_cons_zero, List.set_cons_succ]; rfl)))) | with_reducible apply wp_block | with_reducible apply wp_skip | with_reducible apply wp_exit | with_reducible apply wp_ret | ((with_reducible apply wp_cond_true); (focus (first | rfl | (simp [go_sem, *]; done)))) | ((with_reducible apply wp_cond_false); (focus (first | rfl | (simp [go_sem, *]; done)))) | (simp only [Exit.then, Exit.inBlock, ↓reduceIte, Nat.reduceEqDiff]))
  have hl := fleft (k := 7) hW
  rw [show dec (dec wkA) 7 = 0 from rfl, show ((0 : Nat) : Int) = 0 from rfl] at hl
  with_reducible apply seq_e (fun w' => WheelN w w' p (dec (dec wkA)) ∧ Below w6.heap.size w6 w')
  (focus (first | exact wanted_none rfl | exact wanted_yes rfl rfl rfl))
  (focus (simp only [effAt]; simp [go_sem]; (with_reducible exact effUpon_enter (hl))))
  (focus ((simp only [Act.put, List.setIfInBounds_toArray, List.set_cons_zero, List.set_cons_succ]; rfl)))
  clear hW hl
  rintro w7 ⟨hW, _⟩
  have Fw7 : Below w7.heap.size w7 w7 := Below.refl _ _
  repeat (first | with_reducible apply wpList_nil | with_reducible apply seq_region | with_reducible apply wp_region_lit | with_reducible apply wp_seq | ((with_reducible apply seq_q); (focus rfl); (focus (simp [go_sem, effAt, ↓IntWalk.iteOmega, *]; (try go_ints); (first | (with_reducible exact effUpon_val) | (with_reducible exact effUpon_skip)))); (focus ((simp only [Act.put, List.setIfInBounds_toArray, List.set_cons_zero, List.set_cons_succ]; rfl)))) | ((with_reducible apply seq_s); (focus rfl); (focus ((simp only [Act.put, List.setIfInBounds_toArray, List.set_cons_zero, List.set_cons_succ]; rfl)))) | with_reducible apply wp_block | with_reducible apply wp_skip | with_reducible apply wp_exit | with_reducible apply wp_ret | ((with_reducible apply wp_cond_true); (focus (first | rfl | (simp [go_sem, *]; done)))) | ((with_reducible apply wp_cond_false); (focus (first | rfl | (simp [go_sem, *]; done)))) | (simp only [Exit.then, Exit.inBlock, ↓reduceIte, Nat.reduceEqDiff]))
  with_reducible apply seq_e (fun w' => WheelN w w' p (upd (dec (dec wkA)) 3 9))
  (focus (first | exact wanted_none rfl | exact wanted_yes rfl rfl rfl))
  (focus (simp only [effAt]; simp [go_sem]; (with_reducible exact effUpon_enter (fset (k := 3) (t := 9) hW (by omega) (by omega) (by omega)))))
  (focus ((simp only [Act.put, List.setIfInBounds_toArray, List.set_cons_zero, List.set_cons_succ]; rfl)))
  clear hW
  intro w8 hW
  have Fw8 : Below w8.heap.size w8 w8 := Below.refl _ _
  repeat (first | with_reducible apply wpList_nil | with_reducible apply seq_region | with_reducible apply wp_region_lit | with_reducible apply wp_seq | ((with_reducible apply seq_q); (focus rfl); (focus (simp [go_sem, effAt, ↓IntWalk.iteOmega, *]; (try go_ints); (first | (with_reducible exact effUpon_val) | (with_reducible exact effUpon_skip)))); (focus ((simp only [Act.put, List.setIfInBounds_toArray, List.set_cons_zero, List.set_cons_succ]; rfl)))) | ((with_reducible apply seq_s); (focus rfl); (focus ((simp only [Act.put, List.setIfInBounds_toArray, List.set_cons_zero, List.set_cons_succ]; rfl)))) | with_reducible apply wp_block | with_reducible apply wp_skip | with_reducible apply wp_exit | with_reducible apply wp_ret | ((with_reducible apply wp_cond_true); (focus (first | rfl | (simp [go_sem, *]; done)))) | ((with_reducible apply wp_cond_false); (focus (first | rfl | (simp [go_sem, *]; done)))) | (simp only [Exit.then, Exit.inBlock, ↓reduceIte, Nat.reduceEqDiff]))
  with_reducible apply seq_e (fun w' => WheelN w w' p wkB)
  (focus (first | exact wanted_none rfl | exact wanted_yes rfl rfl rfl))
  (focus (simp only [effAt]; simp [go_sem]; (with_reducible exact effUpon_enter (fset (k := 3) (t := 1) hW (by omega) (by omega) (by omega)))))
  (focus ((simp only [Act.put, List.setIfInBounds_toArray, List.set_cons_zero, List.set_cons_succ]; rfl)))
  clear hW
  intro w9 hW
  have Fw9 : Below w9.heap.size w9 w9 := Below.refl _ _
  repeat (first | with_reducible apply wpList_nil | with_reducible apply seq_region | with_reducible apply wp_region_lit | with_reducible apply wp_seq | ((with_reducible apply seq_q); (focus rfl); (focus (simp [go_sem, effAt, ↓IntWalk.iteOmega, *]; (try go_ints); (first | (with_reducible exact effUpon_val) | (with_reducible exact effUpon_skip)))); (focus ((simp only [Act.put, List.setIfInBounds_toArray, List.set_cons_zero, List.set_cons_succ]; rfl)))) | ((with_reducible apply seq_s); (focus rfl); (focus ((simp only [Act.put, List.setIfInBounds_toArray, List.set_cons_zero, List.set_cons_succ]; rfl)))) | with_reducible apply wp_block | with_reducible apply wp_skip | with_reducible apply wp_exit | with_reducible apply wp_ret | ((with_reducible apply wp_cond_true); (focus (first | rfl | (simp [go_sem, *]; done)))) | ((with_reducible apply wp_cond_false); (focus (first | rfl | (simp [go_sem, *]; done)))) | (simp only [Exit.then, Exit.inBlock, ↓reduceIte, Nat.reduceEqDiff]))
  with_reducible refine seq_ev2 (ftick hW) ?hw ?hrun ?_
  case hw => first | exact wanted_none rfl | exact wanted_yes rfl rfl rfl
  case hrun => simp [go_sem]
  clear hW
  rintro v wa ⟨hW, hD⟩
  have hO := hD.octs
  rw [wk3] at hO
  clear hD
  have hO' := hO
  obtain ⟨ao3, c3, rfl, _⟩ := octs_slice hO
  clear hO
  change Octs wa (.slice ao3 1 c3) [3] at hO'
  (with_reducible apply ex_put)
  (focus ((simp only [Act.put, List.setIfInBounds_toArray, List.set_cons_zero, List.set_cons_succ]; rfl)))
  skip
  have Fwa : Below wa.heap.size wa wa := Below.refl _ _
  repeat (first | with_reducible apply wpList_nil | with_reducible apply seq_region | with_reducible apply wp_region_lit | with_reducible apply wp_seq | ((with_reducible apply seq_q); (focus rfl); (focus (simp [go_sem, effAt, ↓IntWalk.iteOmega, *]; (try go_ints); (first | (with_reducible exact effUpon_val) | (with_reducible exact effUpon_skip)))); (focus ((simp only [Act.put, List.setIfInBounds_toArray, List.set_cons_zero, List.set_cons_succ]; rfl)))) | ((with_reducible apply seq_s); (focus rfl); (focus ((simp only [Act.put, List.setIfInBounds_toArray, List.set_cons_zero, List.set_cons_succ]; rfl)))) | with_reducible apply wp_block | with_reducible apply wp_skip | with_reducible apply wp_exit | with_reducible apply wp_ret | ((with_reducible apply wp_cond_true); (focus (first | rfl | (simp [go_sem, *]; done)))) | ((with_reducible apply wp_cond_false); (focus (first | rfl | (simp [go_sem, *]; done)))) | (simp only [Exit.then, Exit.inBlock, ↓reduceIte, Nat.reduceEqDiff]))
  ((with_reducible apply seq_box); (focus rfl); (focus (simp [go_sem, effAt]; exact ⟨rfl, rfl⟩)); (focus ((simp only [Act.put, List.setIfInBounds_toArray, List.set_cons_zero, List.set_cons_succ]; rfl))))
  intro w1 hB_y hs
  have Fw1 := Fwa.trans (hs.mono Fwa.size)
  clear hs Fwa
  have hc_y := hB_y.cell
  repeat (first | with_reducible apply wpList_nil | with_reducible apply seq_region | with_reducible apply wp_region_lit | with_reducible apply wp_seq | ((with_reducible apply seq_q); (focus rfl); (focus (simp [go_sem, effAt, ↓IntWalk.iteOmega, *]; (try go_ints); (first | (with_reducible exact effUpon_val) | (with_reducible exact effUpon_skip)))); (focus ((simp only [Act.put, List.setIfInBounds_toArray, List.set_cons_zero, List.set_cons_succ]; rfl)))) | ((with_reducible apply seq_s); (focus rfl); (focus ((simp only [Act.put, List.setIfInBounds_toArray, List.set_cons_zero, List.set_cons_succ]; rfl)))) | with_reducible apply wp_block | with_reducible apply wp_skip | with_reducible apply wp_exit | with_reducible apply wp_ret | ((with_reducible apply wp_cond_true); (focus (first | rfl | (simp [go_sem, *]; done)))) | ((with_reducible apply wp_cond_false); (focus (first | rfl | (simp [go_sem, *]; done)))) | (simp only [Exit.then, Exit.inBlock, ↓reduceIte, Nat.reduceEqDiff]))
  have hWy := hW.below Fw1
  have hS := ret_mono (Y := fun w' => WheelN w w' p (dec wkB)) (same_yes (hO'.below Fw1) (octs_one hB_y) (by simp)) (fun u hb => hWy.below hb)
  clear hW hO'
  with_reducible apply seq_e (fun w' => WheelN w w' p (dec wkB))
  (focus (first | exact wanted_none rfl | exact wanted_yes rfl rfl rfl))
  (focus (simp only [effAt]; simp [go_sem]; (with_reducible exact effUpon_enter (hS))))
  (focus ((simp only [Act.put, List.setIfInBounds_toArray, List.set_cons_zero, List.set_cons_succ]; rfl)))
  clear hS hWy hB_y hc_y
  intro wb hW
  have Fwb : Below wb.heap.size wb wb := Below.refl _ _
  repeat (first | with_reducible apply wpList_nil | with_reducible apply seq_region | with_reducible apply wp_region_lit | with_reducible apply wp_seq | ((with_reducible apply seq_q); (focus rfl); (focus (simp [go_sem, effAt, ↓IntWalk.iteOmega, *]; (try go_ints); (first | (with_reducible exact effUpon_val) | (with_reducible exact effUpon_skip)))); (focus ((simp only [Act.put, List.setIfInBounds_toArray, List.set_cons_zero, List.set_cons_succ]; rfl)))) | ((with_reducible apply seq_s); (focus rfl); (focus ((simp only [Act.put, List.setIfInBounds_toArray, List.set_cons_zero, List.set_cons_succ]; rfl)))) | with_reducible apply wp_block | with_reducible apply wp_skip | with_reducible apply wp_exit | with_reducible apply wp_ret | ((with_reducible apply wp_cond_true); (focus (first | rfl | (simp [go_sem, *]; done)))) | ((with_reducible apply wp_cond_false); (focus (first | rfl | (simp [go_sem, *]; done)))) | (simp only [Exit.then, Exit.inBlock, ↓reduceIte, Nat.reduceEqDiff]))
  have hN := ret_mono (Y := fun w' => WheelN w w' p (dec wkB)) (set_no p 1 0 (.inl (by omega)) wb) (fun u hb => hW.below hb)
  with_reducible apply seq_e (fun w' => WheelN w w' p (dec wkB))
  (focus (first | exact wanted_none rfl | exact wanted_yes rfl rfl rfl))
  (focus (simp only [effAt]; simp [go_sem]; (with_reducible exact effUpon_enter (hN))))
  (focus ((simp only [Act.put, List.setIfInBounds_toArray, List.set_cons_zero, List.set_cons_succ]; rfl)))
  clear hW hN
  intro wc hW
  have Fwc : Below wc.heap.size wc wc := Below.refl _ _
  repeat (first | with_reducible apply wpList_nil | with_reducible apply seq_region | with_reducible apply wp_region_lit | with_reducible apply wp_seq | ((with_reducible apply seq_q); (focus rfl); (focus (simp [go_sem, effAt, ↓IntWalk.iteOmega, *]; (try go_ints); (first | (with_reducible exact effUpon_val) | (with_reducible exact effUpon_skip)))); (focus ((simp only [Act.put, List.setIfInBounds_toArray, List.set_cons_zero, List.set_cons_succ]; rfl)))) | ((with_reducible apply seq_s); (focus rfl); (focus ((simp only [Act.put, List.setIfInBounds_toArray, List.set_cons_zero, List.set_cons_succ]; rfl)))) | with_reducible apply wp_block | with_reducible apply wp_skip | with_reducible apply wp_exit | with_reducible apply wp_ret | ((with_reducible apply wp_cond_true); (focus (first | rfl | (simp [go_sem, *]; done)))) | ((with_reducible apply wp_cond_false); (focus (first | rfl | (simp [go_sem, *]; done)))) | (simp only [Exit.then, Exit.inBlock, ↓reduceIte, Nat.reduceEqDiff]))
  have hN := fstop (k := 1) hW
  rw [show decide (dec wkB 1 ≠ 0) = false from rfl] at hN
  with_reducible apply seq_e (fun w' => WheelN w w' p (upd (dec wkB) 1 0))
  (focus (first | exact wanted_none rfl | exact wanted_yes rfl rfl rfl))
  (focus (simp only [effAt]; simp [go_sem]; (with_reducible exact effUpon_enter (hN))))
  (focus ((simp only [Act.put, List.setIfInBounds_toArray, List.set_cons_zero, List.set_cons_succ]; rfl)))
  clear hW hN
  intro wd hW
  have Fwd : Below wd.heap.size wd wd := Below.refl _ _
  repeat (first | with_reducible apply wpList_nil | with_reducible apply seq_region | with_reducible apply wp_region_lit | with_reducible apply wp_seq | ((with_reducible apply seq_q); (focus rfl); (focus (simp [go_sem, effAt, ↓IntWalk.iteOmega, *]; (try go_ints); (first | (with_reducible exact effUpon_val) | (with_reducible exact effUpon_skip)))); (focus ((simp only [Act.put, List.setIfInBounds_toArray, List.set_cons_zero, List.set_cons_succ]; rfl)))) | ((with_reducible apply seq_s); (focus rfl); (focus ((simp only [Act.put, List.setIfInBounds_toArray, List.set_cons_zero, List.set_cons_succ]; rfl)))) | with_reducible apply wp_block | with_reducible apply wp_skip | with_reducible apply wp_exit | with_reducible apply wp_ret | ((with_reducible apply wp_cond_true); (focus (first | rfl | (simp [go_sem, *]; done)))) | ((with_reducible apply wp_cond_false); (focus (first | rfl | (simp [go_sem, *]; done)))) | (simp only [Exit.then, Exit.inBlock, ↓reduceIte, Nat.reduceEqDiff]))
  have hN := fcount hW
  rw [wk4, show ((0 : Nat) : Int) = 0 from rfl] at hN
  with_reducible apply seq_e (fun w' => WheelN w w' p (upd (dec wkB) 1 0) ∧ Below wd.heap.size wd w')
  (focus (first | exact wanted_none rfl | exact wanted_yes rfl rfl rfl))
  (focus (simp only [effAt]; simp [go_sem]; (with_reducible exact effUpon_enter (hN))))
  (focus ((simp only [Act.put, List.setIfInBounds_toArray, List.set_cons_zero, List.set_cons_succ]; rfl)))
  clear hW hN
  rintro we ⟨hW, _⟩
  have Fwe : Below we.heap.size we we := Below.refl _ _
  repeat (first | with_reducible apply wpList_nil | with_reducible apply seq_region | with_reducible apply wp_region_lit | with_reducible apply wp_seq | ((with_reducible apply seq_q); (focus rfl); (focus (simp [go_sem, effAt, ↓IntWalk.iteOmega, *]; (try go_ints); (first | (with_reducible exact effUpon_val) | (with_reducible exact effUpon_skip)))); (focus ((simp only [Act.put, List.setIfInBounds_toArray, List.set_cons_zero, List.set_cons_succ]; rfl)))) | ((with_reducible apply seq_s); (focus rfl); (focus ((simp only [Act.put, List.setIfInBounds_toArray, List.set_cons_zero, List.set_cons_succ]; rfl)))) | with_reducible apply wp_block | with_reducible apply wp_skip | with_reducible apply wp_exit | with_reducible apply wp_ret | ((with_reducible apply wp_cond_true); (focus (first | rfl | (simp [go_sem, *]; done)))) | ((with_reducible apply wp_cond_false); (focus (first | rfl | (simp [go_sem, *]; done)))) | (simp only [Exit.then, Exit.inBlock, ↓reduceIte, Nat.reduceEqDiff]))
  go_ret
  exact ⟨rfl, hW.2⟩
end Go.Proofs.Ytckjgdlceckhpaa
