/- The chapter's examples: the walk of works. -/
import Derived.Test.YtminenipklgbcaaP10
set_option linter.unusedSimpArgs false
set_option linter.unusedVariables false
namespace Go.Proofs.Ytminenipklgbcaa
open Go.RowKit Go.Eff
attribute [local irreducible] Go.wpList
def wsA : PS := ((newS.callR 3 true).callR 5 true).callR 9 true
def wsB : PS := wsA.pick
def wsC : PS := wsB.pick
def wsD : PS := wsC.pick
def wsE : PS := wsD.callC 5 3
def wsF : PS := wsE.pick
def wsG : PS := wsF.callR 5 false
theorem wsA_ok : wsA.Ok := callR_ok (callR_ok (callR_ok new_ok 3 true) 5 true) 9 true
theorem wsB_ok : wsB.Ok := pick_ok wsA_ok
theorem wsC_ok : wsC.Ok := pick_ok wsB_ok
theorem wsD_ok : wsD.Ok := pick_ok wsC_ok
theorem wsE_ok : wsE.Ok := callC_ok wsD_ok 5 3
theorem wsF_ok : wsF.Ok := pick_ok wsE_ok
theorem wsG_ok : wsG.Ok := callR_ok wsF_ok 5 false
theorem ws_c : newS.c 0 = 0 ∧ newS.c 5 = 7 ∧ newS.c 8 = 15 ∧ newS.c 63 = 61 := ⟨by kernel_rfl, by kernel_rfl, by kernel_rfl, by kernel_rfl⟩
theorem ws_a : wsA.pickD = 3 ∧ wsA.pickO = true := ⟨by kernel_rfl, by kernel_rfl⟩
theorem ws_b : wsB.pickD = 5 ∧ wsB.pickO = true := ⟨by kernel_rfl, by kernel_rfl⟩
theorem ws_cc : wsC.pickD = 3 ∧ wsC.pickO = true := ⟨by kernel_rfl, by kernel_rfl⟩
theorem ws_d : decide (mayP wsD 9) = false := by kernel_rfl
theorem ws_e : wsE.pickD = 5 ∧ wsE.pickO = true := ⟨by kernel_rfl, by kernel_rfl⟩
theorem ws_g : wsG.pickD = 3 ∧ wsG.pickO = true := ⟨by kernel_rfl, by kernel_rfl⟩
section
variable {g : Nat} {w : World}
theorem cl_lit (d : Nat) (c : Int) (h : newS.c d = c) (hB : PB w g newS) : Calls Try.prog 16 #[.pointer (some ⟨g, 0, none⟩), .int .u8 (d : Int)] w (Ret (.int .u8 c) (Below w.heap.size w)) := h ▸ class_any new_ok g d w hB
theorem pk_lit {s s' : PS} (hs : s.Ok) {d : Int} (h : s.pickD = d ∧ s.pickO = true) (h' : s.pick = s') (hB : PB w g s) : Calls Try.prog 14 #[.pointer (some ⟨g, 0, none⟩)] w (Ret (.tuple #[.int .u8 d, .bool true]) fun w' => PB w' g s' ∧ w.grownBy w' (some g)) := by
  have := pick_any hs g w hB
  rw [h.1, h.2, h'] at this
  exact this
end
set_option maxRecDepth 100000 in
set_option maxHeartbeats 4000000 in
theorem works_any (w : World) : Calls Try.prog 7 #[] w (Ret (.bool true) (Below w.heap.size w)) := by
  have c0 : ∀ w g, PB w g newS → Calls Try.prog 16 #[.pointer (some ⟨g, 0, none⟩), .int .u8 0] w (Ret (.int .u8 0) (Below w.heap.size w)) := fun w g h => cl_lit 0 0 ws_c.1 h
  have c1 : ∀ w g, PB w g newS → Calls Try.prog 16 #[.pointer (some ⟨g, 0, none⟩), .int .u8 5] w (Ret (.int .u8 7) (Below w.heap.size w)) := fun w g h => cl_lit 5 7 ws_c.2.1 h
  have c2 : ∀ w g, PB w g newS → Calls Try.prog 16 #[.pointer (some ⟨g, 0, none⟩), .int .u8 8] w (Ret (.int .u8 15) (Below w.heap.size w)) := fun w g h => cl_lit 8 15 ws_c.2.2.1 h
  have c3 : ∀ w g, PB w g newS → Calls Try.prog 16 #[.pointer (some ⟨g, 0, none⟩), .int .u8 63] w (Ret (.int .u8 61) (Below w.heap.size w)) := fun w g h => cl_lit 63 61 ws_c.2.2.2 h
  have r0 : ∀ w g, PB w g newS → Calls Try.prog 17 #[.pointer (some ⟨g, 0, none⟩), .int .u8 3, .bool true] w (Ret (.int .i64 0) fun w' => PB w' g (newS.callR 3 true) ∧ w.grownBy w' (some g)) := fun w g h => setready_any new_ok g 3 true w h
  have r1 : ∀ w g, PB w g (newS.callR 3 true) → Calls Try.prog 17 #[.pointer (some ⟨g, 0, none⟩), .int .u8 5, .bool true] w (Ret (.int .i64 0) fun w' => PB w' g ((newS.callR 3 true).callR 5 true) ∧ w.grownBy w' (some g)) := fun w g h => setready_any (callR_ok new_ok _ _) g 5 true w h
  have r2 : ∀ w g, PB w g ((newS.callR 3 true).callR 5 true) → Calls Try.prog 17 #[.pointer (some ⟨g, 0, none⟩), .int .u8 9, .bool true] w (Ret (.int .i64 0) fun w' => PB w' g wsA ∧ w.grownBy w' (some g)) := fun w g h => setready_any (callR_ok (callR_ok new_ok _ _) _ _) g 9 true w h
  have p0 : ∀ w g, PB w g wsA → Calls Try.prog 14 #[.pointer (some ⟨g, 0, none⟩)] w (Ret (.tuple #[.int .u8 3, .bool true]) fun w' => PB w' g wsB ∧ w.grownBy w' (some g)) := fun w g h => pk_lit wsA_ok ⟨congrArg Nat.cast ws_a.1, ws_a.2⟩ rfl h
  have p1 : ∀ w g, PB w g wsB → Calls Try.prog 14 #[.pointer (some ⟨g, 0, none⟩)] w (Ret (.tuple #[.int .u8 5, .bool true]) fun w' => PB w' g wsC ∧ w.grownBy w' (some g)) := fun w g h => pk_lit wsB_ok ⟨congrArg Nat.cast ws_b.1, ws_b.2⟩ rfl h
  have p2 : ∀ w g, PB w g wsC → Calls Try.prog 14 #[.pointer (some ⟨g, 0, none⟩)] w (Ret (.tuple #[.int .u8 3, .bool true]) fun w' => PB w' g wsD ∧ w.grownBy w' (some g)) := fun w g h => pk_lit wsC_ok ⟨congrArg Nat.cast ws_cc.1, ws_cc.2⟩ rfl h
  have m0 : ∀ w g, PB w g wsD → Calls Try.prog 13 #[.pointer (some ⟨g, 0, none⟩), .int .u8 9] w (Ret (.bool false) (Below w.heap.size w)) := fun w g h => ws_d ▸ may_any wsD_ok g 9 w h
  have s0 : ∀ w g, PB w g wsD → Calls Try.prog 18 #[.pointer (some ⟨g, 0, none⟩), .int .u8 5, .int .u8 3] w (Ret (.int .i64 0) fun w' => PB w' g wsE ∧ w.grownBy w' (some g)) := fun w g h => setclass_any wsD_ok g 5 3 w h
  have p3 : ∀ w g, PB w g wsE → Calls Try.prog 14 #[.pointer (some ⟨g, 0, none⟩)] w (Ret (.tuple #[.int .u8 5, .bool true]) fun w' => PB w' g wsF ∧ w.grownBy w' (some g)) := fun w g h => pk_lit wsE_ok ⟨congrArg Nat.cast ws_e.1, ws_e.2⟩ rfl h
  have r3 : ∀ w g, PB w g wsF → Calls Try.prog 17 #[.pointer (some ⟨g, 0, none⟩), .int .u8 5, .bool false] w (Ret (.int .i64 0) fun w' => PB w' g wsG ∧ w.grownBy w' (some g)) := fun w g h => setready_any wsF_ok g 5 false w h
  have p4 : ∀ w g, PB w g wsG → Calls Try.prog 14 #[.pointer (some ⟨g, 0, none⟩)] w (Ret (.tuple #[.int .u8 3, .bool true]) fun w' => PB w' g wsG.pick ∧ w.grownBy w' (some g)) := fun w g h => pk_lit wsG_ok ⟨congrArg Nat.cast ws_g.1, ws_g.2⟩ rfl h
  have C0 := Lib.hid c0
  have C1 := Lib.hid c1
  have C2 := Lib.hid c2
  have C3 := Lib.hid c3
  have R0 := Lib.hid r0
  have R1 := Lib.hid r1
  have R2 := Lib.hid r2
  have R3 := Lib.hid r3
  have P0 := Lib.hid p0
  have P1 := Lib.hid p1
  have P2 := Lib.hid p2
  have P3 := Lib.hid p3
  have P4 := Lib.hid p4
  have M0 := Lib.hid m0
  have S0 := Lib.hid s0
  clear c0 c1 c2 c3 r0 r1 r2 r3 p0 p1 p2 p3 p4 m0 s0
  go_enter Try.func7, Try.ntmps7
  have F0 : Below w.heap.size w w := Below.refl _ _
  repeat (first | with_reducible apply wpList_nil | with_reducible apply seq_region | with_reducible apply wp_region_lit | with_reducible apply wp_seq | ((with_reducible apply seq_q); (focus rfl); (focus (simp [go_sem, effAt, ↓IntWalk.iteOmega, *]; (try go_ints); (first | (with_reducible exact effUpon_val) | (with_reducible exact effUpon_skip)))); (focus ((simp only [Act.put, List.setIfInBounds_toArray, List.set_cons_zero, List.set_cons_succ]; rfl)))) | ((with_reducible apply seq_s); (focus rfl); (focus ((simp only [Act.put, List.setIfInBounds_toArray, List.set_cons_zero, List.set_cons_succ]; rfl)))) | with_reducible apply wp_block | with_reducible apply wp_skip | with_reducible apply wp_exit | with_reducible apply wp_ret | ((with_reducible apply wp_cond_true); (focus (first | rfl | (simp [go_sem, *]; done)))) | ((with_reducible apply wp_cond_false); (focus (first | rfl | (simp [go_sem, *]; done)))) | (simp only [Exit.then, Exit.inBlock, ↓reduceIte, Nat.reduceEqDiff]))
  have le_p := F0.size
  ((with_reducible apply seq_e (fun w' => Blk w' w.heap.size _ _ ∧ Below w.heap.size w w')); (focus rfl); (focus (simp only [effAt]; simp [go_sem]; (with_reducible exact effUpon_enter (new_any _)))); (focus ((simp only [Act.put, List.setIfInBounds_toArray, List.set_cons_zero, List.set_cons_succ]; rfl))))
  intro w1 hs
  obtain ⟨hB_p, hs⟩ := hs
  have Fw1 := F0.trans (hs.mono F0.size)
  clear hs F0
  have hc_p := hB_p.cell
  repeat (first | with_reducible apply wpList_nil | with_reducible apply seq_region | with_reducible apply wp_region_lit | with_reducible apply wp_seq | ((with_reducible apply seq_q); (focus rfl); (focus (simp [go_sem, effAt, ↓IntWalk.iteOmega, *]; (try go_ints); (first | (with_reducible exact effUpon_val) | (with_reducible exact effUpon_skip)))); (focus ((simp only [Act.put, List.setIfInBounds_toArray, List.set_cons_zero, List.set_cons_succ]; rfl)))) | ((with_reducible apply seq_s); (focus rfl); (focus ((simp only [Act.put, List.setIfInBounds_toArray, List.set_cons_zero, List.set_cons_succ]; rfl)))) | with_reducible apply wp_block | with_reducible apply wp_skip | with_reducible apply wp_exit | with_reducible apply wp_ret | ((with_reducible apply wp_cond_true); (focus (first | rfl | (simp [go_sem, *]; done)))) | ((with_reducible apply wp_cond_false); (focus (first | rfl | (simp [go_sem, *]; done)))) | (simp only [Exit.then, Exit.inBlock, ↓reduceIte, Nat.reduceEqDiff]))
  ((with_reducible apply seq_e (Below w1.heap.size w1)); (focus rfl); (focus (simp only [effAt]; simp [go_sem]; (with_reducible exact effUpon_enter (C0.out _ _ hB_p)))); (focus ((simp only [Act.put, List.setIfInBounds_toArray, List.set_cons_zero, List.set_cons_succ]; rfl))))
  intro w2 hs
  have Fw2 := Fw1.trans (hs.mono Fw1.size)
  replace hB_p := hB_p.below hs hB_p.lt
  clear hs Fw1
  clear hc_p; have hc_p := hB_p.cell
  repeat (first | with_reducible apply wpList_nil | with_reducible apply seq_region | with_reducible apply wp_region_lit | with_reducible apply wp_seq | ((with_reducible apply seq_q); (focus rfl); (focus (simp [go_sem, effAt, ↓IntWalk.iteOmega, *]; (try go_ints); (first | (with_reducible exact effUpon_val) | (with_reducible exact effUpon_skip)))); (focus ((simp only [Act.put, List.setIfInBounds_toArray, List.set_cons_zero, List.set_cons_succ]; rfl)))) | ((with_reducible apply seq_s); (focus rfl); (focus ((simp only [Act.put, List.setIfInBounds_toArray, List.set_cons_zero, List.set_cons_succ]; rfl)))) | with_reducible apply wp_block | with_reducible apply wp_skip | with_reducible apply wp_exit | with_reducible apply wp_ret | ((with_reducible apply wp_cond_true); (focus (first | rfl | (simp [go_sem, *]; done)))) | ((with_reducible apply wp_cond_false); (focus (first | rfl | (simp [go_sem, *]; done)))) | (simp only [Exit.then, Exit.inBlock, ↓reduceIte, Nat.reduceEqDiff]))
  ((with_reducible apply seq_e (Below w2.heap.size w2)); (focus rfl); (focus (simp only [effAt]; simp [go_sem]; (with_reducible exact effUpon_enter (C1.out _ _ hB_p)))); (focus ((simp only [Act.put, List.setIfInBounds_toArray, List.set_cons_zero, List.set_cons_succ]; rfl))))
  intro w3 hs
  have Fw3 := Fw2.trans (hs.mono Fw2.size)
  replace hB_p := hB_p.below hs hB_p.lt
  clear hs Fw2
  clear hc_p; have hc_p := hB_p.cell
  repeat (first | with_reducible apply wpList_nil | with_reducible apply seq_region | with_reducible apply wp_region_lit | with_reducible apply wp_seq | ((with_reducible apply seq_q); (focus rfl); (focus (simp [go_sem, effAt, ↓IntWalk.iteOmega, *]; (try go_ints); (first | (with_reducible exact effUpon_val) | (with_reducible exact effUpon_skip)))); (focus ((simp only [Act.put, List.setIfInBounds_toArray, List.set_cons_zero, List.set_cons_succ]; rfl)))) | ((with_reducible apply seq_s); (focus rfl); (focus ((simp only [Act.put, List.setIfInBounds_toArray, List.set_cons_zero, List.set_cons_succ]; rfl)))) | with_reducible apply wp_block | with_reducible apply wp_skip | with_reducible apply wp_exit | with_reducible apply wp_ret | ((with_reducible apply wp_cond_true); (focus (first | rfl | (simp [go_sem, *]; done)))) | ((with_reducible apply wp_cond_false); (focus (first | rfl | (simp [go_sem, *]; done)))) | (simp only [Exit.then, Exit.inBlock, ↓reduceIte, Nat.reduceEqDiff]))
  ((with_reducible apply seq_e (Below w3.heap.size w3)); (focus rfl); (focus (simp only [effAt]; simp [go_sem]; (with_reducible exact effUpon_enter (C2.out _ _ hB_p)))); (focus ((simp only [Act.put, List.setIfInBounds_toArray, List.set_cons_zero, List.set_cons_succ]; rfl))))
  intro w4 hs
  have Fw4 := Fw3.trans (hs.mono Fw3.size)
  replace hB_p := hB_p.below hs hB_p.lt
  clear hs Fw3
  clear hc_p; have hc_p := hB_p.cell
  repeat (first | with_reducible apply wpList_nil | with_reducible apply seq_region | with_reducible apply wp_region_lit | with_reducible apply wp_seq | ((with_reducible apply seq_q); (focus rfl); (focus (simp [go_sem, effAt, ↓IntWalk.iteOmega, *]; (try go_ints); (first | (with_reducible exact effUpon_val) | (with_reducible exact effUpon_skip)))); (focus ((simp only [Act.put, List.setIfInBounds_toArray, List.set_cons_zero, List.set_cons_succ]; rfl)))) | ((with_reducible apply seq_s); (focus rfl); (focus ((simp only [Act.put, List.setIfInBounds_toArray, List.set_cons_zero, List.set_cons_succ]; rfl)))) | with_reducible apply wp_block | with_reducible apply wp_skip | with_reducible apply wp_exit | with_reducible apply wp_ret | ((with_reducible apply wp_cond_true); (focus (first | rfl | (simp [go_sem, *]; done)))) | ((with_reducible apply wp_cond_false); (focus (first | rfl | (simp [go_sem, *]; done)))) | (simp only [Exit.then, Exit.inBlock, ↓reduceIte, Nat.reduceEqDiff]))
  ((with_reducible apply seq_e (Below w4.heap.size w4)); (focus rfl); (focus (simp only [effAt]; simp [go_sem]; (with_reducible exact effUpon_enter (C3.out _ _ hB_p)))); (focus ((simp only [Act.put, List.setIfInBounds_toArray, List.set_cons_zero, List.set_cons_succ]; rfl))))
  intro w5 hs
  have Fw5 := Fw4.trans (hs.mono Fw4.size)
  replace hB_p := hB_p.below hs hB_p.lt
  clear hs Fw4
  clear hc_p; have hc_p := hB_p.cell
  repeat (first | with_reducible apply wpList_nil | with_reducible apply seq_region | with_reducible apply wp_region_lit | with_reducible apply wp_seq | ((with_reducible apply seq_q); (focus rfl); (focus (simp [go_sem, effAt, ↓IntWalk.iteOmega, *]; (try go_ints); (first | (with_reducible exact effUpon_val) | (with_reducible exact effUpon_skip)))); (focus ((simp only [Act.put, List.setIfInBounds_toArray, List.set_cons_zero, List.set_cons_succ]; rfl)))) | ((with_reducible apply seq_s); (focus rfl); (focus ((simp only [Act.put, List.setIfInBounds_toArray, List.set_cons_zero, List.set_cons_succ]; rfl)))) | with_reducible apply wp_block | with_reducible apply wp_skip | with_reducible apply wp_exit | with_reducible apply wp_ret | ((with_reducible apply wp_cond_true); (focus (first | rfl | (simp [go_sem, *]; done)))) | ((with_reducible apply wp_cond_false); (focus (first | rfl | (simp [go_sem, *]; done)))) | (simp only [Exit.then, Exit.inBlock, ↓reduceIte, Nat.reduceEqDiff]))
  ((with_reducible apply seq_e (fun w' => Blk w' _ _ _ ∧ w5.grownBy w' (some _))); (focus rfl); (focus (simp only [effAt]; simp [go_sem]; (with_reducible exact effUpon_enter (R0.out _ _ hB_p)))); (focus ((simp only [Act.put, List.setIfInBounds_toArray, List.set_cons_zero, List.set_cons_succ]; rfl))))
  clear hc_p hB_p
  intro w6 hs
  obtain ⟨hB_p, hs⟩ := hs
  have Fw6 := Fw5.grown hs Fw5.size (by intro k hk; injection hk with hk; subst hk; first | exact Nat.le_refl _ | exact Fw5.size | omega)
  clear hs Fw5
  have hc_p := hB_p.cell
  repeat (first | with_reducible apply wpList_nil | with_reducible apply seq_region | with_reducible apply wp_region_lit | with_reducible apply wp_seq | ((with_reducible apply seq_q); (focus rfl); (focus (simp [go_sem, effAt, ↓IntWalk.iteOmega, *]; (try go_ints); (first | (with_reducible exact effUpon_val) | (with_reducible exact effUpon_skip)))); (focus ((simp only [Act.put, List.setIfInBounds_toArray, List.set_cons_zero, List.set_cons_succ]; rfl)))) | ((with_reducible apply seq_s); (focus rfl); (focus ((simp only [Act.put, List.setIfInBounds_toArray, List.set_cons_zero, List.set_cons_succ]; rfl)))) | with_reducible apply wp_block | with_reducible apply wp_skip | with_reducible apply wp_exit | with_reducible apply wp_ret | ((with_reducible apply wp_cond_true); (focus (first | rfl | (simp [go_sem, *]; done)))) | ((with_reducible apply wp_cond_false); (focus (first | rfl | (simp [go_sem, *]; done)))) | (simp only [Exit.then, Exit.inBlock, ↓reduceIte, Nat.reduceEqDiff]))
  ((with_reducible apply seq_e (fun w' => Blk w' _ _ _ ∧ w6.grownBy w' (some _))); (focus rfl); (focus (simp only [effAt]; simp [go_sem]; (with_reducible exact effUpon_enter (R1.out _ _ hB_p)))); (focus ((simp only [Act.put, List.setIfInBounds_toArray, List.set_cons_zero, List.set_cons_succ]; rfl))))
  clear hc_p hB_p
  intro w7 hs
  obtain ⟨hB_p, hs⟩ := hs
  have Fw7 := Fw6.grown hs Fw6.size (by intro k hk; injection hk with hk; subst hk; first | exact Nat.le_refl _ | exact Fw6.size | omega)
  clear hs Fw6
  have hc_p := hB_p.cell
  repeat (first | with_reducible apply wpList_nil | with_reducible apply seq_region | with_reducible apply wp_region_lit | with_reducible apply wp_seq | ((with_reducible apply seq_q); (focus rfl); (focus (simp [go_sem, effAt, ↓IntWalk.iteOmega, *]; (try go_ints); (first | (with_reducible exact effUpon_val) | (with_reducible exact effUpon_skip)))); (focus ((simp only [Act.put, List.setIfInBounds_toArray, List.set_cons_zero, List.set_cons_succ]; rfl)))) | ((with_reducible apply seq_s); (focus rfl); (focus ((simp only [Act.put, List.setIfInBounds_toArray, List.set_cons_zero, List.set_cons_succ]; rfl)))) | with_reducible apply wp_block | with_reducible apply wp_skip | with_reducible apply wp_exit | with_reducible apply wp_ret | ((with_reducible apply wp_cond_true); (focus (first | rfl | (simp [go_sem, *]; done)))) | ((with_reducible apply wp_cond_false); (focus (first | rfl | (simp [go_sem, *]; done)))) | (simp only [Exit.then, Exit.inBlock, ↓reduceIte, Nat.reduceEqDiff]))
  ((with_reducible apply seq_e (fun w' => Blk w' _ _ _ ∧ w7.grownBy w' (some _))); (focus rfl); (focus (simp only [effAt]; simp [go_sem]; (with_reducible exact effUpon_enter (R2.out _ _ hB_p)))); (focus ((simp only [Act.put, List.setIfInBounds_toArray, List.set_cons_zero, List.set_cons_succ]; rfl))))
  clear hc_p hB_p
  intro w8 hs
  obtain ⟨hB_p, hs⟩ := hs
  have Fw8 := Fw7.grown hs Fw7.size (by intro k hk; injection hk with hk; subst hk; first | exact Nat.le_refl _ | exact Fw7.size | omega)
  clear hs Fw7
  have hc_p := hB_p.cell
  repeat (first | with_reducible apply wpList_nil | with_reducible apply seq_region | with_reducible apply wp_region_lit | with_reducible apply wp_seq | ((with_reducible apply seq_q); (focus rfl); (focus (simp [go_sem, effAt, ↓IntWalk.iteOmega, *]; (try go_ints); (first | (with_reducible exact effUpon_val) | (with_reducible exact effUpon_skip)))); (focus ((simp only [Act.put, List.setIfInBounds_toArray, List.set_cons_zero, List.set_cons_succ]; rfl)))) | ((with_reducible apply seq_s); (focus rfl); (focus ((simp only [Act.put, List.setIfInBounds_toArray, List.set_cons_zero, List.set_cons_succ]; rfl)))) | with_reducible apply wp_block | with_reducible apply wp_skip | with_reducible apply wp_exit | with_reducible apply wp_ret | ((with_reducible apply wp_cond_true); (focus (first | rfl | (simp [go_sem, *]; done)))) | ((with_reducible apply wp_cond_false); (focus (first | rfl | (simp [go_sem, *]; done)))) | (simp only [Exit.then, Exit.inBlock, ↓reduceIte, Nat.reduceEqDiff]))
  ((with_reducible apply seq_e (fun w' => Blk w' _ _ _ ∧ w8.grownBy w' (some _))); (focus rfl); (focus (simp only [effAt]; simp [go_sem]; (with_reducible exact effUpon_enter (P0.out _ _ hB_p)))); (focus ((simp only [Act.put, List.setIfInBounds_toArray, List.set_cons_zero, List.set_cons_succ]; rfl))))
  clear hc_p hB_p
  intro w9 hs
  obtain ⟨hB_p, hs⟩ := hs
  have Fw9 := Fw8.grown hs Fw8.size (by intro k hk; injection hk with hk; subst hk; first | exact Nat.le_refl _ | exact Fw8.size | omega)
  clear hs Fw8
  have hc_p := hB_p.cell
  repeat (first | with_reducible apply wpList_nil | with_reducible apply seq_region | with_reducible apply wp_region_lit | with_reducible apply wp_seq | ((with_reducible apply seq_q); (focus rfl); (focus (simp [go_sem, effAt, ↓IntWalk.iteOmega, *]; (try go_ints); (first | (with_reducible exact effUpon_val) | (with_reducible exact effUpon_skip)))); (focus ((simp only [Act.put, List.setIfInBounds_toArray, List.set_cons_zero, List.set_cons_succ]; rfl)))) | ((with_reducible apply seq_s); (focus rfl); (focus ((simp only [Act.put, List.setIfInBounds_toArray, List.set_cons_zero, List.set_cons_succ]; rfl)))) | with_reducible apply wp_block | with_reducible apply wp_skip | with_reducible apply wp_exit | with_reducible apply wp_ret | ((with_reducible apply wp_cond_true); (focus (first | rfl | (simp [go_sem, *]; done)))) | ((with_reducible apply wp_cond_false); (focus (first | rfl | (simp [go_sem, *]; done)))) | (simp only [Exit.then, Exit.inBlock, ↓reduceIte, Nat.reduceEqDiff]))
  ((with_reducible apply seq_e (fun w' => Blk w' _ _ _ ∧ w9.grownBy w' (some _))); (focus rfl); (focus (simp only [effAt]; simp [go_sem]; (with_reducible exact effUpon_enter (P1.out _ _ hB_p)))); (focus ((simp only [Act.put, List.setIfInBounds_toArray, List.set_cons_zero, List.set_cons_succ]; rfl))))
  clear hc_p hB_p
  intro w10 hs
  obtain ⟨hB_p, hs⟩ := hs
  have Fw10 := Fw9.grown hs Fw9.size (by intro k hk; injection hk with hk; subst hk; first | exact Nat.le_refl _ | exact Fw9.size | omega)
  clear hs Fw9
  have hc_p := hB_p.cell
  repeat (first | with_reducible apply wpList_nil | with_reducible apply seq_region | with_reducible apply wp_region_lit | with_reducible apply wp_seq | ((with_reducible apply seq_q); (focus rfl); (focus (simp [go_sem, effAt, ↓IntWalk.iteOmega, *]; (try go_ints); (first | (with_reducible exact effUpon_val) | (with_reducible exact effUpon_skip)))); (focus ((simp only [Act.put, List.setIfInBounds_toArray, List.set_cons_zero, List.set_cons_succ]; rfl)))) | ((with_reducible apply seq_s); (focus rfl); (focus ((simp only [Act.put, List.setIfInBounds_toArray, List.set_cons_zero, List.set_cons_succ]; rfl)))) | with_reducible apply wp_block | with_reducible apply wp_skip | with_reducible apply wp_exit | with_reducible apply wp_ret | ((with_reducible apply wp_cond_true); (focus (first | rfl | (simp [go_sem, *]; done)))) | ((with_reducible apply wp_cond_false); (focus (first | rfl | (simp [go_sem, *]; done)))) | (simp only [Exit.then, Exit.inBlock, ↓reduceIte, Nat.reduceEqDiff]))
  ((with_reducible apply seq_e (fun w' => Blk w' _ _ _ ∧ w10.grownBy w' (some _))); (focus rfl); (focus (simp only [effAt]; simp [go_sem]; (with_reducible exact effUpon_enter (P2.out _ _ hB_p)))); (focus ((simp only [Act.put, List.setIfInBounds_toArray, List.set_cons_zero, List.set_cons_succ]; rfl))))
  clear hc_p hB_p
  intro w11 hs
  obtain ⟨hB_p, hs⟩ := hs
  have Fw11 := Fw10.grown hs Fw10.size (by intro k hk; injection hk with hk; subst hk; first | exact Nat.le_refl _ | exact Fw10.size | omega)
  clear hs Fw10
  have hc_p := hB_p.cell
  repeat (first | with_reducible apply wpList_nil | with_reducible apply seq_region | with_reducible apply wp_region_lit | with_reducible apply wp_seq | ((with_reducible apply seq_q); (focus rfl); (focus (simp [go_sem, effAt, ↓IntWalk.iteOmega, *]; (try go_ints); (first | (with_reducible exact effUpon_val) | (with_reducible exact effUpon_skip)))); (focus ((simp only [Act.put, List.setIfInBounds_toArray, List.set_cons_zero, List.set_cons_succ]; rfl)))) | ((with_reducible apply seq_s); (focus rfl); (focus ((simp only [Act.put, List.setIfInBounds_toArray, List.set_cons_zero, List.set_cons_succ]; rfl)))) | with_reducible apply wp_block | with_reducible apply wp_skip | with_reducible apply wp_exit | with_reducible apply wp_ret | ((with_reducible apply wp_cond_true); (focus (first | rfl | (simp [go_sem, *]; done)))) | ((with_reducible apply wp_cond_false); (focus (first | rfl | (simp [go_sem, *]; done)))) | (simp only [Exit.then, Exit.inBlock, ↓reduceIte, Nat.reduceEqDiff]))
  ((with_reducible apply seq_e (Below w11.heap.size w11)); (focus rfl); (focus (simp only [effAt]; simp [go_sem]; (with_reducible exact effUpon_enter (M0.out _ _ hB_p)))); (focus ((simp only [Act.put, List.setIfInBounds_toArray, List.set_cons_zero, List.set_cons_succ]; rfl))))
  intro w12 hs
  have Fw12 := Fw11.trans (hs.mono Fw11.size)
  replace hB_p := hB_p.below hs hB_p.lt
  clear hs Fw11
  clear hc_p; have hc_p := hB_p.cell
  repeat (first | with_reducible apply wpList_nil | with_reducible apply seq_region | with_reducible apply wp_region_lit | with_reducible apply wp_seq | ((with_reducible apply seq_q); (focus rfl); (focus (simp [go_sem, effAt, ↓IntWalk.iteOmega, *]; (try go_ints); (first | (with_reducible exact effUpon_val) | (with_reducible exact effUpon_skip)))); (focus ((simp only [Act.put, List.setIfInBounds_toArray, List.set_cons_zero, List.set_cons_succ]; rfl)))) | ((with_reducible apply seq_s); (focus rfl); (focus ((simp only [Act.put, List.setIfInBounds_toArray, List.set_cons_zero, List.set_cons_succ]; rfl)))) | with_reducible apply wp_block | with_reducible apply wp_skip | with_reducible apply wp_exit | with_reducible apply wp_ret | ((with_reducible apply wp_cond_true); (focus (first | rfl | (simp [go_sem, *]; done)))) | ((with_reducible apply wp_cond_false); (focus (first | rfl | (simp [go_sem, *]; done)))) | (simp only [Exit.then, Exit.inBlock, ↓reduceIte, Nat.reduceEqDiff]))
  ((with_reducible apply seq_e (fun w' => Blk w' _ _ _ ∧ w12.grownBy w' (some _))); (focus rfl); (focus (simp only [effAt]; simp [go_sem]; (with_reducible exact effUpon_enter (S0.out _ _ hB_p)))); (focus ((simp only [Act.put, List.setIfInBounds_toArray, List.set_cons_zero, List.set_cons_succ]; rfl))))
  clear hc_p hB_p
  intro w13 hs
  obtain ⟨hB_p, hs⟩ := hs
  have Fw13 := Fw12.grown hs Fw12.size (by intro k hk; injection hk with hk; subst hk; first | exact Nat.le_refl _ | exact Fw12.size | omega)
  clear hs Fw12
  have hc_p := hB_p.cell
  repeat (first | with_reducible apply wpList_nil | with_reducible apply seq_region | with_reducible apply wp_region_lit | with_reducible apply wp_seq | ((with_reducible apply seq_q); (focus rfl); (focus (simp [go_sem, effAt, ↓IntWalk.iteOmega, *]; (try go_ints); (first | (with_reducible exact effUpon_val) | (with_reducible exact effUpon_skip)))); (focus ((simp only [Act.put, List.setIfInBounds_toArray, List.set_cons_zero, List.set_cons_succ]; rfl)))) | ((with_reducible apply seq_s); (focus rfl); (focus ((simp only [Act.put, List.setIfInBounds_toArray, List.set_cons_zero, List.set_cons_succ]; rfl)))) | with_reducible apply wp_block | with_reducible apply wp_skip | with_reducible apply wp_exit | with_reducible apply wp_ret | ((with_reducible apply wp_cond_true); (focus (first | rfl | (simp [go_sem, *]; done)))) | ((with_reducible apply wp_cond_false); (focus (first | rfl | (simp [go_sem, *]; done)))) | (simp only [Exit.then, Exit.inBlock, ↓reduceIte, Nat.reduceEqDiff]))
  ((with_reducible apply seq_e (fun w' => Blk w' _ _ _ ∧ w13.grownBy w' (some _))); (focus rfl); (focus (simp only [effAt]; simp [go_sem]; (with_reducible exact effUpon_enter (P3.out _ _ hB_p)))); (focus ((simp only [Act.put, List.setIfInBounds_toArray, List.set_cons_zero, List.set_cons_succ]; rfl))))
  clear hc_p hB_p
  intro w14 hs
  obtain ⟨hB_p, hs⟩ := hs
  have Fw14 := Fw13.grown hs Fw13.size (by intro k hk; injection hk with hk; subst hk; first | exact Nat.le_refl _ | exact Fw13.size | omega)
  clear hs Fw13
  have hc_p := hB_p.cell
  repeat (first | with_reducible apply wpList_nil | with_reducible apply seq_region | with_reducible apply wp_region_lit | with_reducible apply wp_seq | ((with_reducible apply seq_q); (focus rfl); (focus (simp [go_sem, effAt, ↓IntWalk.iteOmega, *]; (try go_ints); (first | (with_reducible exact effUpon_val) | (with_reducible exact effUpon_skip)))); (focus ((simp only [Act.put, List.setIfInBounds_toArray, List.set_cons_zero, List.set_cons_succ]; rfl)))) | ((with_reducible apply seq_s); (focus rfl); (focus ((simp only [Act.put, List.setIfInBounds_toArray, List.set_cons_zero, List.set_cons_succ]; rfl)))) | with_reducible apply wp_block | with_reducible apply wp_skip | with_reducible apply wp_exit | with_reducible apply wp_ret | ((with_reducible apply wp_cond_true); (focus (first | rfl | (simp [go_sem, *]; done)))) | ((with_reducible apply wp_cond_false); (focus (first | rfl | (simp [go_sem, *]; done)))) | (simp only [Exit.then, Exit.inBlock, ↓reduceIte, Nat.reduceEqDiff]))
  ((with_reducible apply seq_e (fun w' => Blk w' _ _ _ ∧ w14.grownBy w' (some _))); (focus rfl); (focus (simp only [effAt]; simp [go_sem]; (with_reducible exact effUpon_enter (R3.out _ _ hB_p)))); (focus ((simp only [Act.put, List.setIfInBounds_toArray, List.set_cons_zero, List.set_cons_succ]; rfl))))
  clear hc_p hB_p
  intro w15 hs
  obtain ⟨hB_p, hs⟩ := hs
  have Fw15 := Fw14.grown hs Fw14.size (by intro k hk; injection hk with hk; subst hk; first | exact Nat.le_refl _ | exact Fw14.size | omega)
  clear hs Fw14
  have hc_p := hB_p.cell
  repeat (first | with_reducible apply wpList_nil | with_reducible apply seq_region | with_reducible apply wp_region_lit | with_reducible apply wp_seq | ((with_reducible apply seq_q); (focus rfl); (focus (simp [go_sem, effAt, ↓IntWalk.iteOmega, *]; (try go_ints); (first | (with_reducible exact effUpon_val) | (with_reducible exact effUpon_skip)))); (focus ((simp only [Act.put, List.setIfInBounds_toArray, List.set_cons_zero, List.set_cons_succ]; rfl)))) | ((with_reducible apply seq_s); (focus rfl); (focus ((simp only [Act.put, List.setIfInBounds_toArray, List.set_cons_zero, List.set_cons_succ]; rfl)))) | with_reducible apply wp_block | with_reducible apply wp_skip | with_reducible apply wp_exit | with_reducible apply wp_ret | ((with_reducible apply wp_cond_true); (focus (first | rfl | (simp [go_sem, *]; done)))) | ((with_reducible apply wp_cond_false); (focus (first | rfl | (simp [go_sem, *]; done)))) | (simp only [Exit.then, Exit.inBlock, ↓reduceIte, Nat.reduceEqDiff]))
  ((with_reducible apply seq_e (fun w' => Blk w' _ _ _ ∧ w15.grownBy w' (some _))); (focus rfl); (focus (simp only [effAt]; simp [go_sem]; (with_reducible exact effUpon_enter (P4.out _ _ hB_p)))); (focus ((simp only [Act.put, List.setIfInBounds_toArray, List.set_cons_zero, List.set_cons_succ]; rfl))))
  clear hc_p hB_p
  intro w16 hs
  obtain ⟨hB_p, hs⟩ := hs
  have Fw16 := Fw15.grown hs Fw15.size (by intro k hk; injection hk with hk; subst hk; first | exact Nat.le_refl _ | exact Fw15.size | omega)
  clear hs Fw15
  have hc_p := hB_p.cell
  repeat (first | with_reducible apply wpList_nil | with_reducible apply seq_region | with_reducible apply wp_region_lit | with_reducible apply wp_seq | ((with_reducible apply seq_q); (focus rfl); (focus (simp [go_sem, effAt, ↓IntWalk.iteOmega, *]; (try go_ints); (first | (with_reducible exact effUpon_val) | (with_reducible exact effUpon_skip)))); (focus ((simp only [Act.put, List.setIfInBounds_toArray, List.set_cons_zero, List.set_cons_succ]; rfl)))) | ((with_reducible apply seq_s); (focus rfl); (focus ((simp only [Act.put, List.setIfInBounds_toArray, List.set_cons_zero, List.set_cons_succ]; rfl)))) | with_reducible apply wp_block | with_reducible apply wp_skip | with_reducible apply wp_exit | with_reducible apply wp_ret | ((with_reducible apply wp_cond_true); (focus (first | rfl | (simp [go_sem, *]; done)))) | ((with_reducible apply wp_cond_false); (focus (first | rfl | (simp [go_sem, *]; done)))) | (simp only [Exit.then, Exit.inBlock, ↓reduceIte, Nat.reduceEqDiff]))
  go_ret
  exact ⟨rfl, by assumption⟩
end Go.Proofs.Ytminenipklgbcaa
