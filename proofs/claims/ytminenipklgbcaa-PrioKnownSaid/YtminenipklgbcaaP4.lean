/- The walks of SetReady, SetClass, Take, New. -/
import Derived.Test.YtminenipklgbcaaP3
set_option linter.unusedSimpArgs false
set_option linter.unusedVariables false
namespace Go.Proofs.Ytminenipklgbcaa
open Go.RowKit Go.Eff
attribute [local irreducible] Go.wpList
def PS.setC (s : PS) (d : Nat) (c : Int) : PS := { s with cl := s.cl.set d c }
def PS.setR (s : PS) (d : Nat) (b : Bool) : PS := { s with rd := s.rd.set d b }
section
variable {s : PS} {d : Nat}
theorem cells_setC (hs : s.Ok) (hd : d < 64) (c : Int) : (cellsP s).setIfInBounds d (.int .u8 c) = cellsP (s.setC d c) := by
  have h1 := hs.cl64
  unfold cellsP PS.setC
  rw [List.setIfInBounds_toArray, List.append_assoc, List.set_append_left _ _ (by simp; omega), ← List.append_assoc, List.map_set]
theorem cells_setR (hs : s.Ok) (hd : d < 64) (b : Bool) : (cellsP s).setIfInBounds (64 + d) (.bool b) = cellsP (s.setR d b) := by
  have h1 := hs.cl64
  have h2 := hs.rd64
  unfold cellsP PS.setR
  rw [List.setIfInBounds_toArray, List.append_assoc, List.set_append_right _ _ (by simp; omega), List.set_append_left _ _ (by simp; omega), ← List.append_assoc, List.map_set]
  simp [h1]
theorem cells_take (hs : s.Ok) (hd : d < 64) : (cellsP s).setIfInBounds (128 + (s.c d).toNat) (.int .i64 (d + 1)) = cellsP (s.take d) := by
  have h1 := hs.cl64
  have h2 := hs.rd64
  unfold cellsP PS.take
  rw [List.setIfInBounds_toArray, List.set_append_right _ _ (by simp; omega), List.map_set]
  simp [h1, h2, show 128 + (s.c d).toNat - (64 + 64) = (s.c d).toNat by omega]
theorem getD_set_le {l : List Int} {d i : Nat} {x lo hi : Int} (hx : lo ≤ x ∧ x < hi) (h : lo ≤ l.getD i 0 ∧ l.getD i 0 < hi) (h0 : lo ≤ 0 ∧ 0 < hi) : lo ≤ (l.set d x).getD i 0 ∧ (l.set d x).getD i 0 < hi := by
  simp only [List.getD_eq_getElem?_getD, List.getElem?_set] at *
  split
  · split <;> simp <;> omega
  · exact h
theorem setC_ok (hs : s.Ok) {c : Int} (hc : 0 ≤ c ∧ c < 64) : (s.setC d c).Ok :=
  ⟨by simpa [PS.setC] using hs.cl64, hs.rd64, hs.la64, fun i hi => getD_set_le hc (hs.clr i hi) (by omega), hs.lar⟩
theorem setR_ok (hs : s.Ok) {b : Bool} : (s.setR d b).Ok := ⟨hs.cl64, by simpa [PS.setR] using hs.rd64, hs.la64, hs.clr, hs.lar⟩
end
/-- what SetClass, SetReady do -/
def PS.okC (d : Nat) (c : Int) : Bool := decide (d < 64) && decide (c < 64)
def PS.callC (s : PS) (d : Nat) (c : Int) : PS := if d < 64 then if c < 64 then s.setC d c else s else s
def PS.callR (s : PS) (d : Nat) (b : Bool) : PS := if d < 64 then s.setR d b else s
def errC (d : Nat) (c : Int) : Int := if d < 64 then if c < 64 then 0 else 2 else 2
def errR (d : Nat) : Int := if d < 64 then 0 else 2
section
variable {s : PS} {g d : Nat} {w : World}
theorem closeR (hs : s.Ok) (hd : d < 64) (g : Nat) (b : Bool) (w : World) (x y z : Nat) (hg : g < x ∧ x < y ∧ y < z) (hB_x : Blk w x 24 #[.pointer (some ⟨g, 0, none⟩)]) (hB_y : Blk w y 5 #[.int .u8 d]) (hB_z : Blk w z 4 #[.bool b]) (hB_p : PB w g s) :
    Calls Try.prog 27 #[.pointer (some ⟨z, 0, none⟩), .pointer (some ⟨x, 0, none⟩), .pointer (some ⟨y, 0, none⟩)] w (Ret (.tuple #[]) fun w' => PB w' g (s.setR d b) ∧ w.grownBy w' (some g)) := by
  have hd' : (d : Int) < 64 := by omega
  have e1 := cellsP_r hs hd
  have e2 := cells_setR hs hd b
  have HS := Lib.hid hs
  clear hs
  go_enter Try.func27, Try.ntmps27
  have F0 : Turn (fun i => i = g ∨ w.heap.size ≤ i) w w := Turn.refl _
  have hc_p := hB_p.cell
  have hc_x := hB_x.cell
  have hc_y := hB_y.cell
  have hc_z := hB_z.cell
  refine wp_region_tail 6 (by kernel_rfl) (by kernel_rfl) ?_
  simp only [List.take_succ_cons, List.take_zero, List.drop_succ_cons, List.drop_zero]
  generalize hww1 : World.drew w = w1
  have hs : Below w.heap.size w w1 := hww1 ▸ (Below.refl _ _).drew
  clear hww1
  have Fw1 := F0.trans (Turn.of_below hs)
  replace hB_p := hB_p.below hs hB_p.lt
  replace hB_x := hB_x.below hs hB_x.lt
  replace hB_y := hB_y.below hs hB_y.lt
  replace hB_z := hB_z.below hs hB_z.lt
  clear hs F0
  clear hc_p; have hc_p := hB_p.cell
  clear hc_x; have hc_x := hB_x.cell
  clear hc_y; have hc_y := hB_y.cell
  clear hc_z; have hc_z := hB_z.cell
  repeat (first | ((with_reducible apply still_q); (focus rfl); (focus (simp [go_sem, stAt, ↓IntWalk.iteOmega, *]; (try go_ints); (first | (with_reducible exact stUpon_val) | (with_reducible exact stUpon_skip)))); (focus ((simp only [Act.put, List.setIfInBounds_toArray, List.set_cons_zero, List.set_cons_succ]; rfl)))) | ((with_reducible apply still_s); (focus rfl); (focus ((simp only [Act.put, List.setIfInBounds_toArray, List.set_cons_zero, List.set_cons_succ]; rfl)))))
  with_reducible refine wpStill_nil ?_
  have hf_p := hB_p.frozen
  with_reducible apply seq_e (fun w' => PB w' g (s.setR d b) ∧ w1.grownBy w' (some g))
  (focus (first | exact wanted_none rfl | exact wanted_yes rfl rfl rfl))
  (focus (simp [go_sem, effAt, *]; exact ⟨rfl, by have h := hB_p.set_ (64 + d) (.bool b); rw [e2] at h; exact h, grown_set (World.grownBy.refl _ _)⟩))
  (simp only [Act.put, List.setIfInBounds_toArray, List.set_cons_zero, List.set_cons_succ]; rfl)
  rintro u ⟨hP, hg2⟩
  with_reducible apply wpList_nil
  refine bodyPost_end (results_none rfl _ _ _) rfl ⟨rfl, hP, ?_⟩
  exact (Fw1.trans (Turn.of_grown hg2 (.inl rfl))).to_grown
theorem closeC (hs : s.Ok) (hd : d < 64) (g : Nat) (c : Int) (w : World) (x y z : Nat) (hg : g < x ∧ x < y ∧ y < z) (hB_x : Blk w x 24 #[.pointer (some ⟨g, 0, none⟩)]) (hB_y : Blk w y 5 #[.int .u8 d]) (hB_z : Blk w z 5 #[.int .u8 c]) (hB_p : PB w g s) :
    Calls Try.prog 28 #[.pointer (some ⟨z, 0, none⟩), .pointer (some ⟨x, 0, none⟩), .pointer (some ⟨y, 0, none⟩)] w (Ret (.tuple #[]) fun w' => PB w' g (s.setC d c) ∧ w.grownBy w' (some g)) := by
  have hd' : (d : Int) < 64 := by omega
  have e1 := cellsP_c hs hd
  have e2 := cells_setC hs hd c
  have HS := Lib.hid hs
  clear hs
  go_enter Try.func28, Try.ntmps28
  have F0 : Turn (fun i => i = g ∨ w.heap.size ≤ i) w w := Turn.refl _
  have hc_p := hB_p.cell
  have hc_x := hB_x.cell
  have hc_y := hB_y.cell
  have hc_z := hB_z.cell
  refine wp_region_tail 6 (by kernel_rfl) (by kernel_rfl) ?_
  simp only [List.take_succ_cons, List.take_zero, List.drop_succ_cons, List.drop_zero]
  generalize hww1 : World.drew w = w1
  have hs : Below w.heap.size w w1 := hww1 ▸ (Below.refl _ _).drew
  clear hww1
  have Fw1 := F0.trans (Turn.of_below hs)
  replace hB_p := hB_p.below hs hB_p.lt
  replace hB_x := hB_x.below hs hB_x.lt
  replace hB_y := hB_y.below hs hB_y.lt
  replace hB_z := hB_z.below hs hB_z.lt
  clear hs F0
  clear hc_p; have hc_p := hB_p.cell
  clear hc_x; have hc_x := hB_x.cell
  clear hc_y; have hc_y := hB_y.cell
  clear hc_z; have hc_z := hB_z.cell
  repeat (first | ((with_reducible apply still_q); (focus rfl); (focus (simp [go_sem, stAt, ↓IntWalk.iteOmega, *]; (try go_ints); (first | (with_reducible exact stUpon_val) | (with_reducible exact stUpon_skip)))); (focus ((simp only [Act.put, List.setIfInBounds_toArray, List.set_cons_zero, List.set_cons_succ]; rfl)))) | ((with_reducible apply still_s); (focus rfl); (focus ((simp only [Act.put, List.setIfInBounds_toArray, List.set_cons_zero, List.set_cons_succ]; rfl)))))
  with_reducible refine wpStill_nil ?_
  have hf_p := hB_p.frozen
  with_reducible apply seq_e (fun w' => PB w' g (s.setC d c) ∧ w1.grownBy w' (some g))
  (focus (first | exact wanted_none rfl | exact wanted_yes rfl rfl rfl))
  (focus (simp [go_sem, effAt, *]; exact ⟨rfl, by have h := hB_p.set_ (d) (.int .u8 c); rw [e2] at h; exact h, grown_set (World.grownBy.refl _ _)⟩))
  (simp only [Act.put, List.setIfInBounds_toArray, List.set_cons_zero, List.set_cons_succ]; rfl)
  rintro u ⟨hP, hg2⟩
  with_reducible apply wpList_nil
  refine bodyPost_end (results_none rfl _ _ _) rfl ⟨rfl, hP, ?_⟩
  exact (Fw1.trans (Turn.of_grown hg2 (.inl rfl))).to_grown

theorem set_do (hd : d < 64) (g : Nat) (F : FuncId) (caps : Array Value) (hcf : ∀ w, (callFunc F caps).run Try.prog w = .ok (.enter F caps) w) {X : World → Prop} (w : World) (hF : Calls Try.prog F caps w (Ret (.tuple #[]) X)) :
    Calls Try.prog 26 #[.pointer (some ⟨g, 0, none⟩), .int .u8 d, .bool true, .func (.func F) #[] caps] w (Ret (.int .i64 0) X) := by
  have hd' : (d : Int) < 64 := by omega
  have hd2 : ¬ (64 : Int) ≤ d := by omega
  go_enter Try.func26, Try.ntmps26
  have F0 : Below w.heap.size w w := Below.refl _ _
  repeat (first | with_reducible apply wpList_nil | with_reducible apply seq_region | with_reducible apply wp_region_lit | with_reducible apply wp_seq | ((with_reducible apply seq_q); (focus rfl); (focus (simp [go_sem, effAt, ↓IntWalk.iteOmega, *]; (try go_ints); (first | (with_reducible exact effUpon_val) | (with_reducible exact effUpon_skip)))); (focus ((simp only [Act.put, List.setIfInBounds_toArray, List.set_cons_zero, List.set_cons_succ]; rfl)))) | ((with_reducible apply seq_s); (focus rfl); (focus ((simp only [Act.put, List.setIfInBounds_toArray, List.set_cons_zero, List.set_cons_succ]; rfl)))) | with_reducible apply wp_block | with_reducible apply wp_skip | with_reducible apply wp_exit | with_reducible apply wp_ret | ((with_reducible apply wp_cond_true); (focus (first | rfl | (simp [go_sem, *]; done)))) | ((with_reducible apply wp_cond_false); (focus (first | rfl | (simp [go_sem, *]; done)))) | (simp only [Exit.then, Exit.inBlock, ↓reduceIte, Nat.reduceEqDiff]))
  with_reducible apply seq_e X
  (focus (first | exact wanted_none rfl | exact wanted_yes rfl rfl rfl))
  (focus (simp only [effAt]; simp [go_sem, hcf]; (with_reducible exact effUpon_enter hF)))
  (simp only [Act.put, List.setIfInBounds_toArray, List.set_cons_zero, List.set_cons_succ]; rfl)
  intro u hX
  repeat (first | with_reducible apply wpList_nil | with_reducible apply seq_region | with_reducible apply wp_region_lit | with_reducible apply wp_seq | ((with_reducible apply seq_q); (focus rfl); (focus (simp [go_sem, effAt, ↓IntWalk.iteOmega, *]; (try go_ints); (first | (with_reducible exact effUpon_val) | (with_reducible exact effUpon_skip)))); (focus ((simp only [Act.put, List.setIfInBounds_toArray, List.set_cons_zero, List.set_cons_succ]; rfl)))) | ((with_reducible apply seq_s); (focus rfl); (focus ((simp only [Act.put, List.setIfInBounds_toArray, List.set_cons_zero, List.set_cons_succ]; rfl)))) | with_reducible apply wp_block | with_reducible apply wp_skip | with_reducible apply wp_exit | with_reducible apply wp_ret | ((with_reducible apply wp_cond_true); (focus (first | rfl | (simp [go_sem, *]; done)))) | ((with_reducible apply wp_cond_false); (focus (first | rfl | (simp [go_sem, *]; done)))) | (simp only [Exit.then, Exit.inBlock, ↓reduceIte, Nat.reduceEqDiff]))
  go_ret
  exact ⟨rfl, hX⟩
theorem set_arg (g : Nat) (may : Bool) (fv : Value) (h : d < 64 → may = false) (w : World) :
    Calls Try.prog 26 #[.pointer (some ⟨g, 0, none⟩), .int .u8 d, .bool may, fv] w (Ret (.int .i64 2) (Below w.heap.size w)) := by
  by_cases hd : d < 64
  case pos =>
    obtain rfl := h hd
    have hd' : (d : Int) < 64 := by omega
    have hd2 : ¬ (64 : Int) ≤ d := by omega
    go_enter Try.func26, Try.ntmps26
    have F0 : Below w.heap.size w w := Below.refl _ _
    repeat (first | with_reducible apply wpList_nil | with_reducible apply seq_region | with_reducible apply wp_region_lit | with_reducible apply wp_seq | ((with_reducible apply seq_q); (focus rfl); (focus (simp [go_sem, effAt, ↓IntWalk.iteOmega, *]; (try go_ints); (first | (with_reducible exact effUpon_val) | (with_reducible exact effUpon_skip)))); (focus ((simp only [Act.put, List.setIfInBounds_toArray, List.set_cons_zero, List.set_cons_succ]; rfl)))) | ((with_reducible apply seq_s); (focus rfl); (focus ((simp only [Act.put, List.setIfInBounds_toArray, List.set_cons_zero, List.set_cons_succ]; rfl)))) | with_reducible apply wp_block | with_reducible apply wp_skip | with_reducible apply wp_exit | with_reducible apply wp_ret | ((with_reducible apply wp_cond_true); (focus (first | rfl | (simp [go_sem, *]; done)))) | ((with_reducible apply wp_cond_false); (focus (first | rfl | (simp [go_sem, *]; done)))) | (simp only [Exit.then, Exit.inBlock, ↓reduceIte, Nat.reduceEqDiff]))
    go_ret
    exact ⟨rfl, by assumption⟩
  case neg =>
    have hd' : ¬ (d : Int) < 64 := by omega
    have hd2 : (64 : Int) ≤ d := by omega
    go_enter Try.func26, Try.ntmps26
    have F0 : Below w.heap.size w w := Below.refl _ _
    repeat (first | with_reducible apply wpList_nil | with_reducible apply seq_region | with_reducible apply wp_region_lit | with_reducible apply wp_seq | ((with_reducible apply seq_q); (focus rfl); (focus (simp [go_sem, effAt, ↓IntWalk.iteOmega, *]; (try go_ints); (first | (with_reducible exact effUpon_val) | (with_reducible exact effUpon_skip)))); (focus ((simp only [Act.put, List.setIfInBounds_toArray, List.set_cons_zero, List.set_cons_succ]; rfl)))) | ((with_reducible apply seq_s); (focus rfl); (focus ((simp only [Act.put, List.setIfInBounds_toArray, List.set_cons_zero, List.set_cons_succ]; rfl)))) | with_reducible apply wp_block | with_reducible apply wp_skip | with_reducible apply wp_exit | with_reducible apply wp_ret | ((with_reducible apply wp_cond_true); (focus (first | rfl | (simp [go_sem, *]; done)))) | ((with_reducible apply wp_cond_false); (focus (first | rfl | (simp [go_sem, *]; done)))) | (simp only [Exit.then, Exit.inBlock, ↓reduceIte, Nat.reduceEqDiff]))
    go_ret
    exact ⟨rfl, by assumption⟩
theorem set_nil (d : Nat) (may : Bool) (fv : Value) (w : World) : Calls Try.prog 26 #[.pointer none, .int .u8 d, .bool may, fv] w (Ret (.int .i64 1) (Below w.heap.size w)) := by
  go_enter Try.func26, Try.ntmps26
  have F0 : Below w.heap.size w w := Below.refl _ _
  repeat (first | with_reducible apply wpList_nil | with_reducible apply seq_region | with_reducible apply wp_region_lit | with_reducible apply wp_seq | ((with_reducible apply seq_q); (focus rfl); (focus (simp [go_sem, effAt, ↓IntWalk.iteOmega, *]; (try go_ints); (first | (with_reducible exact effUpon_val) | (with_reducible exact effUpon_skip)))); (focus ((simp only [Act.put, List.setIfInBounds_toArray, List.set_cons_zero, List.set_cons_succ]; rfl)))) | ((with_reducible apply seq_s); (focus rfl); (focus ((simp only [Act.put, List.setIfInBounds_toArray, List.set_cons_zero, List.set_cons_succ]; rfl)))) | with_reducible apply wp_block | with_reducible apply wp_skip | with_reducible apply wp_exit | with_reducible apply wp_ret | ((with_reducible apply wp_cond_true); (focus (first | rfl | (simp [go_sem, *]; done)))) | ((with_reducible apply wp_cond_false); (focus (first | rfl | (simp [go_sem, *]; done)))) | (simp only [Exit.then, Exit.inBlock, ↓reduceIte, Nat.reduceEqDiff]))
  go_ret
  exact ⟨rfl, by assumption⟩
theorem setready_any (hs : s.Ok) (g d : Nat) (b : Bool) (w : World) (hB_p : PB w g s) : Calls Try.prog 17 #[.pointer (some ⟨g, 0, none⟩), .int .u8 d, .bool b] w (Ret (.int .i64 (errR d)) fun w' => PB w' g (s.callR d b) ∧ w.grownBy w' (some g)) := by
  by_cases hd : d < 64
  case pos =>
    have hF := fun w x y z hg p q r t => set_do hd g 27 _ (fun w => by simp [go_sem]) w (closeR hs hd g b w x y z hg p q r t)
    have e1 : errR d = 0 := by unfold errR; rw [if_pos hd]
    have e2 : s.callR d b = s.setR d b := by unfold PS.callR; rw [if_pos hd]
    rw [e1, e2]
    clear e1 e2 hs
    go_enter Try.func17, Try.ntmps17
    have F0 : Turn (fun i => i = g ∨ w.heap.size ≤ i) w w := Turn.refl _
    have hc_p := hB_p.cell
    repeat (first | with_reducible apply wpList_nil | with_reducible apply seq_region | with_reducible apply wp_region_lit | with_reducible apply wp_seq | ((with_reducible apply seq_q); (focus rfl); (focus (simp [go_sem, effAt, ↓IntWalk.iteOmega, *]; (try go_ints); (first | (with_reducible exact effUpon_val) | (with_reducible exact effUpon_skip)))); (focus ((simp only [Act.put, List.setIfInBounds_toArray, List.set_cons_zero, List.set_cons_succ]; rfl)))) | ((with_reducible apply seq_s); (focus rfl); (focus ((simp only [Act.put, List.setIfInBounds_toArray, List.set_cons_zero, List.set_cons_succ]; rfl)))) | with_reducible apply wp_block | with_reducible apply wp_skip | with_reducible apply wp_exit | with_reducible apply wp_ret | ((with_reducible apply wp_cond_true); (focus (first | rfl | (simp [go_sem, *]; done)))) | ((with_reducible apply wp_cond_false); (focus (first | rfl | (simp [go_sem, *]; done)))) | (simp only [Exit.then, Exit.inBlock, ↓reduceIte, Nat.reduceEqDiff]))
    have lt_p_x := hB_p.lt
    have le_x := F0.size
    ((with_reducible apply seq_box); (focus rfl); (focus (simp [go_sem, effAt]; exact ⟨rfl, rfl⟩)); (focus ((simp only [Act.put, List.setIfInBounds_toArray, List.set_cons_zero, List.set_cons_succ]; rfl))))
    intro w1 hB_x hs
    have Fw1 := F0.trans (Turn.of_below hs)
    replace hB_p := hB_p.below hs hB_p.lt
    clear hs F0
    clear hc_p; have hc_p := hB_p.cell
    have hc_x := hB_x.cell
    repeat (first | with_reducible apply wpList_nil | with_reducible apply seq_region | with_reducible apply wp_region_lit | with_reducible apply wp_seq | ((with_reducible apply seq_q); (focus rfl); (focus (simp [go_sem, effAt, ↓IntWalk.iteOmega, *]; (try go_ints); (first | (with_reducible exact effUpon_val) | (with_reducible exact effUpon_skip)))); (focus ((simp only [Act.put, List.setIfInBounds_toArray, List.set_cons_zero, List.set_cons_succ]; rfl)))) | ((with_reducible apply seq_s); (focus rfl); (focus ((simp only [Act.put, List.setIfInBounds_toArray, List.set_cons_zero, List.set_cons_succ]; rfl)))) | with_reducible apply wp_block | with_reducible apply wp_skip | with_reducible apply wp_exit | with_reducible apply wp_ret | ((with_reducible apply wp_cond_true); (focus (first | rfl | (simp [go_sem, *]; done)))) | ((with_reducible apply wp_cond_false); (focus (first | rfl | (simp [go_sem, *]; done)))) | (simp only [Exit.then, Exit.inBlock, ↓reduceIte, Nat.reduceEqDiff]))
    have lt_p_y := hB_p.lt
    have lt_x_y := hB_x.lt
    have le_y := Fw1.size
    ((with_reducible apply seq_box); (focus rfl); (focus (simp [go_sem, effAt]; exact ⟨rfl, rfl⟩)); (focus ((simp only [Act.put, List.setIfInBounds_toArray, List.set_cons_zero, List.set_cons_succ]; rfl))))
    intro w2 hB_y hs
    have Fw2 := Fw1.trans (Turn.of_below hs)
    replace hB_p := hB_p.below hs hB_p.lt
    replace hB_x := hB_x.below hs hB_x.lt
    clear hs Fw1
    clear hc_p; have hc_p := hB_p.cell
    clear hc_x; have hc_x := hB_x.cell
    have hc_y := hB_y.cell
    repeat (first | with_reducible apply wpList_nil | with_reducible apply seq_region | with_reducible apply wp_region_lit | with_reducible apply wp_seq | ((with_reducible apply seq_q); (focus rfl); (focus (simp [go_sem, effAt, ↓IntWalk.iteOmega, *]; (try go_ints); (first | (with_reducible exact effUpon_val) | (with_reducible exact effUpon_skip)))); (focus ((simp only [Act.put, List.setIfInBounds_toArray, List.set_cons_zero, List.set_cons_succ]; rfl)))) | ((with_reducible apply seq_s); (focus rfl); (focus ((simp only [Act.put, List.setIfInBounds_toArray, List.set_cons_zero, List.set_cons_succ]; rfl)))) | with_reducible apply wp_block | with_reducible apply wp_skip | with_reducible apply wp_exit | with_reducible apply wp_ret | ((with_reducible apply wp_cond_true); (focus (first | rfl | (simp [go_sem, *]; done)))) | ((with_reducible apply wp_cond_false); (focus (first | rfl | (simp [go_sem, *]; done)))) | (simp only [Exit.then, Exit.inBlock, ↓reduceIte, Nat.reduceEqDiff]))
    have lt_p_z := hB_p.lt
    have lt_x_z := hB_x.lt
    have lt_y_z := hB_y.lt
    have le_z := Fw2.size
    ((with_reducible apply seq_box); (focus rfl); (focus (simp [go_sem, effAt]; exact ⟨rfl, rfl⟩)); (focus ((simp only [Act.put, List.setIfInBounds_toArray, List.set_cons_zero, List.set_cons_succ]; rfl))))
    intro w3 hB_z hs
    have Fw3 := Fw2.trans (Turn.of_below hs)
    replace hB_p := hB_p.below hs hB_p.lt
    replace hB_x := hB_x.below hs hB_x.lt
    replace hB_y := hB_y.below hs hB_y.lt
    clear hs Fw2
    clear hc_p; have hc_p := hB_p.cell
    clear hc_x; have hc_x := hB_x.cell
    clear hc_y; have hc_y := hB_y.cell
    have hc_z := hB_z.cell
    repeat (first | with_reducible apply wpList_nil | with_reducible apply seq_region | with_reducible apply wp_region_lit | with_reducible apply wp_seq | ((with_reducible apply seq_q); (focus rfl); (focus (simp [go_sem, effAt, ↓IntWalk.iteOmega, *]; (try go_ints); (first | (with_reducible exact effUpon_val) | (with_reducible exact effUpon_skip)))); (focus ((simp only [Act.put, List.setIfInBounds_toArray, List.set_cons_zero, List.set_cons_succ]; rfl)))) | ((with_reducible apply seq_s); (focus rfl); (focus ((simp only [Act.put, List.setIfInBounds_toArray, List.set_cons_zero, List.set_cons_succ]; rfl)))) | with_reducible apply wp_block | with_reducible apply wp_skip | with_reducible apply wp_exit | with_reducible apply wp_ret | ((with_reducible apply wp_cond_true); (focus (first | rfl | (simp [go_sem, *]; done)))) | ((with_reducible apply wp_cond_false); (focus (first | rfl | (simp [go_sem, *]; done)))) | (simp only [Exit.then, Exit.inBlock, ↓reduceIte, Nat.reduceEqDiff]))
    have hX := hF _ _ _ _ ⟨by omega, by omega, by omega⟩ hB_x hB_y hB_z hB_p
    clear hF
    with_reducible apply seq_e (fun w' => PB w' g (s.setR d b) ∧ w3.grownBy w' (some g))
    (focus (first | exact wanted_none rfl | exact wanted_yes rfl rfl rfl))
    (focus (simp only [effAt]; simp [go_sem]; (with_reducible exact effUpon_enter hX)))
    (simp only [Act.put, List.setIfInBounds_toArray, List.set_cons_zero, List.set_cons_succ]; rfl)
    rintro u ⟨hP, hg2⟩
    have hG := (Fw3.trans (Turn.of_grown hg2 (.inl rfl))).to_grown
    clear hX hg2
    repeat (first | with_reducible apply wpList_nil | with_reducible apply seq_region | with_reducible apply wp_region_lit | with_reducible apply wp_seq | ((with_reducible apply seq_q); (focus rfl); (focus (simp [go_sem, effAt, ↓IntWalk.iteOmega, *]; (try go_ints); (first | (with_reducible exact effUpon_val) | (with_reducible exact effUpon_skip)))); (focus ((simp only [Act.put, List.setIfInBounds_toArray, List.set_cons_zero, List.set_cons_succ]; rfl)))) | ((with_reducible apply seq_s); (focus rfl); (focus ((simp only [Act.put, List.setIfInBounds_toArray, List.set_cons_zero, List.set_cons_succ]; rfl)))) | with_reducible apply wp_block | with_reducible apply wp_skip | with_reducible apply wp_exit | with_reducible apply wp_ret | ((with_reducible apply wp_cond_true); (focus (first | rfl | (simp [go_sem, *]; done)))) | ((with_reducible apply wp_cond_false); (focus (first | rfl | (simp [go_sem, *]; done)))) | (simp only [Exit.then, Exit.inBlock, ↓reduceIte, Nat.reduceEqDiff]))
    go_ret
    exact ⟨rfl, hP, hG⟩
  case neg =>
    have hF := fun fv w => set_arg (d := d) g true fv (fun h => absurd h hd) w
    have e1 : errR d = 2 := by unfold errR; rw [if_neg hd]
    have e2 : s.callR d b = s := by unfold PS.callR; rw [if_neg hd]
    rw [e1, e2]
    clear e1 e2 hs
    go_enter Try.func17, Try.ntmps17
    have F0 : Turn (fun i => i = g ∨ w.heap.size ≤ i) w w := Turn.refl _
    have hc_p := hB_p.cell
    repeat (first | with_reducible apply wpList_nil | with_reducible apply seq_region | with_reducible apply wp_region_lit | with_reducible apply wp_seq | ((with_reducible apply seq_q); (focus rfl); (focus (simp [go_sem, effAt, ↓IntWalk.iteOmega, *]; (try go_ints); (first | (with_reducible exact effUpon_val) | (with_reducible exact effUpon_skip)))); (focus ((simp only [Act.put, List.setIfInBounds_toArray, List.set_cons_zero, List.set_cons_succ]; rfl)))) | ((with_reducible apply seq_s); (focus rfl); (focus ((simp only [Act.put, List.setIfInBounds_toArray, List.set_cons_zero, List.set_cons_succ]; rfl)))) | with_reducible apply wp_block | with_reducible apply wp_skip | with_reducible apply wp_exit | with_reducible apply wp_ret | ((with_reducible apply wp_cond_true); (focus (first | rfl | (simp [go_sem, *]; done)))) | ((with_reducible apply wp_cond_false); (focus (first | rfl | (simp [go_sem, *]; done)))) | (simp only [Exit.then, Exit.inBlock, ↓reduceIte, Nat.reduceEqDiff]))
    have lt_p_x := hB_p.lt
    have le_x := F0.size
    ((with_reducible apply seq_box); (focus rfl); (focus (simp [go_sem, effAt]; exact ⟨rfl, rfl⟩)); (focus ((simp only [Act.put, List.setIfInBounds_toArray, List.set_cons_zero, List.set_cons_succ]; rfl))))
    intro w4 hB_x hs
    have Fw4 := F0.trans (Turn.of_below hs)
    replace hB_p := hB_p.below hs hB_p.lt
    clear hs F0
    clear hc_p; have hc_p := hB_p.cell
    have hc_x := hB_x.cell
    repeat (first | with_reducible apply wpList_nil | with_reducible apply seq_region | with_reducible apply wp_region_lit | with_reducible apply wp_seq | ((with_reducible apply seq_q); (focus rfl); (focus (simp [go_sem, effAt, ↓IntWalk.iteOmega, *]; (try go_ints); (first | (with_reducible exact effUpon_val) | (with_reducible exact effUpon_skip)))); (focus ((simp only [Act.put, List.setIfInBounds_toArray, List.set_cons_zero, List.set_cons_succ]; rfl)))) | ((with_reducible apply seq_s); (focus rfl); (focus ((simp only [Act.put, List.setIfInBounds_toArray, List.set_cons_zero, List.set_cons_succ]; rfl)))) | with_reducible apply wp_block | with_reducible apply wp_skip | with_reducible apply wp_exit | with_reducible apply wp_ret | ((with_reducible apply wp_cond_true); (focus (first | rfl | (simp [go_sem, *]; done)))) | ((with_reducible apply wp_cond_false); (focus (first | rfl | (simp [go_sem, *]; done)))) | (simp only [Exit.then, Exit.inBlock, ↓reduceIte, Nat.reduceEqDiff]))
    have lt_p_y := hB_p.lt
    have lt_x_y := hB_x.lt
    have le_y := Fw4.size
    ((with_reducible apply seq_box); (focus rfl); (focus (simp [go_sem, effAt]; exact ⟨rfl, rfl⟩)); (focus ((simp only [Act.put, List.setIfInBounds_toArray, List.set_cons_zero, List.set_cons_succ]; rfl))))
    intro w5 hB_y hs
    have Fw5 := Fw4.trans (Turn.of_below hs)
    replace hB_p := hB_p.below hs hB_p.lt
    replace hB_x := hB_x.below hs hB_x.lt
    clear hs Fw4
    clear hc_p; have hc_p := hB_p.cell
    clear hc_x; have hc_x := hB_x.cell
    have hc_y := hB_y.cell
    repeat (first | with_reducible apply wpList_nil | with_reducible apply seq_region | with_reducible apply wp_region_lit | with_reducible apply wp_seq | ((with_reducible apply seq_q); (focus rfl); (focus (simp [go_sem, effAt, ↓IntWalk.iteOmega, *]; (try go_ints); (first | (with_reducible exact effUpon_val) | (with_reducible exact effUpon_skip)))); (focus ((simp only [Act.put, List.setIfInBounds_toArray, List.set_cons_zero, List.set_cons_succ]; rfl)))) | ((with_reducible apply seq_s); (focus rfl); (focus ((simp only [Act.put, List.setIfInBounds_toArray, List.set_cons_zero, List.set_cons_succ]; rfl)))) | with_reducible apply wp_block | with_reducible apply wp_skip | with_reducible apply wp_exit | with_reducible apply wp_ret | ((with_reducible apply wp_cond_true); (focus (first | rfl | (simp [go_sem, *]; done)))) | ((with_reducible apply wp_cond_false); (focus (first | rfl | (simp [go_sem, *]; done)))) | (simp only [Exit.then, Exit.inBlock, ↓reduceIte, Nat.reduceEqDiff]))
    have lt_p_z := hB_p.lt
    have lt_x_z := hB_x.lt
    have lt_y_z := hB_y.lt
    have le_z := Fw5.size
    ((with_reducible apply seq_box); (focus rfl); (focus (simp [go_sem, effAt]; exact ⟨rfl, rfl⟩)); (focus ((simp only [Act.put, List.setIfInBounds_toArray, List.set_cons_zero, List.set_cons_succ]; rfl))))
    intro w6 hB_z hs
    have Fw6 := Fw5.trans (Turn.of_below hs)
    replace hB_p := hB_p.below hs hB_p.lt
    replace hB_x := hB_x.below hs hB_x.lt
    replace hB_y := hB_y.below hs hB_y.lt
    clear hs Fw5
    clear hc_p; have hc_p := hB_p.cell
    clear hc_x; have hc_x := hB_x.cell
    clear hc_y; have hc_y := hB_y.cell
    have hc_z := hB_z.cell
    repeat (first | with_reducible apply wpList_nil | with_reducible apply seq_region | with_reducible apply wp_region_lit | with_reducible apply wp_seq | ((with_reducible apply seq_q); (focus rfl); (focus (simp [go_sem, effAt, ↓IntWalk.iteOmega, *]; (try go_ints); (first | (with_reducible exact effUpon_val) | (with_reducible exact effUpon_skip)))); (focus ((simp only [Act.put, List.setIfInBounds_toArray, List.set_cons_zero, List.set_cons_succ]; rfl)))) | ((with_reducible apply seq_s); (focus rfl); (focus ((simp only [Act.put, List.setIfInBounds_toArray, List.set_cons_zero, List.set_cons_succ]; rfl)))) | with_reducible apply wp_block | with_reducible apply wp_skip | with_reducible apply wp_exit | with_reducible apply wp_ret | ((with_reducible apply wp_cond_true); (focus (first | rfl | (simp [go_sem, *]; done)))) | ((with_reducible apply wp_cond_false); (focus (first | rfl | (simp [go_sem, *]; done)))) | (simp only [Exit.then, Exit.inBlock, ↓reduceIte, Nat.reduceEqDiff]))
    ((with_reducible apply seq_e (Below w6.heap.size w6)); (focus rfl); (focus (simp only [effAt]; simp [go_sem]; (with_reducible exact effUpon_enter (hF _ _)))); (focus ((simp only [Act.put, List.setIfInBounds_toArray, List.set_cons_zero, List.set_cons_succ]; rfl))))
    intro w7 hs
    have Fw7 := Fw6.trans (Turn.of_below hs)
    replace hB_p := hB_p.below hs hB_p.lt
    replace hB_x := hB_x.below hs hB_x.lt
    replace hB_y := hB_y.below hs hB_y.lt
    replace hB_z := hB_z.below hs hB_z.lt
    clear hs Fw6
    clear hc_p; have hc_p := hB_p.cell
    clear hc_x; have hc_x := hB_x.cell
    clear hc_y; have hc_y := hB_y.cell
    clear hc_z; have hc_z := hB_z.cell
    repeat (first | with_reducible apply wpList_nil | with_reducible apply seq_region | with_reducible apply wp_region_lit | with_reducible apply wp_seq | ((with_reducible apply seq_q); (focus rfl); (focus (simp [go_sem, effAt, ↓IntWalk.iteOmega, *]; (try go_ints); (first | (with_reducible exact effUpon_val) | (with_reducible exact effUpon_skip)))); (focus ((simp only [Act.put, List.setIfInBounds_toArray, List.set_cons_zero, List.set_cons_succ]; rfl)))) | ((with_reducible apply seq_s); (focus rfl); (focus ((simp only [Act.put, List.setIfInBounds_toArray, List.set_cons_zero, List.set_cons_succ]; rfl)))) | with_reducible apply wp_block | with_reducible apply wp_skip | with_reducible apply wp_exit | with_reducible apply wp_ret | ((with_reducible apply wp_cond_true); (focus (first | rfl | (simp [go_sem, *]; done)))) | ((with_reducible apply wp_cond_false); (focus (first | rfl | (simp [go_sem, *]; done)))) | (simp only [Exit.then, Exit.inBlock, ↓reduceIte, Nat.reduceEqDiff]))
    go_ret
    exact ⟨rfl, hB_p, Turn.to_grown (by assumption)⟩
theorem setclass_any (hs : s.Ok) (g d c : Nat) (w : World) (hB_p : PB w g s) : Calls Try.prog 18 #[.pointer (some ⟨g, 0, none⟩), .int .u8 d, .int .u8 c] w (Ret (.int .i64 (errC d c)) fun w' => PB w' g (s.callC d c) ∧ w.grownBy w' (some g)) := by
  by_cases h : d < 64 ∧ (c : Int) < 64
  case pos =>
    obtain ⟨hd, hc⟩ := h
    have hF := fun w x y z hg p q r t => set_do hd g 28 _ (fun w => by simp [go_sem]) w (closeC hs hd g c w x y z hg p q r t)
    have e1 : errC d c = 0 := by unfold errC; rw [if_pos hd, if_pos hc]
    have e2 : s.callC d c = s.setC d c := by unfold PS.callC; rw [if_pos hd, if_pos hc]
    rw [e1, e2]
    clear e1 e2 hs
    go_enter Try.func18, Try.ntmps18
    have F0 : Turn (fun i => i = g ∨ w.heap.size ≤ i) w w := Turn.refl _
    have hc_p := hB_p.cell
    repeat (first | with_reducible apply wpList_nil | with_reducible apply seq_region | with_reducible apply wp_region_lit | with_reducible apply wp_seq | ((with_reducible apply seq_q); (focus rfl); (focus (simp [go_sem, effAt, ↓IntWalk.iteOmega, *]; (try go_ints); (first | (with_reducible exact effUpon_val) | (with_reducible exact effUpon_skip)))); (focus ((simp only [Act.put, List.setIfInBounds_toArray, List.set_cons_zero, List.set_cons_succ]; rfl)))) | ((with_reducible apply seq_s); (focus rfl); (focus ((simp only [Act.put, List.setIfInBounds_toArray, List.set_cons_zero, List.set_cons_succ]; rfl)))) | with_reducible apply wp_block | with_reducible apply wp_skip | with_reducible apply wp_exit | with_reducible apply wp_ret | ((with_reducible apply wp_cond_true); (focus (first | rfl | (simp [go_sem, *]; done)))) | ((with_reducible apply wp_cond_false); (focus (first | rfl | (simp [go_sem, *]; done)))) | (simp only [Exit.then, Exit.inBlock, ↓reduceIte, Nat.reduceEqDiff]))
    have lt_p_x := hB_p.lt
    have le_x := F0.size
    ((with_reducible apply seq_box); (focus rfl); (focus (simp [go_sem, effAt]; exact ⟨rfl, rfl⟩)); (focus ((simp only [Act.put, List.setIfInBounds_toArray, List.set_cons_zero, List.set_cons_succ]; rfl))))
    intro w1 hB_x hs
    have Fw1 := F0.trans (Turn.of_below hs)
    replace hB_p := hB_p.below hs hB_p.lt
    clear hs F0
    clear hc_p; have hc_p := hB_p.cell
    have hc_x := hB_x.cell
    repeat (first | with_reducible apply wpList_nil | with_reducible apply seq_region | with_reducible apply wp_region_lit | with_reducible apply wp_seq | ((with_reducible apply seq_q); (focus rfl); (focus (simp [go_sem, effAt, ↓IntWalk.iteOmega, *]; (try go_ints); (first | (with_reducible exact effUpon_val) | (with_reducible exact effUpon_skip)))); (focus ((simp only [Act.put, List.setIfInBounds_toArray, List.set_cons_zero, List.set_cons_succ]; rfl)))) | ((with_reducible apply seq_s); (focus rfl); (focus ((simp only [Act.put, List.setIfInBounds_toArray, List.set_cons_zero, List.set_cons_succ]; rfl)))) | with_reducible apply wp_block | with_reducible apply wp_skip | with_reducible apply wp_exit | with_reducible apply wp_ret | ((with_reducible apply wp_cond_true); (focus (first | rfl | (simp [go_sem, *]; done)))) | ((with_reducible apply wp_cond_false); (focus (first | rfl | (simp [go_sem, *]; done)))) | (simp only [Exit.then, Exit.inBlock, ↓reduceIte, Nat.reduceEqDiff]))
    have lt_p_y := hB_p.lt
    have lt_x_y := hB_x.lt
    have le_y := Fw1.size
    ((with_reducible apply seq_box); (focus rfl); (focus (simp [go_sem, effAt]; exact ⟨rfl, rfl⟩)); (focus ((simp only [Act.put, List.setIfInBounds_toArray, List.set_cons_zero, List.set_cons_succ]; rfl))))
    intro w2 hB_y hs
    have Fw2 := Fw1.trans (Turn.of_below hs)
    replace hB_p := hB_p.below hs hB_p.lt
    replace hB_x := hB_x.below hs hB_x.lt
    clear hs Fw1
    clear hc_p; have hc_p := hB_p.cell
    clear hc_x; have hc_x := hB_x.cell
    have hc_y := hB_y.cell
    repeat (first | with_reducible apply wpList_nil | with_reducible apply seq_region | with_reducible apply wp_region_lit | with_reducible apply wp_seq | ((with_reducible apply seq_q); (focus rfl); (focus (simp [go_sem, effAt, ↓IntWalk.iteOmega, *]; (try go_ints); (first | (with_reducible exact effUpon_val) | (with_reducible exact effUpon_skip)))); (focus ((simp only [Act.put, List.setIfInBounds_toArray, List.set_cons_zero, List.set_cons_succ]; rfl)))) | ((with_reducible apply seq_s); (focus rfl); (focus ((simp only [Act.put, List.setIfInBounds_toArray, List.set_cons_zero, List.set_cons_succ]; rfl)))) | with_reducible apply wp_block | with_reducible apply wp_skip | with_reducible apply wp_exit | with_reducible apply wp_ret | ((with_reducible apply wp_cond_true); (focus (first | rfl | (simp [go_sem, *]; done)))) | ((with_reducible apply wp_cond_false); (focus (first | rfl | (simp [go_sem, *]; done)))) | (simp only [Exit.then, Exit.inBlock, ↓reduceIte, Nat.reduceEqDiff]))
    have lt_p_z := hB_p.lt
    have lt_x_z := hB_x.lt
    have lt_y_z := hB_y.lt
    have le_z := Fw2.size
    ((with_reducible apply seq_box); (focus rfl); (focus (simp [go_sem, effAt]; exact ⟨rfl, rfl⟩)); (focus ((simp only [Act.put, List.setIfInBounds_toArray, List.set_cons_zero, List.set_cons_succ]; rfl))))
    intro w3 hB_z hs
    have Fw3 := Fw2.trans (Turn.of_below hs)
    replace hB_p := hB_p.below hs hB_p.lt
    replace hB_x := hB_x.below hs hB_x.lt
    replace hB_y := hB_y.below hs hB_y.lt
    clear hs Fw2
    clear hc_p; have hc_p := hB_p.cell
    clear hc_x; have hc_x := hB_x.cell
    clear hc_y; have hc_y := hB_y.cell
    have hc_z := hB_z.cell
    repeat (first | with_reducible apply wpList_nil | with_reducible apply seq_region | with_reducible apply wp_region_lit | with_reducible apply wp_seq | ((with_reducible apply seq_q); (focus rfl); (focus (simp [go_sem, effAt, ↓IntWalk.iteOmega, *]; (try go_ints); (first | (with_reducible exact effUpon_val) | (with_reducible exact effUpon_skip)))); (focus ((simp only [Act.put, List.setIfInBounds_toArray, List.set_cons_zero, List.set_cons_succ]; rfl)))) | ((with_reducible apply seq_s); (focus rfl); (focus ((simp only [Act.put, List.setIfInBounds_toArray, List.set_cons_zero, List.set_cons_succ]; rfl)))) | with_reducible apply wp_block | with_reducible apply wp_skip | with_reducible apply wp_exit | with_reducible apply wp_ret | ((with_reducible apply wp_cond_true); (focus (first | rfl | (simp [go_sem, *]; done)))) | ((with_reducible apply wp_cond_false); (focus (first | rfl | (simp [go_sem, *]; done)))) | (simp only [Exit.then, Exit.inBlock, ↓reduceIte, Nat.reduceEqDiff]))
    have hX := hF _ _ _ _ ⟨by omega, by omega, by omega⟩ hB_x hB_y hB_z hB_p
    clear hF
    with_reducible apply seq_e (fun w' => PB w' g (s.setC d c) ∧ w3.grownBy w' (some g))
    (focus (first | exact wanted_none rfl | exact wanted_yes rfl rfl rfl))
    (focus (simp only [effAt]; simp [go_sem]; (with_reducible exact effUpon_enter hX)))
    (simp only [Act.put, List.setIfInBounds_toArray, List.set_cons_zero, List.set_cons_succ]; rfl)
    rintro u ⟨hP, hg2⟩
    have hG := (Fw3.trans (Turn.of_grown hg2 (.inl rfl))).to_grown
    clear hX hg2
    repeat (first | with_reducible apply wpList_nil | with_reducible apply seq_region | with_reducible apply wp_region_lit | with_reducible apply wp_seq | ((with_reducible apply seq_q); (focus rfl); (focus (simp [go_sem, effAt, ↓IntWalk.iteOmega, *]; (try go_ints); (first | (with_reducible exact effUpon_val) | (with_reducible exact effUpon_skip)))); (focus ((simp only [Act.put, List.setIfInBounds_toArray, List.set_cons_zero, List.set_cons_succ]; rfl)))) | ((with_reducible apply seq_s); (focus rfl); (focus ((simp only [Act.put, List.setIfInBounds_toArray, List.set_cons_zero, List.set_cons_succ]; rfl)))) | with_reducible apply wp_block | with_reducible apply wp_skip | with_reducible apply wp_exit | with_reducible apply wp_ret | ((with_reducible apply wp_cond_true); (focus (first | rfl | (simp [go_sem, *]; done)))) | ((with_reducible apply wp_cond_false); (focus (first | rfl | (simp [go_sem, *]; done)))) | (simp only [Exit.then, Exit.inBlock, ↓reduceIte, Nat.reduceEqDiff]))
    go_ret
    exact ⟨rfl, hP, hG⟩
  case neg =>
    have e1 : errC d c = 2 := by
      unfold errC
      repeat' split
      all_goals first | rfl | (exfalso; exact h ⟨by assumption, by assumption⟩)
    have e2 : s.callC d c = s := by
      unfold PS.callC
      repeat' split
      all_goals first | rfl | (exfalso; exact h ⟨by assumption, by assumption⟩)
    rw [e1, e2]
    clear e1 e2 hs
    by_cases hc : (c : Int) < 64
    case pos =>
      have hF := fun fv w => set_arg (d := d) g true fv (fun h' => absurd ⟨h', hc⟩ h) w
      clear h
      go_enter Try.func18, Try.ntmps18
      have F0 : Turn (fun i => i = g ∨ w.heap.size ≤ i) w w := Turn.refl _
      have hc_p := hB_p.cell
      repeat (first | with_reducible apply wpList_nil | with_reducible apply seq_region | with_reducible apply wp_region_lit | with_reducible apply wp_seq | ((with_reducible apply seq_q); (focus rfl); (focus (simp [go_sem, effAt, ↓IntWalk.iteOmega, *]; (try go_ints); (first | (with_reducible exact effUpon_val) | (with_reducible exact effUpon_skip)))); (focus ((simp only [Act.put, List.setIfInBounds_toArray, List.set_cons_zero, List.set_cons_succ]; rfl)))) | ((with_reducible apply seq_s); (focus rfl); (focus ((simp only [Act.put, List.setIfInBounds_toArray, List.set_cons_zero, List.set_cons_succ]; rfl)))) | with_reducible apply wp_block | with_reducible apply wp_skip | with_reducible apply wp_exit | with_reducible apply wp_ret | ((with_reducible apply wp_cond_true); (focus (first | rfl | (simp [go_sem, *]; done)))) | ((with_reducible apply wp_cond_false); (focus (first | rfl | (simp [go_sem, *]; done)))) | (simp only [Exit.then, Exit.inBlock, ↓reduceIte, Nat.reduceEqDiff]))
      have lt_p_x := hB_p.lt
      have le_x := F0.size
      ((with_reducible apply seq_box); (focus rfl); (focus (simp [go_sem, effAt]; exact ⟨rfl, rfl⟩)); (focus ((simp only [Act.put, List.setIfInBounds_toArray, List.set_cons_zero, List.set_cons_succ]; rfl))))
      intro w4 hB_x hs
      have Fw4 := F0.trans (Turn.of_below hs)
      replace hB_p := hB_p.below hs hB_p.lt
      clear hs F0
      clear hc_p; have hc_p := hB_p.cell
      have hc_x := hB_x.cell
      repeat (first | with_reducible apply wpList_nil | with_reducible apply seq_region | with_reducible apply wp_region_lit | with_reducible apply wp_seq | ((with_reducible apply seq_q); (focus rfl); (focus (simp [go_sem, effAt, ↓IntWalk.iteOmega, *]; (try go_ints); (first | (with_reducible exact effUpon_val) | (with_reducible exact effUpon_skip)))); (focus ((simp only [Act.put, List.setIfInBounds_toArray, List.set_cons_zero, List.set_cons_succ]; rfl)))) | ((with_reducible apply seq_s); (focus rfl); (focus ((simp only [Act.put, List.setIfInBounds_toArray, List.set_cons_zero, List.set_cons_succ]; rfl)))) | with_reducible apply wp_block | with_reducible apply wp_skip | with_reducible apply wp_exit | with_reducible apply wp_ret | ((with_reducible apply wp_cond_true); (focus (first | rfl | (simp [go_sem, *]; done)))) | ((with_reducible apply wp_cond_false); (focus (first | rfl | (simp [go_sem, *]; done)))) | (simp only [Exit.then, Exit.inBlock, ↓reduceIte, Nat.reduceEqDiff]))
      have lt_p_y := hB_p.lt
      have lt_x_y := hB_x.lt
      have le_y := Fw4.size
      ((with_reducible apply seq_box); (focus rfl); (focus (simp [go_sem, effAt]; exact ⟨rfl, rfl⟩)); (focus ((simp only [Act.put, List.setIfInBounds_toArray, List.set_cons_zero, List.set_cons_succ]; rfl))))
      intro w5 hB_y hs
      have Fw5 := Fw4.trans (Turn.of_below hs)
      replace hB_p := hB_p.below hs hB_p.lt
      replace hB_x := hB_x.below hs hB_x.lt
      clear hs Fw4
      clear hc_p; have hc_p := hB_p.cell
      clear hc_x; have hc_x := hB_x.cell
      have hc_y := hB_y.cell
      repeat (first | with_reducible apply wpList_nil | with_reducible apply seq_region | with_reducible apply wp_region_lit | with_reducible apply wp_seq | ((with_reducible apply seq_q); (focus rfl); (focus (simp [go_sem, effAt, ↓IntWalk.iteOmega, *]; (try go_ints); (first | (with_reducible exact effUpon_val) | (with_reducible exact effUpon_skip)))); (focus ((simp only [Act.put, List.setIfInBounds_toArray, List.set_cons_zero, List.set_cons_succ]; rfl)))) | ((with_reducible apply seq_s); (focus rfl); (focus ((simp only [Act.put, List.setIfInBounds_toArray, List.set_cons_zero, List.set_cons_succ]; rfl)))) | with_reducible apply wp_block | with_reducible apply wp_skip | with_reducible apply wp_exit | with_reducible apply wp_ret | ((with_reducible apply wp_cond_true); (focus (first | rfl | (simp [go_sem, *]; done)))) | ((with_reducible apply wp_cond_false); (focus (first | rfl | (simp [go_sem, *]; done)))) | (simp only [Exit.then, Exit.inBlock, ↓reduceIte, Nat.reduceEqDiff]))
      have lt_p_z := hB_p.lt
      have lt_x_z := hB_x.lt
      have lt_y_z := hB_y.lt
      have le_z := Fw5.size
      ((with_reducible apply seq_box); (focus rfl); (focus (simp [go_sem, effAt]; exact ⟨rfl, rfl⟩)); (focus ((simp only [Act.put, List.setIfInBounds_toArray, List.set_cons_zero, List.set_cons_succ]; rfl))))
      intro w6 hB_z hs
      have Fw6 := Fw5.trans (Turn.of_below hs)
      replace hB_p := hB_p.below hs hB_p.lt
      replace hB_x := hB_x.below hs hB_x.lt
      replace hB_y := hB_y.below hs hB_y.lt
      clear hs Fw5
      clear hc_p; have hc_p := hB_p.cell
      clear hc_x; have hc_x := hB_x.cell
      clear hc_y; have hc_y := hB_y.cell
      have hc_z := hB_z.cell
      repeat (first | with_reducible apply wpList_nil | with_reducible apply seq_region | with_reducible apply wp_region_lit | with_reducible apply wp_seq | ((with_reducible apply seq_q); (focus rfl); (focus (simp [go_sem, effAt, ↓IntWalk.iteOmega, *]; (try go_ints); (first | (with_reducible exact effUpon_val) | (with_reducible exact effUpon_skip)))); (focus ((simp only [Act.put, List.setIfInBounds_toArray, List.set_cons_zero, List.set_cons_succ]; rfl)))) | ((with_reducible apply seq_s); (focus rfl); (focus ((simp only [Act.put, List.setIfInBounds_toArray, List.set_cons_zero, List.set_cons_succ]; rfl)))) | with_reducible apply wp_block | with_reducible apply wp_skip | with_reducible apply wp_exit | with_reducible apply wp_ret | ((with_reducible apply wp_cond_true); (focus (first | rfl | (simp [go_sem, *]; done)))) | ((with_reducible apply wp_cond_false); (focus (first | rfl | (simp [go_sem, *]; done)))) | (simp only [Exit.then, Exit.inBlock, ↓reduceIte, Nat.reduceEqDiff]))
      ((with_reducible apply seq_e (Below w6.heap.size w6)); (focus rfl); (focus (simp only [effAt]; simp [go_sem]; (with_reducible exact effUpon_enter (hF _ _)))); (focus ((simp only [Act.put, List.setIfInBounds_toArray, List.set_cons_zero, List.set_cons_succ]; rfl))))
      intro w7 hs
      have Fw7 := Fw6.trans (Turn.of_below hs)
      replace hB_p := hB_p.below hs hB_p.lt
      replace hB_x := hB_x.below hs hB_x.lt
      replace hB_y := hB_y.below hs hB_y.lt
      replace hB_z := hB_z.below hs hB_z.lt
      clear hs Fw6
      clear hc_p; have hc_p := hB_p.cell
      clear hc_x; have hc_x := hB_x.cell
      clear hc_y; have hc_y := hB_y.cell
      clear hc_z; have hc_z := hB_z.cell
      repeat (first | with_reducible apply wpList_nil | with_reducible apply seq_region | with_reducible apply wp_region_lit | with_reducible apply wp_seq | ((with_reducible apply seq_q); (focus rfl); (focus (simp [go_sem, effAt, ↓IntWalk.iteOmega, *]; (try go_ints); (first | (with_reducible exact effUpon_val) | (with_reducible exact effUpon_skip)))); (focus ((simp only [Act.put, List.setIfInBounds_toArray, List.set_cons_zero, List.set_cons_succ]; rfl)))) | ((with_reducible apply seq_s); (focus rfl); (focus ((simp only [Act.put, List.setIfInBounds_toArray, List.set_cons_zero, List.set_cons_succ]; rfl)))) | with_reducible apply wp_block | with_reducible apply wp_skip | with_reducible apply wp_exit | with_reducible apply wp_ret | ((with_reducible apply wp_cond_true); (focus (first | rfl | (simp [go_sem, *]; done)))) | ((with_reducible apply wp_cond_false); (focus (first | rfl | (simp [go_sem, *]; done)))) | (simp only [Exit.then, Exit.inBlock, ↓reduceIte, Nat.reduceEqDiff]))
      go_ret
      exact ⟨rfl, hB_p, Turn.to_grown (by assumption)⟩
    case neg =>
      have hF := fun fv w => set_arg (d := d) g false fv (fun _ => rfl) w
      clear h
      go_enter Try.func18, Try.ntmps18
      have F0 : Turn (fun i => i = g ∨ w.heap.size ≤ i) w w := Turn.refl _
      have hc_p := hB_p.cell
      repeat (first | with_reducible apply wpList_nil | with_reducible apply seq_region | with_reducible apply wp_region_lit | with_reducible apply wp_seq | ((with_reducible apply seq_q); (focus rfl); (focus (simp [go_sem, effAt, ↓IntWalk.iteOmega, *]; (try go_ints); (first | (with_reducible exact effUpon_val) | (with_reducible exact effUpon_skip)))); (focus ((simp only [Act.put, List.setIfInBounds_toArray, List.set_cons_zero, List.set_cons_succ]; rfl)))) | ((with_reducible apply seq_s); (focus rfl); (focus ((simp only [Act.put, List.setIfInBounds_toArray, List.set_cons_zero, List.set_cons_succ]; rfl)))) | with_reducible apply wp_block | with_reducible apply wp_skip | with_reducible apply wp_exit | with_reducible apply wp_ret | ((with_reducible apply wp_cond_true); (focus (first | rfl | (simp [go_sem, *]; done)))) | ((with_reducible apply wp_cond_false); (focus (first | rfl | (simp [go_sem, *]; done)))) | (simp only [Exit.then, Exit.inBlock, ↓reduceIte, Nat.reduceEqDiff]))
      have lt_p_x := hB_p.lt
      have le_x := F0.size
      ((with_reducible apply seq_box); (focus rfl); (focus (simp [go_sem, effAt]; exact ⟨rfl, rfl⟩)); (focus ((simp only [Act.put, List.setIfInBounds_toArray, List.set_cons_zero, List.set_cons_succ]; rfl))))
      intro w8 hB_x hs
      have Fw8 := F0.trans (Turn.of_below hs)
      replace hB_p := hB_p.below hs hB_p.lt
      clear hs F0
      clear hc_p; have hc_p := hB_p.cell
      have hc_x := hB_x.cell
      repeat (first | with_reducible apply wpList_nil | with_reducible apply seq_region | with_reducible apply wp_region_lit | with_reducible apply wp_seq | ((with_reducible apply seq_q); (focus rfl); (focus (simp [go_sem, effAt, ↓IntWalk.iteOmega, *]; (try go_ints); (first | (with_reducible exact effUpon_val) | (with_reducible exact effUpon_skip)))); (focus ((simp only [Act.put, List.setIfInBounds_toArray, List.set_cons_zero, List.set_cons_succ]; rfl)))) | ((with_reducible apply seq_s); (focus rfl); (focus ((simp only [Act.put, List.setIfInBounds_toArray, List.set_cons_zero, List.set_cons_succ]; rfl)))) | with_reducible apply wp_block | with_reducible apply wp_skip | with_reducible apply wp_exit | with_reducible apply wp_ret | ((with_reducible apply wp_cond_true); (focus (first | rfl | (simp [go_sem, *]; done)))) | ((with_reducible apply wp_cond_false); (focus (first | rfl | (simp [go_sem, *]; done)))) | (simp only [Exit.then, Exit.inBlock, ↓reduceIte, Nat.reduceEqDiff]))
      have lt_p_y := hB_p.lt
      have lt_x_y := hB_x.lt
      have le_y := Fw8.size
      ((with_reducible apply seq_box); (focus rfl); (focus (simp [go_sem, effAt]; exact ⟨rfl, rfl⟩)); (focus ((simp only [Act.put, List.setIfInBounds_toArray, List.set_cons_zero, List.set_cons_succ]; rfl))))
      intro w9 hB_y hs
      have Fw9 := Fw8.trans (Turn.of_below hs)
      replace hB_p := hB_p.below hs hB_p.lt
      replace hB_x := hB_x.below hs hB_x.lt
      clear hs Fw8
      clear hc_p; have hc_p := hB_p.cell
      clear hc_x; have hc_x := hB_x.cell
      have hc_y := hB_y.cell
      repeat (first | with_reducible apply wpList_nil | with_reducible apply seq_region | with_reducible apply wp_region_lit | with_reducible apply wp_seq | ((with_reducible apply seq_q); (focus rfl); (focus (simp [go_sem, effAt, ↓IntWalk.iteOmega, *]; (try go_ints); (first | (with_reducible exact effUpon_val) | (with_reducible exact effUpon_skip)))); (focus ((simp only [Act.put, List.setIfInBounds_toArray, List.set_cons_zero, List.set_cons_succ]; rfl)))) | ((with_reducible apply seq_s); (focus rfl); (focus ((simp only [Act.put, List.setIfInBounds_toArray, List.set_cons_zero, List.set_cons_succ]; rfl)))) | with_reducible apply wp_block | with_reducible apply wp_skip | with_reducible apply wp_exit | with_reducible apply wp_ret | ((with_reducible apply wp_cond_true); (focus (first | rfl | (simp [go_sem, *]; done)))) | ((with_reducible apply wp_cond_false); (focus (first | rfl | (simp [go_sem, *]; done)))) | (simp only [Exit.then, Exit.inBlock, ↓reduceIte, Nat.reduceEqDiff]))
      have lt_p_z := hB_p.lt
      have lt_x_z := hB_x.lt
      have lt_y_z := hB_y.lt
      have le_z := Fw9.size
      ((with_reducible apply seq_box); (focus rfl); (focus (simp [go_sem, effAt]; exact ⟨rfl, rfl⟩)); (focus ((simp only [Act.put, List.setIfInBounds_toArray, List.set_cons_zero, List.set_cons_succ]; rfl))))
      intro w10 hB_z hs
      have Fw10 := Fw9.trans (Turn.of_below hs)
      replace hB_p := hB_p.below hs hB_p.lt
      replace hB_x := hB_x.below hs hB_x.lt
      replace hB_y := hB_y.below hs hB_y.lt
      clear hs Fw9
      clear hc_p; have hc_p := hB_p.cell
      clear hc_x; have hc_x := hB_x.cell
      clear hc_y; have hc_y := hB_y.cell
      have hc_z := hB_z.cell
      repeat (first | with_reducible apply wpList_nil | with_reducible apply seq_region | with_reducible apply wp_region_lit | with_reducible apply wp_seq | ((with_reducible apply seq_q); (focus rfl); (focus (simp [go_sem, effAt, ↓IntWalk.iteOmega, *]; (try go_ints); (first | (with_reducible exact effUpon_val) | (with_reducible exact effUpon_skip)))); (focus ((simp only [Act.put, List.setIfInBounds_toArray, List.set_cons_zero, List.set_cons_succ]; rfl)))) | ((with_reducible apply seq_s); (focus rfl); (focus ((simp only [Act.put, List.setIfInBounds_toArray, List.set_cons_zero, List.set_cons_succ]; rfl)))) | with_reducible apply wp_block | with_reducible apply wp_skip | with_reducible apply wp_exit | with_reducible apply wp_ret | ((with_reducible apply wp_cond_true); (focus (first | rfl | (simp [go_sem, *]; done)))) | ((with_reducible apply wp_cond_false); (focus (first | rfl | (simp [go_sem, *]; done)))) | (simp only [Exit.then, Exit.inBlock, ↓reduceIte, Nat.reduceEqDiff]))
      ((with_reducible apply seq_e (Below w10.heap.size w10)); (focus rfl); (focus (simp only [effAt]; simp [go_sem]; (with_reducible exact effUpon_enter (hF _ _)))); (focus ((simp only [Act.put, List.setIfInBounds_toArray, List.set_cons_zero, List.set_cons_succ]; rfl))))
      intro w11 hs
      have Fw11 := Fw10.trans (Turn.of_below hs)
      replace hB_p := hB_p.below hs hB_p.lt
      replace hB_x := hB_x.below hs hB_x.lt
      replace hB_y := hB_y.below hs hB_y.lt
      replace hB_z := hB_z.below hs hB_z.lt
      clear hs Fw10
      clear hc_p; have hc_p := hB_p.cell
      clear hc_x; have hc_x := hB_x.cell
      clear hc_y; have hc_y := hB_y.cell
      clear hc_z; have hc_z := hB_z.cell
      repeat (first | with_reducible apply wpList_nil | with_reducible apply seq_region | with_reducible apply wp_region_lit | with_reducible apply wp_seq | ((with_reducible apply seq_q); (focus rfl); (focus (simp [go_sem, effAt, ↓IntWalk.iteOmega, *]; (try go_ints); (first | (with_reducible exact effUpon_val) | (with_reducible exact effUpon_skip)))); (focus ((simp only [Act.put, List.setIfInBounds_toArray, List.set_cons_zero, List.set_cons_succ]; rfl)))) | ((with_reducible apply seq_s); (focus rfl); (focus ((simp only [Act.put, List.setIfInBounds_toArray, List.set_cons_zero, List.set_cons_succ]; rfl)))) | with_reducible apply wp_block | with_reducible apply wp_skip | with_reducible apply wp_exit | with_reducible apply wp_ret | ((with_reducible apply wp_cond_true); (focus (first | rfl | (simp [go_sem, *]; done)))) | ((with_reducible apply wp_cond_false); (focus (first | rfl | (simp [go_sem, *]; done)))) | (simp only [Exit.then, Exit.inBlock, ↓reduceIte, Nat.reduceEqDiff]))
      go_ret
      exact ⟨rfl, hB_p, Turn.to_grown (by assumption)⟩
theorem setready_nil (d : Nat) (b : Bool) (w : World) : Calls Try.prog 17 #[.pointer none, .int .u8 d, .bool b] w (Ret (.int .i64 1) (Below w.heap.size w)) := by
  have hF := fun fv w => set_nil d true fv w
  go_enter Try.func17, Try.ntmps17
  have F0 : Below w.heap.size w w := Below.refl _ _
  repeat (first | with_reducible apply wpList_nil | with_reducible apply seq_region | with_reducible apply wp_region_lit | with_reducible apply wp_seq | ((with_reducible apply seq_q); (focus rfl); (focus (simp [go_sem, effAt, ↓IntWalk.iteOmega, *]; (try go_ints); (first | (with_reducible exact effUpon_val) | (with_reducible exact effUpon_skip)))); (focus ((simp only [Act.put, List.setIfInBounds_toArray, List.set_cons_zero, List.set_cons_succ]; rfl)))) | ((with_reducible apply seq_s); (focus rfl); (focus ((simp only [Act.put, List.setIfInBounds_toArray, List.set_cons_zero, List.set_cons_succ]; rfl)))) | with_reducible apply wp_block | with_reducible apply wp_skip | with_reducible apply wp_exit | with_reducible apply wp_ret | ((with_reducible apply wp_cond_true); (focus (first | rfl | (simp [go_sem, *]; done)))) | ((with_reducible apply wp_cond_false); (focus (first | rfl | (simp [go_sem, *]; done)))) | (simp only [Exit.then, Exit.inBlock, ↓reduceIte, Nat.reduceEqDiff]))
  ((with_reducible apply seq_box); (focus rfl); (focus (simp [go_sem, effAt]; exact ⟨rfl, rfl⟩)); (focus ((simp only [Act.put, List.setIfInBounds_toArray, List.set_cons_zero, List.set_cons_succ]; rfl))))
  intro w1 hB_x hs
  have Fw1 := F0.trans (hs.mono F0.size)
  clear hs F0
  have hc_x := hB_x.cell
  repeat (first | with_reducible apply wpList_nil | with_reducible apply seq_region | with_reducible apply wp_region_lit | with_reducible apply wp_seq | ((with_reducible apply seq_q); (focus rfl); (focus (simp [go_sem, effAt, ↓IntWalk.iteOmega, *]; (try go_ints); (first | (with_reducible exact effUpon_val) | (with_reducible exact effUpon_skip)))); (focus ((simp only [Act.put, List.setIfInBounds_toArray, List.set_cons_zero, List.set_cons_succ]; rfl)))) | ((with_reducible apply seq_s); (focus rfl); (focus ((simp only [Act.put, List.setIfInBounds_toArray, List.set_cons_zero, List.set_cons_succ]; rfl)))) | with_reducible apply wp_block | with_reducible apply wp_skip | with_reducible apply wp_exit | with_reducible apply wp_ret | ((with_reducible apply wp_cond_true); (focus (first | rfl | (simp [go_sem, *]; done)))) | ((with_reducible apply wp_cond_false); (focus (first | rfl | (simp [go_sem, *]; done)))) | (simp only [Exit.then, Exit.inBlock, ↓reduceIte, Nat.reduceEqDiff]))
  have lt_x_y := hB_x.lt
  ((with_reducible apply seq_box); (focus rfl); (focus (simp [go_sem, effAt]; exact ⟨rfl, rfl⟩)); (focus ((simp only [Act.put, List.setIfInBounds_toArray, List.set_cons_zero, List.set_cons_succ]; rfl))))
  intro w2 hB_y hs
  have Fw2 := Fw1.trans (hs.mono Fw1.size)
  replace hB_x := hB_x.below hs hB_x.lt
  clear hs Fw1
  clear hc_x; have hc_x := hB_x.cell
  have hc_y := hB_y.cell
  repeat (first | with_reducible apply wpList_nil | with_reducible apply seq_region | with_reducible apply wp_region_lit | with_reducible apply wp_seq | ((with_reducible apply seq_q); (focus rfl); (focus (simp [go_sem, effAt, ↓IntWalk.iteOmega, *]; (try go_ints); (first | (with_reducible exact effUpon_val) | (with_reducible exact effUpon_skip)))); (focus ((simp only [Act.put, List.setIfInBounds_toArray, List.set_cons_zero, List.set_cons_succ]; rfl)))) | ((with_reducible apply seq_s); (focus rfl); (focus ((simp only [Act.put, List.setIfInBounds_toArray, List.set_cons_zero, List.set_cons_succ]; rfl)))) | with_reducible apply wp_block | with_reducible apply wp_skip | with_reducible apply wp_exit | with_reducible apply wp_ret | ((with_reducible apply wp_cond_true); (focus (first | rfl | (simp [go_sem, *]; done)))) | ((with_reducible apply wp_cond_false); (focus (first | rfl | (simp [go_sem, *]; done)))) | (simp only [Exit.then, Exit.inBlock, ↓reduceIte, Nat.reduceEqDiff]))
  have lt_x_z := hB_x.lt
  have lt_y_z := hB_y.lt
  ((with_reducible apply seq_box); (focus rfl); (focus (simp [go_sem, effAt]; exact ⟨rfl, rfl⟩)); (focus ((simp only [Act.put, List.setIfInBounds_toArray, List.set_cons_zero, List.set_cons_succ]; rfl))))
  intro w3 hB_z hs
  have Fw3 := Fw2.trans (hs.mono Fw2.size)
  replace hB_x := hB_x.below hs hB_x.lt
  replace hB_y := hB_y.below hs hB_y.lt
  clear hs Fw2
  clear hc_x; have hc_x := hB_x.cell
  clear hc_y; have hc_y := hB_y.cell
  have hc_z := hB_z.cell
  repeat (first | with_reducible apply wpList_nil | with_reducible apply seq_region | with_reducible apply wp_region_lit | with_reducible apply wp_seq | ((with_reducible apply seq_q); (focus rfl); (focus (simp [go_sem, effAt, ↓IntWalk.iteOmega, *]; (try go_ints); (first | (with_reducible exact effUpon_val) | (with_reducible exact effUpon_skip)))); (focus ((simp only [Act.put, List.setIfInBounds_toArray, List.set_cons_zero, List.set_cons_succ]; rfl)))) | ((with_reducible apply seq_s); (focus rfl); (focus ((simp only [Act.put, List.setIfInBounds_toArray, List.set_cons_zero, List.set_cons_succ]; rfl)))) | with_reducible apply wp_block | with_reducible apply wp_skip | with_reducible apply wp_exit | with_reducible apply wp_ret | ((with_reducible apply wp_cond_true); (focus (first | rfl | (simp [go_sem, *]; done)))) | ((with_reducible apply wp_cond_false); (focus (first | rfl | (simp [go_sem, *]; done)))) | (simp only [Exit.then, Exit.inBlock, ↓reduceIte, Nat.reduceEqDiff]))
  ((with_reducible apply seq_e (Below w3.heap.size w3)); (focus rfl); (focus (simp only [effAt]; simp [go_sem]; (with_reducible exact effUpon_enter (hF _ _)))); (focus ((simp only [Act.put, List.setIfInBounds_toArray, List.set_cons_zero, List.set_cons_succ]; rfl))))
  intro w4 hs
  have Fw4 := Fw3.trans (hs.mono Fw3.size)
  replace hB_x := hB_x.below hs hB_x.lt
  replace hB_y := hB_y.below hs hB_y.lt
  replace hB_z := hB_z.below hs hB_z.lt
  clear hs Fw3
  clear hc_x; have hc_x := hB_x.cell
  clear hc_y; have hc_y := hB_y.cell
  clear hc_z; have hc_z := hB_z.cell
  repeat (first | with_reducible apply wpList_nil | with_reducible apply seq_region | with_reducible apply wp_region_lit | with_reducible apply wp_seq | ((with_reducible apply seq_q); (focus rfl); (focus (simp [go_sem, effAt, ↓IntWalk.iteOmega, *]; (try go_ints); (first | (with_reducible exact effUpon_val) | (with_reducible exact effUpon_skip)))); (focus ((simp only [Act.put, List.setIfInBounds_toArray, List.set_cons_zero, List.set_cons_succ]; rfl)))) | ((with_reducible apply seq_s); (focus rfl); (focus ((simp only [Act.put, List.setIfInBounds_toArray, List.set_cons_zero, List.set_cons_succ]; rfl)))) | with_reducible apply wp_block | with_reducible apply wp_skip | with_reducible apply wp_exit | with_reducible apply wp_ret | ((with_reducible apply wp_cond_true); (focus (first | rfl | (simp [go_sem, *]; done)))) | ((with_reducible apply wp_cond_false); (focus (first | rfl | (simp [go_sem, *]; done)))) | (simp only [Exit.then, Exit.inBlock, ↓reduceIte, Nat.reduceEqDiff]))
  go_ret
  exact ⟨rfl, by assumption⟩
theorem setclass_nil (d c : Nat) (hc : (c : Int) < 64) (w : World) : Calls Try.prog 18 #[.pointer none, .int .u8 d, .int .u8 c] w (Ret (.int .i64 1) (Below w.heap.size w)) := by
  have hF := fun fv w => set_nil d true fv w
  go_enter Try.func18, Try.ntmps18
  have F0 : Below w.heap.size w w := Below.refl _ _
  repeat (first | with_reducible apply wpList_nil | with_reducible apply seq_region | with_reducible apply wp_region_lit | with_reducible apply wp_seq | ((with_reducible apply seq_q); (focus rfl); (focus (simp [go_sem, effAt, ↓IntWalk.iteOmega, *]; (try go_ints); (first | (with_reducible exact effUpon_val) | (with_reducible exact effUpon_skip)))); (focus ((simp only [Act.put, List.setIfInBounds_toArray, List.set_cons_zero, List.set_cons_succ]; rfl)))) | ((with_reducible apply seq_s); (focus rfl); (focus ((simp only [Act.put, List.setIfInBounds_toArray, List.set_cons_zero, List.set_cons_succ]; rfl)))) | with_reducible apply wp_block | with_reducible apply wp_skip | with_reducible apply wp_exit | with_reducible apply wp_ret | ((with_reducible apply wp_cond_true); (focus (first | rfl | (simp [go_sem, *]; done)))) | ((with_reducible apply wp_cond_false); (focus (first | rfl | (simp [go_sem, *]; done)))) | (simp only [Exit.then, Exit.inBlock, ↓reduceIte, Nat.reduceEqDiff]))
  ((with_reducible apply seq_box); (focus rfl); (focus (simp [go_sem, effAt]; exact ⟨rfl, rfl⟩)); (focus ((simp only [Act.put, List.setIfInBounds_toArray, List.set_cons_zero, List.set_cons_succ]; rfl))))
  intro w1 hB_x hs
  have Fw1 := F0.trans (hs.mono F0.size)
  clear hs F0
  have hc_x := hB_x.cell
  repeat (first | with_reducible apply wpList_nil | with_reducible apply seq_region | with_reducible apply wp_region_lit | with_reducible apply wp_seq | ((with_reducible apply seq_q); (focus rfl); (focus (simp [go_sem, effAt, ↓IntWalk.iteOmega, *]; (try go_ints); (first | (with_reducible exact effUpon_val) | (with_reducible exact effUpon_skip)))); (focus ((simp only [Act.put, List.setIfInBounds_toArray, List.set_cons_zero, List.set_cons_succ]; rfl)))) | ((with_reducible apply seq_s); (focus rfl); (focus ((simp only [Act.put, List.setIfInBounds_toArray, List.set_cons_zero, List.set_cons_succ]; rfl)))) | with_reducible apply wp_block | with_reducible apply wp_skip | with_reducible apply wp_exit | with_reducible apply wp_ret | ((with_reducible apply wp_cond_true); (focus (first | rfl | (simp [go_sem, *]; done)))) | ((with_reducible apply wp_cond_false); (focus (first | rfl | (simp [go_sem, *]; done)))) | (simp only [Exit.then, Exit.inBlock, ↓reduceIte, Nat.reduceEqDiff]))
  have lt_x_y := hB_x.lt
  ((with_reducible apply seq_box); (focus rfl); (focus (simp [go_sem, effAt]; exact ⟨rfl, rfl⟩)); (focus ((simp only [Act.put, List.setIfInBounds_toArray, List.set_cons_zero, List.set_cons_succ]; rfl))))
  intro w2 hB_y hs
  have Fw2 := Fw1.trans (hs.mono Fw1.size)
  replace hB_x := hB_x.below hs hB_x.lt
  clear hs Fw1
  clear hc_x; have hc_x := hB_x.cell
  have hc_y := hB_y.cell
  repeat (first | with_reducible apply wpList_nil | with_reducible apply seq_region | with_reducible apply wp_region_lit | with_reducible apply wp_seq | ((with_reducible apply seq_q); (focus rfl); (focus (simp [go_sem, effAt, ↓IntWalk.iteOmega, *]; (try go_ints); (first | (with_reducible exact effUpon_val) | (with_reducible exact effUpon_skip)))); (focus ((simp only [Act.put, List.setIfInBounds_toArray, List.set_cons_zero, List.set_cons_succ]; rfl)))) | ((with_reducible apply seq_s); (focus rfl); (focus ((simp only [Act.put, List.setIfInBounds_toArray, List.set_cons_zero, List.set_cons_succ]; rfl)))) | with_reducible apply wp_block | with_reducible apply wp_skip | with_reducible apply wp_exit | with_reducible apply wp_ret | ((with_reducible apply wp_cond_true); (focus (first | rfl | (simp [go_sem, *]; done)))) | ((with_reducible apply wp_cond_false); (focus (first | rfl | (simp [go_sem, *]; done)))) | (simp only [Exit.then, Exit.inBlock, ↓reduceIte, Nat.reduceEqDiff]))
  have lt_x_z := hB_x.lt
  have lt_y_z := hB_y.lt
  ((with_reducible apply seq_box); (focus rfl); (focus (simp [go_sem, effAt]; exact ⟨rfl, rfl⟩)); (focus ((simp only [Act.put, List.setIfInBounds_toArray, List.set_cons_zero, List.set_cons_succ]; rfl))))
  intro w3 hB_z hs
  have Fw3 := Fw2.trans (hs.mono Fw2.size)
  replace hB_x := hB_x.below hs hB_x.lt
  replace hB_y := hB_y.below hs hB_y.lt
  clear hs Fw2
  clear hc_x; have hc_x := hB_x.cell
  clear hc_y; have hc_y := hB_y.cell
  have hc_z := hB_z.cell
  repeat (first | with_reducible apply wpList_nil | with_reducible apply seq_region | with_reducible apply wp_region_lit | with_reducible apply wp_seq | ((with_reducible apply seq_q); (focus rfl); (focus (simp [go_sem, effAt, ↓IntWalk.iteOmega, *]; (try go_ints); (first | (with_reducible exact effUpon_val) | (with_reducible exact effUpon_skip)))); (focus ((simp only [Act.put, List.setIfInBounds_toArray, List.set_cons_zero, List.set_cons_succ]; rfl)))) | ((with_reducible apply seq_s); (focus rfl); (focus ((simp only [Act.put, List.setIfInBounds_toArray, List.set_cons_zero, List.set_cons_succ]; rfl)))) | with_reducible apply wp_block | with_reducible apply wp_skip | with_reducible apply wp_exit | with_reducible apply wp_ret | ((with_reducible apply wp_cond_true); (focus (first | rfl | (simp [go_sem, *]; done)))) | ((with_reducible apply wp_cond_false); (focus (first | rfl | (simp [go_sem, *]; done)))) | (simp only [Exit.then, Exit.inBlock, ↓reduceIte, Nat.reduceEqDiff]))
  ((with_reducible apply seq_e (Below w3.heap.size w3)); (focus rfl); (focus (simp only [effAt]; simp [go_sem]; (with_reducible exact effUpon_enter (hF _ _)))); (focus ((simp only [Act.put, List.setIfInBounds_toArray, List.set_cons_zero, List.set_cons_succ]; rfl))))
  intro w4 hs
  have Fw4 := Fw3.trans (hs.mono Fw3.size)
  replace hB_x := hB_x.below hs hB_x.lt
  replace hB_y := hB_y.below hs hB_y.lt
  replace hB_z := hB_z.below hs hB_z.lt
  clear hs Fw3
  clear hc_x; have hc_x := hB_x.cell
  clear hc_y; have hc_y := hB_y.cell
  clear hc_z; have hc_z := hB_z.cell
  repeat (first | with_reducible apply wpList_nil | with_reducible apply seq_region | with_reducible apply wp_region_lit | with_reducible apply wp_seq | ((with_reducible apply seq_q); (focus rfl); (focus (simp [go_sem, effAt, ↓IntWalk.iteOmega, *]; (try go_ints); (first | (with_reducible exact effUpon_val) | (with_reducible exact effUpon_skip)))); (focus ((simp only [Act.put, List.setIfInBounds_toArray, List.set_cons_zero, List.set_cons_succ]; rfl)))) | ((with_reducible apply seq_s); (focus rfl); (focus ((simp only [Act.put, List.setIfInBounds_toArray, List.set_cons_zero, List.set_cons_succ]; rfl)))) | with_reducible apply wp_block | with_reducible apply wp_skip | with_reducible apply wp_exit | with_reducible apply wp_ret | ((with_reducible apply wp_cond_true); (focus (first | rfl | (simp [go_sem, *]; done)))) | ((with_reducible apply wp_cond_false); (focus (first | rfl | (simp [go_sem, *]; done)))) | (simp only [Exit.then, Exit.inBlock, ↓reduceIte, Nat.reduceEqDiff]))
  go_ret
  exact ⟨rfl, by assumption⟩
theorem take_any (hs : s.Ok) (g d : Nat) (w : World) (hB_p : PB w g s) : Calls Try.prog 19 #[.pointer (some ⟨g, 0, none⟩), .int .u8 d] w (Ret (.bool (decide (mayP s d))) fun w' => PB w' g (if mayP s d then s.take d else s) ∧ w.grownBy w' (some g)) := by
  have hM := may_any hs g d
  by_cases hm : mayP s d
  case pos =>
    have hd := hm.1
    have hd' : (d : Int) < 64 := by omega
    rw [if_pos hm]
    rw [decide_eq_true hm] at hM ⊢
    have e1 := cellsP_c hs hd
    have hcb := hs.clr d hd
    have e2 := cells_take hs hd
    have e3 := cellsP_l hs (d := (s.c d).toNat) (by omega)
    have hc1 := hcb.1
    have hc2 := hcb.2
    clear hm hs hcb
    go_enter Try.func19, Try.ntmps19
    have F0 : Turn (fun i => i = g ∨ w.heap.size ≤ i) w w := Turn.refl _
    have hc_p := hB_p.cell
    repeat (first | with_reducible apply wpList_nil | with_reducible apply seq_region | with_reducible apply wp_region_lit | with_reducible apply wp_seq | ((with_reducible apply seq_q); (focus rfl); (focus (simp [go_sem, effAt, ↓IntWalk.iteOmega, *]; (try go_ints); (first | (with_reducible exact effUpon_val) | (with_reducible exact effUpon_skip)))); (focus ((simp only [Act.put, List.setIfInBounds_toArray, List.set_cons_zero, List.set_cons_succ]; rfl)))) | ((with_reducible apply seq_s); (focus rfl); (focus ((simp only [Act.put, List.setIfInBounds_toArray, List.set_cons_zero, List.set_cons_succ]; rfl)))) | with_reducible apply wp_block | with_reducible apply wp_skip | with_reducible apply wp_exit | with_reducible apply wp_ret | ((with_reducible apply wp_cond_true); (focus (first | rfl | (simp [go_sem, *]; done)))) | ((with_reducible apply wp_cond_false); (focus (first | rfl | (simp [go_sem, *]; done)))) | (simp only [Exit.then, Exit.inBlock, ↓reduceIte, Nat.reduceEqDiff]))
    ((with_reducible apply seq_e (Below w.heap.size w)); (focus rfl); (focus (simp only [effAt]; simp [go_sem]; (with_reducible exact effUpon_enter (hM _ hB_p)))); (focus ((simp only [Act.put, List.setIfInBounds_toArray, List.set_cons_zero, List.set_cons_succ]; rfl))))
    intro w1 hs
    have Fw1 := F0.trans (Turn.of_below hs)
    replace hB_p := hB_p.below hs hB_p.lt
    clear hs F0
    clear hc_p; have hc_p := hB_p.cell
    repeat (first | with_reducible apply wpList_nil | with_reducible apply seq_region | with_reducible apply wp_region_lit | with_reducible apply wp_seq | ((with_reducible apply seq_q); (focus rfl); (focus (simp [go_sem, effAt, ↓IntWalk.iteOmega, *]; (try go_ints); (first | (with_reducible exact effUpon_val) | (with_reducible exact effUpon_skip)))); (focus ((simp only [Act.put, List.setIfInBounds_toArray, List.set_cons_zero, List.set_cons_succ]; rfl)))) | ((with_reducible apply seq_s); (focus rfl); (focus ((simp only [Act.put, List.setIfInBounds_toArray, List.set_cons_zero, List.set_cons_succ]; rfl)))) | with_reducible apply wp_block | with_reducible apply wp_skip | with_reducible apply wp_exit | with_reducible apply wp_ret | ((with_reducible apply wp_cond_true); (focus (first | rfl | (simp [go_sem, *]; done)))) | ((with_reducible apply wp_cond_false); (focus (first | rfl | (simp [go_sem, *]; done)))) | (simp only [Exit.then, Exit.inBlock, ↓reduceIte, Nat.reduceEqDiff]))
    refine wp_region_tail 13 (by kernel_rfl) (by kernel_rfl) ?_
    simp only [List.take_succ_cons, List.take_zero, List.drop_succ_cons, List.drop_zero]
    generalize hww2 : World.drew w1 = w2
    have hs : Below w1.heap.size w1 w2 := hww2 ▸ (Below.refl _ _).drew
    clear hww2
    have Fw2 := Fw1.trans (Turn.of_below hs)
    replace hB_p := hB_p.below hs hB_p.lt
    clear hs Fw1
    clear hc_p; have hc_p := hB_p.cell
    repeat (first | ((with_reducible apply still_q); (focus rfl); (focus (simp [go_sem, stAt, ↓IntWalk.iteOmega, *]; (try go_ints); (first | (with_reducible exact stUpon_val) | (with_reducible exact stUpon_skip)))); (focus ((simp only [Act.put, List.setIfInBounds_toArray, List.set_cons_zero, List.set_cons_succ]; rfl)))) | ((with_reducible apply still_s); (focus rfl); (focus ((simp only [Act.put, List.setIfInBounds_toArray, List.set_cons_zero, List.set_cons_succ]; rfl)))))
    with_reducible refine wpStill_nil ?_
    have hf_p := hB_p.frozen
    with_reducible apply seq_e (fun w' => PB w' g (s.take d) ∧ w2.grownBy w' (some g))
    (focus (first | exact wanted_none rfl | exact wanted_yes rfl rfl rfl))
    (focus (simp [go_sem, effAt, *]; exact ⟨rfl, by have h := hB_p.set_ (128 + (s.c d).toNat) (.int .i64 (d + 1)); rw [e2] at h; exact h, grown_set (World.grownBy.refl _ _)⟩))
    (simp only [Act.put, List.setIfInBounds_toArray, List.set_cons_zero, List.set_cons_succ]; rfl)
    rintro u ⟨hP, hg2⟩
    have hG := (Fw2.trans (Turn.of_grown hg2 (.inl rfl))).to_grown
    clear hM hg2
    repeat (first | with_reducible apply wpList_nil | with_reducible apply seq_region | with_reducible apply wp_region_lit | with_reducible apply wp_seq | ((with_reducible apply seq_q); (focus rfl); (focus (simp [go_sem, effAt, ↓IntWalk.iteOmega, *]; (try go_ints); (first | (with_reducible exact effUpon_val) | (with_reducible exact effUpon_skip)))); (focus ((simp only [Act.put, List.setIfInBounds_toArray, List.set_cons_zero, List.set_cons_succ]; rfl)))) | ((with_reducible apply seq_s); (focus rfl); (focus ((simp only [Act.put, List.setIfInBounds_toArray, List.set_cons_zero, List.set_cons_succ]; rfl)))) | with_reducible apply wp_block | with_reducible apply wp_skip | with_reducible apply wp_exit | with_reducible apply wp_ret | ((with_reducible apply wp_cond_true); (focus (first | rfl | (simp [go_sem, *]; done)))) | ((with_reducible apply wp_cond_false); (focus (first | rfl | (simp [go_sem, *]; done)))) | (simp only [Exit.then, Exit.inBlock, ↓reduceIte, Nat.reduceEqDiff]))
    go_ret
    exact ⟨rfl, hP, hG⟩
  case neg =>
    rw [if_neg hm]
    rw [decide_eq_false hm] at hM ⊢
    clear hm hs
    go_enter Try.func19, Try.ntmps19
    have F0 : Turn (fun i => i = g ∨ w.heap.size ≤ i) w w := Turn.refl _
    have hc_p := hB_p.cell
    repeat (first | with_reducible apply wpList_nil | with_reducible apply seq_region | with_reducible apply wp_region_lit | with_reducible apply wp_seq | ((with_reducible apply seq_q); (focus rfl); (focus (simp [go_sem, effAt, ↓IntWalk.iteOmega, *]; (try go_ints); (first | (with_reducible exact effUpon_val) | (with_reducible exact effUpon_skip)))); (focus ((simp only [Act.put, List.setIfInBounds_toArray, List.set_cons_zero, List.set_cons_succ]; rfl)))) | ((with_reducible apply seq_s); (focus rfl); (focus ((simp only [Act.put, List.setIfInBounds_toArray, List.set_cons_zero, List.set_cons_succ]; rfl)))) | with_reducible apply wp_block | with_reducible apply wp_skip | with_reducible apply wp_exit | with_reducible apply wp_ret | ((with_reducible apply wp_cond_true); (focus (first | rfl | (simp [go_sem, *]; done)))) | ((with_reducible apply wp_cond_false); (focus (first | rfl | (simp [go_sem, *]; done)))) | (simp only [Exit.then, Exit.inBlock, ↓reduceIte, Nat.reduceEqDiff]))
    ((with_reducible apply seq_e (Below w.heap.size w)); (focus rfl); (focus (simp only [effAt]; simp [go_sem]; (with_reducible exact effUpon_enter (hM _ hB_p)))); (focus ((simp only [Act.put, List.setIfInBounds_toArray, List.set_cons_zero, List.set_cons_succ]; rfl))))
    intro w3 hs
    have Fw3 := F0.trans (Turn.of_below hs)
    replace hB_p := hB_p.below hs hB_p.lt
    clear hs F0
    clear hc_p; have hc_p := hB_p.cell
    repeat (first | with_reducible apply wpList_nil | with_reducible apply seq_region | with_reducible apply wp_region_lit | with_reducible apply wp_seq | ((with_reducible apply seq_q); (focus rfl); (focus (simp [go_sem, effAt, ↓IntWalk.iteOmega, *]; (try go_ints); (first | (with_reducible exact effUpon_val) | (with_reducible exact effUpon_skip)))); (focus ((simp only [Act.put, List.setIfInBounds_toArray, List.set_cons_zero, List.set_cons_succ]; rfl)))) | ((with_reducible apply seq_s); (focus rfl); (focus ((simp only [Act.put, List.setIfInBounds_toArray, List.set_cons_zero, List.set_cons_succ]; rfl)))) | with_reducible apply wp_block | with_reducible apply wp_skip | with_reducible apply wp_exit | with_reducible apply wp_ret | ((with_reducible apply wp_cond_true); (focus (first | rfl | (simp [go_sem, *]; done)))) | ((with_reducible apply wp_cond_false); (focus (first | rfl | (simp [go_sem, *]; done)))) | (simp only [Exit.then, Exit.inBlock, ↓reduceIte, Nat.reduceEqDiff]))
    go_ret
    exact ⟨rfl, hB_p, Turn.to_grown (by assumption)⟩
theorem may_nil (d : Nat) (w : World) : Calls Try.prog 13 #[.pointer none, .int .u8 d] w (Ret (.bool false) (Below w.heap.size w)) := by
  have hR := ready_nil d
  go_enter Try.func13, Try.ntmps13
  have F0 : Below w.heap.size w w := Below.refl _ _
  repeat (first | with_reducible apply wpList_nil | with_reducible apply seq_region | with_reducible apply wp_region_lit | with_reducible apply wp_seq | ((with_reducible apply seq_q); (focus rfl); (focus (simp [go_sem, effAt, ↓IntWalk.iteOmega, *]; (try go_ints); (first | (with_reducible exact effUpon_val) | (with_reducible exact effUpon_skip)))); (focus ((simp only [Act.put, List.setIfInBounds_toArray, List.set_cons_zero, List.set_cons_succ]; rfl)))) | ((with_reducible apply seq_s); (focus rfl); (focus ((simp only [Act.put, List.setIfInBounds_toArray, List.set_cons_zero, List.set_cons_succ]; rfl)))) | with_reducible apply wp_block | with_reducible apply wp_skip | with_reducible apply wp_exit | with_reducible apply wp_ret | ((with_reducible apply wp_cond_true); (focus (first | rfl | (simp [go_sem, *]; done)))) | ((with_reducible apply wp_cond_false); (focus (first | rfl | (simp [go_sem, *]; done)))) | (simp only [Exit.then, Exit.inBlock, ↓reduceIte, Nat.reduceEqDiff]))
  ((with_reducible apply seq_e (Below w.heap.size w)); (focus rfl); (focus (simp only [effAt]; simp [go_sem]; (with_reducible exact effUpon_enter (hR _)))); (focus ((simp only [Act.put, List.setIfInBounds_toArray, List.set_cons_zero, List.set_cons_succ]; rfl))))
  intro w1 hs
  have Fw1 := F0.trans (hs.mono F0.size)
  clear hs F0
  repeat (first | with_reducible apply wpList_nil | with_reducible apply seq_region | with_reducible apply wp_region_lit | with_reducible apply wp_seq | ((with_reducible apply seq_q); (focus rfl); (focus (simp [go_sem, effAt, ↓IntWalk.iteOmega, *]; (try go_ints); (first | (with_reducible exact effUpon_val) | (with_reducible exact effUpon_skip)))); (focus ((simp only [Act.put, List.setIfInBounds_toArray, List.set_cons_zero, List.set_cons_succ]; rfl)))) | ((with_reducible apply seq_s); (focus rfl); (focus ((simp only [Act.put, List.setIfInBounds_toArray, List.set_cons_zero, List.set_cons_succ]; rfl)))) | with_reducible apply wp_block | with_reducible apply wp_skip | with_reducible apply wp_exit | with_reducible apply wp_ret | ((with_reducible apply wp_cond_true); (focus (first | rfl | (simp [go_sem, *]; done)))) | ((with_reducible apply wp_cond_false); (focus (first | rfl | (simp [go_sem, *]; done)))) | (simp only [Exit.then, Exit.inBlock, ↓reduceIte, Nat.reduceEqDiff]))
  go_ret
  exact ⟨rfl, by assumption⟩
theorem take_nil (d : Nat) (w : World) : Calls Try.prog 19 #[.pointer none, .int .u8 d] w (Ret (.bool false) (Below w.heap.size w)) := by
  have hR := may_nil d
  go_enter Try.func19, Try.ntmps19
  have F0 : Below w.heap.size w w := Below.refl _ _
  repeat (first | with_reducible apply wpList_nil | with_reducible apply seq_region | with_reducible apply wp_region_lit | with_reducible apply wp_seq | ((with_reducible apply seq_q); (focus rfl); (focus (simp [go_sem, effAt, ↓IntWalk.iteOmega, *]; (try go_ints); (first | (with_reducible exact effUpon_val) | (with_reducible exact effUpon_skip)))); (focus ((simp only [Act.put, List.setIfInBounds_toArray, List.set_cons_zero, List.set_cons_succ]; rfl)))) | ((with_reducible apply seq_s); (focus rfl); (focus ((simp only [Act.put, List.setIfInBounds_toArray, List.set_cons_zero, List.set_cons_succ]; rfl)))) | with_reducible apply wp_block | with_reducible apply wp_skip | with_reducible apply wp_exit | with_reducible apply wp_ret | ((with_reducible apply wp_cond_true); (focus (first | rfl | (simp [go_sem, *]; done)))) | ((with_reducible apply wp_cond_false); (focus (first | rfl | (simp [go_sem, *]; done)))) | (simp only [Exit.then, Exit.inBlock, ↓reduceIte, Nat.reduceEqDiff]))
  ((with_reducible apply seq_e (Below w.heap.size w)); (focus rfl); (focus (simp only [effAt]; simp [go_sem]; (with_reducible exact effUpon_enter (hR _)))); (focus ((simp only [Act.put, List.setIfInBounds_toArray, List.set_cons_zero, List.set_cons_succ]; rfl))))
  intro w1 hs
  have Fw1 := F0.trans (hs.mono F0.size)
  clear hs F0
  repeat (first | with_reducible apply wpList_nil | with_reducible apply seq_region | with_reducible apply wp_region_lit | with_reducible apply wp_seq | ((with_reducible apply seq_q); (focus rfl); (focus (simp [go_sem, effAt, ↓IntWalk.iteOmega, *]; (try go_ints); (first | (with_reducible exact effUpon_val) | (with_reducible exact effUpon_skip)))); (focus ((simp only [Act.put, List.setIfInBounds_toArray, List.set_cons_zero, List.set_cons_succ]; rfl)))) | ((with_reducible apply seq_s); (focus rfl); (focus ((simp only [Act.put, List.setIfInBounds_toArray, List.set_cons_zero, List.set_cons_succ]; rfl)))) | with_reducible apply wp_block | with_reducible apply wp_skip | with_reducible apply wp_exit | with_reducible apply wp_ret | ((with_reducible apply wp_cond_true); (focus (first | rfl | (simp [go_sem, *]; done)))) | ((with_reducible apply wp_cond_false); (focus (first | rfl | (simp [go_sem, *]; done)))) | (simp only [Exit.then, Exit.inBlock, ↓reduceIte, Nat.reduceEqDiff]))
  go_ret
  exact ⟨rfl, by assumption⟩
theorem pick_nil (w : World) : Calls Try.prog 14 #[.pointer none] w (Ret (.tuple #[.int .u8 0, .bool false]) (Below w.heap.size w)) := by
  go_enter Try.func14, Try.ntmps14
  have F0 : Below w.heap.size w w := Below.refl _ _
  repeat (first | with_reducible apply wpList_nil | with_reducible apply seq_region | with_reducible apply wp_region_lit | with_reducible apply wp_seq | ((with_reducible apply seq_q); (focus rfl); (focus (simp [go_sem, effAt, ↓IntWalk.iteOmega, *]; (try go_ints); (first | (with_reducible exact effUpon_val) | (with_reducible exact effUpon_skip)))); (focus ((simp only [Act.put, List.setIfInBounds_toArray, List.set_cons_zero, List.set_cons_succ]; rfl)))) | ((with_reducible apply seq_s); (focus rfl); (focus ((simp only [Act.put, List.setIfInBounds_toArray, List.set_cons_zero, List.set_cons_succ]; rfl)))) | with_reducible apply wp_block | with_reducible apply wp_skip | with_reducible apply wp_exit | with_reducible apply wp_ret | ((with_reducible apply wp_cond_true); (focus (first | rfl | (simp [go_sem, *]; done)))) | ((with_reducible apply wp_cond_false); (focus (first | rfl | (simp [go_sem, *]; done)))) | (simp only [Exit.then, Exit.inBlock, ↓reduceIte, Nat.reduceEqDiff]))
  refine bodyPost_ret (v := .tuple #[.int .u8 0, .bool false]) (by simp [results, Try.results14, go_sem, *]) rfl ⟨rfl, by assumption⟩
end
end Go.Proofs.Ytminenipklgbcaa
