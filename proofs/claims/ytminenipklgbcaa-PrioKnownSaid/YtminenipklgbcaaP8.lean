/- The walks of the document's SetClass, SetReady, May, Take. -/
import Derived.Test.YtminenipklgbcaaP7
set_option linter.unusedSimpArgs false
set_option linter.unusedVariables false
namespace Go.Proofs.Ytminenipklgbcaa
open Go.RowKit Go.Eff
attribute [local irreducible] Go.wpList
/-- which blocks of the document's turn -/
def TR (z : Sh) (w : World) (i : Nat) : Prop := i = z.a ∨ i = z.b ∨ i = z.c ∨ w.heap.size ≤ i
section
variable {s : PS} {z : Sh} {B d : Nat} {w : World}
theorem rsetready_any (hs : s.Ok) (hz : z.Ok B) (d : Nat) (b : Bool) (w : World) (hR : RB w z s) : Calls Try.prog 21 #[.pointer (some ⟨z.h, 0, none⟩), .int .u8 d, .bool b] w (Ret (.int .i64 (errR d)) fun w' => RB w' z (s.callR d b) ∧ Turn (TR z w) w w') := by
  by_cases hd : d < 64
  case pos =>
    have e1 : errR d = 0 := by unfold errR; rw [if_pos hd]
    have e2 : s.callR d b = s.setR d b := by unfold PS.callR; rw [if_pos hd]
    rw [e1, e2]
    have hd' : (d : Int) < 64 := by omega
    have hd2 : ¬ (63 : Int) < d := by omega
    have e3 := cellsB_get hs hd
    have e4 := cellsB_set (s := s) d b
    obtain ⟨hB_h, hB_a, hB_b, hB_c⟩ := hR
    have HA := Lib.hid hB_a
    have HC := Lib.hid hB_c
    have HZ := Lib.hid hz
    clear hs hz e1 e2 hB_a hB_c
    go_enter Try.func21, Try.ntmps21
    have F0 : Turn (fun i => i = z.b ∨ w.heap.size ≤ i) w w := Turn.refl _
    have hc_h := hB_h.cell
    have hc_b := hB_b.cell
    repeat (first | with_reducible apply wpList_nil | with_reducible apply seq_region | with_reducible apply wp_region_lit | with_reducible apply wp_seq | ((with_reducible apply seq_q); (focus rfl); (focus (simp [go_sem, effAt, ↓IntWalk.iteOmega, *]; (try go_ints); (first | (with_reducible exact effUpon_val) | (with_reducible exact effUpon_skip)))); (focus ((simp only [Act.put, List.setIfInBounds_toArray, List.set_cons_zero, List.set_cons_succ]; rfl)))) | ((with_reducible apply seq_s); (focus rfl); (focus ((simp only [Act.put, List.setIfInBounds_toArray, List.set_cons_zero, List.set_cons_succ]; rfl)))) | with_reducible apply wp_block | with_reducible apply wp_skip | with_reducible apply wp_exit | with_reducible apply wp_ret | ((with_reducible apply wp_cond_true); (focus (first | rfl | (simp [go_sem, *]; done)))) | ((with_reducible apply wp_cond_false); (focus (first | rfl | (simp [go_sem, *]; done)))) | (simp only [Exit.then, Exit.inBlock, ↓reduceIte, Nat.reduceEqDiff]))
    have hf_b := hB_b.frozen
    with_reducible apply seq_e (fun w' => Blk w' z.b 4 (cellsB (s.setR d b)) ∧ w.grownBy w' (some z.b))
    (focus (first | exact wanted_none rfl | exact wanted_yes rfl rfl rfl))
    (focus (simp [go_sem, effAt, *]; exact ⟨rfl, by have h := hB_b.set_ d (.bool b); rw [e4] at h; exact h, grown_set (World.grownBy.refl _ _)⟩))
    (simp only [Act.put, List.setIfInBounds_toArray, List.set_cons_zero, List.set_cons_succ]; rfl)
    rintro u ⟨hP, hg2⟩
    have z1 := HZ.out
    have hR' : RB u z (s.setR d b) := ⟨hB_h.grown hg2 (fun e => z1.hb (by injection e)), HA.out.grown hg2 (fun e => z1.ab (by injection e)), hP, HC.out.grown hg2 (fun e => z1.bc (by injection e with e; exact e.symm))⟩
    have hT : Turn (TR z w) w u := Turn.of_grown hg2 (.inr (.inl rfl))
    clear hg2 hB_h hB_b hc_h hc_b hP hf_b z1
    repeat (first | with_reducible apply wpList_nil | with_reducible apply seq_region | with_reducible apply wp_region_lit | with_reducible apply wp_seq | ((with_reducible apply seq_q); (focus rfl); (focus (simp [go_sem, effAt, ↓IntWalk.iteOmega, *]; (try go_ints); (first | (with_reducible exact effUpon_val) | (with_reducible exact effUpon_skip)))); (focus ((simp only [Act.put, List.setIfInBounds_toArray, List.set_cons_zero, List.set_cons_succ]; rfl)))) | ((with_reducible apply seq_s); (focus rfl); (focus ((simp only [Act.put, List.setIfInBounds_toArray, List.set_cons_zero, List.set_cons_succ]; rfl)))) | with_reducible apply wp_block | with_reducible apply wp_skip | with_reducible apply wp_exit | with_reducible apply wp_ret | ((with_reducible apply wp_cond_true); (focus (first | rfl | (simp [go_sem, *]; done)))) | ((with_reducible apply wp_cond_false); (focus (first | rfl | (simp [go_sem, *]; done)))) | (simp only [Exit.then, Exit.inBlock, ↓reduceIte, Nat.reduceEqDiff]))
    go_ret
    exact ⟨rfl, hR', hT⟩
  case neg =>
    have e1 : errR d = 2 := by unfold errR; rw [if_neg hd]
    have e2 : s.callR d b = s := by unfold PS.callR; rw [if_neg hd]
    rw [e1, e2]
    have hd' : (63 : Int) < d := by omega
    clear hs hz e1 e2
    go_enter Try.func21, Try.ntmps21
    have F0 : Below w.heap.size w w := Below.refl _ _
    repeat (first | with_reducible apply wpList_nil | with_reducible apply seq_region | with_reducible apply wp_region_lit | with_reducible apply wp_seq | ((with_reducible apply seq_q); (focus rfl); (focus (simp [go_sem, effAt, ↓IntWalk.iteOmega, *]; (try go_ints); (first | (with_reducible exact effUpon_val) | (with_reducible exact effUpon_skip)))); (focus ((simp only [Act.put, List.setIfInBounds_toArray, List.set_cons_zero, List.set_cons_succ]; rfl)))) | ((with_reducible apply seq_s); (focus rfl); (focus ((simp only [Act.put, List.setIfInBounds_toArray, List.set_cons_zero, List.set_cons_succ]; rfl)))) | with_reducible apply wp_block | with_reducible apply wp_skip | with_reducible apply wp_exit | with_reducible apply wp_ret | ((with_reducible apply wp_cond_true); (focus (first | rfl | (simp [go_sem, *]; done)))) | ((with_reducible apply wp_cond_false); (focus (first | rfl | (simp [go_sem, *]; done)))) | (simp only [Exit.then, Exit.inBlock, ↓reduceIte, Nat.reduceEqDiff]))
    go_ret
    exact ⟨rfl, hR.below (by assumption), Turn.of_below (by assumption)⟩
theorem rsetclass_any (hs : s.Ok) (hz : z.Ok B) (d c : Nat) (w : World) (hR : RB w z s) : Calls Try.prog 20 #[.pointer (some ⟨z.h, 0, none⟩), .int .u8 d, .int .u8 c] w (Ret (.int .i64 (errC d c)) fun w' => RB w' z (s.callC d c) ∧ Turn (TR z w) w w') := by
  by_cases h : d < 64 ∧ (c : Int) < 64
  case pos =>
    obtain ⟨hd, hc⟩ := h
    have e1 : errC d c = 0 := by unfold errC; rw [if_pos hd, if_pos hc]
    have e2 : s.callC d c = s.setC d c := by unfold PS.callC; rw [if_pos hd, if_pos hc]
    rw [e1, e2]
    have hd' : (d : Int) < 64 := by omega
    have hd2 : ¬ (63 : Int) < d := by omega
    have hd3 : ¬ (63 : Int) < c := by omega
    have e3 := cellsA_get hs z.pa hd
    have e4 := cellsA_set hs z.pa hd (c : Int)
    obtain ⟨hB_h, hB_a, hB_b, hB_c⟩ := hR
    have HB := Lib.hid hB_b
    have HC := Lib.hid hB_c
    have HZ := Lib.hid hz
    clear hs hz e1 e2 hB_b hB_c
    go_enter Try.func20, Try.ntmps20
    have F0 : Turn (fun i => i = z.a ∨ w.heap.size ≤ i) w w := Turn.refl _
    have hc_h := hB_h.cell
    have hc_a := hB_a.cell
    repeat (first | with_reducible apply wpList_nil | with_reducible apply seq_region | with_reducible apply wp_region_lit | with_reducible apply wp_seq | ((with_reducible apply seq_q); (focus rfl); (focus (simp [go_sem, effAt, ↓IntWalk.iteOmega, *]; (try go_ints); (first | (with_reducible exact effUpon_val) | (with_reducible exact effUpon_skip)))); (focus ((simp only [Act.put, List.setIfInBounds_toArray, List.set_cons_zero, List.set_cons_succ]; rfl)))) | ((with_reducible apply seq_s); (focus rfl); (focus ((simp only [Act.put, List.setIfInBounds_toArray, List.set_cons_zero, List.set_cons_succ]; rfl)))) | with_reducible apply wp_block | with_reducible apply wp_skip | with_reducible apply wp_exit | with_reducible apply wp_ret | ((with_reducible apply wp_cond_true); (focus (first | rfl | (simp [go_sem, *]; done)))) | ((with_reducible apply wp_cond_false); (focus (first | rfl | (simp [go_sem, *]; done)))) | (simp only [Exit.then, Exit.inBlock, ↓reduceIte, Nat.reduceEqDiff]))
    have hf_a := hB_a.frozen
    with_reducible apply seq_e (fun w' => Blk w' z.a 5 (cellsA (s.setC d c) z.pa) ∧ w.grownBy w' (some z.a))
    (focus (first | exact wanted_none rfl | exact wanted_yes rfl rfl rfl))
    (focus (simp [go_sem, effAt, *]; exact ⟨rfl, by have h := hB_a.set_ d (.int .u8 c); rw [e4] at h; exact h, grown_set (World.grownBy.refl _ _)⟩))
    (simp only [Act.put, List.setIfInBounds_toArray, List.set_cons_zero, List.set_cons_succ]; rfl)
    rintro u ⟨hP, hg2⟩
    have z1 := HZ.out
    have hR' : RB u z (s.setC d c) := ⟨hB_h.grown hg2 (fun e => z1.ha (by injection e)), hP, HB.out.grown hg2 (fun e => z1.ab (by injection e with e; exact e.symm)), HC.out.grown hg2 (fun e => z1.ac (by injection e with e; exact e.symm))⟩
    have hT : Turn (TR z w) w u := Turn.of_grown hg2 (.inl rfl)
    clear hg2 hB_h hB_a hc_h hc_a hP hf_a z1
    repeat (first | with_reducible apply wpList_nil | with_reducible apply seq_region | with_reducible apply wp_region_lit | with_reducible apply wp_seq | ((with_reducible apply seq_q); (focus rfl); (focus (simp [go_sem, effAt, ↓IntWalk.iteOmega, *]; (try go_ints); (first | (with_reducible exact effUpon_val) | (with_reducible exact effUpon_skip)))); (focus ((simp only [Act.put, List.setIfInBounds_toArray, List.set_cons_zero, List.set_cons_succ]; rfl)))) | ((with_reducible apply seq_s); (focus rfl); (focus ((simp only [Act.put, List.setIfInBounds_toArray, List.set_cons_zero, List.set_cons_succ]; rfl)))) | with_reducible apply wp_block | with_reducible apply wp_skip | with_reducible apply wp_exit | with_reducible apply wp_ret | ((with_reducible apply wp_cond_true); (focus (first | rfl | (simp [go_sem, *]; done)))) | ((with_reducible apply wp_cond_false); (focus (first | rfl | (simp [go_sem, *]; done)))) | (simp only [Exit.then, Exit.inBlock, ↓reduceIte, Nat.reduceEqDiff]))
    go_ret
    exact ⟨rfl, hR', hT⟩
  case neg =>
    have e1 : errC d c = 2 := by
      unfold errC
      repeat' split
      all_goals first | rfl | (exfalso; exact h ⟨by assumption, by assumption⟩)
    have e2 : s.callC d c = s := by
      unfold PS.callC
      repeat' split
      all_goals first | rfl | (exfalso; exact h ⟨by assumption, by assumption⟩)
    rw [e1, e2]
    clear hs hz e1 e2
    by_cases hd : d < 64
    case pos =>
      have hd2 : ¬ (63 : Int) < d := by omega
      have hd3 : (63 : Int) < c := by omega
      go_enter Try.func20, Try.ntmps20
      have F0 : Below w.heap.size w w := Below.refl _ _
      repeat (first | with_reducible apply wpList_nil | with_reducible apply seq_region | with_reducible apply wp_region_lit | with_reducible apply wp_seq | ((with_reducible apply seq_q); (focus rfl); (focus (simp [go_sem, effAt, ↓IntWalk.iteOmega, *]; (try go_ints); (first | (with_reducible exact effUpon_val) | (with_reducible exact effUpon_skip)))); (focus ((simp only [Act.put, List.setIfInBounds_toArray, List.set_cons_zero, List.set_cons_succ]; rfl)))) | ((with_reducible apply seq_s); (focus rfl); (focus ((simp only [Act.put, List.setIfInBounds_toArray, List.set_cons_zero, List.set_cons_succ]; rfl)))) | with_reducible apply wp_block | with_reducible apply wp_skip | with_reducible apply wp_exit | with_reducible apply wp_ret | ((with_reducible apply wp_cond_true); (focus (first | rfl | (simp [go_sem, *]; done)))) | ((with_reducible apply wp_cond_false); (focus (first | rfl | (simp [go_sem, *]; done)))) | (simp only [Exit.then, Exit.inBlock, ↓reduceIte, Nat.reduceEqDiff]))
      go_ret
      exact ⟨rfl, hR.below (by assumption), Turn.of_below (by assumption)⟩
    case neg =>
      have hd2 : (63 : Int) < d := by omega
      go_enter Try.func20, Try.ntmps20
      have F0 : Below w.heap.size w w := Below.refl _ _
      repeat (first | with_reducible apply wpList_nil | with_reducible apply seq_region | with_reducible apply wp_region_lit | with_reducible apply wp_seq | ((with_reducible apply seq_q); (focus rfl); (focus (simp [go_sem, effAt, ↓IntWalk.iteOmega, *]; (try go_ints); (first | (with_reducible exact effUpon_val) | (with_reducible exact effUpon_skip)))); (focus ((simp only [Act.put, List.setIfInBounds_toArray, List.set_cons_zero, List.set_cons_succ]; rfl)))) | ((with_reducible apply seq_s); (focus rfl); (focus ((simp only [Act.put, List.setIfInBounds_toArray, List.set_cons_zero, List.set_cons_succ]; rfl)))) | with_reducible apply wp_block | with_reducible apply wp_skip | with_reducible apply wp_exit | with_reducible apply wp_ret | ((with_reducible apply wp_cond_true); (focus (first | rfl | (simp [go_sem, *]; done)))) | ((with_reducible apply wp_cond_false); (focus (first | rfl | (simp [go_sem, *]; done)))) | (simp only [Exit.then, Exit.inBlock, ↓reduceIte, Nat.reduceEqDiff]))
      go_ret
      exact ⟨rfl, hR.below (by assumption), Turn.of_below (by assumption)⟩
set_option maxRecDepth 100000 in
set_option maxHeartbeats 4000000 in
theorem rmay_any (hs : s.Ok) (d : Nat) (w : World) (hR : RB w z s) : Calls Try.prog 24 #[.pointer (some ⟨z.h, 0, none⟩), .int .u8 d] w (Ret (.bool (decide (mayP s d))) (Below w.heap.size w)) := by
  obtain ⟨hB_h, hB_a, hB_b, hB_c⟩ := hR
  clear hB_c
  by_cases hd : d < 64
  case neg =>
    have e : decide (mayP s d) = false := decide_eq_false (fun h => hd h.1)
    rw [e]
    have hd2 : (63 : Int) < d := by omega
    clear hs hB_a hB_b hB_h
    go_enter Try.func24, Try.ntmps24
    have F0 : Below w.heap.size w w := Below.refl _ _
    repeat (first | with_reducible apply wpList_nil | with_reducible apply seq_region | with_reducible apply wp_region_lit | with_reducible apply wp_seq | ((with_reducible apply seq_q); (focus rfl); (focus (simp [go_sem, effAt, ↓IntWalk.iteOmega, *]; (try go_ints); (first | (with_reducible exact effUpon_val) | (with_reducible exact effUpon_skip)))); (focus ((simp only [Act.put, List.setIfInBounds_toArray, List.set_cons_zero, List.set_cons_succ]; rfl)))) | ((with_reducible apply seq_s); (focus rfl); (focus ((simp only [Act.put, List.setIfInBounds_toArray, List.set_cons_zero, List.set_cons_succ]; rfl)))) | with_reducible apply wp_block | with_reducible apply wp_skip | with_reducible apply wp_exit | with_reducible apply wp_ret | ((with_reducible apply wp_cond_true); (focus (first | rfl | (simp [go_sem, *]; done)))) | ((with_reducible apply wp_cond_false); (focus (first | rfl | (simp [go_sem, *]; done)))) | (simp only [Exit.then, Exit.inBlock, ↓reduceIte, Nat.reduceEqDiff]))
    go_ret
    exact ⟨rfl, by assumption⟩
  case pos =>
    have hd' : (d : Int) < 64 := by omega
    have hd2 : ¬ (63 : Int) < d := by omega
    have e0 := cellsB_get hs hd
    cases hrd : s.r d with
    | false =>
      have e : decide (mayP s d) = false := by simp [mayP, hrd]
      rw [e]
      rw [hrd] at e0
      clear hs hrd
      go_enter Try.func24, Try.ntmps24
      have F0 : Below w.heap.size w w := Below.refl _ _
      have hc_h := hB_h.cell
      have hc_b := hB_b.cell
      repeat (first | with_reducible apply wpList_nil | with_reducible apply seq_region | with_reducible apply wp_region_lit | with_reducible apply wp_seq | ((with_reducible apply seq_q); (focus rfl); (focus (simp [go_sem, effAt, ↓IntWalk.iteOmega, *]; (try go_ints); (first | (with_reducible exact effUpon_val) | (with_reducible exact effUpon_skip)))); (focus ((simp only [Act.put, List.setIfInBounds_toArray, List.set_cons_zero, List.set_cons_succ]; rfl)))) | ((with_reducible apply seq_s); (focus rfl); (focus ((simp only [Act.put, List.setIfInBounds_toArray, List.set_cons_zero, List.set_cons_succ]; rfl)))) | with_reducible apply wp_block | with_reducible apply wp_skip | with_reducible apply wp_exit | with_reducible apply wp_ret | ((with_reducible apply wp_cond_true); (focus (first | rfl | (simp [go_sem, *]; done)))) | ((with_reducible apply wp_cond_false); (focus (first | rfl | (simp [go_sem, *]; done)))) | (simp only [Exit.then, Exit.inBlock, ↓reduceIte, Nat.reduceEqDiff]))
      go_ret
      exact ⟨rfl, by assumption⟩
    | true =>
      rw [hrd] at e0
      obtain ⟨R, hRR⟩ : ∃ R, decide (mayP s d) = R := ⟨_, rfl⟩
      rw [hRR]
      have HM := Lib.hid hRR
      have HS := Lib.hid hs
      have HRD := Lib.hid hrd
      have e1 := cellsA_get hs z.pa hd
      clear hRR hs hrd
      go_enter Try.func24, Try.ntmps24
      have F0 : Below w.heap.size w w := Below.refl _ _
      have hc_h := hB_h.cell
      have hc_a := hB_a.cell
      have hc_b := hB_b.cell
      repeat (first | with_reducible apply wpList_nil | with_reducible apply seq_region | with_reducible apply wp_region_lit | with_reducible apply wp_seq | ((with_reducible apply seq_q); (focus rfl); (focus (simp [go_sem, effAt, ↓IntWalk.iteOmega, *]; (try go_ints); (first | (with_reducible exact effUpon_val) | (with_reducible exact effUpon_skip)))); (focus ((simp only [Act.put, List.setIfInBounds_toArray, List.set_cons_zero, List.set_cons_succ]; rfl)))) | ((with_reducible apply seq_s); (focus rfl); (focus ((simp only [Act.put, List.setIfInBounds_toArray, List.set_cons_zero, List.set_cons_succ]; rfl)))) | with_reducible apply wp_block | with_reducible apply wp_skip | with_reducible apply wp_exit | with_reducible apply wp_ret | ((with_reducible apply wp_cond_true); (focus (first | rfl | (simp [go_sem, *]; done)))) | ((with_reducible apply wp_cond_false); (focus (first | rfl | (simp [go_sem, *]; done)))) | (simp only [Exit.then, Exit.inBlock, ↓reduceIte, Nat.reduceEqDiff]))
      clear hc_h hc_a hc_b e0
      go_loopg [5] 64 (fun q v5 wr => ∃ (i : Nat), v5 = .int .i64 (i : Int) ∧ i + q = 64 ∧ lessNone s d i ∧ Below w.heap.size w wr)
      case atStart => exact ⟨0, rfl, by omega, fun e he => by omega, by assumption⟩
      case round =>
        rename_i J K hJ hK
        obtain ⟨i, rfl, hi, hle, hF⟩ := hrel
        replace hB_h := hB_h.below hF hB_h.lt
        replace hB_a := hB_a.below hF hB_a.lt
        replace hB_b := hB_b.below hF hB_b.lt
        by_cases hlt : i < 64
        case neg =>
          obtain rfl : i = 64 := by omega
          have e : R = true := by rw [← HM.out]; simp only [decide_eq_true_eq]; exact ⟨hd, HRD.out, hle⟩
          subst e
          have hlt' : ¬ ((64 : Nat) : Int) < 64 := by omega
          skip
          repeat (first | with_reducible apply wpList_nil | with_reducible apply seq_region | with_reducible apply wp_region_lit | with_reducible apply wp_seq | ((with_reducible apply seq_q); (focus rfl); (focus (simp [go_sem, effAt, ↓IntWalk.iteOmega, *]; (try go_ints); (first | (with_reducible exact effUpon_val) | (with_reducible exact effUpon_skip)))); (focus ((simp only [Act.put, List.setIfInBounds_toArray, List.set_cons_zero, List.set_cons_succ]; rfl)))) | ((with_reducible apply seq_s); (focus rfl); (focus ((simp only [Act.put, List.setIfInBounds_toArray, List.set_cons_zero, List.set_cons_succ]; rfl)))) | with_reducible apply wp_block | with_reducible apply wp_skip | with_reducible apply wp_exit | with_reducible apply wp_ret | ((with_reducible apply wp_cond_true); (focus (first | rfl | (simp [go_sem, *]; done)))) | ((with_reducible apply wp_cond_false); (focus (first | rfl | (simp [go_sem, *]; done)))) | (simp only [Exit.then, Exit.inBlock, ↓reduceIte, Nat.reduceEqDiff]))
          go_ret
          exact ⟨rfl, by assumption⟩
        case pos =>
          have hlt' : (i : Int) < 64 := by omega
          have e2 := cellsA_get HS.out z.pa hlt
          have e3 := cellsB_get HS.out hlt
          have HLE := Lib.hid hle
          clear hle
          skip
          have hc_h := hB_h.cell
          have hc_a := hB_a.cell
          have hc_b := hB_b.cell
          cases hri : s.r i with
          | false =>
            rw [hri] at e3
            repeat (first | with_reducible apply wpList_nil | with_reducible apply seq_region | with_reducible apply wp_region_lit | with_reducible apply wp_seq | ((with_reducible apply seq_q); (focus rfl); (focus (simp [go_sem, effAt, ↓IntWalk.iteOmega, *]; (try go_ints); (first | (with_reducible exact effUpon_val) | (with_reducible exact effUpon_skip)))); (focus ((simp only [Act.put, List.setIfInBounds_toArray, List.set_cons_zero, List.set_cons_succ]; rfl)))) | ((with_reducible apply seq_s); (focus rfl); (focus ((simp only [Act.put, List.setIfInBounds_toArray, List.set_cons_zero, List.set_cons_succ]; rfl)))) | with_reducible apply wp_block | with_reducible apply wp_skip | with_reducible apply wp_exit | with_reducible apply wp_ret | ((with_reducible apply wp_cond_true); (focus (first | rfl | (simp [go_sem, *]; done)))) | ((with_reducible apply wp_cond_false); (focus (first | rfl | (simp [go_sem, *]; done)))) | (simp only [Exit.then, Exit.inBlock, ↓reduceIte, Nat.reduceEqDiff]))
            refine wp_region_pure (E := fun i => [].contains i) (by kernel_rfl) (by kernel_rfl) ?_
            repeat (first | ((with_reducible apply lex_q); (focus rfl); (focus rfl); (focus (intro w' hS; have hc_h := (hB_h.below hS hB_h.lt).cell; have hc_a := (hB_a.below hS hB_a.lt).cell; have hc_b := (hB_b.below hS hB_b.lt).cell; simp [go_sem, effAt, ↓IntWalk.iteOmega, *]; (try go_ints); (first | (with_reducible exact effUpon_val) | (with_reducible exact effUpon_skip)))); (focus ((simp only [Act.put, List.setIfInBounds_toArray, List.set_cons_zero, List.set_cons_succ]; rfl)))) | ((with_reducible apply lex_s); (focus rfl); (focus ((simp only [Act.put, List.setIfInBounds_toArray, List.set_cons_zero, List.set_cons_succ]; rfl)))))
            with_reducible apply lex_nil
            intro w1 hs
            have Fw1 := hF.trans (hs.mono hF.size)
            replace hB_h := hB_h.below hs hB_h.lt
            replace hB_a := hB_a.below hs hB_a.lt
            replace hB_b := hB_b.below hs hB_b.lt
            clear hs hF
            clear hc_h; have hc_h := hB_h.cell
            clear hc_a; have hc_a := hB_a.cell
            clear hc_b; have hc_b := hB_b.cell
            repeat (first | with_reducible apply wpList_nil | with_reducible apply seq_region | with_reducible apply wp_region_lit | with_reducible apply wp_seq | ((with_reducible apply seq_q); (focus rfl); (focus (simp [go_sem, effAt, ↓IntWalk.iteOmega, *]; (try go_ints); (first | (with_reducible exact effUpon_val) | (with_reducible exact effUpon_skip)))); (focus ((simp only [Act.put, List.setIfInBounds_toArray, List.set_cons_zero, List.set_cons_succ]; rfl)))) | ((with_reducible apply seq_s); (focus rfl); (focus ((simp only [Act.put, List.setIfInBounds_toArray, List.set_cons_zero, List.set_cons_succ]; rfl)))) | with_reducible apply wp_block | with_reducible apply wp_skip | with_reducible apply wp_exit | with_reducible apply wp_ret | ((with_reducible apply wp_cond_true); (focus (first | rfl | (simp [go_sem, *]; done)))) | ((with_reducible apply wp_cond_false); (focus (first | rfl | (simp [go_sem, *]; done)))) | (simp only [Exit.then, Exit.inBlock, ↓reduceIte, Nat.reduceEqDiff]))
            refine hK _ _ (Handed.intro (gk - 1) ?measure (hJ _ _ _ ?_))
            rotate_left
            (repeat apply Exists.intro)
            refine ⟨?rel, rfl⟩
            case rel => exact ⟨i + 1, by go_num, by omega, lessNone_step HLE.out (fun h => by rw [hri] at h; cases h), by assumption⟩
            case measure => omega
          | true =>
            rw [hri] at e3
            by_cases hcl : s.c i < s.c d
            case pos =>
              have e : R = false := by rw [← HM.out]; simp only [decide_eq_false_iff_not]; exact fun h => h.2.2 i hlt hri hcl
              subst e
              repeat (first | with_reducible apply wpList_nil | with_reducible apply seq_region | with_reducible apply wp_region_lit | with_reducible apply wp_seq | ((with_reducible apply seq_q); (focus rfl); (focus (simp [go_sem, effAt, ↓IntWalk.iteOmega, *]; (try go_ints); (first | (with_reducible exact effUpon_val) | (with_reducible exact effUpon_skip)))); (focus ((simp only [Act.put, List.setIfInBounds_toArray, List.set_cons_zero, List.set_cons_succ]; rfl)))) | ((with_reducible apply seq_s); (focus rfl); (focus ((simp only [Act.put, List.setIfInBounds_toArray, List.set_cons_zero, List.set_cons_succ]; rfl)))) | with_reducible apply wp_block | with_reducible apply wp_skip | with_reducible apply wp_exit | with_reducible apply wp_ret | ((with_reducible apply wp_cond_true); (focus (first | rfl | (simp [go_sem, *]; done)))) | ((with_reducible apply wp_cond_false); (focus (first | rfl | (simp [go_sem, *]; done)))) | (simp only [Exit.then, Exit.inBlock, ↓reduceIte, Nat.reduceEqDiff]))
              refine wp_region_pure (E := fun i => [].contains i) (by kernel_rfl) (by kernel_rfl) ?_
              repeat (first | ((with_reducible apply lex_q); (focus rfl); (focus rfl); (focus (intro w' hS; have hc_h := (hB_h.below hS hB_h.lt).cell; have hc_a := (hB_a.below hS hB_a.lt).cell; have hc_b := (hB_b.below hS hB_b.lt).cell; simp [go_sem, effAt, ↓IntWalk.iteOmega, *]; (try go_ints); (first | (with_reducible exact effUpon_val) | (with_reducible exact effUpon_skip)))); (focus ((simp only [Act.put, List.setIfInBounds_toArray, List.set_cons_zero, List.set_cons_succ]; rfl)))) | ((with_reducible apply lex_s); (focus rfl); (focus ((simp only [Act.put, List.setIfInBounds_toArray, List.set_cons_zero, List.set_cons_succ]; rfl)))))
              with_reducible apply lex_nil
              intro w2 hs
              have Fw2 := hF.trans (hs.mono hF.size)
              replace hB_h := hB_h.below hs hB_h.lt
              replace hB_a := hB_a.below hs hB_a.lt
              replace hB_b := hB_b.below hs hB_b.lt
              clear hs hF
              clear hc_h; have hc_h := hB_h.cell
              clear hc_a; have hc_a := hB_a.cell
              clear hc_b; have hc_b := hB_b.cell
              repeat (first | with_reducible apply wpList_nil | with_reducible apply seq_region | with_reducible apply wp_region_lit | with_reducible apply wp_seq | ((with_reducible apply seq_q); (focus rfl); (focus (simp [go_sem, effAt, ↓IntWalk.iteOmega, *]; (try go_ints); (first | (with_reducible exact effUpon_val) | (with_reducible exact effUpon_skip)))); (focus ((simp only [Act.put, List.setIfInBounds_toArray, List.set_cons_zero, List.set_cons_succ]; rfl)))) | ((with_reducible apply seq_s); (focus rfl); (focus ((simp only [Act.put, List.setIfInBounds_toArray, List.set_cons_zero, List.set_cons_succ]; rfl)))) | with_reducible apply wp_block | with_reducible apply wp_skip | with_reducible apply wp_exit | with_reducible apply wp_ret | ((with_reducible apply wp_cond_true); (focus (first | rfl | (simp [go_sem, *]; done)))) | ((with_reducible apply wp_cond_false); (focus (first | rfl | (simp [go_sem, *]; done)))) | (simp only [Exit.then, Exit.inBlock, ↓reduceIte, Nat.reduceEqDiff]))
              go_ret
              exact ⟨rfl, by assumption⟩
            case neg =>
              repeat (first | with_reducible apply wpList_nil | with_reducible apply seq_region | with_reducible apply wp_region_lit | with_reducible apply wp_seq | ((with_reducible apply seq_q); (focus rfl); (focus (simp [go_sem, effAt, ↓IntWalk.iteOmega, *]; (try go_ints); (first | (with_reducible exact effUpon_val) | (with_reducible exact effUpon_skip)))); (focus ((simp only [Act.put, List.setIfInBounds_toArray, List.set_cons_zero, List.set_cons_succ]; rfl)))) | ((with_reducible apply seq_s); (focus rfl); (focus ((simp only [Act.put, List.setIfInBounds_toArray, List.set_cons_zero, List.set_cons_succ]; rfl)))) | with_reducible apply wp_block | with_reducible apply wp_skip | with_reducible apply wp_exit | with_reducible apply wp_ret | ((with_reducible apply wp_cond_true); (focus (first | rfl | (simp [go_sem, *]; done)))) | ((with_reducible apply wp_cond_false); (focus (first | rfl | (simp [go_sem, *]; done)))) | (simp only [Exit.then, Exit.inBlock, ↓reduceIte, Nat.reduceEqDiff]))
              refine wp_region_pure (E := fun i => [].contains i) (by kernel_rfl) (by kernel_rfl) ?_
              repeat (first | ((with_reducible apply lex_q); (focus rfl); (focus rfl); (focus (intro w' hS; have hc_h := (hB_h.below hS hB_h.lt).cell; have hc_a := (hB_a.below hS hB_a.lt).cell; have hc_b := (hB_b.below hS hB_b.lt).cell; simp [go_sem, effAt, ↓IntWalk.iteOmega, *]; (try go_ints); (first | (with_reducible exact effUpon_val) | (with_reducible exact effUpon_skip)))); (focus ((simp only [Act.put, List.setIfInBounds_toArray, List.set_cons_zero, List.set_cons_succ]; rfl)))) | ((with_reducible apply lex_s); (focus rfl); (focus ((simp only [Act.put, List.setIfInBounds_toArray, List.set_cons_zero, List.set_cons_succ]; rfl)))))
              with_reducible apply lex_nil
              intro w3 hs
              have Fw3 := hF.trans (hs.mono hF.size)
              replace hB_h := hB_h.below hs hB_h.lt
              replace hB_a := hB_a.below hs hB_a.lt
              replace hB_b := hB_b.below hs hB_b.lt
              clear hs hF
              clear hc_h; have hc_h := hB_h.cell
              clear hc_a; have hc_a := hB_a.cell
              clear hc_b; have hc_b := hB_b.cell
              repeat (first | with_reducible apply wpList_nil | with_reducible apply seq_region | with_reducible apply wp_region_lit | with_reducible apply wp_seq | ((with_reducible apply seq_q); (focus rfl); (focus (simp [go_sem, effAt, ↓IntWalk.iteOmega, *]; (try go_ints); (first | (with_reducible exact effUpon_val) | (with_reducible exact effUpon_skip)))); (focus ((simp only [Act.put, List.setIfInBounds_toArray, List.set_cons_zero, List.set_cons_succ]; rfl)))) | ((with_reducible apply seq_s); (focus rfl); (focus ((simp only [Act.put, List.setIfInBounds_toArray, List.set_cons_zero, List.set_cons_succ]; rfl)))) | with_reducible apply wp_block | with_reducible apply wp_skip | with_reducible apply wp_exit | with_reducible apply wp_ret | ((with_reducible apply wp_cond_true); (focus (first | rfl | (simp [go_sem, *]; done)))) | ((with_reducible apply wp_cond_false); (focus (first | rfl | (simp [go_sem, *]; done)))) | (simp only [Exit.then, Exit.inBlock, ↓reduceIte, Nat.reduceEqDiff]))
              refine hK _ _ (Handed.intro (gk - 1) ?measure (hJ _ _ _ ?_))
              rotate_left
              (repeat apply Exists.intro)
              refine ⟨?rel, rfl⟩
              case rel => exact ⟨i + 1, by go_num, by omega, lessNone_step HLE.out (fun _ => hcl), by assumption⟩
              case measure => omega
theorem rtake_any (hs : s.Ok) (hz : z.Ok B) (d : Nat) (w : World) (hR : RB w z s) : Calls Try.prog 22 #[.pointer (some ⟨z.h, 0, none⟩), .int .u8 d] w (Ret (.bool (decide (mayP s d))) fun w' => RB w' z (if mayP s d then s.take d else s) ∧ Turn (TR z w) w w') := by
  have hM := rmay_any (z := z) hs d
  by_cases hm : mayP s d
  case pos =>
    have hd := hm.1
    have hd' : (d : Int) < 64 := by omega
    rw [if_pos hm]
    rw [decide_eq_true hm] at hM ⊢
    have e1 := cellsA_get hs z.pa hd
    have hcb := hs.clr d hd
    have e2 := cellsL_take hs z.pc hd
    have e3 := cellsL_get hs z.pc (d := (s.c d).toNat) (by omega)
    have hc1 := hcb.1
    have hc2 := hcb.2
    have HZ := Lib.hid hz
    have hMx := hM w hR
    obtain ⟨hB_h, hB_a, hB_b, hB_c⟩ := hR
    clear hm hs hcb hz hM
    go_enter Try.func22, Try.ntmps22
    have F0 : Turn (fun i => i = z.c ∨ w.heap.size ≤ i) w w := Turn.refl _
    have hc_h := hB_h.cell
    have hc_a := hB_a.cell
    have hc_b := hB_b.cell
    have hc_c := hB_c.cell
    repeat (first | with_reducible apply wpList_nil | with_reducible apply seq_region | with_reducible apply wp_region_lit | with_reducible apply wp_seq | ((with_reducible apply seq_q); (focus rfl); (focus (simp [go_sem, effAt, ↓IntWalk.iteOmega, *]; (try go_ints); (first | (with_reducible exact effUpon_val) | (with_reducible exact effUpon_skip)))); (focus ((simp only [Act.put, List.setIfInBounds_toArray, List.set_cons_zero, List.set_cons_succ]; rfl)))) | ((with_reducible apply seq_s); (focus rfl); (focus ((simp only [Act.put, List.setIfInBounds_toArray, List.set_cons_zero, List.set_cons_succ]; rfl)))) | with_reducible apply wp_block | with_reducible apply wp_skip | with_reducible apply wp_exit | with_reducible apply wp_ret | ((with_reducible apply wp_cond_true); (focus (first | rfl | (simp [go_sem, *]; done)))) | ((with_reducible apply wp_cond_false); (focus (first | rfl | (simp [go_sem, *]; done)))) | (simp only [Exit.then, Exit.inBlock, ↓reduceIte, Nat.reduceEqDiff]))
    ((with_reducible apply seq_e (Below w.heap.size w)); (focus rfl); (focus (simp only [effAt]; simp [go_sem]; (with_reducible exact effUpon_enter (hMx)))); (focus ((simp only [Act.put, List.setIfInBounds_toArray, List.set_cons_zero, List.set_cons_succ]; rfl))))
    intro w1 hs
    have Fw1 := F0.trans (Turn.of_below hs)
    replace hB_h := hB_h.below hs hB_h.lt
    replace hB_a := hB_a.below hs hB_a.lt
    replace hB_b := hB_b.below hs hB_b.lt
    replace hB_c := hB_c.below hs hB_c.lt
    clear hs F0
    clear hc_h; have hc_h := hB_h.cell
    clear hc_a; have hc_a := hB_a.cell
    clear hc_b; have hc_b := hB_b.cell
    clear hc_c; have hc_c := hB_c.cell
    clear hMx
    repeat (first | with_reducible apply wpList_nil | with_reducible apply seq_region | with_reducible apply wp_region_lit | with_reducible apply wp_seq | ((with_reducible apply seq_q); (focus rfl); (focus (simp [go_sem, effAt, ↓IntWalk.iteOmega, *]; (try go_ints); (first | (with_reducible exact effUpon_val) | (with_reducible exact effUpon_skip)))); (focus ((simp only [Act.put, List.setIfInBounds_toArray, List.set_cons_zero, List.set_cons_succ]; rfl)))) | ((with_reducible apply seq_s); (focus rfl); (focus ((simp only [Act.put, List.setIfInBounds_toArray, List.set_cons_zero, List.set_cons_succ]; rfl)))) | with_reducible apply wp_block | with_reducible apply wp_skip | with_reducible apply wp_exit | with_reducible apply wp_ret | ((with_reducible apply wp_cond_true); (focus (first | rfl | (simp [go_sem, *]; done)))) | ((with_reducible apply wp_cond_false); (focus (first | rfl | (simp [go_sem, *]; done)))) | (simp only [Exit.then, Exit.inBlock, ↓reduceIte, Nat.reduceEqDiff]))
    refine wp_region_tail 14 (by kernel_rfl) (by kernel_rfl) ?_
    simp only [List.take_succ_cons, List.take_zero, List.drop_succ_cons, List.drop_zero]
    generalize hww2 : World.drew w1 = w2
    have hs : Below w1.heap.size w1 w2 := hww2 ▸ (Below.refl _ _).drew
    clear hww2
    have Fw2 := Fw1.trans (Turn.of_below hs)
    replace hB_h := hB_h.below hs hB_h.lt
    replace hB_a := hB_a.below hs hB_a.lt
    replace hB_b := hB_b.below hs hB_b.lt
    replace hB_c := hB_c.below hs hB_c.lt
    clear hs Fw1
    clear hc_h; have hc_h := hB_h.cell
    clear hc_a; have hc_a := hB_a.cell
    clear hc_b; have hc_b := hB_b.cell
    clear hc_c; have hc_c := hB_c.cell
    repeat (first | ((with_reducible apply still_q); (focus rfl); (focus (simp [go_sem, stAt, ↓IntWalk.iteOmega, *]; (try go_ints); (first | (with_reducible exact stUpon_val) | (with_reducible exact stUpon_skip)))); (focus ((simp only [Act.put, List.setIfInBounds_toArray, List.set_cons_zero, List.set_cons_succ]; rfl)))) | ((with_reducible apply still_s); (focus rfl); (focus ((simp only [Act.put, List.setIfInBounds_toArray, List.set_cons_zero, List.set_cons_succ]; rfl)))))
    with_reducible refine wpStill_nil ?_
    have hf_c := hB_c.frozen
    with_reducible apply seq_e (fun w' => Blk w' z.c 3 (cellsL (s.take d) z.pc) ∧ w2.grownBy w' (some z.c))
    (focus (first | exact wanted_none rfl | exact wanted_yes rfl rfl rfl))
    (focus (simp [go_sem, effAt, *]; exact ⟨rfl, by have h := hB_c.set_ (s.c d).toNat (.int .i64 d); rw [e2] at h; exact h, grown_set (World.grownBy.refl _ _)⟩))
    (simp only [Act.put, List.setIfInBounds_toArray, List.set_cons_zero, List.set_cons_succ]; rfl)
    rintro u ⟨hP, hg2⟩
    have z1 := HZ.out
    have hR' : RB u z (s.take d) := ⟨hB_h.grown hg2 (fun e => z1.hc (by injection e)), hB_a.grown hg2 (fun e => z1.ac (by injection e)), hB_b.grown hg2 (fun e => z1.bc (by injection e)), hP⟩
    have hT : Turn (TR z w) w u := (Fw2.trans (Turn.of_grown hg2 (.inl rfl))).mono (fun i h => by rcases h with h | h; exact .inr (.inr (.inl h)); exact .inr (.inr (.inr h)))
    clear hg2 hB_h hB_a hB_b hB_c hc_h hc_a hc_b hc_c hP hf_c z1
    repeat (first | with_reducible apply wpList_nil | with_reducible apply seq_region | with_reducible apply wp_region_lit | with_reducible apply wp_seq | ((with_reducible apply seq_q); (focus rfl); (focus (simp [go_sem, effAt, ↓IntWalk.iteOmega, *]; (try go_ints); (first | (with_reducible exact effUpon_val) | (with_reducible exact effUpon_skip)))); (focus ((simp only [Act.put, List.setIfInBounds_toArray, List.set_cons_zero, List.set_cons_succ]; rfl)))) | ((with_reducible apply seq_s); (focus rfl); (focus ((simp only [Act.put, List.setIfInBounds_toArray, List.set_cons_zero, List.set_cons_succ]; rfl)))) | with_reducible apply wp_block | with_reducible apply wp_skip | with_reducible apply wp_exit | with_reducible apply wp_ret | ((with_reducible apply wp_cond_true); (focus (first | rfl | (simp [go_sem, *]; done)))) | ((with_reducible apply wp_cond_false); (focus (first | rfl | (simp [go_sem, *]; done)))) | (simp only [Exit.then, Exit.inBlock, ↓reduceIte, Nat.reduceEqDiff]))
    go_ret
    exact ⟨rfl, hR', hT⟩
  case neg =>
    rw [if_neg hm]
    rw [decide_eq_false hm] at hM ⊢
    have hMx := hM w hR
    clear hm hs hz hM
    go_enter Try.func22, Try.ntmps22
    have F0 : Below w.heap.size w w := Below.refl _ _
    repeat (first | with_reducible apply wpList_nil | with_reducible apply seq_region | with_reducible apply wp_region_lit | with_reducible apply wp_seq | ((with_reducible apply seq_q); (focus rfl); (focus (simp [go_sem, effAt, ↓IntWalk.iteOmega, *]; (try go_ints); (first | (with_reducible exact effUpon_val) | (with_reducible exact effUpon_skip)))); (focus ((simp only [Act.put, List.setIfInBounds_toArray, List.set_cons_zero, List.set_cons_succ]; rfl)))) | ((with_reducible apply seq_s); (focus rfl); (focus ((simp only [Act.put, List.setIfInBounds_toArray, List.set_cons_zero, List.set_cons_succ]; rfl)))) | with_reducible apply wp_block | with_reducible apply wp_skip | with_reducible apply wp_exit | with_reducible apply wp_ret | ((with_reducible apply wp_cond_true); (focus (first | rfl | (simp [go_sem, *]; done)))) | ((with_reducible apply wp_cond_false); (focus (first | rfl | (simp [go_sem, *]; done)))) | (simp only [Exit.then, Exit.inBlock, ↓reduceIte, Nat.reduceEqDiff]))
    ((with_reducible apply seq_e (Below w.heap.size w)); (focus rfl); (focus (simp only [effAt]; simp [go_sem]; (with_reducible exact effUpon_enter (hMx)))); (focus ((simp only [Act.put, List.setIfInBounds_toArray, List.set_cons_zero, List.set_cons_succ]; rfl))))
    intro w3 hs
    have Fw3 := F0.trans (hs.mono F0.size)
    clear hs F0
    repeat (first | with_reducible apply wpList_nil | with_reducible apply seq_region | with_reducible apply wp_region_lit | with_reducible apply wp_seq | ((with_reducible apply seq_q); (focus rfl); (focus (simp [go_sem, effAt, ↓IntWalk.iteOmega, *]; (try go_ints); (first | (with_reducible exact effUpon_val) | (with_reducible exact effUpon_skip)))); (focus ((simp only [Act.put, List.setIfInBounds_toArray, List.set_cons_zero, List.set_cons_succ]; rfl)))) | ((with_reducible apply seq_s); (focus rfl); (focus ((simp only [Act.put, List.setIfInBounds_toArray, List.set_cons_zero, List.set_cons_succ]; rfl)))) | with_reducible apply wp_block | with_reducible apply wp_skip | with_reducible apply wp_exit | with_reducible apply wp_ret | ((with_reducible apply wp_cond_true); (focus (first | rfl | (simp [go_sem, *]; done)))) | ((with_reducible apply wp_cond_false); (focus (first | rfl | (simp [go_sem, *]; done)))) | (simp only [Exit.then, Exit.inBlock, ↓reduceIte, Nat.reduceEqDiff]))
    go_ret
    exact ⟨rfl, hR.below (by assumption), Turn.of_below (by assumption)⟩
end
end Go.Proofs.Ytminenipklgbcaa
