/- The walk of same. -/
import Derived.Test.YtckjgdlceckhpaaW11
set_option linter.unusedSimpArgs false
set_option linter.unusedVariables false
namespace Go.Proofs.Ytckjgdlceckhpaa
open Go.RowKit Go.Eff
attribute [local irreducible] Go.wpList
/-- a row of octets, or nil -/
def Octs (w : World) (v : Value) (zs : List Int) : Prop := (v = .slice none 0 0 ∧ zs = []) ∨ ∃ g cap pad, v = .slice (some ⟨g, 0, none⟩) zs.length cap ∧ SB w g pad zs.toArray
theorem DueR.octs {base : Nat} {w : World} {v : Value} {ds : List Nat} (h : DueR base w v ds) : Octs w v (ds.map fun (k : Nat) => (k : Int)) := by
  rcases h with ⟨h1, h2⟩ | ⟨g, cap, pad, h1, h2, h3⟩
  · exact .inl ⟨h1, by rw [h2]; rfl⟩
  · exact .inr ⟨g, cap, pad, by rw [List.length_map]; exact h1, h3⟩
theorem Octs.below {w w' : World} {v : Value} {zs : List Int} (h : Octs w v zs) (hb : Below w.heap.size w w') : Octs w' v zs := by
  rcases h with h | ⟨g, cap, pad, h1, h3⟩
  · exact .inl h
  · exact .inr ⟨g, cap, pad, h1, h3.below hb h3.lt⟩
theorem octs_slice {w : World} {v : Value} {zs : List Int} (h : Octs w v zs) : ∃ ao c, v = .slice ao zs.length c ∧ ∀ i, i < zs.length → ∃ g pad, ao = some ⟨g, 0, none⟩ ∧ SB w g pad zs.toArray := by
  rcases h with ⟨h1, h2⟩ | ⟨g, cap, pad, h1, h3⟩
  · exact ⟨none, 0, by rw [h1, h2]; rfl, fun i hi => by rw [h2] at hi; simp at hi⟩
  · exact ⟨_, _, h1, fun i hi => ⟨g, pad, rfl, h3⟩⟩
theorem same_yes {w : World} {va vb : Value} {zs : List Int} (ha : Octs w va zs) (hb : Octs w vb zs) (hz : zs.length ≤ 1000) : Calls Try.prog 17 #[va, vb] w (Ret (.bool true) (Below w.heap.size w)) := by
  obtain ⟨ao, ca, rfl, h1⟩ := octs_slice ha
  obtain ⟨bo, cb, rfl, h2⟩ := octs_slice hb
  obtain ⟨n, hn⟩ : ∃ n, zs.length = n := ⟨_, rfl⟩
  rw [hn] at hz h1 h2 ⊢
  have H1 := Lib.hid h1
  have H2 := Lib.hid h2
  have HN := Lib.hid hn
  have b1 : (n : Int) ≤ 1000 := by omega
  clear h1 h2 ha hb hn
  go_enter Try.func17, Try.ntmps17
  have F0 : Below w.heap.size w w := Below.refl _ _
  repeat (first | with_reducible apply wpList_nil | with_reducible apply seq_region | with_reducible apply wp_region_lit | with_reducible apply wp_seq | ((with_reducible apply seq_q); (focus rfl); (focus (simp [go_sem, effAt, ↓IntWalk.iteOmega, *]; (try go_ints); (first | (with_reducible exact effUpon_val) | (with_reducible exact effUpon_skip)))); (focus ((simp only [Act.put, List.setIfInBounds_toArray, List.set_cons_zero, List.set_cons_succ]; rfl)))) | ((with_reducible apply seq_s); (focus rfl); (focus ((simp only [Act.put, List.setIfInBounds_toArray, List.set_cons_zero, List.set_cons_succ]; rfl)))) | with_reducible apply wp_block | with_reducible apply wp_skip | with_reducible apply wp_exit | with_reducible apply wp_ret | ((with_reducible apply wp_cond_true); (focus (first | rfl | (simp [go_sem, *]; done)))) | ((with_reducible apply wp_cond_false); (focus (first | rfl | (simp [go_sem, *]; done)))) | (simp only [Exit.then, Exit.inBlock, ↓reduceIte, Nat.reduceEqDiff]))
  go_loopg [5] n (fun q v5 wr => ∃ i : Nat, v5 = .int .i64 (i : Int) ∧ i + q = n ∧ Below w.heap.size w wr)
  case atStart => exact ⟨0, rfl, by omega, Below.refl _ _⟩
  case round =>
    rename_i J K hJ hK
    clear F0
    obtain ⟨i, rfl, hi, hb⟩ := hrel
    by_cases hlt : i < n
    case neg =>
      have hlt' : ¬ (i : Int) < (n : Int) := by omega
      clear hJ hK
      skip
      have Fwr : Below wr.heap.size wr wr := Below.refl _ _
      repeat (first | with_reducible apply wpList_nil | with_reducible apply seq_region | with_reducible apply wp_region_lit | with_reducible apply wp_seq | ((with_reducible apply seq_q); (focus rfl); (focus (simp [go_sem, effAt, ↓IntWalk.iteOmega, *]; (try go_ints); (first | (with_reducible exact effUpon_val) | (with_reducible exact effUpon_skip)))); (focus ((simp only [Act.put, List.setIfInBounds_toArray, List.set_cons_zero, List.set_cons_succ]; rfl)))) | ((with_reducible apply seq_s); (focus rfl); (focus ((simp only [Act.put, List.setIfInBounds_toArray, List.set_cons_zero, List.set_cons_succ]; rfl)))) | with_reducible apply wp_block | with_reducible apply wp_skip | with_reducible apply wp_exit | with_reducible apply wp_ret | ((with_reducible apply wp_cond_true); (focus (first | rfl | (simp [go_sem, *]; done)))) | ((with_reducible apply wp_cond_false); (focus (first | rfl | (simp [go_sem, *]; done)))) | (simp only [Exit.then, Exit.inBlock, ↓reduceIte, Nat.reduceEqDiff]))
      go_ret
      exact ⟨rfl, hb⟩
    case pos =>
      have hlt' : (i : Int) < (n : Int) := by omega
      obtain ⟨g, pad, rfl, hB_a⟩ := H1.out i hlt
      obtain ⟨g2, pad2, rfl, hB_b⟩ := H2.out i hlt
      replace hB_a := hB_a.below hb hB_a.lt
      replace hB_b := hB_b.below hb hB_b.lt
      obtain ⟨x, hx⟩ : ∃ x, zs.toArray[i]! = x := ⟨_, rfl⟩
      have e1 := cellsS_get pad (show i < zs.toArray.size by have := HN.out; simp; omega) hx
      have e2 := cellsS_get pad2 (show i < zs.toArray.size by have := HN.out; simp; omega) hx
      clear hx
      generalize zs.toArray = d at *
      skip
      have Fwr : Below wr.heap.size wr wr := Below.refl _ _
      have hc_a := hB_a.cell
      have hc_b := hB_b.cell
      repeat (first | with_reducible apply wpList_nil | with_reducible apply seq_region | with_reducible apply wp_region_lit | with_reducible apply wp_seq | ((with_reducible apply seq_q); (focus rfl); (focus (simp [go_sem, effAt, ↓IntWalk.iteOmega, *]; (try go_ints); (first | (with_reducible exact effUpon_val) | (with_reducible exact effUpon_skip)))); (focus ((simp only [Act.put, List.setIfInBounds_toArray, List.set_cons_zero, List.set_cons_succ]; rfl)))) | ((with_reducible apply seq_s); (focus rfl); (focus ((simp only [Act.put, List.setIfInBounds_toArray, List.set_cons_zero, List.set_cons_succ]; rfl)))) | with_reducible apply wp_block | with_reducible apply wp_skip | with_reducible apply wp_exit | with_reducible apply wp_ret | ((with_reducible apply wp_cond_true); (focus (first | rfl | (simp [go_sem, *]; done)))) | ((with_reducible apply wp_cond_false); (focus (first | rfl | (simp [go_sem, *]; done)))) | (simp only [Exit.then, Exit.inBlock, ↓reduceIte, Nat.reduceEqDiff]))
      refine wp_region_pure (E := fun i => [].contains i) (by kernel_rfl) (by kernel_rfl) ?_
      repeat (first | ((with_reducible apply lex_q); (focus rfl); (focus rfl); (focus (intro w' hS; have hc_a := (hB_a.below hS hB_a.lt).cell; have hc_b := (hB_b.below hS hB_b.lt).cell; simp [go_sem, effAt, ↓IntWalk.iteOmega, *]; (try go_ints); (first | (with_reducible exact effUpon_val) | (with_reducible exact effUpon_skip)))); (focus ((simp only [Act.put, List.setIfInBounds_toArray, List.set_cons_zero, List.set_cons_succ]; rfl)))) | ((with_reducible apply lex_s); (focus rfl); (focus ((simp only [Act.put, List.setIfInBounds_toArray, List.set_cons_zero, List.set_cons_succ]; rfl)))))
      with_reducible apply lex_nil
      intro w1 hs
      have Fw1 := Fwr.trans (hs.mono Fwr.size)
      replace hB_a := hB_a.below hs hB_a.lt
      replace hB_b := hB_b.below hs hB_b.lt
      clear hs Fwr
      clear hc_a; have hc_a := hB_a.cell
      clear hc_b; have hc_b := hB_b.cell
      repeat (first | with_reducible apply wpList_nil | with_reducible apply seq_region | with_reducible apply wp_region_lit | with_reducible apply wp_seq | ((with_reducible apply seq_q); (focus rfl); (focus (simp [go_sem, effAt, ↓IntWalk.iteOmega, *]; (try go_ints); (first | (with_reducible exact effUpon_val) | (with_reducible exact effUpon_skip)))); (focus ((simp only [Act.put, List.setIfInBounds_toArray, List.set_cons_zero, List.set_cons_succ]; rfl)))) | ((with_reducible apply seq_s); (focus rfl); (focus ((simp only [Act.put, List.setIfInBounds_toArray, List.set_cons_zero, List.set_cons_succ]; rfl)))) | with_reducible apply wp_block | with_reducible apply wp_skip | with_reducible apply wp_exit | with_reducible apply wp_ret | ((with_reducible apply wp_cond_true); (focus (first | rfl | (simp [go_sem, *]; done)))) | ((with_reducible apply wp_cond_false); (focus (first | rfl | (simp [go_sem, *]; done)))) | (simp only [Exit.then, Exit.inBlock, ↓reduceIte, Nat.reduceEqDiff]))
      refine hK _ _ (Handed.intro (gk - 1) ?measure (hJ _ _ _ ?_))
      rotate_left
      (repeat apply Exists.intro)
      refine ⟨?rel, rfl⟩
      case rel => exact ⟨i + 1, by go_num, by omega, hb.trans (Below.mono Fw1 hb.size)⟩
      case measure => omega
end Go.Proofs.Ytckjgdlceckhpaa
