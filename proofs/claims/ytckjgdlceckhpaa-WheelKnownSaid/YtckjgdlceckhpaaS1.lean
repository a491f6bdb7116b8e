/- The walk of insertionSortOrdered[uint8]. -/
import Derived.Test.YtckjgdlceckhpaaS0
set_option linter.unusedSimpArgs false
set_option linter.unusedVariables false
namespace Go.Proofs.Ytckjgdlceckhpaa
open Go.RowKit Go.Eff
open Go.Sort (swp ltInt insInner insOuter insertionSort)
attribute [local irreducible] Go.wpList
theorem insOuter_go {lt : Int → Int → Bool} {a b i : Nat} {d : Array Int} (h : i < b) : insOuter lt a b i d = insOuter lt a b (i + 1) (insInner lt a i d) := by
  rw [insOuter, if_pos h]
theorem insOuter_end {lt : Int → Int → Bool} {a b i : Nat} {d : Array Int} (h : ¬ i < b) : insOuter lt a b i d = d := by
  rw [insOuter, if_neg h]
theorem insInner_go {lt : Int → Int → Bool} {a k : Nat} {d : Array Int} (h : a < k + 1) (hl : lt d[k + 1]! d[k]! = true) : insInner lt a (k + 1) d = insInner lt a k (swp d (k + 1) k) := by
  rw [insInner, if_pos (by simp [hl]; omega)]
theorem insInner_end {lt : Int → Int → Bool} {a k : Nat} {d : Array Int} (hl : lt d[k + 1]! d[k]! = false) : insInner lt a (k + 1) d = d := by
  rw [insInner, if_neg (by simp [hl])]
theorem insInner_low {lt : Int → Int → Bool} {a j : Nat} {d : Array Int} (h : ¬ a < j) : insInner lt a j d = d := by
  cases j with
  | zero => rfl
  | succ j => rw [insInner, if_neg (by simp; omega)]
set_option maxRecDepth 100000 in
set_option maxHeartbeats 4000000 in
theorem ins_any (g cap a b : Nat) (pad : List Value) (d : Array Int) (w : World) (hB_d : SB w g pad d) (hab : a ≤ b) (hb : b ≤ d.size) (hsz : d.size ≤ 1000) :
    Calls Try.prog 27 #[.slice (some ⟨g, 0, none⟩) d.size cap, .int .i64 a, .int .i64 b] w (Ret (.tuple #[]) fun w' => SB w' g pad (insertionSort ltInt d a b) ∧ w.grownBy w' (some g)) := by
  obtain ⟨n, hn⟩ : ∃ n, d.size = n := ⟨_, rfl⟩
  obtain ⟨R, hR⟩ : ∃ R, insertionSort ltInt d a b = R := ⟨_, rfl⟩
  have hR0 : insOuter ltInt a b (a + 1) d = R := hR
  rw [hR]
  rw [hn] at hb hsz ⊢
  have HN := Lib.hid hn
  clear hR hn
  go_enter Try.func27, Try.ntmps27
  have F0 : Below w.heap.size w w := Below.refl _ _
  repeat (first | with_reducible apply wpList_nil | with_reducible apply seq_region | with_reducible apply wp_region_lit | with_reducible apply wp_seq | ((with_reducible apply seq_q); (focus rfl); (focus (simp [go_sem, effAt, ↓IntWalk.iteOmega, *]; (try go_ints); (first | (with_reducible exact effUpon_val) | (with_reducible exact effUpon_skip)))); (focus ((simp only [Act.put, List.setIfInBounds_toArray, List.set_cons_zero, List.set_cons_succ]; rfl)))) | ((with_reducible apply seq_s); (focus rfl); (focus ((simp only [Act.put, List.setIfInBounds_toArray, List.set_cons_zero, List.set_cons_succ]; rfl)))) | with_reducible apply wp_block | with_reducible apply wp_skip | with_reducible apply wp_exit | with_reducible apply wp_ret | ((with_reducible apply wp_cond_true); (focus (first | rfl | (simp [go_sem, *]; done)))) | ((with_reducible apply wp_cond_false); (focus (first | rfl | (simp [go_sem, *]; done)))) | (simp only [Exit.then, Exit.inBlock, ↓reduceIte, Nat.reduceEqDiff]))
  have hnI : (n : Int) ≤ 1000 := by omega
  have hbI : (b : Int) ≤ (n : Int) := by omega
  go_loopg [6] (b - (a + 1)) (fun q v6 wr => ∃ (i : Nat) (dk : Array Int), v6 = .int .i64 (i : Int) ∧ a + 1 ≤ i ∧ i ≤ b + 1 ∧ b ≤ i + q ∧ dk.size = n ∧ insOuter ltInt a b i dk = R ∧ SB wr g pad dk ∧ w.grownBy wr (some g))
  case atStart => exact ⟨a + 1, d, by go_num, by omega, by omega, by omega, HN.out, hR0, hB_d, World.grownBy.refl _ _⟩
  case round =>
    rename_i J K hJ hK
    clear hR0 F0 hB_d
    obtain ⟨i, dk, rfl, hi1, hi2, hi3, hdk, hR, hB_d, hG⟩ := hrel
    have HD := Lib.hid hdk
    clear hdk
    by_cases hlt : i < b
    case neg =>
      have hlt' : ¬ (i : Int) < (b : Int) := by omega
      rw [insOuter_end hlt] at hR
      subst hR
      clear hJ hK
      skip
      have Fwr : Below wr.heap.size wr wr := Below.refl _ _
      repeat (first | with_reducible apply wpList_nil | with_reducible apply seq_region | with_reducible apply wp_region_lit | with_reducible apply wp_seq | ((with_reducible apply seq_q); (focus rfl); (focus (simp [go_sem, effAt, ↓IntWalk.iteOmega, *]; (try go_ints); (first | (with_reducible exact effUpon_val) | (with_reducible exact effUpon_skip)))); (focus ((simp only [Act.put, List.setIfInBounds_toArray, List.set_cons_zero, List.set_cons_succ]; rfl)))) | ((with_reducible apply seq_s); (focus rfl); (focus ((simp only [Act.put, List.setIfInBounds_toArray, List.set_cons_zero, List.set_cons_succ]; rfl)))) | with_reducible apply wp_block | with_reducible apply wp_skip | with_reducible apply wp_exit | with_reducible apply wp_ret | ((with_reducible apply wp_cond_true); (focus (first | rfl | (simp [go_sem, *]; done)))) | ((with_reducible apply wp_cond_false); (focus (first | rfl | (simp [go_sem, *]; done)))) | (simp only [Exit.then, Exit.inBlock, ↓reduceIte, Nat.reduceEqDiff]))
      refine bodyPost_end (results_none rfl _ _ _) rfl ⟨rfl, hB_d, hG⟩
    case pos =>
      have hlt' : (i : Int) < (b : Int) := by omega
      rw [insOuter_go hlt] at hR
      skip
      have Fwr : Below wr.heap.size wr wr := Below.refl _ _
      repeat (first | with_reducible apply wpList_nil | with_reducible apply seq_region | with_reducible apply wp_region_lit | with_reducible apply wp_seq | ((with_reducible apply seq_q); (focus rfl); (focus (simp [go_sem, effAt, ↓IntWalk.iteOmega, *]; (try go_ints); (first | (with_reducible exact effUpon_val) | (with_reducible exact effUpon_skip)))); (focus ((simp only [Act.put, List.setIfInBounds_toArray, List.set_cons_zero, List.set_cons_succ]; rfl)))) | ((with_reducible apply seq_s); (focus rfl); (focus ((simp only [Act.put, List.setIfInBounds_toArray, List.set_cons_zero, List.set_cons_succ]; rfl)))) | with_reducible apply wp_block | with_reducible apply wp_skip | with_reducible apply wp_exit | with_reducible apply wp_ret | ((with_reducible apply wp_cond_true); (focus (first | rfl | (simp [go_sem, *]; done)))) | ((with_reducible apply wp_cond_false); (focus (first | rfl | (simp [go_sem, *]; done)))) | (simp only [Exit.then, Exit.inBlock, ↓reduceIte, Nat.reduceEqDiff]))
      go_loopg [7] i (fun q v7 wr => ∃ (j : Nat) (dj : Array Int), v7 = .int .i64 (j : Int) ∧ j ≤ q ∧ a ≤ j ∧ j ≤ i ∧ dj.size = n ∧ insOuter ltInt a b (i + 1) (insInner ltInt a j dj) = R ∧ SB wr g pad dj ∧ w.grownBy wr (some g))
      case atStart => exact ⟨i, dk, rfl, Nat.le_refl _, by omega, Nat.le_refl _, HD.out, hR, hB_d, hG⟩
      case round =>
        rename_i J2 K2 hJ2 hK2
        clear hR hB_d hG
        obtain ⟨j, dj, rfl, hjq, haj, hji, hdj, hR, hB_d, hG⟩ := hrel
        have HD := Lib.hid hdj
        by_cases hja : a < j
        case neg =>
          have hja' : ¬ (a : Int) < (j : Int) := by omega
          rw [insInner_low hja] at hR
          clear hJ2 hK2 hdj
          skip
          have Fwr : Below wr.heap.size wr wr := Below.refl _ _
          repeat (first | with_reducible apply wpList_nil | with_reducible apply seq_region | with_reducible apply wp_region_lit | with_reducible apply wp_seq | ((with_reducible apply seq_q); (focus rfl); (focus (simp [go_sem, effAt, ↓IntWalk.iteOmega, *]; (try go_ints); (first | (with_reducible exact effUpon_val) | (with_reducible exact effUpon_skip)))); (focus ((simp only [Act.put, List.setIfInBounds_toArray, List.set_cons_zero, List.set_cons_succ]; rfl)))) | ((with_reducible apply seq_s); (focus rfl); (focus ((simp only [Act.put, List.setIfInBounds_toArray, List.set_cons_zero, List.set_cons_succ]; rfl)))) | with_reducible apply wp_block | with_reducible apply wp_skip | with_reducible apply wp_exit | with_reducible apply wp_ret | ((with_reducible apply wp_cond_true); (focus (first | rfl | (simp [go_sem, *]; done)))) | ((with_reducible apply wp_cond_false); (focus (first | rfl | (simp [go_sem, *]; done)))) | (simp only [Exit.then, Exit.inBlock, ↓reduceIte, Nat.reduceEqDiff]))
          refine wp_region_pure (E := fun i => [13].contains i) (by kernel_rfl) (by kernel_rfl) ?_
          repeat (first | ((with_reducible apply lex_q); (focus rfl); (focus rfl); (focus (intro w' hS; simp [go_sem, effAt, ↓IntWalk.iteOmega, *]; (try go_ints); (first | (with_reducible exact effUpon_val) | (with_reducible exact effUpon_skip)))); (focus ((simp only [Act.put, List.setIfInBounds_toArray, List.set_cons_zero, List.set_cons_succ]; rfl)))) | ((with_reducible apply lex_s); (focus rfl); (focus ((simp only [Act.put, List.setIfInBounds_toArray, List.set_cons_zero, List.set_cons_succ]; rfl)))))
          with_reducible apply lex_nil
          intro w1 hs
          have Fw1 := Fwr.trans (hs.mono Fwr.size)
          clear hs Fwr
          repeat (first | with_reducible apply wpList_nil | with_reducible apply seq_region | with_reducible apply wp_region_lit | with_reducible apply wp_seq | ((with_reducible apply seq_q); (focus rfl); (focus (simp [go_sem, effAt, ↓IntWalk.iteOmega, *]; (try go_ints); (first | (with_reducible exact effUpon_val) | (with_reducible exact effUpon_skip)))); (focus ((simp only [Act.put, List.setIfInBounds_toArray, List.set_cons_zero, List.set_cons_succ]; rfl)))) | ((with_reducible apply seq_s); (focus rfl); (focus ((simp only [Act.put, List.setIfInBounds_toArray, List.set_cons_zero, List.set_cons_succ]; rfl)))) | with_reducible apply wp_block | with_reducible apply wp_skip | with_reducible apply wp_exit | with_reducible apply wp_ret | ((with_reducible apply wp_cond_true); (focus (first | rfl | (simp [go_sem, *]; done)))) | ((with_reducible apply wp_cond_false); (focus (first | rfl | (simp [go_sem, *]; done)))) | (simp only [Exit.then, Exit.inBlock, ↓reduceIte, Nat.reduceEqDiff]))
          refine hK _ _ (Handed.intro (b - (i + 1)) ?measure (hJ _ _ _ ?_))
          rotate_left
          (repeat apply Exists.intro)
          refine ⟨?rel, rfl⟩
          case rel => exact ⟨i + 1, dj, by go_num, by omega, by omega, by omega, HD.out, hR, hB_d.below (by assumption) hB_d.lt, grown_trans hG (grown_below (by assumption) _)⟩
          case measure => omega
        case pos =>
          obtain ⟨k, rfl⟩ : ∃ k, j = k + 1 := ⟨j - 1, by omega⟩
          have hja' : (a : Int) < (k : Int) + 1 := by omega
          have hk1 : (k : Int) + 1 < (n : Int) := by omega
          obtain ⟨x, hx⟩ : ∃ x, dj[k + 1]! = x := ⟨_, rfl⟩
          obtain ⟨y, hy⟩ : ∃ y, dj[k]! = y := ⟨_, rfl⟩
          have e1 := cellsS_get pad (by omega) hx
          have e2 := cellsS_get pad (by omega) hy
          have SW := Lib.hid (cellsS_swp pad (i := k + 1) (j := k) (by omega) (by omega) hx hy)
          have SZ := Lib.hid (cellsS_get2 (d := dj) pad (i := k + 1) (j := k) y (by omega) (by omega))
          have hL := less_any x y
          obtain ⟨l, hl⟩ : ∃ l, ltInt x y = l := ⟨_, rfl⟩
          rw [hl] at hL
          rw [← hx, ← hy] at hl
          have HL := Lib.hid hl
          clear hl hx hy hdj
          cases l with
          | false =>
            rw [insInner_end HL.out] at hR
            clear hJ2 hK2
            skip
            have Fwr : Below wr.heap.size wr wr := Below.refl _ _
            have hc_d := hB_d.cell
            repeat (first | with_reducible apply wpList_nil | with_reducible apply seq_region | with_reducible apply wp_region_lit | with_reducible apply wp_seq | ((with_reducible apply seq_q); (focus rfl); (focus (simp [go_sem, effAt, ↓IntWalk.iteOmega, *]; (try go_ints); (first | (with_reducible exact effUpon_val) | (with_reducible exact effUpon_skip)))); (focus ((simp only [Act.put, List.setIfInBounds_toArray, List.set_cons_zero, List.set_cons_succ]; rfl)))) | ((with_reducible apply seq_s); (focus rfl); (focus ((simp only [Act.put, List.setIfInBounds_toArray, List.set_cons_zero, List.set_cons_succ]; rfl)))) | with_reducible apply wp_block | with_reducible apply wp_skip | with_reducible apply wp_exit | with_reducible apply wp_ret | ((with_reducible apply wp_cond_true); (focus (first | rfl | (simp [go_sem, *]; done)))) | ((with_reducible apply wp_cond_false); (focus (first | rfl | (simp [go_sem, *]; done)))) | (simp only [Exit.then, Exit.inBlock, ↓reduceIte, Nat.reduceEqDiff]))
            refine wp_region_pure (E := fun i => [13].contains i) (by kernel_rfl) (by kernel_rfl) ?_
            repeat (first | ((with_reducible apply lex_q); (focus rfl); (focus rfl); (focus (intro w' hS; have hc_d := (hB_d.below hS hB_d.lt).cell; simp [go_sem, effAt, ↓IntWalk.iteOmega, *]; (try go_ints); (first | (with_reducible exact effUpon_val) | (with_reducible exact effUpon_skip)))); (focus ((simp only [Act.put, List.setIfInBounds_toArray, List.set_cons_zero, List.set_cons_succ]; rfl)))) | ((with_reducible apply lex_s); (focus rfl); (focus ((simp only [Act.put, List.setIfInBounds_toArray, List.set_cons_zero, List.set_cons_succ]; rfl)))))
            ((with_reducible apply lex_e (Below wr.heap.size wr)); (focus rfl); (focus rfl); (focus (intro w' hS; simp only [effAt]; simp [go_sem]; (with_reducible exact eff_call hS (hL _)))); (focus (exact fun _ h => h)); (focus ((simp only [Act.put, List.setIfInBounds_toArray, List.set_cons_zero, List.set_cons_succ]; rfl))))
            repeat (first | ((with_reducible apply lex_q); (focus rfl); (focus rfl); (focus (intro w' hS; have hc_d := (hB_d.below hS hB_d.lt).cell; simp [go_sem, effAt, ↓IntWalk.iteOmega, *]; (try go_ints); (first | (with_reducible exact effUpon_val) | (with_reducible exact effUpon_skip)))); (focus ((simp only [Act.put, List.setIfInBounds_toArray, List.set_cons_zero, List.set_cons_succ]; rfl)))) | ((with_reducible apply lex_s); (focus rfl); (focus ((simp only [Act.put, List.setIfInBounds_toArray, List.set_cons_zero, List.set_cons_succ]; rfl)))))
            with_reducible apply lex_nil
            intro w1 hs
            have Fw1 := Fwr.trans (hs.mono Fwr.size)
            replace hB_d := hB_d.below hs hB_d.lt
            clear hs Fwr
            clear hc_d; have hc_d := hB_d.cell
            repeat (first | with_reducible apply wpList_nil | with_reducible apply seq_region | with_reducible apply wp_region_lit | with_reducible apply wp_seq | ((with_reducible apply seq_q); (focus rfl); (focus (simp [go_sem, effAt, ↓IntWalk.iteOmega, *]; (try go_ints); (first | (with_reducible exact effUpon_val) | (with_reducible exact effUpon_skip)))); (focus ((simp only [Act.put, List.setIfInBounds_toArray, List.set_cons_zero, List.set_cons_succ]; rfl)))) | ((with_reducible apply seq_s); (focus rfl); (focus ((simp only [Act.put, List.setIfInBounds_toArray, List.set_cons_zero, List.set_cons_succ]; rfl)))) | with_reducible apply wp_block | with_reducible apply wp_skip | with_reducible apply wp_exit | with_reducible apply wp_ret | ((with_reducible apply wp_cond_true); (focus (first | rfl | (simp [go_sem, *]; done)))) | ((with_reducible apply wp_cond_false); (focus (first | rfl | (simp [go_sem, *]; done)))) | (simp only [Exit.then, Exit.inBlock, ↓reduceIte, Nat.reduceEqDiff]))
            refine hK _ _ (Handed.intro (b - (i + 1)) ?measure (hJ _ _ _ ?_))
            rotate_left
            (repeat apply Exists.intro)
            refine ⟨?rel, rfl⟩
            case rel => exact ⟨i + 1, dj, by go_num, by omega, by omega, by omega, HD.out, hR, hB_d, grown_trans hG (grown_below (by assumption) _)⟩
            case measure => omega
          | true =>
            rw [insInner_go hja HL.out] at hR
            skip
            have Fwr : Below wr.heap.size wr wr := Below.refl _ _
            have hc_d := hB_d.cell
            repeat (first | with_reducible apply wpList_nil | with_reducible apply seq_region | with_reducible apply wp_region_lit | with_reducible apply wp_seq | ((with_reducible apply seq_q); (focus rfl); (focus (simp [go_sem, effAt, ↓IntWalk.iteOmega, *]; (try go_ints); (first | (with_reducible exact effUpon_val) | (with_reducible exact effUpon_skip)))); (focus ((simp only [Act.put, List.setIfInBounds_toArray, List.set_cons_zero, List.set_cons_succ]; rfl)))) | ((with_reducible apply seq_s); (focus rfl); (focus ((simp only [Act.put, List.setIfInBounds_toArray, List.set_cons_zero, List.set_cons_succ]; rfl)))) | with_reducible apply wp_block | with_reducible apply wp_skip | with_reducible apply wp_exit | with_reducible apply wp_ret | ((with_reducible apply wp_cond_true); (focus (first | rfl | (simp [go_sem, *]; done)))) | ((with_reducible apply wp_cond_false); (focus (first | rfl | (simp [go_sem, *]; done)))) | (simp only [Exit.then, Exit.inBlock, ↓reduceIte, Nat.reduceEqDiff]))
            refine wp_region_pure (E := fun i => [13].contains i) (by kernel_rfl) (by kernel_rfl) ?_
            repeat (first | ((with_reducible apply lex_q); (focus rfl); (focus rfl); (focus (intro w' hS; have hc_d := (hB_d.below hS hB_d.lt).cell; simp [go_sem, effAt, ↓IntWalk.iteOmega, *]; (try go_ints); (first | (with_reducible exact effUpon_val) | (with_reducible exact effUpon_skip)))); (focus ((simp only [Act.put, List.setIfInBounds_toArray, List.set_cons_zero, List.set_cons_succ]; rfl)))) | ((with_reducible apply lex_s); (focus rfl); (focus ((simp only [Act.put, List.setIfInBounds_toArray, List.set_cons_zero, List.set_cons_succ]; rfl)))))
            ((with_reducible apply lex_e (Below wr.heap.size wr)); (focus rfl); (focus rfl); (focus (intro w' hS; simp only [effAt]; simp [go_sem]; (with_reducible exact eff_call hS (hL _)))); (focus (exact fun _ h => h)); (focus ((simp only [Act.put, List.setIfInBounds_toArray, List.set_cons_zero, List.set_cons_succ]; rfl))))
            repeat (first | ((with_reducible apply lex_q); (focus rfl); (focus rfl); (focus (intro w' hS; have hc_d := (hB_d.below hS hB_d.lt).cell; simp [go_sem, effAt, ↓IntWalk.iteOmega, *]; (try go_ints); (first | (with_reducible exact effUpon_val) | (with_reducible exact effUpon_skip)))); (focus ((simp only [Act.put, List.setIfInBounds_toArray, List.set_cons_zero, List.set_cons_succ]; rfl)))) | ((with_reducible apply lex_s); (focus rfl); (focus ((simp only [Act.put, List.setIfInBounds_toArray, List.set_cons_zero, List.set_cons_succ]; rfl)))))
            with_reducible apply lex_nil
            intro w1 hs
            have Fw1 := Fwr.trans (hs.mono Fwr.size)
            replace hB_d := hB_d.below hs hB_d.lt
            clear hs Fwr
            clear hc_d; have hc_d := hB_d.cell
            repeat (first | with_reducible apply wpList_nil | with_reducible apply seq_region | with_reducible apply wp_region_lit | with_reducible apply wp_seq | ((with_reducible apply seq_q); (focus rfl); (focus (simp [go_sem, effAt, ↓IntWalk.iteOmega, *]; (try go_ints); (first | (with_reducible exact effUpon_val) | (with_reducible exact effUpon_skip)))); (focus ((simp only [Act.put, List.setIfInBounds_toArray, List.set_cons_zero, List.set_cons_succ]; rfl)))) | ((with_reducible apply seq_s); (focus rfl); (focus ((simp only [Act.put, List.setIfInBounds_toArray, List.set_cons_zero, List.set_cons_succ]; rfl)))) | with_reducible apply wp_block | with_reducible apply wp_skip | with_reducible apply wp_exit | with_reducible apply wp_ret | ((with_reducible apply wp_cond_true); (focus (first | rfl | (simp [go_sem, *]; done)))) | ((with_reducible apply wp_cond_false); (focus (first | rfl | (simp [go_sem, *]; done)))) | (simp only [Exit.then, Exit.inBlock, ↓reduceIte, Nat.reduceEqDiff]))
            refine wp_region_effA (S := fun _ => True) (I := (· = World.drew w1)) (E := fun i => [15, 17].contains i) (A := fun i => [9, 13].contains i) (by kernel_rfl) (by kernel_rfl) rfl (fun _ _ => trivial) ?_
            repeat (first | ((with_reducible apply lexA_q); (focus rfl); (focus rfl); (focus rfl); (focus (intro w' hS; simp [go_sem, effAt, ↓IntWalk.iteOmega, *]; (try go_ints); (first | (with_reducible exact effUpon_val) | (with_reducible exact effUpon_skip)))); (focus ((simp only [Act.put, List.setIfInBounds_toArray, List.set_cons_zero, List.set_cons_succ]; rfl)))) | ((with_reducible apply lexA_s); (focus rfl); (focus ((simp only [Act.put, List.setIfInBounds_toArray, List.set_cons_zero, List.set_cons_succ]; rfl)))) | ((with_reducible apply lexA_a); (focus rfl); (focus rfl); (focus rfl); (focus (intro w' hS; subst hS; simp [go_sem, effAt, ↓IntWalk.iteOmega, *]; (try go_ints); (first | (with_reducible exact effUpon_val) | (with_reducible exact effUpon_skip)))); (focus ((simp only [Act.put, List.setIfInBounds_toArray, List.set_cons_zero, List.set_cons_succ]; rfl)))))
            with_reducible apply lexA_e (fun w' => Blk w' g 5 ((cellsS pad dj).setIfInBounds (k + 1) (.int .u8 y)) ∧ World.grownBy w1 w' (some g))
            (focus (first | exact wanted_none rfl | exact wanted_yes rfl rfl rfl))
            focus rfl
            focus
              intro w' hS
              subst hS
              have hf_d := hB_d.frozen
              simp [go_sem, effAt, *]
              exact ⟨rfl, hB_d.drew.set_ (k + 1) _, grown_undrew (grown_set (World.grownBy.refl _ _))⟩
            focus exact fun _ _ => trivial
            (focus (first | (apply put_some rfl; focus (conv => lhs; dsimp only [List.set_cons_zero, List.set_cons_succ]) <;> rfl) | exact put_none rfl))
            repeat (first | ((with_reducible apply lexA_q); (focus rfl); (focus rfl); (focus rfl); (focus (intro w' hS; simp [go_sem, effAt, ↓IntWalk.iteOmega, *]; (try go_ints); (first | (with_reducible exact effUpon_val) | (with_reducible exact effUpon_skip)))); (focus ((simp only [Act.put, List.setIfInBounds_toArray, List.set_cons_zero, List.set_cons_succ]; rfl)))) | ((with_reducible apply lexA_s); (focus rfl); (focus ((simp only [Act.put, List.setIfInBounds_toArray, List.set_cons_zero, List.set_cons_succ]; rfl)))) | ((with_reducible apply lexA_a); (focus rfl); (focus rfl); (focus rfl); (focus (intro w' hS; skip; simp [go_sem, effAt, ↓IntWalk.iteOmega, *]; (try go_ints); (first | (with_reducible exact effUpon_val) | (with_reducible exact effUpon_skip)))); (focus ((simp only [Act.put, List.setIfInBounds_toArray, List.set_cons_zero, List.set_cons_succ]; rfl)))))
            with_reducible apply lexA_e (fun w' => SB w' g pad (swp dj (k + 1) (k)) ∧ World.grownBy w1 w' (some g))
            (focus (first | exact wanted_none rfl | exact wanted_yes rfl rfl rfl))
            focus rfl
            focus
              rintro w' ⟨hB', hg'⟩
              have hf_d := hB'.frozen
              have hc_d := hB'.cell
              obtain ⟨z, hz⟩ := SZ.out
              simp [go_sem, effAt, *]
              exact ⟨rfl, by have h := hB'.set_ (k) (.int .u8 x); rw [SW.out] at h; exact h, grown_set hg'⟩
            focus exact fun _ _ => trivial
            (focus (first | (apply put_some rfl; focus (conv => lhs; dsimp only [List.set_cons_zero, List.set_cons_succ]) <;> rfl) | exact put_none rfl))
            with_reducible apply lexA_nil
            rintro w1n ⟨hB_n, hg_n⟩
            have hG2 := grown_trans (grown_trans hG (grown_below Fw1 _)) hg_n
            clear hB_d hc_d hg_n
            have Fw1n : Below w1n.heap.size w1n w1n := Below.refl _ _
            repeat (first | with_reducible apply wpList_nil | with_reducible apply seq_region | with_reducible apply wp_region_lit | with_reducible apply wp_seq | ((with_reducible apply seq_q); (focus rfl); (focus (simp [go_sem, effAt, ↓IntWalk.iteOmega, *]; (try go_ints); (first | (with_reducible exact effUpon_val) | (with_reducible exact effUpon_skip)))); (focus ((simp only [Act.put, List.setIfInBounds_toArray, List.set_cons_zero, List.set_cons_succ]; rfl)))) | ((with_reducible apply seq_s); (focus rfl); (focus ((simp only [Act.put, List.setIfInBounds_toArray, List.set_cons_zero, List.set_cons_succ]; rfl)))) | with_reducible apply wp_block | with_reducible apply wp_skip | with_reducible apply wp_exit | with_reducible apply wp_ret | ((with_reducible apply wp_cond_true); (focus (first | rfl | (simp [go_sem, *]; done)))) | ((with_reducible apply wp_cond_false); (focus (first | rfl | (simp [go_sem, *]; done)))) | (simp only [Exit.then, Exit.inBlock, ↓reduceIte, Nat.reduceEqDiff]))
            refine hK2 _ _ (Handed.intro k ?measure (hJ2 _ _ _ ?_))
            rotate_left
            (repeat apply Exists.intro)
            refine ⟨?rel, rfl⟩
            case rel => exact ⟨k, swp dj (k + 1) k, by go_num, by omega, by omega, by omega, by rw [swp_size]; exact HD.out, hR, hB_n, hG2⟩
            case measure => omega
end Go.Proofs.Ytckjgdlceckhpaa
