/- The walk of partialInsertionSortOrdered[uint8]. -/
import Derived.Test.YtckjgdlceckhpaaS8
set_option linter.unusedSimpArgs false
set_option linter.unusedVariables false
namespace Go.Proofs.Ytckjgdlceckhpaa
open Go.RowKit Go.Eff
open Go.Sort (swp ltInt scanSorted shiftDown shiftUp partialIns partialInsertionSort fixDown fixUp partialIns_succ)
attribute [local irreducible] Go.wpList
section
variable {lt : Int → Int → Bool} {d : Array Int} {a b i j k s : Nat}
theorem sc_go (h : i + 1 < b) (hl : lt d[i + 1]! d[i]! = false) : scanSorted lt d b (i + 1) = scanSorted lt d b (i + 1 + 1) := by
  rw [scanSorted, if_pos (by simp [h, hl])]
theorem sc_end (h : ¬ i + 1 < b) : scanSorted lt d b (i + 1) = i + 1 := by
  rw [scanSorted, if_neg (by simp [h])]
theorem sc_stop (hl : lt d[i + 1]! d[i]! = true) : scanSorted lt d b (i + 1) = i + 1 := by
  rw [scanSorted, if_neg (by simp [hl])]
theorem sdn_low (h : ¬ 1 ≤ k) : shiftDown lt k d = d := by
  obtain rfl : k = 0 := by omega
  rfl
theorem sdn_stop (hl : lt d[k + 1]! d[k]! = false) : shiftDown lt (k + 1) d = d := by
  rw [shiftDown, if_pos (by simp [hl])]
theorem sdn_go (hl : lt d[k + 1]! d[k]! = true) : shiftDown lt (k + 1) d = shiftDown lt k (swp d (k + 1) k) := by
  rw [shiftDown, if_neg (by simp [hl])]
theorem sup_end (h : ¬ k + 1 < b) : shiftUp lt b (k + 1) d = d := by
  rw [shiftUp, if_neg h]
theorem sup_stop (h : k + 1 < b) (hl : lt d[k + 1]! d[k]! = false) : shiftUp lt b (k + 1) d = d := by
  rw [shiftUp, if_pos h, Nat.add_sub_cancel, if_pos (by simp [hl])]
theorem sup_go (h : k + 1 < b) (hl : lt d[k + 1]! d[k]! = true) : shiftUp lt b (k + 1) d = shiftUp lt b (k + 1 + 1) (swp d (k + 1) k) := by
  rw [shiftUp, if_pos h, Nat.add_sub_cancel, if_neg (by simp [hl])]
theorem pin_end (h : scanSorted lt d b i = b) : partialIns lt a b (s + 1) i d = (d, true) := by
  rw [partialIns_succ, if_pos h]
theorem pin_short (h : ¬ scanSorted lt d b i = b) (h2 : b - a < 50) : partialIns lt a b (s + 1) i d = (d, false) := by
  rw [partialIns_succ, if_neg h, if_pos h2]
theorem pin_go (h : scanSorted lt d b i = j + 1) (hb : ¬ j + 1 = b) (h2 : ¬ b - a < 50) : partialIns lt a b (s + 1) i d = partialIns lt a b s (j + 1) (fixUp lt b (j + 1) (fixDown lt a (j + 1) (swp d (j + 1) j))) := by
  rw [partialIns_succ, h, if_neg hb, if_neg h2, Nat.add_sub_cancel]
theorem fd_no {l : Nat} (hl : j + 1 - a = l) (h : ¬ 2 ≤ l) : fixDown lt a (j + 1) d = d := by rw [fixDown, if_neg (by omega)]
theorem fd_go {l : Nat} (hl : j + 1 - a = l) (h : 2 ≤ l) : fixDown lt a (j + 1) d = shiftDown lt j d := by rw [fixDown, if_pos (by omega), Nat.add_sub_cancel]
theorem fu_no {l : Nat} (hl : b - (j + 1) = l) (h : ¬ 2 ≤ l) : fixUp lt b (j + 1) d = d := by rw [fixUp, if_neg (by omega)]
theorem fu_go {l : Nat} (hl : b - (j + 1) = l) (h : 2 ≤ l) : fixUp lt b (j + 1) d = shiftUp lt b (j + 1 + 1) d := by rw [fixUp, if_pos (by omega)]
end
set_option maxRecDepth 100000 in
set_option maxHeartbeats 16000000 in
theorem pin_any (g cap a b : Nat) (pad : List Value) (d : Array Int) (w : World) (hB_d : SB w g pad d) (hab : a < b) (hb : b ≤ d.size) (hsz : d.size ≤ 1000) :
    Calls Try.prog 32 #[.slice (some ⟨g, 0, none⟩) d.size cap, .int .i64 a, .int .i64 b] w (Ret (.bool (partialInsertionSort ltInt d a b).2) fun w' => SB w' g pad (partialInsertionSort ltInt d a b).1 ∧ w.grownBy w' (some g)) := by
  obtain ⟨R, hR⟩ : ∃ R, partialInsertionSort ltInt d a b = R := ⟨_, rfl⟩
  rw [hR]
  unfold partialInsertionSort at hR
  obtain ⟨n, hn⟩ : ∃ n, d.size = n := ⟨_, rfl⟩
  rw [hn] at hb hsz ⊢
  have HD := Lib.hid hn
  have hnI : (n : Int) ≤ 1000 := by omega
  have hbI : (b : Int) ≤ (n : Int) := by omega
  have haI : (a : Int) < (n : Int) := by omega
  obtain ⟨l, hl⟩ : ∃ l, b - a = l := ⟨_, rfl⟩
  have hlI : (b : Int) - (a : Int) = (l : Int) := by omega
  have HLB := Lib.hid hl
  clear hl hn
  have hG : w.grownBy w (some g) := World.grownBy.refl _ _
  go_enter Try.func32, Try.ntmps32
  have F0 : Below w.heap.size w w := Below.refl _ _
  repeat (first | with_reducible apply wpList_nil | with_reducible apply seq_region | with_reducible apply wp_region_lit | with_reducible apply wp_seq | ((with_reducible apply seq_q); (focus rfl); (focus (simp [go_sem, effAt, ↓IntWalk.iteOmega, *]; (try go_ints); (first | (with_reducible exact effUpon_val) | (with_reducible exact effUpon_skip)))); (focus ((simp only [Act.put, List.setIfInBounds_toArray, List.set_cons_zero, List.set_cons_succ]; rfl)))) | ((with_reducible apply seq_s); (focus rfl); (focus ((simp only [Act.put, List.setIfInBounds_toArray, List.set_cons_zero, List.set_cons_succ]; rfl)))) | with_reducible apply wp_block | with_reducible apply wp_skip | with_reducible apply wp_exit | with_reducible apply wp_ret | ((with_reducible apply wp_cond_true); (focus (first | rfl | (simp [go_sem, *]; done)))) | ((with_reducible apply wp_cond_false); (focus (first | rfl | (simp [go_sem, *]; done)))) | (simp only [Exit.then, Exit.inBlock, ↓reduceIte, Nat.reduceEqDiff]))
  go_loopg [7, 8] 6 (fun q v7 v8 wr => ∃ (st s m : Nat) (dk : Array Int), v7 = .int .i64 ((m : Int) + 1) ∧ v8 = .int .i64 (st : Int) ∧ st + s = 5 ∧ s ≤ q ∧ a ≤ m ∧ m + 1 ≤ b ∧ dk.size = n ∧ partialIns ltInt a b s (m + 1) dk = R ∧ SB wr g pad dk ∧ w.grownBy wr (some g))
  case atStart => exact ⟨0, 5, a, d, by go_num, rfl, rfl, by omega, Nat.le_refl _, by omega, HD.out, hR, hB_d, hG⟩
  case round =>
    rename_i J K hJ hK
    clear hR F0 hB_d hG HD
    obtain ⟨st, s, m, dk, rfl, rfl, hst, hsq, ham, hmb, hdk, hR, hB_d, hG⟩ := hrel
    have HD := Lib.hid hdk
    have HST := Lib.hid hst
    clear hdk
    cases s with
    | zero =>
      have hst' : ¬ (st : Int) < 5 := by omega
      subst hR
      clear hJ hK hst
      skip
      have Fwr : Below wr.heap.size wr wr := Below.refl _ _
      repeat (first | with_reducible apply wpList_nil | with_reducible apply seq_region | with_reducible apply wp_region_lit | with_reducible apply wp_seq | ((with_reducible apply seq_q); (focus rfl); (focus (simp [go_sem, effAt, ↓IntWalk.iteOmega, *]; (try go_ints); (first | (with_reducible exact effUpon_val) | (with_reducible exact effUpon_skip)))); (focus ((simp only [Act.put, List.setIfInBounds_toArray, List.set_cons_zero, List.set_cons_succ]; rfl)))) | ((with_reducible apply seq_s); (focus rfl); (focus ((simp only [Act.put, List.setIfInBounds_toArray, List.set_cons_zero, List.set_cons_succ]; rfl)))) | with_reducible apply wp_block | with_reducible apply wp_skip | with_reducible apply wp_exit | with_reducible apply wp_ret | ((with_reducible apply wp_cond_true); (focus (first | rfl | (simp [go_sem, *]; done)))) | ((with_reducible apply wp_cond_false); (focus (first | rfl | (simp [go_sem, *]; done)))) | (simp only [Exit.then, Exit.inBlock, ↓reduceIte, Nat.reduceEqDiff]))
      go_ret
      exact ⟨rfl, hB_d, hG⟩
    | succ s =>
      have hst' : (st : Int) < 5 := by omega
      clear hst
      skip
      have Fwr : Below wr.heap.size wr wr := Below.refl _ _
      repeat (first | with_reducible apply wpList_nil | with_reducible apply seq_region | with_reducible apply wp_region_lit | with_reducible apply wp_seq | ((with_reducible apply seq_q); (focus rfl); (focus (simp [go_sem, effAt, ↓IntWalk.iteOmega, *]; (try go_ints); (first | (with_reducible exact effUpon_val) | (with_reducible exact effUpon_skip)))); (focus ((simp only [Act.put, List.setIfInBounds_toArray, List.set_cons_zero, List.set_cons_succ]; rfl)))) | ((with_reducible apply seq_s); (focus rfl); (focus ((simp only [Act.put, List.setIfInBounds_toArray, List.set_cons_zero, List.set_cons_succ]; rfl)))) | with_reducible apply wp_block | with_reducible apply wp_skip | with_reducible apply wp_exit | with_reducible apply wp_ret | ((with_reducible apply wp_cond_true); (focus (first | rfl | (simp [go_sem, *]; done)))) | ((with_reducible apply wp_cond_false); (focus (first | rfl | (simp [go_sem, *]; done)))) | (simp only [Exit.then, Exit.inBlock, ↓reduceIte, Nat.reduceEqDiff]))
      obtain ⟨I, hI⟩ : ∃ I, scanSorted ltInt dk b (m + 1) = I := ⟨_, rfl⟩
      have HI0 := Lib.hid hI
      have HR := Lib.hid hR
      clear hR
      go_loopg [7] (b + 1) (fun q v7 wr => ∃ (j : Nat), v7 = .int .i64 ((j : Int) + 1) ∧ m ≤ j ∧ j + 1 ≤ b ∧ b ≤ j + 1 + q ∧ scanSorted ltInt dk b (j + 1) = I ∧ SB wr g pad dk ∧ w.grownBy wr (some g))
      case atStart => exact ⟨m, rfl, by omega, by omega, by omega, hI, hB_d, hG⟩
      case round =>
        rename_i SJ SK hSJ hSK
        clear hI hB_d hG
        obtain ⟨j, rfl, hmj, hj1, hj2, hI, hB_d, hG⟩ := hrel
        by_cases hc : j + 1 < b
        case neg =>
          have hc' : ¬ (j : Int) + 1 < (b : Int) := by omega
          have hq' : (j : Int) + 1 = (b : Int) := by omega
          rw [sc_end hc] at hI
          have hR := HR.out
          rw [pin_end (HI0.out.trans (by omega))] at hR
          subst hR
          have heq : ((j : Int) + 1 == (b : Int)) = true := by simpa using hq'
          clear hSJ hSK hI hJ hK HI0 HR hq'
          skip
          have Fwr : Below wr.heap.size wr wr := Below.refl _ _
          repeat (first | with_reducible apply wpList_nil | with_reducible apply seq_region | with_reducible apply wp_region_lit | with_reducible apply wp_seq | ((with_reducible apply seq_q); (focus rfl); (focus (simp [go_sem, effAt, ↓IntWalk.iteOmega, *]; (try go_ints); (first | (with_reducible exact effUpon_val) | (with_reducible exact effUpon_skip)))); (focus ((simp only [Act.put, List.setIfInBounds_toArray, List.set_cons_zero, List.set_cons_succ]; rfl)))) | ((with_reducible apply seq_s); (focus rfl); (focus ((simp only [Act.put, List.setIfInBounds_toArray, List.set_cons_zero, List.set_cons_succ]; rfl)))) | with_reducible apply wp_block | with_reducible apply wp_skip | with_reducible apply wp_exit | with_reducible apply wp_ret | ((with_reducible apply wp_cond_true); (focus (first | rfl | (simp [go_sem, *]; done)))) | ((with_reducible apply wp_cond_false); (focus (first | rfl | (simp [go_sem, *]; done)))) | (simp only [Exit.then, Exit.inBlock, ↓reduceIte, Nat.reduceEqDiff]))
          refine wp_region_pure (E := fun i => [13].contains i) (by kernel_rfl) (by kernel_rfl) ?_
          repeat (first | ((with_reducible apply lex_q); (focus rfl); (focus rfl); (focus (intro w' hS; simp [go_sem, effAt, ↓IntWalk.iteOmega, *]; (try go_ints); (first | (with_reducible exact effUpon_val) | (with_reducible exact effUpon_skip)))); (focus ((simp only [Act.put, List.setIfInBounds_toArray, List.set_cons_zero, List.set_cons_succ]; rfl)))) | ((with_reducible apply lex_s); (focus rfl); (focus ((simp only [Act.put, List.setIfInBounds_toArray, List.set_cons_zero, List.set_cons_succ]; rfl)))))
          with_reducible apply lex_nil
          intro w1 hs
          have Fw1 := Fwr.trans (hs.mono Fwr.size)
          clear hs Fwr
          repeat (first | with_reducible apply wpList_nil | with_reducible apply seq_region | with_reducible apply wp_region_lit | with_reducible apply wp_seq | ((with_reducible apply seq_q); (focus rfl); (focus (simp [go_sem, effAt, ↓IntWalk.iteOmega, *]; (try go_ints); (first | (with_reducible exact effUpon_val) | (with_reducible exact effUpon_skip)))); (focus ((simp only [Act.put, List.setIfInBounds_toArray, List.set_cons_zero, List.set_cons_succ]; rfl)))) | ((with_reducible apply seq_s); (focus rfl); (focus ((simp only [Act.put, List.setIfInBounds_toArray, List.set_cons_zero, List.set_cons_succ]; rfl)))) | with_reducible apply wp_block | with_reducible apply wp_skip | with_reducible apply wp_exit | with_reducible apply wp_ret | ((with_reducible apply wp_cond_true); (focus (first | rfl | (simp [go_sem, *]; done)))) | ((with_reducible apply wp_cond_false); (focus (first | rfl | (simp [go_sem, *]; done)))) | (simp only [Exit.then, Exit.inBlock, ↓reduceIte, Nat.reduceEqDiff]))
          go_ret
          exact ⟨rfl, hB_d.below (by assumption) hB_d.lt, grown_trans hG (grown_below (by assumption) _)⟩
        case pos =>
          have hc' : (j : Int) + 1 < (b : Int) := by omega
          have hjn : (j : Int) + 1 < (n : Int) := by omega
          obtain ⟨x, hx⟩ : ∃ x, dk[j + 1]! = x := ⟨_, rfl⟩
          obtain ⟨y, hy⟩ : ∃ y, dk[j]! = y := ⟨_, rfl⟩
          have e1 := cellsS_get pad (show j + 1 < dk.size by have := HD.out; omega) hx
          have e2 := cellsS_get pad (show j < dk.size by have := HD.out; omega) hy
          have hL := less_any x y
          obtain ⟨l0, hl0⟩ : ∃ l, ltInt x y = l := ⟨_, rfl⟩
          rw [hl0] at hL
          rw [← hx, ← hy] at hl0
          have HL := Lib.hid hl0
          clear hl0 hx hy
          cases l0 with
          | false =>
            rw [sc_go hc HL.out] at hI
            skip
            have Fwr : Below wr.heap.size wr wr := Below.refl _ _
            have hc_d := hB_d.cell
            repeat (first | with_reducible apply wpList_nil | with_reducible apply seq_region | with_reducible apply wp_region_lit | with_reducible apply wp_seq | ((with_reducible apply seq_q); (focus rfl); (focus (simp [go_sem, effAt, ↓IntWalk.iteOmega, *]; (try go_ints); (first | (with_reducible exact effUpon_val) | (with_reducible exact effUpon_skip)))); (focus ((simp only [Act.put, List.setIfInBounds_toArray, List.set_cons_zero, List.set_cons_succ]; rfl)))) | ((with_reducible apply seq_s); (focus rfl); (focus ((simp only [Act.put, List.setIfInBounds_toArray, List.set_cons_zero, List.set_cons_succ]; rfl)))) | with_reducible apply wp_block | with_reducible apply wp_skip | with_reducible apply wp_exit | with_reducible apply wp_ret | ((with_reducible apply wp_cond_true); (focus (first | rfl | (simp [go_sem, *]; done)))) | ((with_reducible apply wp_cond_false); (focus (first | rfl | (simp [go_sem, *]; done)))) | (simp only [Exit.then, Exit.inBlock, ↓reduceIte, Nat.reduceEqDiff]))
            refine wp_region_pure (E := fun i => [13].contains i) (by kernel_rfl) (by kernel_rfl) ?_
            repeat (first | ((with_reducible apply lex_q); (focus rfl); (focus rfl); (focus (intro w' hS; have hc_d := (hB_d.below hS hB_d.lt).cell; simp [go_sem, effAt, ↓IntWalk.iteOmega, *]; (try go_ints); (first | (with_reducible exact effUpon_val) | (with_reducible exact effUpon_skip)))); (focus ((simp only [Act.put, List.setIfInBounds_toArray, List.set_cons_zero, List.set_cons_succ]; rfl)))) | ((with_reducible apply lex_s); (focus rfl); (focus ((simp only [Act.put, List.setIfInBounds_toArray, List.set_cons_zero, List.set_cons_succ]; rfl)))))
            ((with_reducible apply lex_e (Below wr.heap.size wr)); (focus rfl); (focus rfl); (focus (intro w' hS; simp only [effAt]; simp [go_sem]; (with_reducible exact eff_call hS (hL _)))); (focus (exact fun _ h => h)); (focus ((simp only [Act.put, List.setIfInBounds_toArray, List.set_cons_zero, List.set_cons_succ]; rfl))))
            repeat (first | ((with_reducible apply lex_q); (focus rfl); (focus rfl); (focus (intro w' hS; have hc_d := (hB_d.below hS hB_d.lt).cell; simp [go_sem, effAt, ↓IntWalk.iteOmega, *]; (try go_ints); (first | (with_reducible exact effUpon_val) | (with_reducible exact effUpon_skip)))); (focus ((simp only [Act.put, List.setIfInBounds_toArray, List.set_cons_zero, List.set_cons_succ]; rfl)))) | ((with_reducible apply lex_s); (focus rfl); (focus ((simp only [Act.put, List.setIfInBounds_toArray, List.set_cons_zero, List.set_cons_succ]; rfl)))))
            with_reducible apply lex_nil
            intro w1 hs
            have Fw1 := Fwr.trans (hs.mono Fwr.size)
            replace hB_d := hB_d.below hs hB_d.lt
            clear hs Fwr
            clear hc_d; have hc_d := hB_d.cell
            repeat (first | with_reducible apply wpList_nil | with_reducible apply seq_region | with_reducible apply wp_region_lit | with_reducible apply wp_seq | ((with_reducible apply seq_q); (focus rfl); (focus (simp [go_sem, effAt, ↓IntWalk.iteOmega, *]; (try go_ints); (first | (with_reducible exact effUpon_val) | (with_reducible exact effUpon_skip)))); (focus ((simp only [Act.put, List.setIfInBounds_toArray, List.set_cons_zero, List.set_cons_succ]; rfl)))) | ((with_reducible apply seq_s); (focus rfl); (focus ((simp only [Act.put, List.setIfInBounds_toArray, List.set_cons_zero, List.set_cons_succ]; rfl)))) | with_reducible apply wp_block | with_reducible apply wp_skip | with_reducible apply wp_exit | with_reducible apply wp_ret | ((with_reducible apply wp_cond_true); (focus (first | rfl | (simp [go_sem, *]; done)))) | ((with_reducible apply wp_cond_false); (focus (first | rfl | (simp [go_sem, *]; done)))) | (simp only [Exit.then, Exit.inBlock, ↓reduceIte, Nat.reduceEqDiff]))
            have hG2 := grown_trans hG (grown_below (by assumption : Below wr.heap.size wr w1) _)
            clear hG
            have hG := hG2
            clear hG2 hc_d
            refine hSK _ _ (Handed.intro (b - (j + 1 + 1)) ?measure (hSJ _ _ _ ?_))
            rotate_left
            (repeat apply Exists.intro)
            refine ⟨?rel, rfl⟩
            case rel => exact ⟨j + 1, by go_num, by omega, by omega, by omega, hI, hB_d, hG⟩
            case measure => omega
          | true =>
            rw [sc_stop HL.out] at hI
            have hne : ¬ j + 1 = b := by omega
            have heq : ((j : Int) + 1 == (b : Int)) = false := by simp; omega
            have hR := HR.out
            clear hSJ hSK HR
            by_cases h50 : l < 50
            case pos =>
              have h50' : (l : Int) < 50 := by omega
              rw [pin_short (by rw [HI0.out, ← hI]; exact hne) (by rw [HLB.out]; exact h50)] at hR
              subst hR
              clear hJ hK HI0 hI hne
              skip
              have Fwr : Below wr.heap.size wr wr := Below.refl _ _
              have hc_d := hB_d.cell
              repeat (first | with_reducible apply wpList_nil | with_reducible apply seq_region | with_reducible apply wp_region_lit | with_reducible apply wp_seq | ((with_reducible apply seq_q); (focus rfl); (focus (simp [go_sem, effAt, ↓IntWalk.iteOmega, *]; (try go_ints); (first | (with_reducible exact effUpon_val) | (with_reducible exact effUpon_skip)))); (focus ((simp only [Act.put, List.setIfInBounds_toArray, List.set_cons_zero, List.set_cons_succ]; rfl)))) | ((with_reducible apply seq_s); (focus rfl); (focus ((simp only [Act.put, List.setIfInBounds_toArray, List.set_cons_zero, List.set_cons_succ]; rfl)))) | with_reducible apply wp_block | with_reducible apply wp_skip | with_reducible apply wp_exit | with_reducible apply wp_ret | ((with_reducible apply wp_cond_true); (focus (first | rfl | (simp [go_sem, *]; done)))) | ((with_reducible apply wp_cond_false); (focus (first | rfl | (simp [go_sem, *]; done)))) | (simp only [Exit.then, Exit.inBlock, ↓reduceIte, Nat.reduceEqDiff]))
              refine wp_region_pure (E := fun i => [13].contains i) (by kernel_rfl) (by kernel_rfl) ?_
              repeat (first | ((with_reducible apply lex_q); (focus rfl); (focus rfl); (focus (intro w' hS; have hc_d := (hB_d.below hS hB_d.lt).cell; simp [go_sem, effAt, ↓IntWalk.iteOmega, *]; (try go_ints); (first | (with_reducible exact effUpon_val) | (with_reducible exact effUpon_skip)))); (focus ((simp only [Act.put, List.setIfInBounds_toArray, List.set_cons_zero, List.set_cons_succ]; rfl)))) | ((with_reducible apply lex_s); (focus rfl); (focus ((simp only [Act.put, List.setIfInBounds_toArray, List.set_cons_zero, List.set_cons_succ]; rfl)))))
              ((with_reducible apply lex_e (Below wr.heap.size wr)); (focus rfl); (focus rfl); (focus (intro w' hS; simp only [effAt]; simp [go_sem]; (with_reducible exact eff_call hS (hL _)))); (focus (exact fun _ h => h)); (focus ((simp only [Act.put, List.setIfInBounds_toArray, List.set_cons_zero, List.set_cons_succ]; rfl))))
              repeat (first | ((with_reducible apply lex_q); (focus rfl); (focus rfl); (focus (intro w' hS; have hc_d := (hB_d.below hS hB_d.lt).cell; simp [go_sem, effAt, ↓IntWalk.iteOmega, *]; (try go_ints); (first | (with_reducible exact effUpon_val) | (with_reducible exact effUpon_skip)))); (focus ((simp only [Act.put, List.setIfInBounds_toArray, List.set_cons_zero, List.set_cons_succ]; rfl)))) | ((with_reducible apply lex_s); (focus rfl); (focus ((simp only [Act.put, List.setIfInBounds_toArray, List.set_cons_zero, List.set_cons_succ]; rfl)))))
              with_reducible apply lex_nil
              intro w1 hs
              have Fw1 := Fwr.trans (hs.mono Fwr.size)
              replace hB_d := hB_d.below hs hB_d.lt
              clear hs Fwr
              clear hc_d; have hc_d := hB_d.cell
              repeat (first | with_reducible apply wpList_nil | with_reducible apply seq_region | with_reducible apply wp_region_lit | with_reducible apply wp_seq | ((with_reducible apply seq_q); (focus rfl); (focus (simp [go_sem, effAt, ↓IntWalk.iteOmega, *]; (try go_ints); (first | (with_reducible exact effUpon_val) | (with_reducible exact effUpon_skip)))); (focus ((simp only [Act.put, List.setIfInBounds_toArray, List.set_cons_zero, List.set_cons_succ]; rfl)))) | ((with_reducible apply seq_s); (focus rfl); (focus ((simp only [Act.put, List.setIfInBounds_toArray, List.set_cons_zero, List.set_cons_succ]; rfl)))) | with_reducible apply wp_block | with_reducible apply wp_skip | with_reducible apply wp_exit | with_reducible apply wp_ret | ((with_reducible apply wp_cond_true); (focus (first | rfl | (simp [go_sem, *]; done)))) | ((with_reducible apply wp_cond_false); (focus (first | rfl | (simp [go_sem, *]; done)))) | (simp only [Exit.then, Exit.inBlock, ↓reduceIte, Nat.reduceEqDiff]))
              have hG2 := grown_trans hG (grown_below (by assumption : Below wr.heap.size wr w1) _)
              clear hG
              have hG := hG2
              clear hG2 hc_d
              go_ret
              exact ⟨rfl, hB_d, hG⟩
            case neg =>
              have h50' : ¬ (l : Int) < 50 := by omega
              rw [pin_go (j := j) (by rw [HI0.out, ← hI]) hne (by rw [HLB.out]; exact h50)] at hR
              clear HI0 hI hne
              skip
              have Fwr : Below wr.heap.size wr wr := Below.refl _ _
              have hc_d := hB_d.cell
              repeat (first | with_reducible apply wpList_nil | with_reducible apply seq_region | with_reducible apply wp_region_lit | with_reducible apply wp_seq | ((with_reducible apply seq_q); (focus rfl); (focus (simp [go_sem, effAt, ↓IntWalk.iteOmega, *]; (try go_ints); (first | (with_reducible exact effUpon_val) | (with_reducible exact effUpon_skip)))); (focus ((simp only [Act.put, List.setIfInBounds_toArray, List.set_cons_zero, List.set_cons_succ]; rfl)))) | ((with_reducible apply seq_s); (focus rfl); (focus ((simp only [Act.put, List.setIfInBounds_toArray, List.set_cons_zero, List.set_cons_succ]; rfl)))) | with_reducible apply wp_block | with_reducible apply wp_skip | with_reducible apply wp_exit | with_reducible apply wp_ret | ((with_reducible apply wp_cond_true); (focus (first | rfl | (simp [go_sem, *]; done)))) | ((with_reducible apply wp_cond_false); (focus (first | rfl | (simp [go_sem, *]; done)))) | (simp only [Exit.then, Exit.inBlock, ↓reduceIte, Nat.reduceEqDiff]))
              refine wp_region_pure (E := fun i => [13].contains i) (by kernel_rfl) (by kernel_rfl) ?_
              repeat (first | ((with_reducible apply lex_q); (focus rfl); (focus rfl); (focus (intro w' hS; have hc_d := (hB_d.below hS hB_d.lt).cell; simp [go_sem, effAt, ↓IntWalk.iteOmega, *]; (try go_ints); (first | (with_reducible exact effUpon_val) | (with_reducible exact effUpon_skip)))); (focus ((simp only [Act.put, List.setIfInBounds_toArray, List.set_cons_zero, List.set_cons_succ]; rfl)))) | ((with_reducible apply lex_s); (focus rfl); (focus ((simp only [Act.put, List.setIfInBounds_toArray, List.set_cons_zero, List.set_cons_succ]; rfl)))))
              ((with_reducible apply lex_e (Below wr.heap.size wr)); (focus rfl); (focus rfl); (focus (intro w' hS; simp only [effAt]; simp [go_sem]; (with_reducible exact eff_call hS (hL _)))); (focus (exact fun _ h => h)); (focus ((simp only [Act.put, List.setIfInBounds_toArray, List.set_cons_zero, List.set_cons_succ]; rfl))))
              repeat (first | ((with_reducible apply lex_q); (focus rfl); (focus rfl); (focus (intro w' hS; have hc_d := (hB_d.below hS hB_d.lt).cell; simp [go_sem, effAt, ↓IntWalk.iteOmega, *]; (try go_ints); (first | (with_reducible exact effUpon_val) | (with_reducible exact effUpon_skip)))); (focus ((simp only [Act.put, List.setIfInBounds_toArray, List.set_cons_zero, List.set_cons_succ]; rfl)))) | ((with_reducible apply lex_s); (focus rfl); (focus ((simp only [Act.put, List.setIfInBounds_toArray, List.set_cons_zero, List.set_cons_succ]; rfl)))))
              with_reducible apply lex_nil
              intro w1 hs
              have Fw1 := Fwr.trans (hs.mono Fwr.size)
              replace hB_d := hB_d.below hs hB_d.lt
              clear hs Fwr
              clear hc_d; have hc_d := hB_d.cell
              repeat (first | with_reducible apply wpList_nil | with_reducible apply seq_region | with_reducible apply wp_region_lit | with_reducible apply wp_seq | ((with_reducible apply seq_q); (focus rfl); (focus (simp [go_sem, effAt, ↓IntWalk.iteOmega, *]; (try go_ints); (first | (with_reducible exact effUpon_val) | (with_reducible exact effUpon_skip)))); (focus ((simp only [Act.put, List.setIfInBounds_toArray, List.set_cons_zero, List.set_cons_succ]; rfl)))) | ((with_reducible apply seq_s); (focus rfl); (focus ((simp only [Act.put, List.setIfInBounds_toArray, List.set_cons_zero, List.set_cons_succ]; rfl)))) | with_reducible apply wp_block | with_reducible apply wp_skip | with_reducible apply wp_exit | with_reducible apply wp_ret | ((with_reducible apply wp_cond_true); (focus (first | rfl | (simp [go_sem, *]; done)))) | ((with_reducible apply wp_cond_false); (focus (first | rfl | (simp [go_sem, *]; done)))) | (simp only [Exit.then, Exit.inBlock, ↓reduceIte, Nat.reduceEqDiff]))
              have hG2 := grown_trans hG (grown_below (by assumption : Below wr.heap.size wr w1) _)
              clear hG
              have hG := hG2
              clear hG2 hc_d
              clear e1 e2 hL HL
              have Fw1 : Below w1.heap.size w1 w1 := Below.refl _ _
              obtain ⟨y1, hy1⟩ : ∃ x, dk[j + 1]! = x := ⟨_, rfl⟩
              obtain ⟨y2, hy2⟩ : ∃ x, dk[j]! = x := ⟨_, rfl⟩
              have f2 := cellsS_get pad (show j < dk.size by have := HD.out; omega) hy2
              have f1 := cellsS_get pad (show j + 1 < dk.size by have := HD.out; omega) hy1
              have SW := Lib.hid (cellsS_swp pad (i := j + 1) (j := j) (by have := HD.out; omega) (by have := HD.out; omega) hy1 hy2)
              have SZ := Lib.hid (cellsS_get2 (d := dk) pad (i := j + 1) (j := j) y2 (by have := HD.out; omega) (by have := HD.out; omega))
              clear hy1 hy2
              have hc_d := hB_d.cell
              repeat (first | with_reducible apply wpList_nil | with_reducible apply seq_region | with_reducible apply wp_region_lit | with_reducible apply wp_seq | ((with_reducible apply seq_q); (focus rfl); (focus (simp [go_sem, effAt, ↓IntWalk.iteOmega, *]; (try go_ints); (first | (with_reducible exact effUpon_val) | (with_reducible exact effUpon_skip)))); (focus ((simp only [Act.put, List.setIfInBounds_toArray, List.set_cons_zero, List.set_cons_succ]; rfl)))) | ((with_reducible apply seq_s); (focus rfl); (focus ((simp only [Act.put, List.setIfInBounds_toArray, List.set_cons_zero, List.set_cons_succ]; rfl)))) | with_reducible apply wp_block | with_reducible apply wp_skip | with_reducible apply wp_exit | with_reducible apply wp_ret | ((with_reducible apply wp_cond_true); (focus (first | rfl | (simp [go_sem, *]; done)))) | ((with_reducible apply wp_cond_false); (focus (first | rfl | (simp [go_sem, *]; done)))) | (simp only [Exit.then, Exit.inBlock, ↓reduceIte, Nat.reduceEqDiff]))
              refine wp_region_effA (S := fun _ => True) (I := (· = World.drew w1)) (E := fun i => [15, 17].contains i) (A := fun i => [9, 13].contains i) (by kernel_rfl) (by kernel_rfl) rfl (fun _ _ => trivial) ?_
              repeat (first | ((with_reducible apply lexA_q); (focus rfl); (focus rfl); (focus rfl); (focus (intro w' hS; simp [go_sem, effAt, ↓IntWalk.iteOmega, *]; (try go_ints); (first | (with_reducible exact effUpon_val) | (with_reducible exact effUpon_skip)))); (focus ((simp only [Act.put, List.setIfInBounds_toArray, List.set_cons_zero, List.set_cons_succ]; rfl)))) | ((with_reducible apply lexA_s); (focus rfl); (focus ((simp only [Act.put, List.setIfInBounds_toArray, List.set_cons_zero, List.set_cons_succ]; rfl)))) | ((with_reducible apply lexA_a); (focus rfl); (focus rfl); (focus rfl); (focus (intro w' hS; subst hS; simp [go_sem, effAt, ↓IntWalk.iteOmega, *]; (try go_ints); (first | (with_reducible exact effUpon_val) | (with_reducible exact effUpon_skip)))); (focus ((simp only [Act.put, List.setIfInBounds_toArray, List.set_cons_zero, List.set_cons_succ]; rfl)))))
              with_reducible apply lexA_e (fun w' => Blk w' g 5 ((cellsS pad dk).setIfInBounds (j + 1) (.int .u8 y2)) ∧ World.grownBy w1 w' (some g))
              (focus (first | exact wanted_none rfl | exact wanted_yes rfl rfl rfl))
              focus rfl
              focus
                intro w' hS
                subst hS
                have hf_d := hB_d.frozen
                simp [go_sem, effAt, *]
                exact ⟨rfl, hB_d.drew.set_ (j + 1) _, grown_undrew (grown_set (World.grownBy.refl _ _))⟩
              focus exact fun _ _ => trivial
              (focus (first | (apply put_some rfl; focus (conv => lhs; dsimp only [List.set_cons_zero, List.set_cons_succ]) <;> rfl) | exact put_none rfl))
              repeat (first | ((with_reducible apply lexA_q); (focus rfl); (focus rfl); (focus rfl); (focus (intro w' hS; simp [go_sem, effAt, ↓IntWalk.iteOmega, *]; (try go_ints); (first | (with_reducible exact effUpon_val) | (with_reducible exact effUpon_skip)))); (focus ((simp only [Act.put, List.setIfInBounds_toArray, List.set_cons_zero, List.set_cons_succ]; rfl)))) | ((with_reducible apply lexA_s); (focus rfl); (focus ((simp only [Act.put, List.setIfInBounds_toArray, List.set_cons_zero, List.set_cons_succ]; rfl)))) | ((with_reducible apply lexA_a); (focus rfl); (focus rfl); (focus rfl); (focus (intro w' hS; skip; simp [go_sem, effAt, ↓IntWalk.iteOmega, *]; (try go_ints); (first | (with_reducible exact effUpon_val) | (with_reducible exact effUpon_skip)))); (focus ((simp only [Act.put, List.setIfInBounds_toArray, List.set_cons_zero, List.set_cons_succ]; rfl)))))
              with_reducible apply lexA_e (fun w' => SB w' g pad (swp dk (j + 1) (j)) ∧ World.grownBy w1 w' (some g))
              (focus (first | exact wanted_none rfl | exact wanted_yes rfl rfl rfl))
              focus rfl
              focus
                rintro w' ⟨hB', hg'⟩
                have hf_d := hB'.frozen
                have hc_d := hB'.cell
                obtain ⟨z, hz⟩ := SZ.out
                simp [go_sem, effAt, *]
                exact ⟨rfl, by have h := hB'.set_ (j) (.int .u8 y1); rw [SW.out] at h; exact h, grown_set hg'⟩
              focus exact fun _ _ => trivial
              (focus (first | (apply put_some rfl; focus (conv => lhs; dsimp only [List.set_cons_zero, List.set_cons_succ]) <;> rfl) | exact put_none rfl))
              with_reducible apply lexA_nil
              rintro w1n ⟨hB_n, hg_n⟩
              have hG2 := grown_trans hG hg_n
              clear hB_d hc_d hG hg_n f1 f2
              have hB_d := hB_n
              have hG := hG2
              clear hB_n hG2
              have HD2 := Lib.hid (show (swp dk (j + 1) j).size = n by rw [swp_size]; exact HD.out)
              clear HD SW SZ
              obtain ⟨dj, hdj⟩ : ∃ dj, swp dk (j + 1) j = dj := ⟨_, rfl⟩
              rw [hdj] at HD2 hR hB_d
              have HD := HD2
              clear HD2 hdj
              obtain ⟨ja, hja⟩ : ∃ ja, j + 1 - a = ja := ⟨_, rfl⟩
              have hjaI : (j : Int) + 1 - (a : Int) = (ja : Int) := by omega
              have hjaJ : (ja : Int) ≤ (n : Int) := by omega
              have HJA := Lib.hid hja
              obtain ⟨bi, hbi⟩ : ∃ bi, b - (j + 1) = bi := ⟨_, rfl⟩
              have hbiI : (b : Int) - ((j : Int) + 1) = (bi : Int) := by omega
              have hbiJ : (bi : Int) ≤ (n : Int) := by omega
              have HBI := Lib.hid hbi
              clear hja hbi
              by_cases hja2 : 2 ≤ ja
              case neg =>
                have hja2' : ¬ 2 ≤ (ja : Int) := by omega
                rw [fd_no HJA.out hja2] at hR
                have Fw1n : Below w1n.heap.size w1n w1n := Below.refl _ _
                repeat (first | with_reducible apply wpList_nil | with_reducible apply seq_region | with_reducible apply wp_region_lit | with_reducible apply wp_seq | ((with_reducible apply seq_q); (focus rfl); (focus (simp [go_sem, effAt, ↓IntWalk.iteOmega, *]; (try go_ints); (first | (with_reducible exact effUpon_val) | (with_reducible exact effUpon_skip)))); (focus ((simp only [Act.put, List.setIfInBounds_toArray, List.set_cons_zero, List.set_cons_succ]; rfl)))) | ((with_reducible apply seq_s); (focus rfl); (focus ((simp only [Act.put, List.setIfInBounds_toArray, List.set_cons_zero, List.set_cons_succ]; rfl)))) | with_reducible apply wp_block | with_reducible apply wp_skip | with_reducible apply wp_exit | with_reducible apply wp_ret | ((with_reducible apply wp_cond_true); (focus (first | rfl | (simp [go_sem, *]; done)))) | ((with_reducible apply wp_cond_false); (focus (first | rfl | (simp [go_sem, *]; done)))) | (simp only [Exit.then, Exit.inBlock, ↓reduceIte, Nat.reduceEqDiff]))
                by_cases hbi2 : 2 ≤ bi
                case neg =>
                  have hbi2' : ¬ 2 ≤ (bi : Int) := by omega
                  rw [fu_no HBI.out hbi2] at hR
                  have Fw1n : Below w1n.heap.size w1n w1n := Below.refl _ _
                  repeat (first | with_reducible apply wpList_nil | with_reducible apply seq_region | with_reducible apply wp_region_lit | with_reducible apply wp_seq | ((with_reducible apply seq_q); (focus rfl); (focus (simp [go_sem, effAt, ↓IntWalk.iteOmega, *]; (try go_ints); (first | (with_reducible exact effUpon_val) | (with_reducible exact effUpon_skip)))); (focus ((simp only [Act.put, List.setIfInBounds_toArray, List.set_cons_zero, List.set_cons_succ]; rfl)))) | ((with_reducible apply seq_s); (focus rfl); (focus ((simp only [Act.put, List.setIfInBounds_toArray, List.set_cons_zero, List.set_cons_succ]; rfl)))) | with_reducible apply wp_block | with_reducible apply wp_skip | with_reducible apply wp_exit | with_reducible apply wp_ret | ((with_reducible apply wp_cond_true); (focus (first | rfl | (simp [go_sem, *]; done)))) | ((with_reducible apply wp_cond_false); (focus (first | rfl | (simp [go_sem, *]; done)))) | (simp only [Exit.then, Exit.inBlock, ↓reduceIte, Nat.reduceEqDiff]))
                  refine hK _ _ (Handed.intro s ?measure (hJ _ _ _ ?_))
                  rotate_left
                  (repeat apply Exists.intro)
                  refine ⟨?rel, rfl⟩
                  case rel => exact ⟨st + 1, s, j, dj, by first | rfl | go_num, by first | rfl | go_num, by have := HST.out; omega, Nat.le_refl _, by omega, by omega, HD.out, hR, hB_d, hG⟩
                  case measure => omega
                case pos =>
                  have hbi2' : 2 ≤ (bi : Int) := by omega
                  rw [fu_go HBI.out hbi2] at hR
                  have Fw1n : Below w1n.heap.size w1n w1n := Below.refl _ _
                  repeat (first | with_reducible apply wpList_nil | with_reducible apply seq_region | with_reducible apply wp_region_lit | with_reducible apply wp_seq | ((with_reducible apply seq_q); (focus rfl); (focus (simp [go_sem, effAt, ↓IntWalk.iteOmega, *]; (try go_ints); (first | (with_reducible exact effUpon_val) | (with_reducible exact effUpon_skip)))); (focus ((simp only [Act.put, List.setIfInBounds_toArray, List.set_cons_zero, List.set_cons_succ]; rfl)))) | ((with_reducible apply seq_s); (focus rfl); (focus ((simp only [Act.put, List.setIfInBounds_toArray, List.set_cons_zero, List.set_cons_succ]; rfl)))) | with_reducible apply wp_block | with_reducible apply wp_skip | with_reducible apply wp_exit | with_reducible apply wp_ret | ((with_reducible apply wp_cond_true); (focus (first | rfl | (simp [go_sem, *]; done)))) | ((with_reducible apply wp_cond_false); (focus (first | rfl | (simp [go_sem, *]; done)))) | (simp only [Exit.then, Exit.inBlock, ↓reduceIte, Nat.reduceEqDiff]))
                  go_loopg [10] (b + 1) (fun q v10 wr => ∃ (k : Nat) (dz : Array Int), v10 = .int .i64 ((k : Int) + 1) ∧ k + 1 ≤ b ∧ b ≤ k + 1 + q ∧ dz.size = n ∧ partialIns ltInt a b s (j + 1) (shiftUp ltInt b (k + 1) dz) = R ∧ SB wr g pad dz ∧ w.grownBy wr (some g))
                  case atStart => exact ⟨j + 1, dj, by go_num, by have := HBI.out; omega, by omega, HD.out, hR, hB_d, hG⟩
                  case round =>
                    rename_i UJ UK hUJ hUK
                    clear hR hB_d hG HD
                    obtain ⟨k, dj, rfl, hk1, hk2, hdz, hR, hB_d, hG⟩ := hrel
                    have HD := Lib.hid hdz
                    clear hdz
                    by_cases hc : k + 1 < b
                    case neg =>
                      have hc' : ¬ (k : Int) + 1 < (b : Int) := by omega
                      rw [sup_end hc] at hR
                      clear hUJ hUK
                      skip
                      have Fwr : Below wr.heap.size wr wr := Below.refl _ _
                      repeat (first | with_reducible apply wpList_nil | with_reducible apply seq_region | with_reducible apply wp_region_lit | with_reducible apply wp_seq | ((with_reducible apply seq_q); (focus rfl); (focus (simp [go_sem, effAt, ↓IntWalk.iteOmega, *]; (try go_ints); (first | (with_reducible exact effUpon_val) | (with_reducible exact effUpon_skip)))); (focus ((simp only [Act.put, List.setIfInBounds_toArray, List.set_cons_zero, List.set_cons_succ]; rfl)))) | ((with_reducible apply seq_s); (focus rfl); (focus ((simp only [Act.put, List.setIfInBounds_toArray, List.set_cons_zero, List.set_cons_succ]; rfl)))) | with_reducible apply wp_block | with_reducible apply wp_skip | with_reducible apply wp_exit | with_reducible apply wp_ret | ((with_reducible apply wp_cond_true); (focus (first | rfl | (simp [go_sem, *]; done)))) | ((with_reducible apply wp_cond_false); (focus (first | rfl | (simp [go_sem, *]; done)))) | (simp only [Exit.then, Exit.inBlock, ↓reduceIte, Nat.reduceEqDiff]))
                      refine hK _ _ (Handed.intro s ?measure (hJ _ _ _ ?_))
                      rotate_left
                      (repeat apply Exists.intro)
                      refine ⟨?rel, rfl⟩
                      case rel => exact ⟨st + 1, s, j, dj, by first | rfl | go_num, by first | rfl | go_num, by have := HST.out; omega, Nat.le_refl _, by omega, by omega, HD.out, hR, hB_d, hG⟩
                      case measure => omega
                    case pos =>
                      have hc' : (k : Int) + 1 < (b : Int) := by omega
                      have hkn : (k : Int) + 1 < (n : Int) := by omega
                      obtain ⟨x, hx⟩ : ∃ x, dj[k + 1]! = x := ⟨_, rfl⟩
                      obtain ⟨y, hy⟩ : ∃ y, dj[k]! = y := ⟨_, rfl⟩
                      have e1 := cellsS_get pad (show k + 1 < dj.size by have := HD.out; omega) hx
                      have e2 := cellsS_get pad (show k < dj.size by have := HD.out; omega) hy
                      have hL := less_any x y
                      obtain ⟨l0, hl0⟩ : ∃ l, ltInt x y = l := ⟨_, rfl⟩
                      rw [hl0] at hL
                      rw [← hx, ← hy] at hl0
                      have HL := Lib.hid hl0
                      clear hl0 hx hy
                      cases l0 with
                      | false =>
                        rw [sup_stop hc HL.out] at hR
                        clear hUJ hUK
                        skip
                        have Fwr : Below wr.heap.size wr wr := Below.refl _ _
                        have hc_d := hB_d.cell
                        repeat (first | with_reducible apply wpList_nil | with_reducible apply seq_region | with_reducible apply wp_region_lit | with_reducible apply wp_seq | ((with_reducible apply seq_q); (focus rfl); (focus (simp [go_sem, effAt, ↓IntWalk.iteOmega, *]; (try go_ints); (first | (with_reducible exact effUpon_val) | (with_reducible exact effUpon_skip)))); (focus ((simp only [Act.put, List.setIfInBounds_toArray, List.set_cons_zero, List.set_cons_succ]; rfl)))) | ((with_reducible apply seq_s); (focus rfl); (focus ((simp only [Act.put, List.setIfInBounds_toArray, List.set_cons_zero, List.set_cons_succ]; rfl)))) | with_reducible apply wp_block | with_reducible apply wp_skip | with_reducible apply wp_exit | with_reducible apply wp_ret | ((with_reducible apply wp_cond_true); (focus (first | rfl | (simp [go_sem, *]; done)))) | ((with_reducible apply wp_cond_false); (focus (first | rfl | (simp [go_sem, *]; done)))) | (simp only [Exit.then, Exit.inBlock, ↓reduceIte, Nat.reduceEqDiff]))
                        refine wp_region_pure (E := fun i => [9].contains i) (by kernel_rfl) (by kernel_rfl) ?_
                        repeat (first | ((with_reducible apply lex_q); (focus rfl); (focus rfl); (focus (intro w' hS; have hc_d := (hB_d.below hS hB_d.lt).cell; simp [go_sem, effAt, ↓IntWalk.iteOmega, *]; (try go_ints); (first | (with_reducible exact effUpon_val) | (with_reducible exact effUpon_skip)))); (focus ((simp only [Act.put, List.setIfInBounds_toArray, List.set_cons_zero, List.set_cons_succ]; rfl)))) | ((with_reducible apply lex_s); (focus rfl); (focus ((simp only [Act.put, List.setIfInBounds_toArray, List.set_cons_zero, List.set_cons_succ]; rfl)))))
                        ((with_reducible apply lex_e (Below wr.heap.size wr)); (focus rfl); (focus rfl); (focus (intro w' hS; simp only [effAt]; simp [go_sem]; (with_reducible exact eff_call hS (hL _)))); (focus (exact fun _ h => h)); (focus ((simp only [Act.put, List.setIfInBounds_toArray, List.set_cons_zero, List.set_cons_succ]; rfl))))
                        repeat (first | ((with_reducible apply lex_q); (focus rfl); (focus rfl); (focus (intro w' hS; have hc_d := (hB_d.below hS hB_d.lt).cell; simp [go_sem, effAt, ↓IntWalk.iteOmega, *]; (try go_ints); (first | (with_reducible exact effUpon_val) | (with_reducible exact effUpon_skip)))); (focus ((simp only [Act.put, List.setIfInBounds_toArray, List.set_cons_zero, List.set_cons_succ]; rfl)))) | ((with_reducible apply lex_s); (focus rfl); (focus ((simp only [Act.put, List.setIfInBounds_toArray, List.set_cons_zero, List.set_cons_succ]; rfl)))))
                        with_reducible apply lex_nil
                        intro w1 hs
                        have Fw1 := Fwr.trans (hs.mono Fwr.size)
                        replace hB_d := hB_d.below hs hB_d.lt
                        clear hs Fwr
                        clear hc_d; have hc_d := hB_d.cell
                        repeat (first | with_reducible apply wpList_nil | with_reducible apply seq_region | with_reducible apply wp_region_lit | with_reducible apply wp_seq | ((with_reducible apply seq_q); (focus rfl); (focus (simp [go_sem, effAt, ↓IntWalk.iteOmega, *]; (try go_ints); (first | (with_reducible exact effUpon_val) | (with_reducible exact effUpon_skip)))); (focus ((simp only [Act.put, List.setIfInBounds_toArray, List.set_cons_zero, List.set_cons_succ]; rfl)))) | ((with_reducible apply seq_s); (focus rfl); (focus ((simp only [Act.put, List.setIfInBounds_toArray, List.set_cons_zero, List.set_cons_succ]; rfl)))) | with_reducible apply wp_block | with_reducible apply wp_skip | with_reducible apply wp_exit | with_reducible apply wp_ret | ((with_reducible apply wp_cond_true); (focus (first | rfl | (simp [go_sem, *]; done)))) | ((with_reducible apply wp_cond_false); (focus (first | rfl | (simp [go_sem, *]; done)))) | (simp only [Exit.then, Exit.inBlock, ↓reduceIte, Nat.reduceEqDiff]))
                        have hG2 := grown_trans hG (grown_below (by assumption : Below wr.heap.size wr w1) _)
                        clear hG
                        have hG := hG2
                        clear hG2 hc_d
                        refine hK _ _ (Handed.intro s ?measure (hJ _ _ _ ?_))
                        rotate_left
                        (repeat apply Exists.intro)
                        refine ⟨?rel, rfl⟩
                        case rel => exact ⟨st + 1, s, j, dj, by first | rfl | go_num, by first | rfl | go_num, by have := HST.out; omega, Nat.le_refl _, by omega, by omega, HD.out, hR, hB_d, hG⟩
                        case measure => omega
                      | true =>
                        rw [sup_go hc HL.out] at hR
                        skip
                        have Fwr : Below wr.heap.size wr wr := Below.refl _ _
                        have hc_d := hB_d.cell
                        repeat (first | with_reducible apply wpList_nil | with_reducible apply seq_region | with_reducible apply wp_region_lit | with_reducible apply wp_seq | ((with_reducible apply seq_q); (focus rfl); (focus (simp [go_sem, effAt, ↓IntWalk.iteOmega, *]; (try go_ints); (first | (with_reducible exact effUpon_val) | (with_reducible exact effUpon_skip)))); (focus ((simp only [Act.put, List.setIfInBounds_toArray, List.set_cons_zero, List.set_cons_succ]; rfl)))) | ((with_reducible apply seq_s); (focus rfl); (focus ((simp only [Act.put, List.setIfInBounds_toArray, List.set_cons_zero, List.set_cons_succ]; rfl)))) | with_reducible apply wp_block | with_reducible apply wp_skip | with_reducible apply wp_exit | with_reducible apply wp_ret | ((with_reducible apply wp_cond_true); (focus (first | rfl | (simp [go_sem, *]; done)))) | ((with_reducible apply wp_cond_false); (focus (first | rfl | (simp [go_sem, *]; done)))) | (simp only [Exit.then, Exit.inBlock, ↓reduceIte, Nat.reduceEqDiff]))
                        refine wp_region_pure (E := fun i => [9].contains i) (by kernel_rfl) (by kernel_rfl) ?_
                        repeat (first | ((with_reducible apply lex_q); (focus rfl); (focus rfl); (focus (intro w' hS; have hc_d := (hB_d.below hS hB_d.lt).cell; simp [go_sem, effAt, ↓IntWalk.iteOmega, *]; (try go_ints); (first | (with_reducible exact effUpon_val) | (with_reducible exact effUpon_skip)))); (focus ((simp only [Act.put, List.setIfInBounds_toArray, List.set_cons_zero, List.set_cons_succ]; rfl)))) | ((with_reducible apply lex_s); (focus rfl); (focus ((simp only [Act.put, List.setIfInBounds_toArray, List.set_cons_zero, List.set_cons_succ]; rfl)))))
                        ((with_reducible apply lex_e (Below wr.heap.size wr)); (focus rfl); (focus rfl); (focus (intro w' hS; simp only [effAt]; simp [go_sem]; (with_reducible exact eff_call hS (hL _)))); (focus (exact fun _ h => h)); (focus ((simp only [Act.put, List.setIfInBounds_toArray, List.set_cons_zero, List.set_cons_succ]; rfl))))
                        repeat (first | ((with_reducible apply lex_q); (focus rfl); (focus rfl); (focus (intro w' hS; have hc_d := (hB_d.below hS hB_d.lt).cell; simp [go_sem, effAt, ↓IntWalk.iteOmega, *]; (try go_ints); (first | (with_reducible exact effUpon_val) | (with_reducible exact effUpon_skip)))); (focus ((simp only [Act.put, List.setIfInBounds_toArray, List.set_cons_zero, List.set_cons_succ]; rfl)))) | ((with_reducible apply lex_s); (focus rfl); (focus ((simp only [Act.put, List.setIfInBounds_toArray, List.set_cons_zero, List.set_cons_succ]; rfl)))))
                        with_reducible apply lex_nil
                        intro w1 hs
                        have Fw1 := Fwr.trans (hs.mono Fwr.size)
                        replace hB_d := hB_d.below hs hB_d.lt
                        clear hs Fwr
                        clear hc_d; have hc_d := hB_d.cell
                        repeat (first | with_reducible apply wpList_nil | with_reducible apply seq_region | with_reducible apply wp_region_lit | with_reducible apply wp_seq | ((with_reducible apply seq_q); (focus rfl); (focus (simp [go_sem, effAt, ↓IntWalk.iteOmega, *]; (try go_ints); (first | (with_reducible exact effUpon_val) | (with_reducible exact effUpon_skip)))); (focus ((simp only [Act.put, List.setIfInBounds_toArray, List.set_cons_zero, List.set_cons_succ]; rfl)))) | ((with_reducible apply seq_s); (focus rfl); (focus ((simp only [Act.put, List.setIfInBounds_toArray, List.set_cons_zero, List.set_cons_succ]; rfl)))) | with_reducible apply wp_block | with_reducible apply wp_skip | with_reducible apply wp_exit | with_reducible apply wp_ret | ((with_reducible apply wp_cond_true); (focus (first | rfl | (simp [go_sem, *]; done)))) | ((with_reducible apply wp_cond_false); (focus (first | rfl | (simp [go_sem, *]; done)))) | (simp only [Exit.then, Exit.inBlock, ↓reduceIte, Nat.reduceEqDiff]))
                        have hG2 := grown_trans hG (grown_below (by assumption : Below wr.heap.size wr w1) _)
                        clear hG
                        have hG := hG2
                        clear hG2 hc_d
                        clear e1 e2 hL HL
                        have Fw1 : Below w1.heap.size w1 w1 := Below.refl _ _
                        obtain ⟨y1, hy1⟩ : ∃ x, dj[k + 1]! = x := ⟨_, rfl⟩
                        obtain ⟨y2, hy2⟩ : ∃ x, dj[k]! = x := ⟨_, rfl⟩
                        have f2 := cellsS_get pad (show k < dj.size by have := HD.out; omega) hy2
                        have f1 := cellsS_get pad (show k + 1 < dj.size by have := HD.out; omega) hy1
                        have SW := Lib.hid (cellsS_swp pad (i := k + 1) (j := k) (by have := HD.out; omega) (by have := HD.out; omega) hy1 hy2)
                        have SZ := Lib.hid (cellsS_get2 (d := dj) pad (i := k + 1) (j := k) y2 (by have := HD.out; omega) (by have := HD.out; omega))
                        clear hy1 hy2
                        have hc_d := hB_d.cell
                        repeat (first | with_reducible apply wpList_nil | with_reducible apply seq_region | with_reducible apply wp_region_lit | with_reducible apply wp_seq | ((with_reducible apply seq_q); (focus rfl); (focus (simp [go_sem, effAt, ↓IntWalk.iteOmega, *]; (try go_ints); (first | (with_reducible exact effUpon_val) | (with_reducible exact effUpon_skip)))); (focus ((simp only [Act.put, List.setIfInBounds_toArray, List.set_cons_zero, List.set_cons_succ]; rfl)))) | ((with_reducible apply seq_s); (focus rfl); (focus ((simp only [Act.put, List.setIfInBounds_toArray, List.set_cons_zero, List.set_cons_succ]; rfl)))) | with_reducible apply wp_block | with_reducible apply wp_skip | with_reducible apply wp_exit | with_reducible apply wp_ret | ((with_reducible apply wp_cond_true); (focus (first | rfl | (simp [go_sem, *]; done)))) | ((with_reducible apply wp_cond_false); (focus (first | rfl | (simp [go_sem, *]; done)))) | (simp only [Exit.then, Exit.inBlock, ↓reduceIte, Nat.reduceEqDiff]))
                        refine wp_region_effA (S := fun _ => True) (I := (· = World.drew w1)) (E := fun i => [15, 17].contains i) (A := fun i => [9, 13].contains i) (by kernel_rfl) (by kernel_rfl) rfl (fun _ _ => trivial) ?_
                        repeat (first | ((with_reducible apply lexA_q); (focus rfl); (focus rfl); (focus rfl); (focus (intro w' hS; simp [go_sem, effAt, ↓IntWalk.iteOmega, *]; (try go_ints); (first | (with_reducible exact effUpon_val) | (with_reducible exact effUpon_skip)))); (focus ((simp only [Act.put, List.setIfInBounds_toArray, List.set_cons_zero, List.set_cons_succ]; rfl)))) | ((with_reducible apply lexA_s); (focus rfl); (focus ((simp only [Act.put, List.setIfInBounds_toArray, List.set_cons_zero, List.set_cons_succ]; rfl)))) | ((with_reducible apply lexA_a); (focus rfl); (focus rfl); (focus rfl); (focus (intro w' hS; subst hS; simp [go_sem, effAt, ↓IntWalk.iteOmega, *]; (try go_ints); (first | (with_reducible exact effUpon_val) | (with_reducible exact effUpon_skip)))); (focus ((simp only [Act.put, List.setIfInBounds_toArray, List.set_cons_zero, List.set_cons_succ]; rfl)))))
                        with_reducible apply lexA_e (fun w' => Blk w' g 5 ((cellsS pad dj).setIfInBounds (k + 1) (.int .u8 y2)) ∧ World.grownBy w1 w' (some g))
                        (focus (first | exact wanted_none rfl | exact wanted_yes rfl rfl rfl))
                        focus rfl
                        focus
                          intro w' hS
                          subst hS
                          have hf_d := hB_d.frozen
                          simp [go_sem, effAt, *]
                          exact ⟨rfl, hB_d.drew.set_ (k + 1) _, grown_undrew (grown_set (World.grownBy.refl _ _))⟩
                        focus exact fun _ _ => trivial
                        (focus (first | (apply put_some rfl; focus (conv => lhs; dsimp only [List.set_cons_zero, List.set_cons_succ]) <;> rfl) | exact put_none rfl))
                        repeat (first | ((with_reducible apply lexA_q); (focus rfl); (focus rfl); (focus rfl); (focus (intro w' hS; simp [go_sem, effAt, ↓IntWalk.iteOmega, *]; (try go_ints); (first | (with_reducible exact effUpon_val) | (with_reducible exact effUpon_skip)))); (focus ((simp only [Act.put, List.setIfInBounds_toArray, List.set_cons_zero, List.set_cons_succ]; rfl)))) | ((with_reducible apply lexA_s); (focus rfl); (focus ((simp only [Act.put, List.setIfInBounds_toArray, List.set_cons_zero, List.set_cons_succ]; rfl)))) | ((with_reducible apply lexA_a); (focus rfl); (focus rfl); (focus rfl); (focus (intro w' hS; skip; simp [go_sem, effAt, ↓IntWalk.iteOmega, *]; (try go_ints); (first | (with_reducible exact effUpon_val) | (with_reducible exact effUpon_skip)))); (focus ((simp only [Act.put, List.setIfInBounds_toArray, List.set_cons_zero, List.set_cons_succ]; rfl)))))
                        with_reducible apply lexA_e (fun w' => SB w' g pad (swp dj (k + 1) (k)) ∧ World.grownBy w1 w' (some g))
                        (focus (first | exact wanted_none rfl | exact wanted_yes rfl rfl rfl))
                        focus rfl
                        focus
                          rintro w' ⟨hB', hg'⟩
                          have hf_d := hB'.frozen
                          have hc_d := hB'.cell
                          obtain ⟨z, hz⟩ := SZ.out
                          simp [go_sem, effAt, *]
                          exact ⟨rfl, by have h := hB'.set_ (k) (.int .u8 y1); rw [SW.out] at h; exact h, grown_set hg'⟩
                        focus exact fun _ _ => trivial
                        (focus (first | (apply put_some rfl; focus (conv => lhs; dsimp only [List.set_cons_zero, List.set_cons_succ]) <;> rfl) | exact put_none rfl))
                        with_reducible apply lexA_nil
                        rintro w1n ⟨hB_n, hg_n⟩
                        have hG2 := grown_trans hG hg_n
                        clear hB_d hc_d hG hg_n f1 f2
                        have hB_d := hB_n
                        have hG := hG2
                        clear hB_n hG2
                        have Fw1n : Below w1n.heap.size w1n w1n := Below.refl _ _
                        repeat (first | with_reducible apply wpList_nil | with_reducible apply seq_region | with_reducible apply wp_region_lit | with_reducible apply wp_seq | ((with_reducible apply seq_q); (focus rfl); (focus (simp [go_sem, effAt, ↓IntWalk.iteOmega, *]; (try go_ints); (first | (with_reducible exact effUpon_val) | (with_reducible exact effUpon_skip)))); (focus ((simp only [Act.put, List.setIfInBounds_toArray, List.set_cons_zero, List.set_cons_succ]; rfl)))) | ((with_reducible apply seq_s); (focus rfl); (focus ((simp only [Act.put, List.setIfInBounds_toArray, List.set_cons_zero, List.set_cons_succ]; rfl)))) | with_reducible apply wp_block | with_reducible apply wp_skip | with_reducible apply wp_exit | with_reducible apply wp_ret | ((with_reducible apply wp_cond_true); (focus (first | rfl | (simp [go_sem, *]; done)))) | ((with_reducible apply wp_cond_false); (focus (first | rfl | (simp [go_sem, *]; done)))) | (simp only [Exit.then, Exit.inBlock, ↓reduceIte, Nat.reduceEqDiff]))
                        refine hUK _ _ (Handed.intro (b - (k + 1 + 1)) ?measure (hUJ _ _ _ ?_))
                        rotate_left
                        (repeat apply Exists.intro)
                        refine ⟨?rel, rfl⟩
                        case rel => exact ⟨k + 1, swp dj (k + 1) k, by go_num, by omega, by omega, by rw [swp_size]; exact HD.out, hR, hB_d, hG⟩
                        case measure => omega
              case pos =>
                have hja2' : 2 ≤ (ja : Int) := by omega
                rw [fd_go HJA.out hja2] at hR
                have Fw1n : Below w1n.heap.size w1n w1n := Below.refl _ _
                repeat (first | with_reducible apply wpList_nil | with_reducible apply seq_region | with_reducible apply wp_region_lit | with_reducible apply wp_seq | ((with_reducible apply seq_q); (focus rfl); (focus (simp [go_sem, effAt, ↓IntWalk.iteOmega, *]; (try go_ints); (first | (with_reducible exact effUpon_val) | (with_reducible exact effUpon_skip)))); (focus ((simp only [Act.put, List.setIfInBounds_toArray, List.set_cons_zero, List.set_cons_succ]; rfl)))) | ((with_reducible apply seq_s); (focus rfl); (focus ((simp only [Act.put, List.setIfInBounds_toArray, List.set_cons_zero, List.set_cons_succ]; rfl)))) | with_reducible apply wp_block | with_reducible apply wp_skip | with_reducible apply wp_exit | with_reducible apply wp_ret | ((with_reducible apply wp_cond_true); (focus (first | rfl | (simp [go_sem, *]; done)))) | ((with_reducible apply wp_cond_false); (focus (first | rfl | (simp [go_sem, *]; done)))) | (simp only [Exit.then, Exit.inBlock, ↓reduceIte, Nat.reduceEqDiff]))
                go_loopg [9] (j + 1) (fun q v9 wr => ∃ (k : Nat) (dz : Array Int), v9 = .int .i64 (k : Int) ∧ k ≤ j ∧ k ≤ q ∧ dz.size = n ∧ partialIns ltInt a b s (j + 1) (fixUp ltInt b (j + 1) (shiftDown ltInt k dz)) = R ∧ SB wr g pad dz ∧ w.grownBy wr (some g))
                case atStart => exact ⟨j, dj, by first | rfl | go_num, Nat.le_refl _, by omega, HD.out, hR, hB_d, hG⟩
                case round =>
                  rename_i DJ DK hDJ hDK
                  clear hR hB_d hG HD
                  obtain ⟨k, dj, rfl, hk1, hk2, hdz, hR, hB_d, hG⟩ := hrel
                  have HD := Lib.hid hdz
                  clear hdz
                  by_cases hc : 1 ≤ k
                  case neg =>
                    have hc' : ¬ 1 ≤ (k : Int) := by omega
                    rw [sdn_low hc] at hR
                    clear hDJ hDK
                    skip
                    have Fwr : Below wr.heap.size wr wr := Below.refl _ _
                    repeat (first | with_reducible apply wpList_nil | with_reducible apply seq_region | with_reducible apply wp_region_lit | with_reducible apply wp_seq | ((with_reducible apply seq_q); (focus rfl); (focus (simp [go_sem, effAt, ↓IntWalk.iteOmega, *]; (try go_ints); (first | (with_reducible exact effUpon_val) | (with_reducible exact effUpon_skip)))); (focus ((simp only [Act.put, List.setIfInBounds_toArray, List.set_cons_zero, List.set_cons_succ]; rfl)))) | ((with_reducible apply seq_s); (focus rfl); (focus ((simp only [Act.put, List.setIfInBounds_toArray, List.set_cons_zero, List.set_cons_succ]; rfl)))) | with_reducible apply wp_block | with_reducible apply wp_skip | with_reducible apply wp_exit | with_reducible apply wp_ret | ((with_reducible apply wp_cond_true); (focus (first | rfl | (simp [go_sem, *]; done)))) | ((with_reducible apply wp_cond_false); (focus (first | rfl | (simp [go_sem, *]; done)))) | (simp only [Exit.then, Exit.inBlock, ↓reduceIte, Nat.reduceEqDiff]))
                    by_cases hbi2 : 2 ≤ bi
                    case neg =>
                      have hbi2' : ¬ 2 ≤ (bi : Int) := by omega
                      rw [fu_no HBI.out hbi2] at hR
                      have Fwr : Below wr.heap.size wr wr := Below.refl _ _
                      repeat (first | with_reducible apply wpList_nil | with_reducible apply seq_region | with_reducible apply wp_region_lit | with_reducible apply wp_seq | ((with_reducible apply seq_q); (focus rfl); (focus (simp [go_sem, effAt, ↓IntWalk.iteOmega, *]; (try go_ints); (first | (with_reducible exact effUpon_val) | (with_reducible exact effUpon_skip)))); (focus ((simp only [Act.put, List.setIfInBounds_toArray, List.set_cons_zero, List.set_cons_succ]; rfl)))) | ((with_reducible apply seq_s); (focus rfl); (focus ((simp only [Act.put, List.setIfInBounds_toArray, List.set_cons_zero, List.set_cons_succ]; rfl)))) | with_reducible apply wp_block | with_reducible apply wp_skip | with_reducible apply wp_exit | with_reducible apply wp_ret | ((with_reducible apply wp_cond_true); (focus (first | rfl | (simp [go_sem, *]; done)))) | ((with_reducible apply wp_cond_false); (focus (first | rfl | (simp [go_sem, *]; done)))) | (simp only [Exit.then, Exit.inBlock, ↓reduceIte, Nat.reduceEqDiff]))
                      refine hK _ _ (Handed.intro s ?measure (hJ _ _ _ ?_))
                      rotate_left
                      (repeat apply Exists.intro)
                      refine ⟨?rel, rfl⟩
                      case rel => exact ⟨st + 1, s, j, dj, by first | rfl | go_num, by first | rfl | go_num, by have := HST.out; omega, Nat.le_refl _, by omega, by omega, HD.out, hR, hB_d, hG⟩
                      case measure => omega
                    case pos =>
                      have hbi2' : 2 ≤ (bi : Int) := by omega
                      rw [fu_go HBI.out hbi2] at hR
                      have Fwr : Below wr.heap.size wr wr := Below.refl _ _
                      repeat (first | with_reducible apply wpList_nil | with_reducible apply seq_region | with_reducible apply wp_region_lit | with_reducible apply wp_seq | ((with_reducible apply seq_q); (focus rfl); (focus (simp [go_sem, effAt, ↓IntWalk.iteOmega, *]; (try go_ints); (first | (with_reducible exact effUpon_val) | (with_reducible exact effUpon_skip)))); (focus ((simp only [Act.put, List.setIfInBounds_toArray, List.set_cons_zero, List.set_cons_succ]; rfl)))) | ((with_reducible apply seq_s); (focus rfl); (focus ((simp only [Act.put, List.setIfInBounds_toArray, List.set_cons_zero, List.set_cons_succ]; rfl)))) | with_reducible apply wp_block | with_reducible apply wp_skip | with_reducible apply wp_exit | with_reducible apply wp_ret | ((with_reducible apply wp_cond_true); (focus (first | rfl | (simp [go_sem, *]; done)))) | ((with_reducible apply wp_cond_false); (focus (first | rfl | (simp [go_sem, *]; done)))) | (simp only [Exit.then, Exit.inBlock, ↓reduceIte, Nat.reduceEqDiff]))
                      go_loopg [10] (b + 1) (fun q v10 wr => ∃ (k : Nat) (dz : Array Int), v10 = .int .i64 ((k : Int) + 1) ∧ k + 1 ≤ b ∧ b ≤ k + 1 + q ∧ dz.size = n ∧ partialIns ltInt a b s (j + 1) (shiftUp ltInt b (k + 1) dz) = R ∧ SB wr g pad dz ∧ w.grownBy wr (some g))
                      case atStart => exact ⟨j + 1, dj, by go_num, by have := HBI.out; omega, by omega, HD.out, hR, hB_d, hG⟩
                      case round =>
                        rename_i UJ UK hUJ hUK
                        clear hR hB_d hG HD
                        obtain ⟨k, dj, rfl, hk1, hk2, hdz, hR, hB_d, hG⟩ := hrel
                        have HD := Lib.hid hdz
                        clear hdz
                        by_cases hc : k + 1 < b
                        case neg =>
                          have hc' : ¬ (k : Int) + 1 < (b : Int) := by omega
                          rw [sup_end hc] at hR
                          clear hUJ hUK
                          skip
                          have Fwr : Below wr.heap.size wr wr := Below.refl _ _
                          repeat (first | with_reducible apply wpList_nil | with_reducible apply seq_region | with_reducible apply wp_region_lit | with_reducible apply wp_seq | ((with_reducible apply seq_q); (focus rfl); (focus (simp [go_sem, effAt, ↓IntWalk.iteOmega, *]; (try go_ints); (first | (with_reducible exact effUpon_val) | (with_reducible exact effUpon_skip)))); (focus ((simp only [Act.put, List.setIfInBounds_toArray, List.set_cons_zero, List.set_cons_succ]; rfl)))) | ((with_reducible apply seq_s); (focus rfl); (focus ((simp only [Act.put, List.setIfInBounds_toArray, List.set_cons_zero, List.set_cons_succ]; rfl)))) | with_reducible apply wp_block | with_reducible apply wp_skip | with_reducible apply wp_exit | with_reducible apply wp_ret | ((with_reducible apply wp_cond_true); (focus (first | rfl | (simp [go_sem, *]; done)))) | ((with_reducible apply wp_cond_false); (focus (first | rfl | (simp [go_sem, *]; done)))) | (simp only [Exit.then, Exit.inBlock, ↓reduceIte, Nat.reduceEqDiff]))
                          refine hK _ _ (Handed.intro s ?measure (hJ _ _ _ ?_))
                          rotate_left
                          (repeat apply Exists.intro)
                          refine ⟨?rel, rfl⟩
                          case rel => exact ⟨st + 1, s, j, dj, by first | rfl | go_num, by first | rfl | go_num, by have := HST.out; omega, Nat.le_refl _, by omega, by omega, HD.out, hR, hB_d, hG⟩
                          case measure => omega
                        case pos =>
                          have hc' : (k : Int) + 1 < (b : Int) := by omega
                          have hkn : (k : Int) + 1 < (n : Int) := by omega
                          obtain ⟨x, hx⟩ : ∃ x, dj[k + 1]! = x := ⟨_, rfl⟩
                          obtain ⟨y, hy⟩ : ∃ y, dj[k]! = y := ⟨_, rfl⟩
                          have e1 := cellsS_get pad (show k + 1 < dj.size by have := HD.out; omega) hx
                          have e2 := cellsS_get pad (show k < dj.size by have := HD.out; omega) hy
                          have hL := less_any x y
                          obtain ⟨l0, hl0⟩ : ∃ l, ltInt x y = l := ⟨_, rfl⟩
                          rw [hl0] at hL
                          rw [← hx, ← hy] at hl0
                          have HL := Lib.hid hl0
                          clear hl0 hx hy
                          cases l0 with
                          | false =>
                            rw [sup_stop hc HL.out] at hR
                            clear hUJ hUK
                            skip
                            have Fwr : Below wr.heap.size wr wr := Below.refl _ _
                            have hc_d := hB_d.cell
                            repeat (first | with_reducible apply wpList_nil | with_reducible apply seq_region | with_reducible apply wp_region_lit | with_reducible apply wp_seq | ((with_reducible apply seq_q); (focus rfl); (focus (simp [go_sem, effAt, ↓IntWalk.iteOmega, *]; (try go_ints); (first | (with_reducible exact effUpon_val) | (with_reducible exact effUpon_skip)))); (focus ((simp only [Act.put, List.setIfInBounds_toArray, List.set_cons_zero, List.set_cons_succ]; rfl)))) | ((with_reducible apply seq_s); (focus rfl); (focus ((simp only [Act.put, List.setIfInBounds_toArray, List.set_cons_zero, List.set_cons_succ]; rfl)))) | with_reducible apply wp_block | with_reducible apply wp_skip | with_reducible apply wp_exit | with_reducible apply wp_ret | ((with_reducible apply wp_cond_true); (focus (first | rfl | (simp [go_sem, *]; done)))) | ((with_reducible apply wp_cond_false); (focus (first | rfl | (simp [go_sem, *]; done)))) | (simp only [Exit.then, Exit.inBlock, ↓reduceIte, Nat.reduceEqDiff]))
                            refine wp_region_pure (E := fun i => [9].contains i) (by kernel_rfl) (by kernel_rfl) ?_
                            repeat (first | ((with_reducible apply lex_q); (focus rfl); (focus rfl); (focus (intro w' hS; have hc_d := (hB_d.below hS hB_d.lt).cell; simp [go_sem, effAt, ↓IntWalk.iteOmega, *]; (try go_ints); (first | (with_reducible exact effUpon_val) | (with_reducible exact effUpon_skip)))); (focus ((simp only [Act.put, List.setIfInBounds_toArray, List.set_cons_zero, List.set_cons_succ]; rfl)))) | ((with_reducible apply lex_s); (focus rfl); (focus ((simp only [Act.put, List.setIfInBounds_toArray, List.set_cons_zero, List.set_cons_succ]; rfl)))))
                            ((with_reducible apply lex_e (Below wr.heap.size wr)); (focus rfl); (focus rfl); (focus (intro w' hS; simp only [effAt]; simp [go_sem]; (with_reducible exact eff_call hS (hL _)))); (focus (exact fun _ h => h)); (focus ((simp only [Act.put, List.setIfInBounds_toArray, List.set_cons_zero, List.set_cons_succ]; rfl))))
                            repeat (first | ((with_reducible apply lex_q); (focus rfl); (focus rfl); (focus (intro w' hS; have hc_d := (hB_d.below hS hB_d.lt).cell; simp [go_sem, effAt, ↓IntWalk.iteOmega, *]; (try go_ints); (first | (with_reducible exact effUpon_val) | (with_reducible exact effUpon_skip)))); (focus ((simp only [Act.put, List.setIfInBounds_toArray, List.set_cons_zero, List.set_cons_succ]; rfl)))) | ((with_reducible apply lex_s); (focus rfl); (focus ((simp only [Act.put, List.setIfInBounds_toArray, List.set_cons_zero, List.set_cons_succ]; rfl)))))
                            with_reducible apply lex_nil
                            intro w1 hs
                            have Fw1 := Fwr.trans (hs.mono Fwr.size)
                            replace hB_d := hB_d.below hs hB_d.lt
                            clear hs Fwr
                            clear hc_d; have hc_d := hB_d.cell
                            repeat (first | with_reducible apply wpList_nil | with_reducible apply seq_region | with_reducible apply wp_region_lit | with_reducible apply wp_seq | ((with_reducible apply seq_q); (focus rfl); (focus (simp [go_sem, effAt, ↓IntWalk.iteOmega, *]; (try go_ints); (first | (with_reducible exact effUpon_val) | (with_reducible exact effUpon_skip)))); (focus ((simp only [Act.put, List.setIfInBounds_toArray, List.set_cons_zero, List.set_cons_succ]; rfl)))) | ((with_reducible apply seq_s); (focus rfl); (focus ((simp only [Act.put, List.setIfInBounds_toArray, List.set_cons_zero, List.set_cons_succ]; rfl)))) | with_reducible apply wp_block | with_reducible apply wp_skip | with_reducible apply wp_exit | with_reducible apply wp_ret | ((with_reducible apply wp_cond_true); (focus (first | rfl | (simp [go_sem, *]; done)))) | ((with_reducible apply wp_cond_false); (focus (first | rfl | (simp [go_sem, *]; done)))) | (simp only [Exit.then, Exit.inBlock, ↓reduceIte, Nat.reduceEqDiff]))
                            have hG2 := grown_trans hG (grown_below (by assumption : Below wr.heap.size wr w1) _)
                            clear hG
                            have hG := hG2
                            clear hG2 hc_d
                            refine hK _ _ (Handed.intro s ?measure (hJ _ _ _ ?_))
                            rotate_left
                            (repeat apply Exists.intro)
                            refine ⟨?rel, rfl⟩
                            case rel => exact ⟨st + 1, s, j, dj, by first | rfl | go_num, by first | rfl | go_num, by have := HST.out; omega, Nat.le_refl _, by omega, by omega, HD.out, hR, hB_d, hG⟩
                            case measure => omega
                          | true =>
                            rw [sup_go hc HL.out] at hR
                            skip
                            have Fwr : Below wr.heap.size wr wr := Below.refl _ _
                            have hc_d := hB_d.cell
                            repeat (first | with_reducible apply wpList_nil | with_reducible apply seq_region | with_reducible apply wp_region_lit | with_reducible apply wp_seq | ((with_reducible apply seq_q); (focus rfl); (focus (simp [go_sem, effAt, ↓IntWalk.iteOmega, *]; (try go_ints); (first | (with_reducible exact effUpon_val) | (with_reducible exact effUpon_skip)))); (focus ((simp only [Act.put, List.setIfInBounds_toArray, List.set_cons_zero, List.set_cons_succ]; rfl)))) | ((with_reducible apply seq_s); (focus rfl); (focus ((simp only [Act.put, List.setIfInBounds_toArray, List.set_cons_zero, List.set_cons_succ]; rfl)))) | with_reducible apply wp_block | with_reducible apply wp_skip | with_reducible apply wp_exit | with_reducible apply wp_ret | ((with_reducible apply wp_cond_true); (focus (first | rfl | (simp [go_sem, *]; done)))) | ((with_reducible apply wp_cond_false); (focus (first | rfl | (simp [go_sem, *]; done)))) | (simp only [Exit.then, Exit.inBlock, ↓reduceIte, Nat.reduceEqDiff]))
                            refine wp_region_pure (E := fun i => [9].contains i) (by kernel_rfl) (by kernel_rfl) ?_
                            repeat (first | ((with_reducible apply lex_q); (focus rfl); (focus rfl); (focus (intro w' hS; have hc_d := (hB_d.below hS hB_d.lt).cell; simp [go_sem, effAt, ↓IntWalk.iteOmega, *]; (try go_ints); (first | (with_reducible exact effUpon_val) | (with_reducible exact effUpon_skip)))); (focus ((simp only [Act.put, List.setIfInBounds_toArray, List.set_cons_zero, List.set_cons_succ]; rfl)))) | ((with_reducible apply lex_s); (focus rfl); (focus ((simp only [Act.put, List.setIfInBounds_toArray, List.set_cons_zero, List.set_cons_succ]; rfl)))))
                            ((with_reducible apply lex_e (Below wr.heap.size wr)); (focus rfl); (focus rfl); (focus (intro w' hS; simp only [effAt]; simp [go_sem]; (with_reducible exact eff_call hS (hL _)))); (focus (exact fun _ h => h)); (focus ((simp only [Act.put, List.setIfInBounds_toArray, List.set_cons_zero, List.set_cons_succ]; rfl))))
                            repeat (first | ((with_reducible apply lex_q); (focus rfl); (focus rfl); (focus (intro w' hS; have hc_d := (hB_d.below hS hB_d.lt).cell; simp [go_sem, effAt, ↓IntWalk.iteOmega, *]; (try go_ints); (first | (with_reducible exact effUpon_val) | (with_reducible exact effUpon_skip)))); (focus ((simp only [Act.put, List.setIfInBounds_toArray, List.set_cons_zero, List.set_cons_succ]; rfl)))) | ((with_reducible apply lex_s); (focus rfl); (focus ((simp only [Act.put, List.setIfInBounds_toArray, List.set_cons_zero, List.set_cons_succ]; rfl)))))
                            with_reducible apply lex_nil
                            intro w1 hs
                            have Fw1 := Fwr.trans (hs.mono Fwr.size)
                            replace hB_d := hB_d.below hs hB_d.lt
                            clear hs Fwr
                            clear hc_d; have hc_d := hB_d.cell
                            repeat (first | with_reducible apply wpList_nil | with_reducible apply seq_region | with_reducible apply wp_region_lit | with_reducible apply wp_seq | ((with_reducible apply seq_q); (focus rfl); (focus (simp [go_sem, effAt, ↓IntWalk.iteOmega, *]; (try go_ints); (first | (with_reducible exact effUpon_val) | (with_reducible exact effUpon_skip)))); (focus ((simp only [Act.put, List.setIfInBounds_toArray, List.set_cons_zero, List.set_cons_succ]; rfl)))) | ((with_reducible apply seq_s); (focus rfl); (focus ((simp only [Act.put, List.setIfInBounds_toArray, List.set_cons_zero, List.set_cons_succ]; rfl)))) | with_reducible apply wp_block | with_reducible apply wp_skip | with_reducible apply wp_exit | with_reducible apply wp_ret | ((with_reducible apply wp_cond_true); (focus (first | rfl | (simp [go_sem, *]; done)))) | ((with_reducible apply wp_cond_false); (focus (first | rfl | (simp [go_sem, *]; done)))) | (simp only [Exit.then, Exit.inBlock, ↓reduceIte, Nat.reduceEqDiff]))
                            have hG2 := grown_trans hG (grown_below (by assumption : Below wr.heap.size wr w1) _)
                            clear hG
                            have hG := hG2
                            clear hG2 hc_d
                            clear e1 e2 hL HL
                            have Fw1 : Below w1.heap.size w1 w1 := Below.refl _ _
                            obtain ⟨y1, hy1⟩ : ∃ x, dj[k + 1]! = x := ⟨_, rfl⟩
                            obtain ⟨y2, hy2⟩ : ∃ x, dj[k]! = x := ⟨_, rfl⟩
                            have f2 := cellsS_get pad (show k < dj.size by have := HD.out; omega) hy2
                            have f1 := cellsS_get pad (show k + 1 < dj.size by have := HD.out; omega) hy1
                            have SW := Lib.hid (cellsS_swp pad (i := k + 1) (j := k) (by have := HD.out; omega) (by have := HD.out; omega) hy1 hy2)
                            have SZ := Lib.hid (cellsS_get2 (d := dj) pad (i := k + 1) (j := k) y2 (by have := HD.out; omega) (by have := HD.out; omega))
                            clear hy1 hy2
                            have hc_d := hB_d.cell
                            repeat (first | with_reducible apply wpList_nil | with_reducible apply seq_region | with_reducible apply wp_region_lit | with_reducible apply wp_seq | ((with_reducible apply seq_q); (focus rfl); (focus (simp [go_sem, effAt, ↓IntWalk.iteOmega, *]; (try go_ints); (first | (with_reducible exact effUpon_val) | (with_reducible exact effUpon_skip)))); (focus ((simp only [Act.put, List.setIfInBounds_toArray, List.set_cons_zero, List.set_cons_succ]; rfl)))) | ((with_reducible apply seq_s); (focus rfl); (focus ((simp only [Act.put, List.setIfInBounds_toArray, List.set_cons_zero, List.set_cons_succ]; rfl)))) | with_reducible apply wp_block | with_reducible apply wp_skip | with_reducible apply wp_exit | with_reducible apply wp_ret | ((with_reducible apply wp_cond_true); (focus (first | rfl | (simp [go_sem, *]; done)))) | ((with_reducible apply wp_cond_false); (focus (first | rfl | (simp [go_sem, *]; done)))) | (simp only [Exit.then, Exit.inBlock, ↓reduceIte, Nat.reduceEqDiff]))
                            refine wp_region_effA (S := fun _ => True) (I := (· = World.drew w1)) (E := fun i => [15, 17].contains i) (A := fun i => [9, 13].contains i) (by kernel_rfl) (by kernel_rfl) rfl (fun _ _ => trivial) ?_
                            repeat (first | ((with_reducible apply lexA_q); (focus rfl); (focus rfl); (focus rfl); (focus (intro w' hS; simp [go_sem, effAt, ↓IntWalk.iteOmega, *]; (try go_ints); (first | (with_reducible exact effUpon_val) | (with_reducible exact effUpon_skip)))); (focus ((simp only [Act.put, List.setIfInBounds_toArray, List.set_cons_zero, List.set_cons_succ]; rfl)))) | ((with_reducible apply lexA_s); (focus rfl); (focus ((simp only [Act.put, List.setIfInBounds_toArray, List.set_cons_zero, List.set_cons_succ]; rfl)))) | ((with_reducible apply lexA_a); (focus rfl); (focus rfl); (focus rfl); (focus (intro w' hS; subst hS; simp [go_sem, effAt, ↓IntWalk.iteOmega, *]; (try go_ints); (first | (with_reducible exact effUpon_val) | (with_reducible exact effUpon_skip)))); (focus ((simp only [Act.put, List.setIfInBounds_toArray, List.set_cons_zero, List.set_cons_succ]; rfl)))))
                            with_reducible apply lexA_e (fun w' => Blk w' g 5 ((cellsS pad dj).setIfInBounds (k + 1) (.int .u8 y2)) ∧ World.grownBy w1 w' (some g))
                            (focus (first | exact wanted_none rfl | exact wanted_yes rfl rfl rfl))
                            focus rfl
                            focus
                              intro w' hS
                              subst hS
                              have hf_d := hB_d.frozen
                              simp [go_sem, effAt, *]
                              exact ⟨rfl, hB_d.drew.set_ (k + 1) _, grown_undrew (grown_set (World.grownBy.refl _ _))⟩
                            focus exact fun _ _ => trivial
                            (focus (first | (apply put_some rfl; focus (conv => lhs; dsimp only [List.set_cons_zero, List.set_cons_succ]) <;> rfl) | exact put_none rfl))
                            repeat (first | ((with_reducible apply lexA_q); (focus rfl); (focus rfl); (focus rfl); (focus (intro w' hS; simp [go_sem, effAt, ↓IntWalk.iteOmega, *]; (try go_ints); (first | (with_reducible exact effUpon_val) | (with_reducible exact effUpon_skip)))); (focus ((simp only [Act.put, List.setIfInBounds_toArray, List.set_cons_zero, List.set_cons_succ]; rfl)))) | ((with_reducible apply lexA_s); (focus rfl); (focus ((simp only [Act.put, List.setIfInBounds_toArray, List.set_cons_zero, List.set_cons_succ]; rfl)))) | ((with_reducible apply lexA_a); (focus rfl); (focus rfl); (focus rfl); (focus (intro w' hS; skip; simp [go_sem, effAt, ↓IntWalk.iteOmega, *]; (try go_ints); (first | (with_reducible exact effUpon_val) | (with_reducible exact effUpon_skip)))); (focus ((simp only [Act.put, List.setIfInBounds_toArray, List.set_cons_zero, List.set_cons_succ]; rfl)))))
                            with_reducible apply lexA_e (fun w' => SB w' g pad (swp dj (k + 1) (k)) ∧ World.grownBy w1 w' (some g))
                            (focus (first | exact wanted_none rfl | exact wanted_yes rfl rfl rfl))
                            focus rfl
                            focus
                              rintro w' ⟨hB', hg'⟩
                              have hf_d := hB'.frozen
                              have hc_d := hB'.cell
                              obtain ⟨z, hz⟩ := SZ.out
                              simp [go_sem, effAt, *]
                              exact ⟨rfl, by have h := hB'.set_ (k) (.int .u8 y1); rw [SW.out] at h; exact h, grown_set hg'⟩
                            focus exact fun _ _ => trivial
                            (focus (first | (apply put_some rfl; focus (conv => lhs; dsimp only [List.set_cons_zero, List.set_cons_succ]) <;> rfl) | exact put_none rfl))
                            with_reducible apply lexA_nil
                            rintro w1n ⟨hB_n, hg_n⟩
                            have hG2 := grown_trans hG hg_n
                            clear hB_d hc_d hG hg_n f1 f2
                            have hB_d := hB_n
                            have hG := hG2
                            clear hB_n hG2
                            have Fw1n : Below w1n.heap.size w1n w1n := Below.refl _ _
                            repeat (first | with_reducible apply wpList_nil | with_reducible apply seq_region | with_reducible apply wp_region_lit | with_reducible apply wp_seq | ((with_reducible apply seq_q); (focus rfl); (focus (simp [go_sem, effAt, ↓IntWalk.iteOmega, *]; (try go_ints); (first | (with_reducible exact effUpon_val) | (with_reducible exact effUpon_skip)))); (focus ((simp only [Act.put, List.setIfInBounds_toArray, List.set_cons_zero, List.set_cons_succ]; rfl)))) | ((with_reducible apply seq_s); (focus rfl); (focus ((simp only [Act.put, List.setIfInBounds_toArray, List.set_cons_zero, List.set_cons_succ]; rfl)))) | with_reducible apply wp_block | with_reducible apply wp_skip | with_reducible apply wp_exit | with_reducible apply wp_ret | ((with_reducible apply wp_cond_true); (focus (first | rfl | (simp [go_sem, *]; done)))) | ((with_reducible apply wp_cond_false); (focus (first | rfl | (simp [go_sem, *]; done)))) | (simp only [Exit.then, Exit.inBlock, ↓reduceIte, Nat.reduceEqDiff]))
                            refine hUK _ _ (Handed.intro (b - (k + 1 + 1)) ?measure (hUJ _ _ _ ?_))
                            rotate_left
                            (repeat apply Exists.intro)
                            refine ⟨?rel, rfl⟩
                            case rel => exact ⟨k + 1, swp dj (k + 1) k, by go_num, by omega, by omega, by rw [swp_size]; exact HD.out, hR, hB_d, hG⟩
                            case measure => omega
                  case pos =>
                    obtain ⟨k, rfl⟩ : ∃ p, k = p + 1 := ⟨k - 1, by omega⟩
                    have hc' : 1 ≤ (k : Int) + 1 := by omega
                    have hkn : (k : Int) + 1 < (n : Int) := by omega
                    obtain ⟨x, hx⟩ : ∃ x, dj[k + 1]! = x := ⟨_, rfl⟩
                    obtain ⟨y, hy⟩ : ∃ y, dj[k]! = y := ⟨_, rfl⟩
                    have e1 := cellsS_get pad (show k + 1 < dj.size by have := HD.out; omega) hx
                    have e2 := cellsS_get pad (show k < dj.size by have := HD.out; omega) hy
                    have hL := less_any x y
                    obtain ⟨l0, hl0⟩ : ∃ l, ltInt x y = l := ⟨_, rfl⟩
                    rw [hl0] at hL
                    rw [← hx, ← hy] at hl0
                    have HL := Lib.hid hl0
                    clear hl0 hx hy
                    cases l0 with
                    | false =>
                      rw [sdn_stop HL.out] at hR
                      clear hDJ hDK
                      skip
                      have Fwr : Below wr.heap.size wr wr := Below.refl _ _
                      have hc_d := hB_d.cell
                      repeat (first | with_reducible apply wpList_nil | with_reducible apply seq_region | with_reducible apply wp_region_lit | with_reducible apply wp_seq | ((with_reducible apply seq_q); (focus rfl); (focus (simp [go_sem, effAt, ↓IntWalk.iteOmega, *]; (try go_ints); (first | (with_reducible exact effUpon_val) | (with_reducible exact effUpon_skip)))); (focus ((simp only [Act.put, List.setIfInBounds_toArray, List.set_cons_zero, List.set_cons_succ]; rfl)))) | ((with_reducible apply seq_s); (focus rfl); (focus ((simp only [Act.put, List.setIfInBounds_toArray, List.set_cons_zero, List.set_cons_succ]; rfl)))) | with_reducible apply wp_block | with_reducible apply wp_skip | with_reducible apply wp_exit | with_reducible apply wp_ret | ((with_reducible apply wp_cond_true); (focus (first | rfl | (simp [go_sem, *]; done)))) | ((with_reducible apply wp_cond_false); (focus (first | rfl | (simp [go_sem, *]; done)))) | (simp only [Exit.then, Exit.inBlock, ↓reduceIte, Nat.reduceEqDiff]))
                      refine wp_region_pure (E := fun i => [9].contains i) (by kernel_rfl) (by kernel_rfl) ?_
                      repeat (first | ((with_reducible apply lex_q); (focus rfl); (focus rfl); (focus (intro w' hS; have hc_d := (hB_d.below hS hB_d.lt).cell; simp [go_sem, effAt, ↓IntWalk.iteOmega, *]; (try go_ints); (first | (with_reducible exact effUpon_val) | (with_reducible exact effUpon_skip)))); (focus ((simp only [Act.put, List.setIfInBounds_toArray, List.set_cons_zero, List.set_cons_succ]; rfl)))) | ((with_reducible apply lex_s); (focus rfl); (focus ((simp only [Act.put, List.setIfInBounds_toArray, List.set_cons_zero, List.set_cons_succ]; rfl)))))
                      ((with_reducible apply lex_e (Below wr.heap.size wr)); (focus rfl); (focus rfl); (focus (intro w' hS; simp only [effAt]; simp [go_sem]; (with_reducible exact eff_call hS (hL _)))); (focus (exact fun _ h => h)); (focus ((simp only [Act.put, List.setIfInBounds_toArray, List.set_cons_zero, List.set_cons_succ]; rfl))))
                      repeat (first | ((with_reducible apply lex_q); (focus rfl); (focus rfl); (focus (intro w' hS; have hc_d := (hB_d.below hS hB_d.lt).cell; simp [go_sem, effAt, ↓IntWalk.iteOmega, *]; (try go_ints); (first | (with_reducible exact effUpon_val) | (with_reducible exact effUpon_skip)))); (focus ((simp only [Act.put, List.setIfInBounds_toArray, List.set_cons_zero, List.set_cons_succ]; rfl)))) | ((with_reducible apply lex_s); (focus rfl); (focus ((simp only [Act.put, List.setIfInBounds_toArray, List.set_cons_zero, List.set_cons_succ]; rfl)))))
                      with_reducible apply lex_nil
                      intro w1 hs
                      have Fw1 := Fwr.trans (hs.mono Fwr.size)
                      replace hB_d := hB_d.below hs hB_d.lt
                      clear hs Fwr
                      clear hc_d; have hc_d := hB_d.cell
                      repeat (first | with_reducible apply wpList_nil | with_reducible apply seq_region | with_reducible apply wp_region_lit | with_reducible apply wp_seq | ((with_reducible apply seq_q); (focus rfl); (focus (simp [go_sem, effAt, ↓IntWalk.iteOmega, *]; (try go_ints); (first | (with_reducible exact effUpon_val) | (with_reducible exact effUpon_skip)))); (focus ((simp only [Act.put, List.setIfInBounds_toArray, List.set_cons_zero, List.set_cons_succ]; rfl)))) | ((with_reducible apply seq_s); (focus rfl); (focus ((simp only [Act.put, List.setIfInBounds_toArray, List.set_cons_zero, List.set_cons_succ]; rfl)))) | with_reducible apply wp_block | with_reducible apply wp_skip | with_reducible apply wp_exit | with_reducible apply wp_ret | ((with_reducible apply wp_cond_true); (focus (first | rfl | (simp [go_sem, *]; done)))) | ((with_reducible apply wp_cond_false); (focus (first | rfl | (simp [go_sem, *]; done)))) | (simp only [Exit.then, Exit.inBlock, ↓reduceIte, Nat.reduceEqDiff]))
                      have hG2 := grown_trans hG (grown_below (by assumption : Below wr.heap.size wr w1) _)
                      clear hG
                      have hG := hG2
                      clear hG2 hc_d
                      by_cases hbi2 : 2 ≤ bi
                      case neg =>
                        have hbi2' : ¬ 2 ≤ (bi : Int) := by omega
                        rw [fu_no HBI.out hbi2] at hR
                        have Fw1 : Below w1.heap.size w1 w1 := Below.refl _ _
                        repeat (first | with_reducible apply wpList_nil | with_reducible apply seq_region | with_reducible apply wp_region_lit | with_reducible apply wp_seq | ((with_reducible apply seq_q); (focus rfl); (focus (simp [go_sem, effAt, ↓IntWalk.iteOmega, *]; (try go_ints); (first | (with_reducible exact effUpon_val) | (with_reducible exact effUpon_skip)))); (focus ((simp only [Act.put, List.setIfInBounds_toArray, List.set_cons_zero, List.set_cons_succ]; rfl)))) | ((with_reducible apply seq_s); (focus rfl); (focus ((simp only [Act.put, List.setIfInBounds_toArray, List.set_cons_zero, List.set_cons_succ]; rfl)))) | with_reducible apply wp_block | with_reducible apply wp_skip | with_reducible apply wp_exit | with_reducible apply wp_ret | ((with_reducible apply wp_cond_true); (focus (first | rfl | (simp [go_sem, *]; done)))) | ((with_reducible apply wp_cond_false); (focus (first | rfl | (simp [go_sem, *]; done)))) | (simp only [Exit.then, Exit.inBlock, ↓reduceIte, Nat.reduceEqDiff]))
                        refine hK _ _ (Handed.intro s ?measure (hJ _ _ _ ?_))
                        rotate_left
                        (repeat apply Exists.intro)
                        refine ⟨?rel, rfl⟩
                        case rel => exact ⟨st + 1, s, j, dj, by first | rfl | go_num, by first | rfl | go_num, by have := HST.out; omega, Nat.le_refl _, by omega, by omega, HD.out, hR, hB_d, hG⟩
                        case measure => omega
                      case pos =>
                        have hbi2' : 2 ≤ (bi : Int) := by omega
                        rw [fu_go HBI.out hbi2] at hR
                        have Fw1 : Below w1.heap.size w1 w1 := Below.refl _ _
                        repeat (first | with_reducible apply wpList_nil | with_reducible apply seq_region | with_reducible apply wp_region_lit | with_reducible apply wp_seq | ((with_reducible apply seq_q); (focus rfl); (focus (simp [go_sem, effAt, ↓IntWalk.iteOmega, *]; (try go_ints); (first | (with_reducible exact effUpon_val) | (with_reducible exact effUpon_skip)))); (focus ((simp only [Act.put, List.setIfInBounds_toArray, List.set_cons_zero, List.set_cons_succ]; rfl)))) | ((with_reducible apply seq_s); (focus rfl); (focus ((simp only [Act.put, List.setIfInBounds_toArray, List.set_cons_zero, List.set_cons_succ]; rfl)))) | with_reducible apply wp_block | with_reducible apply wp_skip | with_reducible apply wp_exit | with_reducible apply wp_ret | ((with_reducible apply wp_cond_true); (focus (first | rfl | (simp [go_sem, *]; done)))) | ((with_reducible apply wp_cond_false); (focus (first | rfl | (simp [go_sem, *]; done)))) | (simp only [Exit.then, Exit.inBlock, ↓reduceIte, Nat.reduceEqDiff]))
                        go_loopg [10] (b + 1) (fun q v10 wr => ∃ (k : Nat) (dz : Array Int), v10 = .int .i64 ((k : Int) + 1) ∧ k + 1 ≤ b ∧ b ≤ k + 1 + q ∧ dz.size = n ∧ partialIns ltInt a b s (j + 1) (shiftUp ltInt b (k + 1) dz) = R ∧ SB wr g pad dz ∧ w.grownBy wr (some g))
                        case atStart => exact ⟨j + 1, dj, by go_num, by have := HBI.out; omega, by omega, HD.out, hR, hB_d, hG⟩
                        case round =>
                          rename_i UJ UK hUJ hUK
                          clear hR hB_d hG HD
                          obtain ⟨k, dj, rfl, hk1, hk2, hdz, hR, hB_d, hG⟩ := hrel
                          have HD := Lib.hid hdz
                          clear hdz
                          by_cases hc : k + 1 < b
                          case neg =>
                            have hc' : ¬ (k : Int) + 1 < (b : Int) := by omega
                            rw [sup_end hc] at hR
                            clear hUJ hUK
                            skip
                            have Fwr : Below wr.heap.size wr wr := Below.refl _ _
                            repeat (first | with_reducible apply wpList_nil | with_reducible apply seq_region | with_reducible apply wp_region_lit | with_reducible apply wp_seq | ((with_reducible apply seq_q); (focus rfl); (focus (simp [go_sem, effAt, ↓IntWalk.iteOmega, *]; (try go_ints); (first | (with_reducible exact effUpon_val) | (with_reducible exact effUpon_skip)))); (focus ((simp only [Act.put, List.setIfInBounds_toArray, List.set_cons_zero, List.set_cons_succ]; rfl)))) | ((with_reducible apply seq_s); (focus rfl); (focus ((simp only [Act.put, List.setIfInBounds_toArray, List.set_cons_zero, List.set_cons_succ]; rfl)))) | with_reducible apply wp_block | with_reducible apply wp_skip | with_reducible apply wp_exit | with_reducible apply wp_ret | ((with_reducible apply wp_cond_true); (focus (first | rfl | (simp [go_sem, *]; done)))) | ((with_reducible apply wp_cond_false); (focus (first | rfl | (simp [go_sem, *]; done)))) | (simp only [Exit.then, Exit.inBlock, ↓reduceIte, Nat.reduceEqDiff]))
                            refine hK _ _ (Handed.intro s ?measure (hJ _ _ _ ?_))
                            rotate_left
                            (repeat apply Exists.intro)
                            refine ⟨?rel, rfl⟩
                            case rel => exact ⟨st + 1, s, j, dj, by first | rfl | go_num, by first | rfl | go_num, by have := HST.out; omega, Nat.le_refl _, by omega, by omega, HD.out, hR, hB_d, hG⟩
                            case measure => omega
                          case pos =>
                            have hc' : (k : Int) + 1 < (b : Int) := by omega
                            have hkn : (k : Int) + 1 < (n : Int) := by omega
                            obtain ⟨x, hx⟩ : ∃ x, dj[k + 1]! = x := ⟨_, rfl⟩
                            obtain ⟨y, hy⟩ : ∃ y, dj[k]! = y := ⟨_, rfl⟩
                            have e1 := cellsS_get pad (show k + 1 < dj.size by have := HD.out; omega) hx
                            have e2 := cellsS_get pad (show k < dj.size by have := HD.out; omega) hy
                            have hL := less_any x y
                            obtain ⟨l0, hl0⟩ : ∃ l, ltInt x y = l := ⟨_, rfl⟩
                            rw [hl0] at hL
                            rw [← hx, ← hy] at hl0
                            have HL := Lib.hid hl0
                            clear hl0 hx hy
                            cases l0 with
                            | false =>
                              rw [sup_stop hc HL.out] at hR
                              clear hUJ hUK
                              skip
                              have Fwr : Below wr.heap.size wr wr := Below.refl _ _
                              have hc_d := hB_d.cell
                              repeat (first | with_reducible apply wpList_nil | with_reducible apply seq_region | with_reducible apply wp_region_lit | with_reducible apply wp_seq | ((with_reducible apply seq_q); (focus rfl); (focus (simp [go_sem, effAt, ↓IntWalk.iteOmega, *]; (try go_ints); (first | (with_reducible exact effUpon_val) | (with_reducible exact effUpon_skip)))); (focus ((simp only [Act.put, List.setIfInBounds_toArray, List.set_cons_zero, List.set_cons_succ]; rfl)))) | ((with_reducible apply seq_s); (focus rfl); (focus ((simp only [Act.put, List.setIfInBounds_toArray, List.set_cons_zero, List.set_cons_succ]; rfl)))) | with_reducible apply wp_block | with_reducible apply wp_skip | with_reducible apply wp_exit | with_reducible apply wp_ret | ((with_reducible apply wp_cond_true); (focus (first | rfl | (simp [go_sem, *]; done)))) | ((with_reducible apply wp_cond_false); (focus (first | rfl | (simp [go_sem, *]; done)))) | (simp only [Exit.then, Exit.inBlock, ↓reduceIte, Nat.reduceEqDiff]))
                              refine wp_region_pure (E := fun i => [9].contains i) (by kernel_rfl) (by kernel_rfl) ?_
                              repeat (first | ((with_reducible apply lex_q); (focus rfl); (focus rfl); (focus (intro w' hS; have hc_d := (hB_d.below hS hB_d.lt).cell; simp [go_sem, effAt, ↓IntWalk.iteOmega, *]; (try go_ints); (first | (with_reducible exact effUpon_val) | (with_reducible exact effUpon_skip)))); (focus ((simp only [Act.put, List.setIfInBounds_toArray, List.set_cons_zero, List.set_cons_succ]; rfl)))) | ((with_reducible apply lex_s); (focus rfl); (focus ((simp only [Act.put, List.setIfInBounds_toArray, List.set_cons_zero, List.set_cons_succ]; rfl)))))
                              ((with_reducible apply lex_e (Below wr.heap.size wr)); (focus rfl); (focus rfl); (focus (intro w' hS; simp only [effAt]; simp [go_sem]; (with_reducible exact eff_call hS (hL _)))); (focus (exact fun _ h => h)); (focus ((simp only [Act.put, List.setIfInBounds_toArray, List.set_cons_zero, List.set_cons_succ]; rfl))))
                              repeat (first | ((with_reducible apply lex_q); (focus rfl); (focus rfl); (focus (intro w' hS; have hc_d := (hB_d.below hS hB_d.lt).cell; simp [go_sem, effAt, ↓IntWalk.iteOmega, *]; (try go_ints); (first | (with_reducible exact effUpon_val) | (with_reducible exact effUpon_skip)))); (focus ((simp only [Act.put, List.setIfInBounds_toArray, List.set_cons_zero, List.set_cons_succ]; rfl)))) | ((with_reducible apply lex_s); (focus rfl); (focus ((simp only [Act.put, List.setIfInBounds_toArray, List.set_cons_zero, List.set_cons_succ]; rfl)))))
                              with_reducible apply lex_nil
                              intro w1 hs
                              have Fw1 := Fwr.trans (hs.mono Fwr.size)
                              replace hB_d := hB_d.below hs hB_d.lt
                              clear hs Fwr
                              clear hc_d; have hc_d := hB_d.cell
                              repeat (first | with_reducible apply wpList_nil | with_reducible apply seq_region | with_reducible apply wp_region_lit | with_reducible apply wp_seq | ((with_reducible apply seq_q); (focus rfl); (focus (simp [go_sem, effAt, ↓IntWalk.iteOmega, *]; (try go_ints); (first | (with_reducible exact effUpon_val) | (with_reducible exact effUpon_skip)))); (focus ((simp only [Act.put, List.setIfInBounds_toArray, List.set_cons_zero, List.set_cons_succ]; rfl)))) | ((with_reducible apply seq_s); (focus rfl); (focus ((simp only [Act.put, List.setIfInBounds_toArray, List.set_cons_zero, List.set_cons_succ]; rfl)))) | with_reducible apply wp_block | with_reducible apply wp_skip | with_reducible apply wp_exit | with_reducible apply wp_ret | ((with_reducible apply wp_cond_true); (focus (first | rfl | (simp [go_sem, *]; done)))) | ((with_reducible apply wp_cond_false); (focus (first | rfl | (simp [go_sem, *]; done)))) | (simp only [Exit.then, Exit.inBlock, ↓reduceIte, Nat.reduceEqDiff]))
                              have hG2 := grown_trans hG (grown_below (by assumption : Below wr.heap.size wr w1) _)
                              clear hG
                              have hG := hG2
                              clear hG2 hc_d
                              refine hK _ _ (Handed.intro s ?measure (hJ _ _ _ ?_))
                              rotate_left
                              (repeat apply Exists.intro)
                              refine ⟨?rel, rfl⟩
                              case rel => exact ⟨st + 1, s, j, dj, by first | rfl | go_num, by first | rfl | go_num, by have := HST.out; omega, Nat.le_refl _, by omega, by omega, HD.out, hR, hB_d, hG⟩
                              case measure => omega
                            | true =>
                              rw [sup_go hc HL.out] at hR
                              skip
                              have Fwr : Below wr.heap.size wr wr := Below.refl _ _
                              have hc_d := hB_d.cell
                              repeat (first | with_reducible apply wpList_nil | with_reducible apply seq_region | with_reducible apply wp_region_lit | with_reducible apply wp_seq | ((with_reducible apply seq_q); (focus rfl); (focus (simp [go_sem, effAt, ↓IntWalk.iteOmega, *]; (try go_ints); (first | (with_reducible exact effUpon_val) | (with_reducible exact effUpon_skip)))); (focus ((simp only [Act.put, List.setIfInBounds_toArray, List.set_cons_zero, List.set_cons_succ]; rfl)))) | ((with_reducible apply seq_s); (focus rfl); (focus ((simp only [Act.put, List.setIfInBounds_toArray, List.set_cons_zero, List.set_cons_succ]; rfl)))) | with_reducible apply wp_block | with_reducible apply wp_skip | with_reducible apply wp_exit | with_reducible apply wp_ret | ((with_reducible apply wp_cond_true); (focus (first | rfl | (simp [go_sem, *]; done)))) | ((with_reducible apply wp_cond_false); (focus (first | rfl | (simp [go_sem, *]; done)))) | (simp only [Exit.then, Exit.inBlock, ↓reduceIte, Nat.reduceEqDiff]))
                              refine wp_region_pure (E := fun i => [9].contains i) (by kernel_rfl) (by kernel_rfl) ?_
                              repeat (first | ((with_reducible apply lex_q); (focus rfl); (focus rfl); (focus (intro w' hS; have hc_d := (hB_d.below hS hB_d.lt).cell; simp [go_sem, effAt, ↓IntWalk.iteOmega, *]; (try go_ints); (first | (with_reducible exact effUpon_val) | (with_reducible exact effUpon_skip)))); (focus ((simp only [Act.put, List.setIfInBounds_toArray, List.set_cons_zero, List.set_cons_succ]; rfl)))) | ((with_reducible apply lex_s); (focus rfl); (focus ((simp only [Act.put, List.setIfInBounds_toArray, List.set_cons_zero, List.set_cons_succ]; rfl)))))
                              ((with_reducible apply lex_e (Below wr.heap.size wr)); (focus rfl); (focus rfl); (focus (intro w' hS; simp only [effAt]; simp [go_sem]; (with_reducible exact eff_call hS (hL _)))); (focus (exact fun _ h => h)); (focus ((simp only [Act.put, List.setIfInBounds_toArray, List.set_cons_zero, List.set_cons_succ]; rfl))))
                              repeat (first | ((with_reducible apply lex_q); (focus rfl); (focus rfl); (focus (intro w' hS; have hc_d := (hB_d.below hS hB_d.lt).cell; simp [go_sem, effAt, ↓IntWalk.iteOmega, *]; (try go_ints); (first | (with_reducible exact effUpon_val) | (with_reducible exact effUpon_skip)))); (focus ((simp only [Act.put, List.setIfInBounds_toArray, List.set_cons_zero, List.set_cons_succ]; rfl)))) | ((with_reducible apply lex_s); (focus rfl); (focus ((simp only [Act.put, List.setIfInBounds_toArray, List.set_cons_zero, List.set_cons_succ]; rfl)))))
                              with_reducible apply lex_nil
                              intro w1 hs
                              have Fw1 := Fwr.trans (hs.mono Fwr.size)
                              replace hB_d := hB_d.below hs hB_d.lt
                              clear hs Fwr
                              clear hc_d; have hc_d := hB_d.cell
                              repeat (first | with_reducible apply wpList_nil | with_reducible apply seq_region | with_reducible apply wp_region_lit | with_reducible apply wp_seq | ((with_reducible apply seq_q); (focus rfl); (focus (simp [go_sem, effAt, ↓IntWalk.iteOmega, *]; (try go_ints); (first | (with_reducible exact effUpon_val) | (with_reducible exact effUpon_skip)))); (focus ((simp only [Act.put, List.setIfInBounds_toArray, List.set_cons_zero, List.set_cons_succ]; rfl)))) | ((with_reducible apply seq_s); (focus rfl); (focus ((simp only [Act.put, List.setIfInBounds_toArray, List.set_cons_zero, List.set_cons_succ]; rfl)))) | with_reducible apply wp_block | with_reducible apply wp_skip | with_reducible apply wp_exit | with_reducible apply wp_ret | ((with_reducible apply wp_cond_true); (focus (first | rfl | (simp [go_sem, *]; done)))) | ((with_reducible apply wp_cond_false); (focus (first | rfl | (simp [go_sem, *]; done)))) | (simp only [Exit.then, Exit.inBlock, ↓reduceIte, Nat.reduceEqDiff]))
                              have hG2 := grown_trans hG (grown_below (by assumption : Below wr.heap.size wr w1) _)
                              clear hG
                              have hG := hG2
                              clear hG2 hc_d
                              clear e1 e2 hL HL
                              have Fw1 : Below w1.heap.size w1 w1 := Below.refl _ _
                              obtain ⟨y1, hy1⟩ : ∃ x, dj[k + 1]! = x := ⟨_, rfl⟩
                              obtain ⟨y2, hy2⟩ : ∃ x, dj[k]! = x := ⟨_, rfl⟩
                              have f2 := cellsS_get pad (show k < dj.size by have := HD.out; omega) hy2
                              have f1 := cellsS_get pad (show k + 1 < dj.size by have := HD.out; omega) hy1
                              have SW := Lib.hid (cellsS_swp pad (i := k + 1) (j := k) (by have := HD.out; omega) (by have := HD.out; omega) hy1 hy2)
                              have SZ := Lib.hid (cellsS_get2 (d := dj) pad (i := k + 1) (j := k) y2 (by have := HD.out; omega) (by have := HD.out; omega))
                              clear hy1 hy2
                              have hc_d := hB_d.cell
                              repeat (first | with_reducible apply wpList_nil | with_reducible apply seq_region | with_reducible apply wp_region_lit | with_reducible apply wp_seq | ((with_reducible apply seq_q); (focus rfl); (focus (simp [go_sem, effAt, ↓IntWalk.iteOmega, *]; (try go_ints); (first | (with_reducible exact effUpon_val) | (with_reducible exact effUpon_skip)))); (focus ((simp only [Act.put, List.setIfInBounds_toArray, List.set_cons_zero, List.set_cons_succ]; rfl)))) | ((with_reducible apply seq_s); (focus rfl); (focus ((simp only [Act.put, List.setIfInBounds_toArray, List.set_cons_zero, List.set_cons_succ]; rfl)))) | with_reducible apply wp_block | with_reducible apply wp_skip | with_reducible apply wp_exit | with_reducible apply wp_ret | ((with_reducible apply wp_cond_true); (focus (first | rfl | (simp [go_sem, *]; done)))) | ((with_reducible apply wp_cond_false); (focus (first | rfl | (simp [go_sem, *]; done)))) | (simp only [Exit.then, Exit.inBlock, ↓reduceIte, Nat.reduceEqDiff]))
                              refine wp_region_effA (S := fun _ => True) (I := (· = World.drew w1)) (E := fun i => [15, 17].contains i) (A := fun i => [9, 13].contains i) (by kernel_rfl) (by kernel_rfl) rfl (fun _ _ => trivial) ?_
                              repeat (first | ((with_reducible apply lexA_q); (focus rfl); (focus rfl); (focus rfl); (focus (intro w' hS; simp [go_sem, effAt, ↓IntWalk.iteOmega, *]; (try go_ints); (first | (with_reducible exact effUpon_val) | (with_reducible exact effUpon_skip)))); (focus ((simp only [Act.put, List.setIfInBounds_toArray, List.set_cons_zero, List.set_cons_succ]; rfl)))) | ((with_reducible apply lexA_s); (focus rfl); (focus ((simp only [Act.put, List.setIfInBounds_toArray, List.set_cons_zero, List.set_cons_succ]; rfl)))) | ((with_reducible apply lexA_a); (focus rfl); (focus rfl); (focus rfl); (focus (intro w' hS; subst hS; simp [go_sem, effAt, ↓IntWalk.iteOmega, *]; (try go_ints); (first | (with_reducible exact effUpon_val) | (with_reducible exact effUpon_skip)))); (focus ((simp only [Act.put, List.setIfInBounds_toArray, List.set_cons_zero, List.set_cons_succ]; rfl)))))
                              with_reducible apply lexA_e (fun w' => Blk w' g 5 ((cellsS pad dj).setIfInBounds (k + 1) (.int .u8 y2)) ∧ World.grownBy w1 w' (some g))
                              (focus (first | exact wanted_none rfl | exact wanted_yes rfl rfl rfl))
                              focus rfl
                              focus
                                intro w' hS
                                subst hS
                                have hf_d := hB_d.frozen
                                simp [go_sem, effAt, *]
                                exact ⟨rfl, hB_d.drew.set_ (k + 1) _, grown_undrew (grown_set (World.grownBy.refl _ _))⟩
                              focus exact fun _ _ => trivial
                              (focus (first | (apply put_some rfl; focus (conv => lhs; dsimp only [List.set_cons_zero, List.set_cons_succ]) <;> rfl) | exact put_none rfl))
                              repeat (first | ((with_reducible apply lexA_q); (focus rfl); (focus rfl); (focus rfl); (focus (intro w' hS; simp [go_sem, effAt, ↓IntWalk.iteOmega, *]; (try go_ints); (first | (with_reducible exact effUpon_val) | (with_reducible exact effUpon_skip)))); (focus ((simp only [Act.put, List.setIfInBounds_toArray, List.set_cons_zero, List.set_cons_succ]; rfl)))) | ((with_reducible apply lexA_s); (focus rfl); (focus ((simp only [Act.put, List.setIfInBounds_toArray, List.set_cons_zero, List.set_cons_succ]; rfl)))) | ((with_reducible apply lexA_a); (focus rfl); (focus rfl); (focus rfl); (focus (intro w' hS; skip; simp [go_sem, effAt, ↓IntWalk.iteOmega, *]; (try go_ints); (first | (with_reducible exact effUpon_val) | (with_reducible exact effUpon_skip)))); (focus ((simp only [Act.put, List.setIfInBounds_toArray, List.set_cons_zero, List.set_cons_succ]; rfl)))))
                              with_reducible apply lexA_e (fun w' => SB w' g pad (swp dj (k + 1) (k)) ∧ World.grownBy w1 w' (some g))
                              (focus (first | exact wanted_none rfl | exact wanted_yes rfl rfl rfl))
                              focus rfl
                              focus
                                rintro w' ⟨hB', hg'⟩
                                have hf_d := hB'.frozen
                                have hc_d := hB'.cell
                                obtain ⟨z, hz⟩ := SZ.out
                                simp [go_sem, effAt, *]
                                exact ⟨rfl, by have h := hB'.set_ (k) (.int .u8 y1); rw [SW.out] at h; exact h, grown_set hg'⟩
                              focus exact fun _ _ => trivial
                              (focus (first | (apply put_some rfl; focus (conv => lhs; dsimp only [List.set_cons_zero, List.set_cons_succ]) <;> rfl) | exact put_none rfl))
                              with_reducible apply lexA_nil
                              rintro w1n ⟨hB_n, hg_n⟩
                              have hG2 := grown_trans hG hg_n
                              clear hB_d hc_d hG hg_n f1 f2
                              have hB_d := hB_n
                              have hG := hG2
                              clear hB_n hG2
                              have Fw1n : Below w1n.heap.size w1n w1n := Below.refl _ _
                              repeat (first | with_reducible apply wpList_nil | with_reducible apply seq_region | with_reducible apply wp_region_lit | with_reducible apply wp_seq | ((with_reducible apply seq_q); (focus rfl); (focus (simp [go_sem, effAt, ↓IntWalk.iteOmega, *]; (try go_ints); (first | (with_reducible exact effUpon_val) | (with_reducible exact effUpon_skip)))); (focus ((simp only [Act.put, List.setIfInBounds_toArray, List.set_cons_zero, List.set_cons_succ]; rfl)))) | ((with_reducible apply seq_s); (focus rfl); (focus ((simp only [Act.put, List.setIfInBounds_toArray, List.set_cons_zero, List.set_cons_succ]; rfl)))) | with_reducible apply wp_block | with_reducible apply wp_skip | with_reducible apply wp_exit | with_reducible apply wp_ret | ((with_reducible apply wp_cond_true); (focus (first | rfl | (simp [go_sem, *]; done)))) | ((with_reducible apply wp_cond_false); (focus (first | rfl | (simp [go_sem, *]; done)))) | (simp only [Exit.then, Exit.inBlock, ↓reduceIte, Nat.reduceEqDiff]))
                              refine hUK _ _ (Handed.intro (b - (k + 1 + 1)) ?measure (hUJ _ _ _ ?_))
                              rotate_left
                              (repeat apply Exists.intro)
                              refine ⟨?rel, rfl⟩
                              case rel => exact ⟨k + 1, swp dj (k + 1) k, by go_num, by omega, by omega, by rw [swp_size]; exact HD.out, hR, hB_d, hG⟩
                              case measure => omega
                    | true =>
                      rw [sdn_go HL.out] at hR
                      skip
                      have Fwr : Below wr.heap.size wr wr := Below.refl _ _
                      have hc_d := hB_d.cell
                      repeat (first | with_reducible apply wpList_nil | with_reducible apply seq_region | with_reducible apply wp_region_lit | with_reducible apply wp_seq | ((with_reducible apply seq_q); (focus rfl); (focus (simp [go_sem, effAt, ↓IntWalk.iteOmega, *]; (try go_ints); (first | (with_reducible exact effUpon_val) | (with_reducible exact effUpon_skip)))); (focus ((simp only [Act.put, List.setIfInBounds_toArray, List.set_cons_zero, List.set_cons_succ]; rfl)))) | ((with_reducible apply seq_s); (focus rfl); (focus ((simp only [Act.put, List.setIfInBounds_toArray, List.set_cons_zero, List.set_cons_succ]; rfl)))) | with_reducible apply wp_block | with_reducible apply wp_skip | with_reducible apply wp_exit | with_reducible apply wp_ret | ((with_reducible apply wp_cond_true); (focus (first | rfl | (simp [go_sem, *]; done)))) | ((with_reducible apply wp_cond_false); (focus (first | rfl | (simp [go_sem, *]; done)))) | (simp only [Exit.then, Exit.inBlock, ↓reduceIte, Nat.reduceEqDiff]))
                      refine wp_region_pure (E := fun i => [9].contains i) (by kernel_rfl) (by kernel_rfl) ?_
                      repeat (first | ((with_reducible apply lex_q); (focus rfl); (focus rfl); (focus (intro w' hS; have hc_d := (hB_d.below hS hB_d.lt).cell; simp [go_sem, effAt, ↓IntWalk.iteOmega, *]; (try go_ints); (first | (with_reducible exact effUpon_val) | (with_reducible exact effUpon_skip)))); (focus ((simp only [Act.put, List.setIfInBounds_toArray, List.set_cons_zero, List.set_cons_succ]; rfl)))) | ((with_reducible apply lex_s); (focus rfl); (focus ((simp only [Act.put, List.setIfInBounds_toArray, List.set_cons_zero, List.set_cons_succ]; rfl)))))
                      ((with_reducible apply lex_e (Below wr.heap.size wr)); (focus rfl); (focus rfl); (focus (intro w' hS; simp only [effAt]; simp [go_sem]; (with_reducible exact eff_call hS (hL _)))); (focus (exact fun _ h => h)); (focus ((simp only [Act.put, List.setIfInBounds_toArray, List.set_cons_zero, List.set_cons_succ]; rfl))))
                      repeat (first | ((with_reducible apply lex_q); (focus rfl); (focus rfl); (focus (intro w' hS; have hc_d := (hB_d.below hS hB_d.lt).cell; simp [go_sem, effAt, ↓IntWalk.iteOmega, *]; (try go_ints); (first | (with_reducible exact effUpon_val) | (with_reducible exact effUpon_skip)))); (focus ((simp only [Act.put, List.setIfInBounds_toArray, List.set_cons_zero, List.set_cons_succ]; rfl)))) | ((with_reducible apply lex_s); (focus rfl); (focus ((simp only [Act.put, List.setIfInBounds_toArray, List.set_cons_zero, List.set_cons_succ]; rfl)))))
                      with_reducible apply lex_nil
                      intro w1 hs
                      have Fw1 := Fwr.trans (hs.mono Fwr.size)
                      replace hB_d := hB_d.below hs hB_d.lt
                      clear hs Fwr
                      clear hc_d; have hc_d := hB_d.cell
                      repeat (first | with_reducible apply wpList_nil | with_reducible apply seq_region | with_reducible apply wp_region_lit | with_reducible apply wp_seq | ((with_reducible apply seq_q); (focus rfl); (focus (simp [go_sem, effAt, ↓IntWalk.iteOmega, *]; (try go_ints); (first | (with_reducible exact effUpon_val) | (with_reducible exact effUpon_skip)))); (focus ((simp only [Act.put, List.setIfInBounds_toArray, List.set_cons_zero, List.set_cons_succ]; rfl)))) | ((with_reducible apply seq_s); (focus rfl); (focus ((simp only [Act.put, List.setIfInBounds_toArray, List.set_cons_zero, List.set_cons_succ]; rfl)))) | with_reducible apply wp_block | with_reducible apply wp_skip | with_reducible apply wp_exit | with_reducible apply wp_ret | ((with_reducible apply wp_cond_true); (focus (first | rfl | (simp [go_sem, *]; done)))) | ((with_reducible apply wp_cond_false); (focus (first | rfl | (simp [go_sem, *]; done)))) | (simp only [Exit.then, Exit.inBlock, ↓reduceIte, Nat.reduceEqDiff]))
                      have hG2 := grown_trans hG (grown_below (by assumption : Below wr.heap.size wr w1) _)
                      clear hG
                      have hG := hG2
                      clear hG2 hc_d
                      clear e1 e2 hL HL
                      have Fw1 : Below w1.heap.size w1 w1 := Below.refl _ _
                      obtain ⟨y1, hy1⟩ : ∃ x, dj[k + 1]! = x := ⟨_, rfl⟩
                      obtain ⟨y2, hy2⟩ : ∃ x, dj[k]! = x := ⟨_, rfl⟩
                      have f2 := cellsS_get pad (show k < dj.size by have := HD.out; omega) hy2
                      have f1 := cellsS_get pad (show k + 1 < dj.size by have := HD.out; omega) hy1
                      have SW := Lib.hid (cellsS_swp pad (i := k + 1) (j := k) (by have := HD.out; omega) (by have := HD.out; omega) hy1 hy2)
                      have SZ := Lib.hid (cellsS_get2 (d := dj) pad (i := k + 1) (j := k) y2 (by have := HD.out; omega) (by have := HD.out; omega))
                      clear hy1 hy2
                      have hc_d := hB_d.cell
                      repeat (first | with_reducible apply wpList_nil | with_reducible apply seq_region | with_reducible apply wp_region_lit | with_reducible apply wp_seq | ((with_reducible apply seq_q); (focus rfl); (focus (simp [go_sem, effAt, ↓IntWalk.iteOmega, *]; (try go_ints); (first | (with_reducible exact effUpon_val) | (with_reducible exact effUpon_skip)))); (focus ((simp only [Act.put, List.setIfInBounds_toArray, List.set_cons_zero, List.set_cons_succ]; rfl)))) | ((with_reducible apply seq_s); (focus rfl); (focus ((simp only [Act.put, List.setIfInBounds_toArray, List.set_cons_zero, List.set_cons_succ]; rfl)))) | with_reducible apply wp_block | with_reducible apply wp_skip | with_reducible apply wp_exit | with_reducible apply wp_ret | ((with_reducible apply wp_cond_true); (focus (first | rfl | (simp [go_sem, *]; done)))) | ((with_reducible apply wp_cond_false); (focus (first | rfl | (simp [go_sem, *]; done)))) | (simp only [Exit.then, Exit.inBlock, ↓reduceIte, Nat.reduceEqDiff]))
                      refine wp_region_effA (S := fun _ => True) (I := (· = World.drew w1)) (E := fun i => [15, 17].contains i) (A := fun i => [9, 13].contains i) (by kernel_rfl) (by kernel_rfl) rfl (fun _ _ => trivial) ?_
                      repeat (first | ((with_reducible apply lexA_q); (focus rfl); (focus rfl); (focus rfl); (focus (intro w' hS; simp [go_sem, effAt, ↓IntWalk.iteOmega, *]; (try go_ints); (first | (with_reducible exact effUpon_val) | (with_reducible exact effUpon_skip)))); (focus ((simp only [Act.put, List.setIfInBounds_toArray, List.set_cons_zero, List.set_cons_succ]; rfl)))) | ((with_reducible apply lexA_s); (focus rfl); (focus ((simp only [Act.put, List.setIfInBounds_toArray, List.set_cons_zero, List.set_cons_succ]; rfl)))) | ((with_reducible apply lexA_a); (focus rfl); (focus rfl); (focus rfl); (focus (intro w' hS; subst hS; simp [go_sem, effAt, ↓IntWalk.iteOmega, *]; (try go_ints); (first | (with_reducible exact effUpon_val) | (with_reducible exact effUpon_skip)))); (focus ((simp only [Act.put, List.setIfInBounds_toArray, List.set_cons_zero, List.set_cons_succ]; rfl)))))
                      with_reducible apply lexA_e (fun w' => Blk w' g 5 ((cellsS pad dj).setIfInBounds (k + 1) (.int .u8 y2)) ∧ World.grownBy w1 w' (some g))
                      (focus (first | exact wanted_none rfl | exact wanted_yes rfl rfl rfl))
                      focus rfl
                      focus
                        intro w' hS
                        subst hS
                        have hf_d := hB_d.frozen
                        simp [go_sem, effAt, *]
                        exact ⟨rfl, hB_d.drew.set_ (k + 1) _, grown_undrew (grown_set (World.grownBy.refl _ _))⟩
                      focus exact fun _ _ => trivial
                      (focus (first | (apply put_some rfl; focus (conv => lhs; dsimp only [List.set_cons_zero, List.set_cons_succ]) <;> rfl) | exact put_none rfl))
                      repeat (first | ((with_reducible apply lexA_q); (focus rfl); (focus rfl); (focus rfl); (focus (intro w' hS; simp [go_sem, effAt, ↓IntWalk.iteOmega, *]; (try go_ints); (first | (with_reducible exact effUpon_val) | (with_reducible exact effUpon_skip)))); (focus ((simp only [Act.put, List.setIfInBounds_toArray, List.set_cons_zero, List.set_cons_succ]; rfl)))) | ((with_reducible apply lexA_s); (focus rfl); (focus ((simp only [Act.put, List.setIfInBounds_toArray, List.set_cons_zero, List.set_cons_succ]; rfl)))) | ((with_reducible apply lexA_a); (focus rfl); (focus rfl); (focus rfl); (focus (intro w' hS; skip; simp [go_sem, effAt, ↓IntWalk.iteOmega, *]; (try go_ints); (first | (with_reducible exact effUpon_val) | (with_reducible exact effUpon_skip)))); (focus ((simp only [Act.put, List.setIfInBounds_toArray, List.set_cons_zero, List.set_cons_succ]; rfl)))))
                      with_reducible apply lexA_e (fun w' => SB w' g pad (swp dj (k + 1) (k)) ∧ World.grownBy w1 w' (some g))
                      (focus (first | exact wanted_none rfl | exact wanted_yes rfl rfl rfl))
                      focus rfl
                      focus
                        rintro w' ⟨hB', hg'⟩
                        have hf_d := hB'.frozen
                        have hc_d := hB'.cell
                        obtain ⟨z, hz⟩ := SZ.out
                        simp [go_sem, effAt, *]
                        exact ⟨rfl, by have h := hB'.set_ (k) (.int .u8 y1); rw [SW.out] at h; exact h, grown_set hg'⟩
                      focus exact fun _ _ => trivial
                      (focus (first | (apply put_some rfl; focus (conv => lhs; dsimp only [List.set_cons_zero, List.set_cons_succ]) <;> rfl) | exact put_none rfl))
                      with_reducible apply lexA_nil
                      rintro w1n ⟨hB_n, hg_n⟩
                      have hG2 := grown_trans hG hg_n
                      clear hB_d hc_d hG hg_n f1 f2
                      have hB_d := hB_n
                      have hG := hG2
                      clear hB_n hG2
                      have Fw1n : Below w1n.heap.size w1n w1n := Below.refl _ _
                      repeat (first | with_reducible apply wpList_nil | with_reducible apply seq_region | with_reducible apply wp_region_lit | with_reducible apply wp_seq | ((with_reducible apply seq_q); (focus rfl); (focus (simp [go_sem, effAt, ↓IntWalk.iteOmega, *]; (try go_ints); (first | (with_reducible exact effUpon_val) | (with_reducible exact effUpon_skip)))); (focus ((simp only [Act.put, List.setIfInBounds_toArray, List.set_cons_zero, List.set_cons_succ]; rfl)))) | ((with_reducible apply seq_s); (focus rfl); (focus ((simp only [Act.put, List.setIfInBounds_toArray, List.set_cons_zero, List.set_cons_succ]; rfl)))) | with_reducible apply wp_block | with_reducible apply wp_skip | with_reducible apply wp_exit | with_reducible apply wp_ret | ((with_reducible apply wp_cond_true); (focus (first | rfl | (simp [go_sem, *]; done)))) | ((with_reducible apply wp_cond_false); (focus (first | rfl | (simp [go_sem, *]; done)))) | (simp only [Exit.then, Exit.inBlock, ↓reduceIte, Nat.reduceEqDiff]))
                      refine hDK _ _ (Handed.intro k ?measure (hDJ _ _ _ ?_))
                      rotate_left
                      (repeat apply Exists.intro)
                      refine ⟨?rel, rfl⟩
                      case rel => exact ⟨k, swp dj (k + 1) k, by go_num, by omega, by omega, by rw [swp_size]; exact HD.out, hR, hB_d, hG⟩
                      case measure => omega
end Go.Proofs.Ytckjgdlceckhpaa
