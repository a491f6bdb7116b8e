/- The walk of partitionOrdered[uint8]. -/
import Derived.Test.YtckjgdlceckhpaaS3
set_option linter.unusedSimpArgs false
set_option linter.unusedVariables false
namespace Go.Proofs.Ytckjgdlceckhpaa
open Go.RowKit Go.Eff
open Go.Sort (swp ltInt scanUp scanDown partLoop partEqLoop partition partitionEqual partLoop_eq partEqLoop_eq reverseLoop reverseRange)
attribute [local irreducible] Go.wpList
set_option maxRecDepth 100000 in
set_option maxHeartbeats 16000000 in
theorem prt_any (g cap a b pv : Nat) (pad : List Value) (d : Array Int) (w : World) (hB_d : SB w g pad d) (hap : a ≤ pv) (hpb : pv < b) (hb : b ≤ d.size) (hsz : d.size ≤ 1000) :
    Calls Try.prog 35 #[.slice (some ⟨g, 0, none⟩) d.size cap, .int .i64 a, .int .i64 b, .int .i64 pv] w (Ret (.tuple #[.int .i64 (partition ltInt d a b pv).1, .bool (partition ltInt d a b pv).2.1]) fun w' => SB w' g pad (partition ltInt d a b pv).2.2 ∧ w.grownBy w' (some g)) := by
  obtain ⟨R, hR⟩ : ∃ R, partition ltInt d a b pv = R := ⟨_, rfl⟩
  rw [hR]
  obtain ⟨n, hn⟩ : ∃ n, d.size = n := ⟨_, rfl⟩
  rw [hn] at hb hsz ⊢
  have HD := Lib.hid hn
  have hnI : (n : Int) ≤ 1000 := by omega
  have hbI : (b : Int) ≤ (n : Int) := by omega
  have haI : (a : Int) < (n : Int) := by omega
  have hpI : (pv : Int) < (n : Int) := by omega
  obtain ⟨b1, hb1⟩ : ∃ b1, b - 1 = b1 := ⟨_, rfl⟩
  have hbJ : (b : Int) - 1 = (b1 : Int) := by omega
  have HB1 := Lib.hid hb1
  have hG : w.grownBy w (some g) := World.grownBy.refl _ _
  go_enter Try.func35, Try.ntmps35
  have F0 : Below w.heap.size w w := Below.refl _ _
  obtain ⟨y1, hy1⟩ : ∃ x, d[a]! = x := ⟨_, rfl⟩
  obtain ⟨y2, hy2⟩ : ∃ x, d[pv]! = x := ⟨_, rfl⟩
  have f2 := cellsS_get pad (show pv < d.size by have := HD.out; omega) hy2
  have f1 := cellsS_get pad (show a < d.size by have := HD.out; omega) hy1
  have SW := Lib.hid (cellsS_swp pad (i := a) (j := pv) (by have := HD.out; omega) (by have := HD.out; omega) hy1 hy2)
  have SZ := Lib.hid (cellsS_get2 (d := d) pad (i := a) (j := pv) y2 (by have := HD.out; omega) (by have := HD.out; omega))
  clear hy1 hy2
  have hc_d := hB_d.cell
  repeat (first | with_reducible apply wpList_nil | with_reducible apply seq_region | with_reducible apply wp_region_lit | with_reducible apply wp_seq | ((with_reducible apply seq_q); (focus rfl); (focus (simp [go_sem, effAt, ↓IntWalk.iteOmega, *]; (try go_ints); (first | (with_reducible exact effUpon_val) | (with_reducible exact effUpon_skip)))); (focus ((simp only [Act.put, List.setIfInBounds_toArray, List.set_cons_zero, List.set_cons_succ]; rfl)))) | ((with_reducible apply seq_s); (focus rfl); (focus ((simp only [Act.put, List.setIfInBounds_toArray, List.set_cons_zero, List.set_cons_succ]; rfl)))) | with_reducible apply wp_block | with_reducible apply wp_skip | with_reducible apply wp_exit | with_reducible apply wp_ret | ((with_reducible apply wp_cond_true); (focus (first | rfl | (simp [go_sem, *]; done)))) | ((with_reducible apply wp_cond_false); (focus (first | rfl | (simp [go_sem, *]; done)))) | (simp only [Exit.then, Exit.inBlock, ↓reduceIte, Nat.reduceEqDiff]))
  refine wp_region_effA (S := fun _ => True) (I := (· = World.drew w)) (E := fun i => [13, 15].contains i) (A := fun i => [7, 11].contains i) (by kernel_rfl) (by kernel_rfl) rfl (fun _ _ => trivial) ?_
  repeat (first | ((with_reducible apply lexA_q); (focus rfl); (focus rfl); (focus rfl); (focus (intro w' hS; simp [go_sem, effAt, ↓IntWalk.iteOmega, *]; (try go_ints); (first | (with_reducible exact effUpon_val) | (with_reducible exact effUpon_skip)))); (focus ((simp only [Act.put, List.setIfInBounds_toArray, List.set_cons_zero, List.set_cons_succ]; rfl)))) | ((with_reducible apply lexA_s); (focus rfl); (focus ((simp only [Act.put, List.setIfInBounds_toArray, List.set_cons_zero, List.set_cons_succ]; rfl)))) | ((with_reducible apply lexA_a); (focus rfl); (focus rfl); (focus rfl); (focus (intro w' hS; subst hS; simp [go_sem, effAt, ↓IntWalk.iteOmega, *]; (try go_ints); (first | (with_reducible exact effUpon_val) | (with_reducible exact effUpon_skip)))); (focus ((simp only [Act.put, List.setIfInBounds_toArray, List.set_cons_zero, List.set_cons_succ]; rfl)))))
  with_reducible apply lexA_e (fun w' => Blk w' g 5 ((cellsS pad d).setIfInBounds (a) (.int .u8 y2)) ∧ World.grownBy w w' (some g))
  (focus (first | exact wanted_none rfl | exact wanted_yes rfl rfl rfl))
  focus rfl
  focus
    intro w' hS
    subst hS
    have hf_d := hB_d.frozen
    simp [go_sem, effAt, *]
    exact ⟨rfl, hB_d.drew.set_ (a) _, grown_undrew (grown_set (World.grownBy.refl _ _))⟩
  focus exact fun _ _ => trivial
  (focus (first | (apply put_some rfl; focus (conv => lhs; dsimp only [List.set_cons_zero, List.set_cons_succ]) <;> rfl) | exact put_none rfl))
  repeat (first | ((with_reducible apply lexA_q); (focus rfl); (focus rfl); (focus rfl); (focus (intro w' hS; simp [go_sem, effAt, ↓IntWalk.iteOmega, *]; (try go_ints); (first | (with_reducible exact effUpon_val) | (with_reducible exact effUpon_skip)))); (focus ((simp only [Act.put, List.setIfInBounds_toArray, List.set_cons_zero, List.set_cons_succ]; rfl)))) | ((with_reducible apply lexA_s); (focus rfl); (focus ((simp only [Act.put, List.setIfInBounds_toArray, List.set_cons_zero, List.set_cons_succ]; rfl)))) | ((with_reducible apply lexA_a); (focus rfl); (focus rfl); (focus rfl); (focus (intro w' hS; skip; simp [go_sem, effAt, ↓IntWalk.iteOmega, *]; (try go_ints); (first | (with_reducible exact effUpon_val) | (with_reducible exact effUpon_skip)))); (focus ((simp only [Act.put, List.setIfInBounds_toArray, List.set_cons_zero, List.set_cons_succ]; rfl)))))
  with_reducible apply lexA_e (fun w' => SB w' g pad (swp d (a) (pv)) ∧ World.grownBy w w' (some g))
  (focus (first | exact wanted_none rfl | exact wanted_yes rfl rfl rfl))
  focus rfl
  focus
    rintro w' ⟨hB', hg'⟩
    have hf_d := hB'.frozen
    have hc_d := hB'.cell
    obtain ⟨z, hz⟩ := SZ.out
    simp [go_sem, effAt, *]
    exact ⟨rfl, by have h := hB'.set_ (pv) (.int .u8 y1); rw [SW.out] at h; exact h, grown_set hg'⟩
  focus exact fun _ _ => trivial
  (focus (first | (apply put_some rfl; focus (conv => lhs; dsimp only [List.set_cons_zero, List.set_cons_succ]) <;> rfl) | exact put_none rfl))
  with_reducible apply lexA_nil
  rintro wn ⟨hB_n, hg_n⟩
  have hG2 := grown_trans hG hg_n
  clear hB_d hc_d hG hg_n f1 f2
  have hB_d := hB_n
  have hG := hG2
  clear hB_n hG2
  obtain ⟨D, hDe⟩ : ∃ D, swp d a pv = D := ⟨_, rfl⟩
  rw [hDe] at hB_d
  have HDE := Lib.hid hDe
  have HD2 := Lib.hid (show D.size = n by rw [← hDe, swp_size]; exact HD.out)
  clear hDe HD hn SW SZ F0
  have HD := HD2
  clear HD2
  obtain ⟨xa, hxa⟩ : ∃ x, D[a]! = x := ⟨_, rfl⟩
  have ea := cellsS_get pad (show a < D.size by have := HD.out; omega) hxa
  have HXA := Lib.hid hxa
  clear hxa
  have Fwn : Below wn.heap.size wn wn := Below.refl _ _
  repeat (first | with_reducible apply wpList_nil | with_reducible apply seq_region | with_reducible apply wp_region_lit | with_reducible apply wp_seq | ((with_reducible apply seq_q); (focus rfl); (focus (simp [go_sem, effAt, ↓IntWalk.iteOmega, *]; (try go_ints); (first | (with_reducible exact effUpon_val) | (with_reducible exact effUpon_skip)))); (focus ((simp only [Act.put, List.setIfInBounds_toArray, List.set_cons_zero, List.set_cons_succ]; rfl)))) | ((with_reducible apply seq_s); (focus rfl); (focus ((simp only [Act.put, List.setIfInBounds_toArray, List.set_cons_zero, List.set_cons_succ]; rfl)))) | with_reducible apply wp_block | with_reducible apply wp_skip | with_reducible apply wp_exit | with_reducible apply wp_ret | ((with_reducible apply wp_cond_true); (focus (first | rfl | (simp [go_sem, *]; done)))) | ((with_reducible apply wp_cond_false); (focus (first | rfl | (simp [go_sem, *]; done)))) | (simp only [Exit.then, Exit.inBlock, ↓reduceIte, Nat.reduceEqDiff]))
  obtain ⟨I, hI⟩ : ∃ I, scanUp (fun x => ltInt x D[a]!) D b1 (a + 1) = I := ⟨_, rfl⟩
  have HI0 := Lib.hid hI
  go_loopg [10] (b1 + 1) (fun q v10 wr => ∃ (i : Nat), v10 = .int .i64 (i : Int) ∧ (a + 1) ≤ i ∧ i ≤ b1 + 2 ∧ b1 + 1 ≤ i + q ∧ scanUp (fun x => ltInt x D[a]!) D b1 i = I ∧ SB wr g pad D ∧ w.grownBy wr (some g))
  case atStart => exact ⟨(a + 1), by first | rfl | go_num, by omega, by omega, by omega, hI, hB_d, hG⟩
  case round =>
    rename_i AJ AK hAJ hAK
    clear hI hB_d hG
    obtain ⟨i, rfl, hi1, hi2, hi3, hI, hB_d, hG⟩ := hrel
    by_cases hc : i ≤ b1
    case neg =>
      have hc' : ¬ (i : Int) ≤ (b1 : Int) := by omega
      rw [scanUp_end _ _ _ _ (.inl hc)] at hI
      subst hI
      clear hAJ hAK
      skip
      have Fwr : Below wr.heap.size wr wr := Below.refl _ _
      have hc_d := hB_d.cell
      repeat (first | with_reducible apply wpList_nil | with_reducible apply seq_region | with_reducible apply wp_region_lit | with_reducible apply wp_seq | ((with_reducible apply seq_q); (focus rfl); (focus (simp [go_sem, effAt, ↓IntWalk.iteOmega, *]; (try go_ints); (first | (with_reducible exact effUpon_val) | (with_reducible exact effUpon_skip)))); (focus ((simp only [Act.put, List.setIfInBounds_toArray, List.set_cons_zero, List.set_cons_succ]; rfl)))) | ((with_reducible apply seq_s); (focus rfl); (focus ((simp only [Act.put, List.setIfInBounds_toArray, List.set_cons_zero, List.set_cons_succ]; rfl)))) | with_reducible apply wp_block | with_reducible apply wp_skip | with_reducible apply wp_exit | with_reducible apply wp_ret | ((with_reducible apply wp_cond_true); (focus (first | rfl | (simp [go_sem, *]; done)))) | ((with_reducible apply wp_cond_false); (focus (first | rfl | (simp [go_sem, *]; done)))) | (simp only [Exit.then, Exit.inBlock, ↓reduceIte, Nat.reduceEqDiff]))
      refine wp_region_pure (E := fun i => [12].contains i) (by kernel_rfl) (by kernel_rfl) ?_
      repeat (first | ((with_reducible apply lex_q); (focus rfl); (focus rfl); (focus (intro w' hS; have hc_d := (hB_d.below hS hB_d.lt).cell; simp [go_sem, effAt, ↓IntWalk.iteOmega, *]; (try go_ints); (first | (with_reducible exact effUpon_val) | (with_reducible exact effUpon_skip)))); (focus ((simp only [Act.put, List.setIfInBounds_toArray, List.set_cons_zero, List.set_cons_succ]; rfl)))) | ((with_reducible apply lex_s); (focus rfl); (focus ((simp only [Act.put, List.setIfInBounds_toArray, List.set_cons_zero, List.set_cons_succ]; rfl)))))
      with_reducible apply lex_nil
      intro w1 hs
      have Fw1 := Fwr.trans (hs.mono Fwr.size)
      replace hB_d := hB_d.below hs hB_d.lt
      clear hs Fwr
      clear hc_d; have hc_d := hB_d.cell
      repeat (first | with_reducible apply wpList_nil | with_reducible apply seq_region | with_reducible apply wp_region_lit | with_reducible apply wp_seq | ((with_reducible apply seq_q); (focus rfl); (focus (simp [go_sem, effAt, ↓IntWalk.iteOmega, *]; (try go_ints); (first | (with_reducible exact effUpon_val) | (with_reducible exact effUpon_skip)))); (focus ((simp only [Act.put, List.setIfInBounds_toArray, List.set_cons_zero, List.set_cons_succ]; rfl)))) | ((with_reducible apply seq_s); (focus rfl); (focus ((simp only [Act.put, List.setIfInBounds_toArray, List.set_cons_zero, List.set_cons_succ]; rfl)))) | with_reducible apply wp_block | with_reducible apply wp_skip | with_reducible apply wp_exit | with_reducible apply wp_ret | ((with_reducible apply wp_cond_true); (focus (first | rfl | (simp [go_sem, *]; done)))) | ((with_reducible apply wp_cond_false); (focus (first | rfl | (simp [go_sem, *]; done)))) | (simp only [Exit.then, Exit.inBlock, ↓reduceIte, Nat.reduceEqDiff]))
      have hG2 := grown_trans hG (grown_below (by assumption : Below wr.heap.size wr w1) _)
      clear hG
      have hG := hG2
      clear hG2 hc_d
      have Fw1 : Below w1.heap.size w1 w1 := Below.refl _ _
      repeat (first | with_reducible apply wpList_nil | with_reducible apply seq_region | with_reducible apply wp_region_lit | with_reducible apply wp_seq | ((with_reducible apply seq_q); (focus rfl); (focus (simp [go_sem, effAt, ↓IntWalk.iteOmega, *]; (try go_ints); (first | (with_reducible exact effUpon_val) | (with_reducible exact effUpon_skip)))); (focus ((simp only [Act.put, List.setIfInBounds_toArray, List.set_cons_zero, List.set_cons_succ]; rfl)))) | ((with_reducible apply seq_s); (focus rfl); (focus ((simp only [Act.put, List.setIfInBounds_toArray, List.set_cons_zero, List.set_cons_succ]; rfl)))) | with_reducible apply wp_block | with_reducible apply wp_skip | with_reducible apply wp_exit | with_reducible apply wp_ret | ((with_reducible apply wp_cond_true); (focus (first | rfl | (simp [go_sem, *]; done)))) | ((with_reducible apply wp_cond_false); (focus (first | rfl | (simp [go_sem, *]; done)))) | (simp only [Exit.then, Exit.inBlock, ↓reduceIte, Nat.reduceEqDiff]))
      obtain ⟨J, hJ⟩ : ∃ J, scanDown (fun x => !ltInt x D[a]!) D i b1 = J := ⟨_, rfl⟩
      have HJ0 := Lib.hid hJ
      go_loopg [11] (b1 + 1) (fun q v11 wr => ∃ (j : Nat), v11 = .int .i64 (j : Int) ∧ j ≤ b1 ∧ i ≤ j + 2 ∧ j ≤ q ∧ scanDown (fun x => !ltInt x D[a]!) D i j = J ∧ SB wr g pad D ∧ w.grownBy wr (some g))
      case atStart => exact ⟨b1, by first | rfl | go_num, by omega, by omega, by omega, hJ, hB_d, hG⟩
      case round =>
        rename_i BJ BK hBJ hBK
        clear hJ hB_d hG
        obtain ⟨j, rfl, hj1, hj2, hj3, hJ, hB_d, hG⟩ := hrel
        by_cases hc : i ≤ j
        case neg =>
          have hc' : ¬ (i : Int) ≤ (j : Int) := by omega
          rw [scanDown_end _ _ _ _ (.inl hc)] at hJ
          subst hJ
          clear hBJ hBK
          skip
          have Fwr : Below wr.heap.size wr wr := Below.refl _ _
          have hc_d := hB_d.cell
          repeat (first | with_reducible apply wpList_nil | with_reducible apply seq_region | with_reducible apply wp_region_lit | with_reducible apply wp_seq | ((with_reducible apply seq_q); (focus rfl); (focus (simp [go_sem, effAt, ↓IntWalk.iteOmega, *]; (try go_ints); (first | (with_reducible exact effUpon_val) | (with_reducible exact effUpon_skip)))); (focus ((simp only [Act.put, List.setIfInBounds_toArray, List.set_cons_zero, List.set_cons_succ]; rfl)))) | ((with_reducible apply seq_s); (focus rfl); (focus ((simp only [Act.put, List.setIfInBounds_toArray, List.set_cons_zero, List.set_cons_succ]; rfl)))) | with_reducible apply wp_block | with_reducible apply wp_skip | with_reducible apply wp_exit | with_reducible apply wp_ret | ((with_reducible apply wp_cond_true); (focus (first | rfl | (simp [go_sem, *]; done)))) | ((with_reducible apply wp_cond_false); (focus (first | rfl | (simp [go_sem, *]; done)))) | (simp only [Exit.then, Exit.inBlock, ↓reduceIte, Nat.reduceEqDiff]))
          refine wp_region_pure (E := fun i => [12].contains i) (by kernel_rfl) (by kernel_rfl) ?_
          repeat (first | ((with_reducible apply lex_q); (focus rfl); (focus rfl); (focus (intro w' hS; have hc_d := (hB_d.below hS hB_d.lt).cell; simp [go_sem, effAt, ↓IntWalk.iteOmega, *]; (try go_ints); (first | (with_reducible exact effUpon_val) | (with_reducible exact effUpon_skip)))); (focus ((simp only [Act.put, List.setIfInBounds_toArray, List.set_cons_zero, List.set_cons_succ]; rfl)))) | ((with_reducible apply lex_s); (focus rfl); (focus ((simp only [Act.put, List.setIfInBounds_toArray, List.set_cons_zero, List.set_cons_succ]; rfl)))))
          with_reducible apply lex_nil
          intro w1 hs
          have Fw1 := Fwr.trans (hs.mono Fwr.size)
          replace hB_d := hB_d.below hs hB_d.lt
          clear hs Fwr
          clear hc_d; have hc_d := hB_d.cell
          repeat (first | with_reducible apply wpList_nil | with_reducible apply seq_region | with_reducible apply wp_region_lit | with_reducible apply wp_seq | ((with_reducible apply seq_q); (focus rfl); (focus (simp [go_sem, effAt, ↓IntWalk.iteOmega, *]; (try go_ints); (first | (with_reducible exact effUpon_val) | (with_reducible exact effUpon_skip)))); (focus ((simp only [Act.put, List.setIfInBounds_toArray, List.set_cons_zero, List.set_cons_succ]; rfl)))) | ((with_reducible apply seq_s); (focus rfl); (focus ((simp only [Act.put, List.setIfInBounds_toArray, List.set_cons_zero, List.set_cons_succ]; rfl)))) | with_reducible apply wp_block | with_reducible apply wp_skip | with_reducible apply wp_exit | with_reducible apply wp_ret | ((with_reducible apply wp_cond_true); (focus (first | rfl | (simp [go_sem, *]; done)))) | ((with_reducible apply wp_cond_false); (focus (first | rfl | (simp [go_sem, *]; done)))) | (simp only [Exit.then, Exit.inBlock, ↓reduceIte, Nat.reduceEqDiff]))
          have hG2 := grown_trans hG (grown_below (by assumption : Below wr.heap.size wr w1) _)
          clear hG
          have hG := hG2
          clear hG2 hc_d
          have hIJ : j < i := by omega
          have hIJ' : (j : Int) < (i : Int) := by omega
          have b8 : (j : Int) < (n : Int) := by omega
          rw [part_eq (I := i) (J := j) HDE.out HB1.out HI0.out HJ0.out, if_pos hIJ] at hR
          subst hR
          have Fw1 : Below w1.heap.size w1 w1 := Below.refl _ _
          obtain ⟨y1, hy1⟩ : ∃ x, D[j]! = x := ⟨_, rfl⟩
          have hy2 := HXA.out
          have f1 := cellsS_get pad (show j < D.size by have := HD.out; omega) hy1
          have SW := Lib.hid (cellsS_swp pad (i := j) (j := a) (by have := HD.out; omega) (by have := HD.out; omega) hy1 hy2)
          have SZ := Lib.hid (cellsS_get2 (d := D) pad (i := j) (j := a) xa (by have := HD.out; omega) (by have := HD.out; omega))
          clear hy1 hy2
          have hc_d := hB_d.cell
          repeat (first | with_reducible apply wpList_nil | with_reducible apply seq_region | with_reducible apply wp_region_lit | with_reducible apply wp_seq | ((with_reducible apply seq_q); (focus rfl); (focus (simp [go_sem, effAt, ↓IntWalk.iteOmega, *]; (try go_ints); (first | (with_reducible exact effUpon_val) | (with_reducible exact effUpon_skip)))); (focus ((simp only [Act.put, List.setIfInBounds_toArray, List.set_cons_zero, List.set_cons_succ]; rfl)))) | ((with_reducible apply seq_s); (focus rfl); (focus ((simp only [Act.put, List.setIfInBounds_toArray, List.set_cons_zero, List.set_cons_succ]; rfl)))) | with_reducible apply wp_block | with_reducible apply wp_skip | with_reducible apply wp_exit | with_reducible apply wp_ret | ((with_reducible apply wp_cond_true); (focus (first | rfl | (simp [go_sem, *]; done)))) | ((with_reducible apply wp_cond_false); (focus (first | rfl | (simp [go_sem, *]; done)))) | (simp only [Exit.then, Exit.inBlock, ↓reduceIte, Nat.reduceEqDiff]))
          refine wp_region_effA (S := fun _ => True) (I := (· = World.drew w1)) (E := fun i => [13, 15].contains i) (A := fun i => [7, 11].contains i) (by kernel_rfl) (by kernel_rfl) rfl (fun _ _ => trivial) ?_
          repeat (first | ((with_reducible apply lexA_q); (focus rfl); (focus rfl); (focus rfl); (focus (intro w' hS; simp [go_sem, effAt, ↓IntWalk.iteOmega, *]; (try go_ints); (first | (with_reducible exact effUpon_val) | (with_reducible exact effUpon_skip)))); (focus ((simp only [Act.put, List.setIfInBounds_toArray, List.set_cons_zero, List.set_cons_succ]; rfl)))) | ((with_reducible apply lexA_s); (focus rfl); (focus ((simp only [Act.put, List.setIfInBounds_toArray, List.set_cons_zero, List.set_cons_succ]; rfl)))) | ((with_reducible apply lexA_a); (focus rfl); (focus rfl); (focus rfl); (focus (intro w' hS; subst hS; simp [go_sem, effAt, ↓IntWalk.iteOmega, *]; (try go_ints); (first | (with_reducible exact effUpon_val) | (with_reducible exact effUpon_skip)))); (focus ((simp only [Act.put, List.setIfInBounds_toArray, List.set_cons_zero, List.set_cons_succ]; rfl)))))
          with_reducible apply lexA_e (fun w' => Blk w' g 5 ((cellsS pad D).setIfInBounds (j) (.int .u8 xa)) ∧ World.grownBy w1 w' (some g))
          (focus (first | exact wanted_none rfl | exact wanted_yes rfl rfl rfl))
          focus rfl
          focus
            intro w' hS
            subst hS
            have hf_d := hB_d.frozen
            simp [go_sem, effAt, *]
            exact ⟨rfl, hB_d.drew.set_ (j) _, grown_undrew (grown_set (World.grownBy.refl _ _))⟩
          focus exact fun _ _ => trivial
          (focus (first | (apply put_some rfl; focus (conv => lhs; dsimp only [List.set_cons_zero, List.set_cons_succ]) <;> rfl) | exact put_none rfl))
          repeat (first | ((with_reducible apply lexA_q); (focus rfl); (focus rfl); (focus rfl); (focus (intro w' hS; simp [go_sem, effAt, ↓IntWalk.iteOmega, *]; (try go_ints); (first | (with_reducible exact effUpon_val) | (with_reducible exact effUpon_skip)))); (focus ((simp only [Act.put, List.setIfInBounds_toArray, List.set_cons_zero, List.set_cons_succ]; rfl)))) | ((with_reducible apply lexA_s); (focus rfl); (focus ((simp only [Act.put, List.setIfInBounds_toArray, List.set_cons_zero, List.set_cons_succ]; rfl)))) | ((with_reducible apply lexA_a); (focus rfl); (focus rfl); (focus rfl); (focus (intro w' hS; skip; simp [go_sem, effAt, ↓IntWalk.iteOmega, *]; (try go_ints); (first | (with_reducible exact effUpon_val) | (with_reducible exact effUpon_skip)))); (focus ((simp only [Act.put, List.setIfInBounds_toArray, List.set_cons_zero, List.set_cons_succ]; rfl)))))
          with_reducible apply lexA_e (fun w' => SB w' g pad (swp D (j) (a)) ∧ World.grownBy w1 w' (some g))
          (focus (first | exact wanted_none rfl | exact wanted_yes rfl rfl rfl))
          focus rfl
          focus
            rintro w' ⟨hB', hg'⟩
            have hf_d := hB'.frozen
            have hc_d := hB'.cell
            obtain ⟨z, hz⟩ := SZ.out
            simp [go_sem, effAt, *]
            exact ⟨rfl, by have h := hB'.set_ (a) (.int .u8 y1); rw [SW.out] at h; exact h, grown_set hg'⟩
          focus exact fun _ _ => trivial
          (focus (first | (apply put_some rfl; focus (conv => lhs; dsimp only [List.set_cons_zero, List.set_cons_succ]) <;> rfl) | exact put_none rfl))
          with_reducible apply lexA_nil
          rintro w1n ⟨hB_n, hg_n⟩
          have hG2 := grown_trans hG hg_n
          clear hB_d hc_d hG hg_n f1
          have hB_d := hB_n
          have hG := hG2
          clear hB_n hG2
          have Fw1n : Below w1n.heap.size w1n w1n := Below.refl _ _
          repeat (first | with_reducible apply wpList_nil | with_reducible apply seq_region | with_reducible apply wp_region_lit | with_reducible apply wp_seq | ((with_reducible apply seq_q); (focus rfl); (focus (simp [go_sem, effAt, ↓IntWalk.iteOmega, *]; (try go_ints); (first | (with_reducible exact effUpon_val) | (with_reducible exact effUpon_skip)))); (focus ((simp only [Act.put, List.setIfInBounds_toArray, List.set_cons_zero, List.set_cons_succ]; rfl)))) | ((with_reducible apply seq_s); (focus rfl); (focus ((simp only [Act.put, List.setIfInBounds_toArray, List.set_cons_zero, List.set_cons_succ]; rfl)))) | with_reducible apply wp_block | with_reducible apply wp_skip | with_reducible apply wp_exit | with_reducible apply wp_ret | ((with_reducible apply wp_cond_true); (focus (first | rfl | (simp [go_sem, *]; done)))) | ((with_reducible apply wp_cond_false); (focus (first | rfl | (simp [go_sem, *]; done)))) | (simp only [Exit.then, Exit.inBlock, ↓reduceIte, Nat.reduceEqDiff]))
          refine bodyPost_ret (v := .tuple #[.int .i64 (j : Int), .bool true]) (by simp [results, Try.results35, go_sem, *]) rfl ⟨rfl, hB_d, hG⟩
        case pos =>
          have hc' : (i : Int) ≤ (j : Int) := by omega
          have hci : (j : Int) < (n : Int) := by have := HD.out; omega
          obtain ⟨x, hx⟩ : ∃ x, D[j]! = x := ⟨_, rfl⟩
          have ei := cellsS_get pad (show j < D.size by have := HD.out; omega) hx
          have hL := less_any x xa
          obtain ⟨l, hl⟩ : ∃ l, ltInt x xa = l := ⟨_, rfl⟩
          rw [hl] at hL
          rw [← HXA.out, ← hx] at hl
          clear hx
          cases l with
          | true =>
            rw [scanDown_end _ _ _ _ (.inr (by simp [hl]))] at hJ
            subst hJ
            clear hBJ hBK hl
            skip
            have Fwr : Below wr.heap.size wr wr := Below.refl _ _
            have hc_d := hB_d.cell
            repeat (first | with_reducible apply wpList_nil | with_reducible apply seq_region | with_reducible apply wp_region_lit | with_reducible apply wp_seq | ((with_reducible apply seq_q); (focus rfl); (focus (simp [go_sem, effAt, ↓IntWalk.iteOmega, *]; (try go_ints); (first | (with_reducible exact effUpon_val) | (with_reducible exact effUpon_skip)))); (focus ((simp only [Act.put, List.setIfInBounds_toArray, List.set_cons_zero, List.set_cons_succ]; rfl)))) | ((with_reducible apply seq_s); (focus rfl); (focus ((simp only [Act.put, List.setIfInBounds_toArray, List.set_cons_zero, List.set_cons_succ]; rfl)))) | with_reducible apply wp_block | with_reducible apply wp_skip | with_reducible apply wp_exit | with_reducible apply wp_ret | ((with_reducible apply wp_cond_true); (focus (first | rfl | (simp [go_sem, *]; done)))) | ((with_reducible apply wp_cond_false); (focus (first | rfl | (simp [go_sem, *]; done)))) | (simp only [Exit.then, Exit.inBlock, ↓reduceIte, Nat.reduceEqDiff]))
            refine wp_region_pure (E := fun i => [12].contains i) (by kernel_rfl) (by kernel_rfl) ?_
            repeat (first | ((with_reducible apply lex_q); (focus rfl); (focus rfl); (focus (intro w' hS; have hc_d := (hB_d.below hS hB_d.lt).cell; simp [go_sem, effAt, ↓IntWalk.iteOmega, *]; (try go_ints); (first | (with_reducible exact effUpon_val) | (with_reducible exact effUpon_skip)))); (focus ((simp only [Act.put, List.setIfInBounds_toArray, List.set_cons_zero, List.set_cons_succ]; rfl)))) | ((with_reducible apply lex_s); (focus rfl); (focus ((simp only [Act.put, List.setIfInBounds_toArray, List.set_cons_zero, List.set_cons_succ]; rfl)))))
            ((with_reducible apply lex_e (Below wr.heap.size wr)); (focus rfl); (focus rfl); (focus (intro w' hS; simp only [effAt]; simp [go_sem]; (with_reducible exact eff_call hS (hL _)))); (focus (exact fun _ h => h)); (focus ((simp only [Act.put, List.setIfInBounds_toArray, List.set_cons_zero, List.set_cons_succ]; rfl))))
            repeat (first | ((with_reducible apply lex_q); (focus rfl); (focus rfl); (focus (intro w' hS; have hc_d := (hB_d.below hS hB_d.lt).cell; simp [go_sem, effAt, ↓IntWalk.iteOmega, *]; (try go_ints); (first | (with_reducible exact effUpon_val) | (with_reducible exact effUpon_skip)))); (focus ((simp only [Act.put, List.setIfInBounds_toArray, List.set_cons_zero, List.set_cons_succ]; rfl)))) | ((with_reducible apply lex_s); (focus rfl); (focus ((simp only [Act.put, List.setIfInBounds_toArray, List.set_cons_zero, List.set_cons_succ]; rfl)))))
            with_reducible apply lex_nil
            intro w1 hs
            have Fw1 := Fwr.trans (hs.mono Fwr.size)
            replace hB_d := hB_d.below hs hB_d.lt
            clear hs Fwr
            clear hc_d; have hc_d := hB_d.cell
            repeat (first | with_reducible apply wpList_nil | with_reducible apply seq_region | with_reducible apply wp_region_lit | with_reducible apply wp_seq | ((with_reducible apply seq_q); (focus rfl); (focus (simp [go_sem, effAt, ↓IntWalk.iteOmega, *]; (try go_ints); (first | (with_reducible exact effUpon_val) | (with_reducible exact effUpon_skip)))); (focus ((simp only [Act.put, List.setIfInBounds_toArray, List.set_cons_zero, List.set_cons_succ]; rfl)))) | ((with_reducible apply seq_s); (focus rfl); (focus ((simp only [Act.put, List.setIfInBounds_toArray, List.set_cons_zero, List.set_cons_succ]; rfl)))) | with_reducible apply wp_block | with_reducible apply wp_skip | with_reducible apply wp_exit | with_reducible apply wp_ret | ((with_reducible apply wp_cond_true); (focus (first | rfl | (simp [go_sem, *]; done)))) | ((with_reducible apply wp_cond_false); (focus (first | rfl | (simp [go_sem, *]; done)))) | (simp only [Exit.then, Exit.inBlock, ↓reduceIte, Nat.reduceEqDiff]))
            clear hL ei
            have hG2 := grown_trans hG (grown_below (by assumption : Below wr.heap.size wr w1) _)
            clear hG
            have hG := hG2
            clear hG2 hc_d
            have hIJ : ¬ j < i := by omega
            obtain ⟨k, hk⟩ : ∃ k, j - 1 = k := ⟨_, rfl⟩
            have hkI : (j : Int) - 1 = (k : Int) := by omega
            have hIJ' : ¬ (j : Int) < (i : Int) := by omega
            have b7 : (i : Int) < (n : Int) := by omega
            have b8 : (j : Int) < (n : Int) := by omega
            rw [part_eq (I := i) (J := j) HDE.out HB1.out HI0.out HJ0.out, if_neg hIJ, hk] at hR
            have Fw1 : Below w1.heap.size w1 w1 := Below.refl _ _
            obtain ⟨y1, hy1⟩ : ∃ x, D[i]! = x := ⟨_, rfl⟩
            obtain ⟨y2, hy2⟩ : ∃ x, D[j]! = x := ⟨_, rfl⟩
            have f2 := cellsS_get pad (show j < D.size by have := HD.out; omega) hy2
            have f1 := cellsS_get pad (show i < D.size by have := HD.out; omega) hy1
            have SW := Lib.hid (cellsS_swp pad (i := i) (j := j) (by have := HD.out; omega) (by have := HD.out; omega) hy1 hy2)
            have SZ := Lib.hid (cellsS_get2 (d := D) pad (i := i) (j := j) y2 (by have := HD.out; omega) (by have := HD.out; omega))
            clear hy1 hy2
            have hc_d := hB_d.cell
            repeat (first | with_reducible apply wpList_nil | with_reducible apply seq_region | with_reducible apply wp_region_lit | with_reducible apply wp_seq | ((with_reducible apply seq_q); (focus rfl); (focus (simp [go_sem, effAt, ↓IntWalk.iteOmega, *]; (try go_ints); (first | (with_reducible exact effUpon_val) | (with_reducible exact effUpon_skip)))); (focus ((simp only [Act.put, List.setIfInBounds_toArray, List.set_cons_zero, List.set_cons_succ]; rfl)))) | ((with_reducible apply seq_s); (focus rfl); (focus ((simp only [Act.put, List.setIfInBounds_toArray, List.set_cons_zero, List.set_cons_succ]; rfl)))) | with_reducible apply wp_block | with_reducible apply wp_skip | with_reducible apply wp_exit | with_reducible apply wp_ret | ((with_reducible apply wp_cond_true); (focus (first | rfl | (simp [go_sem, *]; done)))) | ((with_reducible apply wp_cond_false); (focus (first | rfl | (simp [go_sem, *]; done)))) | (simp only [Exit.then, Exit.inBlock, ↓reduceIte, Nat.reduceEqDiff]))
            refine wp_region_effA (S := fun _ => True) (I := (· = World.drew w1)) (E := fun i => [13, 15].contains i) (A := fun i => [7, 11].contains i) (by kernel_rfl) (by kernel_rfl) rfl (fun _ _ => trivial) ?_
            repeat (first | ((with_reducible apply lexA_q); (focus rfl); (focus rfl); (focus rfl); (focus (intro w' hS; simp [go_sem, effAt, ↓IntWalk.iteOmega, *]; (try go_ints); (first | (with_reducible exact effUpon_val) | (with_reducible exact effUpon_skip)))); (focus ((simp only [Act.put, List.setIfInBounds_toArray, List.set_cons_zero, List.set_cons_succ]; rfl)))) | ((with_reducible apply lexA_s); (focus rfl); (focus ((simp only [Act.put, List.setIfInBounds_toArray, List.set_cons_zero, List.set_cons_succ]; rfl)))) | ((with_reducible apply lexA_a); (focus rfl); (focus rfl); (focus rfl); (focus (intro w' hS; subst hS; simp [go_sem, effAt, ↓IntWalk.iteOmega, *]; (try go_ints); (first | (with_reducible exact effUpon_val) | (with_reducible exact effUpon_skip)))); (focus ((simp only [Act.put, List.setIfInBounds_toArray, List.set_cons_zero, List.set_cons_succ]; rfl)))))
            with_reducible apply lexA_e (fun w' => Blk w' g 5 ((cellsS pad D).setIfInBounds (i) (.int .u8 y2)) ∧ World.grownBy w1 w' (some g))
            (focus (first | exact wanted_none rfl | exact wanted_yes rfl rfl rfl))
            focus rfl
            focus
              intro w' hS
              subst hS
              have hf_d := hB_d.frozen
              simp [go_sem, effAt, *]
              exact ⟨rfl, hB_d.drew.set_ (i) _, grown_undrew (grown_set (World.grownBy.refl _ _))⟩
            focus exact fun _ _ => trivial
            (focus (first | (apply put_some rfl; focus (conv => lhs; dsimp only [List.set_cons_zero, List.set_cons_succ]) <;> rfl) | exact put_none rfl))
            repeat (first | ((with_reducible apply lexA_q); (focus rfl); (focus rfl); (focus rfl); (focus (intro w' hS; simp [go_sem, effAt, ↓IntWalk.iteOmega, *]; (try go_ints); (first | (with_reducible exact effUpon_val) | (with_reducible exact effUpon_skip)))); (focus ((simp only [Act.put, List.setIfInBounds_toArray, List.set_cons_zero, List.set_cons_succ]; rfl)))) | ((with_reducible apply lexA_s); (focus rfl); (focus ((simp only [Act.put, List.setIfInBounds_toArray, List.set_cons_zero, List.set_cons_succ]; rfl)))) | ((with_reducible apply lexA_a); (focus rfl); (focus rfl); (focus rfl); (focus (intro w' hS; skip; simp [go_sem, effAt, ↓IntWalk.iteOmega, *]; (try go_ints); (first | (with_reducible exact effUpon_val) | (with_reducible exact effUpon_skip)))); (focus ((simp only [Act.put, List.setIfInBounds_toArray, List.set_cons_zero, List.set_cons_succ]; rfl)))))
            with_reducible apply lexA_e (fun w' => SB w' g pad (swp D (i) (j)) ∧ World.grownBy w1 w' (some g))
            (focus (first | exact wanted_none rfl | exact wanted_yes rfl rfl rfl))
            focus rfl
            focus
              rintro w' ⟨hB', hg'⟩
              have hf_d := hB'.frozen
              have hc_d := hB'.cell
              obtain ⟨z, hz⟩ := SZ.out
              simp [go_sem, effAt, *]
              exact ⟨rfl, by have h := hB'.set_ (j) (.int .u8 y1); rw [SW.out] at h; exact h, grown_set hg'⟩
            focus exact fun _ _ => trivial
            (focus (first | (apply put_some rfl; focus (conv => lhs; dsimp only [List.set_cons_zero, List.set_cons_succ]) <;> rfl) | exact put_none rfl))
            with_reducible apply lexA_nil
            rintro w1n ⟨hB_n, hg_n⟩
            have hG2 := grown_trans hG hg_n
            clear hB_d hc_d hG hg_n f1 f2
            have hB_d := hB_n
            have hG := hG2
            clear hB_n hG2
            have HD9 := Lib.hid (show (swp D i j).size = n by rw [swp_size]; exact HD.out)
            clear HI0 HJ0 HDE SW SZ HXA ea
            have Fw1n : Below w1n.heap.size w1n w1n := Below.refl _ _
            repeat (first | with_reducible apply wpList_nil | with_reducible apply seq_region | with_reducible apply wp_region_lit | with_reducible apply wp_seq | ((with_reducible apply seq_q); (focus rfl); (focus (simp [go_sem, effAt, ↓IntWalk.iteOmega, *]; (try go_ints); (first | (with_reducible exact effUpon_val) | (with_reducible exact effUpon_skip)))); (focus ((simp only [Act.put, List.setIfInBounds_toArray, List.set_cons_zero, List.set_cons_succ]; rfl)))) | ((with_reducible apply seq_s); (focus rfl); (focus ((simp only [Act.put, List.setIfInBounds_toArray, List.set_cons_zero, List.set_cons_succ]; rfl)))) | with_reducible apply wp_block | with_reducible apply wp_skip | with_reducible apply wp_exit | with_reducible apply wp_ret | ((with_reducible apply wp_cond_true); (focus (first | rfl | (simp [go_sem, *]; done)))) | ((with_reducible apply wp_cond_false); (focus (first | rfl | (simp [go_sem, *]; done)))) | (simp only [Exit.then, Exit.inBlock, ↓reduceIte, Nat.reduceEqDiff]))
            go_loopg [10, 11] (b + 1) (fun q v10 v11 wr => ∃ (i j : Nat) (dk : Array Int), v10 = .int .i64 (i : Int) ∧ v11 = .int .i64 (j : Int) ∧ a < i ∧ i ≤ j + 2 ∧ j < b ∧ j + 1 ≤ i + q ∧ dk.size = n ∧
              ((partLoop ltInt a i j dk).1, false, swp (partLoop ltInt a i j dk).2 (partLoop ltInt a i j dk).1 a) = R ∧ SB wr g pad dk ∧ w.grownBy wr (some g))
            case atStart => exact ⟨i + 1, k, swp D i j, by go_num, by go_num, by omega, by omega, by omega, by omega, HD9.out, hR, hB_d, hG⟩
            case round =>
              rename_i J K hJ hK
              clear hR hB_d hG HD9 HD
              obtain ⟨i0, j0, dk, rfl, rfl, hi0, hij0, hj0, hm0, hdk, hR, hB_d, hG⟩ := hrel
              have HD := Lib.hid hdk
              clear hdk
              obtain ⟨xa, hxa⟩ : ∃ x, dk[a]! = x := ⟨_, rfl⟩
              have ea := cellsS_get pad (show a < dk.size by have := HD.out; omega) hxa
              have HXA := Lib.hid hxa
              clear hxa
              skip
              have Fwr : Below wr.heap.size wr wr := Below.refl _ _
              repeat (first | with_reducible apply wpList_nil | with_reducible apply seq_region | with_reducible apply wp_region_lit | with_reducible apply wp_seq | ((with_reducible apply seq_q); (focus rfl); (focus (simp [go_sem, effAt, ↓IntWalk.iteOmega, *]; (try go_ints); (first | (with_reducible exact effUpon_val) | (with_reducible exact effUpon_skip)))); (focus ((simp only [Act.put, List.setIfInBounds_toArray, List.set_cons_zero, List.set_cons_succ]; rfl)))) | ((with_reducible apply seq_s); (focus rfl); (focus ((simp only [Act.put, List.setIfInBounds_toArray, List.set_cons_zero, List.set_cons_succ]; rfl)))) | with_reducible apply wp_block | with_reducible apply wp_skip | with_reducible apply wp_exit | with_reducible apply wp_ret | ((with_reducible apply wp_cond_true); (focus (first | rfl | (simp [go_sem, *]; done)))) | ((with_reducible apply wp_cond_false); (focus (first | rfl | (simp [go_sem, *]; done)))) | (simp only [Exit.then, Exit.inBlock, ↓reduceIte, Nat.reduceEqDiff]))
              obtain ⟨I, hI⟩ : ∃ I, scanUp (fun x => ltInt x dk[a]!) dk j0 i0 = I := ⟨_, rfl⟩
              have HI0 := Lib.hid hI
              go_loopg [10] (j0 + 1) (fun q v10 wr => ∃ (i : Nat), v10 = .int .i64 (i : Int) ∧ i0 ≤ i ∧ i ≤ j0 + 2 ∧ j0 + 1 ≤ i + q ∧ scanUp (fun x => ltInt x dk[a]!) dk j0 i = I ∧ SB wr g pad dk ∧ w.grownBy wr (some g))
              case atStart => exact ⟨i0, by first | rfl | go_num, by omega, by omega, by omega, hI, hB_d, hG⟩
              case round =>
                rename_i UJ UK hUJ hUK
                clear hI hB_d hG
                obtain ⟨i, rfl, hi1, hi2, hi3, hI, hB_d, hG⟩ := hrel
                by_cases hc : i ≤ j0
                case neg =>
                  have hc' : ¬ (i : Int) ≤ (j0 : Int) := by omega
                  rw [scanUp_end _ _ _ _ (.inl hc)] at hI
                  subst hI
                  clear hUJ hUK
                  skip
                  have Fwr : Below wr.heap.size wr wr := Below.refl _ _
                  have hc_d := hB_d.cell
                  repeat (first | with_reducible apply wpList_nil | with_reducible apply seq_region | with_reducible apply wp_region_lit | with_reducible apply wp_seq | ((with_reducible apply seq_q); (focus rfl); (focus (simp [go_sem, effAt, ↓IntWalk.iteOmega, *]; (try go_ints); (first | (with_reducible exact effUpon_val) | (with_reducible exact effUpon_skip)))); (focus ((simp only [Act.put, List.setIfInBounds_toArray, List.set_cons_zero, List.set_cons_succ]; rfl)))) | ((with_reducible apply seq_s); (focus rfl); (focus ((simp only [Act.put, List.setIfInBounds_toArray, List.set_cons_zero, List.set_cons_succ]; rfl)))) | with_reducible apply wp_block | with_reducible apply wp_skip | with_reducible apply wp_exit | with_reducible apply wp_ret | ((with_reducible apply wp_cond_true); (focus (first | rfl | (simp [go_sem, *]; done)))) | ((with_reducible apply wp_cond_false); (focus (first | rfl | (simp [go_sem, *]; done)))) | (simp only [Exit.then, Exit.inBlock, ↓reduceIte, Nat.reduceEqDiff]))
                  refine wp_region_pure (E := fun i => [12].contains i) (by kernel_rfl) (by kernel_rfl) ?_
                  repeat (first | ((with_reducible apply lex_q); (focus rfl); (focus rfl); (focus (intro w' hS; have hc_d := (hB_d.below hS hB_d.lt).cell; simp [go_sem, effAt, ↓IntWalk.iteOmega, *]; (try go_ints); (first | (with_reducible exact effUpon_val) | (with_reducible exact effUpon_skip)))); (focus ((simp only [Act.put, List.setIfInBounds_toArray, List.set_cons_zero, List.set_cons_succ]; rfl)))) | ((with_reducible apply lex_s); (focus rfl); (focus ((simp only [Act.put, List.setIfInBounds_toArray, List.set_cons_zero, List.set_cons_succ]; rfl)))))
                  with_reducible apply lex_nil
                  intro w1 hs
                  have Fw1 := Fwr.trans (hs.mono Fwr.size)
                  replace hB_d := hB_d.below hs hB_d.lt
                  clear hs Fwr
                  clear hc_d; have hc_d := hB_d.cell
                  repeat (first | with_reducible apply wpList_nil | with_reducible apply seq_region | with_reducible apply wp_region_lit | with_reducible apply wp_seq | ((with_reducible apply seq_q); (focus rfl); (focus (simp [go_sem, effAt, ↓IntWalk.iteOmega, *]; (try go_ints); (first | (with_reducible exact effUpon_val) | (with_reducible exact effUpon_skip)))); (focus ((simp only [Act.put, List.setIfInBounds_toArray, List.set_cons_zero, List.set_cons_succ]; rfl)))) | ((with_reducible apply seq_s); (focus rfl); (focus ((simp only [Act.put, List.setIfInBounds_toArray, List.set_cons_zero, List.set_cons_succ]; rfl)))) | with_reducible apply wp_block | with_reducible apply wp_skip | with_reducible apply wp_exit | with_reducible apply wp_ret | ((with_reducible apply wp_cond_true); (focus (first | rfl | (simp [go_sem, *]; done)))) | ((with_reducible apply wp_cond_false); (focus (first | rfl | (simp [go_sem, *]; done)))) | (simp only [Exit.then, Exit.inBlock, ↓reduceIte, Nat.reduceEqDiff]))
                  have hG2 := grown_trans hG (grown_below (by assumption : Below wr.heap.size wr w1) _)
                  clear hG
                  have hG := hG2
                  clear hG2 hc_d
                  have Fw1 : Below w1.heap.size w1 w1 := Below.refl _ _
                  repeat (first | with_reducible apply wpList_nil | with_reducible apply seq_region | with_reducible apply wp_region_lit | with_reducible apply wp_seq | ((with_reducible apply seq_q); (focus rfl); (focus (simp [go_sem, effAt, ↓IntWalk.iteOmega, *]; (try go_ints); (first | (with_reducible exact effUpon_val) | (with_reducible exact effUpon_skip)))); (focus ((simp only [Act.put, List.setIfInBounds_toArray, List.set_cons_zero, List.set_cons_succ]; rfl)))) | ((with_reducible apply seq_s); (focus rfl); (focus ((simp only [Act.put, List.setIfInBounds_toArray, List.set_cons_zero, List.set_cons_succ]; rfl)))) | with_reducible apply wp_block | with_reducible apply wp_skip | with_reducible apply wp_exit | with_reducible apply wp_ret | ((with_reducible apply wp_cond_true); (focus (first | rfl | (simp [go_sem, *]; done)))) | ((with_reducible apply wp_cond_false); (focus (first | rfl | (simp [go_sem, *]; done)))) | (simp only [Exit.then, Exit.inBlock, ↓reduceIte, Nat.reduceEqDiff]))
                  obtain ⟨J, hJ⟩ : ∃ J, scanDown (fun x => !ltInt x dk[a]!) dk i j0 = J := ⟨_, rfl⟩
                  have HJ0 := Lib.hid hJ
                  go_loopg [11] (j0 + 1) (fun q v11 wr => ∃ (j : Nat), v11 = .int .i64 (j : Int) ∧ j ≤ j0 ∧ i ≤ j + 2 ∧ j ≤ q ∧ scanDown (fun x => !ltInt x dk[a]!) dk i j = J ∧ SB wr g pad dk ∧ w.grownBy wr (some g))
                  case atStart => exact ⟨j0, by first | rfl | go_num, by omega, by omega, by omega, hJ, hB_d, hG⟩
                  case round =>
                    rename_i DJ DK hDJ hDK
                    clear hJ hB_d hG
                    obtain ⟨j, rfl, hj1, hj2, hj3, hJ, hB_d, hG⟩ := hrel
                    by_cases hc : i ≤ j
                    case neg =>
                      have hc' : ¬ (i : Int) ≤ (j : Int) := by omega
                      rw [scanDown_end _ _ _ _ (.inl hc)] at hJ
                      subst hJ
                      clear hDJ hDK
                      skip
                      have Fwr : Below wr.heap.size wr wr := Below.refl _ _
                      have hc_d := hB_d.cell
                      repeat (first | with_reducible apply wpList_nil | with_reducible apply seq_region | with_reducible apply wp_region_lit | with_reducible apply wp_seq | ((with_reducible apply seq_q); (focus rfl); (focus (simp [go_sem, effAt, ↓IntWalk.iteOmega, *]; (try go_ints); (first | (with_reducible exact effUpon_val) | (with_reducible exact effUpon_skip)))); (focus ((simp only [Act.put, List.setIfInBounds_toArray, List.set_cons_zero, List.set_cons_succ]; rfl)))) | ((with_reducible apply seq_s); (focus rfl); (focus ((simp only [Act.put, List.setIfInBounds_toArray, List.set_cons_zero, List.set_cons_succ]; rfl)))) | with_reducible apply wp_block | with_reducible apply wp_skip | with_reducible apply wp_exit | with_reducible apply wp_ret | ((with_reducible apply wp_cond_true); (focus (first | rfl | (simp [go_sem, *]; done)))) | ((with_reducible apply wp_cond_false); (focus (first | rfl | (simp [go_sem, *]; done)))) | (simp only [Exit.then, Exit.inBlock, ↓reduceIte, Nat.reduceEqDiff]))
                      refine wp_region_pure (E := fun i => [12].contains i) (by kernel_rfl) (by kernel_rfl) ?_
                      repeat (first | ((with_reducible apply lex_q); (focus rfl); (focus rfl); (focus (intro w' hS; have hc_d := (hB_d.below hS hB_d.lt).cell; simp [go_sem, effAt, ↓IntWalk.iteOmega, *]; (try go_ints); (first | (with_reducible exact effUpon_val) | (with_reducible exact effUpon_skip)))); (focus ((simp only [Act.put, List.setIfInBounds_toArray, List.set_cons_zero, List.set_cons_succ]; rfl)))) | ((with_reducible apply lex_s); (focus rfl); (focus ((simp only [Act.put, List.setIfInBounds_toArray, List.set_cons_zero, List.set_cons_succ]; rfl)))))
                      with_reducible apply lex_nil
                      intro w1 hs
                      have Fw1 := Fwr.trans (hs.mono Fwr.size)
                      replace hB_d := hB_d.below hs hB_d.lt
                      clear hs Fwr
                      clear hc_d; have hc_d := hB_d.cell
                      repeat (first | with_reducible apply wpList_nil | with_reducible apply seq_region | with_reducible apply wp_region_lit | with_reducible apply wp_seq | ((with_reducible apply seq_q); (focus rfl); (focus (simp [go_sem, effAt, ↓IntWalk.iteOmega, *]; (try go_ints); (first | (with_reducible exact effUpon_val) | (with_reducible exact effUpon_skip)))); (focus ((simp only [Act.put, List.setIfInBounds_toArray, List.set_cons_zero, List.set_cons_succ]; rfl)))) | ((with_reducible apply seq_s); (focus rfl); (focus ((simp only [Act.put, List.setIfInBounds_toArray, List.set_cons_zero, List.set_cons_succ]; rfl)))) | with_reducible apply wp_block | with_reducible apply wp_skip | with_reducible apply wp_exit | with_reducible apply wp_ret | ((with_reducible apply wp_cond_true); (focus (first | rfl | (simp [go_sem, *]; done)))) | ((with_reducible apply wp_cond_false); (focus (first | rfl | (simp [go_sem, *]; done)))) | (simp only [Exit.then, Exit.inBlock, ↓reduceIte, Nat.reduceEqDiff]))
                      have hG2 := grown_trans hG (grown_below (by assumption : Below wr.heap.size wr w1) _)
                      clear hG
                      have hG := hG2
                      clear hG2 hc_d
                      have hIJ : j < i := by omega
                      have hIJ' : (j : Int) < (i : Int) := by omega
                      have b8 : (j : Int) < (n : Int) := by omega
                      rw [partLoop_eq, HI0.out, HJ0.out, if_pos hIJ] at hR
                      dsimp only at hR
                      subst hR
                      clear hJ hK
                      have Fw1 : Below w1.heap.size w1 w1 := Below.refl _ _
                      obtain ⟨y1, hy1⟩ : ∃ x, dk[j]! = x := ⟨_, rfl⟩
                      have hy2 := HXA.out
                      have f1 := cellsS_get pad (show j < dk.size by have := HD.out; omega) hy1
                      have SW := Lib.hid (cellsS_swp pad (i := j) (j := a) (by have := HD.out; omega) (by have := HD.out; omega) hy1 hy2)
                      have SZ := Lib.hid (cellsS_get2 (d := dk) pad (i := j) (j := a) xa (by have := HD.out; omega) (by have := HD.out; omega))
                      clear hy1 hy2
                      have hc_d := hB_d.cell
                      repeat (first | with_reducible apply wpList_nil | with_reducible apply seq_region | with_reducible apply wp_region_lit | with_reducible apply wp_seq | ((with_reducible apply seq_q); (focus rfl); (focus (simp [go_sem, effAt, ↓IntWalk.iteOmega, *]; (try go_ints); (first | (with_reducible exact effUpon_val) | (with_reducible exact effUpon_skip)))); (focus ((simp only [Act.put, List.setIfInBounds_toArray, List.set_cons_zero, List.set_cons_succ]; rfl)))) | ((with_reducible apply seq_s); (focus rfl); (focus ((simp only [Act.put, List.setIfInBounds_toArray, List.set_cons_zero, List.set_cons_succ]; rfl)))) | with_reducible apply wp_block | with_reducible apply wp_skip | with_reducible apply wp_exit | with_reducible apply wp_ret | ((with_reducible apply wp_cond_true); (focus (first | rfl | (simp [go_sem, *]; done)))) | ((with_reducible apply wp_cond_false); (focus (first | rfl | (simp [go_sem, *]; done)))) | (simp only [Exit.then, Exit.inBlock, ↓reduceIte, Nat.reduceEqDiff]))
                      refine wp_region_effA (S := fun _ => True) (I := (· = World.drew w1)) (E := fun i => [13, 15].contains i) (A := fun i => [7, 11].contains i) (by kernel_rfl) (by kernel_rfl) rfl (fun _ _ => trivial) ?_
                      repeat (first | ((with_reducible apply lexA_q); (focus rfl); (focus rfl); (focus rfl); (focus (intro w' hS; simp [go_sem, effAt, ↓IntWalk.iteOmega, *]; (try go_ints); (first | (with_reducible exact effUpon_val) | (with_reducible exact effUpon_skip)))); (focus ((simp only [Act.put, List.setIfInBounds_toArray, List.set_cons_zero, List.set_cons_succ]; rfl)))) | ((with_reducible apply lexA_s); (focus rfl); (focus ((simp only [Act.put, List.setIfInBounds_toArray, List.set_cons_zero, List.set_cons_succ]; rfl)))) | ((with_reducible apply lexA_a); (focus rfl); (focus rfl); (focus rfl); (focus (intro w' hS; subst hS; simp [go_sem, effAt, ↓IntWalk.iteOmega, *]; (try go_ints); (first | (with_reducible exact effUpon_val) | (with_reducible exact effUpon_skip)))); (focus ((simp only [Act.put, List.setIfInBounds_toArray, List.set_cons_zero, List.set_cons_succ]; rfl)))))
                      with_reducible apply lexA_e (fun w' => Blk w' g 5 ((cellsS pad dk).setIfInBounds (j) (.int .u8 xa)) ∧ World.grownBy w1 w' (some g))
                      (focus (first | exact wanted_none rfl | exact wanted_yes rfl rfl rfl))
                      focus rfl
                      focus
                        intro w' hS
                        subst hS
                        have hf_d := hB_d.frozen
                        simp [go_sem, effAt, *]
                        exact ⟨rfl, hB_d.drew.set_ (j) _, grown_undrew (grown_set (World.grownBy.refl _ _))⟩
                      focus exact fun _ _ => trivial
                      (focus (first | (apply put_some rfl; focus (conv => lhs; dsimp only [List.set_cons_zero, List.set_cons_succ]) <;> rfl) | exact put_none rfl))
                      repeat (first | ((with_reducible apply lexA_q); (focus rfl); (focus rfl); (focus rfl); (focus (intro w' hS; simp [go_sem, effAt, ↓IntWalk.iteOmega, *]; (try go_ints); (first | (with_reducible exact effUpon_val) | (with_reducible exact effUpon_skip)))); (focus ((simp only [Act.put, List.setIfInBounds_toArray, List.set_cons_zero, List.set_cons_succ]; rfl)))) | ((with_reducible apply lexA_s); (focus rfl); (focus ((simp only [Act.put, List.setIfInBounds_toArray, List.set_cons_zero, List.set_cons_succ]; rfl)))) | ((with_reducible apply lexA_a); (focus rfl); (focus rfl); (focus rfl); (focus (intro w' hS; skip; simp [go_sem, effAt, ↓IntWalk.iteOmega, *]; (try go_ints); (first | (with_reducible exact effUpon_val) | (with_reducible exact effUpon_skip)))); (focus ((simp only [Act.put, List.setIfInBounds_toArray, List.set_cons_zero, List.set_cons_succ]; rfl)))))
                      with_reducible apply lexA_e (fun w' => SB w' g pad (swp dk (j) (a)) ∧ World.grownBy w1 w' (some g))
                      (focus (first | exact wanted_none rfl | exact wanted_yes rfl rfl rfl))
                      focus rfl
                      focus
                        rintro w' ⟨hB', hg'⟩
                        have hf_d := hB'.frozen
                        have hc_d := hB'.cell
                        obtain ⟨z, hz⟩ := SZ.out
                        simp [go_sem, effAt, *]
                        exact ⟨rfl, by have h := hB'.set_ (a) (.int .u8 y1); rw [SW.out] at h; exact h, grown_set hg'⟩
                      focus exact fun _ _ => trivial
                      (focus (first | (apply put_some rfl; focus (conv => lhs; dsimp only [List.set_cons_zero, List.set_cons_succ]) <;> rfl) | exact put_none rfl))
                      with_reducible apply lexA_nil
                      rintro w1n ⟨hB_n, hg_n⟩
                      have hG2 := grown_trans hG hg_n
                      clear hB_d hc_d hG hg_n f1
                      have hB_d := hB_n
                      have hG := hG2
                      clear hB_n hG2
                      have Fw1n : Below w1n.heap.size w1n w1n := Below.refl _ _
                      repeat (first | with_reducible apply wpList_nil | with_reducible apply seq_region | with_reducible apply wp_region_lit | with_reducible apply wp_seq | ((with_reducible apply seq_q); (focus rfl); (focus (simp [go_sem, effAt, ↓IntWalk.iteOmega, *]; (try go_ints); (first | (with_reducible exact effUpon_val) | (with_reducible exact effUpon_skip)))); (focus ((simp only [Act.put, List.setIfInBounds_toArray, List.set_cons_zero, List.set_cons_succ]; rfl)))) | ((with_reducible apply seq_s); (focus rfl); (focus ((simp only [Act.put, List.setIfInBounds_toArray, List.set_cons_zero, List.set_cons_succ]; rfl)))) | with_reducible apply wp_block | with_reducible apply wp_skip | with_reducible apply wp_exit | with_reducible apply wp_ret | ((with_reducible apply wp_cond_true); (focus (first | rfl | (simp [go_sem, *]; done)))) | ((with_reducible apply wp_cond_false); (focus (first | rfl | (simp [go_sem, *]; done)))) | (simp only [Exit.then, Exit.inBlock, ↓reduceIte, Nat.reduceEqDiff]))
                      refine bodyPost_ret (v := .tuple #[.int .i64 (j : Int), .bool false]) (by simp [results, Try.results35, go_sem, *]) rfl ⟨rfl, hB_d, hG⟩
                    case pos =>
                      have hc' : (i : Int) ≤ (j : Int) := by omega
                      have hci : (j : Int) < (n : Int) := by have := HD.out; omega
                      obtain ⟨x, hx⟩ : ∃ x, dk[j]! = x := ⟨_, rfl⟩
                      have ei := cellsS_get pad (show j < dk.size by have := HD.out; omega) hx
                      have hL := less_any x xa
                      obtain ⟨l, hl⟩ : ∃ l, ltInt x xa = l := ⟨_, rfl⟩
                      rw [hl] at hL
                      rw [← HXA.out, ← hx] at hl
                      clear hx
                      cases l with
                      | true =>
                        rw [scanDown_end _ _ _ _ (.inr (by simp [hl]))] at hJ
                        subst hJ
                        clear hDJ hDK hl
                        skip
                        have Fwr : Below wr.heap.size wr wr := Below.refl _ _
                        have hc_d := hB_d.cell
                        repeat (first | with_reducible apply wpList_nil | with_reducible apply seq_region | with_reducible apply wp_region_lit | with_reducible apply wp_seq | ((with_reducible apply seq_q); (focus rfl); (focus (simp [go_sem, effAt, ↓IntWalk.iteOmega, *]; (try go_ints); (first | (with_reducible exact effUpon_val) | (with_reducible exact effUpon_skip)))); (focus ((simp only [Act.put, List.setIfInBounds_toArray, List.set_cons_zero, List.set_cons_succ]; rfl)))) | ((with_reducible apply seq_s); (focus rfl); (focus ((simp only [Act.put, List.setIfInBounds_toArray, List.set_cons_zero, List.set_cons_succ]; rfl)))) | with_reducible apply wp_block | with_reducible apply wp_skip | with_reducible apply wp_exit | with_reducible apply wp_ret | ((with_reducible apply wp_cond_true); (focus (first | rfl | (simp [go_sem, *]; done)))) | ((with_reducible apply wp_cond_false); (focus (first | rfl | (simp [go_sem, *]; done)))) | (simp only [Exit.then, Exit.inBlock, ↓reduceIte, Nat.reduceEqDiff]))
                        refine wp_region_pure (E := fun i => [12].contains i) (by kernel_rfl) (by kernel_rfl) ?_
                        repeat (first | ((with_reducible apply lex_q); (focus rfl); (focus rfl); (focus (intro w' hS; have hc_d := (hB_d.below hS hB_d.lt).cell; simp [go_sem, effAt, ↓IntWalk.iteOmega, *]; (try go_ints); (first | (with_reducible exact effUpon_val) | (with_reducible exact effUpon_skip)))); (focus ((simp only [Act.put, List.setIfInBounds_toArray, List.set_cons_zero, List.set_cons_succ]; rfl)))) | ((with_reducible apply lex_s); (focus rfl); (focus ((simp only [Act.put, List.setIfInBounds_toArray, List.set_cons_zero, List.set_cons_succ]; rfl)))))
                        ((with_reducible apply lex_e (Below wr.heap.size wr)); (focus rfl); (focus rfl); (focus (intro w' hS; simp only [effAt]; simp [go_sem]; (with_reducible exact eff_call hS (hL _)))); (focus (exact fun _ h => h)); (focus ((simp only [Act.put, List.setIfInBounds_toArray, List.set_cons_zero, List.set_cons_succ]; rfl))))
                        repeat (first | ((with_reducible apply lex_q); (focus rfl); (focus rfl); (focus (intro w' hS; have hc_d := (hB_d.below hS hB_d.lt).cell; simp [go_sem, effAt, ↓IntWalk.iteOmega, *]; (try go_ints); (first | (with_reducible exact effUpon_val) | (with_reducible exact effUpon_skip)))); (focus ((simp only [Act.put, List.setIfInBounds_toArray, List.set_cons_zero, List.set_cons_succ]; rfl)))) | ((with_reducible apply lex_s); (focus rfl); (focus ((simp only [Act.put, List.setIfInBounds_toArray, List.set_cons_zero, List.set_cons_succ]; rfl)))))
                        with_reducible apply lex_nil
                        intro w1 hs
                        have Fw1 := Fwr.trans (hs.mono Fwr.size)
                        replace hB_d := hB_d.below hs hB_d.lt
                        clear hs Fwr
                        clear hc_d; have hc_d := hB_d.cell
                        repeat (first | with_reducible apply wpList_nil | with_reducible apply seq_region | with_reducible apply wp_region_lit | with_reducible apply wp_seq | ((with_reducible apply seq_q); (focus rfl); (focus (simp [go_sem, effAt, ↓IntWalk.iteOmega, *]; (try go_ints); (first | (with_reducible exact effUpon_val) | (with_reducible exact effUpon_skip)))); (focus ((simp only [Act.put, List.setIfInBounds_toArray, List.set_cons_zero, List.set_cons_succ]; rfl)))) | ((with_reducible apply seq_s); (focus rfl); (focus ((simp only [Act.put, List.setIfInBounds_toArray, List.set_cons_zero, List.set_cons_succ]; rfl)))) | with_reducible apply wp_block | with_reducible apply wp_skip | with_reducible apply wp_exit | with_reducible apply wp_ret | ((with_reducible apply wp_cond_true); (focus (first | rfl | (simp [go_sem, *]; done)))) | ((with_reducible apply wp_cond_false); (focus (first | rfl | (simp [go_sem, *]; done)))) | (simp only [Exit.then, Exit.inBlock, ↓reduceIte, Nat.reduceEqDiff]))
                        clear hL ei
                        have hG2 := grown_trans hG (grown_below (by assumption : Below wr.heap.size wr w1) _)
                        clear hG
                        have hG := hG2
                        clear hG2 hc_d
                        have hIJ : ¬ j < i := by omega
                        obtain ⟨k, hk⟩ : ∃ k, j - 1 = k := ⟨_, rfl⟩
                        have hkI : (j : Int) - 1 = (k : Int) := by omega
                        have hIJ' : ¬ (j : Int) < (i : Int) := by omega
                        have b7 : (i : Int) < (n : Int) := by omega
                        have b8 : (j : Int) < (n : Int) := by omega
                        rw [partLoop_eq, HI0.out, HJ0.out, if_neg hIJ, hk] at hR
                        have Fw1 : Below w1.heap.size w1 w1 := Below.refl _ _
                        obtain ⟨y1, hy1⟩ : ∃ x, dk[i]! = x := ⟨_, rfl⟩
                        obtain ⟨y2, hy2⟩ : ∃ x, dk[j]! = x := ⟨_, rfl⟩
                        have f2 := cellsS_get pad (show j < dk.size by have := HD.out; omega) hy2
                        have f1 := cellsS_get pad (show i < dk.size by have := HD.out; omega) hy1
                        have SW := Lib.hid (cellsS_swp pad (i := i) (j := j) (by have := HD.out; omega) (by have := HD.out; omega) hy1 hy2)
                        have SZ := Lib.hid (cellsS_get2 (d := dk) pad (i := i) (j := j) y2 (by have := HD.out; omega) (by have := HD.out; omega))
                        clear hy1 hy2
                        have hc_d := hB_d.cell
                        repeat (first | with_reducible apply wpList_nil | with_reducible apply seq_region | with_reducible apply wp_region_lit | with_reducible apply wp_seq | ((with_reducible apply seq_q); (focus rfl); (focus (simp [go_sem, effAt, ↓IntWalk.iteOmega, *]; (try go_ints); (first | (with_reducible exact effUpon_val) | (with_reducible exact effUpon_skip)))); (focus ((simp only [Act.put, List.setIfInBounds_toArray, List.set_cons_zero, List.set_cons_succ]; rfl)))) | ((with_reducible apply seq_s); (focus rfl); (focus ((simp only [Act.put, List.setIfInBounds_toArray, List.set_cons_zero, List.set_cons_succ]; rfl)))) | with_reducible apply wp_block | with_reducible apply wp_skip | with_reducible apply wp_exit | with_reducible apply wp_ret | ((with_reducible apply wp_cond_true); (focus (first | rfl | (simp [go_sem, *]; done)))) | ((with_reducible apply wp_cond_false); (focus (first | rfl | (simp [go_sem, *]; done)))) | (simp only [Exit.then, Exit.inBlock, ↓reduceIte, Nat.reduceEqDiff]))
                        refine wp_region_effA (S := fun _ => True) (I := (· = World.drew w1)) (E := fun i => [13, 15].contains i) (A := fun i => [7, 11].contains i) (by kernel_rfl) (by kernel_rfl) rfl (fun _ _ => trivial) ?_
                        repeat (first | ((with_reducible apply lexA_q); (focus rfl); (focus rfl); (focus rfl); (focus (intro w' hS; simp [go_sem, effAt, ↓IntWalk.iteOmega, *]; (try go_ints); (first | (with_reducible exact effUpon_val) | (with_reducible exact effUpon_skip)))); (focus ((simp only [Act.put, List.setIfInBounds_toArray, List.set_cons_zero, List.set_cons_succ]; rfl)))) | ((with_reducible apply lexA_s); (focus rfl); (focus ((simp only [Act.put, List.setIfInBounds_toArray, List.set_cons_zero, List.set_cons_succ]; rfl)))) | ((with_reducible apply lexA_a); (focus rfl); (focus rfl); (focus rfl); (focus (intro w' hS; subst hS; simp [go_sem, effAt, ↓IntWalk.iteOmega, *]; (try go_ints); (first | (with_reducible exact effUpon_val) | (with_reducible exact effUpon_skip)))); (focus ((simp only [Act.put, List.setIfInBounds_toArray, List.set_cons_zero, List.set_cons_succ]; rfl)))))
                        with_reducible apply lexA_e (fun w' => Blk w' g 5 ((cellsS pad dk).setIfInBounds (i) (.int .u8 y2)) ∧ World.grownBy w1 w' (some g))
                        (focus (first | exact wanted_none rfl | exact wanted_yes rfl rfl rfl))
                        focus rfl
                        focus
                          intro w' hS
                          subst hS
                          have hf_d := hB_d.frozen
                          simp [go_sem, effAt, *]
                          exact ⟨rfl, hB_d.drew.set_ (i) _, grown_undrew (grown_set (World.grownBy.refl _ _))⟩
                        focus exact fun _ _ => trivial
                        (focus (first | (apply put_some rfl; focus (conv => lhs; dsimp only [List.set_cons_zero, List.set_cons_succ]) <;> rfl) | exact put_none rfl))
                        repeat (first | ((with_reducible apply lexA_q); (focus rfl); (focus rfl); (focus rfl); (focus (intro w' hS; simp [go_sem, effAt, ↓IntWalk.iteOmega, *]; (try go_ints); (first | (with_reducible exact effUpon_val) | (with_reducible exact effUpon_skip)))); (focus ((simp only [Act.put, List.setIfInBounds_toArray, List.set_cons_zero, List.set_cons_succ]; rfl)))) | ((with_reducible apply lexA_s); (focus rfl); (focus ((simp only [Act.put, List.setIfInBounds_toArray, List.set_cons_zero, List.set_cons_succ]; rfl)))) | ((with_reducible apply lexA_a); (focus rfl); (focus rfl); (focus rfl); (focus (intro w' hS; skip; simp [go_sem, effAt, ↓IntWalk.iteOmega, *]; (try go_ints); (first | (with_reducible exact effUpon_val) | (with_reducible exact effUpon_skip)))); (focus ((simp only [Act.put, List.setIfInBounds_toArray, List.set_cons_zero, List.set_cons_succ]; rfl)))))
                        with_reducible apply lexA_e (fun w' => SB w' g pad (swp dk (i) (j)) ∧ World.grownBy w1 w' (some g))
                        (focus (first | exact wanted_none rfl | exact wanted_yes rfl rfl rfl))
                        focus rfl
                        focus
                          rintro w' ⟨hB', hg'⟩
                          have hf_d := hB'.frozen
                          have hc_d := hB'.cell
                          obtain ⟨z, hz⟩ := SZ.out
                          simp [go_sem, effAt, *]
                          exact ⟨rfl, by have h := hB'.set_ (j) (.int .u8 y1); rw [SW.out] at h; exact h, grown_set hg'⟩
                        focus exact fun _ _ => trivial
                        (focus (first | (apply put_some rfl; focus (conv => lhs; dsimp only [List.set_cons_zero, List.set_cons_succ]) <;> rfl) | exact put_none rfl))
                        with_reducible apply lexA_nil
                        rintro w1n ⟨hB_n, hg_n⟩
                        have hG2 := grown_trans hG hg_n
                        clear hB_d hc_d hG hg_n f1 f2
                        have hB_d := hB_n
                        have hG := hG2
                        clear hB_n hG2
                        have Fw1n : Below w1n.heap.size w1n w1n := Below.refl _ _
                        repeat (first | with_reducible apply wpList_nil | with_reducible apply seq_region | with_reducible apply wp_region_lit | with_reducible apply wp_seq | ((with_reducible apply seq_q); (focus rfl); (focus (simp [go_sem, effAt, ↓IntWalk.iteOmega, *]; (try go_ints); (first | (with_reducible exact effUpon_val) | (with_reducible exact effUpon_skip)))); (focus ((simp only [Act.put, List.setIfInBounds_toArray, List.set_cons_zero, List.set_cons_succ]; rfl)))) | ((with_reducible apply seq_s); (focus rfl); (focus ((simp only [Act.put, List.setIfInBounds_toArray, List.set_cons_zero, List.set_cons_succ]; rfl)))) | with_reducible apply wp_block | with_reducible apply wp_skip | with_reducible apply wp_exit | with_reducible apply wp_ret | ((with_reducible apply wp_cond_true); (focus (first | rfl | (simp [go_sem, *]; done)))) | ((with_reducible apply wp_cond_false); (focus (first | rfl | (simp [go_sem, *]; done)))) | (simp only [Exit.then, Exit.inBlock, ↓reduceIte, Nat.reduceEqDiff]))
                        refine hK _ _ (Handed.intro (k - i) ?measure (hJ _ _ _ ?_))
                        rotate_left
                        (repeat apply Exists.intro)
                        refine ⟨?rel, rfl⟩
                        case rel => exact ⟨i + 1, k, swp dk i j, by go_num, by go_num, by omega, by omega, by omega, by omega, by rw [swp_size]; exact HD.out, hR, hB_d, hG⟩
                        case measure => omega
                      | false =>
                        rw [scanDown_go _ _ _ _ hc (by omega) (by simp [hl])] at hJ
                        clear hl
                        obtain ⟨k, hk⟩ : ∃ k, j - 1 = k := ⟨_, rfl⟩
                        have hkI : (j : Int) - 1 = (k : Int) := by omega
                        rw [hk] at hJ
                        skip
                        have Fwr : Below wr.heap.size wr wr := Below.refl _ _
                        have hc_d := hB_d.cell
                        repeat (first | with_reducible apply wpList_nil | with_reducible apply seq_region | with_reducible apply wp_region_lit | with_reducible apply wp_seq | ((with_reducible apply seq_q); (focus rfl); (focus (simp [go_sem, effAt, ↓IntWalk.iteOmega, *]; (try go_ints); (first | (with_reducible exact effUpon_val) | (with_reducible exact effUpon_skip)))); (focus ((simp only [Act.put, List.setIfInBounds_toArray, List.set_cons_zero, List.set_cons_succ]; rfl)))) | ((with_reducible apply seq_s); (focus rfl); (focus ((simp only [Act.put, List.setIfInBounds_toArray, List.set_cons_zero, List.set_cons_succ]; rfl)))) | with_reducible apply wp_block | with_reducible apply wp_skip | with_reducible apply wp_exit | with_reducible apply wp_ret | ((with_reducible apply wp_cond_true); (focus (first | rfl | (simp [go_sem, *]; done)))) | ((with_reducible apply wp_cond_false); (focus (first | rfl | (simp [go_sem, *]; done)))) | (simp only [Exit.then, Exit.inBlock, ↓reduceIte, Nat.reduceEqDiff]))
                        refine wp_region_pure (E := fun i => [12].contains i) (by kernel_rfl) (by kernel_rfl) ?_
                        repeat (first | ((with_reducible apply lex_q); (focus rfl); (focus rfl); (focus (intro w' hS; have hc_d := (hB_d.below hS hB_d.lt).cell; simp [go_sem, effAt, ↓IntWalk.iteOmega, *]; (try go_ints); (first | (with_reducible exact effUpon_val) | (with_reducible exact effUpon_skip)))); (focus ((simp only [Act.put, List.setIfInBounds_toArray, List.set_cons_zero, List.set_cons_succ]; rfl)))) | ((with_reducible apply lex_s); (focus rfl); (focus ((simp only [Act.put, List.setIfInBounds_toArray, List.set_cons_zero, List.set_cons_succ]; rfl)))))
                        ((with_reducible apply lex_e (Below wr.heap.size wr)); (focus rfl); (focus rfl); (focus (intro w' hS; simp only [effAt]; simp [go_sem]; (with_reducible exact eff_call hS (hL _)))); (focus (exact fun _ h => h)); (focus ((simp only [Act.put, List.setIfInBounds_toArray, List.set_cons_zero, List.set_cons_succ]; rfl))))
                        repeat (first | ((with_reducible apply lex_q); (focus rfl); (focus rfl); (focus (intro w' hS; have hc_d := (hB_d.below hS hB_d.lt).cell; simp [go_sem, effAt, ↓IntWalk.iteOmega, *]; (try go_ints); (first | (with_reducible exact effUpon_val) | (with_reducible exact effUpon_skip)))); (focus ((simp only [Act.put, List.setIfInBounds_toArray, List.set_cons_zero, List.set_cons_succ]; rfl)))) | ((with_reducible apply lex_s); (focus rfl); (focus ((simp only [Act.put, List.setIfInBounds_toArray, List.set_cons_zero, List.set_cons_succ]; rfl)))))
                        with_reducible apply lex_nil
                        intro w1 hs
                        have Fw1 := Fwr.trans (hs.mono Fwr.size)
                        replace hB_d := hB_d.below hs hB_d.lt
                        clear hs Fwr
                        clear hc_d; have hc_d := hB_d.cell
                        repeat (first | with_reducible apply wpList_nil | with_reducible apply seq_region | with_reducible apply wp_region_lit | with_reducible apply wp_seq | ((with_reducible apply seq_q); (focus rfl); (focus (simp [go_sem, effAt, ↓IntWalk.iteOmega, *]; (try go_ints); (first | (with_reducible exact effUpon_val) | (with_reducible exact effUpon_skip)))); (focus ((simp only [Act.put, List.setIfInBounds_toArray, List.set_cons_zero, List.set_cons_succ]; rfl)))) | ((with_reducible apply seq_s); (focus rfl); (focus ((simp only [Act.put, List.setIfInBounds_toArray, List.set_cons_zero, List.set_cons_succ]; rfl)))) | with_reducible apply wp_block | with_reducible apply wp_skip | with_reducible apply wp_exit | with_reducible apply wp_ret | ((with_reducible apply wp_cond_true); (focus (first | rfl | (simp [go_sem, *]; done)))) | ((with_reducible apply wp_cond_false); (focus (first | rfl | (simp [go_sem, *]; done)))) | (simp only [Exit.then, Exit.inBlock, ↓reduceIte, Nat.reduceEqDiff]))
                        have hG2 := grown_trans hG (grown_below (by assumption : Below wr.heap.size wr w1) _)
                        clear hG
                        have hG := hG2
                        clear hG2 hc_d
                        refine hDK _ _ (Handed.intro k ?measure (hDJ _ _ _ ?_))
                        rotate_left
                        (repeat apply Exists.intro)
                        refine ⟨?rel, rfl⟩
                        case rel => exact ⟨k, by go_num, by omega, by omega, by omega, hJ, hB_d, hG⟩
                        case measure => omega
                case pos =>
                  have hc' : (i : Int) ≤ (j0 : Int) := by omega
                  have hci : (i : Int) < (n : Int) := by have := HD.out; omega
                  obtain ⟨x, hx⟩ : ∃ x, dk[i]! = x := ⟨_, rfl⟩
                  have ei := cellsS_get pad (show i < dk.size by have := HD.out; omega) hx
                  have hL := less_any x xa
                  obtain ⟨l, hl⟩ : ∃ l, ltInt x xa = l := ⟨_, rfl⟩
                  rw [hl] at hL
                  rw [← HXA.out, ← hx] at hl
                  clear hx
                  cases l with
                  | false =>
                    rw [scanUp_end _ _ _ _ (.inr (by simp [hl]))] at hI
                    subst hI
                    clear hUJ hUK hl
                    skip
                    have Fwr : Below wr.heap.size wr wr := Below.refl _ _
                    have hc_d := hB_d.cell
                    repeat (first | with_reducible apply wpList_nil | with_reducible apply seq_region | with_reducible apply wp_region_lit | with_reducible apply wp_seq | ((with_reducible apply seq_q); (focus rfl); (focus (simp [go_sem, effAt, ↓IntWalk.iteOmega, *]; (try go_ints); (first | (with_reducible exact effUpon_val) | (with_reducible exact effUpon_skip)))); (focus ((simp only [Act.put, List.setIfInBounds_toArray, List.set_cons_zero, List.set_cons_succ]; rfl)))) | ((with_reducible apply seq_s); (focus rfl); (focus ((simp only [Act.put, List.setIfInBounds_toArray, List.set_cons_zero, List.set_cons_succ]; rfl)))) | with_reducible apply wp_block | with_reducible apply wp_skip | with_reducible apply wp_exit | with_reducible apply wp_ret | ((with_reducible apply wp_cond_true); (focus (first | rfl | (simp [go_sem, *]; done)))) | ((with_reducible apply wp_cond_false); (focus (first | rfl | (simp [go_sem, *]; done)))) | (simp only [Exit.then, Exit.inBlock, ↓reduceIte, Nat.reduceEqDiff]))
                    refine wp_region_pure (E := fun i => [12].contains i) (by kernel_rfl) (by kernel_rfl) ?_
                    repeat (first | ((with_reducible apply lex_q); (focus rfl); (focus rfl); (focus (intro w' hS; have hc_d := (hB_d.below hS hB_d.lt).cell; simp [go_sem, effAt, ↓IntWalk.iteOmega, *]; (try go_ints); (first | (with_reducible exact effUpon_val) | (with_reducible exact effUpon_skip)))); (focus ((simp only [Act.put, List.setIfInBounds_toArray, List.set_cons_zero, List.set_cons_succ]; rfl)))) | ((with_reducible apply lex_s); (focus rfl); (focus ((simp only [Act.put, List.setIfInBounds_toArray, List.set_cons_zero, List.set_cons_succ]; rfl)))))
                    ((with_reducible apply lex_e (Below wr.heap.size wr)); (focus rfl); (focus rfl); (focus (intro w' hS; simp only [effAt]; simp [go_sem]; (with_reducible exact eff_call hS (hL _)))); (focus (exact fun _ h => h)); (focus ((simp only [Act.put, List.setIfInBounds_toArray, List.set_cons_zero, List.set_cons_succ]; rfl))))
                    repeat (first | ((with_reducible apply lex_q); (focus rfl); (focus rfl); (focus (intro w' hS; have hc_d := (hB_d.below hS hB_d.lt).cell; simp [go_sem, effAt, ↓IntWalk.iteOmega, *]; (try go_ints); (first | (with_reducible exact effUpon_val) | (with_reducible exact effUpon_skip)))); (focus ((simp only [Act.put, List.setIfInBounds_toArray, List.set_cons_zero, List.set_cons_succ]; rfl)))) | ((with_reducible apply lex_s); (focus rfl); (focus ((simp only [Act.put, List.setIfInBounds_toArray, List.set_cons_zero, List.set_cons_succ]; rfl)))))
                    with_reducible apply lex_nil
                    intro w1 hs
                    have Fw1 := Fwr.trans (hs.mono Fwr.size)
                    replace hB_d := hB_d.below hs hB_d.lt
                    clear hs Fwr
                    clear hc_d; have hc_d := hB_d.cell
                    repeat (first | with_reducible apply wpList_nil | with_reducible apply seq_region | with_reducible apply wp_region_lit | with_reducible apply wp_seq | ((with_reducible apply seq_q); (focus rfl); (focus (simp [go_sem, effAt, ↓IntWalk.iteOmega, *]; (try go_ints); (first | (with_reducible exact effUpon_val) | (with_reducible exact effUpon_skip)))); (focus ((simp only [Act.put, List.setIfInBounds_toArray, List.set_cons_zero, List.set_cons_succ]; rfl)))) | ((with_reducible apply seq_s); (focus rfl); (focus ((simp only [Act.put, List.setIfInBounds_toArray, List.set_cons_zero, List.set_cons_succ]; rfl)))) | with_reducible apply wp_block | with_reducible apply wp_skip | with_reducible apply wp_exit | with_reducible apply wp_ret | ((with_reducible apply wp_cond_true); (focus (first | rfl | (simp [go_sem, *]; done)))) | ((with_reducible apply wp_cond_false); (focus (first | rfl | (simp [go_sem, *]; done)))) | (simp only [Exit.then, Exit.inBlock, ↓reduceIte, Nat.reduceEqDiff]))
                    clear hL ei
                    have hG2 := grown_trans hG (grown_below (by assumption : Below wr.heap.size wr w1) _)
                    clear hG
                    have hG := hG2
                    clear hG2 hc_d
                    have Fw1 : Below w1.heap.size w1 w1 := Below.refl _ _
                    repeat (first | with_reducible apply wpList_nil | with_reducible apply seq_region | with_reducible apply wp_region_lit | with_reducible apply wp_seq | ((with_reducible apply seq_q); (focus rfl); (focus (simp [go_sem, effAt, ↓IntWalk.iteOmega, *]; (try go_ints); (first | (with_reducible exact effUpon_val) | (with_reducible exact effUpon_skip)))); (focus ((simp only [Act.put, List.setIfInBounds_toArray, List.set_cons_zero, List.set_cons_succ]; rfl)))) | ((with_reducible apply seq_s); (focus rfl); (focus ((simp only [Act.put, List.setIfInBounds_toArray, List.set_cons_zero, List.set_cons_succ]; rfl)))) | with_reducible apply wp_block | with_reducible apply wp_skip | with_reducible apply wp_exit | with_reducible apply wp_ret | ((with_reducible apply wp_cond_true); (focus (first | rfl | (simp [go_sem, *]; done)))) | ((with_reducible apply wp_cond_false); (focus (first | rfl | (simp [go_sem, *]; done)))) | (simp only [Exit.then, Exit.inBlock, ↓reduceIte, Nat.reduceEqDiff]))
                    obtain ⟨J, hJ⟩ : ∃ J, scanDown (fun x => !ltInt x dk[a]!) dk i j0 = J := ⟨_, rfl⟩
                    have HJ0 := Lib.hid hJ
                    go_loopg [11] (j0 + 1) (fun q v11 wr => ∃ (j : Nat), v11 = .int .i64 (j : Int) ∧ j ≤ j0 ∧ i ≤ j + 2 ∧ j ≤ q ∧ scanDown (fun x => !ltInt x dk[a]!) dk i j = J ∧ SB wr g pad dk ∧ w.grownBy wr (some g))
                    case atStart => exact ⟨j0, by first | rfl | go_num, by omega, by omega, by omega, hJ, hB_d, hG⟩
                    case round =>
                      rename_i DJ DK hDJ hDK
                      clear hJ hB_d hG
                      obtain ⟨j, rfl, hj1, hj2, hj3, hJ, hB_d, hG⟩ := hrel
                      by_cases hc : i ≤ j
                      case neg =>
                        have hc' : ¬ (i : Int) ≤ (j : Int) := by omega
                        rw [scanDown_end _ _ _ _ (.inl hc)] at hJ
                        subst hJ
                        clear hDJ hDK
                        skip
                        have Fwr : Below wr.heap.size wr wr := Below.refl _ _
                        have hc_d := hB_d.cell
                        repeat (first | with_reducible apply wpList_nil | with_reducible apply seq_region | with_reducible apply wp_region_lit | with_reducible apply wp_seq | ((with_reducible apply seq_q); (focus rfl); (focus (simp [go_sem, effAt, ↓IntWalk.iteOmega, *]; (try go_ints); (first | (with_reducible exact effUpon_val) | (with_reducible exact effUpon_skip)))); (focus ((simp only [Act.put, List.setIfInBounds_toArray, List.set_cons_zero, List.set_cons_succ]; rfl)))) | ((with_reducible apply seq_s); (focus rfl); (focus ((simp only [Act.put, List.setIfInBounds_toArray, List.set_cons_zero, List.set_cons_succ]; rfl)))) | with_reducible apply wp_block | with_reducible apply wp_skip | with_reducible apply wp_exit | with_reducible apply wp_ret | ((with_reducible apply wp_cond_true); (focus (first | rfl | (simp [go_sem, *]; done)))) | ((with_reducible apply wp_cond_false); (focus (first | rfl | (simp [go_sem, *]; done)))) | (simp only [Exit.then, Exit.inBlock, ↓reduceIte, Nat.reduceEqDiff]))
                        refine wp_region_pure (E := fun i => [12].contains i) (by kernel_rfl) (by kernel_rfl) ?_
                        repeat (first | ((with_reducible apply lex_q); (focus rfl); (focus rfl); (focus (intro w' hS; have hc_d := (hB_d.below hS hB_d.lt).cell; simp [go_sem, effAt, ↓IntWalk.iteOmega, *]; (try go_ints); (first | (with_reducible exact effUpon_val) | (with_reducible exact effUpon_skip)))); (focus ((simp only [Act.put, List.setIfInBounds_toArray, List.set_cons_zero, List.set_cons_succ]; rfl)))) | ((with_reducible apply lex_s); (focus rfl); (focus ((simp only [Act.put, List.setIfInBounds_toArray, List.set_cons_zero, List.set_cons_succ]; rfl)))))
                        with_reducible apply lex_nil
                        intro w1 hs
                        have Fw1 := Fwr.trans (hs.mono Fwr.size)
                        replace hB_d := hB_d.below hs hB_d.lt
                        clear hs Fwr
                        clear hc_d; have hc_d := hB_d.cell
                        repeat (first | with_reducible apply wpList_nil | with_reducible apply seq_region | with_reducible apply wp_region_lit | with_reducible apply wp_seq | ((with_reducible apply seq_q); (focus rfl); (focus (simp [go_sem, effAt, ↓IntWalk.iteOmega, *]; (try go_ints); (first | (with_reducible exact effUpon_val) | (with_reducible exact effUpon_skip)))); (focus ((simp only [Act.put, List.setIfInBounds_toArray, List.set_cons_zero, List.set_cons_succ]; rfl)))) | ((with_reducible apply seq_s); (focus rfl); (focus ((simp only [Act.put, List.setIfInBounds_toArray, List.set_cons_zero, List.set_cons_succ]; rfl)))) | with_reducible apply wp_block | with_reducible apply wp_skip | with_reducible apply wp_exit | with_reducible apply wp_ret | ((with_reducible apply wp_cond_true); (focus (first | rfl | (simp [go_sem, *]; done)))) | ((with_reducible apply wp_cond_false); (focus (first | rfl | (simp [go_sem, *]; done)))) | (simp only [Exit.then, Exit.inBlock, ↓reduceIte, Nat.reduceEqDiff]))
                        have hG2 := grown_trans hG (grown_below (by assumption : Below wr.heap.size wr w1) _)
                        clear hG
                        have hG := hG2
                        clear hG2 hc_d
                        have hIJ : j < i := by omega
                        have hIJ' : (j : Int) < (i : Int) := by omega
                        have b8 : (j : Int) < (n : Int) := by omega
                        rw [partLoop_eq, HI0.out, HJ0.out, if_pos hIJ] at hR
                        dsimp only at hR
                        subst hR
                        clear hJ hK
                        have Fw1 : Below w1.heap.size w1 w1 := Below.refl _ _
                        obtain ⟨y1, hy1⟩ : ∃ x, dk[j]! = x := ⟨_, rfl⟩
                        have hy2 := HXA.out
                        have f1 := cellsS_get pad (show j < dk.size by have := HD.out; omega) hy1
                        have SW := Lib.hid (cellsS_swp pad (i := j) (j := a) (by have := HD.out; omega) (by have := HD.out; omega) hy1 hy2)
                        have SZ := Lib.hid (cellsS_get2 (d := dk) pad (i := j) (j := a) xa (by have := HD.out; omega) (by have := HD.out; omega))
                        clear hy1 hy2
                        have hc_d := hB_d.cell
                        repeat (first | with_reducible apply wpList_nil | with_reducible apply seq_region | with_reducible apply wp_region_lit | with_reducible apply wp_seq | ((with_reducible apply seq_q); (focus rfl); (focus (simp [go_sem, effAt, ↓IntWalk.iteOmega, *]; (try go_ints); (first | (with_reducible exact effUpon_val) | (with_reducible exact effUpon_skip)))); (focus ((simp only [Act.put, List.setIfInBounds_toArray, List.set_cons_zero, List.set_cons_succ]; rfl)))) | ((with_reducible apply seq_s); (focus rfl); (focus ((simp only [Act.put, List.setIfInBounds_toArray, List.set_cons_zero, List.set_cons_succ]; rfl)))) | with_reducible apply wp_block | with_reducible apply wp_skip | with_reducible apply wp_exit | with_reducible apply wp_ret | ((with_reducible apply wp_cond_true); (focus (first | rfl | (simp [go_sem, *]; done)))) | ((with_reducible apply wp_cond_false); (focus (first | rfl | (simp [go_sem, *]; done)))) | (simp only [Exit.then, Exit.inBlock, ↓reduceIte, Nat.reduceEqDiff]))
                        refine wp_region_effA (S := fun _ => True) (I := (· = World.drew w1)) (E := fun i => [13, 15].contains i) (A := fun i => [7, 11].contains i) (by kernel_rfl) (by kernel_rfl) rfl (fun _ _ => trivial) ?_
                        repeat (first | ((with_reducible apply lexA_q); (focus rfl); (focus rfl); (focus rfl); (focus (intro w' hS; simp [go_sem, effAt, ↓IntWalk.iteOmega, *]; (try go_ints); (first | (with_reducible exact effUpon_val) | (with_reducible exact effUpon_skip)))); (focus ((simp only [Act.put, List.setIfInBounds_toArray, List.set_cons_zero, List.set_cons_succ]; rfl)))) | ((with_reducible apply lexA_s); (focus rfl); (focus ((simp only [Act.put, List.setIfInBounds_toArray, List.set_cons_zero, List.set_cons_succ]; rfl)))) | ((with_reducible apply lexA_a); (focus rfl); (focus rfl); (focus rfl); (focus (intro w' hS; subst hS; simp [go_sem, effAt, ↓IntWalk.iteOmega, *]; (try go_ints); (first | (with_reducible exact effUpon_val) | (with_reducible exact effUpon_skip)))); (focus ((simp only [Act.put, List.setIfInBounds_toArray, List.set_cons_zero, List.set_cons_succ]; rfl)))))
                        with_reducible apply lexA_e (fun w' => Blk w' g 5 ((cellsS pad dk).setIfInBounds (j) (.int .u8 xa)) ∧ World.grownBy w1 w' (some g))
                        (focus (first | exact wanted_none rfl | exact wanted_yes rfl rfl rfl))
                        focus rfl
                        focus
                          intro w' hS
                          subst hS
                          have hf_d := hB_d.frozen
                          simp [go_sem, effAt, *]
                          exact ⟨rfl, hB_d.drew.set_ (j) _, grown_undrew (grown_set (World.grownBy.refl _ _))⟩
                        focus exact fun _ _ => trivial
                        (focus (first | (apply put_some rfl; focus (conv => lhs; dsimp only [List.set_cons_zero, List.set_cons_succ]) <;> rfl) | exact put_none rfl))
                        repeat (first | ((with_reducible apply lexA_q); (focus rfl); (focus rfl); (focus rfl); (focus (intro w' hS; simp [go_sem, effAt, ↓IntWalk.iteOmega, *]; (try go_ints); (first | (with_reducible exact effUpon_val) | (with_reducible exact effUpon_skip)))); (focus ((simp only [Act.put, List.setIfInBounds_toArray, List.set_cons_zero, List.set_cons_succ]; rfl)))) | ((with_reducible apply lexA_s); (focus rfl); (focus ((simp only [Act.put, List.setIfInBounds_toArray, List.set_cons_zero, List.set_cons_succ]; rfl)))) | ((with_reducible apply lexA_a); (focus rfl); (focus rfl); (focus rfl); (focus (intro w' hS; skip; simp [go_sem, effAt, ↓IntWalk.iteOmega, *]; (try go_ints); (first | (with_reducible exact effUpon_val) | (with_reducible exact effUpon_skip)))); (focus ((simp only [Act.put, List.setIfInBounds_toArray, List.set_cons_zero, List.set_cons_succ]; rfl)))))
                        with_reducible apply lexA_e (fun w' => SB w' g pad (swp dk (j) (a)) ∧ World.grownBy w1 w' (some g))
                        (focus (first | exact wanted_none rfl | exact wanted_yes rfl rfl rfl))
                        focus rfl
                        focus
                          rintro w' ⟨hB', hg'⟩
                          have hf_d := hB'.frozen
                          have hc_d := hB'.cell
                          obtain ⟨z, hz⟩ := SZ.out
                          simp [go_sem, effAt, *]
                          exact ⟨rfl, by have h := hB'.set_ (a) (.int .u8 y1); rw [SW.out] at h; exact h, grown_set hg'⟩
                        focus exact fun _ _ => trivial
                        (focus (first | (apply put_some rfl; focus (conv => lhs; dsimp only [List.set_cons_zero, List.set_cons_succ]) <;> rfl) | exact put_none rfl))
                        with_reducible apply lexA_nil
                        rintro w1n ⟨hB_n, hg_n⟩
                        have hG2 := grown_trans hG hg_n
                        clear hB_d hc_d hG hg_n f1
                        have hB_d := hB_n
                        have hG := hG2
                        clear hB_n hG2
                        have Fw1n : Below w1n.heap.size w1n w1n := Below.refl _ _
                        repeat (first | with_reducible apply wpList_nil | with_reducible apply seq_region | with_reducible apply wp_region_lit | with_reducible apply wp_seq | ((with_reducible apply seq_q); (focus rfl); (focus (simp [go_sem, effAt, ↓IntWalk.iteOmega, *]; (try go_ints); (first | (with_reducible exact effUpon_val) | (with_reducible exact effUpon_skip)))); (focus ((simp only [Act.put, List.setIfInBounds_toArray, List.set_cons_zero, List.set_cons_succ]; rfl)))) | ((with_reducible apply seq_s); (focus rfl); (focus ((simp only [Act.put, List.setIfInBounds_toArray, List.set_cons_zero, List.set_cons_succ]; rfl)))) | with_reducible apply wp_block | with_reducible apply wp_skip | with_reducible apply wp_exit | with_reducible apply wp_ret | ((with_reducible apply wp_cond_true); (focus (first | rfl | (simp [go_sem, *]; done)))) | ((with_reducible apply wp_cond_false); (focus (first | rfl | (simp [go_sem, *]; done)))) | (simp only [Exit.then, Exit.inBlock, ↓reduceIte, Nat.reduceEqDiff]))
                        refine bodyPost_ret (v := .tuple #[.int .i64 (j : Int), .bool false]) (by simp [results, Try.results35, go_sem, *]) rfl ⟨rfl, hB_d, hG⟩
                      case pos =>
                        have hc' : (i : Int) ≤ (j : Int) := by omega
                        have hci : (j : Int) < (n : Int) := by have := HD.out; omega
                        obtain ⟨x, hx⟩ : ∃ x, dk[j]! = x := ⟨_, rfl⟩
                        have ei := cellsS_get pad (show j < dk.size by have := HD.out; omega) hx
                        have hL := less_any x xa
                        obtain ⟨l, hl⟩ : ∃ l, ltInt x xa = l := ⟨_, rfl⟩
                        rw [hl] at hL
                        rw [← HXA.out, ← hx] at hl
                        clear hx
                        cases l with
                        | true =>
                          rw [scanDown_end _ _ _ _ (.inr (by simp [hl]))] at hJ
                          subst hJ
                          clear hDJ hDK hl
                          skip
                          have Fwr : Below wr.heap.size wr wr := Below.refl _ _
                          have hc_d := hB_d.cell
                          repeat (first | with_reducible apply wpList_nil | with_reducible apply seq_region | with_reducible apply wp_region_lit | with_reducible apply wp_seq | ((with_reducible apply seq_q); (focus rfl); (focus (simp [go_sem, effAt, ↓IntWalk.iteOmega, *]; (try go_ints); (first | (with_reducible exact effUpon_val) | (with_reducible exact effUpon_skip)))); (focus ((simp only [Act.put, List.setIfInBounds_toArray, List.set_cons_zero, List.set_cons_succ]; rfl)))) | ((with_reducible apply seq_s); (focus rfl); (focus ((simp only [Act.put, List.setIfInBounds_toArray, List.set_cons_zero, List.set_cons_succ]; rfl)))) | with_reducible apply wp_block | with_reducible apply wp_skip | with_reducible apply wp_exit | with_reducible apply wp_ret | ((with_reducible apply wp_cond_true); (focus (first | rfl | (simp [go_sem, *]; done)))) | ((with_reducible apply wp_cond_false); (focus (first | rfl | (simp [go_sem, *]; done)))) | (simp only [Exit.then, Exit.inBlock, ↓reduceIte, Nat.reduceEqDiff]))
                          refine wp_region_pure (E := fun i => [12].contains i) (by kernel_rfl) (by kernel_rfl) ?_
                          repeat (first | ((with_reducible apply lex_q); (focus rfl); (focus rfl); (focus (intro w' hS; have hc_d := (hB_d.below hS hB_d.lt).cell; simp [go_sem, effAt, ↓IntWalk.iteOmega, *]; (try go_ints); (first | (with_reducible exact effUpon_val) | (with_reducible exact effUpon_skip)))); (focus ((simp only [Act.put, List.setIfInBounds_toArray, List.set_cons_zero, List.set_cons_succ]; rfl)))) | ((with_reducible apply lex_s); (focus rfl); (focus ((simp only [Act.put, List.setIfInBounds_toArray, List.set_cons_zero, List.set_cons_succ]; rfl)))))
                          ((with_reducible apply lex_e (Below wr.heap.size wr)); (focus rfl); (focus rfl); (focus (intro w' hS; simp only [effAt]; simp [go_sem]; (with_reducible exact eff_call hS (hL _)))); (focus (exact fun _ h => h)); (focus ((simp only [Act.put, List.setIfInBounds_toArray, List.set_cons_zero, List.set_cons_succ]; rfl))))
                          repeat (first | ((with_reducible apply lex_q); (focus rfl); (focus rfl); (focus (intro w' hS; have hc_d := (hB_d.below hS hB_d.lt).cell; simp [go_sem, effAt, ↓IntWalk.iteOmega, *]; (try go_ints); (first | (with_reducible exact effUpon_val) | (with_reducible exact effUpon_skip)))); (focus ((simp only [Act.put, List.setIfInBounds_toArray, List.set_cons_zero, List.set_cons_succ]; rfl)))) | ((with_reducible apply lex_s); (focus rfl); (focus ((simp only [Act.put, List.setIfInBounds_toArray, List.set_cons_zero, List.set_cons_succ]; rfl)))))
                          with_reducible apply lex_nil
                          intro w1 hs
                          have Fw1 := Fwr.trans (hs.mono Fwr.size)
                          replace hB_d := hB_d.below hs hB_d.lt
                          clear hs Fwr
                          clear hc_d; have hc_d := hB_d.cell
                          repeat (first | with_reducible apply wpList_nil | with_reducible apply seq_region | with_reducible apply wp_region_lit | with_reducible apply wp_seq | ((with_reducible apply seq_q); (focus rfl); (focus (simp [go_sem, effAt, ↓IntWalk.iteOmega, *]; (try go_ints); (first | (with_reducible exact effUpon_val) | (with_reducible exact effUpon_skip)))); (focus ((simp only [Act.put, List.setIfInBounds_toArray, List.set_cons_zero, List.set_cons_succ]; rfl)))) | ((with_reducible apply seq_s); (focus rfl); (focus ((simp only [Act.put, List.setIfInBounds_toArray, List.set_cons_zero, List.set_cons_succ]; rfl)))) | with_reducible apply wp_block | with_reducible apply wp_skip | with_reducible apply wp_exit | with_reducible apply wp_ret | ((with_reducible apply wp_cond_true); (focus (first | rfl | (simp [go_sem, *]; done)))) | ((with_reducible apply wp_cond_false); (focus (first | rfl | (simp [go_sem, *]; done)))) | (simp only [Exit.then, Exit.inBlock, ↓reduceIte, Nat.reduceEqDiff]))
                          clear hL ei
                          have hG2 := grown_trans hG (grown_below (by assumption : Below wr.heap.size wr w1) _)
                          clear hG
                          have hG := hG2
                          clear hG2 hc_d
                          have hIJ : ¬ j < i := by omega
                          obtain ⟨k, hk⟩ : ∃ k, j - 1 = k := ⟨_, rfl⟩
                          have hkI : (j : Int) - 1 = (k : Int) := by omega
                          have hIJ' : ¬ (j : Int) < (i : Int) := by omega
                          have b7 : (i : Int) < (n : Int) := by omega
                          have b8 : (j : Int) < (n : Int) := by omega
                          rw [partLoop_eq, HI0.out, HJ0.out, if_neg hIJ, hk] at hR
                          have Fw1 : Below w1.heap.size w1 w1 := Below.refl _ _
                          obtain ⟨y1, hy1⟩ : ∃ x, dk[i]! = x := ⟨_, rfl⟩
                          obtain ⟨y2, hy2⟩ : ∃ x, dk[j]! = x := ⟨_, rfl⟩
                          have f2 := cellsS_get pad (show j < dk.size by have := HD.out; omega) hy2
                          have f1 := cellsS_get pad (show i < dk.size by have := HD.out; omega) hy1
                          have SW := Lib.hid (cellsS_swp pad (i := i) (j := j) (by have := HD.out; omega) (by have := HD.out; omega) hy1 hy2)
                          have SZ := Lib.hid (cellsS_get2 (d := dk) pad (i := i) (j := j) y2 (by have := HD.out; omega) (by have := HD.out; omega))
                          clear hy1 hy2
                          have hc_d := hB_d.cell
                          repeat (first | with_reducible apply wpList_nil | with_reducible apply seq_region | with_reducible apply wp_region_lit | with_reducible apply wp_seq | ((with_reducible apply seq_q); (focus rfl); (focus (simp [go_sem, effAt, ↓IntWalk.iteOmega, *]; (try go_ints); (first | (with_reducible exact effUpon_val) | (with_reducible exact effUpon_skip)))); (focus ((simp only [Act.put, List.setIfInBounds_toArray, List.set_cons_zero, List.set_cons_succ]; rfl)))) | ((with_reducible apply seq_s); (focus rfl); (focus ((simp only [Act.put, List.setIfInBounds_toArray, List.set_cons_zero, List.set_cons_succ]; rfl)))) | with_reducible apply wp_block | with_reducible apply wp_skip | with_reducible apply wp_exit | with_reducible apply wp_ret | ((with_reducible apply wp_cond_true); (focus (first | rfl | (simp [go_sem, *]; done)))) | ((with_reducible apply wp_cond_false); (focus (first | rfl | (simp [go_sem, *]; done)))) | (simp only [Exit.then, Exit.inBlock, ↓reduceIte, Nat.reduceEqDiff]))
                          refine wp_region_effA (S := fun _ => True) (I := (· = World.drew w1)) (E := fun i => [13, 15].contains i) (A := fun i => [7, 11].contains i) (by kernel_rfl) (by kernel_rfl) rfl (fun _ _ => trivial) ?_
                          repeat (first | ((with_reducible apply lexA_q); (focus rfl); (focus rfl); (focus rfl); (focus (intro w' hS; simp [go_sem, effAt, ↓IntWalk.iteOmega, *]; (try go_ints); (first | (with_reducible exact effUpon_val) | (with_reducible exact effUpon_skip)))); (focus ((simp only [Act.put, List.setIfInBounds_toArray, List.set_cons_zero, List.set_cons_succ]; rfl)))) | ((with_reducible apply lexA_s); (focus rfl); (focus ((simp only [Act.put, List.setIfInBounds_toArray, List.set_cons_zero, List.set_cons_succ]; rfl)))) | ((with_reducible apply lexA_a); (focus rfl); (focus rfl); (focus rfl); (focus (intro w' hS; subst hS; simp [go_sem, effAt, ↓IntWalk.iteOmega, *]; (try go_ints); (first | (with_reducible exact effUpon_val) | (with_reducible exact effUpon_skip)))); (focus ((simp only [Act.put, List.setIfInBounds_toArray, List.set_cons_zero, List.set_cons_succ]; rfl)))))
                          with_reducible apply lexA_e (fun w' => Blk w' g 5 ((cellsS pad dk).setIfInBounds (i) (.int .u8 y2)) ∧ World.grownBy w1 w' (some g))
                          (focus (first | exact wanted_none rfl | exact wanted_yes rfl rfl rfl))
                          focus rfl
                          focus
                            intro w' hS
                            subst hS
                            have hf_d := hB_d.frozen
                            simp [go_sem, effAt, *]
                            exact ⟨rfl, hB_d.drew.set_ (i) _, grown_undrew (grown_set (World.grownBy.refl _ _))⟩
                          focus exact fun _ _ => trivial
                          (focus (first | (apply put_some rfl; focus (conv => lhs; dsimp only [List.set_cons_zero, List.set_cons_succ]) <;> rfl) | exact put_none rfl))
                          repeat (first | ((with_reducible apply lexA_q); (focus rfl); (focus rfl); (focus rfl); (focus (intro w' hS; simp [go_sem, effAt, ↓IntWalk.iteOmega, *]; (try go_ints); (first | (with_reducible exact effUpon_val) | (with_reducible exact effUpon_skip)))); (focus ((simp only [Act.put, List.setIfInBounds_toArray, List.set_cons_zero, List.set_cons_succ]; rfl)))) | ((with_reducible apply lexA_s); (focus rfl); (focus ((simp only [Act.put, List.setIfInBounds_toArray, List.set_cons_zero, List.set_cons_succ]; rfl)))) | ((with_reducible apply lexA_a); (focus rfl); (focus rfl); (focus rfl); (focus (intro w' hS; skip; simp [go_sem, effAt, ↓IntWalk.iteOmega, *]; (try go_ints); (first | (with_reducible exact effUpon_val) | (with_reducible exact effUpon_skip)))); (focus ((simp only [Act.put, List.setIfInBounds_toArray, List.set_cons_zero, List.set_cons_succ]; rfl)))))
                          with_reducible apply lexA_e (fun w' => SB w' g pad (swp dk (i) (j)) ∧ World.grownBy w1 w' (some g))
                          (focus (first | exact wanted_none rfl | exact wanted_yes rfl rfl rfl))
                          focus rfl
                          focus
                            rintro w' ⟨hB', hg'⟩
                            have hf_d := hB'.frozen
                            have hc_d := hB'.cell
                            obtain ⟨z, hz⟩ := SZ.out
                            simp [go_sem, effAt, *]
                            exact ⟨rfl, by have h := hB'.set_ (j) (.int .u8 y1); rw [SW.out] at h; exact h, grown_set hg'⟩
                          focus exact fun _ _ => trivial
                          (focus (first | (apply put_some rfl; focus (conv => lhs; dsimp only [List.set_cons_zero, List.set_cons_succ]) <;> rfl) | exact put_none rfl))
                          with_reducible apply lexA_nil
                          rintro w1n ⟨hB_n, hg_n⟩
                          have hG2 := grown_trans hG hg_n
                          clear hB_d hc_d hG hg_n f1 f2
                          have hB_d := hB_n
                          have hG := hG2
                          clear hB_n hG2
                          have Fw1n : Below w1n.heap.size w1n w1n := Below.refl _ _
                          repeat (first | with_reducible apply wpList_nil | with_reducible apply seq_region | with_reducible apply wp_region_lit | with_reducible apply wp_seq | ((with_reducible apply seq_q); (focus rfl); (focus (simp [go_sem, effAt, ↓IntWalk.iteOmega, *]; (try go_ints); (first | (with_reducible exact effUpon_val) | (with_reducible exact effUpon_skip)))); (focus ((simp only [Act.put, List.setIfInBounds_toArray, List.set_cons_zero, List.set_cons_succ]; rfl)))) | ((with_reducible apply seq_s); (focus rfl); (focus ((simp only [Act.put, List.setIfInBounds_toArray, List.set_cons_zero, List.set_cons_succ]; rfl)))) | with_reducible apply wp_block | with_reducible apply wp_skip | with_reducible apply wp_exit | with_reducible apply wp_ret | ((with_reducible apply wp_cond_true); (focus (first | rfl | (simp [go_sem, *]; done)))) | ((with_reducible apply wp_cond_false); (focus (first | rfl | (simp [go_sem, *]; done)))) | (simp only [Exit.then, Exit.inBlock, ↓reduceIte, Nat.reduceEqDiff]))
                          refine hK _ _ (Handed.intro (k - i) ?measure (hJ _ _ _ ?_))
                          rotate_left
                          (repeat apply Exists.intro)
                          refine ⟨?rel, rfl⟩
                          case rel => exact ⟨i + 1, k, swp dk i j, by go_num, by go_num, by omega, by omega, by omega, by omega, by rw [swp_size]; exact HD.out, hR, hB_d, hG⟩
                          case measure => omega
                        | false =>
                          rw [scanDown_go _ _ _ _ hc (by omega) (by simp [hl])] at hJ
                          clear hl
                          obtain ⟨k, hk⟩ : ∃ k, j - 1 = k := ⟨_, rfl⟩
                          have hkI : (j : Int) - 1 = (k : Int) := by omega
                          rw [hk] at hJ
                          skip
                          have Fwr : Below wr.heap.size wr wr := Below.refl _ _
                          have hc_d := hB_d.cell
                          repeat (first | with_reducible apply wpList_nil | with_reducible apply seq_region | with_reducible apply wp_region_lit | with_reducible apply wp_seq | ((with_reducible apply seq_q); (focus rfl); (focus (simp [go_sem, effAt, ↓IntWalk.iteOmega, *]; (try go_ints); (first | (with_reducible exact effUpon_val) | (with_reducible exact effUpon_skip)))); (focus ((simp only [Act.put, List.setIfInBounds_toArray, List.set_cons_zero, List.set_cons_succ]; rfl)))) | ((with_reducible apply seq_s); (focus rfl); (focus ((simp only [Act.put, List.setIfInBounds_toArray, List.set_cons_zero, List.set_cons_succ]; rfl)))) | with_reducible apply wp_block | with_reducible apply wp_skip | with_reducible apply wp_exit | with_reducible apply wp_ret | ((with_reducible apply wp_cond_true); (focus (first | rfl | (simp [go_sem, *]; done)))) | ((with_reducible apply wp_cond_false); (focus (first | rfl | (simp [go_sem, *]; done)))) | (simp only [Exit.then, Exit.inBlock, ↓reduceIte, Nat.reduceEqDiff]))
                          refine wp_region_pure (E := fun i => [12].contains i) (by kernel_rfl) (by kernel_rfl) ?_
                          repeat (first | ((with_reducible apply lex_q); (focus rfl); (focus rfl); (focus (intro w' hS; have hc_d := (hB_d.below hS hB_d.lt).cell; simp [go_sem, effAt, ↓IntWalk.iteOmega, *]; (try go_ints); (first | (with_reducible exact effUpon_val) | (with_reducible exact effUpon_skip)))); (focus ((simp only [Act.put, List.setIfInBounds_toArray, List.set_cons_zero, List.set_cons_succ]; rfl)))) | ((with_reducible apply lex_s); (focus rfl); (focus ((simp only [Act.put, List.setIfInBounds_toArray, List.set_cons_zero, List.set_cons_succ]; rfl)))))
                          ((with_reducible apply lex_e (Below wr.heap.size wr)); (focus rfl); (focus rfl); (focus (intro w' hS; simp only [effAt]; simp [go_sem]; (with_reducible exact eff_call hS (hL _)))); (focus (exact fun _ h => h)); (focus ((simp only [Act.put, List.setIfInBounds_toArray, List.set_cons_zero, List.set_cons_succ]; rfl))))
                          repeat (first | ((with_reducible apply lex_q); (focus rfl); (focus rfl); (focus (intro w' hS; have hc_d := (hB_d.below hS hB_d.lt).cell; simp [go_sem, effAt, ↓IntWalk.iteOmega, *]; (try go_ints); (first | (with_reducible exact effUpon_val) | (with_reducible exact effUpon_skip)))); (focus ((simp only [Act.put, List.setIfInBounds_toArray, List.set_cons_zero, List.set_cons_succ]; rfl)))) | ((with_reducible apply lex_s); (focus rfl); (focus ((simp only [Act.put, List.setIfInBounds_toArray, List.set_cons_zero, List.set_cons_succ]; rfl)))))
                          with_reducible apply lex_nil
                          intro w1 hs
                          have Fw1 := Fwr.trans (hs.mono Fwr.size)
                          replace hB_d := hB_d.below hs hB_d.lt
                          clear hs Fwr
                          clear hc_d; have hc_d := hB_d.cell
                          repeat (first | with_reducible apply wpList_nil | with_reducible apply seq_region | with_reducible apply wp_region_lit | with_reducible apply wp_seq | ((with_reducible apply seq_q); (focus rfl); (focus (simp [go_sem, effAt, ↓IntWalk.iteOmega, *]; (try go_ints); (first | (with_reducible exact effUpon_val) | (with_reducible exact effUpon_skip)))); (focus ((simp only [Act.put, List.setIfInBounds_toArray, List.set_cons_zero, List.set_cons_succ]; rfl)))) | ((with_reducible apply seq_s); (focus rfl); (focus ((simp only [Act.put, List.setIfInBounds_toArray, List.set_cons_zero, List.set_cons_succ]; rfl)))) | with_reducible apply wp_block | with_reducible apply wp_skip | with_reducible apply wp_exit | with_reducible apply wp_ret | ((with_reducible apply wp_cond_true); (focus (first | rfl | (simp [go_sem, *]; done)))) | ((with_reducible apply wp_cond_false); (focus (first | rfl | (simp [go_sem, *]; done)))) | (simp only [Exit.then, Exit.inBlock, ↓reduceIte, Nat.reduceEqDiff]))
                          have hG2 := grown_trans hG (grown_below (by assumption : Below wr.heap.size wr w1) _)
                          clear hG
                          have hG := hG2
                          clear hG2 hc_d
                          refine hDK _ _ (Handed.intro k ?measure (hDJ _ _ _ ?_))
                          rotate_left
                          (repeat apply Exists.intro)
                          refine ⟨?rel, rfl⟩
                          case rel => exact ⟨k, by go_num, by omega, by omega, by omega, hJ, hB_d, hG⟩
                          case measure => omega
                  | true =>
                    rw [scanUp_go _ _ _ _ hc (by simp [hl])] at hI
                    clear hl
                    skip
                    have Fwr : Below wr.heap.size wr wr := Below.refl _ _
                    have hc_d := hB_d.cell
                    repeat (first | with_reducible apply wpList_nil | with_reducible apply seq_region | with_reducible apply wp_region_lit | with_reducible apply wp_seq | ((with_reducible apply seq_q); (focus rfl); (focus (simp [go_sem, effAt, ↓IntWalk.iteOmega, *]; (try go_ints); (first | (with_reducible exact effUpon_val) | (with_reducible exact effUpon_skip)))); (focus ((simp only [Act.put, List.setIfInBounds_toArray, List.set_cons_zero, List.set_cons_succ]; rfl)))) | ((with_reducible apply seq_s); (focus rfl); (focus ((simp only [Act.put, List.setIfInBounds_toArray, List.set_cons_zero, List.set_cons_succ]; rfl)))) | with_reducible apply wp_block | with_reducible apply wp_skip | with_reducible apply wp_exit | with_reducible apply wp_ret | ((with_reducible apply wp_cond_true); (focus (first | rfl | (simp [go_sem, *]; done)))) | ((with_reducible apply wp_cond_false); (focus (first | rfl | (simp [go_sem, *]; done)))) | (simp only [Exit.then, Exit.inBlock, ↓reduceIte, Nat.reduceEqDiff]))
                    refine wp_region_pure (E := fun i => [12].contains i) (by kernel_rfl) (by kernel_rfl) ?_
                    repeat (first | ((with_reducible apply lex_q); (focus rfl); (focus rfl); (focus (intro w' hS; have hc_d := (hB_d.below hS hB_d.lt).cell; simp [go_sem, effAt, ↓IntWalk.iteOmega, *]; (try go_ints); (first | (with_reducible exact effUpon_val) | (with_reducible exact effUpon_skip)))); (focus ((simp only [Act.put, List.setIfInBounds_toArray, List.set_cons_zero, List.set_cons_succ]; rfl)))) | ((with_reducible apply lex_s); (focus rfl); (focus ((simp only [Act.put, List.setIfInBounds_toArray, List.set_cons_zero, List.set_cons_succ]; rfl)))))
                    ((with_reducible apply lex_e (Below wr.heap.size wr)); (focus rfl); (focus rfl); (focus (intro w' hS; simp only [effAt]; simp [go_sem]; (with_reducible exact eff_call hS (hL _)))); (focus (exact fun _ h => h)); (focus ((simp only [Act.put, List.setIfInBounds_toArray, List.set_cons_zero, List.set_cons_succ]; rfl))))
                    repeat (first | ((with_reducible apply lex_q); (focus rfl); (focus rfl); (focus (intro w' hS; have hc_d := (hB_d.below hS hB_d.lt).cell; simp [go_sem, effAt, ↓IntWalk.iteOmega, *]; (try go_ints); (first | (with_reducible exact effUpon_val) | (with_reducible exact effUpon_skip)))); (focus ((simp only [Act.put, List.setIfInBounds_toArray, List.set_cons_zero, List.set_cons_succ]; rfl)))) | ((with_reducible apply lex_s); (focus rfl); (focus ((simp only [Act.put, List.setIfInBounds_toArray, List.set_cons_zero, List.set_cons_succ]; rfl)))))
                    with_reducible apply lex_nil
                    intro w1 hs
                    have Fw1 := Fwr.trans (hs.mono Fwr.size)
                    replace hB_d := hB_d.below hs hB_d.lt
                    clear hs Fwr
                    clear hc_d; have hc_d := hB_d.cell
                    repeat (first | with_reducible apply wpList_nil | with_reducible apply seq_region | with_reducible apply wp_region_lit | with_reducible apply wp_seq | ((with_reducible apply seq_q); (focus rfl); (focus (simp [go_sem, effAt, ↓IntWalk.iteOmega, *]; (try go_ints); (first | (with_reducible exact effUpon_val) | (with_reducible exact effUpon_skip)))); (focus ((simp only [Act.put, List.setIfInBounds_toArray, List.set_cons_zero, List.set_cons_succ]; rfl)))) | ((with_reducible apply seq_s); (focus rfl); (focus ((simp only [Act.put, List.setIfInBounds_toArray, List.set_cons_zero, List.set_cons_succ]; rfl)))) | with_reducible apply wp_block | with_reducible apply wp_skip | with_reducible apply wp_exit | with_reducible apply wp_ret | ((with_reducible apply wp_cond_true); (focus (first | rfl | (simp [go_sem, *]; done)))) | ((with_reducible apply wp_cond_false); (focus (first | rfl | (simp [go_sem, *]; done)))) | (simp only [Exit.then, Exit.inBlock, ↓reduceIte, Nat.reduceEqDiff]))
                    have hG2 := grown_trans hG (grown_below (by assumption : Below wr.heap.size wr w1) _)
                    clear hG
                    have hG := hG2
                    clear hG2 hc_d
                    refine hUK _ _ (Handed.intro (gk - 1) ?measure (hUJ _ _ _ ?_))
                    rotate_left
                    (repeat apply Exists.intro)
                    refine ⟨?rel, rfl⟩
                    case rel => exact ⟨i + 1, by go_num, by omega, by omega, by omega, hI, hB_d, hG⟩
                    case measure => omega
          | false =>
            rw [scanDown_go _ _ _ _ hc (by omega) (by simp [hl])] at hJ
            clear hl
            obtain ⟨k, hk⟩ : ∃ k, j - 1 = k := ⟨_, rfl⟩
            have hkI : (j : Int) - 1 = (k : Int) := by omega
            rw [hk] at hJ
            skip
            have Fwr : Below wr.heap.size wr wr := Below.refl _ _
            have hc_d := hB_d.cell
            repeat (first | with_reducible apply wpList_nil | with_reducible apply seq_region | with_reducible apply wp_region_lit | with_reducible apply wp_seq | ((with_reducible apply seq_q); (focus rfl); (focus (simp [go_sem, effAt, ↓IntWalk.iteOmega, *]; (try go_ints); (first | (with_reducible exact effUpon_val) | (with_reducible exact effUpon_skip)))); (focus ((simp only [Act.put, List.setIfInBounds_toArray, List.set_cons_zero, List.set_cons_succ]; rfl)))) | ((with_reducible apply seq_s); (focus rfl); (focus ((simp only [Act.put, List.setIfInBounds_toArray, List.set_cons_zero, List.set_cons_succ]; rfl)))) | with_reducible apply wp_block | with_reducible apply wp_skip | with_reducible apply wp_exit | with_reducible apply wp_ret | ((with_reducible apply wp_cond_true); (focus (first | rfl | (simp [go_sem, *]; done)))) | ((with_reducible apply wp_cond_false); (focus (first | rfl | (simp [go_sem, *]; done)))) | (simp only [Exit.then, Exit.inBlock, ↓reduceIte, Nat.reduceEqDiff]))
            refine wp_region_pure (E := fun i => [12].contains i) (by kernel_rfl) (by kernel_rfl) ?_
            repeat (first | ((with_reducible apply lex_q); (focus rfl); (focus rfl); (focus (intro w' hS; have hc_d := (hB_d.below hS hB_d.lt).cell; simp [go_sem, effAt, ↓IntWalk.iteOmega, *]; (try go_ints); (first | (with_reducible exact effUpon_val) | (with_reducible exact effUpon_skip)))); (focus ((simp only [Act.put, List.setIfInBounds_toArray, List.set_cons_zero, List.set_cons_succ]; rfl)))) | ((with_reducible apply lex_s); (focus rfl); (focus ((simp only [Act.put, List.setIfInBounds_toArray, List.set_cons_zero, List.set_cons_succ]; rfl)))))
            ((with_reducible apply lex_e (Below wr.heap.size wr)); (focus rfl); (focus rfl); (focus (intro w' hS; simp only [effAt]; simp [go_sem]; (with_reducible exact eff_call hS (hL _)))); (focus (exact fun _ h => h)); (focus ((simp only [Act.put, List.setIfInBounds_toArray, List.set_cons_zero, List.set_cons_succ]; rfl))))
            repeat (first | ((with_reducible apply lex_q); (focus rfl); (focus rfl); (focus (intro w' hS; have hc_d := (hB_d.below hS hB_d.lt).cell; simp [go_sem, effAt, ↓IntWalk.iteOmega, *]; (try go_ints); (first | (with_reducible exact effUpon_val) | (with_reducible exact effUpon_skip)))); (focus ((simp only [Act.put, List.setIfInBounds_toArray, List.set_cons_zero, List.set_cons_succ]; rfl)))) | ((with_reducible apply lex_s); (focus rfl); (focus ((simp only [Act.put, List.setIfInBounds_toArray, List.set_cons_zero, List.set_cons_succ]; rfl)))))
            with_reducible apply lex_nil
            intro w1 hs
            have Fw1 := Fwr.trans (hs.mono Fwr.size)
            replace hB_d := hB_d.below hs hB_d.lt
            clear hs Fwr
            clear hc_d; have hc_d := hB_d.cell
            repeat (first | with_reducible apply wpList_nil | with_reducible apply seq_region | with_reducible apply wp_region_lit | with_reducible apply wp_seq | ((with_reducible apply seq_q); (focus rfl); (focus (simp [go_sem, effAt, ↓IntWalk.iteOmega, *]; (try go_ints); (first | (with_reducible exact effUpon_val) | (with_reducible exact effUpon_skip)))); (focus ((simp only [Act.put, List.setIfInBounds_toArray, List.set_cons_zero, List.set_cons_succ]; rfl)))) | ((with_reducible apply seq_s); (focus rfl); (focus ((simp only [Act.put, List.setIfInBounds_toArray, List.set_cons_zero, List.set_cons_succ]; rfl)))) | with_reducible apply wp_block | with_reducible apply wp_skip | with_reducible apply wp_exit | with_reducible apply wp_ret | ((with_reducible apply wp_cond_true); (focus (first | rfl | (simp [go_sem, *]; done)))) | ((with_reducible apply wp_cond_false); (focus (first | rfl | (simp [go_sem, *]; done)))) | (simp only [Exit.then, Exit.inBlock, ↓reduceIte, Nat.reduceEqDiff]))
            have hG2 := grown_trans hG (grown_below (by assumption : Below wr.heap.size wr w1) _)
            clear hG
            have hG := hG2
            clear hG2 hc_d
            refine hBK _ _ (Handed.intro k ?measure (hBJ _ _ _ ?_))
            rotate_left
            (repeat apply Exists.intro)
            refine ⟨?rel, rfl⟩
            case rel => exact ⟨k, by go_num, by omega, by omega, by omega, hJ, hB_d, hG⟩
            case measure => omega
    case pos =>
      have hc' : (i : Int) ≤ (b1 : Int) := by omega
      have hci : (i : Int) < (n : Int) := by have := HD.out; omega
      obtain ⟨x, hx⟩ : ∃ x, D[i]! = x := ⟨_, rfl⟩
      have ei := cellsS_get pad (show i < D.size by have := HD.out; omega) hx
      have hL := less_any x xa
      obtain ⟨l, hl⟩ : ∃ l, ltInt x xa = l := ⟨_, rfl⟩
      rw [hl] at hL
      rw [← HXA.out, ← hx] at hl
      clear hx
      cases l with
      | false =>
        rw [scanUp_end _ _ _ _ (.inr (by simp [hl]))] at hI
        subst hI
        clear hAJ hAK hl
        skip
        have Fwr : Below wr.heap.size wr wr := Below.refl _ _
        have hc_d := hB_d.cell
        repeat (first | with_reducible apply wpList_nil | with_reducible apply seq_region | with_reducible apply wp_region_lit | with_reducible apply wp_seq | ((with_reducible apply seq_q); (focus rfl); (focus (simp [go_sem, effAt, ↓IntWalk.iteOmega, *]; (try go_ints); (first | (with_reducible exact effUpon_val) | (with_reducible exact effUpon_skip)))); (focus ((simp only [Act.put, List.setIfInBounds_toArray, List.set_cons_zero, List.set_cons_succ]; rfl)))) | ((with_reducible apply seq_s); (focus rfl); (focus ((simp only [Act.put, List.setIfInBounds_toArray, List.set_cons_zero, List.set_cons_succ]; rfl)))) | with_reducible apply wp_block | with_reducible apply wp_skip | with_reducible apply wp_exit | with_reducible apply wp_ret | ((with_reducible apply wp_cond_true); (focus (first | rfl | (simp [go_sem, *]; done)))) | ((with_reducible apply wp_cond_false); (focus (first | rfl | (simp [go_sem, *]; done)))) | (simp only [Exit.then, Exit.inBlock, ↓reduceIte, Nat.reduceEqDiff]))
        refine wp_region_pure (E := fun i => [12].contains i) (by kernel_rfl) (by kernel_rfl) ?_
        repeat (first | ((with_reducible apply lex_q); (focus rfl); (focus rfl); (focus (intro w' hS; have hc_d := (hB_d.below hS hB_d.lt).cell; simp [go_sem, effAt, ↓IntWalk.iteOmega, *]; (try go_ints); (first | (with_reducible exact effUpon_val) | (with_reducible exact effUpon_skip)))); (focus ((simp only [Act.put, List.setIfInBounds_toArray, List.set_cons_zero, List.set_cons_succ]; rfl)))) | ((with_reducible apply lex_s); (focus rfl); (focus ((simp only [Act.put, List.setIfInBounds_toArray, List.set_cons_zero, List.set_cons_succ]; rfl)))))
        ((with_reducible apply lex_e (Below wr.heap.size wr)); (focus rfl); (focus rfl); (focus (intro w' hS; simp only [effAt]; simp [go_sem]; (with_reducible exact eff_call hS (hL _)))); (focus (exact fun _ h => h)); (focus ((simp only [Act.put, List.setIfInBounds_toArray, List.set_cons_zero, List.set_cons_succ]; rfl))))
        repeat (first | ((with_reducible apply lex_q); (focus rfl); (focus rfl); (focus (intro w' hS; have hc_d := (hB_d.below hS hB_d.lt).cell; simp [go_sem, effAt, ↓IntWalk.iteOmega, *]; (try go_ints); (first | (with_reducible exact effUpon_val) | (with_reducible exact effUpon_skip)))); (focus ((simp only [Act.put, List.setIfInBounds_toArray, List.set_cons_zero, List.set_cons_succ]; rfl)))) | ((with_reducible apply lex_s); (focus rfl); (focus ((simp only [Act.put, List.setIfInBounds_toArray, List.set_cons_zero, List.set_cons_succ]; rfl)))))
        with_reducible apply lex_nil
        intro w1 hs
        have Fw1 := Fwr.trans (hs.mono Fwr.size)
        replace hB_d := hB_d.below hs hB_d.lt
        clear hs Fwr
        clear hc_d; have hc_d := hB_d.cell
        repeat (first | with_reducible apply wpList_nil | with_reducible apply seq_region | with_reducible apply wp_region_lit | with_reducible apply wp_seq | ((with_reducible apply seq_q); (focus rfl); (focus (simp [go_sem, effAt, ↓IntWalk.iteOmega, *]; (try go_ints); (first | (with_reducible exact effUpon_val) | (with_reducible exact effUpon_skip)))); (focus ((simp only [Act.put, List.setIfInBounds_toArray, List.set_cons_zero, List.set_cons_succ]; rfl)))) | ((with_reducible apply seq_s); (focus rfl); (focus ((simp only [Act.put, List.setIfInBounds_toArray, List.set_cons_zero, List.set_cons_succ]; rfl)))) | with_reducible apply wp_block | with_reducible apply wp_skip | with_reducible apply wp_exit | with_reducible apply wp_ret | ((with_reducible apply wp_cond_true); (focus (first | rfl | (simp [go_sem, *]; done)))) | ((with_reducible apply wp_cond_false); (focus (first | rfl | (simp [go_sem, *]; done)))) | (simp only [Exit.then, Exit.inBlock, ↓reduceIte, Nat.reduceEqDiff]))
        clear hL ei
        have hG2 := grown_trans hG (grown_below (by assumption : Below wr.heap.size wr w1) _)
        clear hG
        have hG := hG2
        clear hG2 hc_d
        have Fw1 : Below w1.heap.size w1 w1 := Below.refl _ _
        repeat (first | with_reducible apply wpList_nil | with_reducible apply seq_region | with_reducible apply wp_region_lit | with_reducible apply wp_seq | ((with_reducible apply seq_q); (focus rfl); (focus (simp [go_sem, effAt, ↓IntWalk.iteOmega, *]; (try go_ints); (first | (with_reducible exact effUpon_val) | (with_reducible exact effUpon_skip)))); (focus ((simp only [Act.put, List.setIfInBounds_toArray, List.set_cons_zero, List.set_cons_succ]; rfl)))) | ((with_reducible apply seq_s); (focus rfl); (focus ((simp only [Act.put, List.setIfInBounds_toArray, List.set_cons_zero, List.set_cons_succ]; rfl)))) | with_reducible apply wp_block | with_reducible apply wp_skip | with_reducible apply wp_exit | with_reducible apply wp_ret | ((with_reducible apply wp_cond_true); (focus (first | rfl | (simp [go_sem, *]; done)))) | ((with_reducible apply wp_cond_false); (focus (first | rfl | (simp [go_sem, *]; done)))) | (simp only [Exit.then, Exit.inBlock, ↓reduceIte, Nat.reduceEqDiff]))
        obtain ⟨J, hJ⟩ : ∃ J, scanDown (fun x => !ltInt x D[a]!) D i b1 = J := ⟨_, rfl⟩
        have HJ0 := Lib.hid hJ
        go_loopg [11] (b1 + 1) (fun q v11 wr => ∃ (j : Nat), v11 = .int .i64 (j : Int) ∧ j ≤ b1 ∧ i ≤ j + 2 ∧ j ≤ q ∧ scanDown (fun x => !ltInt x D[a]!) D i j = J ∧ SB wr g pad D ∧ w.grownBy wr (some g))
        case atStart => exact ⟨b1, by first | rfl | go_num, by omega, by omega, by omega, hJ, hB_d, hG⟩
        case round =>
          rename_i BJ BK hBJ hBK
          clear hJ hB_d hG
          obtain ⟨j, rfl, hj1, hj2, hj3, hJ, hB_d, hG⟩ := hrel
          by_cases hc : i ≤ j
          case neg =>
            have hc' : ¬ (i : Int) ≤ (j : Int) := by omega
            rw [scanDown_end _ _ _ _ (.inl hc)] at hJ
            subst hJ
            clear hBJ hBK
            skip
            have Fwr : Below wr.heap.size wr wr := Below.refl _ _
            have hc_d := hB_d.cell
            repeat (first | with_reducible apply wpList_nil | with_reducible apply seq_region | with_reducible apply wp_region_lit | with_reducible apply wp_seq | ((with_reducible apply seq_q); (focus rfl); (focus (simp [go_sem, effAt, ↓IntWalk.iteOmega, *]; (try go_ints); (first | (with_reducible exact effUpon_val) | (with_reducible exact effUpon_skip)))); (focus ((simp only [Act.put, List.setIfInBounds_toArray, List.set_cons_zero, List.set_cons_succ]; rfl)))) | ((with_reducible apply seq_s); (focus rfl); (focus ((simp only [Act.put, List.setIfInBounds_toArray, List.set_cons_zero, List.set_cons_succ]; rfl)))) | with_reducible apply wp_block | with_reducible apply wp_skip | with_reducible apply wp_exit | with_reducible apply wp_ret | ((with_reducible apply wp_cond_true); (focus (first | rfl | (simp [go_sem, *]; done)))) | ((with_reducible apply wp_cond_false); (focus (first | rfl | (simp [go_sem, *]; done)))) | (simp only [Exit.then, Exit.inBlock, ↓reduceIte, Nat.reduceEqDiff]))
            refine wp_region_pure (E := fun i => [12].contains i) (by kernel_rfl) (by kernel_rfl) ?_
            repeat (first | ((with_reducible apply lex_q); (focus rfl); (focus rfl); (focus (intro w' hS; have hc_d := (hB_d.below hS hB_d.lt).cell; simp [go_sem, effAt, ↓IntWalk.iteOmega, *]; (try go_ints); (first | (with_reducible exact effUpon_val) | (with_reducible exact effUpon_skip)))); (focus ((simp only [Act.put, List.setIfInBounds_toArray, List.set_cons_zero, List.set_cons_succ]; rfl)))) | ((with_reducible apply lex_s); (focus rfl); (focus ((simp only [Act.put, List.setIfInBounds_toArray, List.set_cons_zero, List.set_cons_succ]; rfl)))))
            with_reducible apply lex_nil
            intro w1 hs
            have Fw1 := Fwr.trans (hs.mono Fwr.size)
            replace hB_d := hB_d.below hs hB_d.lt
            clear hs Fwr
            clear hc_d; have hc_d := hB_d.cell
            repeat (first | with_reducible apply wpList_nil | with_reducible apply seq_region | with_reducible apply wp_region_lit | with_reducible apply wp_seq | ((with_reducible apply seq_q); (focus rfl); (focus (simp [go_sem, effAt, ↓IntWalk.iteOmega, *]; (try go_ints); (first | (with_reducible exact effUpon_val) | (with_reducible exact effUpon_skip)))); (focus ((simp only [Act.put, List.setIfInBounds_toArray, List.set_cons_zero, List.set_cons_succ]; rfl)))) | ((with_reducible apply seq_s); (focus rfl); (focus ((simp only [Act.put, List.setIfInBounds_toArray, List.set_cons_zero, List.set_cons_succ]; rfl)))) | with_reducible apply wp_block | with_reducible apply wp_skip | with_reducible apply wp_exit | with_reducible apply wp_ret | ((with_reducible apply wp_cond_true); (focus (first | rfl | (simp [go_sem, *]; done)))) | ((with_reducible apply wp_cond_false); (focus (first | rfl | (simp [go_sem, *]; done)))) | (simp only [Exit.then, Exit.inBlock, ↓reduceIte, Nat.reduceEqDiff]))
            have hG2 := grown_trans hG (grown_below (by assumption : Below wr.heap.size wr w1) _)
            clear hG
            have hG := hG2
            clear hG2 hc_d
            have hIJ : j < i := by omega
            have hIJ' : (j : Int) < (i : Int) := by omega
            have b8 : (j : Int) < (n : Int) := by omega
            rw [part_eq (I := i) (J := j) HDE.out HB1.out HI0.out HJ0.out, if_pos hIJ] at hR
            subst hR
            have Fw1 : Below w1.heap.size w1 w1 := Below.refl _ _
            obtain ⟨y1, hy1⟩ : ∃ x, D[j]! = x := ⟨_, rfl⟩
            have hy2 := HXA.out
            have f1 := cellsS_get pad (show j < D.size by have := HD.out; omega) hy1
            have SW := Lib.hid (cellsS_swp pad (i := j) (j := a) (by have := HD.out; omega) (by have := HD.out; omega) hy1 hy2)
            have SZ := Lib.hid (cellsS_get2 (d := D) pad (i := j) (j := a) xa (by have := HD.out; omega) (by have := HD.out; omega))
            clear hy1 hy2
            have hc_d := hB_d.cell
            repeat (first | with_reducible apply wpList_nil | with_reducible apply seq_region | with_reducible apply wp_region_lit | with_reducible apply wp_seq | ((with_reducible apply seq_q); (focus rfl); (focus (simp [go_sem, effAt, ↓IntWalk.iteOmega, *]; (try go_ints); (first | (with_reducible exact effUpon_val) | (with_reducible exact effUpon_skip)))); (focus ((simp only [Act.put, List.setIfInBounds_toArray, List.set_cons_zero, List.set_cons_succ]; rfl)))) | ((with_reducible apply seq_s); (focus rfl); (focus ((simp only [Act.put, List.setIfInBounds_toArray, List.set_cons_zero, List.set_cons_succ]; rfl)))) | with_reducible apply wp_block | with_reducible apply wp_skip | with_reducible apply wp_exit | with_reducible apply wp_ret | ((with_reducible apply wp_cond_true); (focus (first | rfl | (simp [go_sem, *]; done)))) | ((with_reducible apply wp_cond_false); (focus (first | rfl | (simp [go_sem, *]; done)))) | (simp only [Exit.then, Exit.inBlock, ↓reduceIte, Nat.reduceEqDiff]))
            refine wp_region_effA (S := fun _ => True) (I := (· = World.drew w1)) (E := fun i => [13, 15].contains i) (A := fun i => [7, 11].contains i) (by kernel_rfl) (by kernel_rfl) rfl (fun _ _ => trivial) ?_
            repeat (first | ((with_reducible apply lexA_q); (focus rfl); (focus rfl); (focus rfl); (focus (intro w' hS; simp [go_sem, effAt, ↓IntWalk.iteOmega, *]; (try go_ints); (first | (with_reducible exact effUpon_val) | (with_reducible exact effUpon_skip)))); (focus ((simp only [Act.put, List.setIfInBounds_toArray, List.set_cons_zero, List.set_cons_succ]; rfl)))) | ((with_reducible apply lexA_s); (focus rfl); (focus ((simp only [Act.put, List.setIfInBounds_toArray, List.set_cons_zero, List.set_cons_succ]; rfl)))) | ((with_reducible apply lexA_a); (focus rfl); (focus rfl); (focus rfl); (focus (intro w' hS; subst hS; simp [go_sem, effAt, ↓IntWalk.iteOmega, *]; (try go_ints); (first | (with_reducible exact effUpon_val) | (with_reducible exact effUpon_skip)))); (focus ((simp only [Act.put, List.setIfInBounds_toArray, List.set_cons_zero, List.set_cons_succ]; rfl)))))
            with_reducible apply lexA_e (fun w' => Blk w' g 5 ((cellsS pad D).setIfInBounds (j) (.int .u8 xa)) ∧ World.grownBy w1 w' (some g))
            (focus (first | exact wanted_none rfl | exact wanted_yes rfl rfl rfl))
            focus rfl
            focus
              intro w' hS
              subst hS
              have hf_d := hB_d.frozen
              simp [go_sem, effAt, *]
              exact ⟨rfl, hB_d.drew.set_ (j) _, grown_undrew (grown_set (World.grownBy.refl _ _))⟩
            focus exact fun _ _ => trivial
            (focus (first | (apply put_some rfl; focus (conv => lhs; dsimp only [List.set_cons_zero, List.set_cons_succ]) <;> rfl) | exact put_none rfl))
            repeat (first | ((with_reducible apply lexA_q); (focus rfl); (focus rfl); (focus rfl); (focus (intro w' hS; simp [go_sem, effAt, ↓IntWalk.iteOmega, *]; (try go_ints); (first | (with_reducible exact effUpon_val) | (with_reducible exact effUpon_skip)))); (focus ((simp only [Act.put, List.setIfInBounds_toArray, List.set_cons_zero, List.set_cons_succ]; rfl)))) | ((with_reducible apply lexA_s); (focus rfl); (focus ((simp only [Act.put, List.setIfInBounds_toArray, List.set_cons_zero, List.set_cons_succ]; rfl)))) | ((with_reducible apply lexA_a); (focus rfl); (focus rfl); (focus rfl); (focus (intro w' hS; skip; simp [go_sem, effAt, ↓IntWalk.iteOmega, *]; (try go_ints); (first | (with_reducible exact effUpon_val) | (with_reducible exact effUpon_skip)))); (focus ((simp only [Act.put, List.setIfInBounds_toArray, List.set_cons_zero, List.set_cons_succ]; rfl)))))
            with_reducible apply lexA_e (fun w' => SB w' g pad (swp D (j) (a)) ∧ World.grownBy w1 w' (some g))
            (focus (first | exact wanted_none rfl | exact wanted_yes rfl rfl rfl))
            focus rfl
            focus
              rintro w' ⟨hB', hg'⟩
              have hf_d := hB'.frozen
              have hc_d := hB'.cell
              obtain ⟨z, hz⟩ := SZ.out
              simp [go_sem, effAt, *]
              exact ⟨rfl, by have h := hB'.set_ (a) (.int .u8 y1); rw [SW.out] at h; exact h, grown_set hg'⟩
            focus exact fun _ _ => trivial
            (focus (first | (apply put_some rfl; focus (conv => lhs; dsimp only [List.set_cons_zero, List.set_cons_succ]) <;> rfl) | exact put_none rfl))
            with_reducible apply lexA_nil
            rintro w1n ⟨hB_n, hg_n⟩
            have hG2 := grown_trans hG hg_n
            clear hB_d hc_d hG hg_n f1
            have hB_d := hB_n
            have hG := hG2
            clear hB_n hG2
            have Fw1n : Below w1n.heap.size w1n w1n := Below.refl _ _
            repeat (first | with_reducible apply wpList_nil | with_reducible apply seq_region | with_reducible apply wp_region_lit | with_reducible apply wp_seq | ((with_reducible apply seq_q); (focus rfl); (focus (simp [go_sem, effAt, ↓IntWalk.iteOmega, *]; (try go_ints); (first | (with_reducible exact effUpon_val) | (with_reducible exact effUpon_skip)))); (focus ((simp only [Act.put, List.setIfInBounds_toArray, List.set_cons_zero, List.set_cons_succ]; rfl)))) | ((with_reducible apply seq_s); (focus rfl); (focus ((simp only [Act.put, List.setIfInBounds_toArray, List.set_cons_zero, List.set_cons_succ]; rfl)))) | with_reducible apply wp_block | with_reducible apply wp_skip | with_reducible apply wp_exit | with_reducible apply wp_ret | ((with_reducible apply wp_cond_true); (focus (first | rfl | (simp [go_sem, *]; done)))) | ((with_reducible apply wp_cond_false); (focus (first | rfl | (simp [go_sem, *]; done)))) | (simp only [Exit.then, Exit.inBlock, ↓reduceIte, Nat.reduceEqDiff]))
            refine bodyPost_ret (v := .tuple #[.int .i64 (j : Int), .bool true]) (by simp [results, Try.results35, go_sem, *]) rfl ⟨rfl, hB_d, hG⟩
          case pos =>
            have hc' : (i : Int) ≤ (j : Int) := by omega
            have hci : (j : Int) < (n : Int) := by have := HD.out; omega
            obtain ⟨x, hx⟩ : ∃ x, D[j]! = x := ⟨_, rfl⟩
            have ei := cellsS_get pad (show j < D.size by have := HD.out; omega) hx
            have hL := less_any x xa
            obtain ⟨l, hl⟩ : ∃ l, ltInt x xa = l := ⟨_, rfl⟩
            rw [hl] at hL
            rw [← HXA.out, ← hx] at hl
            clear hx
            cases l with
            | true =>
              rw [scanDown_end _ _ _ _ (.inr (by simp [hl]))] at hJ
              subst hJ
              clear hBJ hBK hl
              skip
              have Fwr : Below wr.heap.size wr wr := Below.refl _ _
              have hc_d := hB_d.cell
              repeat (first | with_reducible apply wpList_nil | with_reducible apply seq_region | with_reducible apply wp_region_lit | with_reducible apply wp_seq | ((with_reducible apply seq_q); (focus rfl); (focus (simp [go_sem, effAt, ↓IntWalk.iteOmega, *]; (try go_ints); (first | (with_reducible exact effUpon_val) | (with_reducible exact effUpon_skip)))); (focus ((simp only [Act.put, List.setIfInBounds_toArray, List.set_cons_zero, List.set_cons_succ]; rfl)))) | ((with_reducible apply seq_s); (focus rfl); (focus ((simp only [Act.put, List.setIfInBounds_toArray, List.set_cons_zero, List.set_cons_succ]; rfl)))) | with_reducible apply wp_block | with_reducible apply wp_skip | with_reducible apply wp_exit | with_reducible apply wp_ret | ((with_reducible apply wp_cond_true); (focus (first | rfl | (simp [go_sem, *]; done)))) | ((with_reducible apply wp_cond_false); (focus (first | rfl | (simp [go_sem, *]; done)))) | (simp only [Exit.then, Exit.inBlock, ↓reduceIte, Nat.reduceEqDiff]))
              refine wp_region_pure (E := fun i => [12].contains i) (by kernel_rfl) (by kernel_rfl) ?_
              repeat (first | ((with_reducible apply lex_q); (focus rfl); (focus rfl); (focus (intro w' hS; have hc_d := (hB_d.below hS hB_d.lt).cell; simp [go_sem, effAt, ↓IntWalk.iteOmega, *]; (try go_ints); (first | (with_reducible exact effUpon_val) | (with_reducible exact effUpon_skip)))); (focus ((simp only [Act.put, List.setIfInBounds_toArray, List.set_cons_zero, List.set_cons_succ]; rfl)))) | ((with_reducible apply lex_s); (focus rfl); (focus ((simp only [Act.put, List.setIfInBounds_toArray, List.set_cons_zero, List.set_cons_succ]; rfl)))))
              ((with_reducible apply lex_e (Below wr.heap.size wr)); (focus rfl); (focus rfl); (focus (intro w' hS; simp only [effAt]; simp [go_sem]; (with_reducible exact eff_call hS (hL _)))); (focus (exact fun _ h => h)); (focus ((simp only [Act.put, List.setIfInBounds_toArray, List.set_cons_zero, List.set_cons_succ]; rfl))))
              repeat (first | ((with_reducible apply lex_q); (focus rfl); (focus rfl); (focus (intro w' hS; have hc_d := (hB_d.below hS hB_d.lt).cell; simp [go_sem, effAt, ↓IntWalk.iteOmega, *]; (try go_ints); (first | (with_reducible exact effUpon_val) | (with_reducible exact effUpon_skip)))); (focus ((simp only [Act.put, List.setIfInBounds_toArray, List.set_cons_zero, List.set_cons_succ]; rfl)))) | ((with_reducible apply lex_s); (focus rfl); (focus ((simp only [Act.put, List.setIfInBounds_toArray, List.set_cons_zero, List.set_cons_succ]; rfl)))))
              with_reducible apply lex_nil
              intro w1 hs
              have Fw1 := Fwr.trans (hs.mono Fwr.size)
              replace hB_d := hB_d.below hs hB_d.lt
              clear hs Fwr
              clear hc_d; have hc_d := hB_d.cell
              repeat (first | with_reducible apply wpList_nil | with_reducible apply seq_region | with_reducible apply wp_region_lit | with_reducible apply wp_seq | ((with_reducible apply seq_q); (focus rfl); (focus (simp [go_sem, effAt, ↓IntWalk.iteOmega, *]; (try go_ints); (first | (with_reducible exact effUpon_val) | (with_reducible exact effUpon_skip)))); (focus ((simp only [Act.put, List.setIfInBounds_toArray, List.set_cons_zero, List.set_cons_succ]; rfl)))) | ((with_reducible apply seq_s); (focus rfl); (focus ((simp only [Act.put, List.setIfInBounds_toArray, List.set_cons_zero, List.set_cons_succ]; rfl)))) | with_reducible apply wp_block | with_reducible apply wp_skip | with_reducible apply wp_exit | with_reducible apply wp_ret | ((with_reducible apply wp_cond_true); (focus (first | rfl | (simp [go_sem, *]; done)))) | ((with_reducible apply wp_cond_false); (focus (first | rfl | (simp [go_sem, *]; done)))) | (simp only [Exit.then, Exit.inBlock, ↓reduceIte, Nat.reduceEqDiff]))
              clear hL ei
              have hG2 := grown_trans hG (grown_below (by assumption : Below wr.heap.size wr w1) _)
              clear hG
              have hG := hG2
              clear hG2 hc_d
              have hIJ : ¬ j < i := by omega
              obtain ⟨k, hk⟩ : ∃ k, j - 1 = k := ⟨_, rfl⟩
              have hkI : (j : Int) - 1 = (k : Int) := by omega
              have hIJ' : ¬ (j : Int) < (i : Int) := by omega
              have b7 : (i : Int) < (n : Int) := by omega
              have b8 : (j : Int) < (n : Int) := by omega
              rw [part_eq (I := i) (J := j) HDE.out HB1.out HI0.out HJ0.out, if_neg hIJ, hk] at hR
              have Fw1 : Below w1.heap.size w1 w1 := Below.refl _ _
              obtain ⟨y1, hy1⟩ : ∃ x, D[i]! = x := ⟨_, rfl⟩
              obtain ⟨y2, hy2⟩ : ∃ x, D[j]! = x := ⟨_, rfl⟩
              have f2 := cellsS_get pad (show j < D.size by have := HD.out; omega) hy2
              have f1 := cellsS_get pad (show i < D.size by have := HD.out; omega) hy1
              have SW := Lib.hid (cellsS_swp pad (i := i) (j := j) (by have := HD.out; omega) (by have := HD.out; omega) hy1 hy2)
              have SZ := Lib.hid (cellsS_get2 (d := D) pad (i := i) (j := j) y2 (by have := HD.out; omega) (by have := HD.out; omega))
              clear hy1 hy2
              have hc_d := hB_d.cell
              repeat (first | with_reducible apply wpList_nil | with_reducible apply seq_region | with_reducible apply wp_region_lit | with_reducible apply wp_seq | ((with_reducible apply seq_q); (focus rfl); (focus (simp [go_sem, effAt, ↓IntWalk.iteOmega, *]; (try go_ints); (first | (with_reducible exact effUpon_val) | (with_reducible exact effUpon_skip)))); (focus ((simp only [Act.put, List.setIfInBounds_toArray, List.set_cons_zero, List.set_cons_succ]; rfl)))) | ((with_reducible apply seq_s); (focus rfl); (focus ((simp only [Act.put, List.setIfInBounds_toArray, List.set_cons_zero, List.set_cons_succ]; rfl)))) | with_reducible apply wp_block | with_reducible apply wp_skip | with_reducible apply wp_exit | with_reducible apply wp_ret | ((with_reducible apply wp_cond_true); (focus (first | rfl | (simp [go_sem, *]; done)))) | ((with_reducible apply wp_cond_false); (focus (first | rfl | (simp [go_sem, *]; done)))) | (simp only [Exit.then, Exit.inBlock, ↓reduceIte, Nat.reduceEqDiff]))
              refine wp_region_effA (S := fun _ => True) (I := (· = World.drew w1)) (E := fun i => [13, 15].contains i) (A := fun i => [7, 11].contains i) (by kernel_rfl) (by kernel_rfl) rfl (fun _ _ => trivial) ?_
              repeat (first | ((with_reducible apply lexA_q); (focus rfl); (focus rfl); (focus rfl); (focus (intro w' hS; simp [go_sem, effAt, ↓IntWalk.iteOmega, *]; (try go_ints); (first | (with_reducible exact effUpon_val) | (with_reducible exact effUpon_skip)))); (focus ((simp only [Act.put, List.setIfInBounds_toArray, List.set_cons_zero, List.set_cons_succ]; rfl)))) | ((with_reducible apply lexA_s); (focus rfl); (focus ((simp only [Act.put, List.setIfInBounds_toArray, List.set_cons_zero, List.set_cons_succ]; rfl)))) | ((with_reducible apply lexA_a); (focus rfl); (focus rfl); (focus rfl); (focus (intro w' hS; subst hS; simp [go_sem, effAt, ↓IntWalk.iteOmega, *]; (try go_ints); (first | (with_reducible exact effUpon_val) | (with_reducible exact effUpon_skip)))); (focus ((simp only [Act.put, List.setIfInBounds_toArray, List.set_cons_zero, List.set_cons_succ]; rfl)))))
              with_reducible apply lexA_e (fun w' => Blk w' g 5 ((cellsS pad D).setIfInBounds (i) (.int .u8 y2)) ∧ World.grownBy w1 w' (some g))
              (focus (first | exact wanted_none rfl | exact wanted_yes rfl rfl rfl))
              focus rfl
              focus
                intro w' hS
                subst hS
                have hf_d := hB_d.frozen
                simp [go_sem, effAt, *]
                exact ⟨rfl, hB_d.drew.set_ (i) _, grown_undrew (grown_set (World.grownBy.refl _ _))⟩
              focus exact fun _ _ => trivial
              (focus (first | (apply put_some rfl; focus (conv => lhs; dsimp only [List.set_cons_zero, List.set_cons_succ]) <;> rfl) | exact put_none rfl))
              repeat (first | ((with_reducible apply lexA_q); (focus rfl); (focus rfl); (focus rfl); (focus (intro w' hS; simp [go_sem, effAt, ↓IntWalk.iteOmega, *]; (try go_ints); (first | (with_reducible exact effUpon_val) | (with_reducible exact effUpon_skip)))); (focus ((simp only [Act.put, List.setIfInBounds_toArray, List.set_cons_zero, List.set_cons_succ]; rfl)))) | ((with_reducible apply lexA_s); (focus rfl); (focus ((simp only [Act.put, List.setIfInBounds_toArray, List.set_cons_zero, List.set_cons_succ]; rfl)))) | ((with_reducible apply lexA_a); (focus rfl); (focus rfl); (focus rfl); (focus (intro w' hS; skip; simp [go_sem, effAt, ↓IntWalk.iteOmega, *]; (try go_ints); (first | (with_reducible exact effUpon_val) | (with_reducible exact effUpon_skip)))); (focus ((simp only [Act.put, List.setIfInBounds_toArray, List.set_cons_zero, List.set_cons_succ]; rfl)))))
              with_reducible apply lexA_e (fun w' => SB w' g pad (swp D (i) (j)) ∧ World.grownBy w1 w' (some g))
              (focus (first | exact wanted_none rfl | exact wanted_yes rfl rfl rfl))
              focus rfl
              focus
                rintro w' ⟨hB', hg'⟩
                have hf_d := hB'.frozen
                have hc_d := hB'.cell
                obtain ⟨z, hz⟩ := SZ.out
                simp [go_sem, effAt, *]
                exact ⟨rfl, by have h := hB'.set_ (j) (.int .u8 y1); rw [SW.out] at h; exact h, grown_set hg'⟩
              focus exact fun _ _ => trivial
              (focus (first | (apply put_some rfl; focus (conv => lhs; dsimp only [List.set_cons_zero, List.set_cons_succ]) <;> rfl) | exact put_none rfl))
              with_reducible apply lexA_nil
              rintro w1n ⟨hB_n, hg_n⟩
              have hG2 := grown_trans hG hg_n
              clear hB_d hc_d hG hg_n f1 f2
              have hB_d := hB_n
              have hG := hG2
              clear hB_n hG2
              have HD9 := Lib.hid (show (swp D i j).size = n by rw [swp_size]; exact HD.out)
              clear HI0 HJ0 HDE SW SZ HXA ea
              have Fw1n : Below w1n.heap.size w1n w1n := Below.refl _ _
              repeat (first | with_reducible apply wpList_nil | with_reducible apply seq_region | with_reducible apply wp_region_lit | with_reducible apply wp_seq | ((with_reducible apply seq_q); (focus rfl); (focus (simp [go_sem, effAt, ↓IntWalk.iteOmega, *]; (try go_ints); (first | (with_reducible exact effUpon_val) | (with_reducible exact effUpon_skip)))); (focus ((simp only [Act.put, List.setIfInBounds_toArray, List.set_cons_zero, List.set_cons_succ]; rfl)))) | ((with_reducible apply seq_s); (focus rfl); (focus ((simp only [Act.put, List.setIfInBounds_toArray, List.set_cons_zero, List.set_cons_succ]; rfl)))) | with_reducible apply wp_block | with_reducible apply wp_skip | with_reducible apply wp_exit | with_reducible apply wp_ret | ((with_reducible apply wp_cond_true); (focus (first | rfl | (simp [go_sem, *]; done)))) | ((with_reducible apply wp_cond_false); (focus (first | rfl | (simp [go_sem, *]; done)))) | (simp only [Exit.then, Exit.inBlock, ↓reduceIte, Nat.reduceEqDiff]))
              go_loopg [10, 11] (b + 1) (fun q v10 v11 wr => ∃ (i j : Nat) (dk : Array Int), v10 = .int .i64 (i : Int) ∧ v11 = .int .i64 (j : Int) ∧ a < i ∧ i ≤ j + 2 ∧ j < b ∧ j + 1 ≤ i + q ∧ dk.size = n ∧
                ((partLoop ltInt a i j dk).1, false, swp (partLoop ltInt a i j dk).2 (partLoop ltInt a i j dk).1 a) = R ∧ SB wr g pad dk ∧ w.grownBy wr (some g))
              case atStart => exact ⟨i + 1, k, swp D i j, by go_num, by go_num, by omega, by omega, by omega, by omega, HD9.out, hR, hB_d, hG⟩
              case round =>
                rename_i J K hJ hK
                clear hR hB_d hG HD9 HD
                obtain ⟨i0, j0, dk, rfl, rfl, hi0, hij0, hj0, hm0, hdk, hR, hB_d, hG⟩ := hrel
                have HD := Lib.hid hdk
                clear hdk
                obtain ⟨xa, hxa⟩ : ∃ x, dk[a]! = x := ⟨_, rfl⟩
                have ea := cellsS_get pad (show a < dk.size by have := HD.out; omega) hxa
                have HXA := Lib.hid hxa
                clear hxa
                skip
                have Fwr : Below wr.heap.size wr wr := Below.refl _ _
                repeat (first | with_reducible apply wpList_nil | with_reducible apply seq_region | with_reducible apply wp_region_lit | with_reducible apply wp_seq | ((with_reducible apply seq_q); (focus rfl); (focus (simp [go_sem, effAt, ↓IntWalk.iteOmega, *]; (try go_ints); (first | (with_reducible exact effUpon_val) | (with_reducible exact effUpon_skip)))); (focus ((simp only [Act.put, List.setIfInBounds_toArray, List.set_cons_zero, List.set_cons_succ]; rfl)))) | ((with_reducible apply seq_s); (focus rfl); (focus ((simp only [Act.put, List.setIfInBounds_toArray, List.set_cons_zero, List.set_cons_succ]; rfl)))) | with_reducible apply wp_block | with_reducible apply wp_skip | with_reducible apply wp_exit | with_reducible apply wp_ret | ((with_reducible apply wp_cond_true); (focus (first | rfl | (simp [go_sem, *]; done)))) | ((with_reducible apply wp_cond_false); (focus (first | rfl | (simp [go_sem, *]; done)))) | (simp only [Exit.then, Exit.inBlock, ↓reduceIte, Nat.reduceEqDiff]))
                obtain ⟨I, hI⟩ : ∃ I, scanUp (fun x => ltInt x dk[a]!) dk j0 i0 = I := ⟨_, rfl⟩
                have HI0 := Lib.hid hI
                go_loopg [10] (j0 + 1) (fun q v10 wr => ∃ (i : Nat), v10 = .int .i64 (i : Int) ∧ i0 ≤ i ∧ i ≤ j0 + 2 ∧ j0 + 1 ≤ i + q ∧ scanUp (fun x => ltInt x dk[a]!) dk j0 i = I ∧ SB wr g pad dk ∧ w.grownBy wr (some g))
                case atStart => exact ⟨i0, by first | rfl | go_num, by omega, by omega, by omega, hI, hB_d, hG⟩
                case round =>
                  rename_i UJ UK hUJ hUK
                  clear hI hB_d hG
                  obtain ⟨i, rfl, hi1, hi2, hi3, hI, hB_d, hG⟩ := hrel
                  by_cases hc : i ≤ j0
                  case neg =>
                    have hc' : ¬ (i : Int) ≤ (j0 : Int) := by omega
                    rw [scanUp_end _ _ _ _ (.inl hc)] at hI
                    subst hI
                    clear hUJ hUK
                    skip
                    have Fwr : Below wr.heap.size wr wr := Below.refl _ _
                    have hc_d := hB_d.cell
                    repeat (first | with_reducible apply wpList_nil | with_reducible apply seq_region | with_reducible apply wp_region_lit | with_reducible apply wp_seq | ((with_reducible apply seq_q); (focus rfl); (focus (simp [go_sem, effAt, ↓IntWalk.iteOmega, *]; (try go_ints); (first | (with_reducible exact effUpon_val) | (with_reducible exact effUpon_skip)))); (focus ((simp only [Act.put, List.setIfInBounds_toArray, List.set_cons_zero, List.set_cons_succ]; rfl)))) | ((with_reducible apply seq_s); (focus rfl); (focus ((simp only [Act.put, List.setIfInBounds_toArray, List.set_cons_zero, List.set_cons_succ]; rfl)))) | with_reducible apply wp_block | with_reducible apply wp_skip | with_reducible apply wp_exit | with_reducible apply wp_ret | ((with_reducible apply wp_cond_true); (focus (first | rfl | (simp [go_sem, *]; done)))) | ((with_reducible apply wp_cond_false); (focus (first | rfl | (simp [go_sem, *]; done)))) | (simp only [Exit.then, Exit.inBlock, ↓reduceIte, Nat.reduceEqDiff]))
                    refine wp_region_pure (E := fun i => [12].contains i) (by kernel_rfl) (by kernel_rfl) ?_
                    repeat (first | ((with_reducible apply lex_q); (focus rfl); (focus rfl); (focus (intro w' hS; have hc_d := (hB_d.below hS hB_d.lt).cell; simp [go_sem, effAt, ↓IntWalk.iteOmega, *]; (try go_ints); (first | (with_reducible exact effUpon_val) | (with_reducible exact effUpon_skip)))); (focus ((simp only [Act.put, List.setIfInBounds_toArray, List.set_cons_zero, List.set_cons_succ]; rfl)))) | ((with_reducible apply lex_s); (focus rfl); (focus ((simp only [Act.put, List.setIfInBounds_toArray, List.set_cons_zero, List.set_cons_succ]; rfl)))))
                    with_reducible apply lex_nil
                    intro w1 hs
                    have Fw1 := Fwr.trans (hs.mono Fwr.size)
                    replace hB_d := hB_d.below hs hB_d.lt
                    clear hs Fwr
                    clear hc_d; have hc_d := hB_d.cell
                    repeat (first | with_reducible apply wpList_nil | with_reducible apply seq_region | with_reducible apply wp_region_lit | with_reducible apply wp_seq | ((with_reducible apply seq_q); (focus rfl); (focus (simp [go_sem, effAt, ↓IntWalk.iteOmega, *]; (try go_ints); (first | (with_reducible exact effUpon_val) | (with_reducible exact effUpon_skip)))); (focus ((simp only [Act.put, List.setIfInBounds_toArray, List.set_cons_zero, List.set_cons_succ]; rfl)))) | ((with_reducible apply seq_s); (focus rfl); (focus ((simp only [Act.put, List.setIfInBounds_toArray, List.set_cons_zero, List.set_cons_succ]; rfl)))) | with_reducible apply wp_block | with_reducible apply wp_skip | with_reducible apply wp_exit | with_reducible apply wp_ret | ((with_reducible apply wp_cond_true); (focus (first | rfl | (simp [go_sem, *]; done)))) | ((with_reducible apply wp_cond_false); (focus (first | rfl | (simp [go_sem, *]; done)))) | (simp only [Exit.then, Exit.inBlock, ↓reduceIte, Nat.reduceEqDiff]))
                    have hG2 := grown_trans hG (grown_below (by assumption : Below wr.heap.size wr w1) _)
                    clear hG
                    have hG := hG2
                    clear hG2 hc_d
                    have Fw1 : Below w1.heap.size w1 w1 := Below.refl _ _
                    repeat (first | with_reducible apply wpList_nil | with_reducible apply seq_region | with_reducible apply wp_region_lit | with_reducible apply wp_seq | ((with_reducible apply seq_q); (focus rfl); (focus (simp [go_sem, effAt, ↓IntWalk.iteOmega, *]; (try go_ints); (first | (with_reducible exact effUpon_val) | (with_reducible exact effUpon_skip)))); (focus ((simp only [Act.put, List.setIfInBounds_toArray, List.set_cons_zero, List.set_cons_succ]; rfl)))) | ((with_reducible apply seq_s); (focus rfl); (focus ((simp only [Act.put, List.setIfInBounds_toArray, List.set_cons_zero, List.set_cons_succ]; rfl)))) | with_reducible apply wp_block | with_reducible apply wp_skip | with_reducible apply wp_exit | with_reducible apply wp_ret | ((with_reducible apply wp_cond_true); (focus (first | rfl | (simp [go_sem, *]; done)))) | ((with_reducible apply wp_cond_false); (focus (first | rfl | (simp [go_sem, *]; done)))) | (simp only [Exit.then, Exit.inBlock, ↓reduceIte, Nat.reduceEqDiff]))
                    obtain ⟨J, hJ⟩ : ∃ J, scanDown (fun x => !ltInt x dk[a]!) dk i j0 = J := ⟨_, rfl⟩
                    have HJ0 := Lib.hid hJ
                    go_loopg [11] (j0 + 1) (fun q v11 wr => ∃ (j : Nat), v11 = .int .i64 (j : Int) ∧ j ≤ j0 ∧ i ≤ j + 2 ∧ j ≤ q ∧ scanDown (fun x => !ltInt x dk[a]!) dk i j = J ∧ SB wr g pad dk ∧ w.grownBy wr (some g))
                    case atStart => exact ⟨j0, by first | rfl | go_num, by omega, by omega, by omega, hJ, hB_d, hG⟩
                    case round =>
                      rename_i DJ DK hDJ hDK
                      clear hJ hB_d hG
                      obtain ⟨j, rfl, hj1, hj2, hj3, hJ, hB_d, hG⟩ := hrel
                      by_cases hc : i ≤ j
                      case neg =>
                        have hc' : ¬ (i : Int) ≤ (j : Int) := by omega
                        rw [scanDown_end _ _ _ _ (.inl hc)] at hJ
                        subst hJ
                        clear hDJ hDK
                        skip
                        have Fwr : Below wr.heap.size wr wr := Below.refl _ _
                        have hc_d := hB_d.cell
                        repeat (first | with_reducible apply wpList_nil | with_reducible apply seq_region | with_reducible apply wp_region_lit | with_reducible apply wp_seq | ((with_reducible apply seq_q); (focus rfl); (focus (simp [go_sem, effAt, ↓IntWalk.iteOmega, *]; (try go_ints); (first | (with_reducible exact effUpon_val) | (with_reducible exact effUpon_skip)))); (focus ((simp only [Act.put, List.setIfInBounds_toArray, List.set_cons_zero, List.set_cons_succ]; rfl)))) | ((with_reducible apply seq_s); (focus rfl); (focus ((simp only [Act.put, List.setIfInBounds_toArray, List.set_cons_zero, List.set_cons_succ]; rfl)))) | with_reducible apply wp_block | with_reducible apply wp_skip | with_reducible apply wp_exit | with_reducible apply wp_ret | ((with_reducible apply wp_cond_true); (focus (first | rfl | (simp [go_sem, *]; done)))) | ((with_reducible apply wp_cond_false); (focus (first | rfl | (simp [go_sem, *]; done)))) | (simp only [Exit.then, Exit.inBlock, ↓reduceIte, Nat.reduceEqDiff]))
                        refine wp_region_pure (E := fun i => [12].contains i) (by kernel_rfl) (by kernel_rfl) ?_
                        repeat (first | ((with_reducible apply lex_q); (focus rfl); (focus rfl); (focus (intro w' hS; have hc_d := (hB_d.below hS hB_d.lt).cell; simp [go_sem, effAt, ↓IntWalk.iteOmega, *]; (try go_ints); (first | (with_reducible exact effUpon_val) | (with_reducible exact effUpon_skip)))); (focus ((simp only [Act.put, List.setIfInBounds_toArray, List.set_cons_zero, List.set_cons_succ]; rfl)))) | ((with_reducible apply lex_s); (focus rfl); (focus ((simp only [Act.put, List.setIfInBounds_toArray, List.set_cons_zero, List.set_cons_succ]; rfl)))))
                        with_reducible apply lex_nil
                        intro w1 hs
                        have Fw1 := Fwr.trans (hs.mono Fwr.size)
                        replace hB_d := hB_d.below hs hB_d.lt
                        clear hs Fwr
                        clear hc_d; have hc_d := hB_d.cell
                        repeat (first | with_reducible apply wpList_nil | with_reducible apply seq_region | with_reducible apply wp_region_lit | with_reducible apply wp_seq | ((with_reducible apply seq_q); (focus rfl); (focus (simp [go_sem, effAt, ↓IntWalk.iteOmega, *]; (try go_ints); (first | (with_reducible exact effUpon_val) | (with_reducible exact effUpon_skip)))); (focus ((simp only [Act.put, List.setIfInBounds_toArray, List.set_cons_zero, List.set_cons_succ]; rfl)))) | ((with_reducible apply seq_s); (focus rfl); (focus ((simp only [Act.put, List.setIfInBounds_toArray, List.set_cons_zero, List.set_cons_succ]; rfl)))) | with_reducible apply wp_block | with_reducible apply wp_skip | with_reducible apply wp_exit | with_reducible apply wp_ret | ((with_reducible apply wp_cond_true); (focus (first | rfl | (simp [go_sem, *]; done)))) | ((with_reducible apply wp_cond_false); (focus (first | rfl | (simp [go_sem, *]; done)))) | (simp only [Exit.then, Exit.inBlock, ↓reduceIte, Nat.reduceEqDiff]))
                        have hG2 := grown_trans hG (grown_below (by assumption : Below wr.heap.size wr w1) _)
                        clear hG
                        have hG := hG2
                        clear hG2 hc_d
                        have hIJ : j < i := by omega
                        have hIJ' : (j : Int) < (i : Int) := by omega
                        have b8 : (j : Int) < (n : Int) := by omega
                        rw [partLoop_eq, HI0.out, HJ0.out, if_pos hIJ] at hR
                        dsimp only at hR
                        subst hR
                        clear hJ hK
                        have Fw1 : Below w1.heap.size w1 w1 := Below.refl _ _
                        obtain ⟨y1, hy1⟩ : ∃ x, dk[j]! = x := ⟨_, rfl⟩
                        have hy2 := HXA.out
                        have f1 := cellsS_get pad (show j < dk.size by have := HD.out; omega) hy1
                        have SW := Lib.hid (cellsS_swp pad (i := j) (j := a) (by have := HD.out; omega) (by have := HD.out; omega) hy1 hy2)
                        have SZ := Lib.hid (cellsS_get2 (d := dk) pad (i := j) (j := a) xa (by have := HD.out; omega) (by have := HD.out; omega))
                        clear hy1 hy2
                        have hc_d := hB_d.cell
                        repeat (first | with_reducible apply wpList_nil | with_reducible apply seq_region | with_reducible apply wp_region_lit | with_reducible apply wp_seq | ((with_reducible apply seq_q); (focus rfl); (focus (simp [go_sem, effAt, ↓IntWalk.iteOmega, *]; (try go_ints); (first | (with_reducible exact effUpon_val) | (with_reducible exact effUpon_skip)))); (focus ((simp only [Act.put, List.setIfInBounds_toArray, List.set_cons_zero, List.set_cons_succ]; rfl)))) | ((with_reducible apply seq_s); (focus rfl); (focus ((simp only [Act.put, List.setIfInBounds_toArray, List.set_cons_zero, List.set_cons_succ]; rfl)))) | with_reducible apply wp_block | with_reducible apply wp_skip | with_reducible apply wp_exit | with_reducible apply wp_ret | ((with_reducible apply wp_cond_true); (focus (first | rfl | (simp [go_sem, *]; done)))) | ((with_reducible apply wp_cond_false); (focus (first | rfl | (simp [go_sem, *]; done)))) | (simp only [Exit.then, Exit.inBlock, ↓reduceIte, Nat.reduceEqDiff]))
                        refine wp_region_effA (S := fun _ => True) (I := (· = World.drew w1)) (E := fun i => [13, 15].contains i) (A := fun i => [7, 11].contains i) (by kernel_rfl) (by kernel_rfl) rfl (fun _ _ => trivial) ?_
                        repeat (first | ((with_reducible apply lexA_q); (focus rfl); (focus rfl); (focus rfl); (focus (intro w' hS; simp [go_sem, effAt, ↓IntWalk.iteOmega, *]; (try go_ints); (first | (with_reducible exact effUpon_val) | (with_reducible exact effUpon_skip)))); (focus ((simp only [Act.put, List.setIfInBounds_toArray, List.set_cons_zero, List.set_cons_succ]; rfl)))) | ((with_reducible apply lexA_s); (focus rfl); (focus ((simp only [Act.put, List.setIfInBounds_toArray, List.set_cons_zero, List.set_cons_succ]; rfl)))) | ((with_reducible apply lexA_a); (focus rfl); (focus rfl); (focus rfl); (focus (intro w' hS; subst hS; simp [go_sem, effAt, ↓IntWalk.iteOmega, *]; (try go_ints); (first | (with_reducible exact effUpon_val) | (with_reducible exact effUpon_skip)))); (focus ((simp only [Act.put, List.setIfInBounds_toArray, List.set_cons_zero, List.set_cons_succ]; rfl)))))
                        with_reducible apply lexA_e (fun w' => Blk w' g 5 ((cellsS pad dk).setIfInBounds (j) (.int .u8 xa)) ∧ World.grownBy w1 w' (some g))
                        (focus (first | exact wanted_none rfl | exact wanted_yes rfl rfl rfl))
                        focus rfl
                        focus
                          intro w' hS
                          subst hS
                          have hf_d := hB_d.frozen
                          simp [go_sem, effAt, *]
                          exact ⟨rfl, hB_d.drew.set_ (j) _, grown_undrew (grown_set (World.grownBy.refl _ _))⟩
                        focus exact fun _ _ => trivial
                        (focus (first | (apply put_some rfl; focus (conv => lhs; dsimp only [List.set_cons_zero, List.set_cons_succ]) <;> rfl) | exact put_none rfl))
                        repeat (first | ((with_reducible apply lexA_q); (focus rfl); (focus rfl); (focus rfl); (focus (intro w' hS; simp [go_sem, effAt, ↓IntWalk.iteOmega, *]; (try go_ints); (first | (with_reducible exact effUpon_val) | (with_reducible exact effUpon_skip)))); (focus ((simp only [Act.put, List.setIfInBounds_toArray, List.set_cons_zero, List.set_cons_succ]; rfl)))) | ((with_reducible apply lexA_s); (focus rfl); (focus ((simp only [Act.put, List.setIfInBounds_toArray, List.set_cons_zero, List.set_cons_succ]; rfl)))) | ((with_reducible apply lexA_a); (focus rfl); (focus rfl); (focus rfl); (focus (intro w' hS; skip; simp [go_sem, effAt, ↓IntWalk.iteOmega, *]; (try go_ints); (first | (with_reducible exact effUpon_val) | (with_reducible exact effUpon_skip)))); (focus ((simp only [Act.put, List.setIfInBounds_toArray, List.set_cons_zero, List.set_cons_succ]; rfl)))))
                        with_reducible apply lexA_e (fun w' => SB w' g pad (swp dk (j) (a)) ∧ World.grownBy w1 w' (some g))
                        (focus (first | exact wanted_none rfl | exact wanted_yes rfl rfl rfl))
                        focus rfl
                        focus
                          rintro w' ⟨hB', hg'⟩
                          have hf_d := hB'.frozen
                          have hc_d := hB'.cell
                          obtain ⟨z, hz⟩ := SZ.out
                          simp [go_sem, effAt, *]
                          exact ⟨rfl, by have h := hB'.set_ (a) (.int .u8 y1); rw [SW.out] at h; exact h, grown_set hg'⟩
                        focus exact fun _ _ => trivial
                        (focus (first | (apply put_some rfl; focus (conv => lhs; dsimp only [List.set_cons_zero, List.set_cons_succ]) <;> rfl) | exact put_none rfl))
                        with_reducible apply lexA_nil
                        rintro w1n ⟨hB_n, hg_n⟩
                        have hG2 := grown_trans hG hg_n
                        clear hB_d hc_d hG hg_n f1
                        have hB_d := hB_n
                        have hG := hG2
                        clear hB_n hG2
                        have Fw1n : Below w1n.heap.size w1n w1n := Below.refl _ _
                        repeat (first | with_reducible apply wpList_nil | with_reducible apply seq_region | with_reducible apply wp_region_lit | with_reducible apply wp_seq | ((with_reducible apply seq_q); (focus rfl); (focus (simp [go_sem, effAt, ↓IntWalk.iteOmega, *]; (try go_ints); (first | (with_reducible exact effUpon_val) | (with_reducible exact effUpon_skip)))); (focus ((simp only [Act.put, List.setIfInBounds_toArray, List.set_cons_zero, List.set_cons_succ]; rfl)))) | ((with_reducible apply seq_s); (focus rfl); (focus ((simp only [Act.put, List.setIfInBounds_toArray, List.set_cons_zero, List.set_cons_succ]; rfl)))) | with_reducible apply wp_block | with_reducible apply wp_skip | with_reducible apply wp_exit | with_reducible apply wp_ret | ((with_reducible apply wp_cond_true); (focus (first | rfl | (simp [go_sem, *]; done)))) | ((with_reducible apply wp_cond_false); (focus (first | rfl | (simp [go_sem, *]; done)))) | (simp only [Exit.then, Exit.inBlock, ↓reduceIte, Nat.reduceEqDiff]))
                        refine bodyPost_ret (v := .tuple #[.int .i64 (j : Int), .bool false]) (by simp [results, Try.results35, go_sem, *]) rfl ⟨rfl, hB_d, hG⟩
                      case pos =>
                        have hc' : (i : Int) ≤ (j : Int) := by omega
                        have hci : (j : Int) < (n : Int) := by have := HD.out; omega
                        obtain ⟨x, hx⟩ : ∃ x, dk[j]! = x := ⟨_, rfl⟩
                        have ei := cellsS_get pad (show j < dk.size by have := HD.out; omega) hx
                        have hL := less_any x xa
                        obtain ⟨l, hl⟩ : ∃ l, ltInt x xa = l := ⟨_, rfl⟩
                        rw [hl] at hL
                        rw [← HXA.out, ← hx] at hl
                        clear hx
                        cases l with
                        | true =>
                          rw [scanDown_end _ _ _ _ (.inr (by simp [hl]))] at hJ
                          subst hJ
                          clear hDJ hDK hl
                          skip
                          have Fwr : Below wr.heap.size wr wr := Below.refl _ _
                          have hc_d := hB_d.cell
                          repeat (first | with_reducible apply wpList_nil | with_reducible apply seq_region | with_reducible apply wp_region_lit | with_reducible apply wp_seq | ((with_reducible apply seq_q); (focus rfl); (focus (simp [go_sem, effAt, ↓IntWalk.iteOmega, *]; (try go_ints); (first | (with_reducible exact effUpon_val) | (with_reducible exact effUpon_skip)))); (focus ((simp only [Act.put, List.setIfInBounds_toArray, List.set_cons_zero, List.set_cons_succ]; rfl)))) | ((with_reducible apply seq_s); (focus rfl); (focus ((simp only [Act.put, List.setIfInBounds_toArray, List.set_cons_zero, List.set_cons_succ]; rfl)))) | with_reducible apply wp_block | with_reducible apply wp_skip | with_reducible apply wp_exit | with_reducible apply wp_ret | ((with_reducible apply wp_cond_true); (focus (first | rfl | (simp [go_sem, *]; done)))) | ((with_reducible apply wp_cond_false); (focus (first | rfl | (simp [go_sem, *]; done)))) | (simp only [Exit.then, Exit.inBlock, ↓reduceIte, Nat.reduceEqDiff]))
                          refine wp_region_pure (E := fun i => [12].contains i) (by kernel_rfl) (by kernel_rfl) ?_
                          repeat (first | ((with_reducible apply lex_q); (focus rfl); (focus rfl); (focus (intro w' hS; have hc_d := (hB_d.below hS hB_d.lt).cell; simp [go_sem, effAt, ↓IntWalk.iteOmega, *]; (try go_ints); (first | (with_reducible exact effUpon_val) | (with_reducible exact effUpon_skip)))); (focus ((simp only [Act.put, List.setIfInBounds_toArray, List.set_cons_zero, List.set_cons_succ]; rfl)))) | ((with_reducible apply lex_s); (focus rfl); (focus ((simp only [Act.put, List.setIfInBounds_toArray, List.set_cons_zero, List.set_cons_succ]; rfl)))))
                          ((with_reducible apply lex_e (Below wr.heap.size wr)); (focus rfl); (focus rfl); (focus (intro w' hS; simp only [effAt]; simp [go_sem]; (with_reducible exact eff_call hS (hL _)))); (focus (exact fun _ h => h)); (focus ((simp only [Act.put, List.setIfInBounds_toArray, List.set_cons_zero, List.set_cons_succ]; rfl))))
                          repeat (first | ((with_reducible apply lex_q); (focus rfl); (focus rfl); (focus (intro w' hS; have hc_d := (hB_d.below hS hB_d.lt).cell; simp [go_sem, effAt, ↓IntWalk.iteOmega, *]; (try go_ints); (first | (with_reducible exact effUpon_val) | (with_reducible exact effUpon_skip)))); (focus ((simp only [Act.put, List.setIfInBounds_toArray, List.set_cons_zero, List.set_cons_succ]; rfl)))) | ((with_reducible apply lex_s); (focus rfl); (focus ((simp only [Act.put, List.setIfInBounds_toArray, List.set_cons_zero, List.set_cons_succ]; rfl)))))
                          with_reducible apply lex_nil
                          intro w1 hs
                          have Fw1 := Fwr.trans (hs.mono Fwr.size)
                          replace hB_d := hB_d.below hs hB_d.lt
                          clear hs Fwr
                          clear hc_d; have hc_d := hB_d.cell
                          repeat (first | with_reducible apply wpList_nil | with_reducible apply seq_region | with_reducible apply wp_region_lit | with_reducible apply wp_seq | ((with_reducible apply seq_q); (focus rfl); (focus (simp [go_sem, effAt, ↓IntWalk.iteOmega, *]; (try go_ints); (first | (with_reducible exact effUpon_val) | (with_reducible exact effUpon_skip)))); (focus ((simp only [Act.put, List.setIfInBounds_toArray, List.set_cons_zero, List.set_cons_succ]; rfl)))) | ((with_reducible apply seq_s); (focus rfl); (focus ((simp only [Act.put, List.setIfInBounds_toArray, List.set_cons_zero, List.set_cons_succ]; rfl)))) | with_reducible apply wp_block | with_reducible apply wp_skip | with_reducible apply wp_exit | with_reducible apply wp_ret | ((with_reducible apply wp_cond_true); (focus (first | rfl | (simp [go_sem, *]; done)))) | ((with_reducible apply wp_cond_false); (focus (first | rfl | (simp [go_sem, *]; done)))) | (simp only [Exit.then, Exit.inBlock, ↓reduceIte, Nat.reduceEqDiff]))
                          clear hL ei
                          have hG2 := grown_trans hG (grown_below (by assumption : Below wr.heap.size wr w1) _)
                          clear hG
                          have hG := hG2
                          clear hG2 hc_d
                          have hIJ : ¬ j < i := by omega
                          obtain ⟨k, hk⟩ : ∃ k, j - 1 = k := ⟨_, rfl⟩
                          have hkI : (j : Int) - 1 = (k : Int) := by omega
                          have hIJ' : ¬ (j : Int) < (i : Int) := by omega
                          have b7 : (i : Int) < (n : Int) := by omega
                          have b8 : (j : Int) < (n : Int) := by omega
                          rw [partLoop_eq, HI0.out, HJ0.out, if_neg hIJ, hk] at hR
                          have Fw1 : Below w1.heap.size w1 w1 := Below.refl _ _
                          obtain ⟨y1, hy1⟩ : ∃ x, dk[i]! = x := ⟨_, rfl⟩
                          obtain ⟨y2, hy2⟩ : ∃ x, dk[j]! = x := ⟨_, rfl⟩
                          have f2 := cellsS_get pad (show j < dk.size by have := HD.out; omega) hy2
                          have f1 := cellsS_get pad (show i < dk.size by have := HD.out; omega) hy1
                          have SW := Lib.hid (cellsS_swp pad (i := i) (j := j) (by have := HD.out; omega) (by have := HD.out; omega) hy1 hy2)
                          have SZ := Lib.hid (cellsS_get2 (d := dk) pad (i := i) (j := j) y2 (by have := HD.out; omega) (by have := HD.out; omega))
                          clear hy1 hy2
                          have hc_d := hB_d.cell
                          repeat (first | with_reducible apply wpList_nil | with_reducible apply seq_region | with_reducible apply wp_region_lit | with_reducible apply wp_seq | ((with_reducible apply seq_q); (focus rfl); (focus (simp [go_sem, effAt, ↓IntWalk.iteOmega, *]; (try go_ints); (first | (with_reducible exact effUpon_val) | (with_reducible exact effUpon_skip)))); (focus ((simp only [Act.put, List.setIfInBounds_toArray, List.set_cons_zero, List.set_cons_succ]; rfl)))) | ((with_reducible apply seq_s); (focus rfl); (focus ((simp only [Act.put, List.setIfInBounds_toArray, List.set_cons_zero, List.set_cons_succ]; rfl)))) | with_reducible apply wp_block | with_reducible apply wp_skip | with_reducible apply wp_exit | with_reducible apply wp_ret | ((with_reducible apply wp_cond_true); (focus (first | rfl | (simp [go_sem, *]; done)))) | ((with_reducible apply wp_cond_false); (focus (first | rfl | (simp [go_sem, *]; done)))) | (simp only [Exit.then, Exit.inBlock, ↓reduceIte, Nat.reduceEqDiff]))
                          refine wp_region_effA (S := fun _ => True) (I := (· = World.drew w1)) (E := fun i => [13, 15].contains i) (A := fun i => [7, 11].contains i) (by kernel_rfl) (by kernel_rfl) rfl (fun _ _ => trivial) ?_
                          repeat (first | ((with_reducible apply lexA_q); (focus rfl); (focus rfl); (focus rfl); (focus (intro w' hS; simp [go_sem, effAt, ↓IntWalk.iteOmega, *]; (try go_ints); (first | (with_reducible exact effUpon_val) | (with_reducible exact effUpon_skip)))); (focus ((simp only [Act.put, List.setIfInBounds_toArray, List.set_cons_zero, List.set_cons_succ]; rfl)))) | ((with_reducible apply lexA_s); (focus rfl); (focus ((simp only [Act.put, List.setIfInBounds_toArray, List.set_cons_zero, List.set_cons_succ]; rfl)))) | ((with_reducible apply lexA_a); (focus rfl); (focus rfl); (focus rfl); (focus (intro w' hS; subst hS; simp [go_sem, effAt, ↓IntWalk.iteOmega, *]; (try go_ints); (first | (with_reducible exact effUpon_val) | (with_reducible exact effUpon_skip)))); (focus ((simp only [Act.put, List.setIfInBounds_toArray, List.set_cons_zero, List.set_cons_succ]; rfl)))))
                          with_reducible apply lexA_e (fun w' => Blk w' g 5 ((cellsS pad dk).setIfInBounds (i) (.int .u8 y2)) ∧ World.grownBy w1 w' (some g))
                          (focus (first | exact wanted_none rfl | exact wanted_yes rfl rfl rfl))
                          focus rfl
                          focus
                            intro w' hS
                            subst hS
                            have hf_d := hB_d.frozen
                            simp [go_sem, effAt, *]
                            exact ⟨rfl, hB_d.drew.set_ (i) _, grown_undrew (grown_set (World.grownBy.refl _ _))⟩
                          focus exact fun _ _ => trivial
                          (focus (first | (apply put_some rfl; focus (conv => lhs; dsimp only [List.set_cons_zero, List.set_cons_succ]) <;> rfl) | exact put_none rfl))
                          repeat (first | ((with_reducible apply lexA_q); (focus rfl); (focus rfl); (focus rfl); (focus (intro w' hS; simp [go_sem, effAt, ↓IntWalk.iteOmega, *]; (try go_ints); (first | (with_reducible exact effUpon_val) | (with_reducible exact effUpon_skip)))); (focus ((simp only [Act.put, List.setIfInBounds_toArray, List.set_cons_zero, List.set_cons_succ]; rfl)))) | ((with_reducible apply lexA_s); (focus rfl); (focus ((simp only [Act.put, List.setIfInBounds_toArray, List.set_cons_zero, List.set_cons_succ]; rfl)))) | ((with_reducible apply lexA_a); (focus rfl); (focus rfl); (focus rfl); (focus (intro w' hS; skip; simp [go_sem, effAt, ↓IntWalk.iteOmega, *]; (try go_ints); (first | (with_reducible exact effUpon_val) | (with_reducible exact effUpon_skip)))); (focus ((simp only [Act.put, List.setIfInBounds_toArray, List.set_cons_zero, List.set_cons_succ]; rfl)))))
                          with_reducible apply lexA_e (fun w' => SB w' g pad (swp dk (i) (j)) ∧ World.grownBy w1 w' (some g))
                          (focus (first | exact wanted_none rfl | exact wanted_yes rfl rfl rfl))
                          focus rfl
                          focus
                            rintro w' ⟨hB', hg'⟩
                            have hf_d := hB'.frozen
                            have hc_d := hB'.cell
                            obtain ⟨z, hz⟩ := SZ.out
                            simp [go_sem, effAt, *]
                            exact ⟨rfl, by have h := hB'.set_ (j) (.int .u8 y1); rw [SW.out] at h; exact h, grown_set hg'⟩
                          focus exact fun _ _ => trivial
                          (focus (first | (apply put_some rfl; focus (conv => lhs; dsimp only [List.set_cons_zero, List.set_cons_succ]) <;> rfl) | exact put_none rfl))
                          with_reducible apply lexA_nil
                          rintro w1n ⟨hB_n, hg_n⟩
                          have hG2 := grown_trans hG hg_n
                          clear hB_d hc_d hG hg_n f1 f2
                          have hB_d := hB_n
                          have hG := hG2
                          clear hB_n hG2
                          have Fw1n : Below w1n.heap.size w1n w1n := Below.refl _ _
                          repeat (first | with_reducible apply wpList_nil | with_reducible apply seq_region | with_reducible apply wp_region_lit | with_reducible apply wp_seq | ((with_reducible apply seq_q); (focus rfl); (focus (simp [go_sem, effAt, ↓IntWalk.iteOmega, *]; (try go_ints); (first | (with_reducible exact effUpon_val) | (with_reducible exact effUpon_skip)))); (focus ((simp only [Act.put, List.setIfInBounds_toArray, List.set_cons_zero, List.set_cons_succ]; rfl)))) | ((with_reducible apply seq_s); (focus rfl); (focus ((simp only [Act.put, List.setIfInBounds_toArray, List.set_cons_zero, List.set_cons_succ]; rfl)))) | with_reducible apply wp_block | with_reducible apply wp_skip | with_reducible apply wp_exit | with_reducible apply wp_ret | ((with_reducible apply wp_cond_true); (focus (first | rfl | (simp [go_sem, *]; done)))) | ((with_reducible apply wp_cond_false); (focus (first | rfl | (simp [go_sem, *]; done)))) | (simp only [Exit.then, Exit.inBlock, ↓reduceIte, Nat.reduceEqDiff]))
                          refine hK _ _ (Handed.intro (k - i) ?measure (hJ _ _ _ ?_))
                          rotate_left
                          (repeat apply Exists.intro)
                          refine ⟨?rel, rfl⟩
                          case rel => exact ⟨i + 1, k, swp dk i j, by go_num, by go_num, by omega, by omega, by omega, by omega, by rw [swp_size]; exact HD.out, hR, hB_d, hG⟩
                          case measure => omega
                        | false =>
                          rw [scanDown_go _ _ _ _ hc (by omega) (by simp [hl])] at hJ
                          clear hl
                          obtain ⟨k, hk⟩ : ∃ k, j - 1 = k := ⟨_, rfl⟩
                          have hkI : (j : Int) - 1 = (k : Int) := by omega
                          rw [hk] at hJ
                          skip
                          have Fwr : Below wr.heap.size wr wr := Below.refl _ _
                          have hc_d := hB_d.cell
                          repeat (first | with_reducible apply wpList_nil | with_reducible apply seq_region | with_reducible apply wp_region_lit | with_reducible apply wp_seq | ((with_reducible apply seq_q); (focus rfl); (focus (simp [go_sem, effAt, ↓IntWalk.iteOmega, *]; (try go_ints); (first | (with_reducible exact effUpon_val) | (with_reducible exact effUpon_skip)))); (focus ((simp only [Act.put, List.setIfInBounds_toArray, List.set_cons_zero, List.set_cons_succ]; rfl)))) | ((with_reducible apply seq_s); (focus rfl); (focus ((simp only [Act.put, List.setIfInBounds_toArray, List.set_cons_zero, List.set_cons_succ]; rfl)))) | with_reducible apply wp_block | with_reducible apply wp_skip | with_reducible apply wp_exit | with_reducible apply wp_ret | ((with_reducible apply wp_cond_true); (focus (first | rfl | (simp [go_sem, *]; done)))) | ((with_reducible apply wp_cond_false); (focus (first | rfl | (simp [go_sem, *]; done)))) | (simp only [Exit.then, Exit.inBlock, ↓reduceIte, Nat.reduceEqDiff]))
                          refine wp_region_pure (E := fun i => [12].contains i) (by kernel_rfl) (by kernel_rfl) ?_
                          repeat (first | ((with_reducible apply lex_q); (focus rfl); (focus rfl); (focus (intro w' hS; have hc_d := (hB_d.below hS hB_d.lt).cell; simp [go_sem, effAt, ↓IntWalk.iteOmega, *]; (try go_ints); (first | (with_reducible exact effUpon_val) | (with_reducible exact effUpon_skip)))); (focus ((simp only [Act.put, List.setIfInBounds_toArray, List.set_cons_zero, List.set_cons_succ]; rfl)))) | ((with_reducible apply lex_s); (focus rfl); (focus ((simp only [Act.put, List.setIfInBounds_toArray, List.set_cons_zero, List.set_cons_succ]; rfl)))))
                          ((with_reducible apply lex_e (Below wr.heap.size wr)); (focus rfl); (focus rfl); (focus (intro w' hS; simp only [effAt]; simp [go_sem]; (with_reducible exact eff_call hS (hL _)))); (focus (exact fun _ h => h)); (focus ((simp only [Act.put, List.setIfInBounds_toArray, List.set_cons_zero, List.set_cons_succ]; rfl))))
                          repeat (first | ((with_reducible apply lex_q); (focus rfl); (focus rfl); (focus (intro w' hS; have hc_d := (hB_d.below hS hB_d.lt).cell; simp [go_sem, effAt, ↓IntWalk.iteOmega, *]; (try go_ints); (first | (with_reducible exact effUpon_val) | (with_reducible exact effUpon_skip)))); (focus ((simp only [Act.put, List.setIfInBounds_toArray, List.set_cons_zero, List.set_cons_succ]; rfl)))) | ((with_reducible apply lex_s); (focus rfl); (focus ((simp only [Act.put, List.setIfInBounds_toArray, List.set_cons_zero, List.set_cons_succ]; rfl)))))
                          with_reducible apply lex_nil
                          intro w1 hs
                          have Fw1 := Fwr.trans (hs.mono Fwr.size)
                          replace hB_d := hB_d.below hs hB_d.lt
                          clear hs Fwr
                          clear hc_d; have hc_d := hB_d.cell
                          repeat (first | with_reducible apply wpList_nil | with_reducible apply seq_region | with_reducible apply wp_region_lit | with_reducible apply wp_seq | ((with_reducible apply seq_q); (focus rfl); (focus (simp [go_sem, effAt, ↓IntWalk.iteOmega, *]; (try go_ints); (first | (with_reducible exact effUpon_val) | (with_reducible exact effUpon_skip)))); (focus ((simp only [Act.put, List.setIfInBounds_toArray, List.set_cons_zero, List.set_cons_succ]; rfl)))) | ((with_reducible apply seq_s); (focus rfl); (focus ((simp only [Act.put, List.setIfInBounds_toArray, List.set_cons_zero, List.set_cons_succ]; rfl)))) | with_reducible apply wp_block | with_reducible apply wp_skip | with_reducible apply wp_exit | with_reducible apply wp_ret | ((with_reducible apply wp_cond_true); (focus (first | rfl | (simp [go_sem, *]; done)))) | ((with_reducible apply wp_cond_false); (focus (first | rfl | (simp [go_sem, *]; done)))) | (simp only [Exit.then, Exit.inBlock, ↓reduceIte, Nat.reduceEqDiff]))
                          have hG2 := grown_trans hG (grown_below (by assumption : Below wr.heap.size wr w1) _)
                          clear hG
                          have hG := hG2
                          clear hG2 hc_d
                          refine hDK _ _ (Handed.intro k ?measure (hDJ _ _ _ ?_))
                          rotate_left
                          (repeat apply Exists.intro)
                          refine ⟨?rel, rfl⟩
                          case rel => exact ⟨k, by go_num, by omega, by omega, by omega, hJ, hB_d, hG⟩
                          case measure => omega
                  case pos =>
                    have hc' : (i : Int) ≤ (j0 : Int) := by omega
                    have hci : (i : Int) < (n : Int) := by have := HD.out; omega
                    obtain ⟨x, hx⟩ : ∃ x, dk[i]! = x := ⟨_, rfl⟩
                    have ei := cellsS_get pad (show i < dk.size by have := HD.out; omega) hx
                    have hL := less_any x xa
                    obtain ⟨l, hl⟩ : ∃ l, ltInt x xa = l := ⟨_, rfl⟩
                    rw [hl] at hL
                    rw [← HXA.out, ← hx] at hl
                    clear hx
                    cases l with
                    | false =>
                      rw [scanUp_end _ _ _ _ (.inr (by simp [hl]))] at hI
                      subst hI
                      clear hUJ hUK hl
                      skip
                      have Fwr : Below wr.heap.size wr wr := Below.refl _ _
                      have hc_d := hB_d.cell
                      repeat (first | with_reducible apply wpList_nil | with_reducible apply seq_region | with_reducible apply wp_region_lit | with_reducible apply wp_seq | ((with_reducible apply seq_q); (focus rfl); (focus (simp [go_sem, effAt, ↓IntWalk.iteOmega, *]; (try go_ints); (first | (with_reducible exact effUpon_val) | (with_reducible exact effUpon_skip)))); (focus ((simp only [Act.put, List.setIfInBounds_toArray, List.set_cons_zero, List.set_cons_succ]; rfl)))) | ((with_reducible apply seq_s); (focus rfl); (focus ((simp only [Act.put, List.setIfInBounds_toArray, List.set_cons_zero, List.set_cons_succ]; rfl)))) | with_reducible apply wp_block | with_reducible apply wp_skip | with_reducible apply wp_exit | with_reducible apply wp_ret | ((with_reducible apply wp_cond_true); (focus (first | rfl | (simp [go_sem, *]; done)))) | ((with_reducible apply wp_cond_false); (focus (first | rfl | (simp [go_sem, *]; done)))) | (simp only [Exit.then, Exit.inBlock, ↓reduceIte, Nat.reduceEqDiff]))
                      refine wp_region_pure (E := fun i => [12].contains i) (by kernel_rfl) (by kernel_rfl) ?_
                      repeat (first | ((with_reducible apply lex_q); (focus rfl); (focus rfl); (focus (intro w' hS; have hc_d := (hB_d.below hS hB_d.lt).cell; simp [go_sem, effAt, ↓IntWalk.iteOmega, *]; (try go_ints); (first | (with_reducible exact effUpon_val) | (with_reducible exact effUpon_skip)))); (focus ((simp only [Act.put, List.setIfInBounds_toArray, List.set_cons_zero, List.set_cons_succ]; rfl)))) | ((with_reducible apply lex_s); (focus rfl); (focus ((simp only [Act.put, List.setIfInBounds_toArray, List.set_cons_zero, List.set_cons_succ]; rfl)))))
                      ((with_reducible apply lex_e (Below wr.heap.size wr)); (focus rfl); (focus rfl); (focus (intro w' hS; simp only [effAt]; simp [go_sem]; (with_reducible exact eff_call hS (hL _)))); (focus (exact fun _ h => h)); (focus ((simp only [Act.put, List.setIfInBounds_toArray, List.set_cons_zero, List.set_cons_succ]; rfl))))
                      repeat (first | ((with_reducible apply lex_q); (focus rfl); (focus rfl); (focus (intro w' hS; have hc_d := (hB_d.below hS hB_d.lt).cell; simp [go_sem, effAt, ↓IntWalk.iteOmega, *]; (try go_ints); (first | (with_reducible exact effUpon_val) | (with_reducible exact effUpon_skip)))); (focus ((simp only [Act.put, List.setIfInBounds_toArray, List.set_cons_zero, List.set_cons_succ]; rfl)))) | ((with_reducible apply lex_s); (focus rfl); (focus ((simp only [Act.put, List.setIfInBounds_toArray, List.set_cons_zero, List.set_cons_succ]; rfl)))))
                      with_reducible apply lex_nil
                      intro w1 hs
                      have Fw1 := Fwr.trans (hs.mono Fwr.size)
                      replace hB_d := hB_d.below hs hB_d.lt
                      clear hs Fwr
                      clear hc_d; have hc_d := hB_d.cell
                      repeat (first | with_reducible apply wpList_nil | with_reducible apply seq_region | with_reducible apply wp_region_lit | with_reducible apply wp_seq | ((with_reducible apply seq_q); (focus rfl); (focus (simp [go_sem, effAt, ↓IntWalk.iteOmega, *]; (try go_ints); (first | (with_reducible exact effUpon_val) | (with_reducible exact effUpon_skip)))); (focus ((simp only [Act.put, List.setIfInBounds_toArray, List.set_cons_zero, List.set_cons_succ]; rfl)))) | ((with_reducible apply seq_s); (focus rfl); (focus ((simp only [Act.put, List.setIfInBounds_toArray, List.set_cons_zero, List.set_cons_succ]; rfl)))) | with_reducible apply wp_block | with_reducible apply wp_skip | with_reducible apply wp_exit | with_reducible apply wp_ret | ((with_reducible apply wp_cond_true); (focus (first | rfl | (simp [go_sem, *]; done)))) | ((with_reducible apply wp_cond_false); (focus (first | rfl | (simp [go_sem, *]; done)))) | (simp only [Exit.then, Exit.inBlock, ↓reduceIte, Nat.reduceEqDiff]))
                      clear hL ei
                      have hG2 := grown_trans hG (grown_below (by assumption : Below wr.heap.size wr w1) _)
                      clear hG
                      have hG := hG2
                      clear hG2 hc_d
                      have Fw1 : Below w1.heap.size w1 w1 := Below.refl _ _
                      repeat (first | with_reducible apply wpList_nil | with_reducible apply seq_region | with_reducible apply wp_region_lit | with_reducible apply wp_seq | ((with_reducible apply seq_q); (focus rfl); (focus (simp [go_sem, effAt, ↓IntWalk.iteOmega, *]; (try go_ints); (first | (with_reducible exact effUpon_val) | (with_reducible exact effUpon_skip)))); (focus ((simp only [Act.put, List.setIfInBounds_toArray, List.set_cons_zero, List.set_cons_succ]; rfl)))) | ((with_reducible apply seq_s); (focus rfl); (focus ((simp only [Act.put, List.setIfInBounds_toArray, List.set_cons_zero, List.set_cons_succ]; rfl)))) | with_reducible apply wp_block | with_reducible apply wp_skip | with_reducible apply wp_exit | with_reducible apply wp_ret | ((with_reducible apply wp_cond_true); (focus (first | rfl | (simp [go_sem, *]; done)))) | ((with_reducible apply wp_cond_false); (focus (first | rfl | (simp [go_sem, *]; done)))) | (simp only [Exit.then, Exit.inBlock, ↓reduceIte, Nat.reduceEqDiff]))
                      obtain ⟨J, hJ⟩ : ∃ J, scanDown (fun x => !ltInt x dk[a]!) dk i j0 = J := ⟨_, rfl⟩
                      have HJ0 := Lib.hid hJ
                      go_loopg [11] (j0 + 1) (fun q v11 wr => ∃ (j : Nat), v11 = .int .i64 (j : Int) ∧ j ≤ j0 ∧ i ≤ j + 2 ∧ j ≤ q ∧ scanDown (fun x => !ltInt x dk[a]!) dk i j = J ∧ SB wr g pad dk ∧ w.grownBy wr (some g))
                      case atStart => exact ⟨j0, by first | rfl | go_num, by omega, by omega, by omega, hJ, hB_d, hG⟩
                      case round =>
                        rename_i DJ DK hDJ hDK
                        clear hJ hB_d hG
                        obtain ⟨j, rfl, hj1, hj2, hj3, hJ, hB_d, hG⟩ := hrel
                        by_cases hc : i ≤ j
                        case neg =>
                          have hc' : ¬ (i : Int) ≤ (j : Int) := by omega
                          rw [scanDown_end _ _ _ _ (.inl hc)] at hJ
                          subst hJ
                          clear hDJ hDK
                          skip
                          have Fwr : Below wr.heap.size wr wr := Below.refl _ _
                          have hc_d := hB_d.cell
                          repeat (first | with_reducible apply wpList_nil | with_reducible apply seq_region | with_reducible apply wp_region_lit | with_reducible apply wp_seq | ((with_reducible apply seq_q); (focus rfl); (focus (simp [go_sem, effAt, ↓IntWalk.iteOmega, *]; (try go_ints); (first | (with_reducible exact effUpon_val) | (with_reducible exact effUpon_skip)))); (focus ((simp only [Act.put, List.setIfInBounds_toArray, List.set_cons_zero, List.set_cons_succ]; rfl)))) | ((with_reducible apply seq_s); (focus rfl); (focus ((simp only [Act.put, List.setIfInBounds_toArray, List.set_cons_zero, List.set_cons_succ]; rfl)))) | with_reducible apply wp_block | with_reducible apply wp_skip | with_reducible apply wp_exit | with_reducible apply wp_ret | ((with_reducible apply wp_cond_true); (focus (first | rfl | (simp [go_sem, *]; done)))) | ((with_reducible apply wp_cond_false); (focus (first | rfl | (simp [go_sem, *]; done)))) | (simp only [Exit.then, Exit.inBlock, ↓reduceIte, Nat.reduceEqDiff]))
                          refine wp_region_pure (E := fun i => [12].contains i) (by kernel_rfl) (by kernel_rfl) ?_
                          repeat (first | ((with_reducible apply lex_q); (focus rfl); (focus rfl); (focus (intro w' hS; have hc_d := (hB_d.below hS hB_d.lt).cell; simp [go_sem, effAt, ↓IntWalk.iteOmega, *]; (try go_ints); (first | (with_reducible exact effUpon_val) | (with_reducible exact effUpon_skip)))); (focus ((simp only [Act.put, List.setIfInBounds_toArray, List.set_cons_zero, List.set_cons_succ]; rfl)))) | ((with_reducible apply lex_s); (focus rfl); (focus ((simp only [Act.put, List.setIfInBounds_toArray, List.set_cons_zero, List.set_cons_succ]; rfl)))))
                          with_reducible apply lex_nil
                          intro w1 hs
                          have Fw1 := Fwr.trans (hs.mono Fwr.size)
                          replace hB_d := hB_d.below hs hB_d.lt
                          clear hs Fwr
                          clear hc_d; have hc_d := hB_d.cell
                          repeat (first | with_reducible apply wpList_nil | with_reducible apply seq_region | with_reducible apply wp_region_lit | with_reducible apply wp_seq | ((with_reducible apply seq_q); (focus rfl); (focus (simp [go_sem, effAt, ↓IntWalk.iteOmega, *]; (try go_ints); (first | (with_reducible exact effUpon_val) | (with_reducible exact effUpon_skip)))); (focus ((simp only [Act.put, List.setIfInBounds_toArray, List.set_cons_zero, List.set_cons_succ]; rfl)))) | ((with_reducible apply seq_s); (focus rfl); (focus ((simp only [Act.put, List.setIfInBounds_toArray, List.set_cons_zero, List.set_cons_succ]; rfl)))) | with_reducible apply wp_block | with_reducible apply wp_skip | with_reducible apply wp_exit | with_reducible apply wp_ret | ((with_reducible apply wp_cond_true); (focus (first | rfl | (simp [go_sem, *]; done)))) | ((with_reducible apply wp_cond_false); (focus (first | rfl | (simp [go_sem, *]; done)))) | (simp only [Exit.then, Exit.inBlock, ↓reduceIte, Nat.reduceEqDiff]))
                          have hG2 := grown_trans hG (grown_below (by assumption : Below wr.heap.size wr w1) _)
                          clear hG
                          have hG := hG2
                          clear hG2 hc_d
                          have hIJ : j < i := by omega
                          have hIJ' : (j : Int) < (i : Int) := by omega
                          have b8 : (j : Int) < (n : Int) := by omega
                          rw [partLoop_eq, HI0.out, HJ0.out, if_pos hIJ] at hR
                          dsimp only at hR
                          subst hR
                          clear hJ hK
                          have Fw1 : Below w1.heap.size w1 w1 := Below.refl _ _
                          obtain ⟨y1, hy1⟩ : ∃ x, dk[j]! = x := ⟨_, rfl⟩
                          have hy2 := HXA.out
                          have f1 := cellsS_get pad (show j < dk.size by have := HD.out; omega) hy1
                          have SW := Lib.hid (cellsS_swp pad (i := j) (j := a) (by have := HD.out; omega) (by have := HD.out; omega) hy1 hy2)
                          have SZ := Lib.hid (cellsS_get2 (d := dk) pad (i := j) (j := a) xa (by have := HD.out; omega) (by have := HD.out; omega))
                          clear hy1 hy2
                          have hc_d := hB_d.cell
                          repeat (first | with_reducible apply wpList_nil | with_reducible apply seq_region | with_reducible apply wp_region_lit | with_reducible apply wp_seq | ((with_reducible apply seq_q); (focus rfl); (focus (simp [go_sem, effAt, ↓IntWalk.iteOmega, *]; (try go_ints); (first | (with_reducible exact effUpon_val) | (with_reducible exact effUpon_skip)))); (focus ((simp only [Act.put, List.setIfInBounds_toArray, List.set_cons_zero, List.set_cons_succ]; rfl)))) | ((with_reducible apply seq_s); (focus rfl); (focus ((simp only [Act.put, List.setIfInBounds_toArray, List.set_cons_zero, List.set_cons_succ]; rfl)))) | with_reducible apply wp_block | with_reducible apply wp_skip | with_reducible apply wp_exit | with_reducible apply wp_ret | ((with_reducible apply wp_cond_true); (focus (first | rfl | (simp [go_sem, *]; done)))) | ((with_reducible apply wp_cond_false); (focus (first | rfl | (simp [go_sem, *]; done)))) | (simp only [Exit.then, Exit.inBlock, ↓reduceIte, Nat.reduceEqDiff]))
                          refine wp_region_effA (S := fun _ => True) (I := (· = World.drew w1)) (E := fun i => [13, 15].contains i) (A := fun i => [7, 11].contains i) (by kernel_rfl) (by kernel_rfl) rfl (fun _ _ => trivial) ?_
                          repeat (first | ((with_reducible apply lexA_q); (focus rfl); (focus rfl); (focus rfl); (focus (intro w' hS; simp [go_sem, effAt, ↓IntWalk.iteOmega, *]; (try go_ints); (first | (with_reducible exact effUpon_val) | (with_reducible exact effUpon_skip)))); (focus ((simp only [Act.put, List.setIfInBounds_toArray, List.set_cons_zero, List.set_cons_succ]; rfl)))) | ((with_reducible apply lexA_s); (focus rfl); (focus ((simp only [Act.put, List.setIfInBounds_toArray, List.set_cons_zero, List.set_cons_succ]; rfl)))) | ((with_reducible apply lexA_a); (focus rfl); (focus rfl); (focus rfl); (focus (intro w' hS; subst hS; simp [go_sem, effAt, ↓IntWalk.iteOmega, *]; (try go_ints); (first | (with_reducible exact effUpon_val) | (with_reducible exact effUpon_skip)))); (focus ((simp only [Act.put, List.setIfInBounds_toArray, List.set_cons_zero, List.set_cons_succ]; rfl)))))
                          with_reducible apply lexA_e (fun w' => Blk w' g 5 ((cellsS pad dk).setIfInBounds (j) (.int .u8 xa)) ∧ World.grownBy w1 w' (some g))
                          (focus (first | exact wanted_none rfl | exact wanted_yes rfl rfl rfl))
                          focus rfl
                          focus
                            intro w' hS
                            subst hS
                            have hf_d := hB_d.frozen
                            simp [go_sem, effAt, *]
                            exact ⟨rfl, hB_d.drew.set_ (j) _, grown_undrew (grown_set (World.grownBy.refl _ _))⟩
                          focus exact fun _ _ => trivial
                          (focus (first | (apply put_some rfl; focus (conv => lhs; dsimp only [List.set_cons_zero, List.set_cons_succ]) <;> rfl) | exact put_none rfl))
                          repeat (first | ((with_reducible apply lexA_q); (focus rfl); (focus rfl); (focus rfl); (focus (intro w' hS; simp [go_sem, effAt, ↓IntWalk.iteOmega, *]; (try go_ints); (first | (with_reducible exact effUpon_val) | (with_reducible exact effUpon_skip)))); (focus ((simp only [Act.put, List.setIfInBounds_toArray, List.set_cons_zero, List.set_cons_succ]; rfl)))) | ((with_reducible apply lexA_s); (focus rfl); (focus ((simp only [Act.put, List.setIfInBounds_toArray, List.set_cons_zero, List.set_cons_succ]; rfl)))) | ((with_reducible apply lexA_a); (focus rfl); (focus rfl); (focus rfl); (focus (intro w' hS; skip; simp [go_sem, effAt, ↓IntWalk.iteOmega, *]; (try go_ints); (first | (with_reducible exact effUpon_val) | (with_reducible exact effUpon_skip)))); (focus ((simp only [Act.put, List.setIfInBounds_toArray, List.set_cons_zero, List.set_cons_succ]; rfl)))))
                          with_reducible apply lexA_e (fun w' => SB w' g pad (swp dk (j) (a)) ∧ World.grownBy w1 w' (some g))
                          (focus (first | exact wanted_none rfl | exact wanted_yes rfl rfl rfl))
                          focus rfl
                          focus
                            rintro w' ⟨hB', hg'⟩
                            have hf_d := hB'.frozen
                            have hc_d := hB'.cell
                            obtain ⟨z, hz⟩ := SZ.out
                            simp [go_sem, effAt, *]
                            exact ⟨rfl, by have h := hB'.set_ (a) (.int .u8 y1); rw [SW.out] at h; exact h, grown_set hg'⟩
                          focus exact fun _ _ => trivial
                          (focus (first | (apply put_some rfl; focus (conv => lhs; dsimp only [List.set_cons_zero, List.set_cons_succ]) <;> rfl) | exact put_none rfl))
                          with_reducible apply lexA_nil
                          rintro w1n ⟨hB_n, hg_n⟩
                          have hG2 := grown_trans hG hg_n
                          clear hB_d hc_d hG hg_n f1
                          have hB_d := hB_n
                          have hG := hG2
                          clear hB_n hG2
                          have Fw1n : Below w1n.heap.size w1n w1n := Below.refl _ _
                          repeat (first | with_reducible apply wpList_nil | with_reducible apply seq_region | with_reducible apply wp_region_lit | with_reducible apply wp_seq | ((with_reducible apply seq_q); (focus rfl); (focus (simp [go_sem, effAt, ↓IntWalk.iteOmega, *]; (try go_ints); (first | (with_reducible exact effUpon_val) | (with_reducible exact effUpon_skip)))); (focus ((simp only [Act.put, List.setIfInBounds_toArray, List.set_cons_zero, List.set_cons_succ]; rfl)))) | ((with_reducible apply seq_s); (focus rfl); (focus ((simp only [Act.put, List.setIfInBounds_toArray, List.set_cons_zero, List.set_cons_succ]; rfl)))) | with_reducible apply wp_block | with_reducible apply wp_skip | with_reducible apply wp_exit | with_reducible apply wp_ret | ((with_reducible apply wp_cond_true); (focus (first | rfl | (simp [go_sem, *]; done)))) | ((with_reducible apply wp_cond_false); (focus (first | rfl | (simp [go_sem, *]; done)))) | (simp only [Exit.then, Exit.inBlock, ↓reduceIte, Nat.reduceEqDiff]))
                          refine bodyPost_ret (v := .tuple #[.int .i64 (j : Int), .bool false]) (by simp [results, Try.results35, go_sem, *]) rfl ⟨rfl, hB_d, hG⟩
                        case pos =>
                          have hc' : (i : Int) ≤ (j : Int) := by omega
                          have hci : (j : Int) < (n : Int) := by have := HD.out; omega
                          obtain ⟨x, hx⟩ : ∃ x, dk[j]! = x := ⟨_, rfl⟩
                          have ei := cellsS_get pad (show j < dk.size by have := HD.out; omega) hx
                          have hL := less_any x xa
                          obtain ⟨l, hl⟩ : ∃ l, ltInt x xa = l := ⟨_, rfl⟩
                          rw [hl] at hL
                          rw [← HXA.out, ← hx] at hl
                          clear hx
                          cases l with
                          | true =>
                            rw [scanDown_end _ _ _ _ (.inr (by simp [hl]))] at hJ
                            subst hJ
                            clear hDJ hDK hl
                            skip
                            have Fwr : Below wr.heap.size wr wr := Below.refl _ _
                            have hc_d := hB_d.cell
                            repeat (first | with_reducible apply wpList_nil | with_reducible apply seq_region | with_reducible apply wp_region_lit | with_reducible apply wp_seq | ((with_reducible apply seq_q); (focus rfl); (focus (simp [go_sem, effAt, ↓IntWalk.iteOmega, *]; (try go_ints); (first | (with_reducible exact effUpon_val) | (with_reducible exact effUpon_skip)))); (focus ((simp only [Act.put, List.setIfInBounds_toArray, List.set_cons_zero, List.set_cons_succ]; rfl)))) | ((with_reducible apply seq_s); (focus rfl); (focus ((simp only [Act.put, List.setIfInBounds_toArray, List.set_cons_zero, List.set_cons_succ]; rfl)))) | with_reducible apply wp_block | with_reducible apply wp_skip | with_reducible apply wp_exit | with_reducible apply wp_ret | ((with_reducible apply wp_cond_true); (focus (first | rfl | (simp [go_sem, *]; done)))) | ((with_reducible apply wp_cond_false); (focus (first | rfl | (simp [go_sem, *]; done)))) | (simp only [Exit.then, Exit.inBlock, ↓reduceIte, Nat.reduceEqDiff]))
                            refine wp_region_pure (E := fun i => [12].contains i) (by kernel_rfl) (by kernel_rfl) ?_
                            repeat (first | ((with_reducible apply lex_q); (focus rfl); (focus rfl); (focus (intro w' hS; have hc_d := (hB_d.below hS hB_d.lt).cell; simp [go_sem, effAt, ↓IntWalk.iteOmega, *]; (try go_ints); (first | (with_reducible exact effUpon_val) | (with_reducible exact effUpon_skip)))); (focus ((simp only [Act.put, List.setIfInBounds_toArray, List.set_cons_zero, List.set_cons_succ]; rfl)))) | ((with_reducible apply lex_s); (focus rfl); (focus ((simp only [Act.put, List.setIfInBounds_toArray, List.set_cons_zero, List.set_cons_succ]; rfl)))))
                            ((with_reducible apply lex_e (Below wr.heap.size wr)); (focus rfl); (focus rfl); (focus (intro w' hS; simp only [effAt]; simp [go_sem]; (with_reducible exact eff_call hS (hL _)))); (focus (exact fun _ h => h)); (focus ((simp only [Act.put, List.setIfInBounds_toArray, List.set_cons_zero, List.set_cons_succ]; rfl))))
                            repeat (first | ((with_reducible apply lex_q); (focus rfl); (focus rfl); (focus (intro w' hS; have hc_d := (hB_d.below hS hB_d.lt).cell; simp [go_sem, effAt, ↓IntWalk.iteOmega, *]; (try go_ints); (first | (with_reducible exact effUpon_val) | (with_reducible exact effUpon_skip)))); (focus ((simp only [Act.put, List.setIfInBounds_toArray, List.set_cons_zero, List.set_cons_succ]; rfl)))) | ((with_reducible apply lex_s); (focus rfl); (focus ((simp only [Act.put, List.setIfInBounds_toArray, List.set_cons_zero, List.set_cons_succ]; rfl)))))
                            with_reducible apply lex_nil
                            intro w1 hs
                            have Fw1 := Fwr.trans (hs.mono Fwr.size)
                            replace hB_d := hB_d.below hs hB_d.lt
                            clear hs Fwr
                            clear hc_d; have hc_d := hB_d.cell
                            repeat (first | with_reducible apply wpList_nil | with_reducible apply seq_region | with_reducible apply wp_region_lit | with_reducible apply wp_seq | ((with_reducible apply seq_q); (focus rfl); (focus (simp [go_sem, effAt, ↓IntWalk.iteOmega, *]; (try go_ints); (first | (with_reducible exact effUpon_val) | (with_reducible exact effUpon_skip)))); (focus ((simp only [Act.put, List.setIfInBounds_toArray, List.set_cons_zero, List.set_cons_succ]; rfl)))) | ((with_reducible apply seq_s); (focus rfl); (focus ((simp only [Act.put, List.setIfInBounds_toArray, List.set_cons_zero, List.set_cons_succ]; rfl)))) | with_reducible apply wp_block | with_reducible apply wp_skip | with_reducible apply wp_exit | with_reducible apply wp_ret | ((with_reducible apply wp_cond_true); (focus (first | rfl | (simp [go_sem, *]; done)))) | ((with_reducible apply wp_cond_false); (focus (first | rfl | (simp [go_sem, *]; done)))) | (simp only [Exit.then, Exit.inBlock, ↓reduceIte, Nat.reduceEqDiff]))
                            clear hL ei
                            have hG2 := grown_trans hG (grown_below (by assumption : Below wr.heap.size wr w1) _)
                            clear hG
                            have hG := hG2
                            clear hG2 hc_d
                            have hIJ : ¬ j < i := by omega
                            obtain ⟨k, hk⟩ : ∃ k, j - 1 = k := ⟨_, rfl⟩
                            have hkI : (j : Int) - 1 = (k : Int) := by omega
                            have hIJ' : ¬ (j : Int) < (i : Int) := by omega
                            have b7 : (i : Int) < (n : Int) := by omega
                            have b8 : (j : Int) < (n : Int) := by omega
                            rw [partLoop_eq, HI0.out, HJ0.out, if_neg hIJ, hk] at hR
                            have Fw1 : Below w1.heap.size w1 w1 := Below.refl _ _
                            obtain ⟨y1, hy1⟩ : ∃ x, dk[i]! = x := ⟨_, rfl⟩
                            obtain ⟨y2, hy2⟩ : ∃ x, dk[j]! = x := ⟨_, rfl⟩
                            have f2 := cellsS_get pad (show j < dk.size by have := HD.out; omega) hy2
                            have f1 := cellsS_get pad (show i < dk.size by have := HD.out; omega) hy1
                            have SW := Lib.hid (cellsS_swp pad (i := i) (j := j) (by have := HD.out; omega) (by have := HD.out; omega) hy1 hy2)
                            have SZ := Lib.hid (cellsS_get2 (d := dk) pad (i := i) (j := j) y2 (by have := HD.out; omega) (by have := HD.out; omega))
                            clear hy1 hy2
                            have hc_d := hB_d.cell
                            repeat (first | with_reducible apply wpList_nil | with_reducible apply seq_region | with_reducible apply wp_region_lit | with_reducible apply wp_seq | ((with_reducible apply seq_q); (focus rfl); (focus (simp [go_sem, effAt, ↓IntWalk.iteOmega, *]; (try go_ints); (first | (with_reducible exact effUpon_val) | (with_reducible exact effUpon_skip)))); (focus ((simp only [Act.put, List.setIfInBounds_toArray, List.set_cons_zero, List.set_cons_succ]; rfl)))) | ((with_reducible apply seq_s); (focus rfl); (focus ((simp only [Act.put, List.setIfInBounds_toArray, List.set_cons_zero, List.set_cons_succ]; rfl)))) | with_reducible apply wp_block | with_reducible apply wp_skip | with_reducible apply wp_exit | with_reducible apply wp_ret | ((with_reducible apply wp_cond_true); (focus (first | rfl | (simp [go_sem, *]; done)))) | ((with_reducible apply wp_cond_false); (focus (first | rfl | (simp [go_sem, *]; done)))) | (simp only [Exit.then, Exit.inBlock, ↓reduceIte, Nat.reduceEqDiff]))
                            refine wp_region_effA (S := fun _ => True) (I := (· = World.drew w1)) (E := fun i => [13, 15].contains i) (A := fun i => [7, 11].contains i) (by kernel_rfl) (by kernel_rfl) rfl (fun _ _ => trivial) ?_
                            repeat (first | ((with_reducible apply lexA_q); (focus rfl); (focus rfl); (focus rfl); (focus (intro w' hS; simp [go_sem, effAt, ↓IntWalk.iteOmega, *]; (try go_ints); (first | (with_reducible exact effUpon_val) | (with_reducible exact effUpon_skip)))); (focus ((simp only [Act.put, List.setIfInBounds_toArray, List.set_cons_zero, List.set_cons_succ]; rfl)))) | ((with_reducible apply lexA_s); (focus rfl); (focus ((simp only [Act.put, List.setIfInBounds_toArray, List.set_cons_zero, List.set_cons_succ]; rfl)))) | ((with_reducible apply lexA_a); (focus rfl); (focus rfl); (focus rfl); (focus (intro w' hS; subst hS; simp [go_sem, effAt, ↓IntWalk.iteOmega, *]; (try go_ints); (first | (with_reducible exact effUpon_val) | (with_reducible exact effUpon_skip)))); (focus ((simp only [Act.put, List.setIfInBounds_toArray, List.set_cons_zero, List.set_cons_succ]; rfl)))))
                            with_reducible apply lexA_e (fun w' => Blk w' g 5 ((cellsS pad dk).setIfInBounds (i) (.int .u8 y2)) ∧ World.grownBy w1 w' (some g))
                            (focus (first | exact wanted_none rfl | exact wanted_yes rfl rfl rfl))
                            focus rfl
                            focus
                              intro w' hS
                              subst hS
                              have hf_d := hB_d.frozen
                              simp [go_sem, effAt, *]
                              exact ⟨rfl, hB_d.drew.set_ (i) _, grown_undrew (grown_set (World.grownBy.refl _ _))⟩
                            focus exact fun _ _ => trivial
                            (focus (first | (apply put_some rfl; focus (conv => lhs; dsimp only [List.set_cons_zero, List.set_cons_succ]) <;> rfl) | exact put_none rfl))
                            repeat (first | ((with_reducible apply lexA_q); (focus rfl); (focus rfl); (focus rfl); (focus (intro w' hS; simp [go_sem, effAt, ↓IntWalk.iteOmega, *]; (try go_ints); (first | (with_reducible exact effUpon_val) | (with_reducible exact effUpon_skip)))); (focus ((simp only [Act.put, List.setIfInBounds_toArray, List.set_cons_zero, List.set_cons_succ]; rfl)))) | ((with_reducible apply lexA_s); (focus rfl); (focus ((simp only [Act.put, List.setIfInBounds_toArray, List.set_cons_zero, List.set_cons_succ]; rfl)))) | ((with_reducible apply lexA_a); (focus rfl); (focus rfl); (focus rfl); (focus (intro w' hS; skip; simp [go_sem, effAt, ↓IntWalk.iteOmega, *]; (try go_ints); (first | (with_reducible exact effUpon_val) | (with_reducible exact effUpon_skip)))); (focus ((simp only [Act.put, List.setIfInBounds_toArray, List.set_cons_zero, List.set_cons_succ]; rfl)))))
                            with_reducible apply lexA_e (fun w' => SB w' g pad (swp dk (i) (j)) ∧ World.grownBy w1 w' (some g))
                            (focus (first | exact wanted_none rfl | exact wanted_yes rfl rfl rfl))
                            focus rfl
                            focus
                              rintro w' ⟨hB', hg'⟩
                              have hf_d := hB'.frozen
                              have hc_d := hB'.cell
                              obtain ⟨z, hz⟩ := SZ.out
                              simp [go_sem, effAt, *]
                              exact ⟨rfl, by have h := hB'.set_ (j) (.int .u8 y1); rw [SW.out] at h; exact h, grown_set hg'⟩
                            focus exact fun _ _ => trivial
                            (focus (first | (apply put_some rfl; focus (conv => lhs; dsimp only [List.set_cons_zero, List.set_cons_succ]) <;> rfl) | exact put_none rfl))
                            with_reducible apply lexA_nil
                            rintro w1n ⟨hB_n, hg_n⟩
                            have hG2 := grown_trans hG hg_n
                            clear hB_d hc_d hG hg_n f1 f2
                            have hB_d := hB_n
                            have hG := hG2
                            clear hB_n hG2
                            have Fw1n : Below w1n.heap.size w1n w1n := Below.refl _ _
                            repeat (first | with_reducible apply wpList_nil | with_reducible apply seq_region | with_reducible apply wp_region_lit | with_reducible apply wp_seq | ((with_reducible apply seq_q); (focus rfl); (focus (simp [go_sem, effAt, ↓IntWalk.iteOmega, *]; (try go_ints); (first | (with_reducible exact effUpon_val) | (with_reducible exact effUpon_skip)))); (focus ((simp only [Act.put, List.setIfInBounds_toArray, List.set_cons_zero, List.set_cons_succ]; rfl)))) | ((with_reducible apply seq_s); (focus rfl); (focus ((simp only [Act.put, List.setIfInBounds_toArray, List.set_cons_zero, List.set_cons_succ]; rfl)))) | with_reducible apply wp_block | with_reducible apply wp_skip | with_reducible apply wp_exit | with_reducible apply wp_ret | ((with_reducible apply wp_cond_true); (focus (first | rfl | (simp [go_sem, *]; done)))) | ((with_reducible apply wp_cond_false); (focus (first | rfl | (simp [go_sem, *]; done)))) | (simp only [Exit.then, Exit.inBlock, ↓reduceIte, Nat.reduceEqDiff]))
                            refine hK _ _ (Handed.intro (k - i) ?measure (hJ _ _ _ ?_))
                            rotate_left
                            (repeat apply Exists.intro)
                            refine ⟨?rel, rfl⟩
                            case rel => exact ⟨i + 1, k, swp dk i j, by go_num, by go_num, by omega, by omega, by omega, by omega, by rw [swp_size]; exact HD.out, hR, hB_d, hG⟩
                            case measure => omega
                          | false =>
                            rw [scanDown_go _ _ _ _ hc (by omega) (by simp [hl])] at hJ
                            clear hl
                            obtain ⟨k, hk⟩ : ∃ k, j - 1 = k := ⟨_, rfl⟩
                            have hkI : (j : Int) - 1 = (k : Int) := by omega
                            rw [hk] at hJ
                            skip
                            have Fwr : Below wr.heap.size wr wr := Below.refl _ _
                            have hc_d := hB_d.cell
                            repeat (first | with_reducible apply wpList_nil | with_reducible apply seq_region | with_reducible apply wp_region_lit | with_reducible apply wp_seq | ((with_reducible apply seq_q); (focus rfl); (focus (simp [go_sem, effAt, ↓IntWalk.iteOmega, *]; (try go_ints); (first | (with_reducible exact effUpon_val) | (with_reducible exact effUpon_skip)))); (focus ((simp only [Act.put, List.setIfInBounds_toArray, List.set_cons_zero, List.set_cons_succ]; rfl)))) | ((with_reducible apply seq_s); (focus rfl); (focus ((simp only [Act.put, List.setIfInBounds_toArray, List.set_cons_zero, List.set_cons_succ]; rfl)))) | with_reducible apply wp_block | with_reducible apply wp_skip | with_reducible apply wp_exit | with_reducible apply wp_ret | ((with_reducible apply wp_cond_true); (focus (first | rfl | (simp [go_sem, *]; done)))) | ((with_reducible apply wp_cond_false); (focus (first | rfl | (simp [go_sem, *]; done)))) | (simp only [Exit.then, Exit.inBlock, ↓reduceIte, Nat.reduceEqDiff]))
                            refine wp_region_pure (E := fun i => [12].contains i) (by kernel_rfl) (by kernel_rfl) ?_
                            repeat (first | ((with_reducible apply lex_q); (focus rfl); (focus rfl); (focus (intro w' hS; have hc_d := (hB_d.below hS hB_d.lt).cell; simp [go_sem, effAt, ↓IntWalk.iteOmega, *]; (try go_ints); (first | (with_reducible exact effUpon_val) | (with_reducible exact effUpon_skip)))); (focus ((simp only [Act.put, List.setIfInBounds_toArray, List.set_cons_zero, List.set_cons_succ]; rfl)))) | ((with_reducible apply lex_s); (focus rfl); (focus ((simp only [Act.put, List.setIfInBounds_toArray, List.set_cons_zero, List.set_cons_succ]; rfl)))))
                            ((with_reducible apply lex_e (Below wr.heap.size wr)); (focus rfl); (focus rfl); (focus (intro w' hS; simp only [effAt]; simp [go_sem]; (with_reducible exact eff_call hS (hL _)))); (focus (exact fun _ h => h)); (focus ((simp only [Act.put, List.setIfInBounds_toArray, List.set_cons_zero, List.set_cons_succ]; rfl))))
                            repeat (first | ((with_reducible apply lex_q); (focus rfl); (focus rfl); (focus (intro w' hS; have hc_d := (hB_d.below hS hB_d.lt).cell; simp [go_sem, effAt, ↓IntWalk.iteOmega, *]; (try go_ints); (first | (with_reducible exact effUpon_val) | (with_reducible exact effUpon_skip)))); (focus ((simp only [Act.put, List.setIfInBounds_toArray, List.set_cons_zero, List.set_cons_succ]; rfl)))) | ((with_reducible apply lex_s); (focus rfl); (focus ((simp only [Act.put, List.setIfInBounds_toArray, List.set_cons_zero, List.set_cons_succ]; rfl)))))
                            with_reducible apply lex_nil
                            intro w1 hs
                            have Fw1 := Fwr.trans (hs.mono Fwr.size)
                            replace hB_d := hB_d.below hs hB_d.lt
                            clear hs Fwr
                            clear hc_d; have hc_d := hB_d.cell
                            repeat (first | with_reducible apply wpList_nil | with_reducible apply seq_region | with_reducible apply wp_region_lit | with_reducible apply wp_seq | ((with_reducible apply seq_q); (focus rfl); (focus (simp [go_sem, effAt, ↓IntWalk.iteOmega, *]; (try go_ints); (first | (with_reducible exact effUpon_val) | (with_reducible exact effUpon_skip)))); (focus ((simp only [Act.put, List.setIfInBounds_toArray, List.set_cons_zero, List.set_cons_succ]; rfl)))) | ((with_reducible apply seq_s); (focus rfl); (focus ((simp only [Act.put, List.setIfInBounds_toArray, List.set_cons_zero, List.set_cons_succ]; rfl)))) | with_reducible apply wp_block | with_reducible apply wp_skip | with_reducible apply wp_exit | with_reducible apply wp_ret | ((with_reducible apply wp_cond_true); (focus (first | rfl | (simp [go_sem, *]; done)))) | ((with_reducible apply wp_cond_false); (focus (first | rfl | (simp [go_sem, *]; done)))) | (simp only [Exit.then, Exit.inBlock, ↓reduceIte, Nat.reduceEqDiff]))
                            have hG2 := grown_trans hG (grown_below (by assumption : Below wr.heap.size wr w1) _)
                            clear hG
                            have hG := hG2
                            clear hG2 hc_d
                            refine hDK _ _ (Handed.intro k ?measure (hDJ _ _ _ ?_))
                            rotate_left
                            (repeat apply Exists.intro)
                            refine ⟨?rel, rfl⟩
                            case rel => exact ⟨k, by go_num, by omega, by omega, by omega, hJ, hB_d, hG⟩
                            case measure => omega
                    | true =>
                      rw [scanUp_go _ _ _ _ hc (by simp [hl])] at hI
                      clear hl
                      skip
                      have Fwr : Below wr.heap.size wr wr := Below.refl _ _
                      have hc_d := hB_d.cell
                      repeat (first | with_reducible apply wpList_nil | with_reducible apply seq_region | with_reducible apply wp_region_lit | with_reducible apply wp_seq | ((with_reducible apply seq_q); (focus rfl); (focus (simp [go_sem, effAt, ↓IntWalk.iteOmega, *]; (try go_ints); (first | (with_reducible exact effUpon_val) | (with_reducible exact effUpon_skip)))); (focus ((simp only [Act.put, List.setIfInBounds_toArray, List.set_cons_zero, List.set_cons_succ]; rfl)))) | ((with_reducible apply seq_s); (focus rfl); (focus ((simp only [Act.put, List.setIfInBounds_toArray, List.set_cons_zero, List.set_cons_succ]; rfl)))) | with_reducible apply wp_block | with_reducible apply wp_skip | with_reducible apply wp_exit | with_reducible apply wp_ret | ((with_reducible apply wp_cond_true); (focus (first | rfl | (simp [go_sem, *]; done)))) | ((with_reducible apply wp_cond_false); (focus (first | rfl | (simp [go_sem, *]; done)))) | (simp only [Exit.then, Exit.inBlock, ↓reduceIte, Nat.reduceEqDiff]))
                      refine wp_region_pure (E := fun i => [12].contains i) (by kernel_rfl) (by kernel_rfl) ?_
                      repeat (first | ((with_reducible apply lex_q); (focus rfl); (focus rfl); (focus (intro w' hS; have hc_d := (hB_d.below hS hB_d.lt).cell; simp [go_sem, effAt, ↓IntWalk.iteOmega, *]; (try go_ints); (first | (with_reducible exact effUpon_val) | (with_reducible exact effUpon_skip)))); (focus ((simp only [Act.put, List.setIfInBounds_toArray, List.set_cons_zero, List.set_cons_succ]; rfl)))) | ((with_reducible apply lex_s); (focus rfl); (focus ((simp only [Act.put, List.setIfInBounds_toArray, List.set_cons_zero, List.set_cons_succ]; rfl)))))
                      ((with_reducible apply lex_e (Below wr.heap.size wr)); (focus rfl); (focus rfl); (focus (intro w' hS; simp only [effAt]; simp [go_sem]; (with_reducible exact eff_call hS (hL _)))); (focus (exact fun _ h => h)); (focus ((simp only [Act.put, List.setIfInBounds_toArray, List.set_cons_zero, List.set_cons_succ]; rfl))))
                      repeat (first | ((with_reducible apply lex_q); (focus rfl); (focus rfl); (focus (intro w' hS; have hc_d := (hB_d.below hS hB_d.lt).cell; simp [go_sem, effAt, ↓IntWalk.iteOmega, *]; (try go_ints); (first | (with_reducible exact effUpon_val) | (with_reducible exact effUpon_skip)))); (focus ((simp only [Act.put, List.setIfInBounds_toArray, List.set_cons_zero, List.set_cons_succ]; rfl)))) | ((with_reducible apply lex_s); (focus rfl); (focus ((simp only [Act.put, List.setIfInBounds_toArray, List.set_cons_zero, List.set_cons_succ]; rfl)))))
                      with_reducible apply lex_nil
                      intro w1 hs
                      have Fw1 := Fwr.trans (hs.mono Fwr.size)
                      replace hB_d := hB_d.below hs hB_d.lt
                      clear hs Fwr
                      clear hc_d; have hc_d := hB_d.cell
                      repeat (first | with_reducible apply wpList_nil | with_reducible apply seq_region | with_reducible apply wp_region_lit | with_reducible apply wp_seq | ((with_reducible apply seq_q); (focus rfl); (focus (simp [go_sem, effAt, ↓IntWalk.iteOmega, *]; (try go_ints); (first | (with_reducible exact effUpon_val) | (with_reducible exact effUpon_skip)))); (focus ((simp only [Act.put, List.setIfInBounds_toArray, List.set_cons_zero, List.set_cons_succ]; rfl)))) | ((with_reducible apply seq_s); (focus rfl); (focus ((simp only [Act.put, List.setIfInBounds_toArray, List.set_cons_zero, List.set_cons_succ]; rfl)))) | with_reducible apply wp_block | with_reducible apply wp_skip | with_reducible apply wp_exit | with_reducible apply wp_ret | ((with_reducible apply wp_cond_true); (focus (first | rfl | (simp [go_sem, *]; done)))) | ((with_reducible apply wp_cond_false); (focus (first | rfl | (simp [go_sem, *]; done)))) | (simp only [Exit.then, Exit.inBlock, ↓reduceIte, Nat.reduceEqDiff]))
                      have hG2 := grown_trans hG (grown_below (by assumption : Below wr.heap.size wr w1) _)
                      clear hG
                      have hG := hG2
                      clear hG2 hc_d
                      refine hUK _ _ (Handed.intro (gk - 1) ?measure (hUJ _ _ _ ?_))
                      rotate_left
                      (repeat apply Exists.intro)
                      refine ⟨?rel, rfl⟩
                      case rel => exact ⟨i + 1, by go_num, by omega, by omega, by omega, hI, hB_d, hG⟩
                      case measure => omega
            | false =>
              rw [scanDown_go _ _ _ _ hc (by omega) (by simp [hl])] at hJ
              clear hl
              obtain ⟨k, hk⟩ : ∃ k, j - 1 = k := ⟨_, rfl⟩
              have hkI : (j : Int) - 1 = (k : Int) := by omega
              rw [hk] at hJ
              skip
              have Fwr : Below wr.heap.size wr wr := Below.refl _ _
              have hc_d := hB_d.cell
              repeat (first | with_reducible apply wpList_nil | with_reducible apply seq_region | with_reducible apply wp_region_lit | with_reducible apply wp_seq | ((with_reducible apply seq_q); (focus rfl); (focus (simp [go_sem, effAt, ↓IntWalk.iteOmega, *]; (try go_ints); (first | (with_reducible exact effUpon_val) | (with_reducible exact effUpon_skip)))); (focus ((simp only [Act.put, List.setIfInBounds_toArray, List.set_cons_zero, List.set_cons_succ]; rfl)))) | ((with_reducible apply seq_s); (focus rfl); (focus ((simp only [Act.put, List.setIfInBounds_toArray, List.set_cons_zero, List.set_cons_succ]; rfl)))) | with_reducible apply wp_block | with_reducible apply wp_skip | with_reducible apply wp_exit | with_reducible apply wp_ret | ((with_reducible apply wp_cond_true); (focus (first | rfl | (simp [go_sem, *]; done)))) | ((with_reducible apply wp_cond_false); (focus (first | rfl | (simp [go_sem, *]; done)))) | (simp only [Exit.then, Exit.inBlock, ↓reduceIte, Nat.reduceEqDiff]))
              refine wp_region_pure (E := fun i => [12].contains i) (by kernel_rfl) (by kernel_rfl) ?_
              repeat (first | ((with_reducible apply lex_q); (focus rfl); (focus rfl); (focus (intro w' hS; have hc_d := (hB_d.below hS hB_d.lt).cell; simp [go_sem, effAt, ↓IntWalk.iteOmega, *]; (try go_ints); (first | (with_reducible exact effUpon_val) | (with_reducible exact effUpon_skip)))); (focus ((simp only [Act.put, List.setIfInBounds_toArray, List.set_cons_zero, List.set_cons_succ]; rfl)))) | ((with_reducible apply lex_s); (focus rfl); (focus ((simp only [Act.put, List.setIfInBounds_toArray, List.set_cons_zero, List.set_cons_succ]; rfl)))))
              ((with_reducible apply lex_e (Below wr.heap.size wr)); (focus rfl); (focus rfl); (focus (intro w' hS; simp only [effAt]; simp [go_sem]; (with_reducible exact eff_call hS (hL _)))); (focus (exact fun _ h => h)); (focus ((simp only [Act.put, List.setIfInBounds_toArray, List.set_cons_zero, List.set_cons_succ]; rfl))))
              repeat (first | ((with_reducible apply lex_q); (focus rfl); (focus rfl); (focus (intro w' hS; have hc_d := (hB_d.below hS hB_d.lt).cell; simp [go_sem, effAt, ↓IntWalk.iteOmega, *]; (try go_ints); (first | (with_reducible exact effUpon_val) | (with_reducible exact effUpon_skip)))); (focus ((simp only [Act.put, List.setIfInBounds_toArray, List.set_cons_zero, List.set_cons_succ]; rfl)))) | ((with_reducible apply lex_s); (focus rfl); (focus ((simp only [Act.put, List.setIfInBounds_toArray, List.set_cons_zero, List.set_cons_succ]; rfl)))))
              with_reducible apply lex_nil
              intro w1 hs
              have Fw1 := Fwr.trans (hs.mono Fwr.size)
              replace hB_d := hB_d.below hs hB_d.lt
              clear hs Fwr
              clear hc_d; have hc_d := hB_d.cell
              repeat (first | with_reducible apply wpList_nil | with_reducible apply seq_region | with_reducible apply wp_region_lit | with_reducible apply wp_seq | ((with_reducible apply seq_q); (focus rfl); (focus (simp [go_sem, effAt, ↓IntWalk.iteOmega, *]; (try go_ints); (first | (with_reducible exact effUpon_val) | (with_reducible exact effUpon_skip)))); (focus ((simp only [Act.put, List.setIfInBounds_toArray, List.set_cons_zero, List.set_cons_succ]; rfl)))) | ((with_reducible apply seq_s); (focus rfl); (focus ((simp only [Act.put, List.setIfInBounds_toArray, List.set_cons_zero, List.set_cons_succ]; rfl)))) | with_reducible apply wp_block | with_reducible apply wp_skip | with_reducible apply wp_exit | with_reducible apply wp_ret | ((with_reducible apply wp_cond_true); (focus (first | rfl | (simp [go_sem, *]; done)))) | ((with_reducible apply wp_cond_false); (focus (first | rfl | (simp [go_sem, *]; done)))) | (simp only [Exit.then, Exit.inBlock, ↓reduceIte, Nat.reduceEqDiff]))
              have hG2 := grown_trans hG (grown_below (by assumption : Below wr.heap.size wr w1) _)
              clear hG
              have hG := hG2
              clear hG2 hc_d
              refine hBK _ _ (Handed.intro k ?measure (hBJ _ _ _ ?_))
              rotate_left
              (repeat apply Exists.intro)
              refine ⟨?rel, rfl⟩
              case rel => exact ⟨k, by go_num, by omega, by omega, by omega, hJ, hB_d, hG⟩
              case measure => omega
      | true =>
        rw [scanUp_go _ _ _ _ hc (by simp [hl])] at hI
        clear hl
        skip
        have Fwr : Below wr.heap.size wr wr := Below.refl _ _
        have hc_d := hB_d.cell
        repeat (first | with_reducible apply wpList_nil | with_reducible apply seq_region | with_reducible apply wp_region_lit | with_reducible apply wp_seq | ((with_reducible apply seq_q); (focus rfl); (focus (simp [go_sem, effAt, ↓IntWalk.iteOmega, *]; (try go_ints); (first | (with_reducible exact effUpon_val) | (with_reducible exact effUpon_skip)))); (focus ((simp only [Act.put, List.setIfInBounds_toArray, List.set_cons_zero, List.set_cons_succ]; rfl)))) | ((with_reducible apply seq_s); (focus rfl); (focus ((simp only [Act.put, List.setIfInBounds_toArray, List.set_cons_zero, List.set_cons_succ]; rfl)))) | with_reducible apply wp_block | with_reducible apply wp_skip | with_reducible apply wp_exit | with_reducible apply wp_ret | ((with_reducible apply wp_cond_true); (focus (first | rfl | (simp [go_sem, *]; done)))) | ((with_reducible apply wp_cond_false); (focus (first | rfl | (simp [go_sem, *]; done)))) | (simp only [Exit.then, Exit.inBlock, ↓reduceIte, Nat.reduceEqDiff]))
        refine wp_region_pure (E := fun i => [12].contains i) (by kernel_rfl) (by kernel_rfl) ?_
        repeat (first | ((with_reducible apply lex_q); (focus rfl); (focus rfl); (focus (intro w' hS; have hc_d := (hB_d.below hS hB_d.lt).cell; simp [go_sem, effAt, ↓IntWalk.iteOmega, *]; (try go_ints); (first | (with_reducible exact effUpon_val) | (with_reducible exact effUpon_skip)))); (focus ((simp only [Act.put, List.setIfInBounds_toArray, List.set_cons_zero, List.set_cons_succ]; rfl)))) | ((with_reducible apply lex_s); (focus rfl); (focus ((simp only [Act.put, List.setIfInBounds_toArray, List.set_cons_zero, List.set_cons_succ]; rfl)))))
        ((with_reducible apply lex_e (Below wr.heap.size wr)); (focus rfl); (focus rfl); (focus (intro w' hS; simp only [effAt]; simp [go_sem]; (with_reducible exact eff_call hS (hL _)))); (focus (exact fun _ h => h)); (focus ((simp only [Act.put, List.setIfInBounds_toArray, List.set_cons_zero, List.set_cons_succ]; rfl))))
        repeat (first | ((with_reducible apply lex_q); (focus rfl); (focus rfl); (focus (intro w' hS; have hc_d := (hB_d.below hS hB_d.lt).cell; simp [go_sem, effAt, ↓IntWalk.iteOmega, *]; (try go_ints); (first | (with_reducible exact effUpon_val) | (with_reducible exact effUpon_skip)))); (focus ((simp only [Act.put, List.setIfInBounds_toArray, List.set_cons_zero, List.set_cons_succ]; rfl)))) | ((with_reducible apply lex_s); (focus rfl); (focus ((simp only [Act.put, List.setIfInBounds_toArray, List.set_cons_zero, List.set_cons_succ]; rfl)))))
        with_reducible apply lex_nil
        intro w1 hs
        have Fw1 := Fwr.trans (hs.mono Fwr.size)
        replace hB_d := hB_d.below hs hB_d.lt
        clear hs Fwr
        clear hc_d; have hc_d := hB_d.cell
        repeat (first | with_reducible apply wpList_nil | with_reducible apply seq_region | with_reducible apply wp_region_lit | with_reducible apply wp_seq | ((with_reducible apply seq_q); (focus rfl); (focus (simp [go_sem, effAt, ↓IntWalk.iteOmega, *]; (try go_ints); (first | (with_reducible exact effUpon_val) | (with_reducible exact effUpon_skip)))); (focus ((simp only [Act.put, List.setIfInBounds_toArray, List.set_cons_zero, List.set_cons_succ]; rfl)))) | ((with_reducible apply seq_s); (focus rfl); (focus ((simp only [Act.put, List.setIfInBounds_toArray, List.set_cons_zero, List.set_cons_succ]; rfl)))) | with_reducible apply wp_block | with_reducible apply wp_skip | with_reducible apply wp_exit | with_reducible apply wp_ret | ((with_reducible apply wp_cond_true); (focus (first | rfl | (simp [go_sem, *]; done)))) | ((with_reducible apply wp_cond_false); (focus (first | rfl | (simp [go_sem, *]; done)))) | (simp only [Exit.then, Exit.inBlock, ↓reduceIte, Nat.reduceEqDiff]))
        have hG2 := grown_trans hG (grown_below (by assumption : Below wr.heap.size wr w1) _)
        clear hG
        have hG := hG2
        clear hG2 hc_d
        refine hAK _ _ (Handed.intro (gk - 1) ?measure (hAJ _ _ _ ?_))
        rotate_left
        (repeat apply Exists.intro)
        refine ⟨?rel, rfl⟩
        case rel => exact ⟨i + 1, by go_num, by omega, by omega, by omega, hI, hB_d, hG⟩
        case measure => omega
end Go.Proofs.Ytckjgdlceckhpaa
