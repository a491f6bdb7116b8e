/- The walks of reverseRangeOrdered[uint8], partitionEqualOrdered[uint8]. -/
import Derived.Test.YtckjgdlceckhpaaS2
set_option linter.unusedSimpArgs false
set_option linter.unusedVariables false
namespace Go.Proofs.Ytckjgdlceckhpaa
open Go.RowKit Go.Eff
open Go.Sort (swp ltInt scanUp scanDown partLoop partEqLoop partition partitionEqual partLoop_eq partEqLoop_eq reverseLoop reverseRange)
attribute [local irreducible] Go.wpList
section
variable {α : Type} [Inhabited α]
theorem scanUp_go (p : α → Bool) (d : Array α) (j i : Nat) (h : i ≤ j) (hp : p d[i]! = true) : scanUp p d j i = scanUp p d j (i + 1) := by
  rw [scanUp, if_pos (by simp [h, hp])]
theorem scanUp_end (p : α → Bool) (d : Array α) (j i : Nat) (h : ¬ i ≤ j ∨ p d[i]! = false) : scanUp p d j i = i := by
  rw [scanUp, if_neg (by rcases h with h | h <;> simp [h])]
theorem scanDown_go (p : α → Bool) (d : Array α) (i j : Nat) (h : i ≤ j) (h0 : 0 < j) (hp : p d[j]! = true) : scanDown p d i j = scanDown p d i (j - 1) := by
  cases j with
  | zero => omega
  | succ k => rw [scanDown, if_pos (by simp [h, hp])]; rfl
theorem scanDown_end (p : α → Bool) (d : Array α) (i j : Nat) (h : ¬ i ≤ j ∨ p d[j]! = false) : scanDown p d i j = j := by
  cases j with
  | zero => rfl
  | succ k => rw [scanDown, if_neg (by rcases h with h | h <;> simp [h])]
theorem reverse_go {d : Array α} {i j : Nat} (h : i < j) : reverseLoop i j d = reverseLoop (i + 1) (j - 1) (swp d i j) := by rw [reverseLoop, if_pos h]
theorem reverse_end {d : Array α} {i j : Nat} (h : ¬ i < j) : reverseLoop i j d = d := by rw [reverseLoop, if_neg h]
theorem part_eq {lt : α → α → Bool} {d D : Array α} {a b b1 pivot I J : Nat} (hD : swp d a pivot = D) (hb : b - 1 = b1) (hI : scanUp (fun x => lt x D[a]!) D b1 (a + 1) = I) (hJ : scanDown (fun x => !lt x D[a]!) D I b1 = J) :
    partition lt d a b pivot = if I > J then (J, true, swp D J a) else ((partLoop lt a (I + 1) (J - 1) (swp D I J)).1, false, swp (partLoop lt a (I + 1) (J - 1) (swp D I J)).2 (partLoop lt a (I + 1) (J - 1) (swp D I J)).1 a) := by
  subst hD hb hI hJ
  rfl
end
set_option maxRecDepth 100000 in
set_option maxHeartbeats 4000000 in
theorem rev_any (g cap a b : Nat) (pad : List Value) (d : Array Int) (w : World) (hB_d : SB w g pad d) (hab : a < b) (hb : b ≤ d.size) (hsz : d.size ≤ 1000) :
    Calls Try.prog 31 #[.slice (some ⟨g, 0, none⟩) d.size cap, .int .i64 a, .int .i64 b] w (Ret (.tuple #[]) fun w' => SB w' g pad (reverseRange d a b) ∧ w.grownBy w' (some g)) := by
  obtain ⟨R, hR⟩ : ∃ R, reverseRange d a b = R := ⟨_, rfl⟩
  rw [hR]
  unfold reverseRange at hR
  obtain ⟨n, hn⟩ : ∃ n, d.size = n := ⟨_, rfl⟩
  rw [hn] at hb hsz ⊢
  have HD := Lib.hid hn
  have hnI : (n : Int) ≤ 1000 := by omega
  have hbI : (b : Int) ≤ (n : Int) := by omega
  have haI : (a : Int) < (n : Int) := by omega
  obtain ⟨b1, hb1⟩ : ∃ b1, b - 1 = b1 := ⟨_, rfl⟩
  have hbJ : (b : Int) - 1 = (b1 : Int) := by omega
  rw [hb1] at hR
  go_enter Try.func31, Try.ntmps31
  have F0 : Below w.heap.size w w := Below.refl _ _
  repeat (first | with_reducible apply wpList_nil | with_reducible apply seq_region | with_reducible apply wp_region_lit | with_reducible apply wp_seq | ((with_reducible apply seq_q); (focus rfl); (focus (simp [go_sem, effAt, ↓IntWalk.iteOmega, *]; (try go_ints); (first | (with_reducible exact effUpon_val) | (with_reducible exact effUpon_skip)))); (focus ((simp only [Act.put, List.setIfInBounds_toArray, List.set_cons_zero, List.set_cons_succ]; rfl)))) | ((with_reducible apply seq_s); (focus rfl); (focus ((simp only [Act.put, List.setIfInBounds_toArray, List.set_cons_zero, List.set_cons_succ]; rfl)))) | with_reducible apply wp_block | with_reducible apply wp_skip | with_reducible apply wp_exit | with_reducible apply wp_ret | ((with_reducible apply wp_cond_true); (focus (first | rfl | (simp [go_sem, *]; done)))) | ((with_reducible apply wp_cond_false); (focus (first | rfl | (simp [go_sem, *]; done)))) | (simp only [Exit.then, Exit.inBlock, ↓reduceIte, Nat.reduceEqDiff]))
  go_loopg [6, 7] (b1 + 1) (fun q v6 v7 wr => ∃ (i j : Nat) (dk : Array Int), v6 = .int .i64 (i : Int) ∧ v7 = .int .i64 (j : Int) ∧ j ≤ q ∧ j < n ∧ i ≤ n ∧ dk.size = n ∧ reverseLoop i j dk = R ∧ SB wr g pad dk ∧ w.grownBy wr (some g))
  case atStart => exact ⟨a, b1, d, rfl, rfl, by omega, by omega, by omega, HD.out, hR, hB_d, World.grownBy.refl _ _⟩
  case round =>
    rename_i J K hJ hK
    clear hR F0 hB_d HD hn
    obtain ⟨i, j, dk, rfl, rfl, hjq, hjn, hin, hdk, hR, hB_d, hG⟩ := hrel
    have HD := Lib.hid hdk
    clear hdk
    by_cases hlt : i < j
    case neg =>
      have hlt' : ¬ (i : Int) < (j : Int) := by omega
      rw [reverse_end hlt] at hR
      subst hR
      clear hJ hK
      skip
      have Fwr : Below wr.heap.size wr wr := Below.refl _ _
      repeat (first | with_reducible apply wpList_nil | with_reducible apply seq_region | with_reducible apply wp_region_lit | with_reducible apply wp_seq | ((with_reducible apply seq_q); (focus rfl); (focus (simp [go_sem, effAt, ↓IntWalk.iteOmega, *]; (try go_ints); (first | (with_reducible exact effUpon_val) | (with_reducible exact effUpon_skip)))); (focus ((simp only [Act.put, List.setIfInBounds_toArray, List.set_cons_zero, List.set_cons_succ]; rfl)))) | ((with_reducible apply seq_s); (focus rfl); (focus ((simp only [Act.put, List.setIfInBounds_toArray, List.set_cons_zero, List.set_cons_succ]; rfl)))) | with_reducible apply wp_block | with_reducible apply wp_skip | with_reducible apply wp_exit | with_reducible apply wp_ret | ((with_reducible apply wp_cond_true); (focus (first | rfl | (simp [go_sem, *]; done)))) | ((with_reducible apply wp_cond_false); (focus (first | rfl | (simp [go_sem, *]; done)))) | (simp only [Exit.then, Exit.inBlock, ↓reduceIte, Nat.reduceEqDiff]))
      refine bodyPost_end (results_none rfl _ _ _) rfl ⟨rfl, hB_d, hG⟩
    case pos =>
      obtain ⟨k, rfl⟩ : ∃ k, j = k + 1 := ⟨j - 1, by omega⟩
      have hlt' : (i : Int) < (k : Int) + 1 := by omega
      have hi' : (i : Int) < (n : Int) := by omega
      have hk' : (k : Int) + 1 < (n : Int) := by omega
      rw [reverse_go hlt, Nat.add_sub_cancel] at hR
      skip
      have Fwr : Below wr.heap.size wr wr := Below.refl _ _
      obtain ⟨y1, hy1⟩ : ∃ x, dk[i]! = x := ⟨_, rfl⟩
      obtain ⟨y2, hy2⟩ : ∃ x, dk[k + 1]! = x := ⟨_, rfl⟩
      have f2 := cellsS_get pad (show k + 1 < dk.size by have := HD.out; omega) hy2
      have f1 := cellsS_get pad (show i < dk.size by have := HD.out; omega) hy1
      have SW := Lib.hid (cellsS_swp pad (i := i) (j := k + 1) (by have := HD.out; omega) (by have := HD.out; omega) hy1 hy2)
      have SZ := Lib.hid (cellsS_get2 (d := dk) pad (i := i) (j := k + 1) y2 (by have := HD.out; omega) (by have := HD.out; omega))
      clear hy1 hy2
      have hc_d := hB_d.cell
      repeat (first | with_reducible apply wpList_nil | with_reducible apply seq_region | with_reducible apply wp_region_lit | with_reducible apply wp_seq | ((with_reducible apply seq_q); (focus rfl); (focus (simp [go_sem, effAt, ↓IntWalk.iteOmega, *]; (try go_ints); (first | (with_reducible exact effUpon_val) | (with_reducible exact effUpon_skip)))); (focus ((simp only [Act.put, List.setIfInBounds_toArray, List.set_cons_zero, List.set_cons_succ]; rfl)))) | ((with_reducible apply seq_s); (focus rfl); (focus ((simp only [Act.put, List.setIfInBounds_toArray, List.set_cons_zero, List.set_cons_succ]; rfl)))) | with_reducible apply wp_block | with_reducible apply wp_skip | with_reducible apply wp_exit | with_reducible apply wp_ret | ((with_reducible apply wp_cond_true); (focus (first | rfl | (simp [go_sem, *]; done)))) | ((with_reducible apply wp_cond_false); (focus (first | rfl | (simp [go_sem, *]; done)))) | (simp only [Exit.then, Exit.inBlock, ↓reduceIte, Nat.reduceEqDiff]))
      refine wp_region_effA (S := fun _ => True) (I := (· = World.drew wr)) (E := fun i => [13, 15].contains i) (A := fun i => [7, 11].contains i) (by kernel_rfl) (by kernel_rfl) rfl (fun _ _ => trivial) ?_
      repeat (first | ((with_reducible apply lexA_q); (focus rfl); (focus rfl); (focus rfl); (focus (intro w' hS; simp [go_sem, effAt, ↓IntWalk.iteOmega, *]; (try go_ints); (first | (with_reducible exact effUpon_val) | (with_reducible exact effUpon_skip)))); (focus ((simp only [Act.put, List.setIfInBounds_toArray, List.set_cons_zero, List.set_cons_succ]; rfl)))) | ((with_reducible apply lexA_s); (focus rfl); (focus ((simp only [Act.put, List.setIfInBounds_toArray, List.set_cons_zero, List.set_cons_succ]; rfl)))) | ((with_reducible apply lexA_a); (focus rfl); (focus rfl); (focus rfl); (focus (intro w' hS; subst hS; simp [go_sem, effAt, ↓IntWalk.iteOmega, *]; (try go_ints); (first | (with_reducible exact effUpon_val) | (with_reducible exact effUpon_skip)))); (focus ((simp only [Act.put, List.setIfInBounds_toArray, List.set_cons_zero, List.set_cons_succ]; rfl)))))
      with_reducible apply lexA_e (fun w' => Blk w' g 5 ((cellsS pad dk).setIfInBounds (i) (.int .u8 y2)) ∧ World.grownBy wr w' (some g))
      (focus (first | exact wanted_none rfl | exact wanted_yes rfl rfl rfl))
      focus rfl
      focus
        intro w' hS
        subst hS
        have hf_d := hB_d.frozen
        simp [go_sem, effAt, *]
        exact ⟨rfl, hB_d.drew.set_ (i) _, grown_undrew (grown_set (World.grownBy.refl _ _))⟩
      focus exact fun _ _ => trivial
      (focus (first | (apply put_some rfl; focus (conv => lhs; dsimp only [List.set_cons_zero, List.set_cons_succ]) <;> rfl) | exact put_none rfl))
      repeat (first | ((with_reducible apply lexA_q); (focus rfl); (focus rfl); (focus rfl); (focus (intro w' hS; simp [go_sem, effAt, ↓IntWalk.iteOmega, *]; (try go_ints); (first | (with_reducible exact effUpon_val) | (with_reducible exact effUpon_skip)))); (focus ((simp only [Act.put, List.setIfInBounds_toArray, List.set_cons_zero, List.set_cons_succ]; rfl)))) | ((with_reducible apply lexA_s); (focus rfl); (focus ((simp only [Act.put, List.setIfInBounds_toArray, List.set_cons_zero, List.set_cons_succ]; rfl)))) | ((with_reducible apply lexA_a); (focus rfl); (focus rfl); (focus rfl); (focus (intro w' hS; skip; simp [go_sem, effAt, ↓IntWalk.iteOmega, *]; (try go_ints); (first | (with_reducible exact effUpon_val) | (with_reducible exact effUpon_skip)))); (focus ((simp only [Act.put, List.setIfInBounds_toArray, List.set_cons_zero, List.set_cons_succ]; rfl)))))
      with_reducible apply lexA_e (fun w' => SB w' g pad (swp dk (i) (k + 1)) ∧ World.grownBy wr w' (some g))
      (focus (first | exact wanted_none rfl | exact wanted_yes rfl rfl rfl))
      focus rfl
      focus
        rintro w' ⟨hB', hg'⟩
        have hf_d := hB'.frozen
        have hc_d := hB'.cell
        obtain ⟨z, hz⟩ := SZ.out
        simp [go_sem, effAt, *]
        exact ⟨rfl, by have h := hB'.set_ (k + 1) (.int .u8 y1); rw [SW.out] at h; exact h, grown_set hg'⟩
      focus exact fun _ _ => trivial
      (focus (first | (apply put_some rfl; focus (conv => lhs; dsimp only [List.set_cons_zero, List.set_cons_succ]) <;> rfl) | exact put_none rfl))
      with_reducible apply lexA_nil
      rintro wrn ⟨hB_n, hg_n⟩
      have hG2 := grown_trans hG hg_n
      clear hB_d hc_d hG hg_n f1 f2
      have hB_d := hB_n
      have hG := hG2
      clear hB_n hG2
      have Fwrn : Below wrn.heap.size wrn wrn := Below.refl _ _
      repeat (first | with_reducible apply wpList_nil | with_reducible apply seq_region | with_reducible apply wp_region_lit | with_reducible apply wp_seq | ((with_reducible apply seq_q); (focus rfl); (focus (simp [go_sem, effAt, ↓IntWalk.iteOmega, *]; (try go_ints); (first | (with_reducible exact effUpon_val) | (with_reducible exact effUpon_skip)))); (focus ((simp only [Act.put, List.setIfInBounds_toArray, List.set_cons_zero, List.set_cons_succ]; rfl)))) | ((with_reducible apply seq_s); (focus rfl); (focus ((simp only [Act.put, List.setIfInBounds_toArray, List.set_cons_zero, List.set_cons_succ]; rfl)))) | with_reducible apply wp_block | with_reducible apply wp_skip | with_reducible apply wp_exit | with_reducible apply wp_ret | ((with_reducible apply wp_cond_true); (focus (first | rfl | (simp [go_sem, *]; done)))) | ((with_reducible apply wp_cond_false); (focus (first | rfl | (simp [go_sem, *]; done)))) | (simp only [Exit.then, Exit.inBlock, ↓reduceIte, Nat.reduceEqDiff]))
      refine hK _ _ (Handed.intro (gk - 1) ?measure (hJ _ _ _ ?_))
      rotate_left
      (repeat apply Exists.intro)
      refine ⟨?rel, rfl⟩
      case rel => exact ⟨i + 1, k, swp dk i (k + 1), by go_num, by go_num, by omega, by omega, by omega, by rw [swp_size]; exact HD.out, hR, hB_d, hG⟩
      case measure => omega
set_option maxRecDepth 100000 in
set_option maxHeartbeats 8000000 in
theorem peq_any (g cap a b pv : Nat) (pad : List Value) (d : Array Int) (w : World) (hB_d : SB w g pad d) (hap : a ≤ pv) (hpb : pv < b) (hb : b ≤ d.size) (hsz : d.size ≤ 1000) :
    Calls Try.prog 34 #[.slice (some ⟨g, 0, none⟩) d.size cap, .int .i64 a, .int .i64 b, .int .i64 pv] w (Ret (.int .i64 (partitionEqual ltInt d a b pv).1) fun w' => SB w' g pad (partitionEqual ltInt d a b pv).2 ∧ w.grownBy w' (some g)) := by
  obtain ⟨R, hR⟩ : ∃ R, partitionEqual ltInt d a b pv = R := ⟨_, rfl⟩
  rw [hR]
  unfold partitionEqual at hR
  obtain ⟨n, hn⟩ : ∃ n, d.size = n := ⟨_, rfl⟩
  rw [hn] at hb hsz ⊢
  have HD := Lib.hid hn
  have hnI : (n : Int) ≤ 1000 := by omega
  have hbI : (b : Int) ≤ (n : Int) := by omega
  have haI : (a : Int) < (n : Int) := by omega
  have hpI : (pv : Int) < (n : Int) := by omega
  obtain ⟨b1, hb1⟩ : ∃ b1, b - 1 = b1 := ⟨_, rfl⟩
  have hbJ : (b : Int) - 1 = (b1 : Int) := by omega
  rw [hb1] at hR
  have hG : w.grownBy w (some g) := World.grownBy.refl _ _
  go_enter Try.func34, Try.ntmps34
  have F0 : Below w.heap.size w w := Below.refl _ _
  obtain ⟨y1, hy1⟩ : ∃ x, d[a]! = x := ⟨_, rfl⟩
  obtain ⟨y2, hy2⟩ : ∃ x, d[pv]! = x := ⟨_, rfl⟩
  have f2 := cellsS_get pad (show pv < d.size by have := HD.out; omega) hy2
  have f1 := cellsS_get pad (show a < d.size by have := HD.out; omega) hy1
  have SW := Lib.hid (cellsS_swp pad (i := a) (j := pv) (by have := HD.out; omega) (by have := HD.out; omega) hy1 hy2)
  have SZ := Lib.hid (cellsS_get2 (d := d) pad (i := a) (j := pv) y2 (by have := HD.out; omega) (by have := HD.out; omega))
  clear hy1 hy2
  have hc_d := hB_d.cell
  repeat (first | with_reducible apply wpList_nil | with_reducible apply seq_region | with_reducible apply wp_region_lit | with_reducible apply wp_seq | ((with_reducible apply seq_q); (focus rfl); (focus (simp [go_sem, effAt, ↓IntWalk.iteOmega, *]; (try go_ints); (first | (with_reducible exact effUpon_val) | (with_reducible exact effUpon_skip)))); (focus ((simp only [Act.put, List.setIfInBounds_toArray, List.set_cons_zero, List.set_cons_succ]; rfl)))) | ((with_reducible apply seq_s); (focus rfl); (focus ((simp only [Act.put, List.setIfInBounds_toArray, List.set_cons_zero, List.set_cons_succ]; rfl)))) | with_reducible apply wp_block | with_reducible apply wp_skip | with_reducible apply wp_exit | with_reducible apply wp_ret | ((with_reducible apply wp_cond_true); (focus (first | rfl | (simp [go_sem, *]; done)))) | ((with_reducible apply wp_cond_false); (focus (first | rfl | (simp [go_sem, *]; done)))) | (simp only [Exit.then, Exit.inBlock, ↓reduceIte, Nat.reduceEqDiff]))
  refine wp_region_effA (S := fun _ => True) (I := (· = World.drew w)) (E := fun i => [13, 15].contains i) (A := fun i => [7, 11].contains i) (by kernel_rfl) (by kernel_rfl) rfl (fun _ _ => trivial) ?_
  repeat (first | ((with_reducible apply lexA_q); (focus rfl); (focus rfl); (focus rfl); (focus (intro w' hS; simp [go_sem, effAt, ↓IntWalk.iteOmega, *]; (try go_ints); (first | (with_reducible exact effUpon_val) | (with_reducible exact effUpon_skip)))); (focus ((simp only [Act.put, List.setIfInBounds_toArray, List.set_cons_zero, List.set_cons_succ]; rfl)))) | ((with_reducible apply lexA_s); (focus rfl); (focus ((simp only [Act.put, List.setIfInBounds_toArray, List.set_cons_zero, List.set_cons_succ]; rfl)))) | ((with_reducible apply lexA_a); (focus rfl); (focus rfl); (focus rfl); (focus (intro w' hS; subst hS; simp [go_sem, effAt, ↓IntWalk.iteOmega, *]; (try go_ints); (first | (with_reducible exact effUpon_val) | (with_reducible exact effUpon_skip)))); (focus ((simp only [Act.put, List.setIfInBounds_toArray, List.set_cons_zero, List.set_cons_succ]; rfl)))))
  with_reducible apply lexA_e (fun w' => Blk w' g 5 ((cellsS pad d).setIfInBounds (a) (.int .u8 y2)) ∧ World.grownBy w w' (some g))
  (focus (first | exact wanted_none rfl | exact wanted_yes rfl rfl rfl))
  focus rfl
  focus
    intro w' hS
    subst hS
    have hf_d := hB_d.frozen
    simp [go_sem, effAt, *]
    exact ⟨rfl, hB_d.drew.set_ (a) _, grown_undrew (grown_set (World.grownBy.refl _ _))⟩
  focus exact fun _ _ => trivial
  (focus (first | (apply put_some rfl; focus (conv => lhs; dsimp only [List.set_cons_zero, List.set_cons_succ]) <;> rfl) | exact put_none rfl))
  repeat (first | ((with_reducible apply lexA_q); (focus rfl); (focus rfl); (focus rfl); (focus (intro w' hS; simp [go_sem, effAt, ↓IntWalk.iteOmega, *]; (try go_ints); (first | (with_reducible exact effUpon_val) | (with_reducible exact effUpon_skip)))); (focus ((simp only [Act.put, List.setIfInBounds_toArray, List.set_cons_zero, List.set_cons_succ]; rfl)))) | ((with_reducible apply lexA_s); (focus rfl); (focus ((simp only [Act.put, List.setIfInBounds_toArray, List.set_cons_zero, List.set_cons_succ]; rfl)))) | ((with_reducible apply lexA_a); (focus rfl); (focus rfl); (focus rfl); (focus (intro w' hS; skip; simp [go_sem, effAt, ↓IntWalk.iteOmega, *]; (try go_ints); (first | (with_reducible exact effUpon_val) | (with_reducible exact effUpon_skip)))); (focus ((simp only [Act.put, List.setIfInBounds_toArray, List.set_cons_zero, List.set_cons_succ]; rfl)))))
  with_reducible apply lexA_e (fun w' => SB w' g pad (swp d (a) (pv)) ∧ World.grownBy w w' (some g))
  (focus (first | exact wanted_none rfl | exact wanted_yes rfl rfl rfl))
  focus rfl
  focus
    rintro w' ⟨hB', hg'⟩
    have hf_d := hB'.frozen
    have hc_d := hB'.cell
    obtain ⟨z, hz⟩ := SZ.out
    simp [go_sem, effAt, *]
    exact ⟨rfl, by have h := hB'.set_ (pv) (.int .u8 y1); rw [SW.out] at h; exact h, grown_set hg'⟩
  focus exact fun _ _ => trivial
  (focus (first | (apply put_some rfl; focus (conv => lhs; dsimp only [List.set_cons_zero, List.set_cons_succ]) <;> rfl) | exact put_none rfl))
  with_reducible apply lexA_nil
  rintro wn ⟨hB_n, hg_n⟩
  have hG2 := grown_trans hG hg_n
  clear hB_d hc_d hG hg_n f1 f2
  have hB_d := hB_n
  have hG := hG2
  clear hB_n hG2
  obtain ⟨D, hDe⟩ : ∃ D, swp d a pv = D := ⟨_, rfl⟩
  rw [hDe] at hB_d hR
  have HD2 := Lib.hid (show D.size = n by rw [← hDe, swp_size]; exact HD.out)
  clear hDe HD hn SW SZ F0
  have Fwn : Below wn.heap.size wn wn := Below.refl _ _
  repeat (first | with_reducible apply wpList_nil | with_reducible apply seq_region | with_reducible apply wp_region_lit | with_reducible apply wp_seq | ((with_reducible apply seq_q); (focus rfl); (focus (simp [go_sem, effAt, ↓IntWalk.iteOmega, *]; (try go_ints); (first | (with_reducible exact effUpon_val) | (with_reducible exact effUpon_skip)))); (focus ((simp only [Act.put, List.setIfInBounds_toArray, List.set_cons_zero, List.set_cons_succ]; rfl)))) | ((with_reducible apply seq_s); (focus rfl); (focus ((simp only [Act.put, List.setIfInBounds_toArray, List.set_cons_zero, List.set_cons_succ]; rfl)))) | with_reducible apply wp_block | with_reducible apply wp_skip | with_reducible apply wp_exit | with_reducible apply wp_ret | ((with_reducible apply wp_cond_true); (focus (first | rfl | (simp [go_sem, *]; done)))) | ((with_reducible apply wp_cond_false); (focus (first | rfl | (simp [go_sem, *]; done)))) | (simp only [Exit.then, Exit.inBlock, ↓reduceIte, Nat.reduceEqDiff]))
  go_loopg [9, 10] (b + 1) (fun q v9 v10 wr => ∃ (i j : Nat) (dk : Array Int), v9 = .int .i64 (i : Int) ∧ v10 = .int .i64 (j : Int) ∧ a < i ∧ i ≤ j + 2 ∧ j < b ∧ j + 1 ≤ i + q ∧ dk.size = n ∧ partEqLoop ltInt a i j dk = R ∧ SB wr g pad dk ∧ w.grownBy wr (some g))
  case atStart => exact ⟨a + 1, b1, D, by go_num, rfl, by omega, by omega, by omega, by omega, HD2.out, hR, hB_d, hG⟩
  case round =>
    rename_i J K hJ hK
    clear hR hB_d hG HD2 Fwn
    obtain ⟨i0, j0, dk, rfl, rfl, hi0, hij0, hj0, hm0, hdk, hR, hB_d, hG⟩ := hrel
    have HD := Lib.hid hdk
    clear hdk
    obtain ⟨xa, hxa⟩ : ∃ x, dk[a]! = x := ⟨_, rfl⟩
    have ea := cellsS_get pad (show a < dk.size by have := HD.out; omega) hxa
    have HXA := Lib.hid hxa
    clear hxa
    skip
    have Fwr : Below wr.heap.size wr wr := Below.refl _ _
    repeat (first | with_reducible apply wpList_nil | with_reducible apply seq_region | with_reducible apply wp_region_lit | with_reducible apply wp_seq | ((with_reducible apply seq_q); (focus rfl); (focus (simp [go_sem, effAt, ↓IntWalk.iteOmega, *]; (try go_ints); (first | (with_reducible exact effUpon_val) | (with_reducible exact effUpon_skip)))); (focus ((simp only [Act.put, List.setIfInBounds_toArray, List.set_cons_zero, List.set_cons_succ]; rfl)))) | ((with_reducible apply seq_s); (focus rfl); (focus ((simp only [Act.put, List.setIfInBounds_toArray, List.set_cons_zero, List.set_cons_succ]; rfl)))) | with_reducible apply wp_block | with_reducible apply wp_skip | with_reducible apply wp_exit | with_reducible apply wp_ret | ((with_reducible apply wp_cond_true); (focus (first | rfl | (simp [go_sem, *]; done)))) | ((with_reducible apply wp_cond_false); (focus (first | rfl | (simp [go_sem, *]; done)))) | (simp only [Exit.then, Exit.inBlock, ↓reduceIte, Nat.reduceEqDiff]))
    obtain ⟨I, hI⟩ : ∃ I, scanUp (fun x => !ltInt dk[a]! x) dk j0 i0 = I := ⟨_, rfl⟩
    have HI0 := Lib.hid hI
    go_loopg [9] (j0 + 1) (fun q v9 wr => ∃ (i : Nat), v9 = .int .i64 (i : Int) ∧ i0 ≤ i ∧ i ≤ j0 + 2 ∧ j0 + 1 ≤ i + q ∧ scanUp (fun x => !ltInt dk[a]! x) dk j0 i = I ∧ SB wr g pad dk ∧ w.grownBy wr (some g))
    case atStart => exact ⟨i0, by first | rfl | go_num, by omega, by omega, by omega, hI, hB_d, hG⟩
    case round =>
      rename_i UJ UK hUJ hUK
      clear hI hB_d hG
      obtain ⟨i, rfl, hi1, hi2, hi3, hI, hB_d, hG⟩ := hrel
      by_cases hc : i ≤ j0
      case neg =>
        have hc' : ¬ (i : Int) ≤ (j0 : Int) := by omega
        rw [scanUp_end _ _ _ _ (.inl hc)] at hI
        subst hI
        clear hUJ hUK
        skip
        have Fwr : Below wr.heap.size wr wr := Below.refl _ _
        have hc_d := hB_d.cell
        repeat (first | with_reducible apply wpList_nil | with_reducible apply seq_region | with_reducible apply wp_region_lit | with_reducible apply wp_seq | ((with_reducible apply seq_q); (focus rfl); (focus (simp [go_sem, effAt, ↓IntWalk.iteOmega, *]; (try go_ints); (first | (with_reducible exact effUpon_val) | (with_reducible exact effUpon_skip)))); (focus ((simp only [Act.put, List.setIfInBounds_toArray, List.set_cons_zero, List.set_cons_succ]; rfl)))) | ((with_reducible apply seq_s); (focus rfl); (focus ((simp only [Act.put, List.setIfInBounds_toArray, List.set_cons_zero, List.set_cons_succ]; rfl)))) | with_reducible apply wp_block | with_reducible apply wp_skip | with_reducible apply wp_exit | with_reducible apply wp_ret | ((with_reducible apply wp_cond_true); (focus (first | rfl | (simp [go_sem, *]; done)))) | ((with_reducible apply wp_cond_false); (focus (first | rfl | (simp [go_sem, *]; done)))) | (simp only [Exit.then, Exit.inBlock, ↓reduceIte, Nat.reduceEqDiff]))
        refine wp_region_pure (E := fun i => [12].contains i) (by kernel_rfl) (by kernel_rfl) ?_
        repeat (first | ((with_reducible apply lex_q); (focus rfl); (focus rfl); (focus (intro w' hS; have hc_d := (hB_d.below hS hB_d.lt).cell; simp [go_sem, effAt, ↓IntWalk.iteOmega, *]; (try go_ints); (first | (with_reducible exact effUpon_val) | (with_reducible exact effUpon_skip)))); (focus ((simp only [Act.put, List.setIfInBounds_toArray, List.set_cons_zero, List.set_cons_succ]; rfl)))) | ((with_reducible apply lex_s); (focus rfl); (focus ((simp only [Act.put, List.setIfInBounds_toArray, List.set_cons_zero, List.set_cons_succ]; rfl)))))
        with_reducible apply lex_nil
        intro w1 hs
        have Fw1 := Fwr.trans (hs.mono Fwr.size)
        replace hB_d := hB_d.below hs hB_d.lt
        clear hs Fwr
        clear hc_d; have hc_d := hB_d.cell
        repeat (first | with_reducible apply wpList_nil | with_reducible apply seq_region | with_reducible apply wp_region_lit | with_reducible apply wp_seq | ((with_reducible apply seq_q); (focus rfl); (focus (simp [go_sem, effAt, ↓IntWalk.iteOmega, *]; (try go_ints); (first | (with_reducible exact effUpon_val) | (with_reducible exact effUpon_skip)))); (focus ((simp only [Act.put, List.setIfInBounds_toArray, List.set_cons_zero, List.set_cons_succ]; rfl)))) | ((with_reducible apply seq_s); (focus rfl); (focus ((simp only [Act.put, List.setIfInBounds_toArray, List.set_cons_zero, List.set_cons_succ]; rfl)))) | with_reducible apply wp_block | with_reducible apply wp_skip | with_reducible apply wp_exit | with_reducible apply wp_ret | ((with_reducible apply wp_cond_true); (focus (first | rfl | (simp [go_sem, *]; done)))) | ((with_reducible apply wp_cond_false); (focus (first | rfl | (simp [go_sem, *]; done)))) | (simp only [Exit.then, Exit.inBlock, ↓reduceIte, Nat.reduceEqDiff]))
        have hG2 := grown_trans hG (grown_below (by assumption : Below wr.heap.size wr w1) _)
        clear hG
        have hG := hG2
        clear hG2 hc_d
        have Fw1 : Below w1.heap.size w1 w1 := Below.refl _ _
        repeat (first | with_reducible apply wpList_nil | with_reducible apply seq_region | with_reducible apply wp_region_lit | with_reducible apply wp_seq | ((with_reducible apply seq_q); (focus rfl); (focus (simp [go_sem, effAt, ↓IntWalk.iteOmega, *]; (try go_ints); (first | (with_reducible exact effUpon_val) | (with_reducible exact effUpon_skip)))); (focus ((simp only [Act.put, List.setIfInBounds_toArray, List.set_cons_zero, List.set_cons_succ]; rfl)))) | ((with_reducible apply seq_s); (focus rfl); (focus ((simp only [Act.put, List.setIfInBounds_toArray, List.set_cons_zero, List.set_cons_succ]; rfl)))) | with_reducible apply wp_block | with_reducible apply wp_skip | with_reducible apply wp_exit | with_reducible apply wp_ret | ((with_reducible apply wp_cond_true); (focus (first | rfl | (simp [go_sem, *]; done)))) | ((with_reducible apply wp_cond_false); (focus (first | rfl | (simp [go_sem, *]; done)))) | (simp only [Exit.then, Exit.inBlock, ↓reduceIte, Nat.reduceEqDiff]))
        obtain ⟨J, hJ⟩ : ∃ J, scanDown (fun x => ltInt dk[a]! x) dk i j0 = J := ⟨_, rfl⟩
        have HJ0 := Lib.hid hJ
        go_loopg [10] (j0 + 1) (fun q v10 wr => ∃ (j : Nat), v10 = .int .i64 (j : Int) ∧ j ≤ j0 ∧ i ≤ j + 2 ∧ j ≤ q ∧ scanDown (fun x => ltInt dk[a]! x) dk i j = J ∧ SB wr g pad dk ∧ w.grownBy wr (some g))
        case atStart => exact ⟨j0, by first | rfl | go_num, by omega, by omega, by omega, hJ, hB_d, hG⟩
        case round =>
          rename_i DJ DK hDJ hDK
          clear hJ hB_d hG
          obtain ⟨j, rfl, hj1, hj2, hj3, hJ, hB_d, hG⟩ := hrel
          by_cases hc : i ≤ j
          case neg =>
            have hc' : ¬ (i : Int) ≤ (j : Int) := by omega
            rw [scanDown_end _ _ _ _ (.inl hc)] at hJ
            subst hJ
            clear hDJ hDK
            skip
            have Fwr : Below wr.heap.size wr wr := Below.refl _ _
            have hc_d := hB_d.cell
            repeat (first | with_reducible apply wpList_nil | with_reducible apply seq_region | with_reducible apply wp_region_lit | with_reducible apply wp_seq | ((with_reducible apply seq_q); (focus rfl); (focus (simp [go_sem, effAt, ↓IntWalk.iteOmega, *]; (try go_ints); (first | (with_reducible exact effUpon_val) | (with_reducible exact effUpon_skip)))); (focus ((simp only [Act.put, List.setIfInBounds_toArray, List.set_cons_zero, List.set_cons_succ]; rfl)))) | ((with_reducible apply seq_s); (focus rfl); (focus ((simp only [Act.put, List.setIfInBounds_toArray, List.set_cons_zero, List.set_cons_succ]; rfl)))) | with_reducible apply wp_block | with_reducible apply wp_skip | with_reducible apply wp_exit | with_reducible apply wp_ret | ((with_reducible apply wp_cond_true); (focus (first | rfl | (simp [go_sem, *]; done)))) | ((with_reducible apply wp_cond_false); (focus (first | rfl | (simp [go_sem, *]; done)))) | (simp only [Exit.then, Exit.inBlock, ↓reduceIte, Nat.reduceEqDiff]))
            refine wp_region_pure (E := fun i => [12].contains i) (by kernel_rfl) (by kernel_rfl) ?_
            repeat (first | ((with_reducible apply lex_q); (focus rfl); (focus rfl); (focus (intro w' hS; have hc_d := (hB_d.below hS hB_d.lt).cell; simp [go_sem, effAt, ↓IntWalk.iteOmega, *]; (try go_ints); (first | (with_reducible exact effUpon_val) | (with_reducible exact effUpon_skip)))); (focus ((simp only [Act.put, List.setIfInBounds_toArray, List.set_cons_zero, List.set_cons_succ]; rfl)))) | ((with_reducible apply lex_s); (focus rfl); (focus ((simp only [Act.put, List.setIfInBounds_toArray, List.set_cons_zero, List.set_cons_succ]; rfl)))))
            with_reducible apply lex_nil
            intro w1 hs
            have Fw1 := Fwr.trans (hs.mono Fwr.size)
            replace hB_d := hB_d.below hs hB_d.lt
            clear hs Fwr
            clear hc_d; have hc_d := hB_d.cell
            repeat (first | with_reducible apply wpList_nil | with_reducible apply seq_region | with_reducible apply wp_region_lit | with_reducible apply wp_seq | ((with_reducible apply seq_q); (focus rfl); (focus (simp [go_sem, effAt, ↓IntWalk.iteOmega, *]; (try go_ints); (first | (with_reducible exact effUpon_val) | (with_reducible exact effUpon_skip)))); (focus ((simp only [Act.put, List.setIfInBounds_toArray, List.set_cons_zero, List.set_cons_succ]; rfl)))) | ((with_reducible apply seq_s); (focus rfl); (focus ((simp only [Act.put, List.setIfInBounds_toArray, List.set_cons_zero, List.set_cons_succ]; rfl)))) | with_reducible apply wp_block | with_reducible apply wp_skip | with_reducible apply wp_exit | with_reducible apply wp_ret | ((with_reducible apply wp_cond_true); (focus (first | rfl | (simp [go_sem, *]; done)))) | ((with_reducible apply wp_cond_false); (focus (first | rfl | (simp [go_sem, *]; done)))) | (simp only [Exit.then, Exit.inBlock, ↓reduceIte, Nat.reduceEqDiff]))
            have hG2 := grown_trans hG (grown_below (by assumption : Below wr.heap.size wr w1) _)
            clear hG
            have hG := hG2
            clear hG2 hc_d
            have hIJ : j < i := by omega
            have hIJ' : (j : Int) < (i : Int) := by omega
            rw [partEqLoop_eq, HI0.out, HJ0.out, if_pos hIJ] at hR
            subst hR
            clear hJ hK
            have Fw1 : Below w1.heap.size w1 w1 := Below.refl _ _
            repeat (first | with_reducible apply wpList_nil | with_reducible apply seq_region | with_reducible apply wp_region_lit | with_reducible apply wp_seq | ((with_reducible apply seq_q); (focus rfl); (focus (simp [go_sem, effAt, ↓IntWalk.iteOmega, *]; (try go_ints); (first | (with_reducible exact effUpon_val) | (with_reducible exact effUpon_skip)))); (focus ((simp only [Act.put, List.setIfInBounds_toArray, List.set_cons_zero, List.set_cons_succ]; rfl)))) | ((with_reducible apply seq_s); (focus rfl); (focus ((simp only [Act.put, List.setIfInBounds_toArray, List.set_cons_zero, List.set_cons_succ]; rfl)))) | with_reducible apply wp_block | with_reducible apply wp_skip | with_reducible apply wp_exit | with_reducible apply wp_ret | ((with_reducible apply wp_cond_true); (focus (first | rfl | (simp [go_sem, *]; done)))) | ((with_reducible apply wp_cond_false); (focus (first | rfl | (simp [go_sem, *]; done)))) | (simp only [Exit.then, Exit.inBlock, ↓reduceIte, Nat.reduceEqDiff]))
            go_ret
            exact ⟨rfl, hB_d, hG⟩
          case pos =>
            have hc' : (i : Int) ≤ (j : Int) := by omega
            have hci : (j : Int) < (n : Int) := by have := HD.out; omega
            obtain ⟨x, hx⟩ : ∃ x, dk[j]! = x := ⟨_, rfl⟩
            have ei := cellsS_get pad (show j < dk.size by have := HD.out; omega) hx
            have hL := less_any xa x
            obtain ⟨l, hl⟩ : ∃ l, ltInt xa x = l := ⟨_, rfl⟩
            rw [hl] at hL
            rw [← HXA.out, ← hx] at hl
            clear hx
            cases l with
            | false =>
              rw [scanDown_end _ _ _ _ (.inr (by simp [hl]))] at hJ
              subst hJ
              clear hDJ hDK hl
              skip
              have Fwr : Below wr.heap.size wr wr := Below.refl _ _
              have hc_d := hB_d.cell
              repeat (first | with_reducible apply wpList_nil | with_reducible apply seq_region | with_reducible apply wp_region_lit | with_reducible apply wp_seq | ((with_reducible apply seq_q); (focus rfl); (focus (simp [go_sem, effAt, ↓IntWalk.iteOmega, *]; (try go_ints); (first | (with_reducible exact effUpon_val) | (with_reducible exact effUpon_skip)))); (focus ((simp only [Act.put, List.setIfInBounds_toArray, List.set_cons_zero, List.set_cons_succ]; rfl)))) | ((with_reducible apply seq_s); (focus rfl); (focus ((simp only [Act.put, List.setIfInBounds_toArray, List.set_cons_zero, List.set_cons_succ]; rfl)))) | with_reducible apply wp_block | with_reducible apply wp_skip | with_reducible apply wp_exit | with_reducible apply wp_ret | ((with_reducible apply wp_cond_true); (focus (first | rfl | (simp [go_sem, *]; done)))) | ((with_reducible apply wp_cond_false); (focus (first | rfl | (simp [go_sem, *]; done)))) | (simp only [Exit.then, Exit.inBlock, ↓reduceIte, Nat.reduceEqDiff]))
              refine wp_region_pure (E := fun i => [12].contains i) (by kernel_rfl) (by kernel_rfl) ?_
              repeat (first | ((with_reducible apply lex_q); (focus rfl); (focus rfl); (focus (intro w' hS; have hc_d := (hB_d.below hS hB_d.lt).cell; simp [go_sem, effAt, ↓IntWalk.iteOmega, *]; (try go_ints); (first | (with_reducible exact effUpon_val) | (with_reducible exact effUpon_skip)))); (focus ((simp only [Act.put, List.setIfInBounds_toArray, List.set_cons_zero, List.set_cons_succ]; rfl)))) | ((with_reducible apply lex_s); (focus rfl); (focus ((simp only [Act.put, List.setIfInBounds_toArray, List.set_cons_zero, List.set_cons_succ]; rfl)))))
              ((with_reducible apply lex_e (Below wr.heap.size wr)); (focus rfl); (focus rfl); (focus (intro w' hS; simp only [effAt]; simp [go_sem]; (with_reducible exact eff_call hS (hL _)))); (focus (exact fun _ h => h)); (focus ((simp only [Act.put, List.setIfInBounds_toArray, List.set_cons_zero, List.set_cons_succ]; rfl))))
              repeat (first | ((with_reducible apply lex_q); (focus rfl); (focus rfl); (focus (intro w' hS; have hc_d := (hB_d.below hS hB_d.lt).cell; simp [go_sem, effAt, ↓IntWalk.iteOmega, *]; (try go_ints); (first | (with_reducible exact effUpon_val) | (with_reducible exact effUpon_skip)))); (focus ((simp only [Act.put, List.setIfInBounds_toArray, List.set_cons_zero, List.set_cons_succ]; rfl)))) | ((with_reducible apply lex_s); (focus rfl); (focus ((simp only [Act.put, List.setIfInBounds_toArray, List.set_cons_zero, List.set_cons_succ]; rfl)))))
              with_reducible apply lex_nil
              intro w1 hs
              have Fw1 := Fwr.trans (hs.mono Fwr.size)
              replace hB_d := hB_d.below hs hB_d.lt
              clear hs Fwr
              clear hc_d; have hc_d := hB_d.cell
              repeat (first | with_reducible apply wpList_nil | with_reducible apply seq_region | with_reducible apply wp_region_lit | with_reducible apply wp_seq | ((with_reducible apply seq_q); (focus rfl); (focus (simp [go_sem, effAt, ↓IntWalk.iteOmega, *]; (try go_ints); (first | (with_reducible exact effUpon_val) | (with_reducible exact effUpon_skip)))); (focus ((simp only [Act.put, List.setIfInBounds_toArray, List.set_cons_zero, List.set_cons_succ]; rfl)))) | ((with_reducible apply seq_s); (focus rfl); (focus ((simp only [Act.put, List.setIfInBounds_toArray, List.set_cons_zero, List.set_cons_succ]; rfl)))) | with_reducible apply wp_block | with_reducible apply wp_skip | with_reducible apply wp_exit | with_reducible apply wp_ret | ((with_reducible apply wp_cond_true); (focus (first | rfl | (simp [go_sem, *]; done)))) | ((with_reducible apply wp_cond_false); (focus (first | rfl | (simp [go_sem, *]; done)))) | (simp only [Exit.then, Exit.inBlock, ↓reduceIte, Nat.reduceEqDiff]))
              clear hL ei
              have hG2 := grown_trans hG (grown_below (by assumption : Below wr.heap.size wr w1) _)
              clear hG
              have hG := hG2
              clear hG2 hc_d
              have hIJ : ¬ j < i := by omega
              obtain ⟨k, hk⟩ : ∃ k, j - 1 = k := ⟨_, rfl⟩
              have hkI : (j : Int) - 1 = (k : Int) := by omega
              have hIJ' : ¬ (j : Int) < (i : Int) := by omega
              have b7 : (i : Int) < (n : Int) := by omega
              have b8 : (j : Int) < (n : Int) := by omega
              rw [partEqLoop_eq, HI0.out, HJ0.out, if_neg hIJ, hk] at hR
              have Fw1 : Below w1.heap.size w1 w1 := Below.refl _ _
              obtain ⟨y1, hy1⟩ : ∃ x, dk[i]! = x := ⟨_, rfl⟩
              obtain ⟨y2, hy2⟩ : ∃ x, dk[j]! = x := ⟨_, rfl⟩
              have f2 := cellsS_get pad (show j < dk.size by have := HD.out; omega) hy2
              have f1 := cellsS_get pad (show i < dk.size by have := HD.out; omega) hy1
              have SW := Lib.hid (cellsS_swp pad (i := i) (j := j) (by have := HD.out; omega) (by have := HD.out; omega) hy1 hy2)
              have SZ := Lib.hid (cellsS_get2 (d := dk) pad (i := i) (j := j) y2 (by have := HD.out; omega) (by have := HD.out; omega))
              clear hy1 hy2
              have hc_d := hB_d.cell
              repeat (first | with_reducible apply wpList_nil | with_reducible apply seq_region | with_reducible apply wp_region_lit | with_reducible apply wp_seq | ((with_reducible apply seq_q); (focus rfl); (focus (simp [go_sem, effAt, ↓IntWalk.iteOmega, *]; (try go_ints); (first | (with_reducible exact effUpon_val) | (with_reducible exact effUpon_skip)))); (focus ((simp only [Act.put, List.setIfInBounds_toArray, List.set_cons_zero, List.set_cons_succ]; rfl)))) | ((with_reducible apply seq_s); (focus rfl); (focus ((simp only [Act.put, List.setIfInBounds_toArray, List.set_cons_zero, List.set_cons_succ]; rfl)))) | with_reducible apply wp_block | with_reducible apply wp_skip | with_reducible apply wp_exit | with_reducible apply wp_ret | ((with_reducible apply wp_cond_true); (focus (first | rfl | (simp [go_sem, *]; done)))) | ((with_reducible apply wp_cond_false); (focus (first | rfl | (simp [go_sem, *]; done)))) | (simp only [Exit.then, Exit.inBlock, ↓reduceIte, Nat.reduceEqDiff]))
              refine wp_region_effA (S := fun _ => True) (I := (· = World.drew w1)) (E := fun i => [13, 15].contains i) (A := fun i => [7, 11].contains i) (by kernel_rfl) (by kernel_rfl) rfl (fun _ _ => trivial) ?_
              repeat (first | ((with_reducible apply lexA_q); (focus rfl); (focus rfl); (focus rfl); (focus (intro w' hS; simp [go_sem, effAt, ↓IntWalk.iteOmega, *]; (try go_ints); (first | (with_reducible exact effUpon_val) | (with_reducible exact effUpon_skip)))); (focus ((simp only [Act.put, List.setIfInBounds_toArray, List.set_cons_zero, List.set_cons_succ]; rfl)))) | ((with_reducible apply lexA_s); (focus rfl); (focus ((simp only [Act.put, List.setIfInBounds_toArray, List.set_cons_zero, List.set_cons_succ]; rfl)))) | ((with_reducible apply lexA_a); (focus rfl); (focus rfl); (focus rfl); (focus (intro w' hS; subst hS; simp [go_sem, effAt, ↓IntWalk.iteOmega, *]; (try go_ints); (first | (with_reducible exact effUpon_val) | (with_reducible exact effUpon_skip)))); (focus ((simp only [Act.put, List.setIfInBounds_toArray, List.set_cons_zero, List.set_cons_succ]; rfl)))))
              with_reducible apply lexA_e (fun w' => Blk w' g 5 ((cellsS pad dk).setIfInBounds (i) (.int .u8 y2)) ∧ World.grownBy w1 w' (some g))
              (focus (first | exact wanted_none rfl | exact wanted_yes rfl rfl rfl))
              focus rfl
              focus
                intro w' hS
                subst hS
                have hf_d := hB_d.frozen
                simp [go_sem, effAt, *]
                exact ⟨rfl, hB_d.drew.set_ (i) _, grown_undrew (grown_set (World.grownBy.refl _ _))⟩
              focus exact fun _ _ => trivial
              (focus (first | (apply put_some rfl; focus (conv => lhs; dsimp only [List.set_cons_zero, List.set_cons_succ]) <;> rfl) | exact put_none rfl))
              repeat (first | ((with_reducible apply lexA_q); (focus rfl); (focus rfl); (focus rfl); (focus (intro w' hS; simp [go_sem, effAt, ↓IntWalk.iteOmega, *]; (try go_ints); (first | (with_reducible exact effUpon_val) | (with_reducible exact effUpon_skip)))); (focus ((simp only [Act.put, List.setIfInBounds_toArray, List.set_cons_zero, List.set_cons_succ]; rfl)))) | ((with_reducible apply lexA_s); (focus rfl); (focus ((simp only [Act.put, List.setIfInBounds_toArray, List.set_cons_zero, List.set_cons_succ]; rfl)))) | ((with_reducible apply lexA_a); (focus rfl); (focus rfl); (focus rfl); (focus (intro w' hS; skip; simp [go_sem, effAt, ↓IntWalk.iteOmega, *]; (try go_ints); (first | (with_reducible exact effUpon_val) | (with_reducible exact effUpon_skip)))); (focus ((simp only [Act.put, List.setIfInBounds_toArray, List.set_cons_zero, List.set_cons_succ]; rfl)))))
              with_reducible apply lexA_e (fun w' => SB w' g pad (swp dk (i) (j)) ∧ World.grownBy w1 w' (some g))
              (focus (first | exact wanted_none rfl | exact wanted_yes rfl rfl rfl))
              focus rfl
              focus
                rintro w' ⟨hB', hg'⟩
                have hf_d := hB'.frozen
                have hc_d := hB'.cell
                obtain ⟨z, hz⟩ := SZ.out
                simp [go_sem, effAt, *]
                exact ⟨rfl, by have h := hB'.set_ (j) (.int .u8 y1); rw [SW.out] at h; exact h, grown_set hg'⟩
              focus exact fun _ _ => trivial
              (focus (first | (apply put_some rfl; focus (conv => lhs; dsimp only [List.set_cons_zero, List.set_cons_succ]) <;> rfl) | exact put_none rfl))
              with_reducible apply lexA_nil
              rintro w1n ⟨hB_n, hg_n⟩
              have hG2 := grown_trans hG hg_n
              clear hB_d hc_d hG hg_n f1 f2
              have hB_d := hB_n
              have hG := hG2
              clear hB_n hG2
              have Fw1n : Below w1n.heap.size w1n w1n := Below.refl _ _
              repeat (first | with_reducible apply wpList_nil | with_reducible apply seq_region | with_reducible apply wp_region_lit | with_reducible apply wp_seq | ((with_reducible apply seq_q); (focus rfl); (focus (simp [go_sem, effAt, ↓IntWalk.iteOmega, *]; (try go_ints); (first | (with_reducible exact effUpon_val) | (with_reducible exact effUpon_skip)))); (focus ((simp only [Act.put, List.setIfInBounds_toArray, List.set_cons_zero, List.set_cons_succ]; rfl)))) | ((with_reducible apply seq_s); (focus rfl); (focus ((simp only [Act.put, List.setIfInBounds_toArray, List.set_cons_zero, List.set_cons_succ]; rfl)))) | with_reducible apply wp_block | with_reducible apply wp_skip | with_reducible apply wp_exit | with_reducible apply wp_ret | ((with_reducible apply wp_cond_true); (focus (first | rfl | (simp [go_sem, *]; done)))) | ((with_reducible apply wp_cond_false); (focus (first | rfl | (simp [go_sem, *]; done)))) | (simp only [Exit.then, Exit.inBlock, ↓reduceIte, Nat.reduceEqDiff]))
              refine hK _ _ (Handed.intro (k - i) ?measure (hJ _ _ _ ?_))
              rotate_left
              (repeat apply Exists.intro)
              refine ⟨?rel, rfl⟩
              case rel => exact ⟨i + 1, k, swp dk i j, by go_num, by go_num, by omega, by omega, by omega, by omega, by rw [swp_size]; exact HD.out, hR, hB_d, hG⟩
              case measure => omega
            | true =>
              rw [scanDown_go _ _ _ _ hc (by omega) (by simp [hl])] at hJ
              clear hl
              obtain ⟨k, hk⟩ : ∃ k, j - 1 = k := ⟨_, rfl⟩
              have hkI : (j : Int) - 1 = (k : Int) := by omega
              rw [hk] at hJ
              skip
              have Fwr : Below wr.heap.size wr wr := Below.refl _ _
              have hc_d := hB_d.cell
              repeat (first | with_reducible apply wpList_nil | with_reducible apply seq_region | with_reducible apply wp_region_lit | with_reducible apply wp_seq | ((with_reducible apply seq_q); (focus rfl); (focus (simp [go_sem, effAt, ↓IntWalk.iteOmega, *]; (try go_ints); (first | (with_reducible exact effUpon_val) | (with_reducible exact effUpon_skip)))); (focus ((simp only [Act.put, List.setIfInBounds_toArray, List.set_cons_zero, List.set_cons_succ]; rfl)))) | ((with_reducible apply seq_s); (focus rfl); (focus ((simp only [Act.put, List.setIfInBounds_toArray, List.set_cons_zero, List.set_cons_succ]; rfl)))) | with_reducible apply wp_block | with_reducible apply wp_skip | with_reducible apply wp_exit | with_reducible apply wp_ret | ((with_reducible apply wp_cond_true); (focus (first | rfl | (simp [go_sem, *]; done)))) | ((with_reducible apply wp_cond_false); (focus (first | rfl | (simp [go_sem, *]; done)))) | (simp only [Exit.then, Exit.inBlock, ↓reduceIte, Nat.reduceEqDiff]))
              refine wp_region_pure (E := fun i => [12].contains i) (by kernel_rfl) (by kernel_rfl) ?_
              repeat (first | ((with_reducible apply lex_q); (focus rfl); (focus rfl); (focus (intro w' hS; have hc_d := (hB_d.below hS hB_d.lt).cell; simp [go_sem, effAt, ↓IntWalk.iteOmega, *]; (try go_ints); (first | (with_reducible exact effUpon_val) | (with_reducible exact effUpon_skip)))); (focus ((simp only [Act.put, List.setIfInBounds_toArray, List.set_cons_zero, List.set_cons_succ]; rfl)))) | ((with_reducible apply lex_s); (focus rfl); (focus ((simp only [Act.put, List.setIfInBounds_toArray, List.set_cons_zero, List.set_cons_succ]; rfl)))))
              ((with_reducible apply lex_e (Below wr.heap.size wr)); (focus rfl); (focus rfl); (focus (intro w' hS; simp only [effAt]; simp [go_sem]; (with_reducible exact eff_call hS (hL _)))); (focus (exact fun _ h => h)); (focus ((simp only [Act.put, List.setIfInBounds_toArray, List.set_cons_zero, List.set_cons_succ]; rfl))))
              repeat (first | ((with_reducible apply lex_q); (focus rfl); (focus rfl); (focus (intro w' hS; have hc_d := (hB_d.below hS hB_d.lt).cell; simp [go_sem, effAt, ↓IntWalk.iteOmega, *]; (try go_ints); (first | (with_reducible exact effUpon_val) | (with_reducible exact effUpon_skip)))); (focus ((simp only [Act.put, List.setIfInBounds_toArray, List.set_cons_zero, List.set_cons_succ]; rfl)))) | ((with_reducible apply lex_s); (focus rfl); (focus ((simp only [Act.put, List.setIfInBounds_toArray, List.set_cons_zero, List.set_cons_succ]; rfl)))))
              with_reducible apply lex_nil
              intro w1 hs
              have Fw1 := Fwr.trans (hs.mono Fwr.size)
              replace hB_d := hB_d.below hs hB_d.lt
              clear hs Fwr
              clear hc_d; have hc_d := hB_d.cell
              repeat (first | with_reducible apply wpList_nil | with_reducible apply seq_region | with_reducible apply wp_region_lit | with_reducible apply wp_seq | ((with_reducible apply seq_q); (focus rfl); (focus (simp [go_sem, effAt, ↓IntWalk.iteOmega, *]; (try go_ints); (first | (with_reducible exact effUpon_val) | (with_reducible exact effUpon_skip)))); (focus ((simp only [Act.put, List.setIfInBounds_toArray, List.set_cons_zero, List.set_cons_succ]; rfl)))) | ((with_reducible apply seq_s); (focus rfl); (focus ((simp only [Act.put, List.setIfInBounds_toArray, List.set_cons_zero, List.set_cons_succ]; rfl)))) | with_reducible apply wp_block | with_reducible apply wp_skip | with_reducible apply wp_exit | with_reducible apply wp_ret | ((with_reducible apply wp_cond_true); (focus (first | rfl | (simp [go_sem, *]; done)))) | ((with_reducible apply wp_cond_false); (focus (first | rfl | (simp [go_sem, *]; done)))) | (simp only [Exit.then, Exit.inBlock, ↓reduceIte, Nat.reduceEqDiff]))
              have hG2 := grown_trans hG (grown_below (by assumption : Below wr.heap.size wr w1) _)
              clear hG
              have hG := hG2
              clear hG2 hc_d
              refine hDK _ _ (Handed.intro k ?measure (hDJ _ _ _ ?_))
              rotate_left
              (repeat apply Exists.intro)
              refine ⟨?rel, rfl⟩
              case rel => exact ⟨k, by go_num, by omega, by omega, by omega, hJ, hB_d, hG⟩
              case measure => omega
      case pos =>
        have hc' : (i : Int) ≤ (j0 : Int) := by omega
        have hci : (i : Int) < (n : Int) := by have := HD.out; omega
        obtain ⟨x, hx⟩ : ∃ x, dk[i]! = x := ⟨_, rfl⟩
        have ei := cellsS_get pad (show i < dk.size by have := HD.out; omega) hx
        have hL := less_any xa x
        obtain ⟨l, hl⟩ : ∃ l, ltInt xa x = l := ⟨_, rfl⟩
        rw [hl] at hL
        rw [← HXA.out, ← hx] at hl
        clear hx
        cases l with
        | true =>
          rw [scanUp_end _ _ _ _ (.inr (by simp [hl]))] at hI
          subst hI
          clear hUJ hUK hl
          skip
          have Fwr : Below wr.heap.size wr wr := Below.refl _ _
          have hc_d := hB_d.cell
          repeat (first | with_reducible apply wpList_nil | with_reducible apply seq_region | with_reducible apply wp_region_lit | with_reducible apply wp_seq | ((with_reducible apply seq_q); (focus rfl); (focus (simp [go_sem, effAt, ↓IntWalk.iteOmega, *]; (try go_ints); (first | (with_reducible exact effUpon_val) | (with_reducible exact effUpon_skip)))); (focus ((simp only [Act.put, List.setIfInBounds_toArray, List.set_cons_zero, List.set_cons_succ]; rfl)))) | ((with_reducible apply seq_s); (focus rfl); (focus ((simp only [Act.put, List.setIfInBounds_toArray, List.set_cons_zero, List.set_cons_succ]; rfl)))) | with_reducible apply wp_block | with_reducible apply wp_skip | with_reducible apply wp_exit | with_reducible apply wp_ret | ((with_reducible apply wp_cond_true); (focus (first | rfl | (simp [go_sem, *]; done)))) | ((with_reducible apply wp_cond_false); (focus (first | rfl | (simp [go_sem, *]; done)))) | (simp only [Exit.then, Exit.inBlock, ↓reduceIte, Nat.reduceEqDiff]))
          refine wp_region_pure (E := fun i => [12].contains i) (by kernel_rfl) (by kernel_rfl) ?_
          repeat (first | ((with_reducible apply lex_q); (focus rfl); (focus rfl); (focus (intro w' hS; have hc_d := (hB_d.below hS hB_d.lt).cell; simp [go_sem, effAt, ↓IntWalk.iteOmega, *]; (try go_ints); (first | (with_reducible exact effUpon_val) | (with_reducible exact effUpon_skip)))); (focus ((simp only [Act.put, List.setIfInBounds_toArray, List.set_cons_zero, List.set_cons_succ]; rfl)))) | ((with_reducible apply lex_s); (focus rfl); (focus ((simp only [Act.put, List.setIfInBounds_toArray, List.set_cons_zero, List.set_cons_succ]; rfl)))))
          ((with_reducible apply lex_e (Below wr.heap.size wr)); (focus rfl); (focus rfl); (focus (intro w' hS; simp only [effAt]; simp [go_sem]; (with_reducible exact eff_call hS (hL _)))); (focus (exact fun _ h => h)); (focus ((simp only [Act.put, List.setIfInBounds_toArray, List.set_cons_zero, List.set_cons_succ]; rfl))))
          repeat (first | ((with_reducible apply lex_q); (focus rfl); (focus rfl); (focus (intro w' hS; have hc_d := (hB_d.below hS hB_d.lt).cell; simp [go_sem, effAt, ↓IntWalk.iteOmega, *]; (try go_ints); (first | (with_reducible exact effUpon_val) | (with_reducible exact effUpon_skip)))); (focus ((simp only [Act.put, List.setIfInBounds_toArray, List.set_cons_zero, List.set_cons_succ]; rfl)))) | ((with_reducible apply lex_s); (focus rfl); (focus ((simp only [Act.put, List.setIfInBounds_toArray, List.set_cons_zero, List.set_cons_succ]; rfl)))))
          with_reducible apply lex_nil
          intro w1 hs
          have Fw1 := Fwr.trans (hs.mono Fwr.size)
          replace hB_d := hB_d.below hs hB_d.lt
          clear hs Fwr
          clear hc_d; have hc_d := hB_d.cell
          repeat (first | with_reducible apply wpList_nil | with_reducible apply seq_region | with_reducible apply wp_region_lit | with_reducible apply wp_seq | ((with_reducible apply seq_q); (focus rfl); (focus (simp [go_sem, effAt, ↓IntWalk.iteOmega, *]; (try go_ints); (first | (with_reducible exact effUpon_val) | (with_reducible exact effUpon_skip)))); (focus ((simp only [Act.put, List.setIfInBounds_toArray, List.set_cons_zero, List.set_cons_succ]; rfl)))) | ((with_reducible apply seq_s); (focus rfl); (focus ((simp only [Act.put, List.setIfInBounds_toArray, List.set_cons_zero, List.set_cons_succ]; rfl)))) | with_reducible apply wp_block | with_reducible apply wp_skip | with_reducible apply wp_exit | with_reducible apply wp_ret | ((with_reducible apply wp_cond_true); (focus (first | rfl | (simp [go_sem, *]; done)))) | ((with_reducible apply wp_cond_false); (focus (first | rfl | (simp [go_sem, *]; done)))) | (simp only [Exit.then, Exit.inBlock, ↓reduceIte, Nat.reduceEqDiff]))
          clear hL ei
          have hG2 := grown_trans hG (grown_below (by assumption : Below wr.heap.size wr w1) _)
          clear hG
          have hG := hG2
          clear hG2 hc_d
          have Fw1 : Below w1.heap.size w1 w1 := Below.refl _ _
          repeat (first | with_reducible apply wpList_nil | with_reducible apply seq_region | with_reducible apply wp_region_lit | with_reducible apply wp_seq | ((with_reducible apply seq_q); (focus rfl); (focus (simp [go_sem, effAt, ↓IntWalk.iteOmega, *]; (try go_ints); (first | (with_reducible exact effUpon_val) | (with_reducible exact effUpon_skip)))); (focus ((simp only [Act.put, List.setIfInBounds_toArray, List.set_cons_zero, List.set_cons_succ]; rfl)))) | ((with_reducible apply seq_s); (focus rfl); (focus ((simp only [Act.put, List.setIfInBounds_toArray, List.set_cons_zero, List.set_cons_succ]; rfl)))) | with_reducible apply wp_block | with_reducible apply wp_skip | with_reducible apply wp_exit | with_reducible apply wp_ret | ((with_reducible apply wp_cond_true); (focus (first | rfl | (simp [go_sem, *]; done)))) | ((with_reducible apply wp_cond_false); (focus (first | rfl | (simp [go_sem, *]; done)))) | (simp only [Exit.then, Exit.inBlock, ↓reduceIte, Nat.reduceEqDiff]))
          obtain ⟨J, hJ⟩ : ∃ J, scanDown (fun x => ltInt dk[a]! x) dk i j0 = J := ⟨_, rfl⟩
          have HJ0 := Lib.hid hJ
          go_loopg [10] (j0 + 1) (fun q v10 wr => ∃ (j : Nat), v10 = .int .i64 (j : Int) ∧ j ≤ j0 ∧ i ≤ j + 2 ∧ j ≤ q ∧ scanDown (fun x => ltInt dk[a]! x) dk i j = J ∧ SB wr g pad dk ∧ w.grownBy wr (some g))
          case atStart => exact ⟨j0, by first | rfl | go_num, by omega, by omega, by omega, hJ, hB_d, hG⟩
          case round =>
            rename_i DJ DK hDJ hDK
            clear hJ hB_d hG
            obtain ⟨j, rfl, hj1, hj2, hj3, hJ, hB_d, hG⟩ := hrel
            by_cases hc : i ≤ j
            case neg =>
              have hc' : ¬ (i : Int) ≤ (j : Int) := by omega
              rw [scanDown_end _ _ _ _ (.inl hc)] at hJ
              subst hJ
              clear hDJ hDK
              skip
              have Fwr : Below wr.heap.size wr wr := Below.refl _ _
              have hc_d := hB_d.cell
              repeat (first | with_reducible apply wpList_nil | with_reducible apply seq_region | with_reducible apply wp_region_lit | with_reducible apply wp_seq | ((with_reducible apply seq_q); (focus rfl); (focus (simp [go_sem, effAt, ↓IntWalk.iteOmega, *]; (try go_ints); (first | (with_reducible exact effUpon_val) | (with_reducible exact effUpon_skip)))); (focus ((simp only [Act.put, List.setIfInBounds_toArray, List.set_cons_zero, List.set_cons_succ]; rfl)))) | ((with_reducible apply seq_s); (focus rfl); (focus ((simp only [Act.put, List.setIfInBounds_toArray, List.set_cons_zero, List.set_cons_succ]; rfl)))) | with_reducible apply wp_block | with_reducible apply wp_skip | with_reducible apply wp_exit | with_reducible apply wp_ret | ((with_reducible apply wp_cond_true); (focus (first | rfl | (simp [go_sem, *]; done)))) | ((with_reducible apply wp_cond_false); (focus (first | rfl | (simp [go_sem, *]; done)))) | (simp only [Exit.then, Exit.inBlock, ↓reduceIte, Nat.reduceEqDiff]))
              refine wp_region_pure (E := fun i => [12].contains i) (by kernel_rfl) (by kernel_rfl) ?_
              repeat (first | ((with_reducible apply lex_q); (focus rfl); (focus rfl); (focus (intro w' hS; have hc_d := (hB_d.below hS hB_d.lt).cell; simp [go_sem, effAt, ↓IntWalk.iteOmega, *]; (try go_ints); (first | (with_reducible exact effUpon_val) | (with_reducible exact effUpon_skip)))); (focus ((simp only [Act.put, List.setIfInBounds_toArray, List.set_cons_zero, List.set_cons_succ]; rfl)))) | ((with_reducible apply lex_s); (focus rfl); (focus ((simp only [Act.put, List.setIfInBounds_toArray, List.set_cons_zero, List.set_cons_succ]; rfl)))))
              with_reducible apply lex_nil
              intro w1 hs
              have Fw1 := Fwr.trans (hs.mono Fwr.size)
              replace hB_d := hB_d.below hs hB_d.lt
              clear hs Fwr
              clear hc_d; have hc_d := hB_d.cell
              repeat (first | with_reducible apply wpList_nil | with_reducible apply seq_region | with_reducible apply wp_region_lit | with_reducible apply wp_seq | ((with_reducible apply seq_q); (focus rfl); (focus (simp [go_sem, effAt, ↓IntWalk.iteOmega, *]; (try go_ints); (first | (with_reducible exact effUpon_val) | (with_reducible exact effUpon_skip)))); (focus ((simp only [Act.put, List.setIfInBounds_toArray, List.set_cons_zero, List.set_cons_succ]; rfl)))) | ((with_reducible apply seq_s); (focus rfl); (focus ((simp only [Act.put, List.setIfInBounds_toArray, List.set_cons_zero, List.set_cons_succ]; rfl)))) | with_reducible apply wp_block | with_reducible apply wp_skip | with_reducible apply wp_exit | with_reducible apply wp_ret | ((with_reducible apply wp_cond_true); (focus (first | rfl | (simp [go_sem, *]; done)))) | ((with_reducible apply wp_cond_false); (focus (first | rfl | (simp [go_sem, *]; done)))) | (simp only [Exit.then, Exit.inBlock, ↓reduceIte, Nat.reduceEqDiff]))
              have hG2 := grown_trans hG (grown_below (by assumption : Below wr.heap.size wr w1) _)
              clear hG
              have hG := hG2
              clear hG2 hc_d
              have hIJ : j < i := by omega
              have hIJ' : (j : Int) < (i : Int) := by omega
              rw [partEqLoop_eq, HI0.out, HJ0.out, if_pos hIJ] at hR
              subst hR
              clear hJ hK
              have Fw1 : Below w1.heap.size w1 w1 := Below.refl _ _
              repeat (first | with_reducible apply wpList_nil | with_reducible apply seq_region | with_reducible apply wp_region_lit | with_reducible apply wp_seq | ((with_reducible apply seq_q); (focus rfl); (focus (simp [go_sem, effAt, ↓IntWalk.iteOmega, *]; (try go_ints); (first | (with_reducible exact effUpon_val) | (with_reducible exact effUpon_skip)))); (focus ((simp only [Act.put, List.setIfInBounds_toArray, List.set_cons_zero, List.set_cons_succ]; rfl)))) | ((with_reducible apply seq_s); (focus rfl); (focus ((simp only [Act.put, List.setIfInBounds_toArray, List.set_cons_zero, List.set_cons_succ]; rfl)))) | with_reducible apply wp_block | with_reducible apply wp_skip | with_reducible apply wp_exit | with_reducible apply wp_ret | ((with_reducible apply wp_cond_true); (focus (first | rfl | (simp [go_sem, *]; done)))) | ((with_reducible apply wp_cond_false); (focus (first | rfl | (simp [go_sem, *]; done)))) | (simp only [Exit.then, Exit.inBlock, ↓reduceIte, Nat.reduceEqDiff]))
              go_ret
              exact ⟨rfl, hB_d, hG⟩
            case pos =>
              have hc' : (i : Int) ≤ (j : Int) := by omega
              have hci : (j : Int) < (n : Int) := by have := HD.out; omega
              obtain ⟨x, hx⟩ : ∃ x, dk[j]! = x := ⟨_, rfl⟩
              have ei := cellsS_get pad (show j < dk.size by have := HD.out; omega) hx
              have hL := less_any xa x
              obtain ⟨l, hl⟩ : ∃ l, ltInt xa x = l := ⟨_, rfl⟩
              rw [hl] at hL
              rw [← HXA.out, ← hx] at hl
              clear hx
              cases l with
              | false =>
                rw [scanDown_end _ _ _ _ (.inr (by simp [hl]))] at hJ
                subst hJ
                clear hDJ hDK hl
                skip
                have Fwr : Below wr.heap.size wr wr := Below.refl _ _
                have hc_d := hB_d.cell
                repeat (first | with_reducible apply wpList_nil | with_reducible apply seq_region | with_reducible apply wp_region_lit | with_reducible apply wp_seq | ((with_reducible apply seq_q); (focus rfl); (focus (simp [go_sem, effAt, ↓IntWalk.iteOmega, *]; (try go_ints); (first | (with_reducible exact effUpon_val) | (with_reducible exact effUpon_skip)))); (focus ((simp only [Act.put, List.setIfInBounds_toArray, List.set_cons_zero, List.set_cons_succ]; rfl)))) | ((with_reducible apply seq_s); (focus rfl); (focus ((simp only [Act.put, List.setIfInBounds_toArray, List.set_cons_zero, List.set_cons_succ]; rfl)))) | with_reducible apply wp_block | with_reducible apply wp_skip | with_reducible apply wp_exit | with_reducible apply wp_ret | ((with_reducible apply wp_cond_true); (focus (first | rfl | (simp [go_sem, *]; done)))) | ((with_reducible apply wp_cond_false); (focus (first | rfl | (simp [go_sem, *]; done)))) | (simp only [Exit.then, Exit.inBlock, ↓reduceIte, Nat.reduceEqDiff]))
                refine wp_region_pure (E := fun i => [12].contains i) (by kernel_rfl) (by kernel_rfl) ?_
                repeat (first | ((with_reducible apply lex_q); (focus rfl); (focus rfl); (focus (intro w' hS; have hc_d := (hB_d.below hS hB_d.lt).cell; simp [go_sem, effAt, ↓IntWalk.iteOmega, *]; (try go_ints); (first | (with_reducible exact effUpon_val) | (with_reducible exact effUpon_skip)))); (focus ((simp only [Act.put, List.setIfInBounds_toArray, List.set_cons_zero, List.set_cons_succ]; rfl)))) | ((with_reducible apply lex_s); (focus rfl); (focus ((simp only [Act.put, List.setIfInBounds_toArray, List.set_cons_zero, List.set_cons_succ]; rfl)))))
                ((with_reducible apply lex_e (Below wr.heap.size wr)); (focus rfl); (focus rfl); (focus (intro w' hS; simp only [effAt]; simp [go_sem]; (with_reducible exact eff_call hS (hL _)))); (focus (exact fun _ h => h)); (focus ((simp only [Act.put, List.setIfInBounds_toArray, List.set_cons_zero, List.set_cons_succ]; rfl))))
                repeat (first | ((with_reducible apply lex_q); (focus rfl); (focus rfl); (focus (intro w' hS; have hc_d := (hB_d.below hS hB_d.lt).cell; simp [go_sem, effAt, ↓IntWalk.iteOmega, *]; (try go_ints); (first | (with_reducible exact effUpon_val) | (with_reducible exact effUpon_skip)))); (focus ((simp only [Act.put, List.setIfInBounds_toArray, List.set_cons_zero, List.set_cons_succ]; rfl)))) | ((with_reducible apply lex_s); (focus rfl); (focus ((simp only [Act.put, List.setIfInBounds_toArray, List.set_cons_zero, List.set_cons_succ]; rfl)))))
                with_reducible apply lex_nil
                intro w1 hs
                have Fw1 := Fwr.trans (hs.mono Fwr.size)
                replace hB_d := hB_d.below hs hB_d.lt
                clear hs Fwr
                clear hc_d; have hc_d := hB_d.cell
                repeat (first | with_reducible apply wpList_nil | with_reducible apply seq_region | with_reducible apply wp_region_lit | with_reducible apply wp_seq | ((with_reducible apply seq_q); (focus rfl); (focus (simp [go_sem, effAt, ↓IntWalk.iteOmega, *]; (try go_ints); (first | (with_reducible exact effUpon_val) | (with_reducible exact effUpon_skip)))); (focus ((simp only [Act.put, List.setIfInBounds_toArray, List.set_cons_zero, List.set_cons_succ]; rfl)))) | ((with_reducible apply seq_s); (focus rfl); (focus ((simp only [Act.put, List.setIfInBounds_toArray, List.set_cons_zero, List.set_cons_succ]; rfl)))) | with_reducible apply wp_block | with_reducible apply wp_skip | with_reducible apply wp_exit | with_reducible apply wp_ret | ((with_reducible apply wp_cond_true); (focus (first | rfl | (simp [go_sem, *]; done)))) | ((with_reducible apply wp_cond_false); (focus (first | rfl | (simp [go_sem, *]; done)))) | (simp only [Exit.then, Exit.inBlock, ↓reduceIte, Nat.reduceEqDiff]))
                clear hL ei
                have hG2 := grown_trans hG (grown_below (by assumption : Below wr.heap.size wr w1) _)
                clear hG
                have hG := hG2
                clear hG2 hc_d
                have hIJ : ¬ j < i := by omega
                obtain ⟨k, hk⟩ : ∃ k, j - 1 = k := ⟨_, rfl⟩
                have hkI : (j : Int) - 1 = (k : Int) := by omega
                have hIJ' : ¬ (j : Int) < (i : Int) := by omega
                have b7 : (i : Int) < (n : Int) := by omega
                have b8 : (j : Int) < (n : Int) := by omega
                rw [partEqLoop_eq, HI0.out, HJ0.out, if_neg hIJ, hk] at hR
                have Fw1 : Below w1.heap.size w1 w1 := Below.refl _ _
                obtain ⟨y1, hy1⟩ : ∃ x, dk[i]! = x := ⟨_, rfl⟩
                obtain ⟨y2, hy2⟩ : ∃ x, dk[j]! = x := ⟨_, rfl⟩
                have f2 := cellsS_get pad (show j < dk.size by have := HD.out; omega) hy2
                have f1 := cellsS_get pad (show i < dk.size by have := HD.out; omega) hy1
                have SW := Lib.hid (cellsS_swp pad (i := i) (j := j) (by have := HD.out; omega) (by have := HD.out; omega) hy1 hy2)
                have SZ := Lib.hid (cellsS_get2 (d := dk) pad (i := i) (j := j) y2 (by have := HD.out; omega) (by have := HD.out; omega))
                clear hy1 hy2
                have hc_d := hB_d.cell
                repeat (first | with_reducible apply wpList_nil | with_reducible apply seq_region | with_reducible apply wp_region_lit | with_reducible apply wp_seq | ((with_reducible apply seq_q); (focus rfl); (focus (simp [go_sem, effAt, ↓IntWalk.iteOmega, *]; (try go_ints); (first | (with_reducible exact effUpon_val) | (with_reducible exact effUpon_skip)))); (focus ((simp only [Act.put, List.setIfInBounds_toArray, List.set_cons_zero, List.set_cons_succ]; rfl)))) | ((with_reducible apply seq_s); (focus rfl); (focus ((simp only [Act.put, List.setIfInBounds_toArray, List.set_cons_zero, List.set_cons_succ]; rfl)))) | with_reducible apply wp_block | with_reducible apply wp_skip | with_reducible apply wp_exit | with_reducible apply wp_ret | ((with_reducible apply wp_cond_true); (focus (first | rfl | (simp [go_sem, *]; done)))) | ((with_reducible apply wp_cond_false); (focus (first | rfl | (simp [go_sem, *]; done)))) | (simp only [Exit.then, Exit.inBlock, ↓reduceIte, Nat.reduceEqDiff]))
                refine wp_region_effA (S := fun _ => True) (I := (· = World.drew w1)) (E := fun i => [13, 15].contains i) (A := fun i => [7, 11].contains i) (by kernel_rfl) (by kernel_rfl) rfl (fun _ _ => trivial) ?_
                repeat (first | ((with_reducible apply lexA_q); (focus rfl); (focus rfl); (focus rfl); (focus (intro w' hS; simp [go_sem, effAt, ↓IntWalk.iteOmega, *]; (try go_ints); (first | (with_reducible exact effUpon_val) | (with_reducible exact effUpon_skip)))); (focus ((simp only [Act.put, List.setIfInBounds_toArray, List.set_cons_zero, List.set_cons_succ]; rfl)))) | ((with_reducible apply lexA_s); (focus rfl); (focus ((simp only [Act.put, List.setIfInBounds_toArray, List.set_cons_zero, List.set_cons_succ]; rfl)))) | ((with_reducible apply lexA_a); (focus rfl); (focus rfl); (focus rfl); (focus (intro w' hS; subst hS; simp [go_sem, effAt, ↓IntWalk.iteOmega, *]; (try go_ints); (first | (with_reducible exact effUpon_val) | (with_reducible exact effUpon_skip)))); (focus ((simp only [Act.put, List.setIfInBounds_toArray, List.set_cons_zero, List.set_cons_succ]; rfl)))))
                with_reducible apply lexA_e (fun w' => Blk w' g 5 ((cellsS pad dk).setIfInBounds (i) (.int .u8 y2)) ∧ World.grownBy w1 w' (some g))
                (focus (first | exact wanted_none rfl | exact wanted_yes rfl rfl rfl))
                focus rfl
                focus
                  intro w' hS
                  subst hS
                  have hf_d := hB_d.frozen
                  simp [go_sem, effAt, *]
                  exact ⟨rfl, hB_d.drew.set_ (i) _, grown_undrew (grown_set (World.grownBy.refl _ _))⟩
                focus exact fun _ _ => trivial
                (focus (first | (apply put_some rfl; focus (conv => lhs; dsimp only [List.set_cons_zero, List.set_cons_succ]) <;> rfl) | exact put_none rfl))
                repeat (first | ((with_reducible apply lexA_q); (focus rfl); (focus rfl); (focus rfl); (focus (intro w' hS; simp [go_sem, effAt, ↓IntWalk.iteOmega, *]; (try go_ints); (first | (with_reducible exact effUpon_val) | (with_reducible exact effUpon_skip)))); (focus ((simp only [Act.put, List.setIfInBounds_toArray, List.set_cons_zero, List.set_cons_succ]; rfl)))) | ((with_reducible apply lexA_s); (focus rfl); (focus ((simp only [Act.put, List.setIfInBounds_toArray, List.set_cons_zero, List.set_cons_succ]; rfl)))) | ((with_reducible apply lexA_a); (focus rfl); (focus rfl); (focus rfl); (focus (intro w' hS; skip; simp [go_sem, effAt, ↓IntWalk.iteOmega, *]; (try go_ints); (first | (with_reducible exact effUpon_val) | (with_reducible exact effUpon_skip)))); (focus ((simp only [Act.put, List.setIfInBounds_toArray, List.set_cons_zero, List.set_cons_succ]; rfl)))))
                with_reducible apply lexA_e (fun w' => SB w' g pad (swp dk (i) (j)) ∧ World.grownBy w1 w' (some g))
                (focus (first | exact wanted_none rfl | exact wanted_yes rfl rfl rfl))
                focus rfl
                focus
                  rintro w' ⟨hB', hg'⟩
                  have hf_d := hB'.frozen
                  have hc_d := hB'.cell
                  obtain ⟨z, hz⟩ := SZ.out
                  simp [go_sem, effAt, *]
                  exact ⟨rfl, by have h := hB'.set_ (j) (.int .u8 y1); rw [SW.out] at h; exact h, grown_set hg'⟩
                focus exact fun _ _ => trivial
                (focus (first | (apply put_some rfl; focus (conv => lhs; dsimp only [List.set_cons_zero, List.set_cons_succ]) <;> rfl) | exact put_none rfl))
                with_reducible apply lexA_nil
                rintro w1n ⟨hB_n, hg_n⟩
                have hG2 := grown_trans hG hg_n
                clear hB_d hc_d hG hg_n f1 f2
                have hB_d := hB_n
                have hG := hG2
                clear hB_n hG2
                have Fw1n : Below w1n.heap.size w1n w1n := Below.refl _ _
                repeat (first | with_reducible apply wpList_nil | with_reducible apply seq_region | with_reducible apply wp_region_lit | with_reducible apply wp_seq | ((with_reducible apply seq_q); (focus rfl); (focus (simp [go_sem, effAt, ↓IntWalk.iteOmega, *]; (try go_ints); (first | (with_reducible exact effUpon_val) | (with_reducible exact effUpon_skip)))); (focus ((simp only [Act.put, List.setIfInBounds_toArray, List.set_cons_zero, List.set_cons_succ]; rfl)))) | ((with_reducible apply seq_s); (focus rfl); (focus ((simp only [Act.put, List.setIfInBounds_toArray, List.set_cons_zero, List.set_cons_succ]; rfl)))) | with_reducible apply wp_block | with_reducible apply wp_skip | with_reducible apply wp_exit | with_reducible apply wp_ret | ((with_reducible apply wp_cond_true); (focus (first | rfl | (simp [go_sem, *]; done)))) | ((with_reducible apply wp_cond_false); (focus (first | rfl | (simp [go_sem, *]; done)))) | (simp only [Exit.then, Exit.inBlock, ↓reduceIte, Nat.reduceEqDiff]))
                refine hK _ _ (Handed.intro (k - i) ?measure (hJ _ _ _ ?_))
                rotate_left
                (repeat apply Exists.intro)
                refine ⟨?rel, rfl⟩
                case rel => exact ⟨i + 1, k, swp dk i j, by go_num, by go_num, by omega, by omega, by omega, by omega, by rw [swp_size]; exact HD.out, hR, hB_d, hG⟩
                case measure => omega
              | true =>
                rw [scanDown_go _ _ _ _ hc (by omega) (by simp [hl])] at hJ
                clear hl
                obtain ⟨k, hk⟩ : ∃ k, j - 1 = k := ⟨_, rfl⟩
                have hkI : (j : Int) - 1 = (k : Int) := by omega
                rw [hk] at hJ
                skip
                have Fwr : Below wr.heap.size wr wr := Below.refl _ _
                have hc_d := hB_d.cell
                repeat (first | with_reducible apply wpList_nil | with_reducible apply seq_region | with_reducible apply wp_region_lit | with_reducible apply wp_seq | ((with_reducible apply seq_q); (focus rfl); (focus (simp [go_sem, effAt, ↓IntWalk.iteOmega, *]; (try go_ints); (first | (with_reducible exact effUpon_val) | (with_reducible exact effUpon_skip)))); (focus ((simp only [Act.put, List.setIfInBounds_toArray, List.set_cons_zero, List.set_cons_succ]; rfl)))) | ((with_reducible apply seq_s); (focus rfl); (focus ((simp only [Act.put, List.setIfInBounds_toArray, List.set_cons_zero, List.set_cons_succ]; rfl)))) | with_reducible apply wp_block | with_reducible apply wp_skip | with_reducible apply wp_exit | with_reducible apply wp_ret | ((with_reducible apply wp_cond_true); (focus (first | rfl | (simp [go_sem, *]; done)))) | ((with_reducible apply wp_cond_false); (focus (first | rfl | (simp [go_sem, *]; done)))) | (simp only [Exit.then, Exit.inBlock, ↓reduceIte, Nat.reduceEqDiff]))
                refine wp_region_pure (E := fun i => [12].contains i) (by kernel_rfl) (by kernel_rfl) ?_
                repeat (first | ((with_reducible apply lex_q); (focus rfl); (focus rfl); (focus (intro w' hS; have hc_d := (hB_d.below hS hB_d.lt).cell; simp [go_sem, effAt, ↓IntWalk.iteOmega, *]; (try go_ints); (first | (with_reducible exact effUpon_val) | (with_reducible exact effUpon_skip)))); (focus ((simp only [Act.put, List.setIfInBounds_toArray, List.set_cons_zero, List.set_cons_succ]; rfl)))) | ((with_reducible apply lex_s); (focus rfl); (focus ((simp only [Act.put, List.setIfInBounds_toArray, List.set_cons_zero, List.set_cons_succ]; rfl)))))
                ((with_reducible apply lex_e (Below wr.heap.size wr)); (focus rfl); (focus rfl); (focus (intro w' hS; simp only [effAt]; simp [go_sem]; (with_reducible exact eff_call hS (hL _)))); (focus (exact fun _ h => h)); (focus ((simp only [Act.put, List.setIfInBounds_toArray, List.set_cons_zero, List.set_cons_succ]; rfl))))
                repeat (first | ((with_reducible apply lex_q); (focus rfl); (focus rfl); (focus (intro w' hS; have hc_d := (hB_d.below hS hB_d.lt).cell; simp [go_sem, effAt, ↓IntWalk.iteOmega, *]; (try go_ints); (first | (with_reducible exact effUpon_val) | (with_reducible exact effUpon_skip)))); (focus ((simp only [Act.put, List.setIfInBounds_toArray, List.set_cons_zero, List.set_cons_succ]; rfl)))) | ((with_reducible apply lex_s); (focus rfl); (focus ((simp only [Act.put, List.setIfInBounds_toArray, List.set_cons_zero, List.set_cons_succ]; rfl)))))
                with_reducible apply lex_nil
                intro w1 hs
                have Fw1 := Fwr.trans (hs.mono Fwr.size)
                replace hB_d := hB_d.below hs hB_d.lt
                clear hs Fwr
                clear hc_d; have hc_d := hB_d.cell
                repeat (first | with_reducible apply wpList_nil | with_reducible apply seq_region | with_reducible apply wp_region_lit | with_reducible apply wp_seq | ((with_reducible apply seq_q); (focus rfl); (focus (simp [go_sem, effAt, ↓IntWalk.iteOmega, *]; (try go_ints); (first | (with_reducible exact effUpon_val) | (with_reducible exact effUpon_skip)))); (focus ((simp only [Act.put, List.setIfInBounds_toArray, List.set_cons_zero, List.set_cons_succ]; rfl)))) | ((with_reducible apply seq_s); (focus rfl); (focus ((simp only [Act.put, List.setIfInBounds_toArray, List.set_cons_zero, List.set_cons_succ]; rfl)))) | with_reducible apply wp_block | with_reducible apply wp_skip | with_reducible apply wp_exit | with_reducible apply wp_ret | ((with_reducible apply wp_cond_true); (focus (first | rfl | (simp [go_sem, *]; done)))) | ((with_reducible apply wp_cond_false); (focus (first | rfl | (simp [go_sem, *]; done)))) | (simp only [Exit.then, Exit.inBlock, ↓reduceIte, Nat.reduceEqDiff]))
                have hG2 := grown_trans hG (grown_below (by assumption : Below wr.heap.size wr w1) _)
                clear hG
                have hG := hG2
                clear hG2 hc_d
                refine hDK _ _ (Handed.intro k ?measure (hDJ _ _ _ ?_))
                rotate_left
                (repeat apply Exists.intro)
                refine ⟨?rel, rfl⟩
                case rel => exact ⟨k, by go_num, by omega, by omega, by omega, hJ, hB_d, hG⟩
                case measure => omega
        | false =>
          rw [scanUp_go _ _ _ _ hc (by simp [hl])] at hI
          clear hl
          skip
          have Fwr : Below wr.heap.size wr wr := Below.refl _ _
          have hc_d := hB_d.cell
          repeat (first | with_reducible apply wpList_nil | with_reducible apply seq_region | with_reducible apply wp_region_lit | with_reducible apply wp_seq | ((with_reducible apply seq_q); (focus rfl); (focus (simp [go_sem, effAt, ↓IntWalk.iteOmega, *]; (try go_ints); (first | (with_reducible exact effUpon_val) | (with_reducible exact effUpon_skip)))); (focus ((simp only [Act.put, List.setIfInBounds_toArray, List.set_cons_zero, List.set_cons_succ]; rfl)))) | ((with_reducible apply seq_s); (focus rfl); (focus ((simp only [Act.put, List.setIfInBounds_toArray, List.set_cons_zero, List.set_cons_succ]; rfl)))) | with_reducible apply wp_block | with_reducible apply wp_skip | with_reducible apply wp_exit | with_reducible apply wp_ret | ((with_reducible apply wp_cond_true); (focus (first | rfl | (simp [go_sem, *]; done)))) | ((with_reducible apply wp_cond_false); (focus (first | rfl | (simp [go_sem, *]; done)))) | (simp only [Exit.then, Exit.inBlock, ↓reduceIte, Nat.reduceEqDiff]))
          refine wp_region_pure (E := fun i => [12].contains i) (by kernel_rfl) (by kernel_rfl) ?_
          repeat (first | ((with_reducible apply lex_q); (focus rfl); (focus rfl); (focus (intro w' hS; have hc_d := (hB_d.below hS hB_d.lt).cell; simp [go_sem, effAt, ↓IntWalk.iteOmega, *]; (try go_ints); (first | (with_reducible exact effUpon_val) | (with_reducible exact effUpon_skip)))); (focus ((simp only [Act.put, List.setIfInBounds_toArray, List.set_cons_zero, List.set_cons_succ]; rfl)))) | ((with_reducible apply lex_s); (focus rfl); (focus ((simp only [Act.put, List.setIfInBounds_toArray, List.set_cons_zero, List.set_cons_succ]; rfl)))))
          ((with_reducible apply lex_e (Below wr.heap.size wr)); (focus rfl); (focus rfl); (focus (intro w' hS; simp only [effAt]; simp [go_sem]; (with_reducible exact eff_call hS (hL _)))); (focus (exact fun _ h => h)); (focus ((simp only [Act.put, List.setIfInBounds_toArray, List.set_cons_zero, List.set_cons_succ]; rfl))))
          repeat (first | ((with_reducible apply lex_q); (focus rfl); (focus rfl); (focus (intro w' hS; have hc_d := (hB_d.below hS hB_d.lt).cell; simp [go_sem, effAt, ↓IntWalk.iteOmega, *]; (try go_ints); (first | (with_reducible exact effUpon_val) | (with_reducible exact effUpon_skip)))); (focus ((simp only [Act.put, List.setIfInBounds_toArray, List.set_cons_zero, List.set_cons_succ]; rfl)))) | ((with_reducible apply lex_s); (focus rfl); (focus ((simp only [Act.put, List.setIfInBounds_toArray, List.set_cons_zero, List.set_cons_succ]; rfl)))))
          with_reducible apply lex_nil
          intro w1 hs
          have Fw1 := Fwr.trans (hs.mono Fwr.size)
          replace hB_d := hB_d.below hs hB_d.lt
          clear hs Fwr
          clear hc_d; have hc_d := hB_d.cell
          repeat (first | with_reducible apply wpList_nil | with_reducible apply seq_region | with_reducible apply wp_region_lit | with_reducible apply wp_seq | ((with_reducible apply seq_q); (focus rfl); (focus (simp [go_sem, effAt, ↓IntWalk.iteOmega, *]; (try go_ints); (first | (with_reducible exact effUpon_val) | (with_reducible exact effUpon_skip)))); (focus ((simp only [Act.put, List.setIfInBounds_toArray, List.set_cons_zero, List.set_cons_succ]; rfl)))) | ((with_reducible apply seq_s); (focus rfl); (focus ((simp only [Act.put, List.setIfInBounds_toArray, List.set_cons_zero, List.set_cons_succ]; rfl)))) | with_reducible apply wp_block | with_reducible apply wp_skip | with_reducible apply wp_exit | with_reducible apply wp_ret | ((with_reducible apply wp_cond_true); (focus (first | rfl | (simp [go_sem, *]; done)))) | ((with_reducible apply wp_cond_false); (focus (first | rfl | (simp [go_sem, *]; done)))) | (simp only [Exit.then, Exit.inBlock, ↓reduceIte, Nat.reduceEqDiff]))
          have hG2 := grown_trans hG (grown_below (by assumption : Below wr.heap.size wr w1) _)
          clear hG
          have hG := hG2
          clear hG2 hc_d
          refine hUK _ _ (Handed.intro (gk - 1) ?measure (hUJ _ _ _ ?_))
          rotate_left
          (repeat apply Exists.intro)
          refine ⟨?rel, rfl⟩
          case rel => exact ⟨i + 1, by go_num, by omega, by omega, by omega, hI, hB_d, hG⟩
          case measure => omega
end Go.Proofs.Ytckjgdlceckhpaa
