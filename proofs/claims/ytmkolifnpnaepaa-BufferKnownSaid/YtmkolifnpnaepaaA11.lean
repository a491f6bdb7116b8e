/- The argument of the laws: a slice of calls; few. -/
import Derived.Test.YtmkolifnpnaepaaA10
set_option linter.unusedSimpArgs false
set_option linter.unusedVariables false
namespace Go.Proofs.Ytmkolifnpnaepaa
open Go.RowKit Go.Eff
abbrev Cll := Bool × Int × ByteArray
/-- v is the slice of these calls -/
def Arg (w : World) (v : Value) (l : List Cll) : Prop := ∃ p cap, v = .slice p l.length cap ∧ l.length ≤ 9223372036854775807 ∧ ∀ i c, l[i]? = some c → ∃ (a : Addr) (g o : Nat), p = some a ∧ a.add (i * 3) = ⟨g, o, none⟩ ∧ g < w.heap.size ∧
  w.cell? ⟨g, o, none⟩ = some (.bool c.1) ∧ w.cell? ⟨g, o + 1, none⟩ = some (.int .i64 c.2.1) ∧ w.cell? ⟨g, o + 2, none⟩ = some (.string c.2.2) ∧ c.2.2.size ≤ 9223372036854775807
def FewP (l : List Cll) : Prop := l.length ≤ 100 ∧ ∀ (i : Nat) (c : Cll), l[i]? = some c → c.2.2.size ≤ 200
theorem few_no (v : Value) (l : List Cll) (w : World) (h : Arg w v l) (hf : ¬ FewP l) : Calls Try.prog 7 #[v] w (Ret (.bool false) (Below w.heap.size w)) := by
  obtain ⟨p, cap, rfl, hmax, hc⟩ := h
  obtain ⟨n, hn⟩ : ∃ n, l.length = n := ⟨_, rfl⟩
  rw [hn] at hmax ⊢
  by_cases h1 : (100 : Int) < (n : Int)
  case pos =>
    go_enter Try.func7, Try.ntmps7
    have F0 : Below w.heap.size w w := Below.refl _ _
    repeat (first | with_reducible apply wpList_nil | with_reducible apply seq_region | with_reducible apply wp_region_lit | ((with_reducible apply seq_q); (focus rfl); (focus (simp [go_sem, effAt, ↓IntWalk.iteOmega, *]; (try go_ints); (first | (with_reducible exact effUpon_val) | (with_reducible exact effUpon_skip)))); (focus ((simp only [Act.put, List.setIfInBounds_toArray, List.set_cons_zero, List.set_cons_succ]; rfl)))) | ((with_reducible apply seq_s); (focus rfl); (focus ((simp only [Act.put, List.setIfInBounds_toArray, List.set_cons_zero, List.set_cons_succ]; rfl)))) | with_reducible apply wp_seq | with_reducible apply wp_block | with_reducible apply wp_skip | with_reducible apply wp_exit | with_reducible apply wp_ret | ((with_reducible apply wp_cond_true); (focus (first | rfl | (simp [go_sem, *]; done)))) | ((with_reducible apply wp_cond_false); (focus (first | rfl | (simp [go_sem, *]; done)))) | (simp only [Exit.then, Exit.inBlock, ↓reduceIte, Nat.reduceEqDiff]))
    go_ret
    exact ⟨rfl, by assumption⟩
  have HC := Lib.hid hc
  clear hc
  go_enter Try.func7, Try.ntmps7
  have F0 : Below w.heap.size w w := Below.refl _ _
  repeat (first | with_reducible apply wpList_nil | with_reducible apply seq_region | with_reducible apply wp_region_lit | ((with_reducible apply seq_q); (focus rfl); (focus (simp [go_sem, effAt, ↓IntWalk.iteOmega, *]; (try go_ints); (first | (with_reducible exact effUpon_val) | (with_reducible exact effUpon_skip)))); (focus ((simp only [Act.put, List.setIfInBounds_toArray, List.set_cons_zero, List.set_cons_succ]; rfl)))) | ((with_reducible apply seq_s); (focus rfl); (focus ((simp only [Act.put, List.setIfInBounds_toArray, List.set_cons_zero, List.set_cons_succ]; rfl)))) | with_reducible apply wp_seq | with_reducible apply wp_block | with_reducible apply wp_skip | with_reducible apply wp_exit | with_reducible apply wp_ret | ((with_reducible apply wp_cond_true); (focus (first | rfl | (simp [go_sem, *]; done)))) | ((with_reducible apply wp_cond_false); (focus (first | rfl | (simp [go_sem, *]; done)))) | (simp only [Exit.then, Exit.inBlock, ↓reduceIte, Nat.reduceEqDiff]))
  go_loopg [3] n (fun q v wr => ∃ i : Nat, v = .int .i64 (i : Int) ∧ i + q = n ∧ wr = w ∧ ∀ (j : Nat) (c : Cll), j < i → l[j]? = some c → c.2.2.size ≤ 200)
  case atStart => exact ⟨0, rfl, by omega, rfl, fun _ _ h => absurd h (by omega)⟩
  case round =>
    rename_i J K hJ hK
    obtain ⟨i, rfl, hi, rfl, hs⟩ := hrel
    by_cases hlt : i < n
    case neg => exact absurd ⟨by omega, fun j c hj => hs j c (by have := (List.getElem?_eq_some_iff.1 hj).1; omega) hj⟩ hf
    case pos =>
      obtain ⟨c, hce⟩ : ∃ c, l[i]? = some c := ⟨_, List.getElem?_eq_getElem (by omega)⟩
      obtain ⟨a, g, o, rfl, hao, ha, c0, c1, c2, hsz⟩ := HC.out i c hce
      obtain ⟨b, n0, t⟩ := c
      have HE := Lib.hid hce
      have HS := Lib.hid hs
      clear hs hce
      dsimp only at c0 c1 c2 hsz
      by_cases h2 : (200 : Int) < (t.size : Int)
      case pos =>
        repeat (first | with_reducible apply wpList_nil | with_reducible apply seq_region | with_reducible apply wp_region_lit | ((with_reducible apply seq_q); (focus rfl); (focus (simp [go_sem, effAt, ↓IntWalk.iteOmega, *]; (try go_ints); (first | (with_reducible exact effUpon_val) | (with_reducible exact effUpon_skip)))); (focus ((simp only [Act.put, List.setIfInBounds_toArray, List.set_cons_zero, List.set_cons_succ]; rfl)))) | ((with_reducible apply seq_s); (focus rfl); (focus ((simp only [Act.put, List.setIfInBounds_toArray, List.set_cons_zero, List.set_cons_succ]; rfl)))) | with_reducible apply wp_seq | with_reducible apply wp_block | with_reducible apply wp_skip | with_reducible apply wp_exit | with_reducible apply wp_ret | ((with_reducible apply wp_cond_true); (focus (first | rfl | (simp [go_sem, *]; done)))) | ((with_reducible apply wp_cond_false); (focus (first | rfl | (simp [go_sem, *]; done)))) | (simp only [Exit.then, Exit.inBlock, ↓reduceIte, Nat.reduceEqDiff]))
        go_ret
        exact ⟨rfl, by assumption⟩
      case neg =>
        repeat (first | with_reducible apply wpList_nil | with_reducible apply seq_region | with_reducible apply wp_region_lit | ((with_reducible apply seq_q); (focus rfl); (focus (simp [go_sem, effAt, ↓IntWalk.iteOmega, *]; (try go_ints); (first | (with_reducible exact effUpon_val) | (with_reducible exact effUpon_skip)))); (focus ((simp only [Act.put, List.setIfInBounds_toArray, List.set_cons_zero, List.set_cons_succ]; rfl)))) | ((with_reducible apply seq_s); (focus rfl); (focus ((simp only [Act.put, List.setIfInBounds_toArray, List.set_cons_zero, List.set_cons_succ]; rfl)))) | with_reducible apply wp_seq | with_reducible apply wp_block | with_reducible apply wp_skip | with_reducible apply wp_exit | with_reducible apply wp_ret | ((with_reducible apply wp_cond_true); (focus (first | rfl | (simp [go_sem, *]; done)))) | ((with_reducible apply wp_cond_false); (focus (first | rfl | (simp [go_sem, *]; done)))) | (simp only [Exit.then, Exit.inBlock, ↓reduceIte, Nat.reduceEqDiff]))
        refine hK _ _ (Handed.intro (gk - 1) ?measure (hJ _ _ _ ?_))
        rotate_left
        (repeat apply Exists.intro)
        refine ⟨?rel, rfl⟩
        case rel =>
          refine ⟨i + 1, by go_num, by omega, rfl, fun j c hj hc => ?_⟩
          rcases Nat.lt_or_ge j i with h | h
          · exact HS.out j c h hc
          · obtain rfl : j = i := by omega
            rw [HE.out] at hc
            injection hc with hc
            subst hc
            show t.size ≤ 200
            omega
        case measure => omega
theorem few_yes (v : Value) (l : List Cll) (w : World) (h : Arg w v l) (hf : FewP l) : Calls Try.prog 7 #[v] w (Ret (.bool true) (Below w.heap.size w)) := by
  obtain ⟨p, cap, rfl, hmax, hc⟩ := h
  obtain ⟨n, hn⟩ : ∃ n, l.length = n := ⟨_, rfl⟩
  obtain ⟨f1, f2⟩ := hf
  rw [hn] at hmax f1 ⊢
  have h1 : ¬ (100 : Int) < (n : Int) := by omega
  have HC := Lib.hid hc
  have HF := Lib.hid f2
  clear hc f2
  go_enter Try.func7, Try.ntmps7
  have F0 : Below w.heap.size w w := Below.refl _ _
  repeat (first | with_reducible apply wpList_nil | with_reducible apply seq_region | with_reducible apply wp_region_lit | ((with_reducible apply seq_q); (focus rfl); (focus (simp [go_sem, effAt, ↓IntWalk.iteOmega, *]; (try go_ints); (first | (with_reducible exact effUpon_val) | (with_reducible exact effUpon_skip)))); (focus ((simp only [Act.put, List.setIfInBounds_toArray, List.set_cons_zero, List.set_cons_succ]; rfl)))) | ((with_reducible apply seq_s); (focus rfl); (focus ((simp only [Act.put, List.setIfInBounds_toArray, List.set_cons_zero, List.set_cons_succ]; rfl)))) | with_reducible apply wp_seq | with_reducible apply wp_block | with_reducible apply wp_skip | with_reducible apply wp_exit | with_reducible apply wp_ret | ((with_reducible apply wp_cond_true); (focus (first | rfl | (simp [go_sem, *]; done)))) | ((with_reducible apply wp_cond_false); (focus (first | rfl | (simp [go_sem, *]; done)))) | (simp only [Exit.then, Exit.inBlock, ↓reduceIte, Nat.reduceEqDiff]))
  go_loopg [3] n (fun q v wr => ∃ i : Nat, v = .int .i64 (i : Int) ∧ i + q = n ∧ wr = w)
  case atStart => exact ⟨0, rfl, by omega, rfl⟩
  case round =>
    rename_i J K hJ hK
    obtain ⟨i, rfl, hi, rfl⟩ := hrel
    by_cases hlt : i < n
    case neg =>
      repeat (first | with_reducible apply wpList_nil | with_reducible apply seq_region | with_reducible apply wp_region_lit | ((with_reducible apply seq_q); (focus rfl); (focus (simp [go_sem, effAt, ↓IntWalk.iteOmega, *]; (try go_ints); (first | (with_reducible exact effUpon_val) | (with_reducible exact effUpon_skip)))); (focus ((simp only [Act.put, List.setIfInBounds_toArray, List.set_cons_zero, List.set_cons_succ]; rfl)))) | ((with_reducible apply seq_s); (focus rfl); (focus ((simp only [Act.put, List.setIfInBounds_toArray, List.set_cons_zero, List.set_cons_succ]; rfl)))) | with_reducible apply wp_seq | with_reducible apply wp_block | with_reducible apply wp_skip | with_reducible apply wp_exit | with_reducible apply wp_ret | ((with_reducible apply wp_cond_true); (focus (first | rfl | (simp [go_sem, *]; done)))) | ((with_reducible apply wp_cond_false); (focus (first | rfl | (simp [go_sem, *]; done)))) | (simp only [Exit.then, Exit.inBlock, ↓reduceIte, Nat.reduceEqDiff]))
      go_ret
      exact ⟨rfl, by assumption⟩
    case pos =>
      obtain ⟨c, hce⟩ : ∃ c, l[i]? = some c := ⟨_, List.getElem?_eq_getElem (by omega)⟩
      obtain ⟨a, g, o, rfl, hao, ha, c0, c1, c2, hsz⟩ := HC.out i c hce
      have h2' := HF.out i c hce
      have h2 : ¬ (200 : Int) < (c.2.2.size : Int) := by omega
      clear hce
      obtain ⟨b, n0, t⟩ := c
      dsimp only at c0 c1 c2 hsz h2
      repeat (first | with_reducible apply wpList_nil | with_reducible apply seq_region | with_reducible apply wp_region_lit | ((with_reducible apply seq_q); (focus rfl); (focus (simp [go_sem, effAt, ↓IntWalk.iteOmega, *]; (try go_ints); (first | (with_reducible exact effUpon_val) | (with_reducible exact effUpon_skip)))); (focus ((simp only [Act.put, List.setIfInBounds_toArray, List.set_cons_zero, List.set_cons_succ]; rfl)))) | ((with_reducible apply seq_s); (focus rfl); (focus ((simp only [Act.put, List.setIfInBounds_toArray, List.set_cons_zero, List.set_cons_succ]; rfl)))) | with_reducible apply wp_seq | with_reducible apply wp_block | with_reducible apply wp_skip | with_reducible apply wp_exit | with_reducible apply wp_ret | ((with_reducible apply wp_cond_true); (focus (first | rfl | (simp [go_sem, *]; done)))) | ((with_reducible apply wp_cond_false); (focus (first | rfl | (simp [go_sem, *]; done)))) | (simp only [Exit.then, Exit.inBlock, ↓reduceIte, Nat.reduceEqDiff]))
      refine hK _ _ (Handed.intro (gk - 1) ?measure (hJ _ _ _ ?_))
      rotate_left
      (repeat apply Exists.intro)
      refine ⟨?rel, rfl⟩
      case rel => exact ⟨i + 1, by go_num, by omega, rfl⟩
      case measure => omega
