/- The argument of the laws: a slice of calls; few; the argument opened. -/
import Derived.Test.YtcklobbholdpbaaQ7
import Derived.Test.YtcklobbholdpbaaFr
import Derived.Deep.LoopGhost
set_option linter.unusedSimpArgs false
set_option linter.unusedVariables false
namespace Go.Proofs.Ytcklobbholdpbaa
open Go.RowKit Go.Eff
abbrev Cll := Int × ByteArray × Int
/-- v is the slice of these calls -/
def Arg (w : World) (v : Value) (l : List Cll) : Prop := ∃ p cap, v = .slice p l.length cap ∧ l.length ≤ 9223372036854775807 ∧ ∀ i c, l[i]? = some c → ∃ (a : Addr) (g o : Nat), p = some a ∧ a.add (i * 3) = ⟨g, o, none⟩ ∧ g < w.heap.size ∧
  w.cell? ⟨g, o, none⟩ = some (.int .i64 c.1) ∧ w.cell? ⟨g, o + 1, none⟩ = some (.string c.2.1) ∧ w.cell? ⟨g, o + 2, none⟩ = some (.int .i64 c.2.2) ∧ c.2.1.size ≤ 9223372036854775807 ∧ (-9223372036854775808 ≤ c.1 ∧ c.1 ≤ 9223372036854775807) ∧ (-9223372036854775808 ≤ c.2.2 ∧ c.2.2 ≤ 9223372036854775807)
def FewP (l : List Cll) : Prop := l.length ≤ 100 ∧ ∀ (i : Nat) (c : Cll), l[i]? = some c → ¬ (300 < c.2.1.size ∧ c.2.1.size ≤ 4096)
theorem Arg.below {w w' : World} {v : Value} {l : List Cll} (h : Arg w v l) (hb : Below w.heap.size w w') : Arg w' v l := by
  obtain ⟨p, cap, hv, hl, hc⟩ := h
  refine ⟨p, cap, hv, hl, fun i c hi => ?_⟩
  obtain ⟨a, g, o, h1, h2, h3, h4, h5, h6, h7⟩ := hc i c hi
  have hx : ∀ q, w'.cell? ⟨g, q, none⟩ = w.cell? ⟨g, q, none⟩ := fun q => hb.cell (p := ⟨g, q, none⟩) h3
  exact ⟨a, g, o, h1, h2, Nat.lt_of_lt_of_le h3 hb.size, (hx _).trans h4, (hx _).trans h5, (hx _).trans h6, h7⟩
set_option maxHeartbeats 2000000 in
theorem few_no (v : Value) (l : List Cll) (w : World) (h : Arg w v l) (hf : ¬ FewP l) : Calls Try.prog 7 #[v] w (Ret (.bool false) (Below w.heap.size w)) := by
  obtain ⟨p, cap, rfl, hmax, hc⟩ := h
  obtain ⟨n, hn⟩ : ∃ n, l.length = n := ⟨_, rfl⟩
  rw [hn] at hmax ⊢
  by_cases h1 : (100 : Int) < (n : Int)
  case pos =>
    go_enter Try.func7, Try.ntmps7
    have F0 : Below w.heap.size w w := Below.refl _ _
    repeat (first | with_reducible apply wpList_nil | with_reducible apply seq_region | with_reducible apply wp_region_lit | ((with_reducible apply seq_q); (focus rfl); (focus (simp [go_sem, effAt, ↓IntWalk.iteOmega, *]; (try go_ints); (first | (with_reducible exact effUpon_val) | (with_reducible exact effUpon_skip)))); (focus ((simp only [Act.put, List.setIfInBounds_toArray, List.set_cons_zero, List.set_cons_succ]; rfl)))) | ((with_reducible apply seq_s); (focus rfl); (focus ((simp only [Act.put, List.setIfInBounds_toArray, List.set_cons_zero, List.set_cons_succ]; rfl)))) | with_reducible apply wp_seq | with_reducible apply wp_block | with_reducible apply wp_skip | with_reducible apply wp_exit | with_reducible apply wp_ret | ((with_reducible apply wp_cond_true); (focus (first | rfl | (simp [go_sem, *]; done)))) | ((with_reducible apply wp_cond_false); (focus (first | rfl | (simp [go_sem, *]; done)))) | (simp only [Exit.then, Exit.inBlock, ↓reduceIte, Nat.reduceEqDiff]))
    go_ret
    exact ⟨rfl, by assumption⟩
  have HC := Lib.hid hc
  clear hc
  go_enter Try.func7, Try.ntmps7
  have F0 : Below w.heap.size w w := Below.refl _ _
  repeat (first | with_reducible apply wpList_nil | with_reducible apply seq_region | with_reducible apply wp_region_lit | ((with_reducible apply seq_q); (focus rfl); (focus (simp [go_sem, effAt, ↓IntWalk.iteOmega, *]; (try go_ints); (first | (with_reducible exact effUpon_val) | (with_reducible exact effUpon_skip)))); (focus ((simp only [Act.put, List.setIfInBounds_toArray, List.set_cons_zero, List.set_cons_succ]; rfl)))) | ((with_reducible apply seq_s); (focus rfl); (focus ((simp only [Act.put, List.setIfInBounds_toArray, List.set_cons_zero, List.set_cons_succ]; rfl)))) | with_reducible apply wp_seq | with_reducible apply wp_block | with_reducible apply wp_skip | with_reducible apply wp_exit | with_reducible apply wp_ret | ((with_reducible apply wp_cond_true); (focus (first | rfl | (simp [go_sem, *]; done)))) | ((with_reducible apply wp_cond_false); (focus (first | rfl | (simp [go_sem, *]; done)))) | (simp only [Exit.then, Exit.inBlock, ↓reduceIte, Nat.reduceEqDiff]))
  go_loopg [3] n (fun q v wr => ∃ i : Nat, v = .int .i64 (i : Int) ∧ i + q = n ∧ wr = w ∧ ∀ (j : Nat) (c : Cll), j < i → l[j]? = some c → ¬ (300 < c.2.1.size ∧ c.2.1.size ≤ 4096))
  case atStart => exact ⟨0, rfl, by omega, rfl, fun _ _ h => absurd h (by omega)⟩
  case round =>
    rename_i J K hJ hK
    obtain ⟨i, rfl, hi, rfl, hs⟩ := hrel
    by_cases hlt : i < n
    case neg => exact absurd ⟨by omega, fun j c hj => hs j c (by have := (List.getElem?_eq_some_iff.1 hj).1; omega) hj⟩ hf
    case pos =>
      obtain ⟨c, hce⟩ : ∃ c, l[i]? = some c := ⟨_, List.getElem?_eq_getElem (by omega)⟩
      obtain ⟨a, g, o, rfl, hao, ha, c0, c1, c2, hsz, _, _⟩ := HC.out i c hce
      obtain ⟨b, t, n0⟩ := c
      have HE := Lib.hid hce
      have HS := Lib.hid hs
      clear hs hce
      dsimp only at c0 c1 c2 hsz
      by_cases h2 : (300 : Int) < (t.size : Int)
      case pos =>
        by_cases h3 : (t.size : Int) ≤ 4096
        case pos =>
          repeat (first | with_reducible apply wpList_nil | with_reducible apply seq_region | with_reducible apply wp_region_lit | ((with_reducible apply seq_q); (focus rfl); (focus (simp [go_sem, effAt, ↓IntWalk.iteOmega, *]; (try go_ints); (first | (with_reducible exact effUpon_val) | (with_reducible exact effUpon_skip)))); (focus ((simp only [Act.put, List.setIfInBounds_toArray, List.set_cons_zero, List.set_cons_succ]; rfl)))) | ((with_reducible apply seq_s); (focus rfl); (focus ((simp only [Act.put, List.setIfInBounds_toArray, List.set_cons_zero, List.set_cons_succ]; rfl)))) | with_reducible apply wp_seq | with_reducible apply wp_block | with_reducible apply wp_skip | with_reducible apply wp_exit | with_reducible apply wp_ret | ((with_reducible apply wp_cond_true); (focus (first | rfl | (simp [go_sem, *]; done)))) | ((with_reducible apply wp_cond_false); (focus (first | rfl | (simp [go_sem, *]; done)))) | (simp only [Exit.then, Exit.inBlock, ↓reduceIte, Nat.reduceEqDiff]))
          go_ret
          exact ⟨rfl, by assumption⟩
        case neg =>
          repeat (first | with_reducible apply wpList_nil | with_reducible apply seq_region | with_reducible apply wp_region_lit | ((with_reducible apply seq_q); (focus rfl); (focus (simp [go_sem, effAt, ↓IntWalk.iteOmega, *]; (try go_ints); (first | (with_reducible exact effUpon_val) | (with_reducible exact effUpon_skip)))); (focus ((simp only [Act.put, List.setIfInBounds_toArray, List.set_cons_zero, List.set_cons_succ]; rfl)))) | ((with_reducible apply seq_s); (focus rfl); (focus ((simp only [Act.put, List.setIfInBounds_toArray, List.set_cons_zero, List.set_cons_succ]; rfl)))) | with_reducible apply wp_seq | with_reducible apply wp_block | with_reducible apply wp_skip | with_reducible apply wp_exit | with_reducible apply wp_ret | ((with_reducible apply wp_cond_true); (focus (first | rfl | (simp [go_sem, *]; done)))) | ((with_reducible apply wp_cond_false); (focus (first | rfl | (simp [go_sem, *]; done)))) | (simp only [Exit.then, Exit.inBlock, ↓reduceIte, Nat.reduceEqDiff]))
          refine hK _ _ (Handed.intro (gk - 1) ?measure (hJ _ _ _ ?_))
          rotate_left
          (repeat apply Exists.intro)
          refine ⟨?rel, rfl⟩
          case rel =>
            refine ⟨i + 1, by go_num, by omega, rfl, fun j c hj hc => ?_⟩
            rcases Nat.lt_or_ge j i with h | h
            · exact HS.out j c h hc
            · obtain rfl : j = i := by omega
              rw [HE.out] at hc
              injection hc with hc
              subst hc
              show ¬ (300 < t.size ∧ t.size ≤ 4096)
              omega
          case measure => omega
      case neg =>
        repeat (first | with_reducible apply wpList_nil | with_reducible apply seq_region | with_reducible apply wp_region_lit | ((with_reducible apply seq_q); (focus rfl); (focus (simp [go_sem, effAt, ↓IntWalk.iteOmega, *]; (try go_ints); (first | (with_reducible exact effUpon_val) | (with_reducible exact effUpon_skip)))); (focus ((simp only [Act.put, List.setIfInBounds_toArray, List.set_cons_zero, List.set_cons_succ]; rfl)))) | ((with_reducible apply seq_s); (focus rfl); (focus ((simp only [Act.put, List.setIfInBounds_toArray, List.set_cons_zero, List.set_cons_succ]; rfl)))) | with_reducible apply wp_seq | with_reducible apply wp_block | with_reducible apply wp_skip | with_reducible apply wp_exit | with_reducible apply wp_ret | ((with_reducible apply wp_cond_true); (focus (first | rfl | (simp [go_sem, *]; done)))) | ((with_reducible apply wp_cond_false); (focus (first | rfl | (simp [go_sem, *]; done)))) | (simp only [Exit.then, Exit.inBlock, ↓reduceIte, Nat.reduceEqDiff]))
        refine hK _ _ (Handed.intro (gk - 1) ?measure (hJ _ _ _ ?_))
        rotate_left
        (repeat apply Exists.intro)
        refine ⟨?rel, rfl⟩
        case rel =>
          refine ⟨i + 1, by go_num, by omega, rfl, fun j c hj hc => ?_⟩
          rcases Nat.lt_or_ge j i with h | h
          · exact HS.out j c h hc
          · obtain rfl : j = i := by omega
            rw [HE.out] at hc
            injection hc with hc
            subst hc
            show ¬ (300 < t.size ∧ t.size ≤ 4096)
            omega
        case measure => omega
set_option maxHeartbeats 2000000 in
theorem few_yes (v : Value) (l : List Cll) (w : World) (h : Arg w v l) (hf : FewP l) : Calls Try.prog 7 #[v] w (Ret (.bool true) (Below w.heap.size w)) := by
  obtain ⟨p, cap, rfl, hmax, hc⟩ := h
  obtain ⟨n, hn⟩ : ∃ n, l.length = n := ⟨_, rfl⟩
  obtain ⟨f1, f2⟩ := hf
  rw [hn] at hmax f1 ⊢
  have h1 : ¬ (100 : Int) < (n : Int) := by omega
  have HC := Lib.hid hc
  have HF := Lib.hid f2
  clear hc f2
  go_enter Try.func7, Try.ntmps7
  have F0 : Below w.heap.size w w := Below.refl _ _
  repeat (first | with_reducible apply wpList_nil | with_reducible apply seq_region | with_reducible apply wp_region_lit | ((with_reducible apply seq_q); (focus rfl); (focus (simp [go_sem, effAt, ↓IntWalk.iteOmega, *]; (try go_ints); (first | (with_reducible exact effUpon_val) | (with_reducible exact effUpon_skip)))); (focus ((simp only [Act.put, List.setIfInBounds_toArray, List.set_cons_zero, List.set_cons_succ]; rfl)))) | ((with_reducible apply seq_s); (focus rfl); (focus ((simp only [Act.put, List.setIfInBounds_toArray, List.set_cons_zero, List.set_cons_succ]; rfl)))) | with_reducible apply wp_seq | with_reducible apply wp_block | with_reducible apply wp_skip | with_reducible apply wp_exit | with_reducible apply wp_ret | ((with_reducible apply wp_cond_true); (focus (first | rfl | (simp [go_sem, *]; done)))) | ((with_reducible apply wp_cond_false); (focus (first | rfl | (simp [go_sem, *]; done)))) | (simp only [Exit.then, Exit.inBlock, ↓reduceIte, Nat.reduceEqDiff]))
  go_loopg [3] n (fun q v wr => ∃ i : Nat, v = .int .i64 (i : Int) ∧ i + q = n ∧ wr = w)
  case atStart => exact ⟨0, rfl, by omega, rfl⟩
  case round =>
    rename_i J K hJ hK
    obtain ⟨i, rfl, hi, rfl⟩ := hrel
    by_cases hlt : i < n
    case neg =>
      repeat (first | with_reducible apply wpList_nil | with_reducible apply seq_region | with_reducible apply wp_region_lit | ((with_reducible apply seq_q); (focus rfl); (focus (simp [go_sem, effAt, ↓IntWalk.iteOmega, *]; (try go_ints); (first | (with_reducible exact effUpon_val) | (with_reducible exact effUpon_skip)))); (focus ((simp only [Act.put, List.setIfInBounds_toArray, List.set_cons_zero, List.set_cons_succ]; rfl)))) | ((with_reducible apply seq_s); (focus rfl); (focus ((simp only [Act.put, List.setIfInBounds_toArray, List.set_cons_zero, List.set_cons_succ]; rfl)))) | with_reducible apply wp_seq | with_reducible apply wp_block | with_reducible apply wp_skip | with_reducible apply wp_exit | with_reducible apply wp_ret | ((with_reducible apply wp_cond_true); (focus (first | rfl | (simp [go_sem, *]; done)))) | ((with_reducible apply wp_cond_false); (focus (first | rfl | (simp [go_sem, *]; done)))) | (simp only [Exit.then, Exit.inBlock, ↓reduceIte, Nat.reduceEqDiff]))
      go_ret
      exact ⟨rfl, by assumption⟩
    case pos =>
      obtain ⟨c, hce⟩ : ∃ c, l[i]? = some c := ⟨_, List.getElem?_eq_getElem (by omega)⟩
      obtain ⟨a, g, o, rfl, hao, ha, c0, c1, c2, hsz, _, _⟩ := HC.out i c hce
      have h2' := HF.out i c hce
      clear hce
      obtain ⟨b, t, n0⟩ := c
      dsimp only at c0 c1 c2 hsz h2'
      by_cases h2 : (300 : Int) < (t.size : Int)
      case pos =>
        have h3 : ¬ (t.size : Int) ≤ 4096 := by omega
        clear h2'
        repeat (first | with_reducible apply wpList_nil | with_reducible apply seq_region | with_reducible apply wp_region_lit | ((with_reducible apply seq_q); (focus rfl); (focus (simp [go_sem, effAt, ↓IntWalk.iteOmega, *]; (try go_ints); (first | (with_reducible exact effUpon_val) | (with_reducible exact effUpon_skip)))); (focus ((simp only [Act.put, List.setIfInBounds_toArray, List.set_cons_zero, List.set_cons_succ]; rfl)))) | ((with_reducible apply seq_s); (focus rfl); (focus ((simp only [Act.put, List.setIfInBounds_toArray, List.set_cons_zero, List.set_cons_succ]; rfl)))) | with_reducible apply wp_seq | with_reducible apply wp_block | with_reducible apply wp_skip | with_reducible apply wp_exit | with_reducible apply wp_ret | ((with_reducible apply wp_cond_true); (focus (first | rfl | (simp [go_sem, *]; done)))) | ((with_reducible apply wp_cond_false); (focus (first | rfl | (simp [go_sem, *]; done)))) | (simp only [Exit.then, Exit.inBlock, ↓reduceIte, Nat.reduceEqDiff]))
        refine hK _ _ (Handed.intro (gk - 1) ?measure (hJ _ _ _ ?_))
        rotate_left
        (repeat apply Exists.intro)
        refine ⟨?rel, rfl⟩
        case rel => exact ⟨i + 1, by go_num, by omega, rfl⟩
        case measure => omega
      case neg =>
        clear h2'
        repeat (first | with_reducible apply wpList_nil | with_reducible apply seq_region | with_reducible apply wp_region_lit | ((with_reducible apply seq_q); (focus rfl); (focus (simp [go_sem, effAt, ↓IntWalk.iteOmega, *]; (try go_ints); (first | (with_reducible exact effUpon_val) | (with_reducible exact effUpon_skip)))); (focus ((simp only [Act.put, List.setIfInBounds_toArray, List.set_cons_zero, List.set_cons_succ]; rfl)))) | ((with_reducible apply seq_s); (focus rfl); (focus ((simp only [Act.put, List.setIfInBounds_toArray, List.set_cons_zero, List.set_cons_succ]; rfl)))) | with_reducible apply wp_seq | with_reducible apply wp_block | with_reducible apply wp_skip | with_reducible apply wp_exit | with_reducible apply wp_ret | ((with_reducible apply wp_cond_true); (focus (first | rfl | (simp [go_sem, *]; done)))) | ((with_reducible apply wp_cond_false); (focus (first | rfl | (simp [go_sem, *]; done)))) | (simp only [Exit.then, Exit.inBlock, ↓reduceIte, Nat.reduceEqDiff]))
        refine hK _ _ (Handed.intro (gk - 1) ?measure (hJ _ _ _ ?_))
        rotate_left
        (repeat apply Exists.intro)
        refine ⟨?rel, rfl⟩
        case rel => exact ⟨i + 1, by go_num, by omega, rfl⟩
        case measure => omega
section
open Go.ChangeShapes Go.WideShapes Go.Deep Go.Fr
theorem open_arg {H : Type} {enc : TypeId × Value → H} {W : World} {base : Nat} {spare : Nat → Bool} {held : Bool} {v : Value} {d : DataW H} {p : List MemPlace} {r : Reach} {b0 : Nat} (hv : Value.okWide Try.prog W r b0 22 v)
    (h : DataW.Trod enc Try.prog W base spare held 22 v d p) : ∃ l, Arg W v l := by
  obtain ⟨pa, len, cap, rfl⟩ := okWide_slice Try.underlying22 hv
  obtain ⟨fuel, hf⟩ := h
  rcases open_rows Try.underlying22 Try.underlying31 (by kernel_rfl) (by kernel_rfl) hf with hc | ⟨a, len', cap', hc, hl, hmax, hi⟩
  · simp [Value.cells] at hc
    obtain ⟨rfl, rfl, rfl⟩ := hc
    exact ⟨[], none, 0, rfl, by simp, by simp⟩
  · simp [Value.cells] at hc
    obtain ⟨rfl, rfl, rfl⟩ := hc
    have key : ∀ i, i < len → ∃ (c : Cll) (g o : Nat), a.add (i * 3) = ⟨g, o, none⟩ ∧ g < W.heap.size ∧ W.cell? ⟨g, o, none⟩ = some (.int .i64 c.1) ∧ W.cell? ⟨g, o + 1, none⟩ = some (.string c.2.1) ∧ W.cell? ⟨g, o + 2, none⟩ = some (.int .i64 c.2.2) ∧ c.2.1.size ≤ 9223372036854775807 ∧ (-9223372036854775808 ≤ c.1 ∧ c.1 ≤ 9223372036854775807) ∧ (-9223372036854775808 ≤ c.2.2 ∧ c.2.2 ≤ 9223372036854775807) := by
      intro i hil
      obtain ⟨n, hj⟩ := hi i hil
      obtain ⟨v0, y0, c0, t0⟩ := hj 0 _ rfl
      obtain ⟨v1, y1, c1, t1⟩ := hj 1 _ rfl
      obtain ⟨v2, y2, c2, t2⟩ := hj 2 _ rfl
      obtain ⟨x0, rfl, hx0⟩ := field_int (k := .i64) Try.underlying3 t0
      obtain ⟨x1, rfl, hx1⟩ := field_string Try.underlying9 t1
      obtain ⟨x2, rfl, hx2⟩ := field_int (k := .i64) Try.underlying3 t2
      have e0 : a.add (i * 3) = ⟨(a.add (i * 3)).block, (a.add (i * 3)).off, none⟩ := (cell_at c0).1
      have l0 : (a.add (i * 3)).block < W.heap.size := (cell_at c0).2
      have c0' : W.cell? (a.add (i * 3)) = some (.int .i64 x0) := c0
      have c1' : W.cell? ((a.add (i * 3)).add 1) = some (.string x1) := by rw [Go.Deep.add_add]; exact c1
      have c2' : W.cell? ((a.add (i * 3)).add 2) = some (.int .i64 x2) := by rw [Go.Deep.add_add]; exact c2
      generalize a.add (i * 3) = b at *
      rw [e0] at c0' c1' c2'
      exact ⟨(x0, x1, x2), b.block, b.off, e0, l0, c0', c1', c2', hx1, wf_i64 hx0, wf_i64 hx2⟩
    refine ⟨(List.range len).map fun i => if hlt : i < len then Classical.choose (key i hlt) else (0, .empty, 0), some a, cap, by simp, by simp; unfold maxLen at hmax; omega, fun i c hc => ?_⟩
    simp only [List.getElem?_map, Option.map_eq_some_iff] at hc
    obtain ⟨j, hj, rfl⟩ := hc
    have hlt : i < len := by
      have := (List.getElem?_eq_some_iff.1 hj).1
      simpa using this
    rw [List.getElem?_range hlt] at hj
    injection hj with hj
    subst hj
    rw [dif_pos hlt]
    obtain ⟨g, o, h⟩ := Classical.choose_spec (key i hlt)
    exact ⟨a, g, o, rfl, h⟩
end
end Go.Proofs.Ytcklobbholdpbaa
