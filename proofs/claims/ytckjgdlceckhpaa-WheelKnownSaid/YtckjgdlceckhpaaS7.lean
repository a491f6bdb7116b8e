/- The walks of order2Ordered, medianOrdered, medianAdjacentOrdered, choosePivotOrdered at uint8. -/
import Derived.Test.YtckjgdlceckhpaaS6
set_option linter.unusedSimpArgs false
set_option linter.unusedVariables false
namespace Go.Proofs.Ytckjgdlceckhpaa
open Go.RowKit Go.Eff
open Go.Sort (ltInt order2 median medianAdjacent choosePivot Hint)
attribute [local irreducible] Go.wpList
theorem blk_ne {w : World} {g s t t' : Nat} {c c' : Array Value} (h : Blk w g t c) (h' : Blk w s t' c') (ht : t ≠ t') : g ≠ s := by
  rintro rfl
  have e := Eq.trans (Eq.symm h) h'
  injection e with e
  injection e with _ e _
  exact ht e
theorem order2_lt {d : Array Int} {a b s n : Nat} (ha : a < n) (hb : b < n) : (order2 ltInt d a b s).1 < n ∧ (order2 ltInt d a b s).2.1 < n ∧ (order2 ltInt d a b s).2.2 ≤ s + 1 := by
  unfold order2
  split <;> exact ⟨by assumption, by assumption, by simp⟩
set_option maxRecDepth 100000 in
set_option maxHeartbeats 4000000 in
theorem order2_any (g cap a b s k : Nat) (pad : List Value) (d : Array Int) (w : World) (hB_d : SB w g pad d) (hB_s : Blk w s 3 #[.int .i64 (k : Int)]) (ha : a < d.size) (hb : b < d.size) (hsz : d.size ≤ 1000) (hk : k ≤ 100) :
    Calls Try.prog 44 #[.slice (some ⟨g, 0, none⟩) d.size cap, .int .i64 a, .int .i64 b, .pointer (some ⟨s, 0, none⟩)] w
      (Ret (.tuple #[.int .i64 (order2 ltInt d a b k).1, .int .i64 (order2 ltInt d a b k).2.1]) fun w' => Blk w' s 3 #[.int .i64 ((order2 ltInt d a b k).2.2 : Nat)] ∧ w.grownBy w' (some s)) := by
  obtain ⟨n, hn⟩ : ∃ n, d.size = n := ⟨_, rfl⟩
  obtain ⟨xa, hxa⟩ : ∃ x, d[a]! = x := ⟨_, rfl⟩
  obtain ⟨xb, hxb⟩ : ∃ x, d[b]! = x := ⟨_, rfl⟩
  have ea := cellsS_get pad ha hxa
  have eb := cellsS_get pad hb hxb
  have hL := less_any xb xa
  rw [hn] at ha hb hsz ⊢
  have haI : (a : Int) < (n : Int) := by omega
  have hbI : (b : Int) < (n : Int) := by omega
  have hnI : (n : Int) ≤ 1000 := by omega
  have hkI : (k : Int) ≤ 100 := by omega
  have he : order2 ltInt d a b k = if ltInt xb xa then (b, a, k + 1) else (a, b, k) := by rw [order2, hxa, hxb]
  obtain ⟨l, hl⟩ : ∃ l, ltInt xb xa = l := ⟨_, rfl⟩
  rw [hl] at hL he
  clear hl hn hxa hxb
  cases l with
  | false =>
    rw [if_neg Bool.false_ne_true] at he
    rw [he]
    dsimp only
    clear he
    go_enter Try.func44, Try.ntmps44
    have F0 : Below w.heap.size w w := Below.refl _ _
    have hc_d := hB_d.cell
    repeat (first | with_reducible apply wpList_nil | with_reducible apply seq_region | with_reducible apply wp_region_lit | with_reducible apply wp_seq | ((with_reducible apply seq_q); (focus rfl); (focus (simp [go_sem, effAt, ↓IntWalk.iteOmega, *]; (try go_ints); (first | (with_reducible exact effUpon_val) | (with_reducible exact effUpon_skip)))); (focus ((simp only [Act.put, List.setIfInBounds_toArray, List.set_cons_zero, List.set_cons_succ]; rfl)))) | ((with_reducible apply seq_s); (focus rfl); (focus ((simp only [Act.put, List.setIfInBounds_toArray, List.set_cons_zero, List.set_cons_succ]; rfl)))) | with_reducible apply wp_block | with_reducible apply wp_skip | with_reducible apply wp_exit | with_reducible apply wp_ret | ((with_reducible apply wp_cond_true); (focus (first | rfl | (simp [go_sem, *]; done)))) | ((with_reducible apply wp_cond_false); (focus (first | rfl | (simp [go_sem, *]; done)))) | (simp only [Exit.then, Exit.inBlock, ↓reduceIte, Nat.reduceEqDiff]))
    refine wp_region_pure (E := fun i => [8].contains i) (by kernel_rfl) (by kernel_rfl) ?_
    repeat (first | ((with_reducible apply lex_q); (focus rfl); (focus rfl); (focus (intro w' hS; have hc_d := (hB_d.below hS hB_d.lt).cell; simp [go_sem, effAt, ↓IntWalk.iteOmega, *]; (try go_ints); (first | (with_reducible exact effUpon_val) | (with_reducible exact effUpon_skip)))); (focus ((simp only [Act.put, List.setIfInBounds_toArray, List.set_cons_zero, List.set_cons_succ]; rfl)))) | ((with_reducible apply lex_s); (focus rfl); (focus ((simp only [Act.put, List.setIfInBounds_toArray, List.set_cons_zero, List.set_cons_succ]; rfl)))))
    ((with_reducible apply lex_e (Below w.heap.size w)); (focus rfl); (focus rfl); (focus (intro w' hS; simp only [effAt]; simp [go_sem]; (with_reducible exact eff_call hS (hL _)))); (focus (exact fun _ h => h)); (focus ((simp only [Act.put, List.setIfInBounds_toArray, List.set_cons_zero, List.set_cons_succ]; rfl))))
    repeat (first | ((with_reducible apply lex_q); (focus rfl); (focus rfl); (focus (intro w' hS; have hc_d := (hB_d.below hS hB_d.lt).cell; simp [go_sem, effAt, ↓IntWalk.iteOmega, *]; (try go_ints); (first | (with_reducible exact effUpon_val) | (with_reducible exact effUpon_skip)))); (focus ((simp only [Act.put, List.setIfInBounds_toArray, List.set_cons_zero, List.set_cons_succ]; rfl)))) | ((with_reducible apply lex_s); (focus rfl); (focus ((simp only [Act.put, List.setIfInBounds_toArray, List.set_cons_zero, List.set_cons_succ]; rfl)))))
    with_reducible apply lex_nil
    intro w1 hs
    have Fw1 := F0.trans (hs.mono F0.size)
    replace hB_d := hB_d.below hs hB_d.lt
    clear hs F0
    clear hc_d; have hc_d := hB_d.cell
    repeat (first | with_reducible apply wpList_nil | with_reducible apply seq_region | with_reducible apply wp_region_lit | with_reducible apply wp_seq | ((with_reducible apply seq_q); (focus rfl); (focus (simp [go_sem, effAt, ↓IntWalk.iteOmega, *]; (try go_ints); (first | (with_reducible exact effUpon_val) | (with_reducible exact effUpon_skip)))); (focus ((simp only [Act.put, List.setIfInBounds_toArray, List.set_cons_zero, List.set_cons_succ]; rfl)))) | ((with_reducible apply seq_s); (focus rfl); (focus ((simp only [Act.put, List.setIfInBounds_toArray, List.set_cons_zero, List.set_cons_succ]; rfl)))) | with_reducible apply wp_block | with_reducible apply wp_skip | with_reducible apply wp_exit | with_reducible apply wp_ret | ((with_reducible apply wp_cond_true); (focus (first | rfl | (simp [go_sem, *]; done)))) | ((with_reducible apply wp_cond_false); (focus (first | rfl | (simp [go_sem, *]; done)))) | (simp only [Exit.then, Exit.inBlock, ↓reduceIte, Nat.reduceEqDiff]))
    refine bodyPost_ret (v := .tuple #[.int .i64 (a : Int), .int .i64 (b : Int)]) (by simp [results, Try.results44, go_sem, *]) rfl ⟨rfl, Blk.below hB_s (by assumption) hB_s.lt, grown_below (by assumption) _⟩
  | true =>
    rw [if_pos rfl] at he
    rw [he]
    dsimp only
    clear he
    have hgs : g ≠ s := blk_ne hB_d hB_s (by decide)
    go_enter Try.func44, Try.ntmps44
    have F0 : Turn (fun i => i = s ∨ w.heap.size ≤ i) w w := Turn.refl _
    have hc_d := hB_d.cell
    have hc_s := hB_s.cell
    repeat (first | with_reducible apply wpList_nil | with_reducible apply seq_region | with_reducible apply wp_region_lit | with_reducible apply wp_seq | ((with_reducible apply seq_q); (focus rfl); (focus (simp [go_sem, effAt, ↓IntWalk.iteOmega, *]; (try go_ints); (first | (with_reducible exact effUpon_val) | (with_reducible exact effUpon_skip)))); (focus ((simp only [Act.put, List.setIfInBounds_toArray, List.set_cons_zero, List.set_cons_succ]; rfl)))) | ((with_reducible apply seq_s); (focus rfl); (focus ((simp only [Act.put, List.setIfInBounds_toArray, List.set_cons_zero, List.set_cons_succ]; rfl)))) | with_reducible apply wp_block | with_reducible apply wp_skip | with_reducible apply wp_exit | with_reducible apply wp_ret | ((with_reducible apply wp_cond_true); (focus (first | rfl | (simp [go_sem, *]; done)))) | ((with_reducible apply wp_cond_false); (focus (first | rfl | (simp [go_sem, *]; done)))) | (simp only [Exit.then, Exit.inBlock, ↓reduceIte, Nat.reduceEqDiff]))
    refine wp_region_pure (E := fun i => [8].contains i) (by kernel_rfl) (by kernel_rfl) ?_
    repeat (first | ((with_reducible apply lex_q); (focus rfl); (focus rfl); (focus (intro w' hS; have hc_d := (hB_d.below hS hB_d.lt).cell; have hc_s := (hB_s.below hS hB_s.lt).cell; simp [go_sem, effAt, ↓IntWalk.iteOmega, *]; (try go_ints); (first | (with_reducible exact effUpon_val) | (with_reducible exact effUpon_skip)))); (focus ((simp only [Act.put, List.setIfInBounds_toArray, List.set_cons_zero, List.set_cons_succ]; rfl)))) | ((with_reducible apply lex_s); (focus rfl); (focus ((simp only [Act.put, List.setIfInBounds_toArray, List.set_cons_zero, List.set_cons_succ]; rfl)))))
    ((with_reducible apply lex_e (Below w.heap.size w)); (focus rfl); (focus rfl); (focus (intro w' hS; simp only [effAt]; simp [go_sem]; (with_reducible exact eff_call hS (hL _)))); (focus (exact fun _ h => h)); (focus ((simp only [Act.put, List.setIfInBounds_toArray, List.set_cons_zero, List.set_cons_succ]; rfl))))
    repeat (first | ((with_reducible apply lex_q); (focus rfl); (focus rfl); (focus (intro w' hS; have hc_d := (hB_d.below hS hB_d.lt).cell; have hc_s := (hB_s.below hS hB_s.lt).cell; simp [go_sem, effAt, ↓IntWalk.iteOmega, *]; (try go_ints); (first | (with_reducible exact effUpon_val) | (with_reducible exact effUpon_skip)))); (focus ((simp only [Act.put, List.setIfInBounds_toArray, List.set_cons_zero, List.set_cons_succ]; rfl)))) | ((with_reducible apply lex_s); (focus rfl); (focus ((simp only [Act.put, List.setIfInBounds_toArray, List.set_cons_zero, List.set_cons_succ]; rfl)))))
    with_reducible apply lex_nil
    intro w2 hs
    have Fw2 := F0.trans (Turn.of_below hs)
    replace hB_d := hB_d.below hs hB_d.lt
    replace hB_s := hB_s.below hs hB_s.lt
    clear hs F0
    clear hc_d; have hc_d := hB_d.cell
    clear hc_s; have hc_s := hB_s.cell
    repeat (first | with_reducible apply wpList_nil | with_reducible apply seq_region | with_reducible apply wp_region_lit | with_reducible apply wp_seq | ((with_reducible apply seq_q); (focus rfl); (focus (simp [go_sem, effAt, ↓IntWalk.iteOmega, *]; (try go_ints); (first | (with_reducible exact effUpon_val) | (with_reducible exact effUpon_skip)))); (focus ((simp only [Act.put, List.setIfInBounds_toArray, List.set_cons_zero, List.set_cons_succ]; rfl)))) | ((with_reducible apply seq_s); (focus rfl); (focus ((simp only [Act.put, List.setIfInBounds_toArray, List.set_cons_zero, List.set_cons_succ]; rfl)))) | with_reducible apply wp_block | with_reducible apply wp_skip | with_reducible apply wp_exit | with_reducible apply wp_ret | ((with_reducible apply wp_cond_true); (focus (first | rfl | (simp [go_sem, *]; done)))) | ((with_reducible apply wp_cond_false); (focus (first | rfl | (simp [go_sem, *]; done)))) | (simp only [Exit.then, Exit.inBlock, ↓reduceIte, Nat.reduceEqDiff]))
    have hf_s := hB_s.frozen
    ((with_reducible apply seq_e (fun w' => Blk w' _ _ _ ∧ w2.grownBy w' (some _))); (focus rfl); (focus (simp [go_sem, effAt, *]; exact ⟨rfl, (hB_s.set_ 0 _), (grown_set (World.grownBy.refl _ _))⟩)); (focus ((simp only [Act.put, List.setIfInBounds_toArray, List.set_cons_zero, List.set_cons_succ]; rfl))))
    clear hf_s hc_s hB_s
    intro w3 hs
    obtain ⟨hB_s, hs⟩ := hs
    simp only [List.setIfInBounds_toArray, List.set_cons_zero, List.set_cons_succ] at hB_s
    have Fw3 := Fw2.trans (Turn.of_grown hs (by first | exact .inl rfl | exact .inr (by omega)))
    replace hB_d := hB_d.grown hs (by intro hk; injection hk with hk; have := hB_d.lt; have := hB_s.lt; omega)
    clear hs Fw2
    clear hc_d; have hc_d := hB_d.cell
    have hc_s := hB_s.cell
    repeat (first | with_reducible apply wpList_nil | with_reducible apply seq_region | with_reducible apply wp_region_lit | with_reducible apply wp_seq | ((with_reducible apply seq_q); (focus rfl); (focus (simp [go_sem, effAt, ↓IntWalk.iteOmega, *]; (try go_ints); (first | (with_reducible exact effUpon_val) | (with_reducible exact effUpon_skip)))); (focus ((simp only [Act.put, List.setIfInBounds_toArray, List.set_cons_zero, List.set_cons_succ]; rfl)))) | ((with_reducible apply seq_s); (focus rfl); (focus ((simp only [Act.put, List.setIfInBounds_toArray, List.set_cons_zero, List.set_cons_succ]; rfl)))) | with_reducible apply wp_block | with_reducible apply wp_skip | with_reducible apply wp_exit | with_reducible apply wp_ret | ((with_reducible apply wp_cond_true); (focus (first | rfl | (simp [go_sem, *]; done)))) | ((with_reducible apply wp_cond_false); (focus (first | rfl | (simp [go_sem, *]; done)))) | (simp only [Exit.then, Exit.inBlock, ↓reduceIte, Nat.reduceEqDiff]))
    refine bodyPost_ret (v := .tuple #[.int .i64 (b : Int), .int .i64 (a : Int)]) (by simp [results, Try.results44, go_sem, *]) rfl ⟨rfl, hB_s, Turn.to_grown (by assumption)⟩
/-- the contract with its results named -/
theorem order2_named {g cap a b s k n : Nat} {pad : List Value} {d : Array Int} (hn : d.size = n) (ha : a < n) (hb : b < n) (hsz : n ≤ 1000) (hk : k ≤ 100) :
    ∃ p q j, order2 ltInt d a b k = (p, q, j) ∧ p < n ∧ q < n ∧ j ≤ k + 1 ∧ ∀ w, SB w g pad d → Blk w s 3 #[.int .i64 (k : Int)] →
      Calls Try.prog 44 #[.slice (some ⟨g, 0, none⟩) n cap, .int .i64 a, .int .i64 b, .pointer (some ⟨s, 0, none⟩)] w (Ret (.tuple #[.int .i64 (p : Int), .int .i64 (q : Int)]) fun w' => Blk w' s 3 #[.int .i64 (j : Int)] ∧ w.grownBy w' (some s)) := by
  subst hn
  have h := order2_lt (d := d) (s := k) ha hb
  exact ⟨_, _, _, rfl, h.1, h.2.1, h.2.2, fun w h1 h2 => order2_any g cap a b s k pad d w h1 h2 ha hb hsz hk⟩
set_option maxRecDepth 100000 in
set_option maxHeartbeats 4000000 in
theorem median_any {g cap a b c s k n : Nat} {pad : List Value} {d : Array Int} (hn : d.size = n) (ha : a < n) (hb : b < n) (hc : c < n) (hsz : n ≤ 1000) (hk : k ≤ 90) :
    ∃ q j, median ltInt d a b c k = (q, j) ∧ q < n ∧ j ≤ k + 3 ∧ ∀ w, SB w g pad d → Blk w s 3 #[.int .i64 (k : Int)] →
      Calls Try.prog 42 #[.slice (some ⟨g, 0, none⟩) n cap, .int .i64 a, .int .i64 b, .int .i64 c, .pointer (some ⟨s, 0, none⟩)] w (Ret (.int .i64 (q : Int)) fun w' => Blk w' s 3 #[.int .i64 (j : Int)] ∧ w.grownBy w' (some s)) := by
  obtain ⟨p1, q1, k1, h1, hp1, hq1, hk1, o1⟩ := order2_named (g := g) (cap := cap) (s := s) (pad := pad) hn ha hb hsz (show k ≤ 100 by omega)
  obtain ⟨p2, q2, k2, h2, hp2, hq2, hk2, o2⟩ := order2_named (g := g) (cap := cap) (s := s) (pad := pad) hn hq1 hc hsz (show k1 ≤ 100 by omega)
  obtain ⟨p3, q3, k3, h3, hp3, hq3, hk3, o3⟩ := order2_named (g := g) (cap := cap) (s := s) (pad := pad) hn hp1 hp2 hsz (show k2 ≤ 100 by omega)
  refine ⟨q3, k3, by rw [median]; simp only [h1, h2, h3], hq3, by omega, ?_⟩
  intro w hB_d hB_s
  have hgs : g ≠ s := blk_ne hB_d hB_s (by decide)
  clear h1 h2 h3 hn
  go_enter Try.func42, Try.ntmps42
  have F0 : Turn (fun i => i = s ∨ w.heap.size ≤ i) w w := Turn.refl _
  have hc_d := hB_d.cell
  have hc_s := hB_s.cell
  repeat (first | with_reducible apply wpList_nil | with_reducible apply seq_region | with_reducible apply wp_region_lit | with_reducible apply wp_seq | ((with_reducible apply seq_q); (focus rfl); (focus (simp [go_sem, effAt, ↓IntWalk.iteOmega, *]; (try go_ints); (first | (with_reducible exact effUpon_val) | (with_reducible exact effUpon_skip)))); (focus ((simp only [Act.put, List.setIfInBounds_toArray, List.set_cons_zero, List.set_cons_succ]; rfl)))) | ((with_reducible apply seq_s); (focus rfl); (focus ((simp only [Act.put, List.setIfInBounds_toArray, List.set_cons_zero, List.set_cons_succ]; rfl)))) | with_reducible apply wp_block | with_reducible apply wp_skip | with_reducible apply wp_exit | with_reducible apply wp_ret | ((with_reducible apply wp_cond_true); (focus (first | rfl | (simp [go_sem, *]; done)))) | ((with_reducible apply wp_cond_false); (focus (first | rfl | (simp [go_sem, *]; done)))) | (simp only [Exit.then, Exit.inBlock, ↓reduceIte, Nat.reduceEqDiff]))
  ((with_reducible apply seq_e (fun w' => Blk w' _ _ _ ∧ w.grownBy w' (some _))); (focus rfl); (focus (simp only [effAt]; simp [go_sem]; (with_reducible exact effUpon_enter (o1 _ hB_d hB_s)))); (focus ((simp only [Act.put, List.setIfInBounds_toArray, List.set_cons_zero, List.set_cons_succ]; rfl))))
  clear hc_s hB_s
  intro w1 hs
  obtain ⟨hB_s, hs⟩ := hs
  have Fw1 := F0.trans (Turn.of_grown hs (by first | exact .inl rfl | exact .inr (by omega)))
  replace hB_d := hB_d.grown hs (by intro hk; injection hk with hk; have := hB_d.lt; have := hB_s.lt; omega)
  clear hs F0
  clear hc_d; have hc_d := hB_d.cell
  have hc_s := hB_s.cell
  repeat (first | with_reducible apply wpList_nil | with_reducible apply seq_region | with_reducible apply wp_region_lit | with_reducible apply wp_seq | ((with_reducible apply seq_q); (focus rfl); (focus (simp [go_sem, effAt, ↓IntWalk.iteOmega, *]; (try go_ints); (first | (with_reducible exact effUpon_val) | (with_reducible exact effUpon_skip)))); (focus ((simp only [Act.put, List.setIfInBounds_toArray, List.set_cons_zero, List.set_cons_succ]; rfl)))) | ((with_reducible apply seq_s); (focus rfl); (focus ((simp only [Act.put, List.setIfInBounds_toArray, List.set_cons_zero, List.set_cons_succ]; rfl)))) | with_reducible apply wp_block | with_reducible apply wp_skip | with_reducible apply wp_exit | with_reducible apply wp_ret | ((with_reducible apply wp_cond_true); (focus (first | rfl | (simp [go_sem, *]; done)))) | ((with_reducible apply wp_cond_false); (focus (first | rfl | (simp [go_sem, *]; done)))) | (simp only [Exit.then, Exit.inBlock, ↓reduceIte, Nat.reduceEqDiff]))
  ((with_reducible apply seq_e (fun w' => Blk w' _ _ _ ∧ w1.grownBy w' (some _))); (focus rfl); (focus (simp only [effAt]; simp [go_sem]; (with_reducible exact effUpon_enter (o2 _ hB_d hB_s)))); (focus ((simp only [Act.put, List.setIfInBounds_toArray, List.set_cons_zero, List.set_cons_succ]; rfl))))
  clear hc_s hB_s
  intro w2 hs
  obtain ⟨hB_s, hs⟩ := hs
  have Fw2 := Fw1.trans (Turn.of_grown hs (by first | exact .inl rfl | exact .inr (by omega)))
  replace hB_d := hB_d.grown hs (by intro hk; injection hk with hk; have := hB_d.lt; have := hB_s.lt; omega)
  clear hs Fw1
  clear hc_d; have hc_d := hB_d.cell
  have hc_s := hB_s.cell
  repeat (first | with_reducible apply wpList_nil | with_reducible apply seq_region | with_reducible apply wp_region_lit | with_reducible apply wp_seq | ((with_reducible apply seq_q); (focus rfl); (focus (simp [go_sem, effAt, ↓IntWalk.iteOmega, *]; (try go_ints); (first | (with_reducible exact effUpon_val) | (with_reducible exact effUpon_skip)))); (focus ((simp only [Act.put, List.setIfInBounds_toArray, List.set_cons_zero, List.set_cons_succ]; rfl)))) | ((with_reducible apply seq_s); (focus rfl); (focus ((simp only [Act.put, List.setIfInBounds_toArray, List.set_cons_zero, List.set_cons_succ]; rfl)))) | with_reducible apply wp_block | with_reducible apply wp_skip | with_reducible apply wp_exit | with_reducible apply wp_ret | ((with_reducible apply wp_cond_true); (focus (first | rfl | (simp [go_sem, *]; done)))) | ((with_reducible apply wp_cond_false); (focus (first | rfl | (simp [go_sem, *]; done)))) | (simp only [Exit.then, Exit.inBlock, ↓reduceIte, Nat.reduceEqDiff]))
  ((with_reducible apply seq_e (fun w' => Blk w' _ _ _ ∧ w2.grownBy w' (some _))); (focus rfl); (focus (simp only [effAt]; simp [go_sem]; (with_reducible exact effUpon_enter (o3 _ hB_d hB_s)))); (focus ((simp only [Act.put, List.setIfInBounds_toArray, List.set_cons_zero, List.set_cons_succ]; rfl))))
  clear hc_s hB_s
  intro w3 hs
  obtain ⟨hB_s, hs⟩ := hs
  have Fw3 := Fw2.trans (Turn.of_grown hs (by first | exact .inl rfl | exact .inr (by omega)))
  replace hB_d := hB_d.grown hs (by intro hk; injection hk with hk; have := hB_d.lt; have := hB_s.lt; omega)
  clear hs Fw2
  clear hc_d; have hc_d := hB_d.cell
  have hc_s := hB_s.cell
  repeat (first | with_reducible apply wpList_nil | with_reducible apply seq_region | with_reducible apply wp_region_lit | with_reducible apply wp_seq | ((with_reducible apply seq_q); (focus rfl); (focus (simp [go_sem, effAt, ↓IntWalk.iteOmega, *]; (try go_ints); (first | (with_reducible exact effUpon_val) | (with_reducible exact effUpon_skip)))); (focus ((simp only [Act.put, List.setIfInBounds_toArray, List.set_cons_zero, List.set_cons_succ]; rfl)))) | ((with_reducible apply seq_s); (focus rfl); (focus ((simp only [Act.put, List.setIfInBounds_toArray, List.set_cons_zero, List.set_cons_succ]; rfl)))) | with_reducible apply wp_block | with_reducible apply wp_skip | with_reducible apply wp_exit | with_reducible apply wp_ret | ((with_reducible apply wp_cond_true); (focus (first | rfl | (simp [go_sem, *]; done)))) | ((with_reducible apply wp_cond_false); (focus (first | rfl | (simp [go_sem, *]; done)))) | (simp only [Exit.then, Exit.inBlock, ↓reduceIte, Nat.reduceEqDiff]))
  go_ret
  exact ⟨rfl, hB_s, Turn.to_grown (by assumption)⟩
set_option maxRecDepth 100000 in
set_option maxHeartbeats 4000000 in
theorem medadj_any {g cap a s k n : Nat} {pad : List Value} {d : Array Int} (hn : d.size = n) (h0 : 1 ≤ a) (ha : a + 1 < n) (hsz : n ≤ 1000) (hk : k ≤ 90) :
    ∃ q j, medianAdjacent ltInt d a k = (q, j) ∧ q < n ∧ j ≤ k + 3 ∧ ∀ w, SB w g pad d → Blk w s 3 #[.int .i64 (k : Int)] →
      Calls Try.prog 41 #[.slice (some ⟨g, 0, none⟩) n cap, .int .i64 a, .pointer (some ⟨s, 0, none⟩)] w (Ret (.int .i64 (q : Int)) fun w' => Blk w' s 3 #[.int .i64 (j : Int)] ∧ w.grownBy w' (some s)) := by
  obtain ⟨e, rfl⟩ : ∃ e, a = e + 1 := ⟨a - 1, by omega⟩
  obtain ⟨q1, k1, h1, hq1, hk1, o1⟩ := median_any (g := g) (cap := cap) (s := s) (pad := pad) (a := e) (b := e + 1) (c := e + 2) hn (by omega) (by omega) (by omega) hsz hk
  refine ⟨q1, k1, by rw [medianAdjacent]; exact h1, hq1, hk1, ?_⟩
  intro w hB_d hB_s
  have hgs : g ≠ s := blk_ne hB_d hB_s (by decide)
  have e1 : ((e + 1 : Nat) : Int) = (e : Int) + 1 := rfl
  have e2 : ((e + 2 : Nat) : Int) = (e : Int) + 1 + 1 := by omega
  rw [e1, e2] at o1
  rw [e1]
  have heI : (e : Int) ≤ 1000 := by omega
  have hee : (e : Int) + 1 - 1 = (e : Int) := by omega
  clear h1 hn e1 e2
  go_enter Try.func41, Try.ntmps41
  have F0 : Turn (fun i => i = s ∨ w.heap.size ≤ i) w w := Turn.refl _
  have hc_d := hB_d.cell
  have hc_s := hB_s.cell
  repeat (first | with_reducible apply wpList_nil | with_reducible apply seq_region | with_reducible apply wp_region_lit | with_reducible apply wp_seq | ((with_reducible apply seq_q); (focus rfl); (focus (simp [go_sem, effAt, ↓IntWalk.iteOmega, *]; (try go_ints); (first | (with_reducible exact effUpon_val) | (with_reducible exact effUpon_skip)))); (focus ((simp only [Act.put, List.setIfInBounds_toArray, List.set_cons_zero, List.set_cons_succ]; rfl)))) | ((with_reducible apply seq_s); (focus rfl); (focus ((simp only [Act.put, List.setIfInBounds_toArray, List.set_cons_zero, List.set_cons_succ]; rfl)))) | with_reducible apply wp_block | with_reducible apply wp_skip | with_reducible apply wp_exit | with_reducible apply wp_ret | ((with_reducible apply wp_cond_true); (focus (first | rfl | (simp [go_sem, *]; done)))) | ((with_reducible apply wp_cond_false); (focus (first | rfl | (simp [go_sem, *]; done)))) | (simp only [Exit.then, Exit.inBlock, ↓reduceIte, Nat.reduceEqDiff]))
  ((with_reducible apply seq_e (fun w' => Blk w' _ _ _ ∧ w.grownBy w' (some _))); (focus rfl); (focus (simp only [effAt]; simp [go_sem]; (with_reducible exact effUpon_enter (o1 _ hB_d hB_s)))); (focus ((simp only [Act.put, List.setIfInBounds_toArray, List.set_cons_zero, List.set_cons_succ]; rfl))))
  clear hc_s hB_s
  intro w1 hs
  obtain ⟨hB_s, hs⟩ := hs
  have Fw1 := F0.trans (Turn.of_grown hs (by first | exact .inl rfl | exact .inr (by omega)))
  replace hB_d := hB_d.grown hs (by intro hk; injection hk with hk; have := hB_d.lt; have := hB_s.lt; omega)
  clear hs F0
  clear hc_d; have hc_d := hB_d.cell
  have hc_s := hB_s.cell
  repeat (first | with_reducible apply wpList_nil | with_reducible apply seq_region | with_reducible apply wp_region_lit | with_reducible apply wp_seq | ((with_reducible apply seq_q); (focus rfl); (focus (simp [go_sem, effAt, ↓IntWalk.iteOmega, *]; (try go_ints); (first | (with_reducible exact effUpon_val) | (with_reducible exact effUpon_skip)))); (focus ((simp only [Act.put, List.setIfInBounds_toArray, List.set_cons_zero, List.set_cons_succ]; rfl)))) | ((with_reducible apply seq_s); (focus rfl); (focus ((simp only [Act.put, List.setIfInBounds_toArray, List.set_cons_zero, List.set_cons_succ]; rfl)))) | with_reducible apply wp_block | with_reducible apply wp_skip | with_reducible apply wp_exit | with_reducible apply wp_ret | ((with_reducible apply wp_cond_true); (focus (first | rfl | (simp [go_sem, *]; done)))) | ((with_reducible apply wp_cond_false); (focus (first | rfl | (simp [go_sem, *]; done)))) | (simp only [Exit.then, Exit.inBlock, ↓reduceIte, Nat.reduceEqDiff]))
  go_ret
  exact ⟨rfl, hB_s, Turn.to_grown (by assumption)⟩
end Go.Proofs.Ytckjgdlceckhpaa
