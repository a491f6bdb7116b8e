/- The walks of a queue's Peek, Next, Clear. -/
import Derived.Test.YtcklobbholdpbaaQ3
set_option linter.unusedSimpArgs false
set_option linter.unusedVariables false
namespace Go.Proofs.Ytcklobbholdpbaa
open Go.RowKit Go.Eff
theorem peek_zero (g b r f n : Nat) (most : Int) (w : World) (hB_q : Fds w g b r f n) (hk : max 0 (min (n : Int) most) = 0) :
    Calls Try.prog 14 #[.pointer (some ⟨g, 0, none⟩), .int .i64 most] w (Ret (.string ⟨#[]⟩) (Below w.heap.size w)) := by
  have hF := fun w h => len_any g b r f n w h
  have hmk := make_bytes 0 (by omega)
  unfold Fds at *
  go_enter Try.func14, Try.ntmps14
  have F0 : Below w.heap.size w w := Below.refl _ _
  have hc_q := hB_q.cell
  repeat (first | with_reducible apply wpList_nil | with_reducible apply seq_region | with_reducible apply wp_region_lit | ((with_reducible apply seq_q); (focus rfl); (focus (simp [go_sem, effAt, ↓IntWalk.iteOmega, *]; (try go_ints); (first | (with_reducible exact effUpon_val) | (with_reducible exact effUpon_skip)))); (focus ((simp only [Act.put, List.setIfInBounds_toArray, List.set_cons_zero, List.set_cons_succ]; rfl)))) | ((with_reducible apply seq_s); (focus rfl); (focus ((simp only [Act.put, List.setIfInBounds_toArray, List.set_cons_zero, List.set_cons_succ]; rfl)))) | with_reducible apply wp_seq | with_reducible apply wp_block | with_reducible apply wp_skip | with_reducible apply wp_exit | with_reducible apply wp_ret | ((with_reducible apply wp_cond_true); (focus (first | rfl | (simp [go_sem, *]; done)))) | ((with_reducible apply wp_cond_false); (focus (first | rfl | (simp [go_sem, *]; done)))) | (simp only [Exit.then, Exit.inBlock, ↓reduceIte, Nat.reduceEqDiff]))
  ((with_reducible apply seq_e (Below w.heap.size w)); (focus rfl); (focus (simp only [effAt]; simp [go_sem]; (with_reducible exact effUpon_enter (hF _ hB_q)))); (focus ((simp only [Act.put, List.setIfInBounds_toArray, List.set_cons_zero, List.set_cons_succ]; rfl))))
  intro w1 hs
  have Fw1 := F0.trans (hs.mono F0.size)
  replace hB_q := hB_q.below hs hB_q.lt
  clear hs F0
  clear hc_q; have hc_q := hB_q.cell
  repeat (first | with_reducible apply wpList_nil | with_reducible apply seq_region | with_reducible apply wp_region_lit | ((with_reducible apply seq_q); (focus rfl); (focus (simp [go_sem, effAt, ↓IntWalk.iteOmega, *]; (try go_ints); (first | (with_reducible exact effUpon_val) | (with_reducible exact effUpon_skip)))); (focus ((simp only [Act.put, List.setIfInBounds_toArray, List.set_cons_zero, List.set_cons_succ]; rfl)))) | ((with_reducible apply seq_s); (focus rfl); (focus ((simp only [Act.put, List.setIfInBounds_toArray, List.set_cons_zero, List.set_cons_succ]; rfl)))) | with_reducible apply wp_seq | with_reducible apply wp_block | with_reducible apply wp_skip | with_reducible apply wp_exit | with_reducible apply wp_ret | ((with_reducible apply wp_cond_true); (focus (first | rfl | (simp [go_sem, *]; done)))) | ((with_reducible apply wp_cond_false); (focus (first | rfl | (simp [go_sem, *]; done)))) | (simp only [Exit.then, Exit.inBlock, ↓reduceIte, Nat.reduceEqDiff]))
  with_reducible apply seq_box
  focus rfl
  focus (simp [go_sem, effAt, hk]; exact ⟨rfl, rfl⟩)
  (simp only [Act.put, List.setIfInBounds_toArray, List.set_cons_zero, List.set_cons_succ]; rfl)
  intro w2 hB_o hs
  repeat (first | with_reducible apply wpList_nil | with_reducible apply seq_region | with_reducible apply wp_region_lit | ((with_reducible apply seq_q); (focus rfl); (focus (simp [go_sem, effAt, ↓IntWalk.iteOmega, *]; (try go_ints); (first | (with_reducible exact effUpon_val) | (with_reducible exact effUpon_skip)))); (focus ((simp only [Act.put, List.setIfInBounds_toArray, List.set_cons_zero, List.set_cons_succ]; rfl)))) | ((with_reducible apply seq_s); (focus rfl); (focus ((simp only [Act.put, List.setIfInBounds_toArray, List.set_cons_zero, List.set_cons_succ]; rfl)))) | with_reducible apply wp_seq | with_reducible apply wp_block | with_reducible apply wp_skip | with_reducible apply wp_exit | with_reducible apply wp_ret | ((with_reducible apply wp_cond_true); (focus (first | rfl | (simp [go_sem, *]; done)))) | ((with_reducible apply wp_cond_false); (focus (first | rfl | (simp [go_sem, *]; done)))) | (simp only [Exit.then, Exit.inBlock, ↓reduceIte, Nat.reduceEqDiff]))
  go_ret
  exact ⟨rfl, Below.trans (by assumption) (hs.mono (Below.size (by assumption)))⟩
theorem peek_nil (most : Int) (w : World) : Calls Try.prog 14 #[.pointer none, .int .i64 most] w (Ret (.string ⟨#[]⟩) (Below w.heap.size w)) := by
  have hk : max 0 (min (0 : Int) most) = 0 := by omega
  go_enter Try.func14, Try.ntmps14
  have F0 : Below w.heap.size w w := Below.refl _ _
  repeat (first | with_reducible apply wpList_nil | with_reducible apply seq_region | with_reducible apply wp_region_lit | ((with_reducible apply seq_q); (focus rfl); (focus (simp [go_sem, effAt, ↓IntWalk.iteOmega, *]; (try go_ints); (first | (with_reducible exact effUpon_val) | (with_reducible exact effUpon_skip)))); (focus ((simp only [Act.put, List.setIfInBounds_toArray, List.set_cons_zero, List.set_cons_succ]; rfl)))) | ((with_reducible apply seq_s); (focus rfl); (focus ((simp only [Act.put, List.setIfInBounds_toArray, List.set_cons_zero, List.set_cons_succ]; rfl)))) | with_reducible apply wp_seq | with_reducible apply wp_block | with_reducible apply wp_skip | with_reducible apply wp_exit | with_reducible apply wp_ret | ((with_reducible apply wp_cond_true); (focus (first | rfl | (simp [go_sem, *]; done)))) | ((with_reducible apply wp_cond_false); (focus (first | rfl | (simp [go_sem, *]; done)))) | (simp only [Exit.then, Exit.inBlock, ↓reduceIte, Nat.reduceEqDiff]))
  ((with_reducible apply seq_e (Below w.heap.size w)); (focus rfl); (focus (simp only [effAt]; simp [go_sem]; (with_reducible exact effUpon_enter (len_nil _)))); (focus ((simp only [Act.put, List.setIfInBounds_toArray, List.set_cons_zero, List.set_cons_succ]; rfl))))
  intro w1 hs
  have Fw1 := F0.trans (hs.mono F0.size)
  clear hs F0
  repeat (first | with_reducible apply wpList_nil | with_reducible apply seq_region | with_reducible apply wp_region_lit | ((with_reducible apply seq_q); (focus rfl); (focus (simp [go_sem, effAt, ↓IntWalk.iteOmega, *]; (try go_ints); (first | (with_reducible exact effUpon_val) | (with_reducible exact effUpon_skip)))); (focus ((simp only [Act.put, List.setIfInBounds_toArray, List.set_cons_zero, List.set_cons_succ]; rfl)))) | ((with_reducible apply seq_s); (focus rfl); (focus ((simp only [Act.put, List.setIfInBounds_toArray, List.set_cons_zero, List.set_cons_succ]; rfl)))) | with_reducible apply wp_seq | with_reducible apply wp_block | with_reducible apply wp_skip | with_reducible apply wp_exit | with_reducible apply wp_ret | ((with_reducible apply wp_cond_true); (focus (first | rfl | (simp [go_sem, *]; done)))) | ((with_reducible apply wp_cond_false); (focus (first | rfl | (simp [go_sem, *]; done)))) | (simp only [Exit.then, Exit.inBlock, ↓reduceIte, Nat.reduceEqDiff]))
  with_reducible apply seq_box
  focus rfl
  focus (simp [go_sem, effAt, hk]; exact ⟨rfl, rfl⟩)
  (simp only [Act.put, List.setIfInBounds_toArray, List.set_cons_zero, List.set_cons_succ]; rfl)
  intro w2 hB_o hs
  repeat (first | with_reducible apply wpList_nil | with_reducible apply seq_region | with_reducible apply wp_region_lit | ((with_reducible apply seq_q); (focus rfl); (focus (simp [go_sem, effAt, ↓IntWalk.iteOmega, *]; (try go_ints); (first | (with_reducible exact effUpon_val) | (with_reducible exact effUpon_skip)))); (focus ((simp only [Act.put, List.setIfInBounds_toArray, List.set_cons_zero, List.set_cons_succ]; rfl)))) | ((with_reducible apply seq_s); (focus rfl); (focus ((simp only [Act.put, List.setIfInBounds_toArray, List.set_cons_zero, List.set_cons_succ]; rfl)))) | with_reducible apply wp_seq | with_reducible apply wp_block | with_reducible apply wp_skip | with_reducible apply wp_exit | with_reducible apply wp_ret | ((with_reducible apply wp_cond_true); (focus (first | rfl | (simp [go_sem, *]; done)))) | ((with_reducible apply wp_cond_false); (focus (first | rfl | (simp [go_sem, *]; done)))) | (simp only [Exit.then, Exit.inBlock, ↓reduceIte, Nat.reduceEqDiff]))
  go_ret
  exact ⟨rfl, Below.trans (by assumption) (hs.mono (Below.size (by assumption)))⟩
set_option maxHeartbeats 2000000 in
theorem peek_walk (g b : Nat) (cs : Array Value) (f n r : Nat) (xs : List UInt8) (most : Int) (k : Nat) (w : World) (hB_q : Fds w g b r f n) (hR : Blk w b 5 cs)
    (b1 : n ≤ r) (b2 : r ≤ 4096) (b3 : f < r) (e1 : min (n : Int) most = (k : Int)) (hk1 : 0 < k) (hk2 : k ≤ n) (hz : cs.size = r) (hx : n ≤ xs.length) (hL : ∀ j, j < n → cs[(f + j) % r]? = some (bv (xs.getD j 0))) :
    Calls Try.prog 14 #[.pointer (some ⟨g, 0, none⟩), .int .i64 most] w (Ret (.string ⟨(xs.take k).toArray⟩) (Below w.heap.size w)) := by
  obtain ⟨q, hq⟩ : ∃ q, q = min k (r - f) := ⟨_, rfl⟩
  have hq1 : q ≤ k := by omega
  have hq2 : q ≤ r - f := by omega
  have hq3 : k - q ≤ r := by omega
  have HQ := Lib.hid hq
  clear hq
  have HL := Lib.hid hL
  clear hL
  have e2 : ((k : Int) == 0) = false := by simp; omega
  have hF := fun w h => len_any g b r f n w h
  obtain ⟨of, ho1, ho2, hsl⟩ := slice_rest b r f (by omega) b2
  obtain rfl := ho1 b3
  have hmk := make_bytes k (by omega)
  unfold Fds at hF hB_q
  go_enter Try.func14, Try.ntmps14
  have F0 : Below w.heap.size w w := Below.refl _ _
  have hc_q := hB_q.cell
  repeat (first | with_reducible apply wpList_nil | with_reducible apply seq_region | with_reducible apply wp_region_lit | ((with_reducible apply seq_q); (focus rfl); (focus (simp [go_sem, effAt, ↓IntWalk.iteOmega, *]; (try go_ints); (first | (with_reducible exact effUpon_val) | (with_reducible exact effUpon_skip)))); (focus ((simp only [Act.put, List.setIfInBounds_toArray, List.set_cons_zero, List.set_cons_succ]; rfl)))) | ((with_reducible apply seq_s); (focus rfl); (focus ((simp only [Act.put, List.setIfInBounds_toArray, List.set_cons_zero, List.set_cons_succ]; rfl)))) | with_reducible apply wp_seq | with_reducible apply wp_block | with_reducible apply wp_skip | with_reducible apply wp_exit | with_reducible apply wp_ret | ((with_reducible apply wp_cond_true); (focus (first | rfl | (simp [go_sem, *]; done)))) | ((with_reducible apply wp_cond_false); (focus (first | rfl | (simp [go_sem, *]; done)))) | (simp only [Exit.then, Exit.inBlock, ↓reduceIte, Nat.reduceEqDiff]))
  ((with_reducible apply seq_e (Below w.heap.size w)); (focus rfl); (focus (simp only [effAt]; simp [go_sem]; (with_reducible exact effUpon_enter (hF _ hB_q)))); (focus ((simp only [Act.put, List.setIfInBounds_toArray, List.set_cons_zero, List.set_cons_succ]; rfl))))
  intro w1 hs
  have Fw1 := F0.trans (hs.mono F0.size)
  replace hB_q := hB_q.below hs hB_q.lt
  clear hs F0
  clear hc_q; have hc_q := hB_q.cell
  repeat (first | with_reducible apply wpList_nil | with_reducible apply seq_region | with_reducible apply wp_region_lit | ((with_reducible apply seq_q); (focus rfl); (focus (simp [go_sem, effAt, ↓IntWalk.iteOmega, *]; (try go_ints); (first | (with_reducible exact effUpon_val) | (with_reducible exact effUpon_skip)))); (focus ((simp only [Act.put, List.setIfInBounds_toArray, List.set_cons_zero, List.set_cons_succ]; rfl)))) | ((with_reducible apply seq_s); (focus rfl); (focus ((simp only [Act.put, List.setIfInBounds_toArray, List.set_cons_zero, List.set_cons_succ]; rfl)))) | with_reducible apply wp_seq | with_reducible apply wp_block | with_reducible apply wp_skip | with_reducible apply wp_exit | with_reducible apply wp_ret | ((with_reducible apply wp_cond_true); (focus (first | rfl | (simp [go_sem, *]; done)))) | ((with_reducible apply wp_cond_false); (focus (first | rfl | (simp [go_sem, *]; done)))) | (simp only [Exit.then, Exit.inBlock, ↓reduceIte, Nat.reduceEqDiff]))
  clear hF ho1 ho2
  have hW1 := Fw1.size
  have hltb := hR.lt
  have lt_q_o := hB_q.lt
  ((with_reducible apply seq_box); (focus rfl); (focus (simp [go_sem, effAt, hmk]; exact ⟨rfl, rfl⟩)); (focus ((simp only [Act.put, List.setIfInBounds_toArray, List.set_cons_zero, List.set_cons_succ]; rfl))))
  intro w2 hB_o hs
  have Fw2 := Fw1.trans (hs.mono Fw1.size)
  replace hB_q := hB_q.below hs hB_q.lt
  clear hs Fw1
  clear hc_q; have hc_q := hB_q.cell
  have hc_o := hB_o.cell
  have hR2 := hR.below Fw2 hltb
  repeat (first | with_reducible apply wpList_nil | with_reducible apply seq_region | with_reducible apply wp_region_lit | ((with_reducible apply seq_q); (focus rfl); (focus (simp [go_sem, effAt, ↓IntWalk.iteOmega, *]; (try go_ints); (first | (with_reducible exact effUpon_val) | (with_reducible exact effUpon_skip)))); (focus ((simp only [Act.put, List.setIfInBounds_toArray, List.set_cons_zero, List.set_cons_succ]; rfl)))) | ((with_reducible apply seq_s); (focus rfl); (focus ((simp only [Act.put, List.setIfInBounds_toArray, List.set_cons_zero, List.set_cons_succ]; rfl)))) | with_reducible apply wp_seq | with_reducible apply wp_block | with_reducible apply wp_skip | with_reducible apply wp_exit | with_reducible apply wp_ret | ((with_reducible apply wp_cond_true); (focus (first | rfl | (simp [go_sem, *]; done)))) | ((with_reducible apply wp_cond_false); (focus (first | rfl | (simp [go_sem, *]; done)))) | (simp only [Exit.then, Exit.inBlock, ↓reduceIte, Nat.reduceEqDiff]))
  refine wp_region_eff (S := fun w' => Fds w' g b r of n) (I := (· = World.drew _)) (E := fun i => [10].contains i) (by kernel_rfl) (by kernel_rfl) rfl (fun w' h => h ▸ hB_q.drew) ?_
  repeat (first | ((with_reducible apply lex_q); (focus rfl); (focus rfl); (focus (intro w' hS; have hc_q := Blk.cell hS; simp [go_sem, effAt, ↓IntWalk.iteOmega, *]; (try go_ints); (first | (with_reducible exact effUpon_val) | (with_reducible exact effUpon_skip)))); (focus ((simp only [Act.put, List.setIfInBounds_toArray, List.set_cons_zero, List.set_cons_succ]; rfl)))) | ((with_reducible apply lex_s); (focus rfl); (focus ((simp only [Act.put, List.setIfInBounds_toArray, List.set_cons_zero, List.set_cons_succ]; rfl)))))
  have hx1 : (xs.take q).length = q := by simp; omega
  have hcp := copy_in w2.drew 3 w1.heap.size 0 k k b of (r - of) (r - of) _ cs (xs.take q) hB_o.drew hR2.drew (by rw [hx1]; have := HQ.out; show q = min (r - of) k; omega) (fun j hj => by
    have h := HL.out j (by omega)
    rw [Nat.mod_eq_of_lt (show of + j < r by omega)] at h
    rw [h]
    simp [List.getElem?_take, show j < q by omega]) (by rw [hx1, made_size]; omega)
  rw [hx1] at hcp
  have HX := Lib.hid hx1
  clear hx1
  with_reducible apply lex_e (fun w' => Blk w' w1.heap.size 5 (writeAt (madeCells #[.int .u8 0] k) 0 (xs.take q)) ∧ w2.grownBy w' (some w1.heap.size))
  focus rfl
  focus rfl
  focus
    intro w' hw'
    subst hw'
    simp only [effAt]
    simp [go_sem, hcp]
    exact ⟨rfl, (setRow_blk (w := w2.drew) hB_o _).1, grown_undrew (setRow_blk (w := w2.drew) hB_o _).2⟩
  focus
    rintro w' ⟨h1, h2⟩
    exact hB_q.grown h2 (by intro e; injection e with e; omega)
  (simp only [Act.put, List.setIfInBounds_toArray, List.set_cons_zero, List.set_cons_succ]; rfl)
  clear hcp
  repeat (first | ((with_reducible apply lex_q); (focus rfl); (focus rfl); (focus (intro w' hS; have hc_q := Blk.cell hS; simp [go_sem, effAt, ↓IntWalk.iteOmega, *]; (try go_ints); (first | (with_reducible exact effUpon_val) | (with_reducible exact effUpon_skip)))); (focus ((simp only [Act.put, List.setIfInBounds_toArray, List.set_cons_zero, List.set_cons_succ]; rfl)))) | ((with_reducible apply lex_s); (focus rfl); (focus ((simp only [Act.put, List.setIfInBounds_toArray, List.set_cons_zero, List.set_cons_succ]; rfl)))))
  with_reducible apply lex_nil
  rintro w3 ⟨hB3, hg3⟩
  replace hB_q := hB_q.grown hg3 (by intro e; injection e with e; omega)
  replace hR2 := hR2.grown hg3 (by intro e; injection e with e; omega)
  have F3 := Fw2.grown hg3 Fw2.size (by intro j hj; injection hj with hj; subst hj; exact hW1)
  clear hg3 hB_o hc_o hc_q Fw2
  obtain ⟨oa, ho1, ho2, hsl2⟩ := slice_rest w1.heap.size k q hq1 (by omega)
  have HO := Lib.hid ho1
  clear ho1
  repeat (first | with_reducible apply wpList_nil | with_reducible apply seq_region | with_reducible apply wp_region_lit | with_reducible apply wp_seq | with_reducible apply wp_block | with_reducible apply wp_skip | with_reducible apply wp_exit | with_reducible apply wp_ret | ((with_reducible apply wp_cond_true); (focus (first | rfl | (simp [go_sem, *]; done)))) | ((with_reducible apply wp_cond_false); (focus (first | rfl | (simp [go_sem, *]; done)))) | (simp only [Exit.then, Exit.inBlock, ↓reduceIte, Nat.reduceEqDiff]))
  refine wp_region_eff (S := fun w' => Fds w' g b r of n) (I := (· = World.drew _)) (E := fun i => [7].contains i) (by kernel_rfl) (by kernel_rfl) rfl (fun w' h => h ▸ hB_q.drew) ?_
  repeat (first | ((with_reducible apply lex_q); (focus rfl); (focus rfl); (focus (intro w' hS; have hc_q := Blk.cell hS; simp [go_sem, effAt, ↓IntWalk.iteOmega, *]; (try go_ints); (first | (with_reducible exact effUpon_val) | (with_reducible exact effUpon_skip)))); (focus ((simp only [Act.put, List.setIfInBounds_toArray, List.set_cons_zero, List.set_cons_succ]; rfl)))) | ((with_reducible apply lex_s); (focus rfl); (focus ((simp only [Act.put, List.setIfInBounds_toArray, List.set_cons_zero, List.set_cons_succ]; rfl)))))
  have hx1 : ((xs.take k).drop q).length = k - q := by simp; omega
  have hcp := copy_in w3.drew 3 w1.heap.size oa (k - q) (k - q) b 0 r r _ cs ((xs.take k).drop q) hB3.drew hR2.drew (by rw [hx1]; show k - q = min r (k - q); omega) (fun j hj => by
    have hj' : q + j < k := by omega
    have h := HL.out (q + j) (by omega)
    have hq := HQ.out
    have hm : (of + (q + j)) % r = 0 + j := by
      rw [show of + (q + j) = j + r by omega, Nat.add_mod_right, Nat.mod_eq_of_lt (by omega), Nat.zero_add]
    rw [hm] at h
    rw [h]
    simp [List.getElem?_take, List.getElem?_drop, hj']) (by
      rw [hx1, writeAt_size _ _ _ (by rw [HX.out, made_size]; omega), made_size]
      rcases Nat.lt_or_ge q k with h | h
      · have := HO.out h; omega
      · omega)
  rw [hx1] at hcp
  have HX1 := Lib.hid hx1
  clear hx1
  with_reducible apply lex_e (fun w' => Blk w' w1.heap.size 5 (writeAt (writeAt (madeCells #[.int .u8 0] k) 0 (xs.take q)) oa ((xs.take k).drop q)) ∧ w3.grownBy w' (some w1.heap.size))
  focus rfl
  focus rfl
  focus
    intro w' hw'
    subst hw'
    simp only [effAt]
    simp [go_sem, hcp]
    exact ⟨rfl, (setRow_blk (w := w3.drew) hB3 _).1, grown_undrew (setRow_blk (w := w3.drew) hB3 _).2⟩
  focus
    rintro w' ⟨h1, h2⟩
    exact hB_q.grown h2 (by intro e; injection e with e; omega)
  (simp only [Act.put, List.setIfInBounds_toArray, List.set_cons_zero, List.set_cons_succ]; rfl)
  clear hcp
  with_reducible apply lex_nil
  rintro w4 ⟨hB4, hg4⟩
  have F4 := F3.grown hg4 F3.size (by intro j hj; injection hj with hj; subst hj; exact hW1)
  rw [two_parts k q oa xs hq1 (by omega) HO.out ho2] at hB4
  clear hg4 hB3 F3 hsl2
  have hst := run_string_of_blk (P := Try.prog) (src := 39) (dst := 9) (n := k) hB4 k Try.underlying39 Try.underlying5 Try.underlying9 (by simp; omega)
  rw [strOf_bytes] at hst
  generalize (⟨(List.take k xs).toArray⟩ : ByteArray) = out at hst ⊢
  repeat (first | with_reducible apply wpList_nil | with_reducible apply seq_region | with_reducible apply wp_region_lit | ((with_reducible apply seq_q); (focus rfl); (focus (simp [go_sem, effAt, ↓IntWalk.iteOmega, *]; (try go_ints); (first | (with_reducible exact effUpon_val) | (with_reducible exact effUpon_skip)))); (focus ((simp only [Act.put, List.setIfInBounds_toArray, List.set_cons_zero, List.set_cons_succ]; rfl)))) | ((with_reducible apply seq_s); (focus rfl); (focus ((simp only [Act.put, List.setIfInBounds_toArray, List.set_cons_zero, List.set_cons_succ]; rfl)))) | with_reducible apply wp_seq | with_reducible apply wp_block | with_reducible apply wp_skip | with_reducible apply wp_exit | with_reducible apply wp_ret | ((with_reducible apply wp_cond_true); (focus (first | rfl | (simp [go_sem, *]; done)))) | ((with_reducible apply wp_cond_false); (focus (first | rfl | (simp [go_sem, *]; done)))) | (simp only [Exit.then, Exit.inBlock, ↓reduceIte, Nat.reduceEqDiff]))
  go_ret
  exact ⟨rfl, F4⟩
theorem put_zero (g b r f n : Nat) (s : ByteArray) (w : World) (hB_q : Fds w g b r f n) (b1 : n ≤ r) (b2 : r ≤ 4096) (hk : min s.size (r - n) = 0) :
    Calls Try.prog 18 #[.pointer (some ⟨g, 0, none⟩), .string s] w (Ret (.int .i64 0) (Below w.heap.size w)) := by
  have e1 : min ((r : Int) - n) (s.size : Int) = 0 := by omega
  clear hk
  have hF := fun w h => free_any g b r f n w h b1 b2
  obtain ⟨h1, h2⟩ := ba_empty (s.extract 0 0) (by simp)
  unfold Fds at *
  go_enter Try.func18, Try.ntmps18
  have F0 : Below w.heap.size w w := Below.refl _ _
  have hc_q := hB_q.cell
  repeat (first | with_reducible apply wpList_nil | with_reducible apply seq_region | with_reducible apply wp_region_lit | ((with_reducible apply seq_q); (focus rfl); (focus (simp [go_sem, effAt, ↓IntWalk.iteOmega, *]; (try go_ints); (first | (with_reducible exact effUpon_val) | (with_reducible exact effUpon_skip)))); (focus ((simp only [Act.put, List.setIfInBounds_toArray, List.set_cons_zero, List.set_cons_succ]; rfl)))) | ((with_reducible apply seq_s); (focus rfl); (focus ((simp only [Act.put, List.setIfInBounds_toArray, List.set_cons_zero, List.set_cons_succ]; rfl)))) | with_reducible apply wp_seq | with_reducible apply wp_block | with_reducible apply wp_skip | with_reducible apply wp_exit | with_reducible apply wp_ret | ((with_reducible apply wp_cond_true); (focus (first | rfl | (simp [go_sem, *]; done)))) | ((with_reducible apply wp_cond_false); (focus (first | rfl | (simp [go_sem, *]; done)))) | (simp only [Exit.then, Exit.inBlock, ↓reduceIte, Nat.reduceEqDiff]))
  ((with_reducible apply seq_e (Below w.heap.size w)); (focus rfl); (focus (simp only [effAt]; simp [go_sem]; (with_reducible exact effUpon_enter (hF _ hB_q)))); (focus ((simp only [Act.put, List.setIfInBounds_toArray, List.set_cons_zero, List.set_cons_succ]; rfl))))
  intro w1 hs
  have Fw1 := F0.trans (hs.mono F0.size)
  replace hB_q := hB_q.below hs hB_q.lt
  clear hs F0
  clear hc_q; have hc_q := hB_q.cell
  repeat (first | with_reducible apply wpList_nil | with_reducible apply seq_region | with_reducible apply wp_region_lit | ((with_reducible apply seq_q); (focus rfl); (focus (simp [go_sem, effAt, ↓IntWalk.iteOmega, *]; (try go_ints); (first | (with_reducible exact effUpon_val) | (with_reducible exact effUpon_skip)))); (focus ((simp only [Act.put, List.setIfInBounds_toArray, List.set_cons_zero, List.set_cons_succ]; rfl)))) | ((with_reducible apply seq_s); (focus rfl); (focus ((simp only [Act.put, List.setIfInBounds_toArray, List.set_cons_zero, List.set_cons_succ]; rfl)))) | with_reducible apply wp_seq | with_reducible apply wp_block | with_reducible apply wp_skip | with_reducible apply wp_exit | with_reducible apply wp_ret | ((with_reducible apply wp_cond_true); (focus (first | rfl | (simp [go_sem, *]; done)))) | ((with_reducible apply wp_cond_false); (focus (first | rfl | (simp [go_sem, *]; done)))) | (simp only [Exit.then, Exit.inBlock, ↓reduceIte, Nat.reduceEqDiff]))
  go_ret
  exact ⟨rfl, by assumption⟩
theorem put_nil (s : ByteArray) (w : World) : Calls Try.prog 18 #[.pointer none, .string s] w (Ret (.int .i64 0) (Below w.heap.size w)) := by
  have e1 : min (0 : Int) (s.size : Int) = 0 := by omega
  have e5 : (if 0 < s.size then (0 : Int) else (s.size : Int)) = 0 := by split <;> omega
  obtain ⟨h1, h2⟩ := ba_empty (s.extract 0 0) (by simp)
  go_enter Try.func18, Try.ntmps18
  have F0 : Below w.heap.size w w := Below.refl _ _
  repeat (first | with_reducible apply wpList_nil | with_reducible apply seq_region | with_reducible apply wp_region_lit | ((with_reducible apply seq_q); (focus rfl); (focus (simp [go_sem, effAt, ↓IntWalk.iteOmega, *]; (try go_ints); (first | (with_reducible exact effUpon_val) | (with_reducible exact effUpon_skip)))); (focus ((simp only [Act.put, List.setIfInBounds_toArray, List.set_cons_zero, List.set_cons_succ]; rfl)))) | ((with_reducible apply seq_s); (focus rfl); (focus ((simp only [Act.put, List.setIfInBounds_toArray, List.set_cons_zero, List.set_cons_succ]; rfl)))) | with_reducible apply wp_seq | with_reducible apply wp_block | with_reducible apply wp_skip | with_reducible apply wp_exit | with_reducible apply wp_ret | ((with_reducible apply wp_cond_true); (focus (first | rfl | (simp [go_sem, *]; done)))) | ((with_reducible apply wp_cond_false); (focus (first | rfl | (simp [go_sem, *]; done)))) | (simp only [Exit.then, Exit.inBlock, ↓reduceIte, Nat.reduceEqDiff]))
  ((with_reducible apply seq_e (Below w.heap.size w)); (focus rfl); (focus (simp only [effAt]; simp [go_sem]; (with_reducible exact effUpon_enter (free_nil _)))); (focus ((simp only [Act.put, List.setIfInBounds_toArray, List.set_cons_zero, List.set_cons_succ]; rfl))))
  intro w1 hs
  have Fw1 := F0.trans (hs.mono F0.size)
  clear hs F0
  repeat (first | with_reducible apply wpList_nil | with_reducible apply seq_region | with_reducible apply wp_region_lit | ((with_reducible apply seq_q); (focus rfl); (focus (simp [go_sem, effAt, ↓IntWalk.iteOmega, *]; (try go_ints); (first | (with_reducible exact effUpon_val) | (with_reducible exact effUpon_skip)))); (focus ((simp only [Act.put, List.setIfInBounds_toArray, List.set_cons_zero, List.set_cons_succ]; rfl)))) | ((with_reducible apply seq_s); (focus rfl); (focus ((simp only [Act.put, List.setIfInBounds_toArray, List.set_cons_zero, List.set_cons_succ]; rfl)))) | with_reducible apply wp_seq | with_reducible apply wp_block | with_reducible apply wp_skip | with_reducible apply wp_exit | with_reducible apply wp_ret | ((with_reducible apply wp_cond_true); (focus (first | rfl | (simp [go_sem, *]; done)))) | ((with_reducible apply wp_cond_false); (focus (first | rfl | (simp [go_sem, *]; done)))) | (simp only [Exit.then, Exit.inBlock, ↓reduceIte, Nat.reduceEqDiff]))
  go_ret
  exact ⟨rfl, by assumption⟩
