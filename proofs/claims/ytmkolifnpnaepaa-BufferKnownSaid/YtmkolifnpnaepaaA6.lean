/- The walk of a buffer's Get where some bytes are taken. -/
import Derived.Test.YtmkolifnpnaepaaA5
set_option linter.unusedSimpArgs false
set_option linter.unusedVariables false
namespace Go.Proofs.Ytmkolifnpnaepaa
open Go.RowKit Go.Eff
theorem slice_rest (o k q : Nat) (hq : q ≤ k) (hk : k ≤ 4096) : ∃ oa, (q < k → oa = q) ∧ oa ≤ q ∧ ∀ w : World, (Instr.sliceAt 45 (.slice (some ⟨o, 0, none⟩) k k) (some (.int .i64 q)) none none).run Try.prog w = .ok (.slice (some ⟨o, oa, none⟩) (k - q) (k - q)) w := by
  have hel : Try.prog.elem 45 = 5 := by kernel_rfl
  refine ⟨if k = q then 0 else q, fun h => if_neg (by omega), by split <;> omega, fun w => ?_⟩
  have hu : Try.prog.underlying 45 = some (.slice (Try.prog.elem 45)) := by rw [hel]; exact Try.underlying45
  rw [run_sliceAt_slice (P := Try.prog) w 45 _ _ _ _ hu, run_slice_l (P := Try.prog) w 45 (some ⟨o, 0, none⟩) k k hu .i64 q (by omega) (by omega), hel, size5]
  simp only [Result.andThen_ok, sliced, Int.toNat_natCast, Nat.mul_one]
  by_cases h : k = q
  · simp [h]
  · rw [if_neg h, if_neg h]
    unfold Addr.add
    simp
    intro h0
    simp [h0]
/-- what both copies have left -/
theorem two_parts (k q oa : Nat) (xs : List UInt8) (hq : q ≤ k) (hk : k ≤ xs.length) (ho : q < k → oa = q) (ho' : oa ≤ q) : writeAt (writeAt (madeCells #[.int .u8 0] k) 0 (xs.take q)) oa ((xs.take k).drop q) = (((xs.take k).map fun b => (b.toNat : Int)).map (Value.int .u8)).toArray := by
  have h1 : (xs.take q).length = q := by simp; omega
  have h2 : ((xs.take k).drop q).length = k - q := by simp; omega
  have h0 : (madeCells #[.int .u8 0] k).size = k := made_size k
  have hs1 : (writeAt (madeCells #[.int .u8 0] k) 0 (xs.take q)).size = k := by rw [writeAt_size _ _ _ (by omega), h0]
  apply Array.ext_getElem?
  intro i
  have hfit : oa + ((xs.take k).drop q).length ≤ (writeAt (madeCells #[.int .u8 0] k) 0 (xs.take q)).size := by
    rcases Nat.lt_or_ge q k with h | h
    · have := ho h; omega
    · omega
  rw [writeAt_get _ _ _ _ hfit, writeAt_get _ _ _ _ (by omega), h1, h2]
  simp only [List.getElem?_toArray, List.getElem?_map]
  by_cases hi : i < k
  · have e : xs[i]? = some (xs[i]'(by omega)) := List.getElem?_eq_getElem (by omega)
    rw [List.getElem?_take, if_pos hi, e]
    by_cases hiq : i < q
    · rw [if_neg (by intro h; have := ho (by omega); omega), if_pos (by omega)]
      simp [List.getElem?_take, hiq, e]
    · have := ho (by omega)
      rw [if_pos (by omega)]
      subst this
      simp [List.getElem?_take, List.getElem?_drop, show oa + (i - oa) = i by omega, hi, e]
  · rw [if_neg (by intro h; rcases Nat.lt_or_ge q k with h' | h'; · have := ho h'; omega
                   · omega), if_neg (by omega), Array.getElem?_eq_none (by omega), List.getElem?_eq_none (by simp; omega)]
    rfl
set_option maxHeartbeats 2000000 in
theorem get_walk (g : Nat) (cs : Array Value) (f n r m : Nat) (xs : List UInt8) (most : Int) (k : Nat) (w : World) (hB_b : Blk w g 42 cs) (h96 : cs[4096]? = some (.int .i64 f)) (h97 : cs[4097]? = some (.int .i64 n)) (h98 : cs[4098]? = some (.int .i64 r)) (h99 : cs[4099]? = some (.int .i64 m))
    (b1 : n ≤ r) (b2 : r ≤ 4096) (b3 : f < r) (e1 : min (n : Int) most = (k : Int)) (hk1 : 0 < k) (hk2 : k ≤ n) (hz : 4100 ≤ cs.size) (hx : n ≤ xs.length) (hL : ∀ j, j < n → cs[(f + j) % r]? = some (bv (xs.getD j 0))) :
    Calls Try.prog 11 #[.pointer (some ⟨g, 0, none⟩), .int .i64 most] w (Ret (.string ⟨(xs.take k).toArray⟩) fun w' => Blk w' g 42 (getCells cs f k n r) ∧ w.grownBy w' (some g)) := by
  obtain ⟨q, hq⟩ : ∃ q, q = min k (r - f) := ⟨_, rfl⟩
  have hq1 : q ≤ k := by omega
  have hq2 : q ≤ r - f := by omega
  have hq3 : k - q ≤ r := by omega
  have HQ := Lib.hid hq
  clear hq
  have HL := Lib.hid hL
  clear hL
  have e2 : ((k : Int) == 0) = false := by simp; omega
  have hsl := arr_slice g f r b3 b2
  have hsl0 := arr_slice0 g r b2
  have hmk := make_bytes k (by omega)
  go_enter Try.func11, Try.ntmps11
  have F0 : Below w.heap.size w w := Below.refl _ _
  have hc_b := hB_b.cell
  repeat (first | with_reducible apply wpList_nil | with_reducible apply seq_region | with_reducible apply wp_region_lit | ((with_reducible apply seq_q); (focus rfl); (focus (simp [go_sem, effAt, ↓IntWalk.iteOmega, *]; (try go_ints); (first | (with_reducible exact effUpon_val) | (with_reducible exact effUpon_skip)))); (focus ((simp only [Act.put, List.setIfInBounds_toArray, List.set_cons_zero, List.set_cons_succ]; rfl)))) | ((with_reducible apply seq_s); (focus rfl); (focus ((simp only [Act.put, List.setIfInBounds_toArray, List.set_cons_zero, List.set_cons_succ]; rfl)))) | with_reducible apply wp_seq | with_reducible apply wp_block | with_reducible apply wp_skip | with_reducible apply wp_exit | with_reducible apply wp_ret | ((with_reducible apply wp_cond_true); (focus (first | rfl | (simp [go_sem, *]; done)))) | ((with_reducible apply wp_cond_false); (focus (first | rfl | (simp [go_sem, *]; done)))) | (simp only [Exit.then, Exit.inBlock, ↓reduceIte, Nat.reduceEqDiff]))
  ((with_reducible apply seq_e (Below w.heap.size w)); (focus rfl); (focus (simp only [effAt]; simp [go_sem]; (with_reducible exact effUpon_enter (len_any g cs n _ hB_b h97)))); (focus ((simp only [Act.put, List.setIfInBounds_toArray, List.set_cons_zero, List.set_cons_succ]; rfl))))
  intro w1 hs
  have Fw1 := F0.trans (hs.mono F0.size)
  replace hB_b := hB_b.below hs hB_b.lt
  clear hs F0
  clear hc_b; have hc_b := hB_b.cell
  repeat (first | with_reducible apply wpList_nil | with_reducible apply seq_region | with_reducible apply wp_region_lit | ((with_reducible apply seq_q); (focus rfl); (focus (simp [go_sem, effAt, ↓IntWalk.iteOmega, *]; (try go_ints); (first | (with_reducible exact effUpon_val) | (with_reducible exact effUpon_skip)))); (focus ((simp only [Act.put, List.setIfInBounds_toArray, List.set_cons_zero, List.set_cons_succ]; rfl)))) | ((with_reducible apply seq_s); (focus rfl); (focus ((simp only [Act.put, List.setIfInBounds_toArray, List.set_cons_zero, List.set_cons_succ]; rfl)))) | with_reducible apply wp_seq | with_reducible apply wp_block | with_reducible apply wp_skip | with_reducible apply wp_exit | with_reducible apply wp_ret | ((with_reducible apply wp_cond_true); (focus (first | rfl | (simp [go_sem, *]; done)))) | ((with_reducible apply wp_cond_false); (focus (first | rfl | (simp [go_sem, *]; done)))) | (simp only [Exit.then, Exit.inBlock, ↓reduceIte, Nat.reduceEqDiff]))
  have hW1 := Fw1.size
  have lt_b_o := hB_b.lt
  ((with_reducible apply seq_box); (focus rfl); (focus (simp [go_sem, effAt, hmk]; exact ⟨rfl, rfl⟩)); (focus ((simp only [Act.put, List.setIfInBounds_toArray, List.set_cons_zero, List.set_cons_succ]; rfl))))
  intro w2 hB_o hs
  have Fw2 := Fw1.trans (hs.mono Fw1.size)
  replace hB_b := hB_b.below hs hB_b.lt
  clear hs Fw1
  clear hc_b; have hc_b := hB_b.cell
  have hc_o := hB_o.cell
  repeat (first | with_reducible apply wpList_nil | with_reducible apply seq_region | with_reducible apply wp_region_lit | ((with_reducible apply seq_q); (focus rfl); (focus (simp [go_sem, effAt, ↓IntWalk.iteOmega, *]; (try go_ints); (first | (with_reducible exact effUpon_val) | (with_reducible exact effUpon_skip)))); (focus ((simp only [Act.put, List.setIfInBounds_toArray, List.set_cons_zero, List.set_cons_succ]; rfl)))) | ((with_reducible apply seq_s); (focus rfl); (focus ((simp only [Act.put, List.setIfInBounds_toArray, List.set_cons_zero, List.set_cons_succ]; rfl)))) | with_reducible apply wp_seq | with_reducible apply wp_block | with_reducible apply wp_skip | with_reducible apply wp_exit | with_reducible apply wp_ret | ((with_reducible apply wp_cond_true); (focus (first | rfl | (simp [go_sem, *]; done)))) | ((with_reducible apply wp_cond_false); (focus (first | rfl | (simp [go_sem, *]; done)))) | (simp only [Exit.then, Exit.inBlock, ↓reduceIte, Nat.reduceEqDiff]))
  refine wp_region_eff (S := fun w' => Fld w' g f n r m) (I := (· = World.drew _)) (E := fun i => [13].contains i) (by kernel_rfl) (by kernel_rfl) rfl (fun w' h => h ▸ fld_of hB_b.drew h96 h97 h98 h99) ?_
  repeat (first | ((with_reducible apply lex_q); (focus rfl); (focus rfl); (focus (intro w' hS; obtain ⟨c96, c97, c98, c99⟩ := hS; simp [go_sem, effAt, ↓IntWalk.iteOmega, *]; (try go_ints); (first | (with_reducible exact effUpon_val) | (with_reducible exact effUpon_skip)))); (focus ((simp only [Act.put, List.setIfInBounds_toArray, List.set_cons_zero, List.set_cons_succ]; rfl)))) | ((with_reducible apply lex_s); (focus rfl); (focus ((simp only [Act.put, List.setIfInBounds_toArray, List.set_cons_zero, List.set_cons_succ]; rfl)))))
  have hx1 : (xs.take q).length = q := by simp; omega
  have hcp := copy_in w2.drew 3 w1.heap.size 0 k k g f (r - f) (4096 - f) _ cs (xs.take q) hB_o.drew hB_b.drew (by rw [hx1]; have := HQ.out; show q = min (r - f) k; omega) (fun j hj => by
    have h := HL.out j (by omega)
    rw [Nat.mod_eq_of_lt (show f + j < r by omega)] at h
    rw [h]
    simp [List.getElem?_take, show j < q by omega]) (by rw [hx1, made_size]; omega)
  rw [hx1] at hcp
  have HX := Lib.hid hx1
  clear hx1
  with_reducible apply lex_e (fun w' => Blk w' w1.heap.size 5 (writeAt (madeCells #[.int .u8 0] k) 0 (xs.take q)) ∧ w2.grownBy w' (some w1.heap.size))
  focus rfl
  focus rfl
  focus
    intro w' hw'
    subst hw'
    simp only [effAt]
    simp [go_sem, hcp]
    exact ⟨rfl, (setRow_blk (w := w2.drew) hB_o _).1, grown_undrew (setRow_blk (w := w2.drew) hB_o _).2⟩
  focus
    rintro w' ⟨h1, h2⟩
    have hb := hB_b.grown h2 (by intro e; injection e with e; omega)
    exact fld_of hb h96 h97 h98 h99
  (simp only [Act.put, List.setIfInBounds_toArray, List.set_cons_zero, List.set_cons_succ]; rfl)
  clear hcp
  repeat (first | ((with_reducible apply lex_q); (focus rfl); (focus rfl); (focus (intro w' hS; obtain ⟨c96, c97, c98, c99⟩ := hS; simp [go_sem, effAt, ↓IntWalk.iteOmega, *]; (try go_ints); (first | (with_reducible exact effUpon_val) | (with_reducible exact effUpon_skip)))); (focus ((simp only [Act.put, List.setIfInBounds_toArray, List.set_cons_zero, List.set_cons_succ]; rfl)))) | ((with_reducible apply lex_s); (focus rfl); (focus ((simp only [Act.put, List.setIfInBounds_toArray, List.set_cons_zero, List.set_cons_succ]; rfl)))))
  with_reducible apply lex_nil
  rintro w3 ⟨hB3, hg3⟩
  replace hB_b := hB_b.grown hg3 (by intro e; injection e with e; omega)
  have F3 := Fw2.grown hg3 Fw2.size (by intro j hj; injection hj with hj; subst hj; exact hW1)
  clear hg3 hB_o hc_o hc_b Fw2
  obtain ⟨oa, ho1, ho2, hsl2⟩ := slice_rest w1.heap.size k q hq1 (by omega)
  have HO := Lib.hid ho1
  clear ho1
  repeat (first | with_reducible apply wpList_nil | with_reducible apply seq_region | with_reducible apply wp_region_lit | with_reducible apply wp_seq | with_reducible apply wp_block | with_reducible apply wp_skip | with_reducible apply wp_exit | with_reducible apply wp_ret | ((with_reducible apply wp_cond_true); (focus (first | rfl | (simp [go_sem, *]; done)))) | ((with_reducible apply wp_cond_false); (focus (first | rfl | (simp [go_sem, *]; done)))) | (simp only [Exit.then, Exit.inBlock, ↓reduceIte, Nat.reduceEqDiff]))
  refine wp_region_eff (S := fun w' => Fld w' g f n r m) (I := (· = World.drew _)) (E := fun i => [11].contains i) (by kernel_rfl) (by kernel_rfl) rfl (fun w' h => h ▸ fld_of hB_b.drew h96 h97 h98 h99) ?_
  repeat (first | ((with_reducible apply lex_q); (focus rfl); (focus rfl); (focus (intro w' hS; obtain ⟨c96, c97, c98, c99⟩ := hS; simp [go_sem, effAt, ↓IntWalk.iteOmega, *]; (try go_ints); (first | (with_reducible exact effUpon_val) | (with_reducible exact effUpon_skip)))); (focus ((simp only [Act.put, List.setIfInBounds_toArray, List.set_cons_zero, List.set_cons_succ]; rfl)))) | ((with_reducible apply lex_s); (focus rfl); (focus ((simp only [Act.put, List.setIfInBounds_toArray, List.set_cons_zero, List.set_cons_succ]; rfl)))))
  have hx1 : ((xs.take k).drop q).length = k - q := by simp; omega
  have hcp := copy_in w3.drew 3 w1.heap.size oa (k - q) (k - q) g 0 r 4096 _ cs ((xs.take k).drop q) hB3.drew hB_b.drew (by rw [hx1]; show k - q = min r (k - q); omega) (fun j hj => by
    have hj' : q + j < k := by omega
    have h := HL.out (q + j) (by omega)
    have hq := HQ.out
    have hm : (f + (q + j)) % r = 0 + j := by
      rw [show f + (q + j) = j + r by omega, Nat.add_mod_right, Nat.mod_eq_of_lt (by omega), Nat.zero_add]
    rw [hm] at h
    rw [h]
    simp [List.getElem?_take, List.getElem?_drop, hj']) (by
      rw [hx1, writeAt_size _ _ _ (by rw [HX.out, made_size]; omega), made_size]
      rcases Nat.lt_or_ge q k with h | h
      · have := HO.out h; omega
      · omega)
  rw [hx1] at hcp
  have HX1 := Lib.hid hx1
  clear hx1
  with_reducible apply lex_e (fun w' => Blk w' w1.heap.size 5 (writeAt (writeAt (madeCells #[.int .u8 0] k) 0 (xs.take q)) oa ((xs.take k).drop q)) ∧ w3.grownBy w' (some w1.heap.size))
  focus rfl
  focus rfl
  focus
    intro w' hw'
    subst hw'
    simp only [effAt]
    simp [go_sem, hcp]
    exact ⟨rfl, (setRow_blk (w := w3.drew) hB3 _).1, grown_undrew (setRow_blk (w := w3.drew) hB3 _).2⟩
  focus
    rintro w' ⟨h1, h2⟩
    have hb := hB_b.grown h2 (by intro e; injection e with e; omega)
    exact fld_of hb h96 h97 h98 h99
  (simp only [Act.put, List.setIfInBounds_toArray, List.set_cons_zero, List.set_cons_succ]; rfl)
  clear hcp
  repeat (first | ((with_reducible apply lex_q); (focus rfl); (focus rfl); (focus (intro w' hS; obtain ⟨c96, c97, c98, c99⟩ := hS; simp [go_sem, effAt, ↓IntWalk.iteOmega, *]; (try go_ints); (first | (with_reducible exact effUpon_val) | (with_reducible exact effUpon_skip)))); (focus ((simp only [Act.put, List.setIfInBounds_toArray, List.set_cons_zero, List.set_cons_succ]; rfl)))) | ((with_reducible apply lex_s); (focus rfl); (focus ((simp only [Act.put, List.setIfInBounds_toArray, List.set_cons_zero, List.set_cons_succ]; rfl)))))
  with_reducible apply lex_nil
  rintro w4 ⟨hB4, hg4⟩
  replace hB_b := hB_b.grown hg4 (by intro e; injection e with e; omega)
  have F4 := F3.grown hg4 F3.size (by intro j hj; injection hj with hj; subst hj; exact hW1)
  rw [two_parts k q oa xs hq1 (by omega) HO.out ho2] at hB4
  clear hg4 hB3 F3 hsl2
  repeat (first | with_reducible apply wpList_nil | with_reducible apply seq_region | with_reducible apply wp_region_lit | with_reducible apply wp_seq | with_reducible apply wp_block | with_reducible apply wp_skip | with_reducible apply wp_exit | with_reducible apply wp_ret | ((with_reducible apply wp_cond_true); (focus (first | rfl | (simp [go_sem, *]; done)))) | ((with_reducible apply wp_cond_false); (focus (first | rfl | (simp [go_sem, *]; done)))) | (simp only [Exit.then, Exit.inBlock, ↓reduceIte, Nat.reduceEqDiff]))
  obtain ⟨p, hp⟩ : ∃ p, (f + k) % r = p := ⟨_, rfl⟩
  have e3 : ((f : Int) + (k : Int)) % (r : Int) = (p : Int) := by rw [← hp, Int.natCast_emod, Int.natCast_add]
  have HP := Lib.hid hp
  clear hp hsl hsl0 hmk HX HX1 HL HQ HO
  refine wp_region_effA (S := fun _ => True) (I := (· = World.drew _)) (E := fun i => [21, 24].contains i) (A := fun i => [5, 11, 16].contains i) (by kernel_rfl) (by kernel_rfl) rfl (fun _ _ => trivial) ?_
  generalize hw5 : World.drew w4 = w5
  replace hB_b := hB_b.drew
  replace hB4 := hB4.drew
  replace F4 := F4.drew
  rw [hw5] at hB_b hB4 F4
  clear hw5
  have hc_b := hB_b.cell
  have hf_b := hB_b.frozen
  repeat (first | ((with_reducible apply lexA_q); (focus rfl); (focus rfl); (focus rfl); (focus (intro w' hS; simp [go_sem, effAt, ↓IntWalk.iteOmega, *]; (try go_ints); (first | (with_reducible exact effUpon_val) | (with_reducible exact effUpon_skip)))); (focus ((simp only [Act.put, List.setIfInBounds_toArray, List.set_cons_zero, List.set_cons_succ]; rfl)))) | ((with_reducible apply lexA_s); (focus rfl); (focus ((simp only [Act.put, List.setIfInBounds_toArray, List.set_cons_zero, List.set_cons_succ]; rfl)))) | ((with_reducible apply lexA_a); (focus rfl); (focus rfl); (focus rfl); (focus (intro w' hS; subst hS; simp [go_sem, effAt, ↓IntWalk.iteOmega, *]; (try go_ints); (first | (with_reducible exact effUpon_val) | (with_reducible exact effUpon_skip)))); (focus ((simp only [Act.put, List.setIfInBounds_toArray, List.set_cons_zero, List.set_cons_succ]; rfl)))))
  with_reducible apply lexA_e (fun w' => Blk w' g 42 (cs.setIfInBounds 4096 (.int .i64 (p : Int))) ∧ w5.grownBy w' (some g))
  focus rfl
  focus rfl
  focus
    intro w' hS
    subst hS
    simp [go_sem, effAt, *]
    exact ⟨rfl, hB_b.set_ _ _, grown_set (World.grownBy.refl _ _)⟩
  focus exact fun _ _ => trivial
  (simp only [Act.put, List.setIfInBounds_toArray, List.set_cons_zero, List.set_cons_succ]; rfl)
  repeat (first | ((with_reducible apply lexA_q); (focus rfl); (focus rfl); (focus rfl); (focus (intro w' hS; simp [go_sem, effAt, ↓IntWalk.iteOmega, *]; (try go_ints); (first | (with_reducible exact effUpon_val) | (with_reducible exact effUpon_skip)))); (focus ((simp only [Act.put, List.setIfInBounds_toArray, List.set_cons_zero, List.set_cons_succ]; rfl)))) | ((with_reducible apply lexA_s); (focus rfl); (focus ((simp only [Act.put, List.setIfInBounds_toArray, List.set_cons_zero, List.set_cons_succ]; rfl)))) | ((with_reducible apply lexA_a); (focus rfl); (focus rfl); (focus rfl); (focus (intro w' hS; skip; simp [go_sem, effAt, ↓IntWalk.iteOmega, *]; (try go_ints); (first | (with_reducible exact effUpon_val) | (with_reducible exact effUpon_skip)))); (focus ((simp only [Act.put, List.setIfInBounds_toArray, List.set_cons_zero, List.set_cons_succ]; rfl)))))
  with_reducible apply lexA_e (fun w' => Blk w' g 42 ((cs.setIfInBounds 4096 (.int .i64 (p : Int))).setIfInBounds 4097 (.int .i64 ((n : Int) - k))) ∧ w5.grownBy w' (some g))
  focus rfl
  focus rfl
  focus
    rintro w' ⟨h1, h2⟩
    have hf6 := h1.frozen
    have hc6 := h1.cell
    have h97' : (cs.setIfInBounds 4096 (Value.int .i64 (p : Int)))[4097]? = some (.int .i64 n) := by rw [Array.getElem?_setIfInBounds_ne (by omega)]; exact h97
    simp [go_sem, effAt, *]
    exact ⟨rfl, h1.set_ _ _, grown_set h2⟩
  focus exact fun _ _ => trivial
  (simp only [Act.put, List.setIfInBounds_toArray, List.set_cons_zero, List.set_cons_succ]; rfl)
  with_reducible apply lexA_nil
  rintro w6 ⟨hB6, hg6⟩
  replace hB4 := hB4.grown hg6 (by intro e; injection e with e; omega)
  have hst := run_string_of_blk (P := Try.prog) (src := 45) (dst := 9) (n := k) hB4 k Try.underlying45 Try.underlying5 Try.underlying9 (by simp; omega)
  rw [strOf_bytes] at hst
  generalize (⟨(List.take k xs).toArray⟩ : ByteArray) = out at hst ⊢
  clear hc_b hf_b
  repeat (first | with_reducible apply wpList_nil | with_reducible apply seq_region | with_reducible apply wp_region_lit | ((with_reducible apply seq_q); (focus rfl); (focus (simp [go_sem, effAt, ↓IntWalk.iteOmega, *]; (try go_ints); (first | (with_reducible exact effUpon_val) | (with_reducible exact effUpon_skip)))); (focus ((simp only [Act.put, List.setIfInBounds_toArray, List.set_cons_zero, List.set_cons_succ]; rfl)))) | ((with_reducible apply seq_s); (focus rfl); (focus ((simp only [Act.put, List.setIfInBounds_toArray, List.set_cons_zero, List.set_cons_succ]; rfl)))) | with_reducible apply wp_seq | with_reducible apply wp_block | with_reducible apply wp_skip | with_reducible apply wp_exit | with_reducible apply wp_ret | ((with_reducible apply wp_cond_true); (focus (first | rfl | (simp [go_sem, *]; done)))) | ((with_reducible apply wp_cond_false); (focus (first | rfl | (simp [go_sem, *]; done)))) | (simp only [Exit.then, Exit.inBlock, ↓reduceIte, Nat.reduceEqDiff]))
  go_ret
  refine ⟨rfl, ?_, grown_trans (grown_below F4 (some g)) hg6⟩
  unfold getCells
  rw [HP.out]
  exact hB6
