/- The walks of a queue's Put, Peek, Next, Clear. -/
import Derived.Test.YtcklobbholdpbaaQ2
set_option linter.unusedSimpArgs false
set_option linter.unusedVariables false
namespace Go.Proofs.Ytcklobbholdpbaa
open Go.RowKit Go.Eff
/-- the ring's cells behind a Put of k bytes, q of them up to the ring's end -/
def putCells (cs : Array Value) (p q k : Nat) (s : ByteArray) : Array Value := writeAt (writeAt cs p (s.data.toList.take q)) 0 ((s.data.toList.take k).drop q)
theorem Fds.turn {T : Nat → Prop} {w w' : World} {g b r f n : Nat} (h : Fds w g b r f n) (hb : Turn T w w') (hg : ¬ T g) : Fds w' g b r f n := Blk.turn h hb hg
/-- on the way: the fields, the ring's cells, and what has turned -/
def Mid (w0 : World) (g b r f n : Nat) (cs : Array Value) (w : World) : Prop := Fds w g b r f n ∧ Blk w b 5 cs ∧ Turn (fun i => i = g ∨ i = b) w0 w
section
variable {w0 w : World} {g b r f n : Nat} {cs : Array Value}
theorem Mid.q (h : Mid w0 g b r f n cs w) : Fds w g b r f n := h.1
theorem Mid.c (h : Mid w0 g b r f n cs w) : Blk w b 5 cs := h.2.1
theorem Mid.t (h : Mid w0 g b r f n cs w) : Turn (fun i => i = g ∨ i = b) w0 w := h.2.2
theorem Mid.drew (h : Mid w0 g b r f n cs w) : Mid w0 g b r f n cs w.drew := ⟨Blk.drew h.1, h.2.1.drew, h.2.2.drew⟩
theorem Mid.row (h : Mid w0 g b r f n cs w) (hgb : g ≠ b) (cs' : Array Value) : Mid w0 g b r f n cs' (w.setRow b cs') := by
  obtain ⟨h1, h2⟩ := setRow_blk h.c cs'
  exact ⟨Blk.grown h.q h2 (by intro e; injection e with e; exact hgb e), h1, h.t.trans (Turn.of_grown h2 (.inr rfl))⟩
end
theorem ba_empty (u : ByteArray) (h : u.size = 0) : u.toList.isEmpty = true ∧ u.toList = [] := by
  have h1 : u.toList.isEmpty = true := by
    rw [ByteArray.toList_eq]; have h3 : u.data = #[] := Array.eq_empty_of_size_eq_zero h; simp [h3]
  exact ⟨h1, by simpa using h1⟩
theorem ba_full (u : ByteArray) (h : u.size ≠ 0) : u.toList.isEmpty = false ∧ ¬ u.toList = [] := by
  have h1 : u.toList.isEmpty = false := by
    rw [ByteArray.toList_eq]; have h3 : u.data ≠ #[] := fun e => h (by rw [show u.size = u.data.size from rfl, e]; rfl); simpa using h3
  exact ⟨h1, by simpa using h1⟩
theorem apart_of {w : World} {g b r f n : Nat} {cs : Array Value} (h : Fds w g b r f n) (hB : Blk w b 5 cs) : g ≠ b := by
  intro e
  subst e
  unfold Fds Blk at h
  unfold Blk at hB
  rw [h] at hB
  injection hB with hB
  injection hB with _ h2
  injection h2 with h2
  exact absurd h2 (by decide)
set_option maxHeartbeats 1000000 in
theorem put_walk (g b : Nat) (cs : Array Value) (f n r : Nat) (s : ByteArray) (k : Nat) (w : World) (hB_q : Fds w g b r f n) (hR : Blk w b 5 cs)
    (b1 : n < r) (b2 : r ≤ 4096) (b3 : f < r) (b4 : 0 < s.size) (b5 : s.size ≤ 9223372036854775807) (hk : k = min s.size (r - n)) (hz : cs.size = r) (p : Nat) (hp : (f + n) % r = p) :
    Calls Try.prog 18 #[.pointer (some ⟨g, 0, none⟩), .string s] w (Ret (.int .i64 k) fun w' => Fds w' g b r f (n + k) ∧ Blk w' b 5 (putCells cs p (min k (r - p)) k s) ∧ Turn (fun i => i = g ∨ i = b) w w') := by
  have hgb := apart_of hB_q hR
  have e1 : min ((r : Int) - n) (s.size : Int) = (k : Int) := by omega
  have e2 : ((k : Int) == 0) = false := by simp; omega
  have hk1 : 0 < k := by omega
  have hk2 : k ≤ s.size := by omega
  have hk3 : k + n ≤ r := by omega
  have hx0 : (s.extract 0 k).size = k := by simp; omega
  obtain ⟨hk4, hk5⟩ := ba_full (s.extract 0 k) (by omega)
  clear hk
  have e3 : ((f : Int) + (n : Int)) % (r : Int) = (p : Int) := by rw [← hp, Int.natCast_emod, Int.natCast_add]
  have e4 : Int.tmod ((f : Int) + (n : Int)) (r : Int) = (p : Int) := by rw [Int.tmod_eq_emod_of_nonneg (by omega)]; exact e3
  have hp1 : p < r := by rw [← hp]; exact Nat.mod_lt _ (by omega)
  clear hp
  obtain ⟨q, hq⟩ : ∃ q, q = min k (r - p) := ⟨_, rfl⟩
  have hq1 : q ≤ k := by omega
  have hq2 : q ≤ r - p := by omega
  have hq3 : k - q ≤ r := by omega
  have HQ : Hid (q = min k (r - p)) := hq
  clear hq
  obtain ⟨oa, ho1, ho2, hsl⟩ := slice_rest b r p (by omega) b2
  obtain rfl := ho1 hp1
  have hF := fun w h => free_any g b r f n w h (by omega) b2
  unfold Fds at *
  go_enter Try.func18, Try.ntmps18
  have F0 : Below w.heap.size w w := Below.refl _ _
  have hc_q := hB_q.cell
  repeat (first | with_reducible apply wpList_nil | with_reducible apply seq_region | with_reducible apply wp_region_lit | ((with_reducible apply seq_q); (focus rfl); (focus (simp [go_sem, effAt, ↓IntWalk.iteOmega, *]; (try go_ints); (first | (with_reducible exact effUpon_val) | (with_reducible exact effUpon_skip)))); (focus ((simp only [Act.put, List.setIfInBounds_toArray, List.set_cons_zero, List.set_cons_succ]; rfl)))) | ((with_reducible apply seq_s); (focus rfl); (focus ((simp only [Act.put, List.setIfInBounds_toArray, List.set_cons_zero, List.set_cons_succ]; rfl)))) | with_reducible apply wp_seq | with_reducible apply wp_block | with_reducible apply wp_skip | with_reducible apply wp_exit | with_reducible apply wp_ret | ((with_reducible apply wp_cond_true); (focus (first | rfl | (simp [go_sem, *]; done)))) | ((with_reducible apply wp_cond_false); (focus (first | rfl | (simp [go_sem, *]; done)))) | (simp only [Exit.then, Exit.inBlock, ↓reduceIte, Nat.reduceEqDiff]))
  ((with_reducible apply seq_e (Below w.heap.size w)); (focus rfl); (focus (simp only [effAt]; simp [go_sem]; (with_reducible exact effUpon_enter (hF _ hB_q)))); (focus ((simp only [Act.put, List.setIfInBounds_toArray, List.set_cons_zero, List.set_cons_succ]; rfl))))
  intro w1 hs
  have Fw1 := F0.trans (hs.mono F0.size)
  replace hB_q := hB_q.below hs hB_q.lt
  clear hs F0
  clear hc_q; have hc_q := hB_q.cell
  repeat (first | with_reducible apply wpList_nil | with_reducible apply seq_region | with_reducible apply wp_region_lit | ((with_reducible apply seq_q); (focus rfl); (focus (simp [go_sem, effAt, ↓IntWalk.iteOmega, *]; (try go_ints); (first | (with_reducible exact effUpon_val) | (with_reducible exact effUpon_skip)))); (focus ((simp only [Act.put, List.setIfInBounds_toArray, List.set_cons_zero, List.set_cons_succ]; rfl)))) | ((with_reducible apply seq_s); (focus rfl); (focus ((simp only [Act.put, List.setIfInBounds_toArray, List.set_cons_zero, List.set_cons_succ]; rfl)))) | with_reducible apply wp_seq | with_reducible apply wp_block | with_reducible apply wp_skip | with_reducible apply wp_exit | with_reducible apply wp_ret | ((with_reducible apply wp_cond_true); (focus (first | rfl | (simp [go_sem, *]; done)))) | ((with_reducible apply wp_cond_false); (focus (first | rfl | (simp [go_sem, *]; done)))) | (simp only [Exit.then, Exit.inBlock, ↓reduceIte, Nat.reduceEqDiff]))
  refine wp_region_pure (E := fun i => [].contains i) (by kernel_rfl) (by kernel_rfl) ?_
  repeat (first | ((with_reducible apply lex_q); (focus rfl); (focus rfl); (focus (intro w' hS; have hc_q := (hB_q.below hS hB_q.lt).cell; simp [go_sem, effAt, ↓IntWalk.iteOmega, *]; (try go_ints); (first | (with_reducible exact effUpon_val) | (with_reducible exact effUpon_skip)))); (focus ((simp only [Act.put, List.setIfInBounds_toArray, List.set_cons_zero, List.set_cons_succ]; rfl)))) | ((with_reducible apply lex_s); (focus rfl); (focus ((simp only [Act.put, List.setIfInBounds_toArray, List.set_cons_zero, List.set_cons_succ]; rfl)))))
  with_reducible apply lex_nil
  intro w2 hs
  have Fw2 := Fw1.trans (hs.mono Fw1.size)
  replace hB_q := hB_q.below hs hB_q.lt
  clear hs Fw1
  clear hc_q; have hc_q := hB_q.cell
  have HX := Lib.hid hx0
  clear hx0
  repeat (first | with_reducible apply wpList_nil | with_reducible apply seq_region | with_reducible apply wp_region_lit | with_reducible apply wp_seq | with_reducible apply wp_block | with_reducible apply wp_skip | with_reducible apply wp_exit | with_reducible apply wp_ret | ((with_reducible apply wp_cond_true); (focus (first | rfl | (simp [go_sem, *]; done)))) | ((with_reducible apply wp_cond_false); (focus (first | rfl | (simp [go_sem, *]; done)))) | (simp only [Exit.then, Exit.inBlock, ↓reduceIte, Nat.reduceEqDiff]))
  repeat (first | ((with_reducible apply seq_q); (focus rfl); (focus (simp [go_sem, effAt, ↓IntWalk.iteOmega, *]; (try go_ints); (first | (with_reducible exact effUpon_val) | (with_reducible exact effUpon_skip)))); (focus ((simp only [Act.put, List.setIfInBounds_toArray, List.set_cons_zero, List.set_cons_succ]; rfl)))) | ((with_reducible apply seq_s); (focus rfl); (focus ((simp only [Act.put, List.setIfInBounds_toArray, List.set_cons_zero, List.set_cons_succ]; rfl)))))
  have hM : Mid w g b r f n cs w2 := ⟨hB_q, hR.below (by assumption) hR.lt, Turn.of_below (by assumption)⟩
  have hcp := run_copy_str w2 3 b oa (r - oa) (r - oa) q 5 (s.extract 0 k) cs hM.c (by rw [HX.out]; exact HQ.out) (by omega)
  rw [take_extract s q k hq1] at hcp
  with_reducible apply seq_e (Mid w g b r f n (writeAt cs oa (s.data.toList.take q)))
  focus rfl
  focus (simp [go_sem, effAt, hcp]; exact ⟨rfl, hM.row hgb _⟩)
  (simp only [Act.put, List.setIfInBounds_toArray, List.set_cons_zero, List.set_cons_succ]; rfl)
  rintro w3 hM3
  clear hM hcp hc_q hB_q
  have hz1 : (writeAt cs oa (s.data.toList.take q)).size = r := by rw [writeAt_size _ _ _ (by simp; omega), hz]
  generalize hcs1 : writeAt cs oa (s.data.toList.take q) = cs1 at *
  have HC := Lib.hid hcs1
  clear hcs1
  repeat (first | with_reducible apply wpList_nil | with_reducible apply seq_region | with_reducible apply wp_region_lit | ((with_reducible apply seq_q); (focus rfl); (focus (simp [go_sem, effAt, ↓IntWalk.iteOmega, *]; (try go_ints); (first | (with_reducible exact effUpon_val) | (with_reducible exact effUpon_skip)))); (focus ((simp only [Act.put, List.setIfInBounds_toArray, List.set_cons_zero, List.set_cons_succ]; rfl)))) | ((with_reducible apply seq_s); (focus rfl); (focus ((simp only [Act.put, List.setIfInBounds_toArray, List.set_cons_zero, List.set_cons_succ]; rfl)))) | with_reducible apply wp_seq | with_reducible apply wp_block | with_reducible apply wp_skip | with_reducible apply wp_exit | with_reducible apply wp_ret | ((with_reducible apply wp_cond_true); (focus (first | rfl | (simp [go_sem, *]; done)))) | ((with_reducible apply wp_cond_false); (focus (first | rfl | (simp [go_sem, *]; done)))) | (simp only [Exit.then, Exit.inBlock, ↓reduceIte, Nat.reduceEqDiff]))
  refine wp_region_eff (S := fun w' => Fds w' g b r f n) (I := (· = World.drew _)) (E := fun i => [7].contains i) (by kernel_rfl) (by kernel_rfl) rfl (fun w' h => h ▸ hM3.drew.q) ?_
  repeat (first | ((with_reducible apply lex_q); (focus rfl); (focus rfl); (focus (intro w' hS; have hc_q := Blk.cell hS; simp [go_sem, effAt, ↓IntWalk.iteOmega, *]; (try go_ints); (first | (with_reducible exact effUpon_val) | (with_reducible exact effUpon_skip)))); (focus ((simp only [Act.put, List.setIfInBounds_toArray, List.set_cons_zero, List.set_cons_succ]; rfl)))) | ((with_reducible apply lex_s); (focus rfl); (focus ((simp only [Act.put, List.setIfInBounds_toArray, List.set_cons_zero, List.set_cons_succ]; rfl)))))
  have hx1 : (s.extract q k).size = k - q := by simp; omega
  have hcp := run_copy_str w3.drew 3 b 0 r r (k - q) 5 (s.extract q k) cs1 hM3.drew.c (by rw [hx1]; omega) (by omega)
  rw [drop_extract s q k (k - q) hk2 rfl] at hcp
  have HX1 := Lib.hid hx1
  clear hx1
  with_reducible apply lex_e (Mid w g b r f n (writeAt cs1 0 ((s.data.toList.take k).drop q)))
  focus rfl
  focus rfl
  focus
    intro w' hw'
    subst hw'
    have hee : (s.extract 0 k).extract q k = s.extract q k := by
      rw [ByteArray.extract_extract]
      congr 1 <;> omega
    simp only [effAt]
    simp [go_sem, hee, hcp]
    exact ⟨rfl, hM3.drew.row hgb _⟩
  focus exact fun _ h => h.q
  (simp only [Act.put, List.setIfInBounds_toArray, List.set_cons_zero, List.set_cons_succ]; rfl)
  clear hcp
  with_reducible apply lex_nil
  rintro w4 hM4
  clear hM3
  have hB4 := hM4.q
  unfold Fds at hB4
  have hc4 := hB4.cell
  have hf4 := hB4.frozen
  have hx2 := HX.out
  repeat (first | with_reducible apply wpList_nil | with_reducible apply seq_region | with_reducible apply wp_region_lit | ((with_reducible apply seq_q); (focus rfl); (focus (simp [go_sem, effAt, ↓IntWalk.iteOmega, *]; (try go_ints); (first | (with_reducible exact effUpon_val) | (with_reducible exact effUpon_skip)))); (focus ((simp only [Act.put, List.setIfInBounds_toArray, List.set_cons_zero, List.set_cons_succ]; rfl)))) | ((with_reducible apply seq_s); (focus rfl); (focus ((simp only [Act.put, List.setIfInBounds_toArray, List.set_cons_zero, List.set_cons_succ]; rfl)))) | with_reducible apply wp_seq | with_reducible apply wp_block | with_reducible apply wp_skip | with_reducible apply wp_exit | with_reducible apply wp_ret | ((with_reducible apply wp_cond_true); (focus (first | rfl | (simp [go_sem, *]; done)))) | ((with_reducible apply wp_cond_false); (focus (first | rfl | (simp [go_sem, *]; done)))) | (simp only [Exit.then, Exit.inBlock, ↓reduceIte, Nat.reduceEqDiff]))
  with_reducible apply seq_e (fun w' => Blk w' g 42 #[.slice (some ⟨b, 0, none⟩) r r, .int .i64 (f : Int), .int .i64 ((n : Int) + k)] ∧ w4.grownBy w' (some g))
  focus rfl
  focus
    simp [go_sem, effAt, *]
    exact ⟨rfl, hB4.set_ 2 _, grown_set (World.grownBy.refl _ _)⟩
  (simp only [Act.put, List.setIfInBounds_toArray, List.set_cons_zero, List.set_cons_succ]; rfl)
  rintro w5 ⟨hB5, hg5⟩
  clear hc4 hf4
  repeat (first | with_reducible apply wpList_nil | with_reducible apply seq_region | with_reducible apply wp_region_lit | ((with_reducible apply seq_q); (focus rfl); (focus (simp [go_sem, effAt, ↓IntWalk.iteOmega, *]; (try go_ints); (first | (with_reducible exact effUpon_val) | (with_reducible exact effUpon_skip)))); (focus ((simp only [Act.put, List.setIfInBounds_toArray, List.set_cons_zero, List.set_cons_succ]; rfl)))) | ((with_reducible apply seq_s); (focus rfl); (focus ((simp only [Act.put, List.setIfInBounds_toArray, List.set_cons_zero, List.set_cons_succ]; rfl)))) | with_reducible apply wp_seq | with_reducible apply wp_block | with_reducible apply wp_skip | with_reducible apply wp_exit | with_reducible apply wp_ret | ((with_reducible apply wp_cond_true); (focus (first | rfl | (simp [go_sem, *]; done)))) | ((with_reducible apply wp_cond_false); (focus (first | rfl | (simp [go_sem, *]; done)))) | (simp only [Exit.then, Exit.inBlock, ↓reduceIte, Nat.reduceEqDiff]))
  go_ret
  refine ⟨rfl, by rw [Int.natCast_add]; exact hB5, ?_, hM4.t.trans (Turn.of_grown hg5 (.inl rfl))⟩
  have h5 := hM4.c.grown hg5 (by intro e; injection e with e; exact hgb e.symm)
  unfold putCells
  rw [← HQ.out, HC.out]
  exact h5
