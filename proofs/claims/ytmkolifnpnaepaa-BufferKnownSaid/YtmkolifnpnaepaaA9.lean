/- The contracts on what a buffer holds; what tells compares. -/
import Derived.Test.YtmkolifnpnaepaaA8
set_option linter.unusedSimpArgs false
set_option linter.unusedVariables false
namespace Go.Proofs.Ytmkolifnpnaepaa
open Go.RowKit Go.Eff
/-- block g is a buffer of room r and mark m that holds t -/
def Buf (w : World) (g r m : Nat) (t : ByteArray) : Prop := ∃ cs f, Blk w g 42 cs ∧ Ring cs f r m t.data.toList
/-- block h is the document's -/
def RBuf (w : World) (h r m : Nat) (t : ByteArray) : Prop := Blk w h 44 #[.int .i64 r, .int .i64 m, .string t]
theorem data_len (t : ByteArray) : t.data.toList.length = t.size := Array.length_toList
theorem Buf.lt {w : World} {g r m : Nat} {t : ByteArray} (h : Buf w g r m t) : g < w.heap.size := by obtain ⟨cs, f, hB, _⟩ := h; exact hB.lt
theorem Buf.below {B : Nat} {w w' : World} {g r m : Nat} {t : ByteArray} (h : Buf w g r m t) (hb : Below B w w') (hg : g < B) : Buf w' g r m t := by obtain ⟨cs, f, hB, hR⟩ := h; exact ⟨cs, f, hB.below hb hg, hR⟩
theorem Buf.grown {w w' : World} {g r m : Nat} {t : ByteArray} {row : Option Nat} (h : Buf w g r m t) (hb : w.grownBy w' row) (hg : some g ≠ row) : Buf w' g r m t := by obtain ⟨cs, f, hB, hR⟩ := h; exact ⟨cs, f, hB.grown hb hg, hR⟩
theorem RBuf.grown {w w' : World} {g r m : Nat} {t : ByteArray} {row : Option Nat} (h : RBuf w g r m t) (hb : w.grownBy w' row) (hg : some g ≠ row) : RBuf w' g r m t := Blk.grown h hb hg
theorem RBuf.below {B : Nat} {w w' : World} {g r m : Nat} {t : ByteArray} (h : RBuf w g r m t) (hb : Below B w w') (hg : g < B) : RBuf w' g r m t := Blk.below h hb hg
theorem RBuf.lt {w : World} {g r m : Nat} {t : ByteArray} (h : RBuf w g r m t) : g < w.heap.size := Blk.lt h
theorem Buf.room {w : World} {g r m : Nat} {t : ByteArray} (h : Buf w g r m t) : t.size ≤ r ∧ r ≤ 4096 ∧ m ≤ r ∧ 0 < r := by
  obtain ⟨cs, f, hB, hR⟩ := h
  have := hR.b1; have := hR.b2; have := hR.b3; have := hR.b4
  rw [data_len] at *
  omega
theorem app_list (t s : ByteArray) (k : Nat) : (t ++ s.extract 0 k).data.toList = t.data.toList ++ s.data.toList.take k := by
  simp [ByteArray.data_append, ByteArray.data_extract, Array.toList_extract, List.extract]
theorem cut_list (t : ByteArray) (k : Nat) : (t.extract k t.size).data.toList = t.data.toList.drop k := by
  rw [ByteArray.data_extract, Array.toList_extract, List.extract, List.take_of_length_le]
  rw [List.length_drop, data_len]
  omega
theorem head_eq (t : ByteArray) (k : Nat) : (⟨(t.data.toList.take k).toArray⟩ : ByteArray) = t.extract 0 k := by
  apply ByteArray.ext
  rw [ByteArray.data_extract]
  apply Array.toList_inj.1
  simp [Array.toList_extract, List.extract]
theorem put_buf (g r m : Nat) (t s : ByteArray) (k : Nat) (w : World) (hB : Buf w g r m t) (hs : s.size ≤ 200) (hk : min s.size (r - t.size) = k) :
    Calls Try.prog 13 #[.pointer (some ⟨g, 0, none⟩), .string s] w (Ret (.int .i64 k) fun w' => Buf w' g r m (t ++ s.extract 0 k) ∧ w.grownBy w' (some g)) := by
  have hr := hB.room
  obtain ⟨cs, f, hB, R⟩ := hB
  have h97 := R.h97
  rw [data_len] at h97
  by_cases h0 : k = 0
  · subst h0
    refine (put_zero g cs t.size r s w hB h97 R.h98 hr.1 hr.2.1 hk).mono fun e w' ⟨he, hw⟩ => ⟨he, ⟨cs, f, hB.below hw hB.lt, ?_⟩, grown_below hw _⟩
    rw [app_list]
    simpa using R
  · obtain ⟨p, hp⟩ : ∃ p, (f + t.size) % r = p := ⟨_, rfl⟩
    refine (put_walk g cs f t.size r m s k w hB R.h96 h97 R.h98 R.h99 (by omega) hr.2.1 R.b3 (by omega) hs hk.symm R.hz p hp).mono fun e w' ⟨he, hw, hg⟩ => ⟨he, ⟨_, f, hw, ?_⟩, hg⟩
    rw [app_list]
    have := ring_put R s k p (by rw [data_len]; omega) (by omega) (by rw [data_len]; exact hp)
    rw [data_len] at this
    exact this
theorem get_buf (g r m : Nat) (t : ByteArray) (most : Int) (k : Nat) (w : World) (hB : Buf w g r m t) (hk : max 0 (min (t.size : Int) most) = (k : Int)) :
    Calls Try.prog 11 #[.pointer (some ⟨g, 0, none⟩), .int .i64 most] w (Ret (.string (t.extract 0 k)) fun w' => Buf w' g r m (t.extract k t.size) ∧ w.grownBy w' (some g)) := by
  have hr := hB.room
  obtain ⟨cs, f, hB, R⟩ := hB
  have h97 := R.h97
  rw [data_len] at h97
  rw [← head_eq]
  by_cases h0 : k = 0
  · subst h0
    refine (get_zero g cs t.size most w hB h97 hk).mono fun e w' ⟨he, hw⟩ => ⟨he, ⟨cs, f, hB.below hw hB.lt, ?_⟩, grown_below hw _⟩
    rw [cut_list]
    exact R
  · refine (get_walk g cs f t.size r m t.data.toList most k w hB R.h96 h97 R.h98 R.h99 hr.1 hr.2.1 R.b3 (by omega) (by omega) (by omega) R.hz (by rw [data_len]; omega) (fun j hj => R.hL j (by rw [data_len]; omega))).mono fun e w' ⟨he, hw, hg⟩ => ⟨he, ⟨_, (f + k) % r, hw, ?_⟩, hg⟩
    rw [cut_list]
    have := ring_get R k (by rw [data_len]; omega)
    rw [data_len] at this
    exact this
theorem len_buf (g r m : Nat) (t : ByteArray) (w : World) (hB : Buf w g r m t) : Calls Try.prog 17 #[.pointer (some ⟨g, 0, none⟩)] w (Ret (.int .i64 t.size) (Below w.heap.size w)) := by
  obtain ⟨cs, f, hB, R⟩ := hB
  have h97 := R.h97
  rw [data_len] at h97
  exact len_any g cs _ w hB h97
theorem free_buf (g r m : Nat) (t : ByteArray) (w : World) (hB : Buf w g r m t) : Calls Try.prog 16 #[.pointer (some ⟨g, 0, none⟩)] w (Ret (.int .i64 ((r : Int) - t.size)) (Below w.heap.size w)) := by
  have hr := hB.room
  obtain ⟨cs, f, hB, R⟩ := hB
  have h97 := R.h97
  rw [data_len] at h97
  exact free_any g cs _ _ w hB h97 R.h98 (by omega) (by omega)
theorem high_buf (g r m : Nat) (t : ByteArray) (w : World) (hB : Buf w g r m t) : Calls Try.prog 19 #[.pointer (some ⟨g, 0, none⟩)] w (Ret (.bool (decide ((r : Int) - t.size < m))) (Below w.heap.size w)) := by
  have hr := hB.room
  obtain ⟨cs, f, hB, R⟩ := hB
  have h97 := R.h97
  rw [data_len] at h97
  exact high_any g cs _ _ _ w hB h97 R.h98 R.h99 (by omega) (by omega)
theorem low_buf (g r m : Nat) (t : ByteArray) (w : World) (hB : Buf w g r m t) : Calls Try.prog 18 #[.pointer (some ⟨g, 0, none⟩)] w (Ret (.bool (((t.size : Int) == 0) || decide (2 * (m : Int) ≤ (r : Int) - t.size))) (Below w.heap.size w)) := by
  have hr := hB.room
  obtain ⟨cs, f, hB, R⟩ := hB
  have h97 := R.h97
  rw [data_len] at h97
  exact low_any g cs _ _ _ w hB h97 R.h98 R.h99 (by omega) (by omega) (by omega)
theorem tells_any (g h r m : Nat) (t : ByteArray) (w : World) (hB : Buf w g r m t) (hB_r : RBuf w h r m t) : Calls Try.prog 15 #[.pointer (some ⟨g, 0, none⟩), .pointer (some ⟨h, 0, none⟩)] w (Ret (.bool true) (Below w.heap.size w)) := by
  have hr := hB.room
  have hlt := hB.lt
  have hH := high_buf g r m t
  have hL := low_buf g r m t
  have hRH := rhigh_any h t r m
  have hRL := rlow_any h t r m
  unfold RBuf at hB_r
  go_enter Try.func15, Try.ntmps15
  have F0 : Below w.heap.size w w := Below.refl _ _
  have hc_r := hB_r.cell
  repeat (first | with_reducible apply wpList_nil | with_reducible apply seq_region | with_reducible apply wp_region_lit | ((with_reducible apply seq_q); (focus rfl); (focus (simp [go_sem, effAt, ↓IntWalk.iteOmega, *]; (try go_ints); (first | (with_reducible exact effUpon_val) | (with_reducible exact effUpon_skip)))); (focus ((simp only [Act.put, List.setIfInBounds_toArray, List.set_cons_zero, List.set_cons_succ]; rfl)))) | ((with_reducible apply seq_s); (focus rfl); (focus ((simp only [Act.put, List.setIfInBounds_toArray, List.set_cons_zero, List.set_cons_succ]; rfl)))) | with_reducible apply wp_seq | with_reducible apply wp_block | with_reducible apply wp_skip | with_reducible apply wp_exit | with_reducible apply wp_ret | ((with_reducible apply wp_cond_true); (focus (first | rfl | (simp [go_sem, *]; done)))) | ((with_reducible apply wp_cond_false); (focus (first | rfl | (simp [go_sem, *]; done)))) | (simp only [Exit.then, Exit.inBlock, ↓reduceIte, Nat.reduceEqDiff]))
  refine wp_region_pure (E := fun i => [1, 10, 25, 27, 32, 34].contains i) (by kernel_rfl) (by kernel_rfl) ?_
  repeat (first | ((with_reducible apply lex_q); (focus rfl); (focus rfl); (focus (intro w' hS; have hc_r := (hB_r.below hS hB_r.lt).cell; simp [go_sem, effAt, ↓IntWalk.iteOmega, *]; (try go_ints); (first | (with_reducible exact effUpon_val) | (with_reducible exact effUpon_skip)))); (focus ((simp only [Act.put, List.setIfInBounds_toArray, List.set_cons_zero, List.set_cons_succ]; rfl)))) | ((with_reducible apply lex_s); (focus rfl); (focus ((simp only [Act.put, List.setIfInBounds_toArray, List.set_cons_zero, List.set_cons_succ]; rfl)))))
  ((with_reducible apply lex_e (Below w.heap.size w)); (focus rfl); (focus rfl); (focus (intro w' hS; simp only [effAt]; simp [go_sem]; (with_reducible exact eff_call hS (len_buf g r m t _ (hB.below hS hlt))))); (focus (exact fun _ h => h)); (focus ((simp only [Act.put, List.setIfInBounds_toArray, List.set_cons_zero, List.set_cons_succ]; rfl))))
  repeat (first | ((with_reducible apply lex_q); (focus rfl); (focus rfl); (focus (intro w' hS; have hc_r := (hB_r.below hS hB_r.lt).cell; simp [go_sem, effAt, ↓IntWalk.iteOmega, *]; (try go_ints); (first | (with_reducible exact effUpon_val) | (with_reducible exact effUpon_skip)))); (focus ((simp only [Act.put, List.setIfInBounds_toArray, List.set_cons_zero, List.set_cons_succ]; rfl)))) | ((with_reducible apply lex_s); (focus rfl); (focus ((simp only [Act.put, List.setIfInBounds_toArray, List.set_cons_zero, List.set_cons_succ]; rfl)))))
  ((with_reducible apply lex_e (Below w.heap.size w)); (focus rfl); (focus rfl); (focus (intro w' hS; simp only [effAt]; simp [go_sem]; (with_reducible exact eff_call hS (free_buf g r m t _ (hB.below hS hlt))))); (focus (exact fun _ h => h)); (focus ((simp only [Act.put, List.setIfInBounds_toArray, List.set_cons_zero, List.set_cons_succ]; rfl))))
  repeat (first | ((with_reducible apply lex_q); (focus rfl); (focus rfl); (focus (intro w' hS; have hc_r := (hB_r.below hS hB_r.lt).cell; simp [go_sem, effAt, ↓IntWalk.iteOmega, *]; (try go_ints); (first | (with_reducible exact effUpon_val) | (with_reducible exact effUpon_skip)))); (focus ((simp only [Act.put, List.setIfInBounds_toArray, List.set_cons_zero, List.set_cons_succ]; rfl)))) | ((with_reducible apply lex_s); (focus rfl); (focus ((simp only [Act.put, List.setIfInBounds_toArray, List.set_cons_zero, List.set_cons_succ]; rfl)))))
  generalize decide ((r : Int) - t.size < m) = b1 at hH hRH
  ((with_reducible apply lex_e (Below w.heap.size w)); (focus rfl); (focus rfl); (focus (intro w' hS; simp only [effAt]; simp [go_sem]; (with_reducible exact eff_call hS (hH _ (hB.below hS hlt))))); (focus (exact fun _ h => h)); (focus ((simp only [Act.put, List.setIfInBounds_toArray, List.set_cons_zero, List.set_cons_succ]; rfl))))
  repeat (first | ((with_reducible apply lex_q); (focus rfl); (focus rfl); (focus (intro w' hS; have hc_r := (hB_r.below hS hB_r.lt).cell; simp [go_sem, effAt, ↓IntWalk.iteOmega, *]; (try go_ints); (first | (with_reducible exact effUpon_val) | (with_reducible exact effUpon_skip)))); (focus ((simp only [Act.put, List.setIfInBounds_toArray, List.set_cons_zero, List.set_cons_succ]; rfl)))) | ((with_reducible apply lex_s); (focus rfl); (focus ((simp only [Act.put, List.setIfInBounds_toArray, List.set_cons_zero, List.set_cons_succ]; rfl)))))
  ((with_reducible apply lex_e (Below w.heap.size w)); (focus rfl); (focus rfl); (focus (intro w' hS; simp only [effAt]; simp [go_sem]; (with_reducible exact eff_call hS (hRH _ (hB_r.below hS hB_r.lt) (by omega) (by omega))))); (focus (exact fun _ h => h)); (focus ((simp only [Act.put, List.setIfInBounds_toArray, List.set_cons_zero, List.set_cons_succ]; rfl))))
  repeat (first | ((with_reducible apply lex_q); (focus rfl); (focus rfl); (focus (intro w' hS; have hc_r := (hB_r.below hS hB_r.lt).cell; simp [go_sem, effAt, ↓IntWalk.iteOmega, *]; (try go_ints); (first | (with_reducible exact effUpon_val) | (with_reducible exact effUpon_skip)))); (focus ((simp only [Act.put, List.setIfInBounds_toArray, List.set_cons_zero, List.set_cons_succ]; rfl)))) | ((with_reducible apply lex_s); (focus rfl); (focus ((simp only [Act.put, List.setIfInBounds_toArray, List.set_cons_zero, List.set_cons_succ]; rfl)))))
  generalize (((t.size : Int) == 0) || decide (2 * (m : Int) ≤ (r : Int) - t.size)) = b2 at hL hRL
  ((with_reducible apply lex_e (Below w.heap.size w)); (focus rfl); (focus rfl); (focus (intro w' hS; simp only [effAt]; simp [go_sem]; (with_reducible exact eff_call hS (hL _ (hB.below hS hlt))))); (focus (exact fun _ h => h)); (focus ((simp only [Act.put, List.setIfInBounds_toArray, List.set_cons_zero, List.set_cons_succ]; rfl))))
  repeat (first | ((with_reducible apply lex_q); (focus rfl); (focus rfl); (focus (intro w' hS; have hc_r := (hB_r.below hS hB_r.lt).cell; simp [go_sem, effAt, ↓IntWalk.iteOmega, *]; (try go_ints); (first | (with_reducible exact effUpon_val) | (with_reducible exact effUpon_skip)))); (focus ((simp only [Act.put, List.setIfInBounds_toArray, List.set_cons_zero, List.set_cons_succ]; rfl)))) | ((with_reducible apply lex_s); (focus rfl); (focus ((simp only [Act.put, List.setIfInBounds_toArray, List.set_cons_zero, List.set_cons_succ]; rfl)))))
  ((with_reducible apply lex_e (Below w.heap.size w)); (focus rfl); (focus rfl); (focus (intro w' hS; simp only [effAt]; simp [go_sem]; (with_reducible exact eff_call hS (hRL _ (hB_r.below hS hB_r.lt) (by omega) (by omega) (by omega))))); (focus (exact fun _ h => h)); (focus ((simp only [Act.put, List.setIfInBounds_toArray, List.set_cons_zero, List.set_cons_succ]; rfl))))
  repeat (first | ((with_reducible apply lex_q); (focus rfl); (focus rfl); (focus (intro w' hS; have hc_r := (hB_r.below hS hB_r.lt).cell; simp [go_sem, effAt, ↓IntWalk.iteOmega, *]; (try go_ints); (first | (with_reducible exact effUpon_val) | (with_reducible exact effUpon_skip)))); (focus ((simp only [Act.put, List.setIfInBounds_toArray, List.set_cons_zero, List.set_cons_succ]; rfl)))) | ((with_reducible apply lex_s); (focus rfl); (focus ((simp only [Act.put, List.setIfInBounds_toArray, List.set_cons_zero, List.set_cons_succ]; rfl)))))
  with_reducible apply lex_nil
  intro w1 hs
  have Fw1 := F0.trans (hs.mono F0.size)
  replace hB_r := hB_r.below hs hB_r.lt
  clear hs F0
  clear hc_r; have hc_r := hB_r.cell
  repeat (first | with_reducible apply wpList_nil | with_reducible apply seq_region | with_reducible apply wp_region_lit | ((with_reducible apply seq_q); (focus rfl); (focus (simp [go_sem, effAt, ↓IntWalk.iteOmega, *]; (try go_ints); (first | (with_reducible exact effUpon_val) | (with_reducible exact effUpon_skip)))); (focus ((simp only [Act.put, List.setIfInBounds_toArray, List.set_cons_zero, List.set_cons_succ]; rfl)))) | ((with_reducible apply seq_s); (focus rfl); (focus ((simp only [Act.put, List.setIfInBounds_toArray, List.set_cons_zero, List.set_cons_succ]; rfl)))) | with_reducible apply wp_seq | with_reducible apply wp_block | with_reducible apply wp_skip | with_reducible apply wp_exit | with_reducible apply wp_ret | ((with_reducible apply wp_cond_true); (focus (first | rfl | (simp [go_sem, *]; done)))) | ((with_reducible apply wp_cond_false); (focus (first | rfl | (simp [go_sem, *]; done)))) | (simp only [Exit.then, Exit.inBlock, ↓reduceIte, Nat.reduceEqDiff]))
  go_ret
  exact ⟨rfl, by assumption⟩
