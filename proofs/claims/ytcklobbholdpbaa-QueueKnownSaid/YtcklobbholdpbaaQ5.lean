/- What a queue holds, as a text: the contracts of its calls. -/
import Derived.Test.YtcklobbholdpbaaQ4
set_option linter.unusedSimpArgs false
set_option linter.unusedVariables false
namespace Go.Proofs.Ytcklobbholdpbaa
open Go.RowKit Go.Eff
/-- a ring's cells hold the bytes xs from place f on -/
structure Rg (cs : Array Value) (f r : Nat) (xs : List UInt8) : Prop where
  hz : cs.size = r
  b1 : xs.length ≤ r
  b2 : r ≤ 4096
  b3 : f < r
  hL : ∀ j, j < xs.length → cs[(f + j) % r]? = some (bv (xs.getD j 0))
theorem mod_two (x r i : Nat) (h : x < 2 * r) (hi : x % r = i) : (x < r ∧ i = x) ∨ (r ≤ x ∧ i + r = x) := by
  by_cases h1 : x < r
  · rw [Nat.mod_eq_of_lt h1] at hi; omega
  · rw [Nat.mod_eq_sub_mod (by omega), Nat.mod_eq_of_lt (by omega)] at hi; omega
theorem rg_put {cs : Array Value} {f r : Nat} {xs : List UInt8} (h : Rg cs f r xs) (s : ByteArray) (k p : Nat) (hk : k ≤ r - xs.length) (hs : k ≤ s.size) (hp : (f + xs.length) % r = p) :
    Rg (putCells cs p (min k (r - p)) k s) f r (xs ++ s.data.toList.take k) := by
  obtain ⟨hz, b1, b2, b3, hL⟩ := h
  have hlen : s.data.toList.length = s.size := Array.length_toList
  have hp' := mod_two _ _ _ (by omega) hp
  have hpr : p < r := by omega
  obtain ⟨q, hq⟩ : ∃ q, min k (r - p) = q := ⟨_, rfl⟩
  have hl1 : (s.data.toList.take q).length = q := by rw [List.length_take]; omega
  have hl2 : ((s.data.toList.take k).drop q).length = k - q := by rw [List.length_drop, List.length_take]; omega
  have hs1 : (writeAt cs p (s.data.toList.take q)).size = cs.size := writeAt_size _ _ _ (by omega)
  have hs2 : (writeAt (writeAt cs p (s.data.toList.take q)) 0 ((s.data.toList.take k).drop q)).size = cs.size := by rw [writeAt_size _ _ _ (by omega), hs1]
  have key : ∀ i, (putCells cs p q k s)[i]? = if i < k - q then some (bv (s.data.toList.getD (q + i) 0)) else if p ≤ i ∧ i < p + q then some (bv (s.data.toList.getD (i - p) 0)) else cs[i]? := by
    intro i
    unfold putCells
    rw [writeAt_get _ _ _ _ (by omega), hl2, writeAt_get _ _ _ _ (by omega), hl1]
    by_cases h1 : i < k - q
    · rw [if_pos (by omega), if_pos h1]
      simp only [bv, Nat.sub_zero, List.getD_eq_getElem?_getD, List.getElem?_drop, List.getElem?_take]
      rw [if_pos (by omega)]
    · rw [if_neg (by omega), if_neg h1]
      by_cases h2 : p ≤ i ∧ i < p + q
      · rw [if_pos h2, if_pos h2]
        simp only [bv, List.getD_eq_getElem?_getD, List.getElem?_take]
        rw [if_pos (by omega)]
      · rw [if_neg h2, if_neg h2]
  rw [hq]
  have hlk : (xs ++ s.data.toList.take k).length = xs.length + k := by rw [List.length_append, List.length_take]; omega
  refine ⟨?_, by omega, b2, b3, ?_⟩
  · unfold putCells; rw [hs2]; exact hz
  · intro j hj
    rw [hlk] at hj
    obtain ⟨i, hi⟩ : ∃ i, (f + j) % r = i := ⟨_, rfl⟩
    have hi' := mod_two _ _ _ (by omega) hi
    rw [hi, key _]
    simp only [List.getD_eq_getElem?_getD]
    by_cases hjn : j < xs.length
    · have hc := hL j hjn
      rw [hi] at hc
      rw [List.getElem?_append_left hjn, if_neg (by omega), if_neg (by omega), hc, List.getD_eq_getElem?_getD]
    · rw [List.getElem?_append_right (by omega), List.getElem?_take, if_pos (show j - xs.length < k by omega)]
      by_cases hw : j - xs.length < q
      · rw [if_neg (by omega), if_pos (by omega), show i - p = j - xs.length by omega]
      · rw [if_pos (by omega), show q + i = j - xs.length by omega]
theorem rg_next {cs : Array Value} {f r : Nat} {xs : List UInt8} (h : Rg cs f r xs) (k : Nat) (hk : k ≤ xs.length) : Rg cs ((f + k) % r) r (xs.drop k) := by
  obtain ⟨hz, b1, b2, b3, hL⟩ := h
  have hl : (xs.drop k).length = xs.length - k := by simp
  refine ⟨hz, by omega, b2, Nat.mod_lt _ (by omega), fun j hj => ?_⟩
  rw [hl] at hj
  rw [Nat.mod_add_mod, Nat.add_assoc, hL _ (by omega)]
  simp [List.getD_eq_getElem?_getD]
/-- block g is a queue, its ring block b, of room r, that holds t -/
def Que (w : World) (g b r : Nat) (t : ByteArray) : Prop := ∃ cs f, Fds w g b r f t.size ∧ Blk w b 5 cs ∧ Rg cs f r t.data.toList
/-- what turns when a queue's call is done -/
abbrev QT (g b : Nat) : Nat → Prop := fun i => i = g ∨ i = b
theorem data_len (t : ByteArray) : t.data.toList.length = t.size := Array.length_toList
theorem app_list (t s : ByteArray) (k : Nat) : (t ++ s.extract 0 k).data.toList = t.data.toList ++ s.data.toList.take k := by
  simp [ByteArray.data_append, ByteArray.data_extract, Array.toList_extract, List.extract]
theorem cut_list (t : ByteArray) (k : Nat) : (t.extract k t.size).data.toList = t.data.toList.drop k := by
  rw [ByteArray.data_extract, Array.toList_extract, List.extract, List.take_of_length_le]
  rw [List.length_drop, data_len]
  omega
theorem head_eq (t : ByteArray) (k : Nat) : (⟨(t.data.toList.take k).toArray⟩ : ByteArray) = t.extract 0 k := by
  apply ByteArray.ext
  rw [ByteArray.data_extract]
  apply Array.toList_inj.1
  simp [Array.toList_extract, List.extract]
section
variable {w w' : World} {g b r B : Nat} {t : ByteArray}
theorem Que.ltg (h : Que w g b r t) : g < w.heap.size := by obtain ⟨cs, f, h1, h2, _⟩ := h; exact Blk.lt h1
theorem Que.ltb (h : Que w g b r t) : b < w.heap.size := by obtain ⟨cs, f, h1, h2, _⟩ := h; exact h2.lt
theorem Que.turn {T : Nat → Prop} (h : Que w g b r t) (hb : Turn T w w') (hg : ¬ T g) (hh : ¬ T b) : Que w' g b r t := by obtain ⟨cs, f, h1, h2, h3⟩ := h; exact ⟨cs, f, Blk.turn h1 hb hg, Blk.turn h2 hb hh, h3⟩
theorem Que.below (h : Que w g b r t) (hb : Below w.heap.size w w') : Que w' g b r t := h.turn (T := fun _ => False) (Turn.of_below hb) id id
theorem Que.drew (h : Que w g b r t) : Que w.drew g b r t := h
theorem Que.room (h : Que w g b r t) : t.size ≤ r ∧ r ≤ 4096 ∧ 0 < r := by
  obtain ⟨cs, f, h1, h2, R⟩ := h
  have := R.b1; have := R.b2; have := R.b3
  rw [data_len] at *
  omega
theorem RQ.turn {T : Nat → Prop} {h : Nat} (hR : RQ w h r t) (hb : Turn T w w') (hg : ¬ T h) : RQ w' h r t := Blk.turn hR hb hg
end
theorem put_q (g b r : Nat) (t s : ByteArray) (k : Nat) (w : World) (hQ : Que w g b r t) (hs : s.size ≤ 9223372036854775807) (hk : min s.size (r - t.size) = k) :
    Calls Try.prog 18 #[.pointer (some ⟨g, 0, none⟩), .string s] w (Ret (.int .i64 k) fun w' => Que w' g b r (t ++ s.extract 0 k) ∧ Turn (QT g b) w w') := by
  have hr := hQ.room
  obtain ⟨cs, f, hF, hR, R⟩ := hQ
  have hx : (t ++ s.extract 0 k).size = t.size + k := by simp; omega
  by_cases h0 : k = 0
  · subst h0
    refine (put_zero g b r f t.size s w hF hr.1 hr.2.1 hk).mono fun e w' ⟨he, hw⟩ => ⟨he, ⟨cs, f, ?_, hR.below hw hR.lt, ?_⟩, Turn.of_below hw⟩
    · rw [hx]; exact Blk.below hF hw (Blk.lt hF)
    · rw [app_list]
      simpa using R
  · obtain ⟨p, hp⟩ : ∃ p, (f + t.size) % r = p := ⟨_, rfl⟩
    refine (put_walk g b cs f t.size r s k w hF hR (by omega) hr.2.1 R.b3 (by omega) hs hk.symm R.hz p hp).mono fun e w' ⟨he, h1, h2, h3⟩ => ⟨he, ⟨_, f, ?_, h2, ?_⟩, h3⟩
    · rw [hx]; exact h1
    · rw [app_list]
      exact rg_put R s k p (by rw [data_len]; omega) (by omega) (by rw [data_len]; exact hp)
theorem peek_q (g b r : Nat) (t : ByteArray) (most : Int) (k : Nat) (w : World) (hQ : Que w g b r t) (hk : max 0 (min (t.size : Int) most) = (k : Int)) :
    Calls Try.prog 14 #[.pointer (some ⟨g, 0, none⟩), .int .i64 most] w (Ret (.string (t.extract 0 k)) (Below w.heap.size w)) := by
  have hr := hQ.room
  obtain ⟨cs, f, hF, hR, R⟩ := hQ
  rw [← head_eq]
  by_cases h0 : k = 0
  · subst h0
    exact peek_zero g b r f t.size most w hF hk
  · exact peek_walk g b cs f t.size r t.data.toList most k w hF hR hr.1 hr.2.1 R.b3 (by omega) (by omega) (by omega) R.hz (by rw [data_len]; omega) (fun j hj => R.hL j (by rw [data_len]; omega))
theorem len_q (g b r : Nat) (t : ByteArray) (w : World) (hQ : Que w g b r t) : Calls Try.prog 20 #[.pointer (some ⟨g, 0, none⟩)] w (Ret (.int .i64 t.size) (Below w.heap.size w)) := by
  obtain ⟨cs, f, hF, hR, R⟩ := hQ
  exact len_any g b r f _ w hF
theorem free_q (g b r : Nat) (t : ByteArray) (w : World) (hQ : Que w g b r t) : Calls Try.prog 21 #[.pointer (some ⟨g, 0, none⟩)] w (Ret (.int .i64 ((r : Int) - t.size)) (Below w.heap.size w)) := by
  have hr := hQ.room
  obtain ⟨cs, f, hF, hR, R⟩ := hQ
  exact free_any g b r f _ w hF hr.1 hr.2.1
