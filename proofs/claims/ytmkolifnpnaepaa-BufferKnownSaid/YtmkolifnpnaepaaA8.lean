/- The plain law of the ring: what a buffer's cells hold, as a list of bytes; Put and Get keep it. -/
import Derived.Test.YtmkolifnpnaepaaA7
set_option linter.unusedSimpArgs false
set_option linter.unusedVariables false
namespace Go.Proofs.Ytmkolifnpnaepaa
open Go.RowKit Go.Eff
/-- the cells of a buffer of room r and mark m that holds the bytes xs from place f on -/
structure Ring (cs : Array Value) (f r m : Nat) (xs : List UInt8) : Prop where
  h96 : cs[4096]? = some (.int .i64 f)
  h97 : cs[4097]? = some (.int .i64 xs.length)
  h98 : cs[4098]? = some (.int .i64 r)
  h99 : cs[4099]? = some (.int .i64 m)
  b1 : xs.length ≤ r
  b2 : r ≤ 4096
  b3 : f < r
  b4 : m ≤ r
  hz : 4100 ≤ cs.size
  hL : ∀ j, j < xs.length → cs[(f + j) % r]? = some (bv (xs.getD j 0))
theorem ring_fresh (r m : Nat) (h1 : 0 < r) (h2 : r ≤ 4096) (h3 : m ≤ r) : Ring (freshCells r m) 0 r m [] := by
  refine ⟨?_, ?_, ?_, ?_, by simp, h2, h1, h3, by rw [fresh_size]; omega, by simp⟩ <;> simp [freshCells, Array.getElem?_append]
theorem mod_two (x r i : Nat) (h : x < 2 * r) (hi : x % r = i) : (x < r ∧ i = x) ∨ (r ≤ x ∧ i + r = x) := by
  by_cases h1 : x < r
  · rw [Nat.mod_eq_of_lt h1] at hi; omega
  · rw [Nat.mod_eq_sub_mod (by omega), Nat.mod_eq_of_lt (by omega)] at hi; omega
theorem ring_put {cs : Array Value} {f r m : Nat} {xs : List UInt8} (h : Ring cs f r m xs) (s : ByteArray) (k p : Nat) (hk : k ≤ r - xs.length) (hs : k ≤ s.size) (hp : (f + xs.length) % r = p) :
    Ring (putCells cs p (min k (r - p)) k xs.length s) f r m (xs ++ s.data.toList.take k) := by
  obtain ⟨h96, h97, h98, h99, b1, b2, b3, b4, hz, hL⟩ := h
  have hlen : s.data.toList.length = s.size := Array.length_toList
  have hp' := mod_two _ _ _ (by omega) hp
  have hpr : p < r := by omega
  obtain ⟨q, hq⟩ : ∃ q, min k (r - p) = q := ⟨_, rfl⟩
  have hl1 : (s.data.toList.take q).length = q := by rw [List.length_take]; omega
  have hl2 : ((s.data.toList.take k).drop q).length = k - q := by rw [List.length_drop, List.length_take]; omega
  have hs1 : (writeAt cs p (s.data.toList.take q)).size = cs.size := writeAt_size _ _ _ (by omega)
  have hs2 : (writeAt (writeAt cs p (s.data.toList.take q)) 0 ((s.data.toList.take k).drop q)).size = cs.size := by rw [writeAt_size _ _ _ (by omega), hs1]
  have key : ∀ i, i ≠ 4097 → (putCells cs p q k xs.length s)[i]? = if i < k - q then some (bv (s.data.toList.getD (q + i) 0)) else if p ≤ i ∧ i < p + q then some (bv (s.data.toList.getD (i - p) 0)) else cs[i]? := by
    intro i hi
    unfold putCells
    rw [Array.getElem?_setIfInBounds_ne (by omega), writeAt_get _ _ _ _ (by omega), hl2, writeAt_get _ _ _ _ (by omega), hl1]
    by_cases h1 : i < k - q
    · rw [if_pos (by omega), if_pos h1]
      simp only [bv, Nat.sub_zero, List.getD_eq_getElem?_getD, List.getElem?_drop, List.getElem?_take]
      rw [if_pos (by omega)]
    · rw [if_neg (by omega), if_neg h1]
      by_cases h2 : p ≤ i ∧ i < p + q
      · rw [if_pos h2, if_pos h2]
        simp only [bv, List.getD_eq_getElem?_getD, List.getElem?_take]
        rw [if_pos (by omega)]
      · rw [if_neg h2, if_neg h2]
  rw [hq]
  have hlk : (xs ++ s.data.toList.take k).length = xs.length + k := by rw [List.length_append, List.length_take]; omega
  refine ⟨?_, ?_, ?_, ?_, by omega, b2, b3, b4, ?_, ?_⟩
  · rw [key _ (by omega), if_neg (by omega), if_neg (by omega)]; exact h96
  · unfold putCells
    rw [Array.getElem?_setIfInBounds, if_pos rfl, if_pos (by omega), hlk, Int.natCast_add]
  · rw [key _ (by omega), if_neg (by omega), if_neg (by omega)]; exact h98
  · rw [key _ (by omega), if_neg (by omega), if_neg (by omega)]; exact h99
  · unfold putCells; simp only [Array.size_setIfInBounds]; omega
  · intro j hj
    rw [hlk] at hj
    obtain ⟨i, hi⟩ : ∃ i, (f + j) % r = i := ⟨_, rfl⟩
    have hi' := mod_two _ _ _ (by omega) hi
    rw [hi, key _ (by omega)]
    simp only [List.getD_eq_getElem?_getD]
    by_cases hjn : j < xs.length
    · have hc := hL j hjn
      rw [hi] at hc
      rw [List.getElem?_append_left hjn, if_neg (by omega), if_neg (by omega), hc, List.getD_eq_getElem?_getD]
    · rw [List.getElem?_append_right (by omega), List.getElem?_take, if_pos (show j - xs.length < k by omega)]
      by_cases hw : j - xs.length < q
      · rw [if_neg (by omega), if_pos (by omega), show i - p = j - xs.length by omega]
      · rw [if_pos (by omega), show q + i = j - xs.length by omega]
theorem ring_get {cs : Array Value} {f r m : Nat} {xs : List UInt8} (h : Ring cs f r m xs) (k : Nat) (hk : k ≤ xs.length) : Ring (getCells cs f k xs.length r) ((f + k) % r) r m (xs.drop k) := by
  obtain ⟨h96, h97, h98, h99, b1, b2, b3, b4, hz, hL⟩ := h
  have hl : (xs.drop k).length = xs.length - k := by simp
  have key : ∀ i, i ≠ 4096 → i ≠ 4097 → (getCells cs f k xs.length r)[i]? = cs[i]? := by
    intro i h1 h2
    unfold getCells
    rw [Array.getElem?_setIfInBounds_ne (by omega), Array.getElem?_setIfInBounds_ne (by omega)]
  refine ⟨?_, ?_, ?_, ?_, by omega, b2, Nat.mod_lt _ (by omega), b4, ?_, ?_⟩
  · unfold getCells
    rw [Array.getElem?_setIfInBounds_ne (by omega), Array.getElem?_setIfInBounds, if_pos rfl, if_pos (by omega)]
  · unfold getCells
    rw [Array.getElem?_setIfInBounds, if_pos rfl, if_pos (by simp; omega), hl]
    congr 2
    omega
  · rw [key _ (by omega) (by omega)]; exact h98
  · rw [key _ (by omega) (by omega)]; exact h99
  · unfold getCells; simp only [Array.size_setIfInBounds]; omega
  · intro j hj
    rw [hl] at hj
    have hr : ((f + k) % r + j) % r = (f + (k + j)) % r := by rw [Nat.mod_add_mod, Nat.add_assoc]
    have hlt : (f + (k + j)) % r < r := Nat.mod_lt _ (by omega)
    rw [hr, key _ (by omega) (by omega), hL _ (by omega)]
    simp [List.getD_eq_getElem?_getD]
