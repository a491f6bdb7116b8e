/- Slices of events that the closed law builds: they are arguments of the laws. -/
import Derived.Test.YtggpecddkbceoaaLa
import Derived.Laws.AppendOwn
import Derived.Laws.OwnMore
set_option linter.unusedSimpArgs false
set_option linter.unusedVariables false
namespace Go.Proofs.Ytggpecddkbceoaa
open Go.RowKit Go.Eff
theorem flat_get {α : Type} (f : α → List Value) (k : Nat) (hk : ∀ a, (f a).length = k) (j : Nat) (hj : j < k) : ∀ (l : List α) (i : Nat), (l.flatMap f)[i * k + j]? = (l[i]?).bind fun a => (f a)[j]?
  | [], i => by simp
  | a :: l, 0 => by
    rw [List.flatMap_cons, Nat.zero_mul, Nat.zero_add, List.getElem?_append_left (by rw [hk]; exact hj)]
    simp
  | a :: l, i + 1 => by
    rw [List.flatMap_cons, List.getElem?_append_right (by rw [hk, Nat.add_mul]; omega), hk, show (i + 1) * k + j - k = i * k + j by rw [Nat.add_mul]; omega, flat_get f k hk j hj l i]
    simp
/-- an event's cells -/
def cellsE (c : Cll) : List Value := [.int .i64 c.1, .int .u8 c.2.1, .bool c.2.2.1, .bool c.2.2.2]
theorem flatE_len (l : List Cll) : (l.flatMap cellsE).length = l.length * 4 := by
  induction l with
  | nil => rfl
  | cons c l ih => rw [List.flatMap_cons, List.length_append, ih, List.length_cons]; show 4 + l.length * 4 = _; omega
theorem arg_of_blk {w : World} {g : Nat} {l : List Cll} (hB : Blk w g 33 (l.flatMap cellsE).toArray) (hmax : l.length ≤ 1000) (hf : ∀ c ∈ l, Fit c.1) : Arg w (.slice (some ⟨g, 0, none⟩) l.length l.length) l := by
  refine ⟨some ⟨g, 0, none⟩, l.length, rfl, by omega, fun i c hi => ⟨⟨g, 0, none⟩, g, i * 4, rfl, ?_, hB.lt, ?_, ?_, ?_, ?_, hf c (List.mem_of_getElem? hi)⟩⟩
  · unfold Addr.add; split <;> simp_all
  · have := flat_get cellsE 4 (fun _ => rfl) 0 (by omega) l i
    rw [hB.cell, List.getElem?_toArray]
    simpa [hi, cellsE] using this
  · have := flat_get cellsE 4 (fun _ => rfl) 1 (by omega) l i
    rw [hB.cell, List.getElem?_toArray]
    simpa [hi, cellsE] using this
  · have := flat_get cellsE 4 (fun _ => rfl) 2 (by omega) l i
    rw [hB.cell, List.getElem?_toArray]
    simpa [hi, cellsE] using this
  · have := flat_get cellsE 4 (fun _ => rfl) 3 (by omega) l i
    rw [hB.cell, List.getElem?_toArray]
    simpa [hi, cellsE] using this
theorem arg_nil (w : World) : Arg w (.slice none 0 0) [] := ⟨none, 0, rfl, by simp, by simp⟩
theorem arg_of_own {w : World} {base : Nat} {v : Value} {l : List Cll} {n : Nat} (h : w.ownsRow base 33 4 v n (l.flatMap cellsE)) (hn : l.length = n) (hmax : n ≤ 1000) (hf : ∀ c ∈ l, Fit c.1) : Arg w v l := by
  subst hn
  rcases h.2 with ⟨rfl, h0⟩ | ⟨g, cap, cur, rfl, hb, hg, hcap, hmx, hsz, htk⟩
  · have : l = [] := List.eq_nil_of_length_eq_zero h0
    subst this
    exact arg_nil w
  · have hlt : g < w.heap.size := by
      rcases Nat.lt_or_ge g w.heap.size with h' | h'
      · exact h'
      · rw [Array.getElem?_eq_none h'] at hg; cases hg
    refine ⟨some ⟨g, 0, none⟩, cap, rfl, by omega, fun i c hi => ?_⟩
    have hil : i < l.length := (List.getElem?_eq_some_iff.1 hi).1
    refine ⟨⟨g, 0, none⟩, g, i * 4, rfl, ?_, hlt, ?_, ?_, ?_, ?_, hf c (List.mem_of_getElem? hi)⟩
    · unfold Addr.add; split <;> simp_all
    · have := flat_get cellsE 4 (fun _ => rfl) 0 (by omega) l i
      rw [Nat.add_zero] at this
      rw [h.cellAt (i * 4) (by omega), this, hi]
      rfl
    · have := flat_get cellsE 4 (fun _ => rfl) 1 (by omega) l i
      rw [h.cellAt (i * 4 + 1) (by omega), this, hi]
      rfl
    · have := flat_get cellsE 4 (fun _ => rfl) 2 (by omega) l i
      rw [h.cellAt (i * 4 + 2) (by omega), this, hi]
      rfl
    · have := flat_get cellsE 4 (fun _ => rfl) 3 (by omega) l i
      rw [h.cellAt (i * 4 + 3) (by omega), this, hi]
      rfl
/-- one head: none, or a block of its own -/
def Head (w : World) (v : Value) (L : List Cll) : Prop := L.length ≤ 3 ∧ (∀ c ∈ L, Fit c.1) ∧ ((v = .slice none 0 0 ∧ L = []) ∨ ∃ b, v = .slice (some ⟨b, 0, none⟩) L.length L.length ∧ Blk w b 33 (L.flatMap cellsE).toArray ∧ 1 ≤ L.length)
theorem Head.below {w w' : World} {v : Value} {L : List Cll} (h : Head w v L) (hb : Below w.heap.size w w') : Head w' v L := by
  obtain ⟨h1, h2, h3⟩ := h
  refine ⟨h1, h2, ?_⟩
  rcases h3 with h3 | ⟨b, h4, h5, h6⟩
  · exact .inl h3
  · exact .inr ⟨b, h4, h5.below hb h5.lt, h6⟩
theorem Head.arg {w : World} {v : Value} {L : List Cll} (h : Head w v L) : Arg w v L := by
  obtain ⟨h1, h2, h3⟩ := h
  rcases h3 with ⟨rfl, rfl⟩ | ⟨b, rfl, h5, h6⟩
  · exact arg_nil w
  · exact arg_of_blk h5 (by omega) h2
/-- the heads -/
structure Heads (w : World) (hg : Nat) (cs : Array Value) : Prop where
  b : Blk w hg 22 cs
  h : ∀ i, i < 8 → ∃ v L, cs[i]? = some v ∧ Head w v L ∧ (i = 0 → v = .slice none 0 0)
theorem Heads.below {w w' : World} {hg : Nat} {cs : Array Value} (h : Heads w hg cs) (hb : Below w.heap.size w w') : Heads w' hg cs :=
  ⟨h.b.below hb h.b.lt, fun i hi => by obtain ⟨v, L, h1, h2, h3⟩ := h.h i hi; exact ⟨v, L, h1, h2.below hb, h3⟩⟩
end Go.Proofs.Ytggpecddkbceoaa
