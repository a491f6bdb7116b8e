/- The laws' argument opened: a slice of calls. -/
import Derived.Test.YtmkolifnpnaepaaA11
import Derived.Test.YtmkolifnpnaepaaFr
set_option linter.unusedSimpArgs false
set_option linter.unusedVariables false
namespace Go.Proofs.Ytmkolifnpnaepaa
open Go.ChangeShapes Go.WideShapes Go.RowKit Go.Deep Go.Eff Go.Fr
theorem open_arg {H : Type} {enc : TypeId × Value → H} {W : World} {base : Nat} {spare : Nat → Bool} {held : Bool} {v : Value} {d : DataW H} {p : List MemPlace} {r : Reach} {b0 : Nat} (hv : Value.okWide Try.prog W r b0 22 v)
    (h : DataW.Trod enc Try.prog W base spare held 22 v d p) : ∃ l, Arg W v l := by
  obtain ⟨pa, len, cap, rfl⟩ := okWide_slice Try.underlying22 hv
  obtain ⟨fuel, hf⟩ := h
  rcases open_rows Try.underlying22 Try.underlying30 (by kernel_rfl) (by kernel_rfl) hf with hc | ⟨a, len', cap', hc, hl, hmax, hi⟩
  · simp [Value.cells] at hc
    obtain ⟨rfl, rfl, rfl⟩ := hc
    exact ⟨[], none, 0, rfl, by simp, by simp⟩
  · simp [Value.cells] at hc
    obtain ⟨rfl, rfl, rfl⟩ := hc
    have key : ∀ i, i < len → ∃ (c : Cll) (g o : Nat), a.add (i * 3) = ⟨g, o, none⟩ ∧ g < W.heap.size ∧ W.cell? ⟨g, o, none⟩ = some (.bool c.1) ∧ W.cell? ⟨g, o + 1, none⟩ = some (.int .i64 c.2.1) ∧ W.cell? ⟨g, o + 2, none⟩ = some (.string c.2.2) ∧ c.2.2.size ≤ 9223372036854775807 := by
      intro i hil
      obtain ⟨n, hj⟩ := hi i hil
      obtain ⟨v0, y0, c0, t0⟩ := hj 0 _ rfl
      obtain ⟨v1, y1, c1, t1⟩ := hj 1 _ rfl
      obtain ⟨v2, y2, c2, t2⟩ := hj 2 _ rfl
      obtain ⟨x0, rfl⟩ := field_bool Try.underlying4 t0
      obtain ⟨x1, rfl, _⟩ := field_int (k := .i64) Try.underlying3 t1
      obtain ⟨x2, rfl, hx2⟩ := field_string Try.underlying9 t2
      have e0 : a.add (i * 3) = ⟨(a.add (i * 3)).block, (a.add (i * 3)).off, none⟩ := (cell_at c0).1
      have l0 : (a.add (i * 3)).block < W.heap.size := (cell_at c0).2
      have c0' : W.cell? (a.add (i * 3)) = some (.bool x0) := c0
      have c1' : W.cell? ((a.add (i * 3)).add 1) = some (.int .i64 x1) := by rw [Go.Deep.add_add]; exact c1
      have c2' : W.cell? ((a.add (i * 3)).add 2) = some (.string x2) := by rw [Go.Deep.add_add]; exact c2
      generalize a.add (i * 3) = b at *
      rw [e0] at c0' c1' c2'
      exact ⟨(x0, x1, x2), b.block, b.off, e0, l0, c0', c1', c2', hx2⟩
    refine ⟨(List.range len).map fun i => if hlt : i < len then Classical.choose (key i hlt) else (false, 0, .empty), some a, cap, by simp, by simp; unfold maxLen at hmax; omega, fun i c hc => ?_⟩
    simp only [List.getElem?_map, Option.map_eq_some_iff] at hc
    obtain ⟨j, hj, rfl⟩ := hc
    have hlt : i < len := by
      have := (List.getElem?_eq_some_iff.1 hj).1
      simpa using this
    rw [List.getElem?_range hlt] at hj
    injection hj with hj
    subst hj
    rw [dif_pos hlt]
    obtain ⟨g, o, h⟩ := Classical.choose_spec (key i hlt)
    exact ⟨a, g, o, rfl, h⟩
end Go.Proofs.Ytmkolifnpnaepaa
