/- The argument of the laws: a slice of calls. -/
import Derived.Test.YtckjgdlceckhpaaW14
import Derived.Test.YtckjgdlceckhpaaFr
set_option linter.unusedSimpArgs false
set_option linter.unusedVariables false
namespace Go.Proofs.Ytckjgdlceckhpaa
open Go.RowKit Go.Eff
abbrev Cll := Nat × Nat × Int
def fitN (n : Int) : Prop := -9223372036854775808 ≤ n ∧ n ≤ 9223372036854775807
/-- v is the slice of these calls -/
def Arg (w : World) (v : Value) (l : List Cll) : Prop := ∃ p cap, v = .slice p l.length cap ∧ l.length ≤ cap ∧ cap ≤ 9223372036854775807 ∧ ∀ i c, l[i]? = some c → ∃ (a : Addr) (g o : Nat), p = some a ∧ a.add (i * 3) = ⟨g, o, none⟩ ∧ g < w.heap.size ∧
  w.cell? ⟨g, o, none⟩ = some (.int .u8 (c.1 : Int)) ∧ w.cell? ⟨g, o + 1, none⟩ = some (.int .u8 (c.2.1 : Int)) ∧ w.cell? ⟨g, o + 2, none⟩ = some (.int .i64 c.2.2) ∧ c.1 < 256 ∧ c.2.1 < 256 ∧ fitN c.2.2
theorem Arg.below {w w' : World} {v : Value} {l : List Cll} (h : Arg w v l) (hb : Below w.heap.size w w') : Arg w' v l := by
  obtain ⟨p, cap, hv, hl, hm, hc⟩ := h
  refine ⟨p, cap, hv, hl, hm, fun i c hi => ?_⟩
  obtain ⟨a, g, o, h1, h2, h3, h4, h5, h6, h7⟩ := hc i c hi
  have hx : ∀ q, w'.cell? ⟨g, q, none⟩ = w.cell? ⟨g, q, none⟩ := fun q => hb.cell (p := ⟨g, q, none⟩) h3
  exact ⟨a, g, o, h1, h2, Nat.lt_of_lt_of_le h3 hb.size, (hx _).trans h4, (hx _).trans h5, (hx _).trans h6, h7⟩
section
open Go.ChangeShapes Go.WideShapes Go.Deep Go.Fr
theorem open_arg {H : Type} {enc : TypeId × Value → H} {W : World} {base : Nat} {spare : Nat → Bool} {held : Bool} {v : Value} {d : DataW H} {p : List MemPlace} {r : Reach} {b0 : Nat} (hv : Value.okWide Try.prog W r b0 22 v)
    (h : DataW.Trod enc Try.prog W base spare held 22 v d p) : ∃ l, Arg W v l := by
  obtain ⟨pa, len, cap, rfl⟩ := okWide_slice Try.underlying22 hv
  obtain ⟨fuel, hf⟩ := h
  rcases open_rows Try.underlying22 Try.underlying30 (by kernel_rfl) (by kernel_rfl) hf with hc | ⟨a, len', cap', hc, hl, hmax, hi⟩
  · simp [Value.cells] at hc
    obtain ⟨rfl, rfl, rfl⟩ := hc
    exact ⟨[], none, 0, rfl, by simp, by simp, by simp⟩
  · simp [Value.cells] at hc
    obtain ⟨rfl, rfl, rfl⟩ := hc
    have key : ∀ i, i < len → ∃ (c : Cll) (g o : Nat), a.add (i * 3) = ⟨g, o, none⟩ ∧ g < W.heap.size ∧ W.cell? ⟨g, o, none⟩ = some (.int .u8 (c.1 : Int)) ∧ W.cell? ⟨g, o + 1, none⟩ = some (.int .u8 (c.2.1 : Int)) ∧ W.cell? ⟨g, o + 2, none⟩ = some (.int .i64 c.2.2) ∧ c.1 < 256 ∧ c.2.1 < 256 ∧ fitN c.2.2 := by
      intro i hil
      obtain ⟨n, hj⟩ := hi i hil
      obtain ⟨v0, y0, c0, t0⟩ := hj 0 _ rfl
      obtain ⟨v1, y1, c1, t1⟩ := hj 1 _ rfl
      obtain ⟨v2, y2, c2, t2⟩ := hj 2 _ rfl
      obtain ⟨x0, rfl, hx0⟩ := field_int (k := .u8) Try.underlying5 t0
      obtain ⟨x1, rfl, hx1⟩ := field_int (k := .u8) Try.underlying5 t1
      obtain ⟨x2, rfl, hx2⟩ := field_int (k := .i64) Try.underlying3 t2
      have e0 : a.add (i * 3) = ⟨(a.add (i * 3)).block, (a.add (i * 3)).off, none⟩ := (cell_at c0).1
      have l0 : (a.add (i * 3)).block < W.heap.size := (cell_at c0).2
      have c0' : W.cell? (a.add (i * 3)) = some (.int .u8 x0) := c0
      have c1' : W.cell? ((a.add (i * 3)).add 1) = some (.int .u8 x1) := by rw [Go.Deep.add_add]; exact c1
      have c2' : W.cell? ((a.add (i * 3)).add 2) = some (.int .i64 x2) := by rw [Go.Deep.add_add]; exact c2
      generalize a.add (i * 3) = b at *
      rw [e0] at c0' c1' c2'
      have w0 := wf_u8 hx0
      have w1 := wf_u8 hx1
      obtain ⟨n0, rfl⟩ : ∃ n : Nat, x0 = (n : Int) := ⟨x0.toNat, by omega⟩
      obtain ⟨n1, rfl⟩ : ∃ n : Nat, x1 = (n : Int) := ⟨x1.toNat, by omega⟩
      exact ⟨(n0, n1, x2), b.block, b.off, e0, l0, c0', c1', c2', by dsimp only; omega, by dsimp only; omega, wf_i64 hx2⟩
    refine ⟨(List.range len).map fun i => if hlt : i < len then Classical.choose (key i hlt) else (0, 0, 0), some a, cap, by simp, by simpa using hl, by unfold maxLen at hmax; omega, fun i c hc => ?_⟩
    simp only [List.getElem?_map, Option.map_eq_some_iff] at hc
    obtain ⟨j, hj, rfl⟩ := hc
    have hlt : i < len := by
      have := (List.getElem?_eq_some_iff.1 hj).1
      simpa using this
    rw [List.getElem?_range hlt] at hj
    injection hj with hj
    subst hj
    rw [dif_pos hlt]
    obtain ⟨g, o, h⟩ := Classical.choose_spec (key i hlt)
    exact ⟨a, g, o, rfl, h⟩
end
end Go.Proofs.Ytckjgdlceckhpaa
