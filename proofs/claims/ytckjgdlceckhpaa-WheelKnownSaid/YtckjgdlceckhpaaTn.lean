/- Frames: which blocks of old memory may turn (Turn); laws on a slice of bytes: make, copy, cut. No condition beyond what each law states. -/
import Derived.WalkKit
import Derived.Below
import Derived.ChangeOld
namespace Go.Eff
open Go Go.RowKit
/-- from w to w', old memory is as it was but for the blocks in T -/
structure Turn (T : Nat → Prop) (w w' : World) : Prop where
  os : w'.os = w.os
  tape : w'.tape = w.tape
  output : w'.output = w.output
  size : w.heap.size ≤ w'.heap.size
  block : ∀ i, i < w.heap.size → ¬ T i → w'.heap[i]? = w.heap[i]?
section
variable {T T' : Nat → Prop} {w w' w'' : World} {B : Nat}
theorem Turn.of_below (h : Below w.heap.size w w') : Turn T w w' := ⟨h.os, h.tape, h.output, h.size, fun i hi _ => h.block i hi⟩
theorem Turn.refl (w : World) : Turn T w w := ⟨rfl, rfl, rfl, Nat.le_refl _, fun _ _ _ => rfl⟩
theorem Turn.of_grown {g : Nat} (h : w.grownBy w' (some g)) (hT : T g) : Turn T w w' := ⟨h.os, h.tape, h.output, h.size, fun i hi hn => h.block i hi (fun e => hn (by injection e with e; exact e ▸ hT))⟩
theorem Turn.trans (h : Turn T w w') (k : Turn T w' w'') : Turn T w w'' :=
  ⟨k.os.trans h.os, k.tape.trans h.tape, k.output.trans h.output, Nat.le_trans h.size k.size, fun i hi hn => (k.block i (Nat.lt_of_lt_of_le hi h.size) hn).trans (h.block i hi hn)⟩
theorem Turn.mono (h : Turn T w w') (hh : ∀ i, T i → T' i) : Turn T' w w' := ⟨h.os, h.tape, h.output, h.size, fun i hi hn => h.block i hi (fun k => hn (hh i k))⟩
theorem Turn.below (h : Turn T w w') (hB : B ≤ w.heap.size) (hh : ∀ i, T i → B ≤ i) : Below B w w' := ⟨h.os, h.tape, h.output, h.size, fun i hi => h.block i (by omega) (fun k => by have := hh i k; omega)⟩
theorem Turn.undrew (h : Turn T w.drew w') : Turn T w w' := ⟨h.os, h.tape, h.output, h.size, h.block⟩
theorem Turn.drew (h : Turn T w w') : Turn T w w'.drew := ⟨h.os, h.tape, h.output, h.size, h.block⟩
/-- one block of old memory, and what is new -/
theorem Turn.to_grown {g : Nat} (h : Turn (fun i => i = g ∨ w.heap.size ≤ i) w w') : w.grownBy w' (some g) :=
  ⟨h.os, h.tape, h.output, h.size, fun i hi hne => h.block i hi (fun e => by rcases e with e | e; exact hne (by rw [e]); omega)⟩
/-- behind what was known below B -/
theorem Turn.behind {u : World} (h : Turn T w w') (hb : Below B u w) (h0 : B ≤ u.heap.size) (hh : ∀ i, T i → B ≤ i) : Below B u w' := hb.trans (h.below (Nat.le_trans h0 hb.size) hh)
end
end Go.Eff
