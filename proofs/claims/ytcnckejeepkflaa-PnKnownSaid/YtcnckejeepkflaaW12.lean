/- Laws for the walk of PnKnown: a block of bytes that '[]byte(s)' makes. No condition. -/
import Derived.Test.YtcnckejeepkflaaW10
set_option linter.unusedSimpArgs false
set_option linter.unusedVariables false
namespace Go.Proofs.Ytcnckejeepkflaa
open Go.RowKit Go.Eff
/-- a block known whole, with the mark z -/
def Blz (w : World) (g : Nat) (t : TypeId) (cs : Array Value) (z : Nat × Nat) : Prop := w.heap[g]? = some (.cells cs t z)
section
variable {w w' : World} {g : Nat} {t : TypeId} {cs : Array Value} {z : Nat × Nat}
theorem Blz.lt (h : Blz w g t cs z) : g < w.heap.size := by
  rcases Nat.lt_or_ge g w.heap.size with hlt | hge
  · exact hlt
  · unfold Blz at h; rw [Array.getElem?_eq_none hge] at h; cases h
theorem Blz.cell (h : Blz w g t cs z) (i : Nat) : w.cell? ⟨g, i, none⟩ = cs[i]? := cell_of_row w g i cs t z h
theorem Blz.frozen (h : Blz w g t cs z) (i : Nat) (hi : i < z.1) : w.frozen? ⟨g, i, none⟩ = false := by
  obtain ⟨z1, z2⟩ := z
  unfold Blz at h
  dsimp only at hi
  simp [World.frozen?, h]
  omega
theorem Blz.set_ (h : Blz w g t cs z) (i : Nat) (u : Value) : Blz (w.setCell ⟨g, i, none⟩ u) g t (cs.setIfInBounds i u) z := by
  unfold Blz at h ⊢
  simp [World.setCell, Array.getElem?_modify, h]
theorem Blz.below {B : Nat} (h : Blz w g t cs z) (hb : Below B w w') (hg : g < B) : Blz w' g t cs z := (hb.block g hg).trans h
theorem Blz.new (w : World) (t : TypeId) (cs : Array Value) (z : Nat × Nat) : Blz (w.alloc (.cells cs t z)) w.heap.size t cs z := heap_alloc_new w _
end
theorem strOf_size (xs : List Int) : (strOfNums xs).size = xs.length := strOfNums_size xs
theorem set_bytes (xs : List Int) (i : Nat) (v : Int) : ((xs.map (Value.int .u8)).toArray).setIfInBounds i (.int .u8 v) = ((xs.set i v).map (Value.int .u8)).toArray := by
  simp [List.map_set]
/-- '[]byte(s)' -/
theorem conv_bytes (S : ByteArray) (h8 : S.size = 8) (w : World) : ∃ (cap n : Nat) (xs : List Int), 8 ≤ cap ∧ cap ≤ 9223372036854775807 ∧ xs.length = n ∧ 8 ≤ n ∧
    (convert 9 43 (.string S)).run Try.prog w = .ok (.slice (some ⟨w.heap.size, 0, none⟩) 8 cap) (w.drew.alloc (.cells (xs.map (Value.int .u8)).toArray 5 (n, n + 1))) := by
  have h := run_bytes_of_string (P := Try.prog) w 9 43 5 S Try.underlying9 Try.underlying43 Try.underlying5
  have hge := grownCap_ge w S.size 0 5
  have hle := grownCap_le_maxLen w S.size 0 5 (by unfold maxLen; omega)
  unfold maxLen at hle
  refine ⟨grownCap w S.size 0 5, (bytesRow S (grownCap w S.size 0 5)).size, (S.data.toList.map fun (b : UInt8) => (b.toNat : Int)) ++ List.replicate (grownCap w S.size 0 5 - S.size) 0, by omega, hle, ?_, ?_, ?_⟩
  · simp [bytesRow]
  · have : S.data.size = 8 := h8
    simp [bytesRow]
    omega
  · rw [h]
    have e : bytesRow S (grownCap w S.size 0 5) = (((S.data.toList.map fun (b : UInt8) => (b.toNat : Int)) ++ List.replicate (grownCap w S.size 0 5 - S.size) 0).map (Value.int .u8)).toArray := by
      apply Array.ext'
      simp [bytesRow, List.map_replicate, Function.comp_def]
    rw [← e, h8]
/-- 'string(b)', 'string(b[:k])' -/
theorem str_bytes {w : World} {g : Nat} {xs : List Int} {z : Nat × Nat} (h : Blz w g 5 (xs.map (Value.int .u8)).toArray z) (k cap : Nat) (hk : k ≤ xs.length) :
    (convert 43 9 (.slice (some ⟨g, 0, none⟩) k cap)).run Try.prog w = .ok (.string (strOfNums (xs.take k))) w :=
  run_convert_bytes_arg w 43 5 Try.underlying43 Try.underlying5 g 0 k cap (xs.take k) (by simp; omega) (fun i hi => by
    rw [Nat.zero_add, h.cell]
    have h1 : i < xs.length := by omega
    simp [List.getD, h1, List.getElem?_take, hi]) 9 Try.underlying9
theorem nums_get (i : Nat) (h : i < 13) : ∃ x : Int, (#[Value.int .i64 (-9223372036854775808), .int .i64 (-1), .int .i64 0, .int .i64 1, .int .i64 2, .int .i64 7, .int .i64 8, .int .i64 255, .int .i64 256, .int .i64 300, .int .i64 65535, .int .i64 65536, .int .i64 9223372036854775807] : Array Value)[i]? = some (.int .i64 x) :=
  match i, h with
  | 0, _ => ⟨_, rfl⟩ | 1, _ => ⟨_, rfl⟩ | 2, _ => ⟨_, rfl⟩ | 3, _ => ⟨_, rfl⟩ | 4, _ => ⟨_, rfl⟩ | 5, _ => ⟨_, rfl⟩ | 6, _ => ⟨_, rfl⟩ | 7, _ => ⟨_, rfl⟩ | 8, _ => ⟨_, rfl⟩ | 9, _ => ⟨_, rfl⟩ | 10, _ => ⟨_, rfl⟩ | 11, _ => ⟨_, rfl⟩ | 12, _ => ⟨_, rfl⟩
end Go.Proofs.Ytcnckejeepkflaa
