/- A ring of bytes in the cells of a block: plain laws. -/
import Derived.Test.YtmkolifnpnaepaaA2
import Derived.Laws.CopyRow
set_option linter.unusedSimpArgs false
set_option linter.unusedVariables false
namespace Go.Proofs.Ytmkolifnpnaepaa
open Go.RowKit Go.Eff
/-- the fields behind the ring -/
def Fld (w : World) (g : Nat) (f n r m : Int) : Prop := w.cell? ⟨g, 4096, none⟩ = some (.int .i64 f) ∧ w.cell? ⟨g, 4097, none⟩ = some (.int .i64 n) ∧ w.cell? ⟨g, 4098, none⟩ = some (.int .i64 r) ∧ w.cell? ⟨g, 4099, none⟩ = some (.int .i64 m)
theorem fld_of {w : World} {g : Nat} {cs : Array Value} {f n r m : Int} (hB : Blk w g 42 cs) (h96 : cs[4096]? = some (.int .i64 f)) (h97 : cs[4097]? = some (.int .i64 n)) (h98 : cs[4098]? = some (.int .i64 r)) (h99 : cs[4099]? = some (.int .i64 m)) : Fld w g f n r m :=
  ⟨by rw [hB.cell]; exact h96, by rw [hB.cell]; exact h97, by rw [hB.cell]; exact h98, by rw [hB.cell]; exact h99⟩
theorem elem40 : Try.prog.elem 40 = 5 := by kernel_rfl
theorem len40 : Try.prog.arrayLen 40 = 4096 := by kernel_rfl
theorem info5 : (Try.prog.info? 5).map (·.size) = some 1 := by kernel_rfl
theorem size5 (w : World) : (sizeOf 5).run Try.prog w = .ok 1 w := by kernel_rfl
theorem arr_slice (g p r : Nat) (hp : p < r) (hr : r ≤ 4096) (w : World) : (Instr.sliceAt 40 (.pointer (some ⟨g, 0, none⟩)) (some (.int .i64 p)) (some (.int .i64 r)) none).run Try.prog w = .ok (.slice (some ⟨g, p, none⟩) (r - p) (4096 - p)) w := by
  rw [run_sliceAt_array_lh (P := Try.prog) w 40 ⟨g, 0, none⟩ (by rw [elem40, len40]; exact Try.underlying40) .i64 .i64 p r (by omega) (by omega) (by rw [len40]; omega), elem40, size5, len40]
  simp only [Result.andThen_ok, slicedAt, Int.toNat_natCast, Nat.mul_one]
  rw [if_neg (by omega)]
  unfold Addr.add
  split <;> simp_all
theorem arr_slice0 (g r : Nat) (hr : r ≤ 4096) (w : World) : (Instr.sliceAt 40 (.pointer (some ⟨g, 0, none⟩)) none (some (.int .i64 r)) none).run Try.prog w = .ok (.slice (some ⟨g, 0, none⟩) r 4096) w := by
  rw [run_sliceAt_array_h (P := Try.prog) w 40 ⟨g, 0, none⟩ (by rw [elem40, len40]; exact Try.underlying40) .i64 r (by omega) (by rw [len40]; omega), elem40, size5, len40]
  simp only [Result.andThen_ok, slicedAt, Int.toNat_natCast, Nat.zero_mul, Nat.sub_zero]
  rw [if_neg (by omega)]
  rfl
/-- bytes written from a place on -/
def writeAt (cs : Array Value) (o : Nat) (bs : List UInt8) : Array Value := (cs.toList.take o ++ bs.map (fun b => Value.int .u8 (b.toNat : Int)) ++ cs.toList.drop (o + bs.length)).toArray
theorem writeAt_size (cs : Array Value) (o : Nat) (bs : List UInt8) (h : o + bs.length ≤ cs.size) : (writeAt cs o bs).size = cs.size := by
  simp [writeAt]; omega
theorem writeAt_get (cs : Array Value) (o : Nat) (bs : List UInt8) (i : Nat) (h : o + bs.length ≤ cs.size) : (writeAt cs o bs)[i]? = if o ≤ i ∧ i < o + bs.length then some (.int .u8 ((bs.getD (i - o) 0).toNat : Int)) else cs[i]? := by
  unfold writeAt
  simp only [List.getElem?_toArray]
  have hl : (cs.toList.take o).length = o := by simp; omega
  by_cases h1 : i < o
  · rw [if_neg (by omega), List.getElem?_append_left (by simp; omega), List.getElem?_append_left (by omega), List.getElem?_take, if_pos h1]
    simp
  · by_cases h2 : i < o + bs.length
    · rw [if_pos (by omega), List.getElem?_append_left (by simp; omega), List.getElem?_append_right (by omega), hl]
      have h3 : i - o < bs.length := by omega
      simp [List.getElem?_eq_getElem h3]
    · rw [if_neg (by omega), List.getElem?_append_right (by simp; omega)]
      simp only [List.length_append, hl, List.length_map, List.getElem?_drop]
      rw [show o + bs.length + (i - (o + bs.length)) = i by omega]
      simp
theorem setRow_blk {w : World} {g : Nat} {t : TypeId} {cs : Array Value} (hB : Blk w g t cs) (cs' : Array Value) : Blk (w.setRow g cs') g t cs' ∧ w.grownBy (w.setRow g cs') (some g) := by
  refine ⟨setRow_heap w g cs cs' t (0, 0) hB, rfl, rfl, rfl, by simp [World.setRow], fun k hk hne => ?_⟩
  have hne' : g ≠ k := fun e => hne (by rw [e])
  simp [World.setRow, Array.getElem?_modify, hne']
theorem run_copy_str (w : World) (ty : TypeId) (g o dLen dCap k : Nat) (t : TypeId) (s : ByteArray) (cs : Array Value) (hB : Blk w g t cs) (hk : k = min s.size dLen) (hfit : o + k ≤ cs.size) :
    (Builtin.copy_ #[45, 9] ty #[.slice (some ⟨g, o, none⟩) dLen dCap, .string s]).run Try.prog w = .ok (.int .i64 k) (w.setRow g (writeAt cs o (s.data.toList.take k))) := by
  have hk2 : k ≤ s.data.toList.length := by simp; omega
  have e : ((s.extract 0 k).data.map fun b => Value.int .u8 b.toNat).toList = (s.data.toList.take k).map (fun b => Value.int .u8 (b.toNat : Int)) := by
    rw [ByteArray.data_extract]
    simp [Array.toList_extract, List.extract, List.map_take]
  have hl : (s.data.toList.take k).length = k := by simp; omega
  have hst := run_storeCells_at Try.prog g o t ((s.data.toList.take k).map (fun b => Value.int .u8 (b.toNat : Int))) 0 cs w hB (by simp [hl]; omega) (by intro v hv; obtain ⟨b, _, rfl⟩ := List.mem_map.1 hv; rfl)
  have hn : Nat.min s.size dLen = k := hk.symm
  simp only [Builtin.copy_, List.getElem?_toArray]
  simp [run_underlying Try.underlying45, Builtin.lenOf, Builtin.firstCells, size5, hn, e, hst]
  rw [← List.map_take, hst]
  simp only [Result.andThen_ok, Nat.add_zero, List.length_map]
  rfl
