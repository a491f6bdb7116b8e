/- A slice of answers, begun anywhere in its block, to which one more is appended: in place, or in a block of its own. No condition but a bound on how many. -/
import Derived.Test.YtggpecddkbceoaaM0
import Derived.Laws.AppendOwn
set_option linter.unusedSimpArgs false
set_option linter.unusedVariables false
namespace Go.Proofs.Ytggpecddkbceoaa
open Go.RowKit Go.Eff
/-- an answer's cells -/
def cellsA (a : AT) : List Value := [.int .u8 a.1, .bool a.2.1, .bool a.2.2.1, .int .u8 a.2.2.2.1, .int .u8 a.2.2.2.2]
theorem cellsA_len (a : AT) : (cellsA a).length = 5 := rfl
def flatA (q : List AT) : List Value := q.flatMap cellsA
theorem flatA_len : ∀ q, (flatA q).length = q.length * 5
  | [] => rfl
  | a :: q => by
    have := flatA_len q
    unfold flatA at *
    rw [List.flatMap_cons, List.length_append, cellsA_len, this, List.length_cons]
    omega
theorem flatA_snoc (q : List AT) (a : AT) : flatA (q ++ [a]) = flatA q ++ cellsA a := by simp [flatA]
/-- the block a slice lies in -/
def blkOf : Value → Option Nat
  | .slice (some a) _ _ => some a.block
  | _ => none
/-- sv is the slice of these answers; its block is known whole -/
def QR (w : World) (B : Nat) (sv : Value) (q : List AT) : Prop :=
  (sv = .slice none 0 0 ∧ q = []) ∨
  ∃ (b off cap : Nat) (cur : Array Value), sv = .slice (some ⟨b, off, none⟩) q.length cap ∧ B ≤ b ∧ Blk w b 30 cur ∧ q.length ≤ cap ∧ cap ≤ maxLen ∧ off + cap * 5 ≤ cur.size ∧ (cur.toList.drop off).take (q.length * 5) = flatA q
section
variable {w w' : World} {B : Nat} {sv : Value} {q : List AT}
theorem QR.lt (h : QR w B sv q) : ∀ k, blkOf sv = some k → B ≤ k ∧ k < w.heap.size := by
  rcases h with ⟨rfl, _⟩ | ⟨b, off, cap, cur, rfl, hB, hb, _⟩
  · intro k hk; cases hk
  · intro k hk
    obtain rfl : b = k := by simpa [blkOf] using hk
    exact ⟨hB, hb.lt⟩
theorem QR.kept {row : Option Nat} (h : QR w B sv q) (hg : w.grownBy w' row) (hne : ∀ k, blkOf sv = some k → some k ≠ row) : QR w' B sv q := by
  rcases h with ⟨rfl, h⟩ | ⟨b, off, cap, cur, rfl, hB, hb, h1, h2, h3, h4⟩
  · exact .inl ⟨rfl, h⟩
  · exact .inr ⟨b, off, cap, cur, rfl, hB, hb.grown hg (hne b rfl), h1, h2, h3, h4⟩
theorem QR.below (h : QR w B sv q) (hb' : Below w.heap.size w w') : QR w' B sv q := by
  rcases h with ⟨rfl, h⟩ | ⟨b, off, cap, cur, rfl, hB, hb, h1, h2, h3, h4⟩
  · exact .inl ⟨rfl, h⟩
  · exact .inr ⟨b, off, cap, cur, rfl, hB, hb.below hb' hb.lt, h1, h2, h3, h4⟩
/-- the first one's cells -/
theorem QR.head {a : AT} {r : List AT} (h : QR w B sv (a :: r)) : ∃ (b off cap : Nat), sv = .slice (some ⟨b, off, none⟩) (r.length + 1) cap ∧ 1 ≤ cap ∧ cap ≤ maxLen ∧ B ≤ b ∧ b < w.heap.size ∧
    (∀ j u, (cellsA a)[j]? = some u → w.cell? ⟨b, off + j, none⟩ = some u) ∧ QR w B (.slice (if cap = 1 then some ⟨b, off, none⟩ else some ⟨b, off + 5, none⟩) r.length (cap - 1)) r := by
  rcases h with ⟨_, h⟩ | ⟨b, off, cap, cur, rfl, hB, hb, h1, h2, h3, h4⟩
  · cases h
  · simp only [List.length_cons] at h1 h4
    have e : flatA (a :: r) = cellsA a ++ flatA r := rfl
    rw [e] at h4
    refine ⟨b, off, cap, by rw [List.length_cons], by omega, h2, hB, hb.lt, fun j u hj => ?_, ?_⟩
    · have hj5 : j < 5 := by have := (List.getElem?_eq_some_iff.1 hj).1; rwa [cellsA_len] at this
      rw [hb.cell, ← Array.getElem?_toList]
      have : ((cur.toList.drop off).take ((r.length + 1) * 5))[j]? = some u := by rw [h4, List.getElem?_append_left (by rw [cellsA_len]; exact hj5)]; exact hj
      rw [List.getElem?_take, if_pos (by omega), List.getElem?_drop] at this
      exact this
    · by_cases hc1 : cap = 1
      · have hr : r = [] := List.eq_nil_of_length_eq_zero (by omega)
        subst hr hc1
        exact .inr ⟨b, off, 0, cur, rfl, hB, hb, Nat.le_refl _, by omega, by omega, rfl⟩
      rw [if_neg hc1]
      refine .inr ⟨b, off + 5, cap - 1, cur, rfl, hB, hb, by omega, by omega, by omega, ?_⟩
      have h5 := congrArg (List.drop 5) h4
      rw [List.drop_append_of_le_length (by rw [cellsA_len]; exact Nat.le_refl _), List.drop_take, List.drop_drop] at h5
      have e5 : (cellsA a).drop 5 = [] := rfl
      rw [e5, List.nil_append, show (r.length + 1) * 5 - 5 = r.length * 5 by omega] at h5
      exact h5
end
theorem info30m : (Try.prog.info? 30).map (fun i => (i.zero, i.size, i.bytes)) = some (some (.agg #[.int .u8 0, .bool false, .bool false, .int .u8 0, .int .u8 0]), 5, 5) := by kernel_rfl
theorem info30 : ∃ i0, Try.prog.info? 30 = some i0 ∧ i0.zero = some (.agg #[.int .u8 0, .bool false, .bool false, .int .u8 0, .int .u8 0]) ∧ i0.size = 5 ∧ i0.bytes = 5 := by
  have h := info30m
  cases hi : Try.prog.info? 30 with
  | none => rw [hi] at h; cases h
  | some i0 =>
    rw [hi] at h
    simp only [Option.map_some, Option.some.injEq, Prod.mk.injEq] at h
    exact ⟨i0, rfl, h.1, h.2.1, h.2.2⟩
/-- in place -/
theorem app_room {P : Program} (w : World) (t ty e : TypeId) (i : TypeInfo) (ht : P.underlying t = some (.slice e)) (hi : P.info? e = some i)
    (g off sLen sCap : Nat) (cur : Array Value) (hg : w.heap[g]? = some (.cells cur e (0, 0)))
    (a : Addr) (m c : Nat) (news : List Value) (hl : news.length = m * i.size) (hnews : ∀ j u, news[j]? = some u → w.cell? (a.add j) = some u) (h1 : ∀ u ∈ news, u.oneCell' = true)
    (hroom : sLen + m ≤ sCap) (hfit : off + sLen * i.size + news.length ≤ cur.size) :
    (Builtin.append_ #[t, t] ty #[.slice (some ⟨g, off, none⟩) sLen sCap, .slice (some a) m c]).run P w =
      .ok (.slice (some ⟨g, off, none⟩) (sLen + m) sCap) (w.setRow g (cur.toList.take (off + sLen * i.size) ++ news ++ cur.toList.drop (off + sLen * i.size + news.length)).toArray) := by
  have hf := run_firstCells_some (P := P) w i.size m a m c news hl hnews
  have hst := run_storeCells_at P g (off + sLen * i.size) e news 0 cur w hg (by simpa using hfit) h1
  simp only [Nat.add_zero] at hst
  simp [Builtin.append_, run_underlying ht, sizeOf, typeInfo, hi, Builtin.lenOf, hroom, hf, Addr.add_lit, hst]
theorem one_cells (a : AT) : ∀ u ∈ cellsA a, u.oneCell' = true := by
  intro u hu
  simp only [cellsA, List.mem_cons, List.not_mem_nil, or_false] at hu
  rcases hu with rfl | rfl | rfl | rfl | rfl <;> rfl
/-- one more -/
theorem app_any {u : World} {B : Nat} {sv : Value} {q : List AT} (h : QR u B sv q) (hB : B ≤ u.heap.size) (a : AT) (s : Nat) (hs : Blk u s 30 (cellsA a).toArray) (hq : q.length ≤ 1000) :
    ∃ sv' u', (Builtin.append_ #[42, 42] 42 #[sv, .slice (some ⟨s, 0, none⟩) 1 1]).run Try.prog u = .ok sv' u' ∧ QR u' B sv' (q ++ [a]) ∧ u.grownBy u' (blkOf sv) ∧ (∀ k, blkOf sv' = some k → blkOf sv = some k ∨ u.heap.size ≤ k) := by
  obtain ⟨i0, hi, hz, h5, hb5⟩ := info30
  have ht : Try.prog.underlying 42 = some (.slice 30) := Try.underlying42
  have hnews : ∀ j x, (cellsA a)[j]? = some x → u.cell? ((⟨s, 0, none⟩ : Addr).add j) = some x := fun j x hj => by
    rw [Addr.add_lit, Nat.zero_add, hs.cell, List.getElem?_toArray]
    exact hj
  have hl : (cellsA a).length = 1 * i0.size := by rw [h5]; rfl
  -- a block of its own
  have grown : ∀ (old cap : Nat) (row : Option Nat), cap = grownCap u (q.length + 1) old 30 → ∀ zs : Array Value, zs.size = (cap - (q.length + 1)) * 5 →
      QR (u.drew.alloc (.cells ((flatA q).toArray ++ (cellsA a).toArray ++ zs) 30)) B (.slice (some ⟨u.heap.size, 0, none⟩) (q.length + 1) cap) (q ++ [a]) ∧ u.grownBy (u.drew.alloc (.cells ((flatA q).toArray ++ (cellsA a).toArray ++ zs) 30)) row := by
    intro old cap row hcap zs hzs
    have hge := grownCap_ge u (q.length + 1) old 30
    have hle := grownCap_le_maxLen u (q.length + 1) old 30 (by unfold maxLen; omega)
    rw [← hcap] at hge hle
    refine ⟨.inr ⟨u.heap.size, 0, cap, _, by rw [List.length_append]; rfl, hB, heap_alloc_new u.drew _, by rw [List.length_append]; exact hge, hle, ?_, ?_⟩, ⟨rfl, rfl, rfl, by simp, fun k hk _ => Below.heap_alloc u.drew _ k hk⟩⟩
    · simp only [Array.size_append, List.size_toArray, flatA_len, cellsA_len, hzs]
      omega
    · rw [flatA_snoc, List.drop_zero]
      simp only [Array.toList_append, List.length_append, List.length_cons, List.length_nil]
      rw [show (q.length + (0 + 1)) * 5 = (flatA q ++ cellsA a).length by rw [List.length_append, flatA_len, cellsA_len]; omega]
      exact List.take_left
  rcases h with ⟨rfl, rfl⟩ | ⟨b, off, cap, cur, rfl, hBb, hb, h1, h2, h3, h4⟩
  · have hr := run_append_nil (P := Try.prog) u 42 42 30 i0 _ ht hi hz ⟨s, 0, none⟩ 1 1 (cellsA a) hl hnews (by omega) (by omega) (by rw [hb5]; decide)
    have hgr := grown 0 _ none rfl (Builtin.zeroCells (Value.cells (.agg #[.int .u8 0, .bool false, .bool false, .int .u8 0, .int .u8 0])) (grownCap u (0 + 1) 0 30 - (0 + 1))) (by simp [Builtin.zeroCells, Value.cells])
    simp only [List.length_nil, Nat.zero_add, flatA, List.flatMap_nil, Array.empty_append] at hgr
    exact ⟨_, _, hr, hgr.1, hgr.2, fun k hk => .inr (by simp [blkOf] at hk; omega)⟩
  · by_cases hroom : q.length + 1 ≤ cap
    · have hfit : off + q.length * i0.size + (cellsA a).length ≤ cur.size := by rw [h5, cellsA_len]; omega
      have hr := app_room (P := Try.prog) u 42 42 30 i0 ht hi b off q.length cap cur hb ⟨s, 0, none⟩ 1 1 (cellsA a) hl hnews (one_cells a) hroom hfit
      rw [h5, cellsA_len] at hr hfit
      refine ⟨_, _, hr, .inr ⟨b, off, cap, _, by rw [List.length_append]; rfl, hBb, setRow_heap u b cur _ 30 _ hb, by rw [List.length_append]; exact hroom, h2, ?_, ?_⟩, ⟨rfl, rfl, rfl, by simp, fun k _ hk => setRow_other u b k _ (fun e => hk (by simp [blkOf, e]))⟩, fun k hk => .inl hk⟩
      · simp only [List.size_toArray, List.length_append, List.length_take, List.length_drop, Array.length_toList]
        rw [cellsA_len]
        omega
      · rw [flatA_snoc, List.length_append]
        have hcl : cur.toList.length = cur.size := Array.length_toList
        have hlen : off + q.length * 5 ≤ cur.toList.length := by omega
        have hA : off ≤ (cur.toList.take (off + q.length * 5)).length := by rw [List.length_take]; omega
        have hA2 : off ≤ (cur.toList.take (off + q.length * 5) ++ cellsA a).length := by rw [List.length_append]; omega
        rw [List.drop_append_of_le_length hA2, List.drop_append_of_le_length hA, List.drop_take, show off + q.length * 5 - off = q.length * 5 by omega, h4]
        rw [show (q.length + [a].length) * 5 = (flatA q ++ cellsA a).length by rw [List.length_append, flatA_len, cellsA_len]; simp; omega]
        exact List.take_left
    · have holds : ∀ j x, (flatA q)[j]? = some x → u.cell? ((⟨b, off, none⟩ : Addr).add j) = some x := fun j x hj => by
        rw [Addr.add_lit, hb.cell, ← Array.getElem?_toList]
        have hj' : j < q.length * 5 := by have := (List.getElem?_eq_some_iff.1 hj).1; rwa [flatA_len] at this
        rw [← h4, List.getElem?_take, if_pos hj', List.getElem?_drop] at hj
        exact hj
      have hr := run_append_grow (P := Try.prog) u 42 42 30 i0 _ ht hi hz ⟨b, off, none⟩ q.length cap (flatA q) (by rw [flatA_len, h5]) holds ⟨s, 0, none⟩ 1 1 (cellsA a) hl hnews (by omega) (by omega) (growslice_fits (by omega) (by rw [hb5]; omega))
      have hgr := grown cap _ (blkOf (.slice (some ⟨b, off, none⟩) q.length cap)) rfl (Builtin.zeroCells (Value.cells (.agg #[.int .u8 0, .bool false, .bool false, .int .u8 0, .int .u8 0])) (grownCap u (q.length + 1) cap 30 - (q.length + 1))) (by simp [Builtin.zeroCells, Value.cells])
      exact ⟨_, _, hr, hgr.1, hgr.2, fun k hk => .inr (by simp [blkOf] at hk; omega)⟩
end Go.Proofs.Ytggpecddkbceoaa
