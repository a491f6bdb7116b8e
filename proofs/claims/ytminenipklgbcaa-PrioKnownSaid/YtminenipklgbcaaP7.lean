/- The document's: its blocks, its New. -/
import Derived.Test.YtminenipklgbcaaP6
import Derived.Laws.AppendOwn
import Derived.Laws.MakeOwn
set_option linter.unusedSimpArgs false
set_option linter.unusedVariables false
namespace Go.Proofs.Ytminenipklgbcaa
open Go.RowKit Go.Eff
attribute [local irreducible] Go.wpList
/-- where the document's lie: the block, the three slices' blocks, two spaces and what stands in the spare -/
structure Sh where
  h : Nat
  a : Nat
  b : Nat
  c : Nat
  ca : Nat
  cc : Nat
  pa : List Value
  pc : List Value
structure Sh.Ok (z : Sh) (B : Nat) : Prop where
  h0 : B ≤ z.h
  a0 : B ≤ z.a
  b0 : B ≤ z.b
  c0 : B ≤ z.c
  ha : z.h ≠ z.a
  hb : z.h ≠ z.b
  hc : z.h ≠ z.c
  ab : z.a ≠ z.b
  ac : z.a ≠ z.c
  bc : z.b ≠ z.c
def cellsA (s : PS) (p : List Value) : Array Value := (s.cl.map (Value.int .u8) ++ p).toArray
def cellsB (s : PS) : Array Value := (s.rd.map Value.bool).toArray
def cellsL (s : PS) (p : List Value) : Array Value := (s.la.map (Value.int .i64) ++ p).toArray
section
variable {s : PS} {d : Nat}
theorem cellsA_get (hs : s.Ok) (p : List Value) (hd : d < 64) : (cellsA s p)[d]? = some (.int .u8 (s.c d)) := by
  have h1 := hs.cl64
  unfold cellsA PS.c
  rw [List.getElem?_toArray, List.getElem?_append_left (by simp; omega), List.getElem?_map]
  simp [List.getD_eq_getElem?_getD, List.getElem?_eq_getElem (show d < s.cl.length by omega)]
theorem cellsB_get (hs : s.Ok) (hd : d < 64) : (cellsB s)[d]? = some (.bool (s.r d)) := by
  have h1 := hs.rd64
  unfold cellsB PS.r
  rw [List.getElem?_toArray, List.getElem?_map]
  simp [List.getD_eq_getElem?_getD, List.getElem?_eq_getElem (show d < s.rd.length by omega)]
theorem cellsL_get (hs : s.Ok) (p : List Value) (hd : d < 64) : (cellsL s p)[d]? = some (.int .i64 (s.l d)) := by
  have h1 := hs.la64
  unfold cellsL PS.l
  rw [List.getElem?_toArray, List.getElem?_append_left (by simp; omega), List.getElem?_map]
  simp [List.getD_eq_getElem?_getD, List.getElem?_eq_getElem (show d < s.la.length by omega)]
theorem cellsA_set (hs : s.Ok) (p : List Value) (hd : d < 64) (c : Int) : (cellsA s p).setIfInBounds d (.int .u8 c) = cellsA (s.setC d c) p := by
  have h1 := hs.cl64
  unfold cellsA PS.setC
  rw [List.setIfInBounds_toArray, List.set_append_left _ _ (by simp; omega), List.map_set]
theorem cellsB_set (d : Nat) (b : Bool) : (cellsB s).setIfInBounds d (.bool b) = cellsB (s.setR d b) := by
  unfold cellsB PS.setR
  rw [List.setIfInBounds_toArray, List.map_set]
theorem cellsL_take (hs : s.Ok) (p : List Value) (hd : d < 64) : (cellsL s p).setIfInBounds (s.c d).toNat (.int .i64 d) = cellsL (s.take d) p := by
  have h1 := hs.la64
  have h2 := hs.clr d hd
  unfold cellsL PS.take
  rw [List.setIfInBounds_toArray, List.set_append_left _ _ (by simp; omega), List.map_set]
end
/-- block z.h and its three slices' -/
structure RB (w : World) (z : Sh) (s : PS) : Prop where
  h : Blk w z.h 51 #[.slice (some ⟨z.a, 0, none⟩) 64 z.ca, .slice (some ⟨z.b, 0, none⟩) 64 64, .slice (some ⟨z.c, 0, none⟩) 64 z.cc]
  a : Blk w z.a 5 (cellsA s z.pa)
  b : Blk w z.b 4 (cellsB s)
  c : Blk w z.c 3 (cellsL s z.pc)
section
variable {s : PS} {z : Sh} {w w' : World} {T : Nat → Prop}
theorem RB.below (hR : RB w z s) (hb : Below w.heap.size w w') : RB w' z s := ⟨hR.h.below hb hR.h.lt, hR.a.below hb hR.a.lt, hR.b.below hb hR.b.lt, hR.c.below hb hR.c.lt⟩
theorem RB.drew (hR : RB w z s) : RB w.drew z s := ⟨hR.h.drew, hR.a.drew, hR.b.drew, hR.c.drew⟩
theorem RB.grown {g : Nat} (hR : RB w z s) (hg : w.grownBy w' (some g)) (h1 : z.h ≠ g) (h2 : z.a ≠ g) (h3 : z.b ≠ g) (h4 : z.c ≠ g) : RB w' z s :=
  ⟨hR.h.grown hg (fun e => h1 (by injection e)), hR.a.grown hg (fun e => h2 (by injection e)), hR.b.grown hg (fun e => h3 (by injection e)), hR.c.grown hg (fun e => h4 (by injection e))⟩
end
/-- a channel's class, as the document says it -/
def refC (d : Nat) : Int := if d = 0 then 0 else if 61 < d - d % 8 + 7 then 61 else ((d - d % 8 + 7 : Nat) : Int)
theorem ref_new : (List.range 64).map refC = newS.cl := by kernel_rfl
theorem ref_rd : newS.rd = List.replicate 64 false := by kernel_rfl
theorem ref_la : newS.la = List.replicate 64 (-1) := by kernel_rfl
theorem zero51 (b : Nat) (w : World) : (Instr.build 51 #[(1, .slice (some ⟨b, 0, none⟩) 64 64)]).run Try.prog w = .ok (.agg #[.slice none 0 0, .slice (some ⟨b, 0, none⟩) 64 64, .slice none 0 0]) w := by kernel_rfl
theorem info_parts {P : Program} {t : TypeId} {z : Option Value} {n m : Nat} (h : (P.info? t).map (fun i => (i.zero, i.size, i.bytes)) = some (z, n, m)) : ∃ i0, P.info? t = some i0 ∧ i0.zero = z ∧ i0.size = n ∧ i0.bytes = m := by
  cases hi : P.info? t with
  | none => rw [hi] at h; cases h
  | some i0 =>
    rw [hi] at h
    simp only [Option.map_some, Option.some.injEq, Prod.mk.injEq] at h
    exact ⟨i0, rfl, h.1, h.2.1, h.2.2⟩
theorem info5m : (Try.prog.info? 5).map (fun i => (i.zero, i.size, i.bytes)) = some (some (.int .u8 0), 1, 1) := by kernel_rfl
theorem info4m : (Try.prog.info? 4).map (fun i => (i.zero, i.size, i.bytes)) = some (some (.bool false), 1, 1) := by kernel_rfl
theorem info3m : (Try.prog.info? 3).map (fun i => (i.zero, i.size, i.bytes)) = some (some (.int .i64 0), 1, 8) := by kernel_rfl
theorem make64 (u : World) : (Instr.makeSlice 34 (.int .i64 64) (.int .i64 64)).run Try.prog u =
      .ok (.slice (some ⟨u.heap.size, 0, none⟩) 64 64) (u.alloc (.cells (madeCells #[.bool false] 64) 4)) := by
  obtain ⟨i0, hi, hz0, hz1, hz2⟩ := info_parts info4m
  have h := run_make (P := Try.prog) u 34 4 i0 (.bool false) Try.underlying34 hi hz0 .i64 .i64 (64 : Int) (64 : Int) (by omega) (Int.le_refl _) (by rw [hz2]; omega) (by omega)
  simpa [hz1, Value.cells] using h
theorem made64 : madeCells #[.bool false] 64 = cellsB newS := by kernel_rfl
section
variable {w w' : World} {B e n : Nat} {v : Value} {xs : List Value} {k : Nat} {t : TypeId} {cs : Array Value}
theorem own_ne (h : w.ownsRow B e 1 v n xs) (hB : Blk w k t cs) (hne : e ≠ t) : v.ownBlock ≠ some k := by
  intro hk
  rcases h.2 with ⟨rfl, _⟩ | ⟨g, cap, cur, rfl, hb, hg, _⟩
  · cases hk
  · obtain rfl : g = k := by simpa [Value.ownBlock] using hk
    unfold Blk at hB
    rw [hg] at hB
    injection hB with hB
    injection hB with _ hB
    exact hne hB
theorem own_own {e' n' : Nat} {v' : Value} {xs' : List Value} (h : w.ownsRow B e 1 v n xs) (h' : w.ownsRow B e' 1 v' n' xs') (hne : e ≠ e') : v.ownBlock = none ∨ v.ownBlock ≠ v'.ownBlock := by
  rcases h.2 with ⟨rfl, _⟩ | ⟨g, cap, cur, rfl, hb, hg, _⟩
  · exact .inl rfl
  · refine .inr fun hk => ?_
    have h1 := own_ne h' (k := g) (t := e) (cs := cur) hg (Ne.symm hne)
    exact h1 hk.symm
end
theorem own_blk {w : World} {B e : Nat} {v : Value} {xs : List Value} {n : Nat} (h : w.ownsRow B e 1 v n xs) (hn : 0 < n) : ∃ a cap pad, v = .slice (some ⟨a, 0, none⟩) n cap ∧ B ≤ a ∧ Blk w a e (xs ++ pad).toArray := by
  rcases h.2 with ⟨_, h0⟩ | ⟨g, cap, cur, rfl, hb, hg, _, _, _, ht⟩
  · omega
  · refine ⟨g, cap, cur.toList.drop (n * 1), rfl, hb, ?_⟩
    unfold Blk
    rw [hg, ← ht, List.take_append_drop]
theorem ref_step (i : Nat) : (List.range (i + 1)).map (fun d => Value.int .u8 (refC d)) = (List.range i).map (fun d => Value.int .u8 (refC d)) ++ [.int .u8 (refC i)] := by
  rw [List.range_succ, List.map_append]; rfl
set_option maxRecDepth 100000 in
set_option maxHeartbeats 4000000 in
theorem rnew_any (w : World) : Calls Try.prog 9 #[] w (Ret (.pointer (some ⟨w.heap.size + 1, 0, none⟩)) fun w' => (∃ z : Sh, z.h = w.heap.size + 1 ∧ z.Ok w.heap.size ∧ RB w' z newS) ∧ Below w.heap.size w w') := by
  have hmk := make64
  obtain ⟨B, hB⟩ : ∃ B, w.heap.size = B := ⟨_, rfl⟩
  obtain ⟨j5, hi5, hz5, hs5, hb5⟩ := info_parts info5m
  obtain ⟨j3, hi3, hz3, hs3, hb3⟩ := info_parts info3m
  go_enter Try.func9, Try.ntmps9
  have F0 : Below w.heap.size w w := Below.refl _ _
  repeat (first | with_reducible apply wpList_nil | with_reducible apply seq_region | with_reducible apply wp_region_lit | with_reducible apply wp_seq | ((with_reducible apply seq_q); (focus rfl); (focus (simp [go_sem, effAt, ↓IntWalk.iteOmega, *]; (try go_ints); (first | (with_reducible exact effUpon_val) | (with_reducible exact effUpon_skip)))); (focus ((simp only [Act.put, List.setIfInBounds_toArray, List.set_cons_zero, List.set_cons_succ]; rfl)))) | ((with_reducible apply seq_s); (focus rfl); (focus ((simp only [Act.put, List.setIfInBounds_toArray, List.set_cons_zero, List.set_cons_succ]; rfl)))) | with_reducible apply wp_block | with_reducible apply wp_skip | with_reducible apply wp_exit | with_reducible apply wp_ret | ((with_reducible apply wp_cond_true); (focus (first | rfl | (simp [go_sem, *]; done)))) | ((with_reducible apply wp_cond_false); (focus (first | rfl | (simp [go_sem, *]; done)))) | (simp only [Exit.then, Exit.inBlock, ↓reduceIte, Nat.reduceEqDiff]))
  (with_reducible apply seq_e (fun w' => w' = w.alloc (.cells (madeCells #[.bool false] 64) 4)))
  (focus (first | exact wanted_none rfl | exact wanted_yes rfl rfl rfl))
  (focus (simp [go_sem, effAt, hmk]; exact ⟨rfl, rfl⟩))
  (simp only [Act.put, List.setIfInBounds_toArray, List.set_cons_zero, List.set_cons_succ]; rfl)
  rintro v1 hw1
  have hsz : v1.heap.size = B + 1 := by rw [hw1]; simp [hB]
  have hB_b : Blk v1 B 4 (cellsB newS) := by rw [hw1, made64, ← hB]; exact Blk.new w _ _
  have F1 : Below w.heap.size w v1 := by rw [hw1]; exact (Below.refl _ _).alloc (Nat.le_refl _) _
  clear hw1 hmk
  clear F0
  skip
  have hc_b := hB_b.cell
  repeat (first | with_reducible apply wpList_nil | with_reducible apply seq_region | with_reducible apply wp_region_lit | with_reducible apply wp_seq | ((with_reducible apply seq_q); (focus rfl); (focus (simp [go_sem, effAt, ↓IntWalk.iteOmega, *]; (try go_ints); (first | (with_reducible exact effUpon_val) | (with_reducible exact effUpon_skip)))); (focus ((simp only [Act.put, List.setIfInBounds_toArray, List.set_cons_zero, List.set_cons_succ]; rfl)))) | ((with_reducible apply seq_s); (focus rfl); (focus ((simp only [Act.put, List.setIfInBounds_toArray, List.set_cons_zero, List.set_cons_succ]; rfl)))) | with_reducible apply wp_block | with_reducible apply wp_skip | with_reducible apply wp_exit | with_reducible apply wp_ret | ((with_reducible apply wp_cond_true); (focus (first | rfl | (simp [go_sem, *]; done)))) | ((with_reducible apply wp_cond_false); (focus (first | rfl | (simp [go_sem, *]; done)))) | (simp only [Exit.then, Exit.inBlock, ↓reduceIte, Nat.reduceEqDiff]))
  have lt_b_h := hB_b.lt
  ((with_reducible apply seq_box); (focus rfl); (focus (simp [go_sem, effAt]; exact ⟨rfl, rfl⟩)); (focus ((simp only [Act.put, List.setIfInBounds_toArray, List.set_cons_zero, List.set_cons_succ]; rfl))))
  intro w1 hB_h hs
  have Fw1 := F1.trans (hs.mono F1.size)
  replace hB_b := hB_b.below hs hB_b.lt
  clear hs F1
  clear hc_b; have hc_b := hB_b.cell
  have hc_h := hB_h.cell
  repeat (first | with_reducible apply wpList_nil | with_reducible apply seq_region | with_reducible apply wp_region_lit | with_reducible apply wp_seq | ((with_reducible apply seq_q); (focus rfl); (focus (simp [go_sem, effAt, ↓IntWalk.iteOmega, *]; (try go_ints); (first | (with_reducible exact effUpon_val) | (with_reducible exact effUpon_skip)))); (focus ((simp only [Act.put, List.setIfInBounds_toArray, List.set_cons_zero, List.set_cons_succ]; rfl)))) | ((with_reducible apply seq_s); (focus rfl); (focus ((simp only [Act.put, List.setIfInBounds_toArray, List.set_cons_zero, List.set_cons_succ]; rfl)))) | with_reducible apply wp_block | with_reducible apply wp_skip | with_reducible apply wp_exit | with_reducible apply wp_ret | ((with_reducible apply wp_cond_true); (focus (first | rfl | (simp [go_sem, *]; done)))) | ((with_reducible apply wp_cond_false); (focus (first | rfl | (simp [go_sem, *]; done)))) | (simp only [Exit.then, Exit.inBlock, ↓reduceIte, Nat.reduceEqDiff]))
  have F2 := Fw1
  rw [hB] at F2 ⊢
  rw [hsz] at hB_h hc_h ⊢
  clear hc_h hc_b hsz lt_b_h
  go_loopg [2, 3] 64 (fun q v2 v3 wr => ∃ (i : Nat) (s0 s2 : Value), v2 = .int .i64 (i : Int) ∧ i + q = 64 ∧ Blk wr (B + 1) 51 #[s0, .slice (some ⟨B, 0, none⟩) 64 64, s2] ∧ Blk wr B 4 (cellsB newS) ∧
    wr.ownsRow B 5 1 s0 i ((List.range i).map fun d => Value.int .u8 (refC d)) ∧ wr.ownsRow B 3 1 s2 i (List.replicate i (.int .i64 (-1))) ∧ Below B w wr)
  case atStart => exact ⟨0, _, _, rfl, by omega, hB_h, hB_b, World.ownsRow_nil _ _ _ _, World.ownsRow_nil _ _ _ _, F2⟩
  case round =>
    rename_i J K hJ hK
    clear hB_h hB_b F2 Fw1
    obtain ⟨i, s0, s2, rfl, hi, hB_h, hB_b, hO0, hO2, hF⟩ := hrel
    by_cases hlt : i < 64
    case pos =>
      have hlt' : (i : Int) < 64 := by omega
      by_cases h0 : i = 0
      case pos =>
        have hi0 : ((i : Int) == 0) = true := by simp [h0]
        have hR : Value.int .u8 (refC i) = .int .u8 (0) := by unfold refC; rw [if_pos h0]
        have hst := ref_step i
        rw [hR] at hst
        clear hR
        have Fwr : Below wr.heap.size wr wr := Below.refl _ _
        have hc_h := hB_h.cell
        have hc_b := hB_b.cell
        repeat (first | with_reducible apply wpList_nil | with_reducible apply seq_region | with_reducible apply wp_region_lit | with_reducible apply wp_seq | ((with_reducible apply seq_q); (focus rfl); (focus (simp [go_sem, effAt, ↓IntWalk.iteOmega, *]; (try go_ints); (first | (with_reducible exact effUpon_val) | (with_reducible exact effUpon_skip)))); (focus ((simp only [Act.put, List.setIfInBounds_toArray, List.set_cons_zero, List.set_cons_succ]; rfl)))) | ((with_reducible apply seq_s); (focus rfl); (focus ((simp only [Act.put, List.setIfInBounds_toArray, List.set_cons_zero, List.set_cons_succ]; rfl)))) | with_reducible apply wp_block | with_reducible apply wp_skip | with_reducible apply wp_exit | with_reducible apply wp_ret | ((with_reducible apply wp_cond_true); (focus (first | rfl | (simp [go_sem, *]; done)))) | ((with_reducible apply wp_cond_false); (focus (first | rfl | (simp [go_sem, *]; done)))) | (simp only [Exit.then, Exit.inBlock, ↓reduceIte, Nat.reduceEqDiff]))
        have lt_h_x := hB_h.lt
        have lt_b_x := hB_b.lt
        ((with_reducible apply seq_box); (focus rfl); (focus (simp [go_sem, effAt]; exact ⟨rfl, rfl⟩)); (focus ((simp only [Act.put, List.setIfInBounds_toArray, List.set_cons_zero, List.set_cons_succ]; rfl))))
        intro w2 hB_x hs
        have Fw2 := Fwr.trans (hs.mono Fwr.size)
        replace hB_h := hB_h.below hs hB_h.lt
        replace hB_b := hB_b.below hs hB_b.lt
        clear hs Fwr
        clear hc_h; have hc_h := hB_h.cell
        clear hc_b; have hc_b := hB_b.cell
        have hc_x := hB_x.cell
        repeat (first | with_reducible apply wpList_nil | with_reducible apply seq_region | with_reducible apply wp_region_lit | with_reducible apply wp_seq | ((with_reducible apply seq_q); (focus rfl); (focus (simp [go_sem, effAt, ↓IntWalk.iteOmega, *]; (try go_ints); (first | (with_reducible exact effUpon_val) | (with_reducible exact effUpon_skip)))); (focus ((simp only [Act.put, List.setIfInBounds_toArray, List.set_cons_zero, List.set_cons_succ]; rfl)))) | ((with_reducible apply seq_s); (focus rfl); (focus ((simp only [Act.put, List.setIfInBounds_toArray, List.set_cons_zero, List.set_cons_succ]; rfl)))) | with_reducible apply wp_block | with_reducible apply wp_skip | with_reducible apply wp_exit | with_reducible apply wp_ret | ((with_reducible apply wp_cond_true); (focus (first | rfl | (simp [go_sem, *]; done)))) | ((with_reducible apply wp_cond_false); (focus (first | rfl | (simp [go_sem, *]; done)))) | (simp only [Exit.then, Exit.inBlock, ↓reduceIte, Nat.reduceEqDiff]))
        have hk0 := hO0.kept (grown_below Fw2 none) (Classical.em _)
        have hk2 := hO2.kept (grown_below Fw2 none) (Classical.em _)
        have hG1 := hF.trans (Fw2.mono (by have := hF.size; omega))
        refine wpList_append_own _ rfl _ _ 48 rfl B 5 j5 _ 1 1 Try.underlying48 hi5 hz5 hs5 hb5 rfl (by decide) s0 i _ rfl hk0 ⟨wr.heap.size, 0, none⟩ 1 1 [.int .u8 (0)] rfl rfl ?c1 ?c2 ?c3 ?c4 ?c5 ?_
        case c1 =>
          intro j u hj
          have e : (⟨wr.heap.size, 0, none⟩ : Addr).add j = ⟨wr.heap.size, j, none⟩ := by unfold Addr.add; split <;> simp_all
          rw [e, hB_x.cell]
          simpa using hj
        case c2 =>
          intro u hu
          simp at hu
          rcases hu with rfl
          rfl
        case c3 => unfold maxLen; omega
        case c4 => omega
        case c5 => have := hG1.size; omega
        intro t0 u1 hO0' hg1 _
        simp only [Act.put, List.setIfInBounds_toArray, List.set_cons_zero, List.set_cons_succ]
        rw [← hst] at hO0'
        have hB_h1 := hB_h.grown hg1 (fun e => own_ne hk0 hB_h (by decide) e.symm)
        have hB_b1 := hB_b.grown hg1 (fun e => own_ne hk0 hB_b (by decide) e.symm)
        have hk2' := hk2.kept hg1 (own_own hk2 hk0 (by decide))
        have hG2 := hG1.grown hg1 (by have := hG1.size; omega) (fun j hj => (hk0.lt j hj).1)
        clear hg1 hk0 hk2 hG1 hO0 hO2 hB_h hB_b hB_x hc_h hc_b hc_x Fw2 hst
        obtain ⟨p0, n0, k0, rfl⟩ : ∃ p n k, t0 = .slice p n k := by
          rcases hO0'.2 with ⟨rfl, _⟩ | ⟨g, cap, cur, rfl, _⟩
          · exact ⟨_, _, _, rfl⟩
          · exact ⟨_, _, _, rfl⟩
        have hB_h := hB_h1
        have hB_b := hB_b1
        clear hB_h1 hB_b1
        have hc_h := hB_h.cell
        repeat (first | ((with_reducible apply seq_q); (focus rfl); (focus (simp [go_sem, effAt, ↓IntWalk.iteOmega, *]; (try go_ints); (first | (with_reducible exact effUpon_val) | (with_reducible exact effUpon_skip)))); (focus ((simp only [Act.put, List.setIfInBounds_toArray, List.set_cons_zero, List.set_cons_succ]; rfl)))) | ((with_reducible apply seq_s); (focus rfl); (focus ((simp only [Act.put, List.setIfInBounds_toArray, List.set_cons_zero, List.set_cons_succ]; rfl)))))
        have hf_h := hB_h.frozen
        with_reducible apply seq_e (fun w' => Blk w' (B + 1) 51 #[.slice p0 n0 k0, .slice (some ⟨B, 0, none⟩) 64 64, s2] ∧ u1.grownBy w' (some (B + 1)))
        (focus (first | exact wanted_none rfl | exact wanted_yes rfl rfl rfl))
        (focus (simp [go_sem, effAt, *]; exact ⟨rfl, by simpa using hB_h.set_ 0 (.slice p0 n0 k0), grown_set (World.grownBy.refl _ _)⟩))
        (simp only [Act.put, List.setIfInBounds_toArray, List.set_cons_zero, List.set_cons_succ]; rfl)
        rintro u2 ⟨hP, hg2⟩
        have hn0 := own_ne hO0' hB_h (by decide)
        have hn2 := own_ne hk2' hB_h (by decide)
        have hO0 := hO0'.kept hg2 (.inr hn0)
        have hO2 := hk2'.kept hg2 (.inr hn2)
        have hB_b1 := hB_b.grown hg2 (fun e => by injection e; omega)
        have hG3 := hG2.grown hg2 (by have := hG2.size; omega) (by intro j hj; injection hj with hj; omega)
        clear hg2 hn0 hn2 hO0' hk2' hG2 hB_h hB_b hc_h hf_h
        have hB_h := hP
        have hB_b := hB_b1
        clear hP hB_b1
        have Fu2 : Below u2.heap.size u2 u2 := Below.refl _ _
        have hc_h := hB_h.cell
        have hc_b := hB_b.cell
        repeat (first | with_reducible apply wpList_nil | with_reducible apply seq_region | with_reducible apply wp_region_lit | with_reducible apply wp_seq | ((with_reducible apply seq_q); (focus rfl); (focus (simp [go_sem, effAt, ↓IntWalk.iteOmega, *]; (try go_ints); (first | (with_reducible exact effUpon_val) | (with_reducible exact effUpon_skip)))); (focus ((simp only [Act.put, List.setIfInBounds_toArray, List.set_cons_zero, List.set_cons_succ]; rfl)))) | ((with_reducible apply seq_s); (focus rfl); (focus ((simp only [Act.put, List.setIfInBounds_toArray, List.set_cons_zero, List.set_cons_succ]; rfl)))) | with_reducible apply wp_block | with_reducible apply wp_skip | with_reducible apply wp_exit | with_reducible apply wp_ret | ((with_reducible apply wp_cond_true); (focus (first | rfl | (simp [go_sem, *]; done)))) | ((with_reducible apply wp_cond_false); (focus (first | rfl | (simp [go_sem, *]; done)))) | (simp only [Exit.then, Exit.inBlock, ↓reduceIte, Nat.reduceEqDiff]))
        have lt_h_x := hB_h.lt
        have lt_b_x := hB_b.lt
        ((with_reducible apply seq_box); (focus rfl); (focus (simp [go_sem, effAt]; exact ⟨rfl, rfl⟩)); (focus ((simp only [Act.put, List.setIfInBounds_toArray, List.set_cons_zero, List.set_cons_succ]; rfl))))
        intro w3 hB_x hs
        have Fw3 := Fu2.trans (hs.mono Fu2.size)
        replace hB_h := hB_h.below hs hB_h.lt
        replace hB_b := hB_b.below hs hB_b.lt
        clear hs Fu2
        clear hc_h; have hc_h := hB_h.cell
        clear hc_b; have hc_b := hB_b.cell
        have hc_x := hB_x.cell
        repeat (first | with_reducible apply wpList_nil | with_reducible apply seq_region | with_reducible apply wp_region_lit | with_reducible apply wp_seq | ((with_reducible apply seq_q); (focus rfl); (focus (simp [go_sem, effAt, ↓IntWalk.iteOmega, *]; (try go_ints); (first | (with_reducible exact effUpon_val) | (with_reducible exact effUpon_skip)))); (focus ((simp only [Act.put, List.setIfInBounds_toArray, List.set_cons_zero, List.set_cons_succ]; rfl)))) | ((with_reducible apply seq_s); (focus rfl); (focus ((simp only [Act.put, List.setIfInBounds_toArray, List.set_cons_zero, List.set_cons_succ]; rfl)))) | with_reducible apply wp_block | with_reducible apply wp_skip | with_reducible apply wp_exit | with_reducible apply wp_ret | ((with_reducible apply wp_cond_true); (focus (first | rfl | (simp [go_sem, *]; done)))) | ((with_reducible apply wp_cond_false); (focus (first | rfl | (simp [go_sem, *]; done)))) | (simp only [Exit.then, Exit.inBlock, ↓reduceIte, Nat.reduceEqDiff]))
        have hk0 := hO0.kept (grown_below Fw3 none) (Classical.em _)
        have hk2 := hO2.kept (grown_below Fw3 none) (Classical.em _)
        have hG1 := hG3.trans (Fw3.mono (by have := hG3.size; omega))
        refine wpList_append_own _ rfl _ _ 49 rfl B 3 j3 _ 1 8 Try.underlying49 hi3 hz3 hs3 hb3 rfl (by decide) s2 i _ rfl hk2 ⟨u2.heap.size, 0, none⟩ 1 1 [.int .i64 (-1)] rfl rfl ?c1 ?c2 ?c3 ?c4 ?c5 ?_
        case c1 =>
          intro j u hj
          have e : (⟨u2.heap.size, 0, none⟩ : Addr).add j = ⟨u2.heap.size, j, none⟩ := by unfold Addr.add; split <;> simp_all
          rw [e, hB_x.cell]
          simpa using hj
        case c2 =>
          intro u hu
          simp at hu
          rcases hu with rfl
          rfl
        case c3 => unfold maxLen; omega
        case c4 => omega
        case c5 => have := hG1.size; omega
        intro t2 u3 hO2' hg1 _
        simp only [Act.put, List.setIfInBounds_toArray, List.set_cons_zero, List.set_cons_succ]
        rw [show List.replicate i (Value.int .i64 (-1)) ++ [.int .i64 (-1)] = List.replicate (i + 1) (.int .i64 (-1)) from List.replicate_succ'.symm] at hO2'
        have hB_h1 := hB_h.grown hg1 (fun e => own_ne hk2 hB_h (by decide) e.symm)
        have hB_b1 := hB_b.grown hg1 (fun e => own_ne hk2 hB_b (by decide) e.symm)
        have hk0' := hk0.kept hg1 (own_own hk0 hk2 (by decide))
        have hG2 := hG1.grown hg1 (by have := hG1.size; omega) (fun j hj => (hk2.lt j hj).1)
        clear hg1 hk0 hk2 hG1 hO0 hO2 hB_h hB_b hB_x hc_h hc_b hc_x Fw3
        obtain ⟨p2, n2, k2, rfl⟩ : ∃ p n k, t2 = .slice p n k := by
          rcases hO2'.2 with ⟨rfl, _⟩ | ⟨g, cap, cur, rfl, _⟩
          · exact ⟨_, _, _, rfl⟩
          · exact ⟨_, _, _, rfl⟩
        have hB_h := hB_h1
        have hB_b := hB_b1
        clear hB_h1 hB_b1
        have hc_h := hB_h.cell
        repeat (first | ((with_reducible apply seq_q); (focus rfl); (focus (simp [go_sem, effAt, ↓IntWalk.iteOmega, *]; (try go_ints); (first | (with_reducible exact effUpon_val) | (with_reducible exact effUpon_skip)))); (focus ((simp only [Act.put, List.setIfInBounds_toArray, List.set_cons_zero, List.set_cons_succ]; rfl)))) | ((with_reducible apply seq_s); (focus rfl); (focus ((simp only [Act.put, List.setIfInBounds_toArray, List.set_cons_zero, List.set_cons_succ]; rfl)))))
        have hf_h := hB_h.frozen
        with_reducible apply seq_e (fun w' => Blk w' (B + 1) 51 #[.slice p0 n0 k0, .slice (some ⟨B, 0, none⟩) 64 64, .slice p2 n2 k2] ∧ u3.grownBy w' (some (B + 1)))
        (focus (first | exact wanted_none rfl | exact wanted_yes rfl rfl rfl))
        (focus (simp [go_sem, effAt, *]; exact ⟨rfl, by simpa using hB_h.set_ 2 (.slice p2 n2 k2), grown_set (World.grownBy.refl _ _)⟩))
        (simp only [Act.put, List.setIfInBounds_toArray, List.set_cons_zero, List.set_cons_succ]; rfl)
        rintro u4 ⟨hP, hg2⟩
        have hn0 := own_ne hk0' hB_h (by decide)
        have hn2 := own_ne hO2' hB_h (by decide)
        have hO0 := hk0'.kept hg2 (.inr hn0)
        have hO2 := hO2'.kept hg2 (.inr hn2)
        have hB_b1 := hB_b.grown hg2 (fun e => by injection e; omega)
        have hG4 := hG2.grown hg2 (by have := hG2.size; omega) (by intro j hj; injection hj with hj; omega)
        clear hg2 hn0 hn2 hk0' hO2' hG2 hB_h hB_b hc_h hf_h
        have Fu4 : Below u4.heap.size u4 u4 := Below.refl _ _
        repeat (first | with_reducible apply wpList_nil | with_reducible apply seq_region | with_reducible apply wp_region_lit | with_reducible apply wp_seq | ((with_reducible apply seq_q); (focus rfl); (focus (simp [go_sem, effAt, ↓IntWalk.iteOmega, *]; (try go_ints); (first | (with_reducible exact effUpon_val) | (with_reducible exact effUpon_skip)))); (focus ((simp only [Act.put, List.setIfInBounds_toArray, List.set_cons_zero, List.set_cons_succ]; rfl)))) | ((with_reducible apply seq_s); (focus rfl); (focus ((simp only [Act.put, List.setIfInBounds_toArray, List.set_cons_zero, List.set_cons_succ]; rfl)))) | with_reducible apply wp_block | with_reducible apply wp_skip | with_reducible apply wp_exit | with_reducible apply wp_ret | ((with_reducible apply wp_cond_true); (focus (first | rfl | (simp [go_sem, *]; done)))) | ((with_reducible apply wp_cond_false); (focus (first | rfl | (simp [go_sem, *]; done)))) | (simp only [Exit.then, Exit.inBlock, ↓reduceIte, Nat.reduceEqDiff]))
        refine hK _ _ (Handed.intro (gk - 1) ?measure (hJ _ _ _ ?_))
        rotate_left
        (repeat apply Exists.intro)
        refine ⟨?rel, rfl⟩
        case rel => exact ⟨i + 1, _, _, by go_num, by omega, hP, hB_b1, hO0, hO2, hG4⟩
        case measure => omega
      have hi0 : ((i : Int) == 0) = false := by simp; omega
      by_cases h61 : 61 < (i : Int) - (i : Int) % 8 + 7
      case pos =>
        skip
        have hR : Value.int .u8 (refC i) = .int .u8 (61) := by unfold refC; rw [if_neg h0, if_pos (by omega)]
        have hst := ref_step i
        rw [hR] at hst
        clear hR
        have Fwr : Below wr.heap.size wr wr := Below.refl _ _
        have hc_h := hB_h.cell
        have hc_b := hB_b.cell
        repeat (first | with_reducible apply wpList_nil | with_reducible apply seq_region | with_reducible apply wp_region_lit | with_reducible apply wp_seq | ((with_reducible apply seq_q); (focus rfl); (focus (simp [go_sem, effAt, ↓IntWalk.iteOmega, *]; (try go_ints); (first | (with_reducible exact effUpon_val) | (with_reducible exact effUpon_skip)))); (focus ((simp only [Act.put, List.setIfInBounds_toArray, List.set_cons_zero, List.set_cons_succ]; rfl)))) | ((with_reducible apply seq_s); (focus rfl); (focus ((simp only [Act.put, List.setIfInBounds_toArray, List.set_cons_zero, List.set_cons_succ]; rfl)))) | with_reducible apply wp_block | with_reducible apply wp_skip | with_reducible apply wp_exit | with_reducible apply wp_ret | ((with_reducible apply wp_cond_true); (focus (first | rfl | (simp [go_sem, *]; done)))) | ((with_reducible apply wp_cond_false); (focus (first | rfl | (simp [go_sem, *]; done)))) | (simp only [Exit.then, Exit.inBlock, ↓reduceIte, Nat.reduceEqDiff]))
        have lt_h_x := hB_h.lt
        have lt_b_x := hB_b.lt
        ((with_reducible apply seq_box); (focus rfl); (focus (simp [go_sem, effAt]; exact ⟨rfl, rfl⟩)); (focus ((simp only [Act.put, List.setIfInBounds_toArray, List.set_cons_zero, List.set_cons_succ]; rfl))))
        intro w4 hB_x hs
        have Fw4 := Fwr.trans (hs.mono Fwr.size)
        replace hB_h := hB_h.below hs hB_h.lt
        replace hB_b := hB_b.below hs hB_b.lt
        clear hs Fwr
        clear hc_h; have hc_h := hB_h.cell
        clear hc_b; have hc_b := hB_b.cell
        have hc_x := hB_x.cell
        repeat (first | with_reducible apply wpList_nil | with_reducible apply seq_region | with_reducible apply wp_region_lit | with_reducible apply wp_seq | ((with_reducible apply seq_q); (focus rfl); (focus (simp [go_sem, effAt, ↓IntWalk.iteOmega, *]; (try go_ints); (first | (with_reducible exact effUpon_val) | (with_reducible exact effUpon_skip)))); (focus ((simp only [Act.put, List.setIfInBounds_toArray, List.set_cons_zero, List.set_cons_succ]; rfl)))) | ((with_reducible apply seq_s); (focus rfl); (focus ((simp only [Act.put, List.setIfInBounds_toArray, List.set_cons_zero, List.set_cons_succ]; rfl)))) | with_reducible apply wp_block | with_reducible apply wp_skip | with_reducible apply wp_exit | with_reducible apply wp_ret | ((with_reducible apply wp_cond_true); (focus (first | rfl | (simp [go_sem, *]; done)))) | ((with_reducible apply wp_cond_false); (focus (first | rfl | (simp [go_sem, *]; done)))) | (simp only [Exit.then, Exit.inBlock, ↓reduceIte, Nat.reduceEqDiff]))
        have hk0 := hO0.kept (grown_below Fw4 none) (Classical.em _)
        have hk2 := hO2.kept (grown_below Fw4 none) (Classical.em _)
        have hG1 := hF.trans (Fw4.mono (by have := hF.size; omega))
        refine wpList_append_own _ rfl _ _ 48 rfl B 5 j5 _ 1 1 Try.underlying48 hi5 hz5 hs5 hb5 rfl (by decide) s0 i _ rfl hk0 ⟨wr.heap.size, 0, none⟩ 1 1 [.int .u8 (61)] rfl rfl ?c1 ?c2 ?c3 ?c4 ?c5 ?_
        case c1 =>
          intro j u hj
          have e : (⟨wr.heap.size, 0, none⟩ : Addr).add j = ⟨wr.heap.size, j, none⟩ := by unfold Addr.add; split <;> simp_all
          rw [e, hB_x.cell]
          simpa using hj
        case c2 =>
          intro u hu
          simp at hu
          rcases hu with rfl
          rfl
        case c3 => unfold maxLen; omega
        case c4 => omega
        case c5 => have := hG1.size; omega
        intro t0 u1 hO0' hg1 _
        simp only [Act.put, List.setIfInBounds_toArray, List.set_cons_zero, List.set_cons_succ]
        rw [← hst] at hO0'
        have hB_h1 := hB_h.grown hg1 (fun e => own_ne hk0 hB_h (by decide) e.symm)
        have hB_b1 := hB_b.grown hg1 (fun e => own_ne hk0 hB_b (by decide) e.symm)
        have hk2' := hk2.kept hg1 (own_own hk2 hk0 (by decide))
        have hG2 := hG1.grown hg1 (by have := hG1.size; omega) (fun j hj => (hk0.lt j hj).1)
        clear hg1 hk0 hk2 hG1 hO0 hO2 hB_h hB_b hB_x hc_h hc_b hc_x Fw4 hst
        obtain ⟨p0, n0, k0, rfl⟩ : ∃ p n k, t0 = .slice p n k := by
          rcases hO0'.2 with ⟨rfl, _⟩ | ⟨g, cap, cur, rfl, _⟩
          · exact ⟨_, _, _, rfl⟩
          · exact ⟨_, _, _, rfl⟩
        have hB_h := hB_h1
        have hB_b := hB_b1
        clear hB_h1 hB_b1
        have hc_h := hB_h.cell
        repeat (first | ((with_reducible apply seq_q); (focus rfl); (focus (simp [go_sem, effAt, ↓IntWalk.iteOmega, *]; (try go_ints); (first | (with_reducible exact effUpon_val) | (with_reducible exact effUpon_skip)))); (focus ((simp only [Act.put, List.setIfInBounds_toArray, List.set_cons_zero, List.set_cons_succ]; rfl)))) | ((with_reducible apply seq_s); (focus rfl); (focus ((simp only [Act.put, List.setIfInBounds_toArray, List.set_cons_zero, List.set_cons_succ]; rfl)))))
        have hf_h := hB_h.frozen
        with_reducible apply seq_e (fun w' => Blk w' (B + 1) 51 #[.slice p0 n0 k0, .slice (some ⟨B, 0, none⟩) 64 64, s2] ∧ u1.grownBy w' (some (B + 1)))
        (focus (first | exact wanted_none rfl | exact wanted_yes rfl rfl rfl))
        (focus (simp [go_sem, effAt, *]; exact ⟨rfl, by simpa using hB_h.set_ 0 (.slice p0 n0 k0), grown_set (World.grownBy.refl _ _)⟩))
        (simp only [Act.put, List.setIfInBounds_toArray, List.set_cons_zero, List.set_cons_succ]; rfl)
        rintro u2 ⟨hP, hg2⟩
        have hn0 := own_ne hO0' hB_h (by decide)
        have hn2 := own_ne hk2' hB_h (by decide)
        have hO0 := hO0'.kept hg2 (.inr hn0)
        have hO2 := hk2'.kept hg2 (.inr hn2)
        have hB_b1 := hB_b.grown hg2 (fun e => by injection e; omega)
        have hG3 := hG2.grown hg2 (by have := hG2.size; omega) (by intro j hj; injection hj with hj; omega)
        clear hg2 hn0 hn2 hO0' hk2' hG2 hB_h hB_b hc_h hf_h
        have hB_h := hP
        have hB_b := hB_b1
        clear hP hB_b1
        have Fu2 : Below u2.heap.size u2 u2 := Below.refl _ _
        have hc_h := hB_h.cell
        have hc_b := hB_b.cell
        repeat (first | with_reducible apply wpList_nil | with_reducible apply seq_region | with_reducible apply wp_region_lit | with_reducible apply wp_seq | ((with_reducible apply seq_q); (focus rfl); (focus (simp [go_sem, effAt, ↓IntWalk.iteOmega, *]; (try go_ints); (first | (with_reducible exact effUpon_val) | (with_reducible exact effUpon_skip)))); (focus ((simp only [Act.put, List.setIfInBounds_toArray, List.set_cons_zero, List.set_cons_succ]; rfl)))) | ((with_reducible apply seq_s); (focus rfl); (focus ((simp only [Act.put, List.setIfInBounds_toArray, List.set_cons_zero, List.set_cons_succ]; rfl)))) | with_reducible apply wp_block | with_reducible apply wp_skip | with_reducible apply wp_exit | with_reducible apply wp_ret | ((with_reducible apply wp_cond_true); (focus (first | rfl | (simp [go_sem, *]; done)))) | ((with_reducible apply wp_cond_false); (focus (first | rfl | (simp [go_sem, *]; done)))) | (simp only [Exit.then, Exit.inBlock, ↓reduceIte, Nat.reduceEqDiff]))
        have lt_h_x := hB_h.lt
        have lt_b_x := hB_b.lt
        ((with_reducible apply seq_box); (focus rfl); (focus (simp [go_sem, effAt]; exact ⟨rfl, rfl⟩)); (focus ((simp only [Act.put, List.setIfInBounds_toArray, List.set_cons_zero, List.set_cons_succ]; rfl))))
        intro w5 hB_x hs
        have Fw5 := Fu2.trans (hs.mono Fu2.size)
        replace hB_h := hB_h.below hs hB_h.lt
        replace hB_b := hB_b.below hs hB_b.lt
        clear hs Fu2
        clear hc_h; have hc_h := hB_h.cell
        clear hc_b; have hc_b := hB_b.cell
        have hc_x := hB_x.cell
        repeat (first | with_reducible apply wpList_nil | with_reducible apply seq_region | with_reducible apply wp_region_lit | with_reducible apply wp_seq | ((with_reducible apply seq_q); (focus rfl); (focus (simp [go_sem, effAt, ↓IntWalk.iteOmega, *]; (try go_ints); (first | (with_reducible exact effUpon_val) | (with_reducible exact effUpon_skip)))); (focus ((simp only [Act.put, List.setIfInBounds_toArray, List.set_cons_zero, List.set_cons_succ]; rfl)))) | ((with_reducible apply seq_s); (focus rfl); (focus ((simp only [Act.put, List.setIfInBounds_toArray, List.set_cons_zero, List.set_cons_succ]; rfl)))) | with_reducible apply wp_block | with_reducible apply wp_skip | with_reducible apply wp_exit | with_reducible apply wp_ret | ((with_reducible apply wp_cond_true); (focus (first | rfl | (simp [go_sem, *]; done)))) | ((with_reducible apply wp_cond_false); (focus (first | rfl | (simp [go_sem, *]; done)))) | (simp only [Exit.then, Exit.inBlock, ↓reduceIte, Nat.reduceEqDiff]))
        have hk0 := hO0.kept (grown_below Fw5 none) (Classical.em _)
        have hk2 := hO2.kept (grown_below Fw5 none) (Classical.em _)
        have hG1 := hG3.trans (Fw5.mono (by have := hG3.size; omega))
        refine wpList_append_own _ rfl _ _ 49 rfl B 3 j3 _ 1 8 Try.underlying49 hi3 hz3 hs3 hb3 rfl (by decide) s2 i _ rfl hk2 ⟨u2.heap.size, 0, none⟩ 1 1 [.int .i64 (-1)] rfl rfl ?c1 ?c2 ?c3 ?c4 ?c5 ?_
        case c1 =>
          intro j u hj
          have e : (⟨u2.heap.size, 0, none⟩ : Addr).add j = ⟨u2.heap.size, j, none⟩ := by unfold Addr.add; split <;> simp_all
          rw [e, hB_x.cell]
          simpa using hj
        case c2 =>
          intro u hu
          simp at hu
          rcases hu with rfl
          rfl
        case c3 => unfold maxLen; omega
        case c4 => omega
        case c5 => have := hG1.size; omega
        intro t2 u3 hO2' hg1 _
        simp only [Act.put, List.setIfInBounds_toArray, List.set_cons_zero, List.set_cons_succ]
        rw [show List.replicate i (Value.int .i64 (-1)) ++ [.int .i64 (-1)] = List.replicate (i + 1) (.int .i64 (-1)) from List.replicate_succ'.symm] at hO2'
        have hB_h1 := hB_h.grown hg1 (fun e => own_ne hk2 hB_h (by decide) e.symm)
        have hB_b1 := hB_b.grown hg1 (fun e => own_ne hk2 hB_b (by decide) e.symm)
        have hk0' := hk0.kept hg1 (own_own hk0 hk2 (by decide))
        have hG2 := hG1.grown hg1 (by have := hG1.size; omega) (fun j hj => (hk2.lt j hj).1)
        clear hg1 hk0 hk2 hG1 hO0 hO2 hB_h hB_b hB_x hc_h hc_b hc_x Fw5
        obtain ⟨p2, n2, k2, rfl⟩ : ∃ p n k, t2 = .slice p n k := by
          rcases hO2'.2 with ⟨rfl, _⟩ | ⟨g, cap, cur, rfl, _⟩
          · exact ⟨_, _, _, rfl⟩
          · exact ⟨_, _, _, rfl⟩
        have hB_h := hB_h1
        have hB_b := hB_b1
        clear hB_h1 hB_b1
        have hc_h := hB_h.cell
        repeat (first | ((with_reducible apply seq_q); (focus rfl); (focus (simp [go_sem, effAt, ↓IntWalk.iteOmega, *]; (try go_ints); (first | (with_reducible exact effUpon_val) | (with_reducible exact effUpon_skip)))); (focus ((simp only [Act.put, List.setIfInBounds_toArray, List.set_cons_zero, List.set_cons_succ]; rfl)))) | ((with_reducible apply seq_s); (focus rfl); (focus ((simp only [Act.put, List.setIfInBounds_toArray, List.set_cons_zero, List.set_cons_succ]; rfl)))))
        have hf_h := hB_h.frozen
        with_reducible apply seq_e (fun w' => Blk w' (B + 1) 51 #[.slice p0 n0 k0, .slice (some ⟨B, 0, none⟩) 64 64, .slice p2 n2 k2] ∧ u3.grownBy w' (some (B + 1)))
        (focus (first | exact wanted_none rfl | exact wanted_yes rfl rfl rfl))
        (focus (simp [go_sem, effAt, *]; exact ⟨rfl, by simpa using hB_h.set_ 2 (.slice p2 n2 k2), grown_set (World.grownBy.refl _ _)⟩))
        (simp only [Act.put, List.setIfInBounds_toArray, List.set_cons_zero, List.set_cons_succ]; rfl)
        rintro u4 ⟨hP, hg2⟩
        have hn0 := own_ne hk0' hB_h (by decide)
        have hn2 := own_ne hO2' hB_h (by decide)
        have hO0 := hk0'.kept hg2 (.inr hn0)
        have hO2 := hO2'.kept hg2 (.inr hn2)
        have hB_b1 := hB_b.grown hg2 (fun e => by injection e; omega)
        have hG4 := hG2.grown hg2 (by have := hG2.size; omega) (by intro j hj; injection hj with hj; omega)
        clear hg2 hn0 hn2 hk0' hO2' hG2 hB_h hB_b hc_h hf_h
        have Fu4 : Below u4.heap.size u4 u4 := Below.refl _ _
        repeat (first | with_reducible apply wpList_nil | with_reducible apply seq_region | with_reducible apply wp_region_lit | with_reducible apply wp_seq | ((with_reducible apply seq_q); (focus rfl); (focus (simp [go_sem, effAt, ↓IntWalk.iteOmega, *]; (try go_ints); (first | (with_reducible exact effUpon_val) | (with_reducible exact effUpon_skip)))); (focus ((simp only [Act.put, List.setIfInBounds_toArray, List.set_cons_zero, List.set_cons_succ]; rfl)))) | ((with_reducible apply seq_s); (focus rfl); (focus ((simp only [Act.put, List.setIfInBounds_toArray, List.set_cons_zero, List.set_cons_succ]; rfl)))) | with_reducible apply wp_block | with_reducible apply wp_skip | with_reducible apply wp_exit | with_reducible apply wp_ret | ((with_reducible apply wp_cond_true); (focus (first | rfl | (simp [go_sem, *]; done)))) | ((with_reducible apply wp_cond_false); (focus (first | rfl | (simp [go_sem, *]; done)))) | (simp only [Exit.then, Exit.inBlock, ↓reduceIte, Nat.reduceEqDiff]))
        refine hK _ _ (Handed.intro (gk - 1) ?measure (hJ _ _ _ ?_))
        rotate_left
        (repeat apply Exists.intro)
        refine ⟨?rel, rfl⟩
        case rel => exact ⟨i + 1, _, _, by go_num, by omega, hP, hB_b1, hO0, hO2, hG4⟩
        case measure => omega
      case neg =>
        skip
        have hR : Value.int .u8 (refC i) = .int .u8 ((i : Int) - (i : Int) % 8 + 7) := by unfold refC; rw [if_neg h0, if_neg (by omega)]; congr 1; omega
        have hst := ref_step i
        rw [hR] at hst
        clear hR
        have Fwr : Below wr.heap.size wr wr := Below.refl _ _
        have hc_h := hB_h.cell
        have hc_b := hB_b.cell
        repeat (first | with_reducible apply wpList_nil | with_reducible apply seq_region | with_reducible apply wp_region_lit | with_reducible apply wp_seq | ((with_reducible apply seq_q); (focus rfl); (focus (simp [go_sem, effAt, ↓IntWalk.iteOmega, *]; (try go_ints); (first | (with_reducible exact effUpon_val) | (with_reducible exact effUpon_skip)))); (focus ((simp only [Act.put, List.setIfInBounds_toArray, List.set_cons_zero, List.set_cons_succ]; rfl)))) | ((with_reducible apply seq_s); (focus rfl); (focus ((simp only [Act.put, List.setIfInBounds_toArray, List.set_cons_zero, List.set_cons_succ]; rfl)))) | with_reducible apply wp_block | with_reducible apply wp_skip | with_reducible apply wp_exit | with_reducible apply wp_ret | ((with_reducible apply wp_cond_true); (focus (first | rfl | (simp [go_sem, *]; done)))) | ((with_reducible apply wp_cond_false); (focus (first | rfl | (simp [go_sem, *]; done)))) | (simp only [Exit.then, Exit.inBlock, ↓reduceIte, Nat.reduceEqDiff]))
        have lt_h_x := hB_h.lt
        have lt_b_x := hB_b.lt
        ((with_reducible apply seq_box); (focus rfl); (focus (simp [go_sem, effAt]; exact ⟨rfl, rfl⟩)); (focus ((simp only [Act.put, List.setIfInBounds_toArray, List.set_cons_zero, List.set_cons_succ]; rfl))))
        intro w6 hB_x hs
        have Fw6 := Fwr.trans (hs.mono Fwr.size)
        replace hB_h := hB_h.below hs hB_h.lt
        replace hB_b := hB_b.below hs hB_b.lt
        clear hs Fwr
        clear hc_h; have hc_h := hB_h.cell
        clear hc_b; have hc_b := hB_b.cell
        have hc_x := hB_x.cell
        repeat (first | with_reducible apply wpList_nil | with_reducible apply seq_region | with_reducible apply wp_region_lit | with_reducible apply wp_seq | ((with_reducible apply seq_q); (focus rfl); (focus (simp [go_sem, effAt, ↓IntWalk.iteOmega, *]; (try go_ints); (first | (with_reducible exact effUpon_val) | (with_reducible exact effUpon_skip)))); (focus ((simp only [Act.put, List.setIfInBounds_toArray, List.set_cons_zero, List.set_cons_succ]; rfl)))) | ((with_reducible apply seq_s); (focus rfl); (focus ((simp only [Act.put, List.setIfInBounds_toArray, List.set_cons_zero, List.set_cons_succ]; rfl)))) | with_reducible apply wp_block | with_reducible apply wp_skip | with_reducible apply wp_exit | with_reducible apply wp_ret | ((with_reducible apply wp_cond_true); (focus (first | rfl | (simp [go_sem, *]; done)))) | ((with_reducible apply wp_cond_false); (focus (first | rfl | (simp [go_sem, *]; done)))) | (simp only [Exit.then, Exit.inBlock, ↓reduceIte, Nat.reduceEqDiff]))
        have hk0 := hO0.kept (grown_below Fw6 none) (Classical.em _)
        have hk2 := hO2.kept (grown_below Fw6 none) (Classical.em _)
        have hG1 := hF.trans (Fw6.mono (by have := hF.size; omega))
        refine wpList_append_own _ rfl _ _ 48 rfl B 5 j5 _ 1 1 Try.underlying48 hi5 hz5 hs5 hb5 rfl (by decide) s0 i _ rfl hk0 ⟨wr.heap.size, 0, none⟩ 1 1 [.int .u8 ((i : Int) - (i : Int) % 8 + 7)] rfl rfl ?c1 ?c2 ?c3 ?c4 ?c5 ?_
        case c1 =>
          intro j u hj
          have e : (⟨wr.heap.size, 0, none⟩ : Addr).add j = ⟨wr.heap.size, j, none⟩ := by unfold Addr.add; split <;> simp_all
          rw [e, hB_x.cell]
          simpa using hj
        case c2 =>
          intro u hu
          simp at hu
          rcases hu with rfl
          rfl
        case c3 => unfold maxLen; omega
        case c4 => omega
        case c5 => have := hG1.size; omega
        intro t0 u1 hO0' hg1 _
        simp only [Act.put, List.setIfInBounds_toArray, List.set_cons_zero, List.set_cons_succ]
        rw [← hst] at hO0'
        have hB_h1 := hB_h.grown hg1 (fun e => own_ne hk0 hB_h (by decide) e.symm)
        have hB_b1 := hB_b.grown hg1 (fun e => own_ne hk0 hB_b (by decide) e.symm)
        have hk2' := hk2.kept hg1 (own_own hk2 hk0 (by decide))
        have hG2 := hG1.grown hg1 (by have := hG1.size; omega) (fun j hj => (hk0.lt j hj).1)
        clear hg1 hk0 hk2 hG1 hO0 hO2 hB_h hB_b hB_x hc_h hc_b hc_x Fw6 hst
        obtain ⟨p0, n0, k0, rfl⟩ : ∃ p n k, t0 = .slice p n k := by
          rcases hO0'.2 with ⟨rfl, _⟩ | ⟨g, cap, cur, rfl, _⟩
          · exact ⟨_, _, _, rfl⟩
          · exact ⟨_, _, _, rfl⟩
        have hB_h := hB_h1
        have hB_b := hB_b1
        clear hB_h1 hB_b1
        have hc_h := hB_h.cell
        repeat (first | ((with_reducible apply seq_q); (focus rfl); (focus (simp [go_sem, effAt, ↓IntWalk.iteOmega, *]; (try go_ints); (first | (with_reducible exact effUpon_val) | (with_reducible exact effUpon_skip)))); (focus ((simp only [Act.put, List.setIfInBounds_toArray, List.set_cons_zero, List.set_cons_succ]; rfl)))) | ((with_reducible apply seq_s); (focus rfl); (focus ((simp only [Act.put, List.setIfInBounds_toArray, List.set_cons_zero, List.set_cons_succ]; rfl)))))
        have hf_h := hB_h.frozen
        with_reducible apply seq_e (fun w' => Blk w' (B + 1) 51 #[.slice p0 n0 k0, .slice (some ⟨B, 0, none⟩) 64 64, s2] ∧ u1.grownBy w' (some (B + 1)))
        (focus (first | exact wanted_none rfl | exact wanted_yes rfl rfl rfl))
        (focus (simp [go_sem, effAt, *]; exact ⟨rfl, by simpa using hB_h.set_ 0 (.slice p0 n0 k0), grown_set (World.grownBy.refl _ _)⟩))
        (simp only [Act.put, List.setIfInBounds_toArray, List.set_cons_zero, List.set_cons_succ]; rfl)
        rintro u2 ⟨hP, hg2⟩
        have hn0 := own_ne hO0' hB_h (by decide)
        have hn2 := own_ne hk2' hB_h (by decide)
        have hO0 := hO0'.kept hg2 (.inr hn0)
        have hO2 := hk2'.kept hg2 (.inr hn2)
        have hB_b1 := hB_b.grown hg2 (fun e => by injection e; omega)
        have hG3 := hG2.grown hg2 (by have := hG2.size; omega) (by intro j hj; injection hj with hj; omega)
        clear hg2 hn0 hn2 hO0' hk2' hG2 hB_h hB_b hc_h hf_h
        have hB_h := hP
        have hB_b := hB_b1
        clear hP hB_b1
        have Fu2 : Below u2.heap.size u2 u2 := Below.refl _ _
        have hc_h := hB_h.cell
        have hc_b := hB_b.cell
        repeat (first | with_reducible apply wpList_nil | with_reducible apply seq_region | with_reducible apply wp_region_lit | with_reducible apply wp_seq | ((with_reducible apply seq_q); (focus rfl); (focus (simp [go_sem, effAt, ↓IntWalk.iteOmega, *]; (try go_ints); (first | (with_reducible exact effUpon_val) | (with_reducible exact effUpon_skip)))); (focus ((simp only [Act.put, List.setIfInBounds_toArray, List.set_cons_zero, List.set_cons_succ]; rfl)))) | ((with_reducible apply seq_s); (focus rfl); (focus ((simp only [Act.put, List.setIfInBounds_toArray, List.set_cons_zero, List.set_cons_succ]; rfl)))) | with_reducible apply wp_block | with_reducible apply wp_skip | with_reducible apply wp_exit | with_reducible apply wp_ret | ((with_reducible apply wp_cond_true); (focus (first | rfl | (simp [go_sem, *]; done)))) | ((with_reducible apply wp_cond_false); (focus (first | rfl | (simp [go_sem, *]; done)))) | (simp only [Exit.then, Exit.inBlock, ↓reduceIte, Nat.reduceEqDiff]))
        have lt_h_x := hB_h.lt
        have lt_b_x := hB_b.lt
        ((with_reducible apply seq_box); (focus rfl); (focus (simp [go_sem, effAt]; exact ⟨rfl, rfl⟩)); (focus ((simp only [Act.put, List.setIfInBounds_toArray, List.set_cons_zero, List.set_cons_succ]; rfl))))
        intro w7 hB_x hs
        have Fw7 := Fu2.trans (hs.mono Fu2.size)
        replace hB_h := hB_h.below hs hB_h.lt
        replace hB_b := hB_b.below hs hB_b.lt
        clear hs Fu2
        clear hc_h; have hc_h := hB_h.cell
        clear hc_b; have hc_b := hB_b.cell
        have hc_x := hB_x.cell
        repeat (first | with_reducible apply wpList_nil | with_reducible apply seq_region | with_reducible apply wp_region_lit | with_reducible apply wp_seq | ((with_reducible apply seq_q); (focus rfl); (focus (simp [go_sem, effAt, ↓IntWalk.iteOmega, *]; (try go_ints); (first | (with_reducible exact effUpon_val) | (with_reducible exact effUpon_skip)))); (focus ((simp only [Act.put, List.setIfInBounds_toArray, List.set_cons_zero, List.set_cons_succ]; rfl)))) | ((with_reducible apply seq_s); (focus rfl); (focus ((simp only [Act.put, List.setIfInBounds_toArray, List.set_cons_zero, List.set_cons_succ]; rfl)))) | with_reducible apply wp_block | with_reducible apply wp_skip | with_reducible apply wp_exit | with_reducible apply wp_ret | ((with_reducible apply wp_cond_true); (focus (first | rfl | (simp [go_sem, *]; done)))) | ((with_reducible apply wp_cond_false); (focus (first | rfl | (simp [go_sem, *]; done)))) | (simp only [Exit.then, Exit.inBlock, ↓reduceIte, Nat.reduceEqDiff]))
        have hk0 := hO0.kept (grown_below Fw7 none) (Classical.em _)
        have hk2 := hO2.kept (grown_below Fw7 none) (Classical.em _)
        have hG1 := hG3.trans (Fw7.mono (by have := hG3.size; omega))
        refine wpList_append_own _ rfl _ _ 49 rfl B 3 j3 _ 1 8 Try.underlying49 hi3 hz3 hs3 hb3 rfl (by decide) s2 i _ rfl hk2 ⟨u2.heap.size, 0, none⟩ 1 1 [.int .i64 (-1)] rfl rfl ?c1 ?c2 ?c3 ?c4 ?c5 ?_
        case c1 =>
          intro j u hj
          have e : (⟨u2.heap.size, 0, none⟩ : Addr).add j = ⟨u2.heap.size, j, none⟩ := by unfold Addr.add; split <;> simp_all
          rw [e, hB_x.cell]
          simpa using hj
        case c2 =>
          intro u hu
          simp at hu
          rcases hu with rfl
          rfl
        case c3 => unfold maxLen; omega
        case c4 => omega
        case c5 => have := hG1.size; omega
        intro t2 u3 hO2' hg1 _
        simp only [Act.put, List.setIfInBounds_toArray, List.set_cons_zero, List.set_cons_succ]
        rw [show List.replicate i (Value.int .i64 (-1)) ++ [.int .i64 (-1)] = List.replicate (i + 1) (.int .i64 (-1)) from List.replicate_succ'.symm] at hO2'
        have hB_h1 := hB_h.grown hg1 (fun e => own_ne hk2 hB_h (by decide) e.symm)
        have hB_b1 := hB_b.grown hg1 (fun e => own_ne hk2 hB_b (by decide) e.symm)
        have hk0' := hk0.kept hg1 (own_own hk0 hk2 (by decide))
        have hG2 := hG1.grown hg1 (by have := hG1.size; omega) (fun j hj => (hk2.lt j hj).1)
        clear hg1 hk0 hk2 hG1 hO0 hO2 hB_h hB_b hB_x hc_h hc_b hc_x Fw7
        obtain ⟨p2, n2, k2, rfl⟩ : ∃ p n k, t2 = .slice p n k := by
          rcases hO2'.2 with ⟨rfl, _⟩ | ⟨g, cap, cur, rfl, _⟩
          · exact ⟨_, _, _, rfl⟩
          · exact ⟨_, _, _, rfl⟩
        have hB_h := hB_h1
        have hB_b := hB_b1
        clear hB_h1 hB_b1
        have hc_h := hB_h.cell
        repeat (first | ((with_reducible apply seq_q); (focus rfl); (focus (simp [go_sem, effAt, ↓IntWalk.iteOmega, *]; (try go_ints); (first | (with_reducible exact effUpon_val) | (with_reducible exact effUpon_skip)))); (focus ((simp only [Act.put, List.setIfInBounds_toArray, List.set_cons_zero, List.set_cons_succ]; rfl)))) | ((with_reducible apply seq_s); (focus rfl); (focus ((simp only [Act.put, List.setIfInBounds_toArray, List.set_cons_zero, List.set_cons_succ]; rfl)))))
        have hf_h := hB_h.frozen
        with_reducible apply seq_e (fun w' => Blk w' (B + 1) 51 #[.slice p0 n0 k0, .slice (some ⟨B, 0, none⟩) 64 64, .slice p2 n2 k2] ∧ u3.grownBy w' (some (B + 1)))
        (focus (first | exact wanted_none rfl | exact wanted_yes rfl rfl rfl))
        (focus (simp [go_sem, effAt, *]; exact ⟨rfl, by simpa using hB_h.set_ 2 (.slice p2 n2 k2), grown_set (World.grownBy.refl _ _)⟩))
        (simp only [Act.put, List.setIfInBounds_toArray, List.set_cons_zero, List.set_cons_succ]; rfl)
        rintro u4 ⟨hP, hg2⟩
        have hn0 := own_ne hk0' hB_h (by decide)
        have hn2 := own_ne hO2' hB_h (by decide)
        have hO0 := hk0'.kept hg2 (.inr hn0)
        have hO2 := hO2'.kept hg2 (.inr hn2)
        have hB_b1 := hB_b.grown hg2 (fun e => by injection e; omega)
        have hG4 := hG2.grown hg2 (by have := hG2.size; omega) (by intro j hj; injection hj with hj; omega)
        clear hg2 hn0 hn2 hk0' hO2' hG2 hB_h hB_b hc_h hf_h
        have Fu4 : Below u4.heap.size u4 u4 := Below.refl _ _
        repeat (first | with_reducible apply wpList_nil | with_reducible apply seq_region | with_reducible apply wp_region_lit | with_reducible apply wp_seq | ((with_reducible apply seq_q); (focus rfl); (focus (simp [go_sem, effAt, ↓IntWalk.iteOmega, *]; (try go_ints); (first | (with_reducible exact effUpon_val) | (with_reducible exact effUpon_skip)))); (focus ((simp only [Act.put, List.setIfInBounds_toArray, List.set_cons_zero, List.set_cons_succ]; rfl)))) | ((with_reducible apply seq_s); (focus rfl); (focus ((simp only [Act.put, List.setIfInBounds_toArray, List.set_cons_zero, List.set_cons_succ]; rfl)))) | with_reducible apply wp_block | with_reducible apply wp_skip | with_reducible apply wp_exit | with_reducible apply wp_ret | ((with_reducible apply wp_cond_true); (focus (first | rfl | (simp [go_sem, *]; done)))) | ((with_reducible apply wp_cond_false); (focus (first | rfl | (simp [go_sem, *]; done)))) | (simp only [Exit.then, Exit.inBlock, ↓reduceIte, Nat.reduceEqDiff]))
        refine hK _ _ (Handed.intro (gk - 1) ?measure (hJ _ _ _ ?_))
        rotate_left
        (repeat apply Exists.intro)
        refine ⟨?rel, rfl⟩
        case rel => exact ⟨i + 1, _, _, by go_num, by omega, hP, hB_b1, hO0, hO2, hG4⟩
        case measure => omega
    case neg =>
      obtain rfl : i = 64 := by omega
      have hlt' : ¬ ((64 : Nat) : Int) < 64 := by omega
      obtain ⟨a, ca, pa, e0, ha0, hB_a⟩ := own_blk hO0 (by omega)
      obtain ⟨c, cc, pc, e2, hc0, hB_c⟩ := own_blk hO2 (by omega)
      have n1 := own_ne hO0 hB_h (by decide)
      have n2 := own_ne hO0 hB_b (by decide)
      have n3 := own_ne hO0 hB_c (by decide)
      have n4 := own_ne hO2 hB_h (by decide)
      have n5 := own_ne hO2 hB_b (by decide)
      have hR : RB wr ⟨B + 1, a, B, c, ca, cc, pa, pc⟩ newS := by
        refine ⟨by rw [e0, e2] at hB_h; exact hB_h, ?_, hB_b, ?_⟩
        · unfold cellsA
          rw [← ref_new, List.map_map]
          exact hB_a
        · unfold cellsL
          rw [ref_la, List.map_replicate]
          exact hB_c
      subst e0 e2
      have hZ : Sh.Ok ⟨B + 1, a, B, c, ca, cc, pa, pc⟩ B := by
        simp only [Value.ownBlock, ne_eq, Option.some.injEq] at n1 n2 n3 n4 n5
        exact ⟨Nat.le_succ _, ha0, Nat.le_refl _, hc0, fun e => n1 e.symm, by simp, fun e => n4 e.symm, n2, n3, fun e => n5 e.symm⟩
      clear hJ hK hO0 hO2 hB_a hB_b hB_c hB_h n1 n2 n3 n4 n5
      have Fwr : Below wr.heap.size wr wr := Below.refl _ _
      repeat (first | with_reducible apply wpList_nil | with_reducible apply seq_region | with_reducible apply wp_region_lit | with_reducible apply wp_seq | ((with_reducible apply seq_q); (focus rfl); (focus (simp [go_sem, effAt, ↓IntWalk.iteOmega, *]; (try go_ints); (first | (with_reducible exact effUpon_val) | (with_reducible exact effUpon_skip)))); (focus ((simp only [Act.put, List.setIfInBounds_toArray, List.set_cons_zero, List.set_cons_succ]; rfl)))) | ((with_reducible apply seq_s); (focus rfl); (focus ((simp only [Act.put, List.setIfInBounds_toArray, List.set_cons_zero, List.set_cons_succ]; rfl)))) | with_reducible apply wp_block | with_reducible apply wp_skip | with_reducible apply wp_exit | with_reducible apply wp_ret | ((with_reducible apply wp_cond_true); (focus (first | rfl | (simp [go_sem, *]; done)))) | ((with_reducible apply wp_cond_false); (focus (first | rfl | (simp [go_sem, *]; done)))) | (simp only [Exit.then, Exit.inBlock, ↓reduceIte, Nat.reduceEqDiff]))
      go_ret
      exact ⟨rfl, ⟨_, rfl, hZ, hR⟩, hF⟩
end Go.Proofs.Ytminenipklgbcaa

