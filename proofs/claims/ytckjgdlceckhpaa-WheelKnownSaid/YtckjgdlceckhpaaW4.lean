/- The walk of New. -/
import Derived.Test.YtckjgdlceckhpaaW3
set_option linter.unusedSimpArgs false
set_option linter.unusedVariables false
namespace Go.Proofs.Ytckjgdlceckhpaa
open Go.RowKit Go.Eff
attribute [local irreducible] Go.wpList
theorem info53m : (Try.prog.info? 53).map (fun i => (i.zero, i.size, i.bytes)) = some (some (.slice none 0 0), 1, 24) := by kernel_rfl
theorem info53 : ∃ i0, Try.prog.info? 53 = some i0 ∧ i0.zero = some (.slice none 0 0) ∧ i0.size = 1 ∧ i0.bytes = 24 := by
  have h := info53m
  cases hi : Try.prog.info? 53 with
  | none => rw [hi] at h; cases h
  | some i0 =>
    rw [hi] at h
    simp only [Option.map_some, Option.some.injEq, Prod.mk.injEq] at h
    exact ⟨i0, rfl, h.1, h.2.1, h.2.2⟩
section
variable {o : Oper} {a : Act} {w : World} {x y : Operand} {n : Nat}
theorem eff_make (ho : o.op = .makeSlice 46 x y) (hx : a.eval x = .int .i64 (n : Int)) (hy : a.eval y = .int .i64 (n : Int)) (hn : n ≤ 1000) : effAt Try.prog o a w (.slice (some ⟨w.heap.size, 0, none⟩) n n) (fun w' => w' = w.alloc (.cells (List.replicate n (.slice none 0 0)).toArray 53)) := by
  obtain ⟨i0, hi, hz, hs, hb⟩ := info53
  have hr := run_make (P := Try.prog) w 46 53 i0 (.slice none 0 0) Try.underlying46 hi hz .i64 .i64 n n (by omega) (Int.le_refl _) (by rw [hb]; omega) (by omega)
  simp only [Int.toNat_natCast, hs, Value.cells] at hr
  unfold effAt execOp
  simp only [ho, hx, hy, Sem.run_bind, hr, Result.andThen_ok, Sem.run_pure]
  refine ⟨rfl, ?_⟩
  congr 2
  apply Array.ext'
  rw [Nat.mul_one, toList_madeCells_one]
theorem eff_makemap (ho : o.op = .makeMap 47 none) : effAt Try.prog o a w (.map (some w.heap.size)) (fun w' => w' = w.alloc (.map #[] 0)) := by
  unfold effAt execOp
  simp [ho, Instr.makeMap, run_newObj_alloc, Result.andThen, effUpon]
end
theorem new_no (x : Int) (hx : x < 1 ∨ 256 < x) (hw : (-9223372036854775808 ≤ x) ∧ x ≤ 9223372036854775807) (w : World) : Calls Try.prog 8 #[.int .i64 x] w (Ret (.pointer none) (Below w.heap.size w)) := by
  by_cases h1 : x < 1
  case pos =>
    clear hx hw
    go_enter Try.func8, Try.ntmps8
    have F0 : Below w.heap.size w w := Below.refl _ _
    repeat (first | with_reducible apply wpList_nil | with_reducible apply seq_region | with_reducible apply wp_region_lit | with_reducible apply wp_seq | ((with_reducible apply seq_q); (focus rfl); (focus (simp [go_sem, effAt, ↓IntWalk.iteOmega, *]; (try go_ints); (first | (with_reducible exact effUpon_val) | (with_reducible exact effUpon_skip)))); (focus ((simp only [Act.put, List.setIfInBounds_toArray, List.set_cons_zero, List.set_cons_succ]; rfl)))) | ((with_reducible apply seq_s); (focus rfl); (focus ((simp only [Act.put, List.setIfInBounds_toArray, List.set_cons_zero, List.set_cons_succ]; rfl)))) | with_reducible apply wp_block | with_reducible apply wp_skip | with_reducible apply wp_exit | with_reducible apply wp_ret | ((with_reducible apply wp_cond_true); (focus (first | rfl | (simp [go_sem, *]; done)))) | ((with_reducible apply wp_cond_false); (focus (first | rfl | (simp [go_sem, *]; done)))) | (simp only [Exit.then, Exit.inBlock, ↓reduceIte, Nat.reduceEqDiff]))
    go_ret
    exact ⟨rfl, by assumption⟩
  case neg =>
    have h2 : 256 < x := by omega
    clear hx hw
    go_enter Try.func8, Try.ntmps8
    have F0 : Below w.heap.size w w := Below.refl _ _
    repeat (first | with_reducible apply wpList_nil | with_reducible apply seq_region | with_reducible apply wp_region_lit | with_reducible apply wp_seq | ((with_reducible apply seq_q); (focus rfl); (focus (simp [go_sem, effAt, ↓IntWalk.iteOmega, *]; (try go_ints); (first | (with_reducible exact effUpon_val) | (with_reducible exact effUpon_skip)))); (focus ((simp only [Act.put, List.setIfInBounds_toArray, List.set_cons_zero, List.set_cons_succ]; rfl)))) | ((with_reducible apply seq_s); (focus rfl); (focus ((simp only [Act.put, List.setIfInBounds_toArray, List.set_cons_zero, List.set_cons_succ]; rfl)))) | with_reducible apply wp_block | with_reducible apply wp_skip | with_reducible apply wp_exit | with_reducible apply wp_ret | ((with_reducible apply wp_cond_true); (focus (first | rfl | (simp [go_sem, *]; done)))) | ((with_reducible apply wp_cond_false); (focus (first | rfl | (simp [go_sem, *]; done)))) | (simp only [Exit.then, Exit.inBlock, ↓reduceIte, Nat.reduceEqDiff]))
    go_ret
    exact ⟨rfl, by assumption⟩
def Wh.zero (n sb mb : Nat) : Wh := { n := n, tt := 0, sb := sb, mb := mb, M := [], Sl := fun _ => 0, Rd := fun _ => 0, B := fun _ => 0, R := fun _ => [], G := fun _ => none }
theorem zero_wi {n sb : Nat} {w w1 w2 w3 : World} (h1 : 1 ≤ n) (h2 : n ≤ 256) (hsb : w.heap.size = sb) (e1 : w1 = w.alloc (.cells (List.replicate n (.slice none 0 0)).toArray 53)) (e2 : w2 = w1.alloc (.map #[] 0)) (hs : Below (sb + 2) w2 w3)
    (hp : Blk w3 (sb + 2) 49 #[.slice (some ⟨sb, 0, none⟩) n n, .int .i64 0, .map (some (sb + 1))]) : WI (fun g => sb ≤ g) w3 (sb + 2) (Wh.zero n sb (sb + 1)) ∧ Below sb w w3 := by
  have z1 : w1.heap.size = sb + 1 := by rw [e1]; simp [hsb]
  have z2 : w2.heap.size = sb + 2 := by rw [e2]; simp [z1]
  have hB1 : Blk w1 sb 53 (List.replicate n (.slice none 0 0)).toArray := by have h := Blk.new w 53 (List.replicate n (.slice none 0 0)).toArray; rw [← e1, hsb] at h; exact h
  have hB2 : Blk w2 sb 53 (List.replicate n (.slice none 0 0)).toArray := by rw [e2]; exact hB1.alloc _
  have hB3 := hB2.below hs (by omega)
  have hM2 : MapAt w2 (sb + 1) [] 0 := by have h := heap_alloc_new w1 (.map #[] 0); rw [← e2, z1] at h; exact h
  have hM3 : MapAt w3 (sb + 1) [] 0 := (hs.block (sb + 1) (by omega)).trans hM2
  have hbel : Below sb w w3 := by
    refine Below.trans (b := w2) ?_ (hs.mono (by omega))
    rw [e2, e1]
    exact ((Below.refl _ _).alloc (by omega) _).alloc (by simp; omega) _
  have hr : (List.range n).map (Wh.zero n sb (sb + 1)).rowV = List.replicate n (.slice none 0 0) := by
    rw [List.eq_replicate_iff]
    refine ⟨by simp, fun b hb => ?_⟩
    obtain ⟨i, _, rfl⟩ := List.mem_map.1 hb
    rfl
  refine ⟨⟨h1, h2, by simp [Wh.zero]; omega, hp, ?_, ⟨[], 0, hM3, rfl⟩, fun i hi => by simp [Wh.zero] at hi, fun i g pad hi hg => by simp [Wh.zero] at hg, fun i hi _ => rfl, fun i hi k => by simp [Wh.zero], List.nodup_nil, fun i hi => List.nodup_nil, fun k hk => by simp [Wh.zero] at hk, ?_, ?_⟩, hbel⟩
  · show Blk w3 sb 53 ((List.range n).map (Wh.zero n sb (sb + 1)).rowV).toArray
    rw [hr]
    exact hB3
  · intro x y g hx hy
    have hall : ∀ x g, (Wh.zero n sb (sb + 1)).blk (sb + 2) x = some g → (x = .P ∧ g = sb + 2) ∨ (x = .S ∧ g = sb) ∨ (x = .M ∧ g = sb + 1) := by
      intro x g hx
      match x with
      | none => exact .inl ⟨rfl, by injection hx with hx; exact hx.symm⟩
      | some none => exact .inr (.inl ⟨rfl, by injection hx with hx; exact hx.symm⟩)
      | some (some none) => exact .inr (.inr ⟨rfl, by injection hx with hx; exact hx.symm⟩)
      | some (some (some (.inl i))) => have := (blk_E.1 hx).1; simp [Wh.zero] at this
      | some (some (some (.inr i))) => obtain ⟨_, pad, h⟩ := blk_R.1 hx; simp [Wh.zero] at h
    rcases hall x g hx with ⟨rfl, e⟩ | ⟨rfl, e⟩ | ⟨rfl, e⟩ <;> rcases hall y g hy with ⟨rfl, e'⟩ | ⟨rfl, e'⟩ | ⟨rfl, e'⟩ <;> first | rfl | omega
  · intro x g hx
    have hz := hs.size
    match x with
    | none => injection hx with hx; subst hx; exact ⟨by show sb ≤ sb + 2; omega, hp.lt⟩
    | some none => injection hx with hx; subst hx; exact ⟨Nat.le_refl _, hB3.lt⟩
    | some (some none) => injection hx with hx; subst hx; exact ⟨by show sb ≤ sb + 1; omega, hM3.lt⟩
    | some (some (some (.inl i))) => have := (blk_E.1 hx).1; simp [Wh.zero] at this
    | some (some (some (.inr i))) => obtain ⟨_, pad, h⟩ := blk_R.1 hx; simp [Wh.zero] at h
theorem new_any (n : Nat) (h1 : 1 ≤ n) (h2 : n ≤ 256) (w : World) : Calls Try.prog 8 #[.int .i64 (n : Int)] w (Ret (ptr (w.heap.size + 2)) fun w' => WI (fun g => w.heap.size ≤ g) w' (w.heap.size + 2) (Wh.zero n w.heap.size (w.heap.size + 1)) ∧ Below w.heap.size w w') := by
  have b1 : ¬ (n : Int) < 1 := by omega
  have b2 : ¬ 256 < (n : Int) := by omega
  obtain ⟨sb, hsb⟩ : ∃ sb, w.heap.size = sb := ⟨_, rfl⟩
  rw [hsb]
  go_enter Try.func8, Try.ntmps8
  have F0 : Below w.heap.size w w := Below.refl _ _
  repeat (first | with_reducible apply wpList_nil | with_reducible apply seq_region | with_reducible apply wp_region_lit | with_reducible apply wp_seq | ((with_reducible apply seq_q); (focus rfl); (focus (simp [go_sem, effAt, ↓IntWalk.iteOmega, *]; (try go_ints); (first | (with_reducible exact effUpon_val) | (with_reducible exact effUpon_skip)))); (focus ((simp only [Act.put, List.setIfInBounds_toArray, List.set_cons_zero, List.set_cons_succ]; rfl)))) | ((with_reducible apply seq_s); (focus rfl); (focus ((simp only [Act.put, List.setIfInBounds_toArray, List.set_cons_zero, List.set_cons_succ]; rfl)))) | with_reducible apply wp_block | with_reducible apply wp_skip | with_reducible apply wp_exit | with_reducible apply wp_ret | ((with_reducible apply wp_cond_true); (focus (first | rfl | (simp [go_sem, *]; done)))) | ((with_reducible apply wp_cond_false); (focus (first | rfl | (simp [go_sem, *]; done)))) | (simp only [Exit.then, Exit.inBlock, ↓reduceIte, Nat.reduceEqDiff]))
  with_reducible apply seq_e (fun w' => w' = w.alloc (.cells (List.replicate n (.slice none 0 0)).toArray 53))
  focus rfl
  focus exact eff_make rfl rfl rfl (by omega)
  (simp only [Act.put, List.setIfInBounds_toArray, List.set_cons_zero, List.set_cons_succ]; rfl)
  intro w1 e1
  with_reducible apply seq_e (fun w' => w' = w1.alloc (.map #[] 0))
  focus rfl
  focus exact eff_makemap rfl
  (simp only [Act.put, List.setIfInBounds_toArray, List.set_cons_zero, List.set_cons_succ]; rfl)
  intro w2 e2
  have z1 : w1.heap.size = sb + 1 := by rw [e1]; simp [hsb]
  have z2 : w2.heap.size = sb + 2 := by rw [e2]; simp [z1]
  rw [hsb, z1]
  repeat (first | ((with_reducible apply seq_q); (focus rfl); (focus (simp [go_sem, effAt, ↓IntWalk.iteOmega, *]; (try go_ints); (first | (with_reducible exact effUpon_val) | (with_reducible exact effUpon_skip)))); (focus ((simp only [Act.put, List.setIfInBounds_toArray, List.set_cons_zero, List.set_cons_succ]; rfl)))) | ((with_reducible apply seq_s); (focus rfl); (focus ((simp only [Act.put, List.setIfInBounds_toArray, List.set_cons_zero, List.set_cons_succ]; rfl)))))
  (with_reducible apply seq_box)
  focus rfl
  focus
    simp [go_sem, effAt]
    exact ⟨rfl, rfl⟩
  (simp only [Act.put, List.setIfInBounds_toArray, List.set_cons_zero, List.set_cons_succ]; rfl)
  intro w3 hp hs
  rw [z2] at hp hs ⊢
  have hW := zero_wi h1 h2 hsb e1 e2 hs hp
  have Fw3 : Below w3.heap.size w3 w3 := Below.refl _ _
  repeat (first | with_reducible apply wpList_nil | with_reducible apply seq_region | with_reducible apply wp_region_lit | with_reducible apply wp_seq | ((with_reducible apply seq_q); (focus rfl); (focus (simp [go_sem, effAt, ↓IntWalk.iteOmega, *]; (try go_ints); (first | (with_reducible exact effUpon_val) | (with_reducible exact effUpon_skip)))); (focus ((simp only [Act.put, List.setIfInBounds_toArray, List.set_cons_zero, List.set_cons_succ]; rfl)))) | ((with_reducible apply seq_s); (focus rfl); (focus ((simp only [Act.put, List.setIfInBounds_toArray, List.set_cons_zero, List.set_cons_succ]; rfl)))) | with_reducible apply wp_block | with_reducible apply wp_skip | with_reducible apply wp_exit | with_reducible apply wp_ret | ((with_reducible apply wp_cond_true); (focus (first | rfl | (simp [go_sem, *]; done)))) | ((with_reducible apply wp_cond_false); (focus (first | rfl | (simp [go_sem, *]; done)))) | (simp only [Exit.then, Exit.inBlock, ↓reduceIte, Nat.reduceEqDiff]))
  go_ret
  exact ⟨rfl, hW⟩
end Go.Proofs.Ytckjgdlceckhpaa
