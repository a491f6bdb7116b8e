/- The document's wheel: the walks of its New, Set, Stop, Tick, Count. -/
import Derived.Test.YtckjgdlceckhpaaW9
set_option linter.unusedSimpArgs false
set_option linter.unusedVariables false
namespace Go.Proofs.Ytckjgdlceckhpaa
open Go.RowKit Go.Eff
attribute [local irreducible] Go.wpList
def refC (L : Nat → Nat) : Array Value := ((List.range 256).map (fun k => Value.int .i64 (L k : Int))).toArray
theorem refC_get {L : Nat → Nat} {k : Nat} (hk : k < 256) : (refC L)[k]? = some (.int .i64 (L k : Int)) := by
  unfold refC
  exact rowV_get (fun k => Value.int .i64 (L k : Int)) hk
theorem refC_set {L : Nat → Nat} {k : Nat} (hk : k < 256) (x : Nat) : (refC L).setIfInBounds k (.int .i64 (x : Int)) = refC (upd L k x) := by
  unfold refC
  have := rowV_set (n := 256) (i := k) (fun j => Value.int .i64 (L j : Int)) (fun j => Value.int .i64 ((upd L k x j : Nat) : Int)) hk (fun j hj => by rw [upd_ne _ _ hj])
  rw [upd_same] at this
  exact this
structure RefW (w : World) (r la : Nat) (L : Nat → Nat) : Prop where
  hr : Blk w r 35 #[.slice (some ⟨la, 0, none⟩) 256 256]
  hl : Blk w la 3 (refC L)
  ne : r ≠ la
theorem RefW.turn {T : Nat → Prop} {w w' : World} {r la : Nat} {L : Nat → Nat} (h : RefW w r la L) (hT : Turn T w w') (h1 : ¬ T r) (h2 : ¬ T la) : RefW w' r la L := ⟨h.hr.turn hT h1, h.hl.turn hT h2, h.ne⟩
theorem RefW.below {w w' : World} {r la : Nat} {L : Nat → Nat} (h : RefW w r la L) (hb : Below w.heap.size w w') : RefW w' r la L := ⟨h.hr.below hb h.hr.lt, h.hl.below hb h.hl.lt, h.ne⟩
theorem rset_no (r : Nat) (k t : Int) (ht : t < 1 ∨ 65535 < t) (w : World) : Calls Try.prog 18 #[ptr r, .int .u8 k, .int .i64 t] w (Ret (.int .i64 2) (Below w.heap.size w)) := by
  by_cases h1 : t < 1
  case pos =>
    clear ht
    go_enter Try.func18, Try.ntmps18
    have F0 : Below w.heap.size w w := Below.refl _ _
    repeat (first | with_reducible apply wpList_nil | with_reducible apply seq_region | with_reducible apply wp_region_lit | with_reducible apply wp_seq | ((with_reducible apply seq_q); (focus rfl); (focus (simp [go_sem, effAt, ↓IntWalk.iteOmega, *]; (try go_ints); (first | (with_reducible exact effUpon_val) | (with_reducible exact effUpon_skip)))); (focus ((simp only [Act.put, List.setIfInBounds_toArray, List.set_cons_zero, List.set_cons_succ]; rfl)))) | ((with_reducible apply seq_s); (focus rfl); (focus ((simp only [Act.put, List.setIfInBounds_toArray, List.set_cons_zero, List.set_cons_succ]; rfl)))) | with_reducible apply wp_block | with_reducible apply wp_skip | with_reducible apply wp_exit | with_reducible apply wp_ret | ((with_reducible apply wp_cond_true); (focus (first | rfl | (simp [go_sem, *]; done)))) | ((with_reducible apply wp_cond_false); (focus (first | rfl | (simp [go_sem, *]; done)))) | (simp only [Exit.then, Exit.inBlock, ↓reduceIte, Nat.reduceEqDiff]))
    go_ret
    exact ⟨rfl, by assumption⟩
  case neg =>
    have h2 : 65535 < t := by omega
    clear ht
    go_enter Try.func18, Try.ntmps18
    have F0 : Below w.heap.size w w := Below.refl _ _
    repeat (first | with_reducible apply wpList_nil | with_reducible apply seq_region | with_reducible apply wp_region_lit | with_reducible apply wp_seq | ((with_reducible apply seq_q); (focus rfl); (focus (simp [go_sem, effAt, ↓IntWalk.iteOmega, *]; (try go_ints); (first | (with_reducible exact effUpon_val) | (with_reducible exact effUpon_skip)))); (focus ((simp only [Act.put, List.setIfInBounds_toArray, List.set_cons_zero, List.set_cons_succ]; rfl)))) | ((with_reducible apply seq_s); (focus rfl); (focus ((simp only [Act.put, List.setIfInBounds_toArray, List.set_cons_zero, List.set_cons_succ]; rfl)))) | with_reducible apply wp_block | with_reducible apply wp_skip | with_reducible apply wp_exit | with_reducible apply wp_ret | ((with_reducible apply wp_cond_true); (focus (first | rfl | (simp [go_sem, *]; done)))) | ((with_reducible apply wp_cond_false); (focus (first | rfl | (simp [go_sem, *]; done)))) | (simp only [Exit.then, Exit.inBlock, ↓reduceIte, Nat.reduceEqDiff]))
    go_ret
    exact ⟨rfl, by assumption⟩
theorem rset_yes {w : World} {r la k t : Nat} {L : Nat → Nat} (h : RefW w r la L) (hk : k < 256) (ht : 1 ≤ t) (ht2 : t ≤ 65535) :
    Calls Try.prog 18 #[ptr r, .int .u8 (k : Int), .int .i64 (t : Int)] w (Ret (.int .i64 0) fun w' => RefW w' r la (upd L k t) ∧ w.grownBy w' (some la)) := by
  obtain ⟨hB_r, hB_l, ne⟩ := h
  have h1 : ¬ (t : Int) < 1 := by omega
  have h2 : ¬ 65535 < (t : Int) := by omega
  have h3 : (k : Int) < 256 := by omega
  have eg := refC_get (L := L) hk
  have es := refC_set (L := L) hk t
  obtain ⟨lk, hlk⟩ : ∃ x, (L k : Int) = x := ⟨_, rfl⟩
  rw [hlk] at eg
  obtain ⟨C, hC⟩ : ∃ C, refC L = C := ⟨_, rfl⟩
  obtain ⟨C2, hC2⟩ : ∃ C, refC (upd L k t) = C := ⟨_, rfl⟩
  have HC2 := Lib.hid hC2
  rw [hC, hC2] at es
  rw [hC] at eg hB_l
  have ES := Lib.hid es
  clear hC hC2 hlk es
  go_enter Try.func18, Try.ntmps18
  have F0 : Below w.heap.size w w := Below.refl _ _
  have hc_r := hB_r.cell
  have hc_l := hB_l.cell
  repeat (first | with_reducible apply wpList_nil | with_reducible apply seq_region | with_reducible apply wp_region_lit | with_reducible apply wp_seq | ((with_reducible apply seq_q); (focus rfl); (focus (simp [go_sem, effAt, ↓IntWalk.iteOmega, *]; (try go_ints); (first | (with_reducible exact effUpon_val) | (with_reducible exact effUpon_skip)))); (focus ((simp only [Act.put, List.setIfInBounds_toArray, List.set_cons_zero, List.set_cons_succ]; rfl)))) | ((with_reducible apply seq_s); (focus rfl); (focus ((simp only [Act.put, List.setIfInBounds_toArray, List.set_cons_zero, List.set_cons_succ]; rfl)))) | with_reducible apply wp_block | with_reducible apply wp_skip | with_reducible apply wp_exit | with_reducible apply wp_ret | ((with_reducible apply wp_cond_true); (focus (first | rfl | (simp [go_sem, *]; done)))) | ((with_reducible apply wp_cond_false); (focus (first | rfl | (simp [go_sem, *]; done)))) | (simp only [Exit.then, Exit.inBlock, ↓reduceIte, Nat.reduceEqDiff]))
  with_reducible apply seq_e (fun w' => Blk w' la 3 C2 ∧ w.grownBy w' (some la))
  (focus (first | exact wanted_none rfl | exact wanted_yes rfl rfl rfl))
  focus
    have hf_l := hB_l.frozen
    simp [go_sem, effAt, *]
    exact ⟨rfl, by have h9 := hB_l.set_ k (.int .i64 (t : Int)); rw [ES.out] at h9; exact h9, grown_set (World.grownBy.refl _ _)⟩
  (simp only [Act.put, List.setIfInBounds_toArray, List.set_cons_zero, List.set_cons_succ]; rfl)
  rintro u ⟨hB_n, hg_n⟩
  have hr := hB_r.grown hg_n (by simpa using ne)
  clear hB_l hB_r hc_l hc_r
  have Fu : Below u.heap.size u u := Below.refl _ _
  repeat (first | with_reducible apply wpList_nil | with_reducible apply seq_region | with_reducible apply wp_region_lit | with_reducible apply wp_seq | ((with_reducible apply seq_q); (focus rfl); (focus (simp [go_sem, effAt, ↓IntWalk.iteOmega, *]; (try go_ints); (first | (with_reducible exact effUpon_val) | (with_reducible exact effUpon_skip)))); (focus ((simp only [Act.put, List.setIfInBounds_toArray, List.set_cons_zero, List.set_cons_succ]; rfl)))) | ((with_reducible apply seq_s); (focus rfl); (focus ((simp only [Act.put, List.setIfInBounds_toArray, List.set_cons_zero, List.set_cons_succ]; rfl)))) | with_reducible apply wp_block | with_reducible apply wp_skip | with_reducible apply wp_exit | with_reducible apply wp_ret | ((with_reducible apply wp_cond_true); (focus (first | rfl | (simp [go_sem, *]; done)))) | ((with_reducible apply wp_cond_false); (focus (first | rfl | (simp [go_sem, *]; done)))) | (simp only [Exit.then, Exit.inBlock, ↓reduceIte, Nat.reduceEqDiff]))
  go_ret
  exact ⟨rfl, ⟨hr, by rw [HC2.out]; exact hB_n, ne⟩, hg_n⟩
theorem rstop_any {w : World} {r la k : Nat} {L : Nat → Nat} (h : RefW w r la L) (hk : k < 256) :
    Calls Try.prog 19 #[ptr r, .int .u8 (k : Int)] w (Ret (.bool (decide (L k ≠ 0))) fun w' => RefW w' r la (upd L k 0) ∧ w.grownBy w' (some la)) := by
  obtain ⟨hB_r, hB_l, ne⟩ := h
  have h3 : (k : Int) < 256 := by omega
  have eg := refC_get (L := L) hk
  have es := refC_set (L := L) hk 0
  rw [show ((0 : Nat) : Int) = 0 from rfl] at es
  obtain ⟨lk, hlk⟩ : ∃ x, L k = x := ⟨_, rfl⟩
  rw [hlk] at eg ⊢
  obtain ⟨C, hC⟩ : ∃ C, refC L = C := ⟨_, rfl⟩
  obtain ⟨C2, hC2⟩ : ∃ C, refC (upd L k 0) = C := ⟨_, rfl⟩
  have HC2 := Lib.hid hC2
  rw [hC, hC2] at es
  rw [hC] at eg hB_l
  have ES := Lib.hid es
  obtain ⟨bo, hbo⟩ : ∃ b, decide (lk ≠ 0) = b := ⟨_, rfl⟩
  have hbI : decide (0 < (lk : Int)) = bo := by rw [← hbo]; exact decide_eq_decide.2 (by omega)
  rw [hbo]
  have HBI := Lib.hid hbI
  clear hC hC2 hlk es hbo hbI
  go_enter Try.func19, Try.ntmps19
  have F0 : Below w.heap.size w w := Below.refl _ _
  have hc_r := hB_r.cell
  have hc_l := hB_l.cell
  repeat (first | with_reducible apply wpList_nil | with_reducible apply seq_region | with_reducible apply wp_region_lit | with_reducible apply wp_seq | ((with_reducible apply seq_q); (focus rfl); (focus (simp [go_sem, effAt, ↓IntWalk.iteOmega, *]; (try go_ints); (first | (with_reducible exact effUpon_val) | (with_reducible exact effUpon_skip)))); (focus ((simp only [Act.put, List.setIfInBounds_toArray, List.set_cons_zero, List.set_cons_succ]; rfl)))) | ((with_reducible apply seq_s); (focus rfl); (focus ((simp only [Act.put, List.setIfInBounds_toArray, List.set_cons_zero, List.set_cons_succ]; rfl)))) | with_reducible apply wp_block | with_reducible apply wp_skip | with_reducible apply wp_exit | with_reducible apply wp_ret | ((with_reducible apply wp_cond_true); (focus (first | rfl | (simp [go_sem, *]; done)))) | ((with_reducible apply wp_cond_false); (focus (first | rfl | (simp [go_sem, *]; done)))) | (simp only [Exit.then, Exit.inBlock, ↓reduceIte, Nat.reduceEqDiff]))
  have hf_l := hB_l.frozen
  with_reducible apply seq_e (fun w' => Blk w' la 3 C2 ∧ w.grownBy w' (some la))
  (focus (first | exact wanted_none rfl | exact wanted_yes rfl rfl rfl))
  focus
    simp [go_sem, effAt, *]
    exact ⟨rfl, by have h9 := hB_l.set_ k (.int .i64 0); rw [ES.out] at h9; exact h9, grown_set (World.grownBy.refl _ _)⟩
  (simp only [Act.put, List.setIfInBounds_toArray, List.set_cons_zero, List.set_cons_succ]; rfl)
  rintro u ⟨hB_n, hg_n⟩
  have hr := hB_r.grown hg_n (by simpa using ne)
  clear hB_l hB_r hc_l hc_r
  have Fu : Below u.heap.size u u := Below.refl _ _
  repeat (first | with_reducible apply wpList_nil | with_reducible apply seq_region | with_reducible apply wp_region_lit | with_reducible apply wp_seq | ((with_reducible apply seq_q); (focus rfl); (focus (simp [go_sem, effAt, ↓IntWalk.iteOmega, *]; (try go_ints); (first | (with_reducible exact effUpon_val) | (with_reducible exact effUpon_skip)))); (focus ((simp only [Act.put, List.setIfInBounds_toArray, List.set_cons_zero, List.set_cons_succ]; rfl)))) | ((with_reducible apply seq_s); (focus rfl); (focus ((simp only [Act.put, List.setIfInBounds_toArray, List.set_cons_zero, List.set_cons_succ]; rfl)))) | with_reducible apply wp_block | with_reducible apply wp_skip | with_reducible apply wp_exit | with_reducible apply wp_ret | ((with_reducible apply wp_cond_true); (focus (first | rfl | (simp [go_sem, *]; done)))) | ((with_reducible apply wp_cond_false); (focus (first | rfl | (simp [go_sem, *]; done)))) | (simp only [Exit.then, Exit.inBlock, ↓reduceIte, Nat.reduceEqDiff]))
  go_ret
  refine ⟨?_, ⟨hr, by rw [HC2.out]; exact hB_n, ne⟩, hg_n⟩
  have := HBI.out
  simpa using this
end Go.Proofs.Ytckjgdlceckhpaa
