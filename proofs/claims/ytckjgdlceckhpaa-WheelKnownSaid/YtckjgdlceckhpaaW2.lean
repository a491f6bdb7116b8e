/- The walk of DeleteFunc over a row of pointers, of which it takes one away. -/
import Derived.Test.YtckjgdlceckhpaaW1
set_option linter.unusedSimpArgs false
set_option linter.unusedVariables false
namespace Go.Proofs.Ytckjgdlceckhpaa
open Go.RowKit Go.Eff
attribute [local irreducible] Go.wpList
/-- the row, when so many places are settled -/
def delQ (ps : List Nat) (b i : Nat) : List Nat := (ps.erase b).take i ++ ps.drop i
section
variable {ps : List Nat} {b i c n : Nat} {pad : List Value}
theorem erase_idx {b : Nat} : ∀ ps : List Nat, ps.erase b = ps.eraseIdx (ps.idxOf b)
  | [] => rfl
  | p :: ps => by
    by_cases hp : p = b
    · subst hp; simp
    · have hp' : (p == b) = false := by simpa using hp
      rw [List.idxOf_cons, hp', List.erase_cons, hp', erase_idx ps]
      simp
theorem erase_get {ps : List Nat} {b i : Nat} (hI : ps.idxOf b ≤ i) : (ps.erase b)[i]? = ps[i + 1]? := by
  rw [erase_idx, List.getElem?_eraseIdx, if_neg (by omega)]
theorem erase_take {ps : List Nat} {b : Nat} : (ps.erase b).take (ps.idxOf b) = ps.take (ps.idxOf b) := by
  apply List.ext_getElem?
  intro j
  rw [List.getElem?_take, List.getElem?_take]
  by_cases h : j < ps.idxOf b
  · rw [if_pos h, if_pos h, erase_idx, List.getElem?_eraseIdx, if_pos h]
  · rw [if_neg h, if_neg h]
theorem delQ_start : delQ ps b (ps.idxOf b) = ps := by
  unfold delQ
  rw [erase_take, List.take_append_drop]
theorem erase_len (hb : b ∈ ps) (hn : ps.length = n) : (ps.erase b).length + 1 = n := by
  have := List.length_erase_of_mem hb
  have := List.length_pos_of_mem hb
  omega
theorem delQ_len (hb : b ∈ ps) (hn : ps.length = n) (hi : i + 1 ≤ n) : (delQ ps b i).length = n := by
  have := erase_len hb hn
  unfold delQ
  simp
  omega
theorem delQ_get (hb : b ∈ ps) (hn : ps.length = n) (hi : i + 1 < n) : (delQ ps b i)[i + 1]? = ps[i + 1]? := by
  have := erase_len hb hn
  unfold delQ
  rw [List.getElem?_append_right (by simp; omega), List.length_take, Nat.min_eq_left (by omega), List.getElem?_drop]
  congr 1
  omega
theorem delQ_set (hb : b ∈ ps) (hn : ps.length = n) (hI : ps.idxOf b ≤ i) (hi : i + 1 < n) (hc : ps[i + 1]? = some c) : (delQ ps b i).set i c = delQ ps b (i + 1) := by
  have hl := erase_len hb hn
  have he := erase_get hI
  rw [hc] at he
  unfold delQ
  rw [List.set_append_right _ _ (by simp; omega), List.length_take, Nat.min_eq_left (by omega), Nat.sub_self, List.drop_eq_getElem_cons (by omega), List.set_cons_zero, List.take_add_one, he]
  simp
theorem delQ_end (hb : b ∈ ps) (hn : ps.length = n) (hi : i + 1 = n) : (rowL (delQ ps b i) pad).setIfInBounds i (.pointer none) = rowL (ps.erase b) (.pointer none :: pad) := by
  have hl := erase_len hb hn
  have hd : (ps.drop i).length = 1 := by simp; omega
  obtain ⟨x, hx⟩ := List.length_eq_one_iff.1 hd
  unfold delQ rowL
  rw [List.setIfInBounds_toArray, hx, List.take_of_length_le (by omega)]
  congr 1
  simp only [List.map_append, List.map_cons, List.map_nil, List.append_assoc, List.singleton_append]
  rw [List.set_append_right _ _ (by simp; omega), List.length_map, show i - (ps.erase b).length = 0 by omega, List.set_cons_zero]
theorem del_ne (hnd : ps.Nodup) (hb : b ∈ ps) (hI : ps.idxOf b ≤ i) (hc : ps[i + 1]? = some c) : c ≠ b := by
  rintro rfl
  have h := (List.Nodup.not_mem_erase hnd : c ∉ ps.erase c)
  have he := erase_get hI
  rw [hc] at he
  exact h (List.mem_of_getElem? he)
theorem rowL_set {c : Nat} (hi : i < ps.length) : (rowL ps pad).setIfInBounds i (ptr c) = rowL (ps.set i c) pad := by
  unfold rowL
  rw [List.setIfInBounds_toArray, List.set_append_left _ _ (by simpa using hi), List.map_set]
end
set_option maxRecDepth 100000 in
set_option maxHeartbeats 4000000 in
theorem del_any (g cap n b xb : Nat) (ps : List Nat) (pad : List Value) (w : World) (hn : ps.length = n) (hn2 : n ≤ 1000) (hcap : n ≤ cap) (hB_d : Blk w g 50 (rowL ps pad)) (hB_x : Blk w xb 50 #[ptr b]) (hxg : xb ≠ g) (hb : b ∈ ps) (hnd : ps.Nodup) (hE : ∀ c ∈ ps, c ≠ g ∧ ∃ t cs, Blk w c t cs) :
    Calls Try.prog 21 #[.slice (some ⟨g, 0, none⟩) n cap, .func (.func 22) #[] #[ptr xb]] w (Ret (.slice (some ⟨g, 0, none⟩) (n - 1) cap) fun w' => Blk w' g 50 (rowL (ps.erase b) (.pointer none :: pad)) ∧ w.grownBy w' (some g)) := by
  have hI1 := List.idxOf_lt_length_of_mem hb
  have hD := idx_any g cap n b xb ps pad w hn hn2 hB_d hB_x hb (fun c hc => (hE c hc).2)
  obtain ⟨I, hI⟩ : ∃ I, ps.idxOf b = I := ⟨_, rfl⟩
  have HI := Lib.hid hI
  rw [hI] at hI1 hD
  rw [hn] at hI1
  have HN := Lib.hid hn
  clear hn hI
  have b1 : (n : Int) ≤ 1000 := by omega
  have b2 : (I : Int) < (n : Int) := by omega
  have hm1 : ((I : Int) == -1) = false := by first | (simp; done) | (simp; omega)
  obtain ⟨m, hm⟩ : ∃ m, n - 1 = m := ⟨_, rfl⟩
  rw [hm]
  have hmI : (n : Int) = (m : Int) + 1 := by omega
  have hmn : m + 1 = n := by omega
  obtain rfl : n = m + 1 := by omega
  clear hm hmI hmn
  go_enter Try.func21, Try.ntmps21
  have F0 : Below w.heap.size w w := Below.refl _ _
  have hc_d := hB_d.cell
  have hc_x := hB_x.cell
  repeat (first | with_reducible apply wpList_nil | with_reducible apply seq_region | with_reducible apply wp_region_lit | with_reducible apply wp_seq | ((with_reducible apply seq_q); (focus rfl); (focus (simp [go_sem, effAt, ↓IntWalk.iteOmega, *]; (try go_ints); (first | (with_reducible exact effUpon_val) | (with_reducible exact effUpon_skip)))); (focus ((simp only [Act.put, List.setIfInBounds_toArray, List.set_cons_zero, List.set_cons_succ]; rfl)))) | ((with_reducible apply seq_s); (focus rfl); (focus ((simp only [Act.put, List.setIfInBounds_toArray, List.set_cons_zero, List.set_cons_succ]; rfl)))) | with_reducible apply wp_block | with_reducible apply wp_skip | with_reducible apply wp_exit | with_reducible apply wp_ret | ((with_reducible apply wp_cond_true); (focus (first | rfl | (simp [go_sem, *]; done)))) | ((with_reducible apply wp_cond_false); (focus (first | rfl | (simp [go_sem, *]; done)))) | (simp only [Exit.then, Exit.inBlock, ↓reduceIte, Nat.reduceEqDiff]))
  ((with_reducible apply seq_e (Below w.heap.size w)); (focus rfl); (focus (simp only [effAt]; simp [go_sem]; (with_reducible exact effUpon_enter (hD)))); (focus ((simp only [Act.put, List.setIfInBounds_toArray, List.set_cons_zero, List.set_cons_succ]; rfl))))
  intro w1 hs
  have Fw1 := F0.trans (hs.mono F0.size)
  replace hB_d := hB_d.below hs hB_d.lt
  replace hB_x := hB_x.below hs hB_x.lt
  clear hs F0
  clear hc_d; have hc_d := hB_d.cell
  clear hc_x; have hc_x := hB_x.cell
  repeat (first | with_reducible apply wpList_nil | with_reducible apply seq_region | with_reducible apply wp_region_lit | with_reducible apply wp_seq | ((with_reducible apply seq_q); (focus rfl); (focus (simp [go_sem, effAt, ↓IntWalk.iteOmega, *]; (try go_ints); (first | (with_reducible exact effUpon_val) | (with_reducible exact effUpon_skip)))); (focus ((simp only [Act.put, List.setIfInBounds_toArray, List.set_cons_zero, List.set_cons_succ]; rfl)))) | ((with_reducible apply seq_s); (focus rfl); (focus ((simp only [Act.put, List.setIfInBounds_toArray, List.set_cons_zero, List.set_cons_succ]; rfl)))) | with_reducible apply wp_block | with_reducible apply wp_skip | with_reducible apply wp_exit | with_reducible apply wp_ret | ((with_reducible apply wp_cond_true); (focus (first | rfl | (simp [go_sem, *]; done)))) | ((with_reducible apply wp_cond_false); (focus (first | rfl | (simp [go_sem, *]; done)))) | (simp only [Exit.then, Exit.inBlock, ↓reduceIte, Nat.reduceEqDiff]))
  go_loopg [5, 6] (m + 1) (fun q v5 v6 wr => ∃ i : Nat, v5 = .int .i64 (i : Int) ∧ v6 = .int .i64 ((i : Int) + 1) ∧ I ≤ i ∧ m ≤ i + q ∧ i ≤ m ∧ Blk wr g 50 (rowL (delQ ps b i) pad) ∧ Blk wr xb 50 #[ptr b] ∧ w.grownBy wr (some g))
  case atStart =>
    have h := delQ_start (ps := ps) (b := b)
    rw [HI.out] at h
    exact ⟨I, rfl, by first | rfl | go_num, Nat.le_refl _, by omega, by omega, by rw [h]; exact hB_d, hB_x, grown_below Fw1 _⟩
  case round =>
    rename_i J K hJ hK
    clear hB_d hB_x hD hc_d hc_x
    obtain ⟨i, rfl, rfl, hi1, hi2, hi3, hB_d, hB_x, hG⟩ := hrel
    have b3 : (i : Int) ≤ (m : Int) := by omega
    by_cases hlt : i < m
    case neg =>
      obtain rfl : i = m := by omega
      have hfin := delQ_end (pad := pad) hb HN.out rfl
      have hsz : i < (rowL (delQ ps b i) pad).size := by unfold rowL; rw [List.size_toArray, List.length_append, List.length_map, delQ_len hb HN.out (Nat.le_refl _)]; omega
      have hsl : ((i : Nat) + 1 - i) = 1 := by omega
      clear hJ hK hlt
      skip
      have Fwr : Below wr.heap.size wr wr := Below.refl _ _
      have hc_d := hB_d.cell
      repeat (first | with_reducible apply wpList_nil | with_reducible apply seq_region | with_reducible apply wp_region_lit | with_reducible apply wp_seq | ((with_reducible apply seq_q); (focus rfl); (focus (simp [go_sem, effAt, ↓IntWalk.iteOmega, *]; (try go_ints); (first | (with_reducible exact effUpon_val) | (with_reducible exact effUpon_skip)))); (focus ((simp only [Act.put, List.setIfInBounds_toArray, List.set_cons_zero, List.set_cons_succ]; rfl)))) | ((with_reducible apply seq_s); (focus rfl); (focus ((simp only [Act.put, List.setIfInBounds_toArray, List.set_cons_zero, List.set_cons_succ]; rfl)))) | with_reducible apply wp_block | with_reducible apply wp_skip | with_reducible apply wp_exit | with_reducible apply wp_ret | ((with_reducible apply wp_cond_true); (focus (first | rfl | (simp [go_sem, *]; done)))) | ((with_reducible apply wp_cond_false); (focus (first | rfl | (simp [go_sem, *]; done)))) | (simp only [Exit.then, Exit.inBlock, ↓reduceIte, Nat.reduceEqDiff]))
      with_reducible apply seq_e (fun w' => Blk w' g 50 (rowL (ps.erase b) (.pointer none :: pad)) ∧ World.grownBy wr w' (some g))
      (focus (first | exact wanted_none rfl | exact wanted_yes rfl rfl rfl))
      (focus (rw [← hfin]; exact eff_clear1 rfl rfl hB_d hsz))
      (simp only [Act.put, List.setIfInBounds_toArray, List.set_cons_zero, List.set_cons_succ]; rfl)
      rintro u ⟨hB_n, hg_n⟩
      have hG2 := grown_trans hG hg_n
      clear hB_d hc_d hfin hsz
      have Fu : Below u.heap.size u u := Below.refl _ _
      repeat (first | with_reducible apply wpList_nil | with_reducible apply seq_region | with_reducible apply wp_region_lit | with_reducible apply wp_seq | ((with_reducible apply seq_q); (focus rfl); (focus (simp [go_sem, effAt, ↓IntWalk.iteOmega, *]; (try go_ints); (first | (with_reducible exact effUpon_val) | (with_reducible exact effUpon_skip)))); (focus ((simp only [Act.put, List.setIfInBounds_toArray, List.set_cons_zero, List.set_cons_succ]; rfl)))) | ((with_reducible apply seq_s); (focus rfl); (focus ((simp only [Act.put, List.setIfInBounds_toArray, List.set_cons_zero, List.set_cons_succ]; rfl)))) | with_reducible apply wp_block | with_reducible apply wp_skip | with_reducible apply wp_exit | with_reducible apply wp_ret | ((with_reducible apply wp_cond_true); (focus (first | rfl | (simp [go_sem, *]; done)))) | ((with_reducible apply wp_cond_false); (focus (first | rfl | (simp [go_sem, *]; done)))) | (simp only [Exit.then, Exit.inBlock, ↓reduceIte, Nat.reduceEqDiff]))
      go_ret
      exact ⟨rfl, hB_n, hG2⟩
    case pos =>
      have hlt' : (i : Int) < (m : Int) := by omega
      obtain ⟨c, hc⟩ : ∃ c, ps[i + 1]? = some c := ⟨_, List.getElem?_eq_getElem (by have := HN.out; omega)⟩
      have hg := delQ_get (i := i) hb HN.out (by omega)
      rw [hc] at hg
      have ec := rowL_get (pad := pad) hg
      have hset := delQ_set hb HN.out (by rw [HI.out]; exact hi1) (by omega) hc
      have hst := rowL_set (pad := pad) (c := c) (i := i) (ps := delQ ps b i) (by rw [delQ_len hb HN.out (by omega)]; omega)
      rw [hset] at hst
      have hcb := del_ne hnd hb (by rw [HI.out]; exact hi1) hc
      obtain ⟨gc, t1, c1, hB1⟩ := hE c (List.mem_of_getElem? hc)
      obtain ⟨gb, t2, c2, hB2⟩ := hE b hb
      replace hB1 := hB1.grown hG (by simpa using gc)
      replace hB2 := hB2.grown hG (by simpa using gb)
      have hL := fun u hu => eq_any (t1 := t1) (t2 := t2) (c1 := c1) (c2 := c2) c b xb u (hB1.below hu hB1.lt) (hB2.below hu hB2.lt)
      rw [show decide (c = b) = false by simpa using hcb] at hL
      have HST := Lib.hid hst
      have hei : ∃ z, (rowL (delQ ps b i) pad)[i]? = some z := by
        refine ⟨_, Array.getElem?_eq_getElem (by unfold rowL; simp [delQ_len hb HN.out (show i + 1 ≤ m + 1 by omega)]; omega)⟩
      have HEI := Lib.hid hei
      clear hc hg hset hst hcb gc gb hei
      skip
      have Fwr : Below wr.heap.size wr wr := Below.refl _ _
      have hc_d := hB_d.cell
      have hc_x := hB_x.cell
      repeat (first | with_reducible apply wpList_nil | with_reducible apply seq_region | with_reducible apply wp_region_lit | with_reducible apply wp_seq | ((with_reducible apply seq_q); (focus rfl); (focus (simp [go_sem, effAt, ↓IntWalk.iteOmega, *]; (try go_ints); (first | (with_reducible exact effUpon_val) | (with_reducible exact effUpon_skip)))); (focus ((simp only [Act.put, List.setIfInBounds_toArray, List.set_cons_zero, List.set_cons_succ]; rfl)))) | ((with_reducible apply seq_s); (focus rfl); (focus ((simp only [Act.put, List.setIfInBounds_toArray, List.set_cons_zero, List.set_cons_succ]; rfl)))) | with_reducible apply wp_block | with_reducible apply wp_skip | with_reducible apply wp_exit | with_reducible apply wp_ret | ((with_reducible apply wp_cond_true); (focus (first | rfl | (simp [go_sem, *]; done)))) | ((with_reducible apply wp_cond_false); (focus (first | rfl | (simp [go_sem, *]; done)))) | (simp only [Exit.then, Exit.inBlock, ↓reduceIte, Nat.reduceEqDiff]))
      ((with_reducible apply seq_e (Below wr.heap.size wr)); (focus rfl); (focus (simp only [effAt]; simp [go_sem]; (with_reducible exact effUpon_enter (hL _ (Below.refl _ _) hB_x)))); (focus ((simp only [Act.put, List.setIfInBounds_toArray, List.set_cons_zero, List.set_cons_succ]; rfl))))
      intro w1 hs
      have Fw1 := Fwr.trans (hs.mono Fwr.size)
      replace hB_d := hB_d.below hs hB_d.lt
      replace hB_x := hB_x.below hs hB_x.lt
      clear hs Fwr
      clear hc_d; have hc_d := hB_d.cell
      clear hc_x; have hc_x := hB_x.cell
      repeat (first | with_reducible apply wpList_nil | with_reducible apply seq_region | with_reducible apply wp_region_lit | with_reducible apply wp_seq | ((with_reducible apply seq_q); (focus rfl); (focus (simp [go_sem, effAt, ↓IntWalk.iteOmega, *]; (try go_ints); (first | (with_reducible exact effUpon_val) | (with_reducible exact effUpon_skip)))); (focus ((simp only [Act.put, List.setIfInBounds_toArray, List.set_cons_zero, List.set_cons_succ]; rfl)))) | ((with_reducible apply seq_s); (focus rfl); (focus ((simp only [Act.put, List.setIfInBounds_toArray, List.set_cons_zero, List.set_cons_succ]; rfl)))) | with_reducible apply wp_block | with_reducible apply wp_skip | with_reducible apply wp_exit | with_reducible apply wp_ret | ((with_reducible apply wp_cond_true); (focus (first | rfl | (simp [go_sem, *]; done)))) | ((with_reducible apply wp_cond_false); (focus (first | rfl | (simp [go_sem, *]; done)))) | (simp only [Exit.then, Exit.inBlock, ↓reduceIte, Nat.reduceEqDiff]))
      have hf_d := hB_d.frozen
      have hG2 := grown_trans hG (grown_below Fw1 _)
      obtain ⟨z, hz⟩ := HEI.out
      with_reducible apply seq_e (fun w' => Blk w' g 50 (rowL (delQ ps b (i + 1)) pad) ∧ World.grownBy w1 w' (some g))
      (focus (first | exact wanted_none rfl | exact wanted_yes rfl rfl rfl))
      focus
        simp [go_sem, effAt, *]
        exact ⟨rfl, by have h := hB_d.set_ i (ptr c); rw [HST.out] at h; exact h, grown_set (World.grownBy.refl _ _)⟩
      (focus (first | (apply put_some rfl; focus (conv => lhs; dsimp only [List.set_cons_zero, List.set_cons_succ]) <;> rfl) | exact put_none rfl))
      rintro u ⟨hB_n, hg_n⟩
      have hG3 := grown_trans hG2 hg_n
      replace hB_x := hB_x.grown hg_n (by simpa using hxg)
      clear hB_d hc_d hc_x
      have Fu : Below u.heap.size u u := Below.refl _ _
      repeat (first | with_reducible apply wpList_nil | with_reducible apply seq_region | with_reducible apply wp_region_lit | with_reducible apply wp_seq | ((with_reducible apply seq_q); (focus rfl); (focus (simp [go_sem, effAt, ↓IntWalk.iteOmega, *]; (try go_ints); (first | (with_reducible exact effUpon_val) | (with_reducible exact effUpon_skip)))); (focus ((simp only [Act.put, List.setIfInBounds_toArray, List.set_cons_zero, List.set_cons_succ]; rfl)))) | ((with_reducible apply seq_s); (focus rfl); (focus ((simp only [Act.put, List.setIfInBounds_toArray, List.set_cons_zero, List.set_cons_succ]; rfl)))) | with_reducible apply wp_block | with_reducible apply wp_skip | with_reducible apply wp_exit | with_reducible apply wp_ret | ((with_reducible apply wp_cond_true); (focus (first | rfl | (simp [go_sem, *]; done)))) | ((with_reducible apply wp_cond_false); (focus (first | rfl | (simp [go_sem, *]; done)))) | (simp only [Exit.then, Exit.inBlock, ↓reduceIte, Nat.reduceEqDiff]))
      refine hK _ _ (Handed.intro (gk - 1) ?measure (hJ _ _ _ ?_))
      rotate_left
      (repeat apply Exists.intro)
      refine ⟨?rel, rfl⟩
      case rel => exact ⟨i + 1, by go_num, by go_num, by omega, by omega, by omega, hB_n, hB_x, hG3⟩
      case measure => omega
end Go.Proofs.Ytckjgdlceckhpaa
