/- The walk of BufferKnown. -/
import Derived.Test.YtmkolifnpnaepaaA15
import Derived.Laws.AppendOwn
import Derived.Laws.OwnMore
set_option linter.unusedSimpArgs false
set_option linter.unusedVariables false
namespace Go.Proofs.Ytmkolifnpnaepaa
open Go.RowKit Go.Eff
theorem flat_get {α : Type} (f : α → List Value) (k : Nat) (hk : ∀ a, (f a).length = k) (j : Nat) (hj : j < k) : ∀ (l : List α) (i : Nat), (l.flatMap f)[i * k + j]? = (l[i]?).bind fun a => (f a)[j]?
  | [], i => by simp
  | a :: l, 0 => by
    rw [List.flatMap_cons, Nat.zero_mul, Nat.zero_add, List.getElem?_append_left (by rw [hk]; exact hj)]
    simp
  | a :: l, i + 1 => by
    rw [List.flatMap_cons, List.getElem?_append_right (by rw [hk, Nat.add_mul]; omega), hk, show (i + 1) * k + j - k = i * k + j by rw [Nat.add_mul]; omega, flat_get f k hk j hj l i]
    simp
/-- a call's cells -/
def cellsOf3 (c : Cll) : List Value := [.bool c.1, .int .i64 c.2.1, .string c.2.2]
/-- a slice of calls that the call has gathered is an argument -/
theorem arg_of_own {w : World} {base : Nat} {v : Value} {l : List Cll} {n : Nat} (h : w.ownsRow base 30 3 v n (l.flatMap cellsOf3)) (hn : l.length = n) (hmax : n ≤ 1000)
    (hf : ∀ c ∈ l, c.2.2.size ≤ 9223372036854775807) : Arg w v l := by
  subst hn
  rcases h.2 with ⟨rfl, h0⟩ | ⟨g, cap, cur, rfl, hb, hg, hcap, hmx, hsz, htk⟩
  · have : l = [] := List.eq_nil_of_length_eq_zero h0
    subst this
    exact ⟨none, 0, rfl, by simp, by simp⟩
  · have hlt : g < w.heap.size := by
      rcases Nat.lt_or_ge g w.heap.size with h' | h'
      · exact h'
      · rw [Array.getElem?_eq_none h'] at hg; cases hg
    refine ⟨some ⟨g, 0, none⟩, cap, rfl, by omega, fun i c hi => ?_⟩
    have hil : i < l.length := (List.getElem?_eq_some_iff.1 hi).1
    refine ⟨⟨g, 0, none⟩, g, i * 3, rfl, ?_, hlt, ?_, ?_, ?_, hf c (List.mem_of_getElem? hi)⟩
    · unfold Addr.add; split <;> simp_all
    · have := flat_get cellsOf3 3 (fun _ => rfl) 0 (by omega) l i
      rw [Nat.add_zero] at this
      rw [h.cellAt (i * 3) (by omega), this, hi]
      rfl
    · have := flat_get cellsOf3 3 (fun _ => rfl) 1 (by omega) l i
      rw [h.cellAt (i * 3 + 1) (by omega), this, hi]
      rfl
    · have := flat_get cellsOf3 3 (fun _ => rfl) 2 (by omega) l i
      rw [h.cellAt (i * 3 + 2) (by omega), this, hi]
      rfl
theorem nums_get (i : Nat) (h : i < 13) : ∃ x y : Int, (#[Value.int .i64 (-9223372036854775808), .int .i64 (-1), .int .i64 0, .int .i64 1, .int .i64 2, .int .i64 3, .int .i64 5, .int .i64 7, .int .i64 12, .int .i64 4095, .int .i64 4096, .int .i64 4097, .int .i64 9223372036854775807] : Array Value)[i]? = some (.int .i64 x) ∧
    (-9223372036854775808 ≤ x ∧ x ≤ 9223372036854775807) ∧ Int.tdiv x 2 = y ∧ (-9223372036854775808 ≤ y ∧ y ≤ 9223372036854775807) :=
  match i, h with
  | 0, _ => ⟨_, _, rfl, by decide, rfl, by decide⟩ | 1, _ => ⟨_, _, rfl, by decide, rfl, by decide⟩ | 2, _ => ⟨_, _, rfl, by decide, rfl, by decide⟩ | 3, _ => ⟨_, _, rfl, by decide, rfl, by decide⟩ | 4, _ => ⟨_, _, rfl, by decide, rfl, by decide⟩
  | 5, _ => ⟨_, _, rfl, by decide, rfl, by decide⟩ | 6, _ => ⟨_, _, rfl, by decide, rfl, by decide⟩ | 7, _ => ⟨_, _, rfl, by decide, rfl, by decide⟩ | 8, _ => ⟨_, _, rfl, by decide, rfl, by decide⟩ | 9, _ => ⟨_, _, rfl, by decide, rfl, by decide⟩
  | 10, _ => ⟨_, _, rfl, by decide, rfl, by decide⟩ | 11, _ => ⟨_, _, rfl, by decide, rfl, by decide⟩ | 12, _ => ⟨_, _, rfl, by decide, rfl, by decide⟩
theorem info30 : (Try.prog.info? 30).map (fun i => (i.zero, i.size, i.bytes)) = some (some (.agg #[.bool false, .int .i64 0, .string ⟨#[]⟩]), 3, 32) := by kernel_rfl
set_option maxRecDepth 100000 in
set_option maxHeartbeats 4000000 in
theorem known_any (w : World) : Calls Try.prog 6 #[] w (Ret (.bool true) (Below w.heap.size w)) := by
  obtain ⟨ng, hng⟩ : ∃ ng, w.heap.size = ng := ⟨_, rfl⟩
  obtain ⟨i0, hi0, hz0, hz1, hz2⟩ := info_parts info30
  go_enter Try.func6, Try.ntmps6
  have F0 : Below w.heap.size w w := Below.refl _ _
  repeat (first | with_reducible apply wpList_nil | with_reducible apply seq_region | with_reducible apply wp_region_lit | ((with_reducible apply seq_q); (focus rfl); (focus (simp [go_sem, effAt, ↓IntWalk.iteOmega, *]; (try go_ints); (first | (with_reducible exact effUpon_val) | (with_reducible exact effUpon_skip)))); (focus ((simp only [Act.put, List.setIfInBounds_toArray, List.set_cons_zero, List.set_cons_succ]; rfl)))) | ((with_reducible apply seq_s); (focus rfl); (focus ((simp only [Act.put, List.setIfInBounds_toArray, List.set_cons_zero, List.set_cons_succ]; rfl)))) | with_reducible apply wp_seq | with_reducible apply wp_block | with_reducible apply wp_skip | with_reducible apply wp_exit | with_reducible apply wp_ret | ((with_reducible apply wp_cond_true); (focus (first | rfl | (simp [go_sem, *]; done)))) | ((with_reducible apply wp_cond_false); (focus (first | rfl | (simp [go_sem, *]; done)))) | (simp only [Exit.then, Exit.inBlock, ↓reduceIte, Nat.reduceEqDiff]))
  rw [hng] at F0 ⊢
  go_loopg [2, 1] 90 (fun q v2 v1 wr => ∃ (i : Nat) (l : List Cll), v2 = .int .i64 (i : Int) ∧ i + q = 90 ∧ l.length = i ∧ (∀ c ∈ l, c.2.2.size ≤ 9223372036854775807) ∧ wr.ownsRow ng 30 3 v1 i (l.flatMap cellsOf3) ∧ Below ng w wr)
  case atStart => exact ⟨0, [], rfl, by omega, rfl, by simp, World.ownsRow_nil _ _ _ _, F0⟩
  case round =>
    rename_i J K hJ hK
    clear F0
    obtain ⟨i, l, rfl, hi, hl, hf, hown, hF⟩ := hrel
    have HF := Lib.hid hf
    clear hf
    by_cases hlt : i < 90
    case pos =>
      have hlt' : (i : Int) < 90 := by omega
      obtain ⟨k3, h3⟩ : ∃ k3 : Nat, Int.tmod (i : Int) 3 = (k3 : Int) := ⟨i % 3, rfl⟩
      obtain ⟨k5, h5⟩ : ∃ k5 : Nat, Int.tmod ((i : Int) * 5) 11 = (k5 : Int) := ⟨i * 5 % 11, by rw [show (i : Int) * 5 = ((i * 5 : Nat) : Int) by omega]; rfl⟩
      obtain ⟨k7, h7, h7b⟩ : ∃ k7 : Nat, Int.tmod ((i : Int) * 7) 11 = (k7 : Int) ∧ k7 ≤ 10 := ⟨i * 7 % 11, by rw [show (i : Int) * 7 = ((i * 7 : Nat) : Int) by omega]; rfl, by omega⟩
      have h7c : ¬ (10 : Int) < (k7 : Int) := by omega
      obtain ⟨str, hstr⟩ : ∃ str : ByteArray, (⟨#[97, 98, 99, 100, 101, 102, 103, 104, 105, 106]⟩ : ByteArray).extract 0 k7 = str := ⟨_, rfl⟩
      have hstz : str.size ≤ 10 := by rw [← hstr, ByteArray.size_extract]; exact Nat.le_trans (Nat.sub_le _ _) (Nat.le_trans (Nat.min_le_left _ _) h7b)
      have Fwr : Below wr.heap.size wr wr := Below.refl _ _
      repeat (first | with_reducible apply wpList_nil | with_reducible apply seq_region | with_reducible apply wp_region_lit | ((with_reducible apply seq_q); (focus rfl); (focus (simp [go_sem, effAt, ↓IntWalk.iteOmega, *]; (try go_ints); (first | (with_reducible exact effUpon_val) | (with_reducible exact effUpon_skip)))); (focus ((simp only [Act.put, List.setIfInBounds_toArray, List.set_cons_zero, List.set_cons_succ]; rfl)))) | ((with_reducible apply seq_s); (focus rfl); (focus ((simp only [Act.put, List.setIfInBounds_toArray, List.set_cons_zero, List.set_cons_succ]; rfl)))) | with_reducible apply wp_seq | with_reducible apply wp_block | with_reducible apply wp_skip | with_reducible apply wp_exit | with_reducible apply wp_ret | ((with_reducible apply wp_cond_true); (focus (first | rfl | (simp [go_sem, *]; done)))) | ((with_reducible apply wp_cond_false); (focus (first | rfl | (simp [go_sem, *]; done)))) | (simp only [Exit.then, Exit.inBlock, ↓reduceIte, Nat.reduceEqDiff]))
      ((with_reducible apply seq_box); (focus rfl); (focus (simp [go_sem, effAt]; exact ⟨rfl, rfl⟩)); (focus ((simp only [Act.put, List.setIfInBounds_toArray, List.set_cons_zero, List.set_cons_succ]; rfl))))
      intro w1 hB_x hs
      have Fw1 := Fwr.trans (hs.mono Fwr.size)
      clear hs Fwr
      have hc_x := hB_x.cell
      clear hc_x
      obtain ⟨bb, hbb⟩ : ∃ bb : Bool, ((k3 : Int) == 1) = bb := ⟨_, rfl⟩
      rw [hbb] at hB_x ⊢
      clear h3 h5 h7 h7b h7c hstr hbb
      have Fx := Fw1
      have hown2 := hown.kept (grown_below Fx none) (Classical.em _)
      repeat (first | with_reducible apply wpList_nil | with_reducible apply seq_region | with_reducible apply wp_region_lit | ((with_reducible apply seq_q); (focus rfl); (focus (simp [go_sem, effAt, ↓IntWalk.iteOmega, *]; (try go_ints); (first | (with_reducible exact effUpon_val) | (with_reducible exact effUpon_skip)))); (focus ((simp only [Act.put, List.setIfInBounds_toArray, List.set_cons_zero, List.set_cons_succ]; rfl)))) | ((with_reducible apply seq_s); (focus rfl); (focus ((simp only [Act.put, List.setIfInBounds_toArray, List.set_cons_zero, List.set_cons_succ]; rfl)))) | with_reducible apply wp_seq | with_reducible apply wp_block | with_reducible apply wp_skip | with_reducible apply wp_exit | with_reducible apply wp_ret | ((with_reducible apply wp_cond_true); (focus (first | rfl | (simp [go_sem, *]; done)))) | ((with_reducible apply wp_cond_false); (focus (first | rfl | (simp [go_sem, *]; done)))) | (simp only [Exit.then, Exit.inBlock, ↓reduceIte, Nat.reduceEqDiff]))
      refine wpList_append_own _ rfl _ _ 22 rfl ng 30 i0 _ 3 32 Try.underlying22 hi0 hz0 hz1 hz2 rfl (by decide) u1 i _ rfl hown2 ⟨wr.heap.size, 0, none⟩ 1 1 (cellsOf3 (bb, k5, str)) rfl rfl ?c1 ?c2 ?c3 ?c4 ?c5 ?_
      case c1 =>
        intro j u hj
        have e : (⟨wr.heap.size, 0, none⟩ : Addr).add j = ⟨wr.heap.size, j, none⟩ := by unfold Addr.add; split <;> simp_all
        rw [e, hB_x.cell]
        simpa [cellsOf3] using hj
      case c2 =>
        intro u hu
        simp [cellsOf3] at hu
        rcases hu with rfl | rfl | rfl <;> rfl
      case c3 => unfold maxLen; omega
      case c4 => omega
      case c5 => have := hF.size; have := Fx.size; omega
      intro v' w3 hown3 hg3 _
      simp only [Act.put, List.setIfInBounds_toArray, List.set_cons_zero, List.set_cons_succ]
      repeat (first | with_reducible apply wpList_nil | with_reducible apply seq_region | with_reducible apply wp_region_lit | ((with_reducible apply seq_q); (focus rfl); (focus (simp [go_sem, effAt, ↓IntWalk.iteOmega, *]; (try go_ints); (first | (with_reducible exact effUpon_val) | (with_reducible exact effUpon_skip)))); (focus ((simp only [Act.put, List.setIfInBounds_toArray, List.set_cons_zero, List.set_cons_succ]; rfl)))) | ((with_reducible apply seq_s); (focus rfl); (focus ((simp only [Act.put, List.setIfInBounds_toArray, List.set_cons_zero, List.set_cons_succ]; rfl)))) | with_reducible apply wp_seq | with_reducible apply wp_block | with_reducible apply wp_skip | with_reducible apply wp_exit | with_reducible apply wp_ret | ((with_reducible apply wp_cond_true); (focus (first | rfl | (simp [go_sem, *]; done)))) | ((with_reducible apply wp_cond_false); (focus (first | rfl | (simp [go_sem, *]; done)))) | (simp only [Exit.then, Exit.inBlock, ↓reduceIte, Nat.reduceEqDiff]))
      refine hK _ _ (Handed.intro (gk - 1) ?measure (hJ _ _ _ ?_))
      rotate_left
      (repeat apply Exists.intro)
      refine ⟨?rel, rfl⟩
      case rel =>
        refine ⟨i + 1, l ++ [((bb, (k5 : Int), str) : Cll)], by go_num, by omega, by simp [hl], ?_, by simpa using hown3, ?_⟩
        · intro c hc
          simp at hc
          rcases hc with hc | rfl
          · exact HF.out c hc
          · show str.size ≤ 9223372036854775807
            omega
        · exact (hF.trans (Fx.mono (by have := hF.size; omega))).grown hg3 (by have := hF.size; have := Fx.size; omega) (fun j hj => (hown2.lt j hj).1)
      case measure => omega
    case neg =>
      have hlt' : ¬ (i : Int) < 90 := by omega
      have Fwr : Below wr.heap.size wr wr := Below.refl _ _
      repeat (first | with_reducible apply wpList_nil | with_reducible apply seq_region | with_reducible apply wp_region_lit | ((with_reducible apply seq_q); (focus rfl); (focus (simp [go_sem, effAt, ↓IntWalk.iteOmega, *]; (try go_ints); (first | (with_reducible exact effUpon_val) | (with_reducible exact effUpon_skip)))); (focus ((simp only [Act.put, List.setIfInBounds_toArray, List.set_cons_zero, List.set_cons_succ]; rfl)))) | ((with_reducible apply seq_s); (focus rfl); (focus ((simp only [Act.put, List.setIfInBounds_toArray, List.set_cons_zero, List.set_cons_succ]; rfl)))) | with_reducible apply wp_seq | with_reducible apply wp_block | with_reducible apply wp_skip | with_reducible apply wp_exit | with_reducible apply wp_ret | ((with_reducible apply wp_cond_true); (focus (first | rfl | (simp [go_sem, *]; done)))) | ((with_reducible apply wp_cond_false); (focus (first | rfl | (simp [go_sem, *]; done)))) | (simp only [Exit.then, Exit.inBlock, ↓reduceIte, Nat.reduceEqDiff]))
      ((with_reducible apply seq_box); (focus rfl); (focus (simp [go_sem, effAt]; exact ⟨rfl, rfl⟩)); (focus ((simp only [Act.put, List.setIfInBounds_toArray, List.set_cons_zero, List.set_cons_succ]; rfl))))
      intro w2 hB_r hs
      have Fw2 := Fwr.trans (hs.mono Fwr.size)
      clear hs Fwr
      have hc_r := hB_r.cell
      obtain rfl : i = 90 := by omega
      have hArg : Arg w2 u1 l := arg_of_own (hown.kept (grown_below Fw2 none) (Classical.em _)) hl (by omega) HF.out
      obtain ⟨rg, hrg⟩ : ∃ rg, wr.heap.size = rg := ⟨_, rfl⟩
      rw [hrg] at hB_r hc_r
      have hnums := nums_get
      generalize (#[Value.int .i64 (-9223372036854775808), .int .i64 (-1), .int .i64 0, .int .i64 1, .int .i64 2, .int .i64 3, .int .i64 5, .int .i64 7, .int .i64 12, .int .i64 4095, .int .i64 4096, .int .i64 4097, .int .i64 9223372036854775807] : Array Value) = cs at hB_r hnums hc_r
      have HR := Lib.hid hnums
      have hF2 := hF.trans (Fw2.mono (by have := hF.size; omega))
      clear hnums hc_r hown hlt hlt' HF hl
      repeat (first | with_reducible apply wpList_nil | with_reducible apply seq_region | with_reducible apply wp_region_lit | ((with_reducible apply seq_q); (focus rfl); (focus (simp [go_sem, effAt, ↓IntWalk.iteOmega, *]; (try go_ints); (first | (with_reducible exact effUpon_val) | (with_reducible exact effUpon_skip)))); (focus ((simp only [Act.put, List.setIfInBounds_toArray, List.set_cons_zero, List.set_cons_succ]; rfl)))) | ((with_reducible apply seq_s); (focus rfl); (focus ((simp only [Act.put, List.setIfInBounds_toArray, List.set_cons_zero, List.set_cons_succ]; rfl)))) | with_reducible apply wp_seq | with_reducible apply wp_block | with_reducible apply wp_skip | with_reducible apply wp_exit | with_reducible apply wp_ret | ((with_reducible apply wp_cond_true); (focus (first | rfl | (simp [go_sem, *]; done)))) | ((with_reducible apply wp_cond_false); (focus (first | rfl | (simp [go_sem, *]; done)))) | (simp only [Exit.then, Exit.inBlock, ↓reduceIte, Nat.reduceEqDiff]))
      rw [hrg]
      clear hrg Fw2 hF
      go_loopg [26] 13 (fun q v26 wr => ∃ i : Nat, v26 = .int .i64 (i : Int) ∧ i + q = 13 ∧ Blk wr rg 3 cs ∧ Arg wr u1 l ∧ Below ng w wr)
      case atStart => exact ⟨0, rfl, by omega, hB_r, hArg, hF2⟩
      case round =>
        rename_i J K hJ hK
        clear hB_r hArg hF2
        obtain ⟨i, rfl, hi, hB_r, hArg, hF⟩ := hrel
        by_cases hlt : i < 13
        case neg =>
          have hlt' : ¬ (i : Int) < 13 := by omega
          clear hArg hB_r
          have Fwr : Below wr.heap.size wr wr := Below.refl _ _
          repeat (first | with_reducible apply wpList_nil | with_reducible apply seq_region | with_reducible apply wp_region_lit | ((with_reducible apply seq_q); (focus rfl); (focus (simp [go_sem, effAt, ↓IntWalk.iteOmega, *]; (try go_ints); (first | (with_reducible exact effUpon_val) | (with_reducible exact effUpon_skip)))); (focus ((simp only [Act.put, List.setIfInBounds_toArray, List.set_cons_zero, List.set_cons_succ]; rfl)))) | ((with_reducible apply seq_s); (focus rfl); (focus ((simp only [Act.put, List.setIfInBounds_toArray, List.set_cons_zero, List.set_cons_succ]; rfl)))) | with_reducible apply wp_seq | with_reducible apply wp_block | with_reducible apply wp_skip | with_reducible apply wp_exit | with_reducible apply wp_ret | ((with_reducible apply wp_cond_true); (focus (first | rfl | (simp [go_sem, *]; done)))) | ((with_reducible apply wp_cond_false); (focus (first | rfl | (simp [go_sem, *]; done)))) | (simp only [Exit.then, Exit.inBlock, ↓reduceIte, Nat.reduceEqDiff]))
          ((with_reducible apply seq_e (Below wr.heap.size wr)); (focus rfl); (focus (simp only [effAt]; simp [go_sem]; (with_reducible exact effUpon_enter (put_nil _ _)))); (focus ((simp only [Act.put, List.setIfInBounds_toArray, List.set_cons_zero, List.set_cons_succ]; rfl))))
          intro w3 hs
          have Fw3 := Fwr.trans (hs.mono Fwr.size)
          clear hs Fwr
          repeat (first | with_reducible apply wpList_nil | with_reducible apply seq_region | with_reducible apply wp_region_lit | ((with_reducible apply seq_q); (focus rfl); (focus (simp [go_sem, effAt, ↓IntWalk.iteOmega, *]; (try go_ints); (first | (with_reducible exact effUpon_val) | (with_reducible exact effUpon_skip)))); (focus ((simp only [Act.put, List.setIfInBounds_toArray, List.set_cons_zero, List.set_cons_succ]; rfl)))) | ((with_reducible apply seq_s); (focus rfl); (focus ((simp only [Act.put, List.setIfInBounds_toArray, List.set_cons_zero, List.set_cons_succ]; rfl)))) | with_reducible apply wp_seq | with_reducible apply wp_block | with_reducible apply wp_skip | with_reducible apply wp_exit | with_reducible apply wp_ret | ((with_reducible apply wp_cond_true); (focus (first | rfl | (simp [go_sem, *]; done)))) | ((with_reducible apply wp_cond_false); (focus (first | rfl | (simp [go_sem, *]; done)))) | (simp only [Exit.then, Exit.inBlock, ↓reduceIte, Nat.reduceEqDiff]))
          ((with_reducible apply seq_e (Below w3.heap.size w3)); (focus rfl); (focus (simp only [effAt]; simp [go_sem]; (with_reducible exact effUpon_enter (get_nil 1 _)))); (focus ((simp only [Act.put, List.setIfInBounds_toArray, List.set_cons_zero, List.set_cons_succ]; rfl))))
          intro w4 hs
          have Fw4 := Fw3.trans (hs.mono Fw3.size)
          clear hs Fw3
          repeat (first | with_reducible apply wpList_nil | with_reducible apply seq_region | with_reducible apply wp_region_lit | ((with_reducible apply seq_q); (focus rfl); (focus (simp [go_sem, effAt, ↓IntWalk.iteOmega, *]; (try go_ints); (first | (with_reducible exact effUpon_val) | (with_reducible exact effUpon_skip)))); (focus ((simp only [Act.put, List.setIfInBounds_toArray, List.set_cons_zero, List.set_cons_succ]; rfl)))) | ((with_reducible apply seq_s); (focus rfl); (focus ((simp only [Act.put, List.setIfInBounds_toArray, List.set_cons_zero, List.set_cons_succ]; rfl)))) | with_reducible apply wp_seq | with_reducible apply wp_block | with_reducible apply wp_skip | with_reducible apply wp_exit | with_reducible apply wp_ret | ((with_reducible apply wp_cond_true); (focus (first | rfl | (simp [go_sem, *]; done)))) | ((with_reducible apply wp_cond_false); (focus (first | rfl | (simp [go_sem, *]; done)))) | (simp only [Exit.then, Exit.inBlock, ↓reduceIte, Nat.reduceEqDiff]))
          ((with_reducible apply seq_e (Below w4.heap.size w4)); (focus rfl); (focus (simp only [effAt]; simp [go_sem]; (with_reducible exact effUpon_enter (len_nil _)))); (focus ((simp only [Act.put, List.setIfInBounds_toArray, List.set_cons_zero, List.set_cons_succ]; rfl))))
          intro w5 hs
          have Fw5 := Fw4.trans (hs.mono Fw4.size)
          clear hs Fw4
          repeat (first | with_reducible apply wpList_nil | with_reducible apply seq_region | with_reducible apply wp_region_lit | ((with_reducible apply seq_q); (focus rfl); (focus (simp [go_sem, effAt, ↓IntWalk.iteOmega, *]; (try go_ints); (first | (with_reducible exact effUpon_val) | (with_reducible exact effUpon_skip)))); (focus ((simp only [Act.put, List.setIfInBounds_toArray, List.set_cons_zero, List.set_cons_succ]; rfl)))) | ((with_reducible apply seq_s); (focus rfl); (focus ((simp only [Act.put, List.setIfInBounds_toArray, List.set_cons_zero, List.set_cons_succ]; rfl)))) | with_reducible apply wp_seq | with_reducible apply wp_block | with_reducible apply wp_skip | with_reducible apply wp_exit | with_reducible apply wp_ret | ((with_reducible apply wp_cond_true); (focus (first | rfl | (simp [go_sem, *]; done)))) | ((with_reducible apply wp_cond_false); (focus (first | rfl | (simp [go_sem, *]; done)))) | (simp only [Exit.then, Exit.inBlock, ↓reduceIte, Nat.reduceEqDiff]))
          ((with_reducible apply seq_e (Below w5.heap.size w5)); (focus rfl); (focus (simp only [effAt]; simp [go_sem]; (with_reducible exact effUpon_enter (free_nil _)))); (focus ((simp only [Act.put, List.setIfInBounds_toArray, List.set_cons_zero, List.set_cons_succ]; rfl))))
          intro w6 hs
          have Fw6 := Fw5.trans (hs.mono Fw5.size)
          clear hs Fw5
          repeat (first | with_reducible apply wpList_nil | with_reducible apply seq_region | with_reducible apply wp_region_lit | ((with_reducible apply seq_q); (focus rfl); (focus (simp [go_sem, effAt, ↓IntWalk.iteOmega, *]; (try go_ints); (first | (with_reducible exact effUpon_val) | (with_reducible exact effUpon_skip)))); (focus ((simp only [Act.put, List.setIfInBounds_toArray, List.set_cons_zero, List.set_cons_succ]; rfl)))) | ((with_reducible apply seq_s); (focus rfl); (focus ((simp only [Act.put, List.setIfInBounds_toArray, List.set_cons_zero, List.set_cons_succ]; rfl)))) | with_reducible apply wp_seq | with_reducible apply wp_block | with_reducible apply wp_skip | with_reducible apply wp_exit | with_reducible apply wp_ret | ((with_reducible apply wp_cond_true); (focus (first | rfl | (simp [go_sem, *]; done)))) | ((with_reducible apply wp_cond_false); (focus (first | rfl | (simp [go_sem, *]; done)))) | (simp only [Exit.then, Exit.inBlock, ↓reduceIte, Nat.reduceEqDiff]))
          ((with_reducible apply seq_e (Below w6.heap.size w6)); (focus rfl); (focus (simp only [effAt]; simp [go_sem]; (with_reducible exact effUpon_enter (high_nil _)))); (focus ((simp only [Act.put, List.setIfInBounds_toArray, List.set_cons_zero, List.set_cons_succ]; rfl))))
          intro w7 hs
          have Fw7 := Fw6.trans (hs.mono Fw6.size)
          clear hs Fw6
          repeat (first | with_reducible apply wpList_nil | with_reducible apply seq_region | with_reducible apply wp_region_lit | ((with_reducible apply seq_q); (focus rfl); (focus (simp [go_sem, effAt, ↓IntWalk.iteOmega, *]; (try go_ints); (first | (with_reducible exact effUpon_val) | (with_reducible exact effUpon_skip)))); (focus ((simp only [Act.put, List.setIfInBounds_toArray, List.set_cons_zero, List.set_cons_succ]; rfl)))) | ((with_reducible apply seq_s); (focus rfl); (focus ((simp only [Act.put, List.setIfInBounds_toArray, List.set_cons_zero, List.set_cons_succ]; rfl)))) | with_reducible apply wp_seq | with_reducible apply wp_block | with_reducible apply wp_skip | with_reducible apply wp_exit | with_reducible apply wp_ret | ((with_reducible apply wp_cond_true); (focus (first | rfl | (simp [go_sem, *]; done)))) | ((with_reducible apply wp_cond_false); (focus (first | rfl | (simp [go_sem, *]; done)))) | (simp only [Exit.then, Exit.inBlock, ↓reduceIte, Nat.reduceEqDiff]))
          ((with_reducible apply seq_e (Below w7.heap.size w7)); (focus rfl); (focus (simp only [effAt]; simp [go_sem]; (with_reducible exact effUpon_enter (low_nil _)))); (focus ((simp only [Act.put, List.setIfInBounds_toArray, List.set_cons_zero, List.set_cons_succ]; rfl))))
          intro w8 hs
          have Fw8 := Fw7.trans (hs.mono Fw7.size)
          clear hs Fw7
          repeat (first | with_reducible apply wpList_nil | with_reducible apply seq_region | with_reducible apply wp_region_lit | ((with_reducible apply seq_q); (focus rfl); (focus (simp [go_sem, effAt, ↓IntWalk.iteOmega, *]; (try go_ints); (first | (with_reducible exact effUpon_val) | (with_reducible exact effUpon_skip)))); (focus ((simp only [Act.put, List.setIfInBounds_toArray, List.set_cons_zero, List.set_cons_succ]; rfl)))) | ((with_reducible apply seq_s); (focus rfl); (focus ((simp only [Act.put, List.setIfInBounds_toArray, List.set_cons_zero, List.set_cons_succ]; rfl)))) | with_reducible apply wp_seq | with_reducible apply wp_block | with_reducible apply wp_skip | with_reducible apply wp_exit | with_reducible apply wp_ret | ((with_reducible apply wp_cond_true); (focus (first | rfl | (simp [go_sem, *]; done)))) | ((with_reducible apply wp_cond_false); (focus (first | rfl | (simp [go_sem, *]; done)))) | (simp only [Exit.then, Exit.inBlock, ↓reduceIte, Nat.reduceEqDiff]))
          ((with_reducible apply seq_e (Below w8.heap.size w8)); (focus rfl); (focus (simp only [effAt]; simp [go_sem]; (with_reducible exact effUpon_enter (works_any _)))); (focus ((simp only [Act.put, List.setIfInBounds_toArray, List.set_cons_zero, List.set_cons_succ]; rfl))))
          intro w9 hs
          have Fw9 := Fw8.trans (hs.mono Fw8.size)
          clear hs Fw8
          repeat (first | with_reducible apply wpList_nil | with_reducible apply seq_region | with_reducible apply wp_region_lit | ((with_reducible apply seq_q); (focus rfl); (focus (simp [go_sem, effAt, ↓IntWalk.iteOmega, *]; (try go_ints); (first | (with_reducible exact effUpon_val) | (with_reducible exact effUpon_skip)))); (focus ((simp only [Act.put, List.setIfInBounds_toArray, List.set_cons_zero, List.set_cons_succ]; rfl)))) | ((with_reducible apply seq_s); (focus rfl); (focus ((simp only [Act.put, List.setIfInBounds_toArray, List.set_cons_zero, List.set_cons_succ]; rfl)))) | with_reducible apply wp_seq | with_reducible apply wp_block | with_reducible apply wp_skip | with_reducible apply wp_exit | with_reducible apply wp_ret | ((with_reducible apply wp_cond_true); (focus (first | rfl | (simp [go_sem, *]; done)))) | ((with_reducible apply wp_cond_false); (focus (first | rfl | (simp [go_sem, *]; done)))) | (simp only [Exit.then, Exit.inBlock, ↓reduceIte, Nat.reduceEqDiff]))
          go_ret
          exact ⟨rfl, hF.trans (Below.mono (by assumption) (by have := hF.size; omega))⟩
        case pos =>
          have hlt' : (i : Int) < 13 := by omega
          obtain ⟨x, y, hx, fx, hy, fy⟩ := HR.out i hlt
          obtain ⟨u, hu⟩ : ∃ u, IntKind.u16.wrap x = u := ⟨_, rfl⟩
          obtain ⟨z, hz⟩ : ∃ z, IntKind.u16.wrap y = z := ⟨_, rfl⟩
          have hub : 0 ≤ u ∧ u ≤ 65535 := by rw [← hu, IntKind.wrap_u16]; omega
          have hzb : 0 ≤ z ∧ z ≤ 65535 := by rw [← hz, IntKind.wrap_u16]; omega
          have hA := fun w' hb => Arg.below (w' := w') hArg hb
          have hP := fun w' a b h => plays_any a b u1 l w' h
          have hKe := fun w' h => keeps_any u u1 l w' hub h
          have hMa := fun w' h => marks_any u z u1 l w' hub hzb h
          clear hArg
          have Fwr : Below wr.heap.size wr wr := Below.refl _ _
          have hc_r := hB_r.cell
          repeat (first | with_reducible apply wpList_nil | with_reducible apply seq_region | with_reducible apply wp_region_lit | ((with_reducible apply seq_q); (focus rfl); (focus (simp [go_sem, effAt, ↓IntWalk.iteOmega, *]; (try go_ints); (first | (with_reducible exact effUpon_val) | (with_reducible exact effUpon_skip)))); (focus ((simp only [Act.put, List.setIfInBounds_toArray, List.set_cons_zero, List.set_cons_succ]; rfl)))) | ((with_reducible apply seq_s); (focus rfl); (focus ((simp only [Act.put, List.setIfInBounds_toArray, List.set_cons_zero, List.set_cons_succ]; rfl)))) | with_reducible apply wp_seq | with_reducible apply wp_block | with_reducible apply wp_skip | with_reducible apply wp_exit | with_reducible apply wp_ret | ((with_reducible apply wp_cond_true); (focus (first | rfl | (simp [go_sem, *]; done)))) | ((with_reducible apply wp_cond_false); (focus (first | rfl | (simp [go_sem, *]; done)))) | (simp only [Exit.then, Exit.inBlock, ↓reduceIte, Nat.reduceEqDiff]))
          ((with_reducible apply seq_e (Below wr.heap.size wr)); (focus rfl); (focus (simp only [effAt]; simp [go_sem]; (with_reducible exact effUpon_enter (hP _ x 1 (hA _ (by assumption)))))); (focus ((simp only [Act.put, List.setIfInBounds_toArray, List.set_cons_zero, List.set_cons_succ]; rfl))))
          intro w10 hs
          have Fw10 := Fwr.trans (hs.mono Fwr.size)
          replace hB_r := hB_r.below hs hB_r.lt
          clear hs Fwr
          clear hc_r; have hc_r := hB_r.cell
          repeat (first | with_reducible apply wpList_nil | with_reducible apply seq_region | with_reducible apply wp_region_lit | ((with_reducible apply seq_q); (focus rfl); (focus (simp [go_sem, effAt, ↓IntWalk.iteOmega, *]; (try go_ints); (first | (with_reducible exact effUpon_val) | (with_reducible exact effUpon_skip)))); (focus ((simp only [Act.put, List.setIfInBounds_toArray, List.set_cons_zero, List.set_cons_succ]; rfl)))) | ((with_reducible apply seq_s); (focus rfl); (focus ((simp only [Act.put, List.setIfInBounds_toArray, List.set_cons_zero, List.set_cons_succ]; rfl)))) | with_reducible apply wp_seq | with_reducible apply wp_block | with_reducible apply wp_skip | with_reducible apply wp_exit | with_reducible apply wp_ret | ((with_reducible apply wp_cond_true); (focus (first | rfl | (simp [go_sem, *]; done)))) | ((with_reducible apply wp_cond_false); (focus (first | rfl | (simp [go_sem, *]; done)))) | (simp only [Exit.then, Exit.inBlock, ↓reduceIte, Nat.reduceEqDiff]))
          ((with_reducible apply seq_e (Below w10.heap.size w10)); (focus rfl); (focus (simp only [effAt]; simp [go_sem]; (with_reducible exact effUpon_enter (hP _ x 0 (hA _ (by assumption)))))); (focus ((simp only [Act.put, List.setIfInBounds_toArray, List.set_cons_zero, List.set_cons_succ]; rfl))))
          intro w11 hs
          have Fw11 := Fw10.trans (hs.mono Fw10.size)
          replace hB_r := hB_r.below hs hB_r.lt
          clear hs Fw10
          clear hc_r; have hc_r := hB_r.cell
          repeat (first | with_reducible apply wpList_nil | with_reducible apply seq_region | with_reducible apply wp_region_lit | ((with_reducible apply seq_q); (focus rfl); (focus (simp [go_sem, effAt, ↓IntWalk.iteOmega, *]; (try go_ints); (first | (with_reducible exact effUpon_val) | (with_reducible exact effUpon_skip)))); (focus ((simp only [Act.put, List.setIfInBounds_toArray, List.set_cons_zero, List.set_cons_succ]; rfl)))) | ((with_reducible apply seq_s); (focus rfl); (focus ((simp only [Act.put, List.setIfInBounds_toArray, List.set_cons_zero, List.set_cons_succ]; rfl)))) | with_reducible apply wp_seq | with_reducible apply wp_block | with_reducible apply wp_skip | with_reducible apply wp_exit | with_reducible apply wp_ret | ((with_reducible apply wp_cond_true); (focus (first | rfl | (simp [go_sem, *]; done)))) | ((with_reducible apply wp_cond_false); (focus (first | rfl | (simp [go_sem, *]; done)))) | (simp only [Exit.then, Exit.inBlock, ↓reduceIte, Nat.reduceEqDiff]))
          ((with_reducible apply seq_e (Below w11.heap.size w11)); (focus rfl); (focus (simp only [effAt]; simp [go_sem]; (with_reducible exact effUpon_enter (hP _ 9 x (hA _ (by assumption)))))); (focus ((simp only [Act.put, List.setIfInBounds_toArray, List.set_cons_zero, List.set_cons_succ]; rfl))))
          intro w12 hs
          have Fw12 := Fw11.trans (hs.mono Fw11.size)
          replace hB_r := hB_r.below hs hB_r.lt
          clear hs Fw11
          clear hc_r; have hc_r := hB_r.cell
          repeat (first | with_reducible apply wpList_nil | with_reducible apply seq_region | with_reducible apply wp_region_lit | ((with_reducible apply seq_q); (focus rfl); (focus (simp [go_sem, effAt, ↓IntWalk.iteOmega, *]; (try go_ints); (first | (with_reducible exact effUpon_val) | (with_reducible exact effUpon_skip)))); (focus ((simp only [Act.put, List.setIfInBounds_toArray, List.set_cons_zero, List.set_cons_succ]; rfl)))) | ((with_reducible apply seq_s); (focus rfl); (focus ((simp only [Act.put, List.setIfInBounds_toArray, List.set_cons_zero, List.set_cons_succ]; rfl)))) | with_reducible apply wp_seq | with_reducible apply wp_block | with_reducible apply wp_skip | with_reducible apply wp_exit | with_reducible apply wp_ret | ((with_reducible apply wp_cond_true); (focus (first | rfl | (simp [go_sem, *]; done)))) | ((with_reducible apply wp_cond_false); (focus (first | rfl | (simp [go_sem, *]; done)))) | (simp only [Exit.then, Exit.inBlock, ↓reduceIte, Nat.reduceEqDiff]))
          ((with_reducible apply seq_e (Below w12.heap.size w12)); (focus rfl); (focus (simp only [effAt]; simp [go_sem]; (with_reducible exact effUpon_enter (hKe _ (hA _ (by assumption)))))); (focus ((simp only [Act.put, List.setIfInBounds_toArray, List.set_cons_zero, List.set_cons_succ]; rfl))))
          intro w13 hs
          have Fw13 := Fw12.trans (hs.mono Fw12.size)
          replace hB_r := hB_r.below hs hB_r.lt
          clear hs Fw12
          clear hc_r; have hc_r := hB_r.cell
          repeat (first | with_reducible apply wpList_nil | with_reducible apply seq_region | with_reducible apply wp_region_lit | ((with_reducible apply seq_q); (focus rfl); (focus (simp [go_sem, effAt, ↓IntWalk.iteOmega, *]; (try go_ints); (first | (with_reducible exact effUpon_val) | (with_reducible exact effUpon_skip)))); (focus ((simp only [Act.put, List.setIfInBounds_toArray, List.set_cons_zero, List.set_cons_succ]; rfl)))) | ((with_reducible apply seq_s); (focus rfl); (focus ((simp only [Act.put, List.setIfInBounds_toArray, List.set_cons_zero, List.set_cons_succ]; rfl)))) | with_reducible apply wp_seq | with_reducible apply wp_block | with_reducible apply wp_skip | with_reducible apply wp_exit | with_reducible apply wp_ret | ((with_reducible apply wp_cond_true); (focus (first | rfl | (simp [go_sem, *]; done)))) | ((with_reducible apply wp_cond_false); (focus (first | rfl | (simp [go_sem, *]; done)))) | (simp only [Exit.then, Exit.inBlock, ↓reduceIte, Nat.reduceEqDiff]))
          ((with_reducible apply seq_e (Below w13.heap.size w13)); (focus rfl); (focus (simp only [effAt]; simp [go_sem]; (with_reducible exact effUpon_enter (hMa _ (hA _ (by assumption)))))); (focus ((simp only [Act.put, List.setIfInBounds_toArray, List.set_cons_zero, List.set_cons_succ]; rfl))))
          intro w14 hs
          have Fw14 := Fw13.trans (hs.mono Fw13.size)
          replace hB_r := hB_r.below hs hB_r.lt
          clear hs Fw13
          clear hc_r; have hc_r := hB_r.cell
          repeat (first | with_reducible apply wpList_nil | with_reducible apply seq_region | with_reducible apply wp_region_lit | ((with_reducible apply seq_q); (focus rfl); (focus (simp [go_sem, effAt, ↓IntWalk.iteOmega, *]; (try go_ints); (first | (with_reducible exact effUpon_val) | (with_reducible exact effUpon_skip)))); (focus ((simp only [Act.put, List.setIfInBounds_toArray, List.set_cons_zero, List.set_cons_succ]; rfl)))) | ((with_reducible apply seq_s); (focus rfl); (focus ((simp only [Act.put, List.setIfInBounds_toArray, List.set_cons_zero, List.set_cons_succ]; rfl)))) | with_reducible apply wp_seq | with_reducible apply wp_block | with_reducible apply wp_skip | with_reducible apply wp_exit | with_reducible apply wp_ret | ((with_reducible apply wp_cond_true); (focus (first | rfl | (simp [go_sem, *]; done)))) | ((with_reducible apply wp_cond_false); (focus (first | rfl | (simp [go_sem, *]; done)))) | (simp only [Exit.then, Exit.inBlock, ↓reduceIte, Nat.reduceEqDiff]))
          refine hK _ _ (Handed.intro (gk - 1) ?measure (hJ _ _ _ ?_))
          rotate_left
          (repeat apply Exists.intro)
          refine ⟨?rel, rfl⟩
          case rel => exact ⟨i + 1, by go_num, by omega, hB_r, hA _ (by assumption), hF.trans (Below.mono (by assumption) (by have := hF.size; omega))⟩
          case measure => omega
