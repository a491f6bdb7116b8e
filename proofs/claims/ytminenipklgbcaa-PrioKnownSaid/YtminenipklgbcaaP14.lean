/- The walk of PrioFair. -/
import Derived.Test.YtminenipklgbcaaP13
set_option linter.unusedSimpArgs false
set_option linter.unusedVariables false
namespace Go.Proofs.Ytminenipklgbcaa
open Go.RowKit Go.Eff
attribute [local irreducible] Go.wpList
theorem fair_first {s : PS} (hs : s.Ok) : ∃ l0 : Int, (-1 ≤ l0 ∧ l0 < 64) ∧ Fair s l0 ((marks s 64).count true) 0 0 (marks s 64) := by
  have hlen : (marks s 64).length = 64 := by simp [marks]
  by_cases h : ∃ d, mayP s d
  · obtain ⟨d, hd⟩ := h
    obtain ⟨h1, h2⟩ := now_first hs hd
    exact ⟨_, h2, hs, h1, hlen, rfl, fun x => by rw [marks_get, left_all h2]⟩
  · refine ⟨-1, by omega, hs, ⟨-1, by omega, fun e he => absurd ⟨e, he⟩ h, fun j => by rw [Nat.zero_add]⟩, hlen, rfl, fun x => by rw [marks_get, left_all (by omega)]⟩
theorem fair_none {s : PS} (h : (marks s 64).count true = 0) : ∀ d, ¬ mayP s d := fun d hd => by
  have := (marks_get s d).2 hd
  have := List.count_pos_iff.2 (List.mem_of_getElem? this)
  omega
theorem pk_is {s : PS} (hs : s.Ok) {d : Nat} (h : pickC s = some d) (g : Nat) (w : World) (hB : PB w g s) : Calls Try.prog 14 #[.pointer (some ⟨g, 0, none⟩)] w (Ret (.tuple #[.int .u8 (d : Int), .bool true]) fun w' => PB w' g (s.take d) ∧ w.grownBy w' (some g)) := by
  have := pick_any hs g w hB
  unfold PS.pickD PS.pickO PS.pick at this
  rw [h] at this
  exact this
theorem pk_no {s : PS} (hs : s.Ok) (h : pickC s = none) (g : Nat) (w : World) (hB : PB w g s) : Calls Try.prog 14 #[.pointer (some ⟨g, 0, none⟩)] w (Ret (.tuple #[.int .u8 0, .bool false]) fun w' => PB w' g s ∧ w.grownBy w' (some g)) := by
  have := pick_any hs g w hB
  unfold PS.pickD PS.pickO PS.pick at this
  rw [h] at this
  exact this
set_option maxRecDepth 100000 in
set_option maxHeartbeats 4000000 in
theorem fair_any (v : Value) (l : List Cll) (w : World) (h : Arg w v l) : Calls Try.prog 4 #[v] w (Ret (.bool true) (Below w.heap.size w)) := by
  obtain ⟨B, hB⟩ : ∃ B, w.heap.size = B := ⟨_, rfl⟩
  have hPl := played_any v l w h
  obtain ⟨p, cap, rfl, hmax, -⟩ := h
  obtain ⟨n, hn'⟩ : ∃ n, l.length = n := ⟨_, rfl⟩
  have hs := fold_ok new_ok l
  obtain ⟨s, hse⟩ : ∃ s, l.foldl doF newS = s := ⟨_, rfl⟩
  rw [hse] at hPl hs
  rw [hn'] at hmax hPl ⊢
  rw [hB] at hPl
  have HB := Lib.hid hB
  have HS := Lib.hid hs
  obtain ⟨j4, hi4, hz4, hs4, hb4⟩ := info_parts info4m
  have HI := Lib.hid (And.intro hi4 (And.intro hz4 (And.intro hs4 hb4)))
  have hB1 : w.heap.size ≤ B := by omega
  have hB2 : B ≤ w.heap.size := by omega
  clear hn' hse hB hs hi4 hz4 hs4 hb4
  by_cases hf : (100 : Int) < (n : Int)
  case pos =>
    go_enter Try.func4, Try.ntmps4
    have F0 : Below w.heap.size w w := Below.refl _ _
    repeat (first | with_reducible apply wpList_nil | with_reducible apply seq_region | with_reducible apply wp_region_lit | with_reducible apply wp_seq | ((with_reducible apply seq_q); (focus rfl); (focus (simp [go_sem, effAt, ↓IntWalk.iteOmega, *]; (try go_ints); (first | (with_reducible exact effUpon_val) | (with_reducible exact effUpon_skip)))); (focus ((simp only [Act.put, List.setIfInBounds_toArray, List.set_cons_zero, List.set_cons_succ]; rfl)))) | ((with_reducible apply seq_s); (focus rfl); (focus ((simp only [Act.put, List.setIfInBounds_toArray, List.set_cons_zero, List.set_cons_succ]; rfl)))) | with_reducible apply wp_block | with_reducible apply wp_skip | with_reducible apply wp_exit | with_reducible apply wp_ret | ((with_reducible apply wp_cond_true); (focus (first | rfl | (simp [go_sem, *]; done)))) | ((with_reducible apply wp_cond_false); (focus (first | rfl | (simp [go_sem, *]; done)))) | (simp only [Exit.then, Exit.inBlock, ↓reduceIte, Nat.reduceEqDiff]))
    ((with_reducible apply seq_e (Below w.heap.size w)); (focus rfl); (focus (simp only [effAt]; simp [go_sem]; (with_reducible exact effUpon_enter (works_any _)))); (focus ((simp only [Act.put, List.setIfInBounds_toArray, List.set_cons_zero, List.set_cons_succ]; rfl))))
    intro w1 hs
    have Fw1 := F0.trans (hs.mono F0.size)
    clear hs F0
    repeat (first | with_reducible apply wpList_nil | with_reducible apply seq_region | with_reducible apply wp_region_lit | with_reducible apply wp_seq | ((with_reducible apply seq_q); (focus rfl); (focus (simp [go_sem, effAt, ↓IntWalk.iteOmega, *]; (try go_ints); (first | (with_reducible exact effUpon_val) | (with_reducible exact effUpon_skip)))); (focus ((simp only [Act.put, List.setIfInBounds_toArray, List.set_cons_zero, List.set_cons_succ]; rfl)))) | ((with_reducible apply seq_s); (focus rfl); (focus ((simp only [Act.put, List.setIfInBounds_toArray, List.set_cons_zero, List.set_cons_succ]; rfl)))) | with_reducible apply wp_block | with_reducible apply wp_skip | with_reducible apply wp_exit | with_reducible apply wp_ret | ((with_reducible apply wp_cond_true); (focus (first | rfl | (simp [go_sem, *]; done)))) | ((with_reducible apply wp_cond_false); (focus (first | rfl | (simp [go_sem, *]; done)))) | (simp only [Exit.then, Exit.inBlock, ↓reduceIte, Nat.reduceEqDiff]))
    go_ret
    exact ⟨rfl, by assumption⟩
  case neg =>
    skip
    go_enter Try.func4, Try.ntmps4
    have F0 : Below w.heap.size w w := Below.refl _ _
    repeat (first | with_reducible apply wpList_nil | with_reducible apply seq_region | with_reducible apply wp_region_lit | with_reducible apply wp_seq | ((with_reducible apply seq_q); (focus rfl); (focus (simp [go_sem, effAt, ↓IntWalk.iteOmega, *]; (try go_ints); (first | (with_reducible exact effUpon_val) | (with_reducible exact effUpon_skip)))); (focus ((simp only [Act.put, List.setIfInBounds_toArray, List.set_cons_zero, List.set_cons_succ]; rfl)))) | ((with_reducible apply seq_s); (focus rfl); (focus ((simp only [Act.put, List.setIfInBounds_toArray, List.set_cons_zero, List.set_cons_succ]; rfl)))) | with_reducible apply wp_block | with_reducible apply wp_skip | with_reducible apply wp_exit | with_reducible apply wp_ret | ((with_reducible apply wp_cond_true); (focus (first | rfl | (simp [go_sem, *]; done)))) | ((with_reducible apply wp_cond_false); (focus (first | rfl | (simp [go_sem, *]; done)))) | (simp only [Exit.then, Exit.inBlock, ↓reduceIte, Nat.reduceEqDiff]))
    with_reducible apply seq_e (fun w' => PB w' B s ∧ Below B w w')
    (focus (first | exact wanted_none rfl | exact wanted_yes rfl rfl rfl))
    (focus (simp only [effAt]; simp [go_sem]; (with_reducible exact effUpon_enter hPl)))
    (simp only [Act.put, List.setIfInBounds_toArray, List.set_cons_zero, List.set_cons_succ]; rfl)
    rintro x1 ⟨hB_p, hF⟩
    rw [← HB.out] at hF
    clear F0 hPl
    repeat (first | with_reducible apply wpList_nil | with_reducible apply seq_region | with_reducible apply wp_region_lit | with_reducible apply wp_seq | ((with_reducible apply seq_q); (focus rfl); (focus (simp [go_sem, effAt, ↓IntWalk.iteOmega, *]; (try go_ints); (first | (with_reducible exact effUpon_val) | (with_reducible exact effUpon_skip)))); (focus ((simp only [Act.put, List.setIfInBounds_toArray, List.set_cons_zero, List.set_cons_succ]; rfl)))) | ((with_reducible apply seq_s); (focus rfl); (focus ((simp only [Act.put, List.setIfInBounds_toArray, List.set_cons_zero, List.set_cons_succ]; rfl)))) | with_reducible apply wp_block | with_reducible apply wp_skip | with_reducible apply wp_exit | with_reducible apply wp_ret | ((with_reducible apply wp_cond_true); (focus (first | rfl | (simp [go_sem, *]; done)))) | ((with_reducible apply wp_cond_false); (focus (first | rfl | (simp [go_sem, *]; done)))) | (simp only [Exit.then, Exit.inBlock, ↓reduceIte, Nat.reduceEqDiff]))
    go_loopg [6, 4, 5, 7] 64 (fun q v6 v4 v5 v7 wr => ∃ (i : Nat), v6 = .int .i64 (i : Int) ∧ v4 = .int .i64 ((marks s i).count true : Nat) ∧ i + q = 64 ∧ PB wr B s ∧ wr.ownsRow B 4 1 v5 i ((marks s i).map Value.bool) ∧ Below w.heap.size w wr)
    case atStart => exact ⟨0, rfl, rfl, by omega, hB_p, World.ownsRow_nil _ _ _ _, hF⟩
    case round =>
      rename_i J K hJ hK
      clear hB_p hF
      obtain ⟨i, rfl, rfl, hi, hB_p, hO, hF⟩ := hrel
      by_cases hlt : i < 64
      case pos =>
        have hlt' : (i : Int) < 64 := by omega
        have hM := may_any HS.out B i
        have hcn := marks_le s i
        have hcs := marks_count s i
        have hst := marks_snoc s i
        obtain ⟨c, hce⟩ : ∃ c, (marks s i).count true = c := ⟨_, rfl⟩
        rw [hce] at hcn hcs ⊢
        clear hce
        have HST := Lib.hid hst
        have HCS := Lib.hid hcs
        have HCN := Lib.hid hcn
        clear hst hcs hcn
        by_cases hm : mayP s i
        case pos =>
          rw [decide_eq_true hm] at hM
          skip
          have Fwr : Below wr.heap.size wr wr := Below.refl _ _
          have hc_p := hB_p.cell
          repeat (first | with_reducible apply wpList_nil | with_reducible apply seq_region | with_reducible apply wp_region_lit | with_reducible apply wp_seq | ((with_reducible apply seq_q); (focus rfl); (focus (simp [go_sem, effAt, ↓IntWalk.iteOmega, *]; (try go_ints); (first | (with_reducible exact effUpon_val) | (with_reducible exact effUpon_skip)))); (focus ((simp only [Act.put, List.setIfInBounds_toArray, List.set_cons_zero, List.set_cons_succ]; rfl)))) | ((with_reducible apply seq_s); (focus rfl); (focus ((simp only [Act.put, List.setIfInBounds_toArray, List.set_cons_zero, List.set_cons_succ]; rfl)))) | with_reducible apply wp_block | with_reducible apply wp_skip | with_reducible apply wp_exit | with_reducible apply wp_ret | ((with_reducible apply wp_cond_true); (focus (first | rfl | (simp [go_sem, *]; done)))) | ((with_reducible apply wp_cond_false); (focus (first | rfl | (simp [go_sem, *]; done)))) | (simp only [Exit.then, Exit.inBlock, ↓reduceIte, Nat.reduceEqDiff]))
          ((with_reducible apply seq_e (Below wr.heap.size wr)); (focus rfl); (focus (simp only [effAt]; simp [go_sem]; (with_reducible exact effUpon_enter (hM _ hB_p)))); (focus ((simp only [Act.put, List.setIfInBounds_toArray, List.set_cons_zero, List.set_cons_succ]; rfl))))
          intro w1 hs
          have Fw1 := Fwr.trans (hs.mono Fwr.size)
          replace hB_p := hB_p.below hs hB_p.lt
          clear hs Fwr
          clear hc_p; have hc_p := hB_p.cell
          repeat (first | with_reducible apply wpList_nil | with_reducible apply seq_region | with_reducible apply wp_region_lit | with_reducible apply wp_seq | ((with_reducible apply seq_q); (focus rfl); (focus (simp [go_sem, effAt, ↓IntWalk.iteOmega, *]; (try go_ints); (first | (with_reducible exact effUpon_val) | (with_reducible exact effUpon_skip)))); (focus ((simp only [Act.put, List.setIfInBounds_toArray, List.set_cons_zero, List.set_cons_succ]; rfl)))) | ((with_reducible apply seq_s); (focus rfl); (focus ((simp only [Act.put, List.setIfInBounds_toArray, List.set_cons_zero, List.set_cons_succ]; rfl)))) | with_reducible apply wp_block | with_reducible apply wp_skip | with_reducible apply wp_exit | with_reducible apply wp_ret | ((with_reducible apply wp_cond_true); (focus (first | rfl | (simp [go_sem, *]; done)))) | ((with_reducible apply wp_cond_false); (focus (first | rfl | (simp [go_sem, *]; done)))) | (simp only [Exit.then, Exit.inBlock, ↓reduceIte, Nat.reduceEqDiff]))
          have lt_p_x := hB_p.lt
          ((with_reducible apply seq_box); (focus rfl); (focus (simp [go_sem, effAt]; exact ⟨rfl, rfl⟩)); (focus ((simp only [Act.put, List.setIfInBounds_toArray, List.set_cons_zero, List.set_cons_succ]; rfl))))
          intro w2 hB_x hs
          have Fw2 := Fw1.trans (hs.mono Fw1.size)
          replace hB_p := hB_p.below hs hB_p.lt
          clear hs Fw1
          clear hc_p; have hc_p := hB_p.cell
          have hc_x := hB_x.cell
          repeat (first | with_reducible apply wpList_nil | with_reducible apply seq_region | with_reducible apply wp_region_lit | with_reducible apply wp_seq | ((with_reducible apply seq_q); (focus rfl); (focus (simp [go_sem, effAt, ↓IntWalk.iteOmega, *]; (try go_ints); (first | (with_reducible exact effUpon_val) | (with_reducible exact effUpon_skip)))); (focus ((simp only [Act.put, List.setIfInBounds_toArray, List.set_cons_zero, List.set_cons_succ]; rfl)))) | ((with_reducible apply seq_s); (focus rfl); (focus ((simp only [Act.put, List.setIfInBounds_toArray, List.set_cons_zero, List.set_cons_succ]; rfl)))) | with_reducible apply wp_block | with_reducible apply wp_skip | with_reducible apply wp_exit | with_reducible apply wp_ret | ((with_reducible apply wp_cond_true); (focus (first | rfl | (simp [go_sem, *]; done)))) | ((with_reducible apply wp_cond_false); (focus (first | rfl | (simp [go_sem, *]; done)))) | (simp only [Exit.then, Exit.inBlock, ↓reduceIte, Nat.reduceEqDiff]))
          obtain ⟨hi4, hz4, hs4, hb4⟩ := HI.out
          have hk0 := hO.kept (grown_below Fw2 none) (Classical.em _)
          have hG1 := hF.trans (Fw2.mono (by have := hF.size; omega))
          refine wpList_append_own _ rfl _ _ 34 rfl B 4 j4 _ 1 1 Try.underlying34 hi4 hz4 hs4 hb4 rfl (by decide) u5 i _ rfl hk0 ⟨w1.heap.size, 0, none⟩ 1 1 [.bool true] rfl rfl ?c1 ?c2 ?c3 ?c4 ?c5 ?_
          case c1 =>
            intro j u hj
            have e : (⟨w1.heap.size, 0, none⟩ : Addr).add j = ⟨w1.heap.size, j, none⟩ := by unfold Addr.add; split <;> simp_all
            rw [e, hB_x.cell]
            simpa using hj
          case c2 =>
            intro u hu
            simp at hu
            rcases hu with rfl
            rfl
          case c3 => unfold maxLen; omega
          case c4 => omega
          case c5 => have := hG1.size; omega
          intro t0 u1 hO' hg1 _
          simp only [Act.put, List.setIfInBounds_toArray, List.set_cons_zero, List.set_cons_succ]
          have hst := HST.out
          rw [show decide (mayP s i) = true from decide_eq_true hm] at hst
          rw [← hst] at hO'
          have hP1 := hB_p.grown hg1 (fun e => own_ne hk0 hB_p (by decide) e.symm)
          have hG2 := hG1.grown hg1 (by have := hG1.size; omega) (fun j hj => Nat.le_trans hB1 (hk0.lt j hj).1)
          clear hg1 hk0 hG1 hO hB_p hB_x hc_p hc_x hst hi4 hz4 hs4 hb4 hM
          obtain ⟨p0, n0, k0, rfl⟩ : ∃ p n k, t0 = .slice p n k := by
            rcases hO'.2 with ⟨rfl, _⟩ | ⟨g, cap, cur, rfl, _⟩
            · exact ⟨_, _, _, rfl⟩
            · exact ⟨_, _, _, rfl⟩
          have hci : (c : Int) ≤ 64 := by have := HCN.out; omega
          skip
          repeat (first | with_reducible apply wpList_nil | with_reducible apply seq_region | with_reducible apply wp_region_lit | with_reducible apply wp_seq | ((with_reducible apply seq_q); (focus rfl); (focus (simp [go_sem, effAt, ↓IntWalk.iteOmega, *]; (try go_ints); (first | (with_reducible exact effUpon_val) | (with_reducible exact effUpon_skip)))); (focus ((simp only [Act.put, List.setIfInBounds_toArray, List.set_cons_zero, List.set_cons_succ]; rfl)))) | ((with_reducible apply seq_s); (focus rfl); (focus ((simp only [Act.put, List.setIfInBounds_toArray, List.set_cons_zero, List.set_cons_succ]; rfl)))) | with_reducible apply wp_block | with_reducible apply wp_skip | with_reducible apply wp_exit | with_reducible apply wp_ret | ((with_reducible apply wp_cond_true); (focus (first | rfl | (simp [go_sem, *]; done)))) | ((with_reducible apply wp_cond_false); (focus (first | rfl | (simp [go_sem, *]; done)))) | (simp only [Exit.then, Exit.inBlock, ↓reduceIte, Nat.reduceEqDiff]))
          refine hK _ _ (Handed.intro (gk - 1) ?measure (hJ _ _ _ ?_))
          rotate_left
          (repeat apply Exists.intro)
          refine ⟨?rel, rfl⟩
          case rel => exact ⟨i + 1, by go_num, by rw [HCS.out]; rw [if_pos hm]; go_num, by omega, hP1, hO', hG2⟩
          case measure => omega
        case neg =>
          rw [decide_eq_false hm] at hM
          skip
          have Fwr : Below wr.heap.size wr wr := Below.refl _ _
          have hc_p := hB_p.cell
          repeat (first | with_reducible apply wpList_nil | with_reducible apply seq_region | with_reducible apply wp_region_lit | with_reducible apply wp_seq | ((with_reducible apply seq_q); (focus rfl); (focus (simp [go_sem, effAt, ↓IntWalk.iteOmega, *]; (try go_ints); (first | (with_reducible exact effUpon_val) | (with_reducible exact effUpon_skip)))); (focus ((simp only [Act.put, List.setIfInBounds_toArray, List.set_cons_zero, List.set_cons_succ]; rfl)))) | ((with_reducible apply seq_s); (focus rfl); (focus ((simp only [Act.put, List.setIfInBounds_toArray, List.set_cons_zero, List.set_cons_succ]; rfl)))) | with_reducible apply wp_block | with_reducible apply wp_skip | with_reducible apply wp_exit | with_reducible apply wp_ret | ((with_reducible apply wp_cond_true); (focus (first | rfl | (simp [go_sem, *]; done)))) | ((with_reducible apply wp_cond_false); (focus (first | rfl | (simp [go_sem, *]; done)))) | (simp only [Exit.then, Exit.inBlock, ↓reduceIte, Nat.reduceEqDiff]))
          ((with_reducible apply seq_e (Below wr.heap.size wr)); (focus rfl); (focus (simp only [effAt]; simp [go_sem]; (with_reducible exact effUpon_enter (hM _ hB_p)))); (focus ((simp only [Act.put, List.setIfInBounds_toArray, List.set_cons_zero, List.set_cons_succ]; rfl))))
          intro w1 hs
          have Fw1 := Fwr.trans (hs.mono Fwr.size)
          replace hB_p := hB_p.below hs hB_p.lt
          clear hs Fwr
          clear hc_p; have hc_p := hB_p.cell
          repeat (first | with_reducible apply wpList_nil | with_reducible apply seq_region | with_reducible apply wp_region_lit | with_reducible apply wp_seq | ((with_reducible apply seq_q); (focus rfl); (focus (simp [go_sem, effAt, ↓IntWalk.iteOmega, *]; (try go_ints); (first | (with_reducible exact effUpon_val) | (with_reducible exact effUpon_skip)))); (focus ((simp only [Act.put, List.setIfInBounds_toArray, List.set_cons_zero, List.set_cons_succ]; rfl)))) | ((with_reducible apply seq_s); (focus rfl); (focus ((simp only [Act.put, List.setIfInBounds_toArray, List.set_cons_zero, List.set_cons_succ]; rfl)))) | with_reducible apply wp_block | with_reducible apply wp_skip | with_reducible apply wp_exit | with_reducible apply wp_ret | ((with_reducible apply wp_cond_true); (focus (first | rfl | (simp [go_sem, *]; done)))) | ((with_reducible apply wp_cond_false); (focus (first | rfl | (simp [go_sem, *]; done)))) | (simp only [Exit.then, Exit.inBlock, ↓reduceIte, Nat.reduceEqDiff]))
          have lt_p_x := hB_p.lt
          ((with_reducible apply seq_box); (focus rfl); (focus (simp [go_sem, effAt]; exact ⟨rfl, rfl⟩)); (focus ((simp only [Act.put, List.setIfInBounds_toArray, List.set_cons_zero, List.set_cons_succ]; rfl))))
          intro w2 hB_x hs
          have Fw2 := Fw1.trans (hs.mono Fw1.size)
          replace hB_p := hB_p.below hs hB_p.lt
          clear hs Fw1
          clear hc_p; have hc_p := hB_p.cell
          have hc_x := hB_x.cell
          repeat (first | with_reducible apply wpList_nil | with_reducible apply seq_region | with_reducible apply wp_region_lit | with_reducible apply wp_seq | ((with_reducible apply seq_q); (focus rfl); (focus (simp [go_sem, effAt, ↓IntWalk.iteOmega, *]; (try go_ints); (first | (with_reducible exact effUpon_val) | (with_reducible exact effUpon_skip)))); (focus ((simp only [Act.put, List.setIfInBounds_toArray, List.set_cons_zero, List.set_cons_succ]; rfl)))) | ((with_reducible apply seq_s); (focus rfl); (focus ((simp only [Act.put, List.setIfInBounds_toArray, List.set_cons_zero, List.set_cons_succ]; rfl)))) | with_reducible apply wp_block | with_reducible apply wp_skip | with_reducible apply wp_exit | with_reducible apply wp_ret | ((with_reducible apply wp_cond_true); (focus (first | rfl | (simp [go_sem, *]; done)))) | ((with_reducible apply wp_cond_false); (focus (first | rfl | (simp [go_sem, *]; done)))) | (simp only [Exit.then, Exit.inBlock, ↓reduceIte, Nat.reduceEqDiff]))
          obtain ⟨hi4, hz4, hs4, hb4⟩ := HI.out
          have hk0 := hO.kept (grown_below Fw2 none) (Classical.em _)
          have hG1 := hF.trans (Fw2.mono (by have := hF.size; omega))
          refine wpList_append_own _ rfl _ _ 34 rfl B 4 j4 _ 1 1 Try.underlying34 hi4 hz4 hs4 hb4 rfl (by decide) u5 i _ rfl hk0 ⟨w1.heap.size, 0, none⟩ 1 1 [.bool false] rfl rfl ?c1 ?c2 ?c3 ?c4 ?c5 ?_
          case c1 =>
            intro j u hj
            have e : (⟨w1.heap.size, 0, none⟩ : Addr).add j = ⟨w1.heap.size, j, none⟩ := by unfold Addr.add; split <;> simp_all
            rw [e, hB_x.cell]
            simpa using hj
          case c2 =>
            intro u hu
            simp at hu
            rcases hu with rfl
            rfl
          case c3 => unfold maxLen; omega
          case c4 => omega
          case c5 => have := hG1.size; omega
          intro t0 u1 hO' hg1 _
          simp only [Act.put, List.setIfInBounds_toArray, List.set_cons_zero, List.set_cons_succ]
          have hst := HST.out
          rw [show decide (mayP s i) = false from decide_eq_false hm] at hst
          rw [← hst] at hO'
          have hP1 := hB_p.grown hg1 (fun e => own_ne hk0 hB_p (by decide) e.symm)
          have hG2 := hG1.grown hg1 (by have := hG1.size; omega) (fun j hj => Nat.le_trans hB1 (hk0.lt j hj).1)
          clear hg1 hk0 hG1 hO hB_p hB_x hc_p hc_x hst hi4 hz4 hs4 hb4 hM
          obtain ⟨p0, n0, k0, rfl⟩ : ∃ p n k, t0 = .slice p n k := by
            rcases hO'.2 with ⟨rfl, _⟩ | ⟨g, cap, cur, rfl, _⟩
            · exact ⟨_, _, _, rfl⟩
            · exact ⟨_, _, _, rfl⟩
          have hci : (c : Int) ≤ 64 := by have := HCN.out; omega
          skip
          repeat (first | with_reducible apply wpList_nil | with_reducible apply seq_region | with_reducible apply wp_region_lit | with_reducible apply wp_seq | ((with_reducible apply seq_q); (focus rfl); (focus (simp [go_sem, effAt, ↓IntWalk.iteOmega, *]; (try go_ints); (first | (with_reducible exact effUpon_val) | (with_reducible exact effUpon_skip)))); (focus ((simp only [Act.put, List.setIfInBounds_toArray, List.set_cons_zero, List.set_cons_succ]; rfl)))) | ((with_reducible apply seq_s); (focus rfl); (focus ((simp only [Act.put, List.setIfInBounds_toArray, List.set_cons_zero, List.set_cons_succ]; rfl)))) | with_reducible apply wp_block | with_reducible apply wp_skip | with_reducible apply wp_exit | with_reducible apply wp_ret | ((with_reducible apply wp_cond_true); (focus (first | rfl | (simp [go_sem, *]; done)))) | ((with_reducible apply wp_cond_false); (focus (first | rfl | (simp [go_sem, *]; done)))) | (simp only [Exit.then, Exit.inBlock, ↓reduceIte, Nat.reduceEqDiff]))
          refine hK _ _ (Handed.intro (gk - 1) ?measure (hJ _ _ _ ?_))
          rotate_left
          (repeat apply Exists.intro)
          refine ⟨?rel, rfl⟩
          case rel => exact ⟨i + 1, by go_num, by rw [HCS.out]; rw [if_neg hm]; rfl, by omega, hP1, hO', hG2⟩
          case measure => omega
      case neg =>
        obtain rfl : i = 64 := by omega
        have hlt' : ¬ ((64 : Nat) : Int) < 64 := by omega
        obtain ⟨a, ca, pa, e0, ha0, hB_m⟩ := own_blk hO (by omega)
        have n1 := own_ne hO hB_p (by decide)
        subst e0
        have hab : B < a := by
          simp only [Value.ownBlock, ne_eq, Option.some.injEq] at n1
          omega
        replace hB_m : Blk wr a 4 (cellsM (marks s 64) pa) := hB_m
        obtain ⟨l0, hl0, hFair⟩ := fair_first HS.out
        have hno := fun h : (marks s 64).count true = 0 => fair_none h
        have HNO := Lib.hid hno
        have HL := Lib.hid hl0
        have HC := Lib.hid (marks_le s 64)
        obtain ⟨m, hme⟩ : ∃ m, marks s 64 = m := ⟨_, rfl⟩
        rw [hme] at hFair HNO HC hB_m hO ⊢
        obtain ⟨c, hce⟩ : ∃ c, m.count true = c := ⟨_, rfl⟩
        rw [hce] at hFair HNO HC ⊢
        clear hJ hK hO n1 hi hlt hno hl0 hme hce
        have Fwr : Below wr.heap.size wr wr := Below.refl _ _
        repeat (first | with_reducible apply wpList_nil | with_reducible apply seq_region | with_reducible apply wp_region_lit | with_reducible apply wp_seq | ((with_reducible apply seq_q); (focus rfl); (focus (simp [go_sem, effAt, ↓IntWalk.iteOmega, *]; (try go_ints); (first | (with_reducible exact effUpon_val) | (with_reducible exact effUpon_skip)))); (focus ((simp only [Act.put, List.setIfInBounds_toArray, List.set_cons_zero, List.set_cons_succ]; rfl)))) | ((with_reducible apply seq_s); (focus rfl); (focus ((simp only [Act.put, List.setIfInBounds_toArray, List.set_cons_zero, List.set_cons_succ]; rfl)))) | with_reducible apply wp_block | with_reducible apply wp_skip | with_reducible apply wp_exit | with_reducible apply wp_ret | ((with_reducible apply wp_cond_true); (focus (first | rfl | (simp [go_sem, *]; done)))) | ((with_reducible apply wp_cond_false); (focus (first | rfl | (simp [go_sem, *]; done)))) | (simp only [Exit.then, Exit.inBlock, ↓reduceIte, Nat.reduceEqDiff]))
        clear Fwr
        go_loopg [8, 9, 10] c (fun q v8 v9 v10 wr => ∃ (i R : Nat) (sc : PS) (m : List Bool), v8 = .int .i64 (i : Int) ∧ i + q = c ∧ Fair sc l0 c i R m ∧ (∀ d, mayP sc d ↔ mayP s d) ∧ PB wr B sc ∧ Blk wr a 4 (cellsM m pa) ∧ Below w.heap.size w wr)
        case atStart => exact ⟨0, 0, s, m, rfl, by omega, hFair, fun d => Iff.rfl, hB_p, hB_m, hF⟩
        case round =>
          rename_i J K hJ hK
          clear hB_p hF hB_m hFair
          obtain ⟨i, R, sc, m2, rfl, hi, hFa, hMm, hB_p, hB_m, hF⟩ := hrel
          have HMM := Lib.hid hMm
          have HFA := Lib.hid hFa
          clear hMm hFa
          by_cases hlt : i < c
          case pos =>
            obtain ⟨d, q2, hpc, hd64, hmd, hF2⟩ := fair_step HL.out HFA.out hlt
            have hPk := fun u hu => pk_is HFA.out.ok hpc B u hu
            have HF2 := Lib.hid hF2
            have hd1 : (d : Int) < 64 := by omega
            have hd2 : ¬ 63 < (d : Int) := by omega
            have e1 := cellsM_get pa hmd
            have hsz := HFA.out.len
            have hset := cellsM_set pa (m := m2) (d := d) (by omega) false
            have HSET := Lib.hid hset
            have hlt' : (i : Int) < (c : Int) := by omega
            have hcl : (c : Int) ≤ 64 := by have := HC.out; omega
            clear hpc hmd hF2 hset hsz
            skip
            skip
            have hc_p := hB_p.cell
            have hc_m := hB_m.cell
            repeat (first | with_reducible apply wpList_nil | with_reducible apply seq_region | with_reducible apply wp_region_lit | with_reducible apply wp_seq | ((with_reducible apply seq_q); (focus rfl); (focus (simp [go_sem, effAt, ↓IntWalk.iteOmega, *]; (try go_ints); (first | (with_reducible exact effUpon_val) | (with_reducible exact effUpon_skip)))); (focus ((simp only [Act.put, List.setIfInBounds_toArray, List.set_cons_zero, List.set_cons_succ]; rfl)))) | ((with_reducible apply seq_s); (focus rfl); (focus ((simp only [Act.put, List.setIfInBounds_toArray, List.set_cons_zero, List.set_cons_succ]; rfl)))) | with_reducible apply wp_block | with_reducible apply wp_skip | with_reducible apply wp_exit | with_reducible apply wp_ret | ((with_reducible apply wp_cond_true); (focus (first | rfl | (simp [go_sem, *]; done)))) | ((with_reducible apply wp_cond_false); (focus (first | rfl | (simp [go_sem, *]; done)))) | (simp only [Exit.then, Exit.inBlock, ↓reduceIte, Nat.reduceEqDiff]))
            ((with_reducible apply seq_e (fun w' => Blk w' _ _ _ ∧ wr.grownBy w' (some _))); (focus rfl); (focus (simp only [effAt]; simp [go_sem]; (with_reducible exact effUpon_enter (hPk _ hB_p)))); (focus ((simp only [Act.put, List.setIfInBounds_toArray, List.set_cons_zero, List.set_cons_succ]; rfl))))
            clear hc_p hB_p
            intro w1 hs
            obtain ⟨hB_p, hs⟩ := hs
            have Fw1 := hF.grown hs hF.size (by intro k hk; injection hk with hk; subst hk; first | exact Nat.le_refl _ | exact hF.size | omega)
            replace hB_m := hB_m.grown hs (by intro hk; injection hk with hk; have := hB_m.lt; have := hB_p.lt; omega)
            clear hs hF
            clear hc_m; have hc_m := hB_m.cell
            have hc_p := hB_p.cell
            clear hPk
            repeat (first | with_reducible apply wpList_nil | with_reducible apply seq_region | with_reducible apply wp_region_lit | with_reducible apply wp_seq | ((with_reducible apply seq_q); (focus rfl); (focus (simp [go_sem, effAt, ↓IntWalk.iteOmega, *]; (try go_ints); (first | (with_reducible exact effUpon_val) | (with_reducible exact effUpon_skip)))); (focus ((simp only [Act.put, List.setIfInBounds_toArray, List.set_cons_zero, List.set_cons_succ]; rfl)))) | ((with_reducible apply seq_s); (focus rfl); (focus ((simp only [Act.put, List.setIfInBounds_toArray, List.set_cons_zero, List.set_cons_succ]; rfl)))) | with_reducible apply wp_block | with_reducible apply wp_skip | with_reducible apply wp_exit | with_reducible apply wp_ret | ((with_reducible apply wp_cond_true); (focus (first | rfl | (simp [go_sem, *]; done)))) | ((with_reducible apply wp_cond_false); (focus (first | rfl | (simp [go_sem, *]; done)))) | (simp only [Exit.then, Exit.inBlock, ↓reduceIte, Nat.reduceEqDiff]))
            have hf_m := hB_m.frozen
            with_reducible apply seq_e (fun w' => Blk w' a 4 (cellsM (m2.set d false) pa) ∧ w1.grownBy w' (some a))
            (focus (first | exact wanted_none rfl | exact wanted_yes rfl rfl rfl))
            (focus (simp [go_sem, effAt, *]; exact ⟨rfl, by have h := hB_m.set_ d (.bool false); rw [HSET.out] at h; exact h, grown_set (World.grownBy.refl _ _)⟩))
            (simp only [Act.put, List.setIfInBounds_toArray, List.set_cons_zero, List.set_cons_succ]; rfl)
            rintro u ⟨hP, hg2⟩
            have hB_q := hB_p.grown hg2 (by intro hk; injection hk; omega)
            have hG := Fw1.grown hg2 Fw1.size (by intro k hk; injection hk; omega)
            clear hf_m hB_m hB_p hc_m hc_p hg2 Fw1 e1
            skip
            repeat (first | with_reducible apply wpList_nil | with_reducible apply seq_region | with_reducible apply wp_region_lit | with_reducible apply wp_seq | ((with_reducible apply seq_q); (focus rfl); (focus (simp [go_sem, effAt, ↓IntWalk.iteOmega, *]; (try go_ints); (first | (with_reducible exact effUpon_val) | (with_reducible exact effUpon_skip)))); (focus ((simp only [Act.put, List.setIfInBounds_toArray, List.set_cons_zero, List.set_cons_succ]; rfl)))) | ((with_reducible apply seq_s); (focus rfl); (focus ((simp only [Act.put, List.setIfInBounds_toArray, List.set_cons_zero, List.set_cons_succ]; rfl)))) | with_reducible apply wp_block | with_reducible apply wp_skip | with_reducible apply wp_exit | with_reducible apply wp_ret | ((with_reducible apply wp_cond_true); (focus (first | rfl | (simp [go_sem, *]; done)))) | ((with_reducible apply wp_cond_false); (focus (first | rfl | (simp [go_sem, *]; done)))) | (simp only [Exit.then, Exit.inBlock, ↓reduceIte, Nat.reduceEqDiff]))
            refine hK _ _ (Handed.intro (gk - 1) ?measure (hJ _ _ _ ?_))
            rotate_left
            (repeat apply Exists.intro)
            refine ⟨?rel, rfl⟩
            case rel => exact ⟨i + 1, q2, sc.take d, m2.set d false, by go_num, by omega, HF2.out, fun x => HMM.out x, hB_q, hP, hG⟩
            case measure => omega
          case neg =>
            have hlt' : ¬ (i : Int) < (c : Int) := by omega
            clear hJ hK hi
            by_cases hc0 : c = 0
            case pos =>
              have hcb : ((c : Int) == 0) = true := by simp [hc0]
              have hpc : pickC sc = none := pickC_no fun d hd => HNO.out hc0 d ((HMM.out d).1 hd)
              have hPk := fun u hu => pk_no HFA.out.ok hpc B u hu
              clear hpc hc0
              skip
              skip
              have hc_p := hB_p.cell
              repeat (first | with_reducible apply wpList_nil | with_reducible apply seq_region | with_reducible apply wp_region_lit | with_reducible apply wp_seq | ((with_reducible apply seq_q); (focus rfl); (focus (simp [go_sem, effAt, ↓IntWalk.iteOmega, *]; (try go_ints); (first | (with_reducible exact effUpon_val) | (with_reducible exact effUpon_skip)))); (focus ((simp only [Act.put, List.setIfInBounds_toArray, List.set_cons_zero, List.set_cons_succ]; rfl)))) | ((with_reducible apply seq_s); (focus rfl); (focus ((simp only [Act.put, List.setIfInBounds_toArray, List.set_cons_zero, List.set_cons_succ]; rfl)))) | with_reducible apply wp_block | with_reducible apply wp_skip | with_reducible apply wp_exit | with_reducible apply wp_ret | ((with_reducible apply wp_cond_true); (focus (first | rfl | (simp [go_sem, *]; done)))) | ((with_reducible apply wp_cond_false); (focus (first | rfl | (simp [go_sem, *]; done)))) | (simp only [Exit.then, Exit.inBlock, ↓reduceIte, Nat.reduceEqDiff]))
              ((with_reducible apply seq_e (fun w' => Blk w' _ _ _ ∧ wr.grownBy w' (some _))); (focus rfl); (focus (simp only [effAt]; simp [go_sem]; (with_reducible exact effUpon_enter (hPk _ hB_p)))); (focus ((simp only [Act.put, List.setIfInBounds_toArray, List.set_cons_zero, List.set_cons_succ]; rfl))))
              clear hc_p hB_p
              intro w1 hs
              obtain ⟨hB_p, hs⟩ := hs
              have Fw1 := hF.grown hs hF.size (by intro k hk; injection hk with hk; subst hk; first | exact Nat.le_refl _ | exact hF.size | omega)
              clear hs hF
              have hc_p := hB_p.cell
              repeat (first | with_reducible apply wpList_nil | with_reducible apply seq_region | with_reducible apply wp_region_lit | with_reducible apply wp_seq | ((with_reducible apply seq_q); (focus rfl); (focus (simp [go_sem, effAt, ↓IntWalk.iteOmega, *]; (try go_ints); (first | (with_reducible exact effUpon_val) | (with_reducible exact effUpon_skip)))); (focus ((simp only [Act.put, List.setIfInBounds_toArray, List.set_cons_zero, List.set_cons_succ]; rfl)))) | ((with_reducible apply seq_s); (focus rfl); (focus ((simp only [Act.put, List.setIfInBounds_toArray, List.set_cons_zero, List.set_cons_succ]; rfl)))) | with_reducible apply wp_block | with_reducible apply wp_skip | with_reducible apply wp_exit | with_reducible apply wp_ret | ((with_reducible apply wp_cond_true); (focus (first | rfl | (simp [go_sem, *]; done)))) | ((with_reducible apply wp_cond_false); (focus (first | rfl | (simp [go_sem, *]; done)))) | (simp only [Exit.then, Exit.inBlock, ↓reduceIte, Nat.reduceEqDiff]))
              ((with_reducible apply seq_e (Below w1.heap.size w1)); (focus rfl); (focus (simp only [effAt]; simp [go_sem]; (with_reducible exact effUpon_enter (works_any _)))); (focus ((simp only [Act.put, List.setIfInBounds_toArray, List.set_cons_zero, List.set_cons_succ]; rfl))))
              intro w2 hs
              have Fw2 := Fw1.trans (hs.mono Fw1.size)
              replace hB_p := hB_p.below hs hB_p.lt
              clear hs Fw1
              clear hc_p; have hc_p := hB_p.cell
              repeat (first | with_reducible apply wpList_nil | with_reducible apply seq_region | with_reducible apply wp_region_lit | with_reducible apply wp_seq | ((with_reducible apply seq_q); (focus rfl); (focus (simp [go_sem, effAt, ↓IntWalk.iteOmega, *]; (try go_ints); (first | (with_reducible exact effUpon_val) | (with_reducible exact effUpon_skip)))); (focus ((simp only [Act.put, List.setIfInBounds_toArray, List.set_cons_zero, List.set_cons_succ]; rfl)))) | ((with_reducible apply seq_s); (focus rfl); (focus ((simp only [Act.put, List.setIfInBounds_toArray, List.set_cons_zero, List.set_cons_succ]; rfl)))) | with_reducible apply wp_block | with_reducible apply wp_skip | with_reducible apply wp_exit | with_reducible apply wp_ret | ((with_reducible apply wp_cond_true); (focus (first | rfl | (simp [go_sem, *]; done)))) | ((with_reducible apply wp_cond_false); (focus (first | rfl | (simp [go_sem, *]; done)))) | (simp only [Exit.then, Exit.inBlock, ↓reduceIte, Nat.reduceEqDiff]))
              go_ret
              exact ⟨rfl, by assumption⟩
            case neg =>
              have hcb : ((c : Int) == 0) = false := by simp [hc0]
              clear hc0
              skip
              skip
              repeat (first | with_reducible apply wpList_nil | with_reducible apply seq_region | with_reducible apply wp_region_lit | with_reducible apply wp_seq | ((with_reducible apply seq_q); (focus rfl); (focus (simp [go_sem, effAt, ↓IntWalk.iteOmega, *]; (try go_ints); (first | (with_reducible exact effUpon_val) | (with_reducible exact effUpon_skip)))); (focus ((simp only [Act.put, List.setIfInBounds_toArray, List.set_cons_zero, List.set_cons_succ]; rfl)))) | ((with_reducible apply seq_s); (focus rfl); (focus ((simp only [Act.put, List.setIfInBounds_toArray, List.set_cons_zero, List.set_cons_succ]; rfl)))) | with_reducible apply wp_block | with_reducible apply wp_skip | with_reducible apply wp_exit | with_reducible apply wp_ret | ((with_reducible apply wp_cond_true); (focus (first | rfl | (simp [go_sem, *]; done)))) | ((with_reducible apply wp_cond_false); (focus (first | rfl | (simp [go_sem, *]; done)))) | (simp only [Exit.then, Exit.inBlock, ↓reduceIte, Nat.reduceEqDiff]))
              ((with_reducible apply seq_e (Below wr.heap.size wr)); (focus rfl); (focus (simp only [effAt]; simp [go_sem]; (with_reducible exact effUpon_enter (works_any _)))); (focus ((simp only [Act.put, List.setIfInBounds_toArray, List.set_cons_zero, List.set_cons_succ]; rfl))))
              intro w1 hs
              have Fw1 := hF.trans (hs.mono hF.size)
              clear hs hF
              repeat (first | with_reducible apply wpList_nil | with_reducible apply seq_region | with_reducible apply wp_region_lit | with_reducible apply wp_seq | ((with_reducible apply seq_q); (focus rfl); (focus (simp [go_sem, effAt, ↓IntWalk.iteOmega, *]; (try go_ints); (first | (with_reducible exact effUpon_val) | (with_reducible exact effUpon_skip)))); (focus ((simp only [Act.put, List.setIfInBounds_toArray, List.set_cons_zero, List.set_cons_succ]; rfl)))) | ((with_reducible apply seq_s); (focus rfl); (focus ((simp only [Act.put, List.setIfInBounds_toArray, List.set_cons_zero, List.set_cons_succ]; rfl)))) | with_reducible apply wp_block | with_reducible apply wp_skip | with_reducible apply wp_exit | with_reducible apply wp_ret | ((with_reducible apply wp_cond_true); (focus (first | rfl | (simp [go_sem, *]; done)))) | ((with_reducible apply wp_cond_false); (focus (first | rfl | (simp [go_sem, *]; done)))) | (simp only [Exit.then, Exit.inBlock, ↓reduceIte, Nat.reduceEqDiff]))
              go_ret
              exact ⟨rfl, by assumption⟩
end Go.Proofs.Ytminenipklgbcaa
