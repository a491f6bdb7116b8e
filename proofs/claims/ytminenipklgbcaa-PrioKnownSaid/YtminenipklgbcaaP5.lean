/- The walks of Pick and New. -/
import Derived.Test.YtminenipklgbcaaP4
set_option linter.unusedSimpArgs false
set_option linter.unusedVariables false
namespace Go.Proofs.Ytminenipklgbcaa
open Go.RowKit Go.Eff
attribute [local irreducible] Go.wpList
/-- who is picked, if any -/
def pickC (s : PS) : Option Nat :=
  match (List.range 64).find? (fun d => decide (mayP s d)) with
  | none => none
  | some f => match (List.range 64).find? (fun d => decide (mayP s d) && decide (lastOf s d < d)) with
    | some a => some a
    | none => some f
/-- what Pick answers, and what is so then -/
def PS.pickD (s : PS) : Nat := (pickC s).getD 0
def PS.pickO (s : PS) : Bool := (pickC s).isSome
def PS.pick (s : PS) : PS := match pickC s with | some d => s.take d | none => s
theorem find_range {p : Nat → Bool} : ∀ {n d : Nat}, (List.range n).find? p = some d → d < n ∧ p d = true ∧ ∀ e, e < d → p e = false := by
  intro n d h
  have h1 := List.find?_some h
  have h2 := List.mem_of_find?_eq_some h
  rw [List.mem_range] at h2
  refine ⟨h2, h1, fun e he => ?_⟩
  rw [List.find?_eq_some_iff_getElem] at h
  obtain ⟨_, i, hi, h3, h4⟩ := h
  simp only [List.getElem_range] at h3
  subst h3
  have := h4 e he
  simpa using this
theorem find_range_none {p : Nat → Bool} {n : Nat} (h : (List.range n).find? p = none) : ∀ e, e < n → p e = false := fun e he => by
  rw [List.find?_eq_none] at h
  have := h e (List.mem_range.2 he)
  simpa using this
theorem pickC_none {s : PS} (h : pickC s = none) : ∀ d, ¬ mayP s d := by
  unfold pickC at h
  split at h
  · rename_i h1
    intro d hd
    have := find_range_none h1 d hd.1
    simp [hd] at this
  · split at h <;> cases h
theorem pickC_some {s : PS} {d : Nat} (h : pickC s = some d) : isPick s d := by
  unfold pickC at h
  split at h
  · cases h
  rename_i f h1
  obtain ⟨f1, f2, f3⟩ := find_range h1
  split at h
  · rename_i a h2
    injection h with h
    subst h
    obtain ⟨a1, a2, a3⟩ := find_range h2
    simp only [Bool.and_eq_true, decide_eq_true_eq] at a2
    refine doc_pick (f := f) (of_decide_eq_true f2) (fun e he => of_decide_eq_false (f3 e he)) a2.1 a2.2 (fun e he hm hl => ?_)
    have := a3 e he
    simp [hm, hl] at this
  · rename_i h2
    injection h with h
    subst h
    have h3 := find_range_none h2
    refine doc_pick0 (of_decide_eq_true f2) (fun e he => of_decide_eq_false (f3 e he)) (fun e he hm hl => ?_)
    have := h3 e he
    simp [hm, hl] at this
theorem pickC_is {s : PS} {d : Nat} (h : isPick s d) : pickC s = some d := by
  cases hc : pickC s with
  | none => exact absurd h.1 (pickC_none hc d)
  | some e => rw [pick_unique (pickC_some hc) h]
theorem pickC_no {s : PS} (h : ∀ d, ¬ mayP s d) : pickC s = none := by
  cases hc : pickC s with
  | none => rfl
  | some e => exact absurd (pickC_some hc).1 (h e)
theorem pick_ok {s : PS} (hs : s.Ok) : s.pick.Ok := by
  unfold PS.pick
  split
  · rename_i d h; exact take_ok hs (pickC_some h).1.1
  · exact hs
/-- the least class that is ready, among the first i; 64: none is -/
def leastIn (s : PS) (i L : Nat) : Prop := (L = 64 ∧ ∀ e, e < i → s.r e = false) ∨ (∃ e, e < 64 ∧ e < i ∧ s.r e = true ∧ s.c e = L ∧ ∀ k, k < i → s.r k = true → ¬ s.c k < L)
theorem least_no {s : PS} {i L : Nat} (h : leastIn s i L) (hr : s.r i = false) : leastIn s (i + 1) L := by
  rcases h with ⟨h1, h2⟩ | ⟨e, h0, h1, h2, h3, h4⟩
  · refine .inl ⟨h1, fun e he => ?_⟩
    by_cases hei : e = i
    · subst hei; exact hr
    · exact h2 e (by omega)
  · refine .inr ⟨e, h0, by omega, h2, h3, fun k hk hkr => ?_⟩
    by_cases hki : k = i
    · subst hki; rw [hr] at hkr; cases hkr
    · exact h4 k (by omega) hkr
theorem least_yes {s : PS} (hs : s.Ok) {i L : Nat} (hi : i < 64) (h : leastIn s i L) (hr : s.r i = true) : leastIn s (i + 1) (min L (s.c i).toNat) := by
  have hc := hs.clr i hi
  rcases h with ⟨h1, h2⟩ | ⟨e, h0, h1, h2, h3, h4⟩
  · refine .inr ⟨i, hi, by omega, hr, by omega, fun k hk hkr => ?_⟩
    by_cases hki : k = i
    · subst hki; omega
    · rw [h2 k (by omega)] at hkr; cases hkr
  · by_cases hlt : s.c i < L
    · refine .inr ⟨i, hi, by omega, hr, by omega, fun k hk hkr => ?_⟩
      by_cases hki : k = i
      · subst hki; omega
      · have := h4 k (by omega) hkr; omega
    · refine .inr ⟨e, h0, by omega, h2, by omega, fun k hk hkr => ?_⟩
      by_cases hki : k = i
      · subst hki; omega
      · have := h4 k (by omega) hkr; omega
theorem least_may {s : PS} {L d : Nat} (h : leastIn s 64 L) (hL : ¬ L = 64) (hd : mayP s d) : s.c d = L := by
  rcases h with ⟨h1, h2⟩ | ⟨e, h0, h1, h2, h3, h4⟩
  · exact absurd h1 hL
  · have := h4 d hd.1 hd.2.1
    have := hd.2.2 e h0 h2
    omega
theorem least_ex {s : PS} {L : Nat} (h : leastIn s 64 L) (hL : ¬ L = 64) : ∃ d, mayP s d := by
  rcases h with ⟨h1, h2⟩ | ⟨e, h0, h1, h2, h3, h4⟩
  · exact absurd h1 hL
  · exact may_ex ⟨e, h0, h2⟩
set_option maxRecDepth 100000 in
set_option maxHeartbeats 4000000 in
theorem pick_any {s : PS} (hs : s.Ok) (g : Nat) (w : World) (hB_p : PB w g s) : Calls Try.prog 14 #[.pointer (some ⟨g, 0, none⟩)] w (Ret (.tuple #[.int .u8 s.pickD, .bool s.pickO]) fun w' => PB w' g s.pick ∧ w.grownBy w' (some g)) := by
  have HT := Lib.hid (take_any hs g)
  have HL := Lib.hid (fun u (h : PB u g s) => load44 hs h)
  have HS := Lib.hid hs
  obtain ⟨pd, hpd⟩ : ∃ x, s.pickD = x := ⟨_, rfl⟩
  obtain ⟨po, hpo⟩ : ∃ x, s.pickO = x := ⟨_, rfl⟩
  obtain ⟨ps, hps⟩ : ∃ x, s.pick = x := ⟨_, rfl⟩
  rw [hpd, hpo, hps]
  have HP := Lib.hid (And.intro hpd (And.intro hpo hps))
  clear hs hpd hpo hps
  go_enter Try.func14, Try.ntmps14
  have F0 : Below w.heap.size w w := Below.refl _ _
  have hc_p := hB_p.cell
  repeat (first | with_reducible apply wpList_nil | with_reducible apply seq_region | with_reducible apply wp_region_lit | with_reducible apply wp_seq | ((with_reducible apply seq_q); (focus rfl); (focus (simp [go_sem, effAt, ↓IntWalk.iteOmega, *]; (try go_ints); (first | (with_reducible exact effUpon_val) | (with_reducible exact effUpon_skip)))); (focus ((simp only [Act.put, List.setIfInBounds_toArray, List.set_cons_zero, List.set_cons_succ]; rfl)))) | ((with_reducible apply seq_s); (focus rfl); (focus ((simp only [Act.put, List.setIfInBounds_toArray, List.set_cons_zero, List.set_cons_succ]; rfl)))) | with_reducible apply wp_block | with_reducible apply wp_skip | with_reducible apply wp_exit | with_reducible apply wp_ret | ((with_reducible apply wp_cond_true); (focus (first | rfl | (simp [go_sem, *]; done)))) | ((with_reducible apply wp_cond_false); (focus (first | rfl | (simp [go_sem, *]; done)))) | (simp only [Exit.then, Exit.inBlock, ↓reduceIte, Nat.reduceEqDiff]))
  (with_reducible apply seq_q)
  (focus (first | exact wanted_none rfl | exact wanted_yes rfl rfl rfl))
  (focus exact eff_load rfl rfl (HL.out _ hB_p))
  (simp only [Act.put, List.setIfInBounds_toArray, List.set_cons_zero, List.set_cons_succ]; rfl)
  repeat (first | with_reducible apply wpList_nil | with_reducible apply seq_region | with_reducible apply wp_region_lit | with_reducible apply wp_seq | ((with_reducible apply seq_q); (focus rfl); (focus (simp [go_sem, effAt, ↓IntWalk.iteOmega, *]; (try go_ints); (first | (with_reducible exact effUpon_val) | (with_reducible exact effUpon_skip)))); (focus ((simp only [Act.put, List.setIfInBounds_toArray, List.set_cons_zero, List.set_cons_succ]; rfl)))) | ((with_reducible apply seq_s); (focus rfl); (focus ((simp only [Act.put, List.setIfInBounds_toArray, List.set_cons_zero, List.set_cons_succ]; rfl)))) | with_reducible apply wp_block | with_reducible apply wp_skip | with_reducible apply wp_exit | with_reducible apply wp_ret | ((with_reducible apply wp_cond_true); (focus (first | rfl | (simp [go_sem, *]; done)))) | ((with_reducible apply wp_cond_false); (focus (first | rfl | (simp [go_sem, *]; done)))) | (simp only [Exit.then, Exit.inBlock, ↓reduceIte, Nat.reduceEqDiff]))
  clear HL hc_p
  go_loopg [15, 5, 6, 4] 64 (fun q v15 v5 v6 v4 wr => ∃ (i L : Nat), v15 = .int .i64 (i : Int) ∧ v4 = .int .i64 (L : Int) ∧ i + q = 64 ∧ L ≤ 64 ∧ leastIn s i L ∧ PB wr g s ∧ Below w.heap.size w wr)
  case atStart => exact ⟨0, 64, rfl, rfl, by omega, by omega, .inl ⟨rfl, fun e he => by omega⟩, hB_p, by assumption⟩
  case round =>
    rename_i J K hJ hK
    clear hB_p F0
    obtain ⟨i, L, rfl, rfl, hi, hL64, hle, hB_p, hF⟩ := hrel
    by_cases hlt : i < 64
    case pos =>
      have hlt' : (i : Int) < 64 := by omega
      have hI := index44 HS.out hlt
      have e2 := cellsP_c HS.out hlt
      have hcb := HS.out.clr i hlt
      have HLE := Lib.hid hle
      clear hle
      skip
      have hc_p := hB_p.cell
      cases hri : s.r i with
      | false =>
        rw [hri] at hI
        repeat (first | with_reducible apply wpList_nil | with_reducible apply seq_region | with_reducible apply wp_region_lit | with_reducible apply wp_seq | ((with_reducible apply seq_q); (focus rfl); (focus (simp [go_sem, effAt, ↓IntWalk.iteOmega, *]; (try go_ints); (first | (with_reducible exact effUpon_val) | (with_reducible exact effUpon_skip)))); (focus ((simp only [Act.put, List.setIfInBounds_toArray, List.set_cons_zero, List.set_cons_succ]; rfl)))) | ((with_reducible apply seq_s); (focus rfl); (focus ((simp only [Act.put, List.setIfInBounds_toArray, List.set_cons_zero, List.set_cons_succ]; rfl)))) | with_reducible apply wp_block | with_reducible apply wp_skip | with_reducible apply wp_exit | with_reducible apply wp_ret | ((with_reducible apply wp_cond_true); (focus (first | rfl | (simp [go_sem, *]; done)))) | ((with_reducible apply wp_cond_false); (focus (first | rfl | (simp [go_sem, *]; done)))) | (simp only [Exit.then, Exit.inBlock, ↓reduceIte, Nat.reduceEqDiff]))
        refine hK _ _ (Handed.intro (gk - 1) ?measure (hJ _ _ _ ?_))
        rotate_left
        (repeat apply Exists.intro)
        refine ⟨?rel, rfl⟩
        case rel => exact ⟨i + 1, L, by go_num, rfl, by omega, hL64, least_no HLE.out hri, by assumption, by assumption⟩
        case measure => omega
      | true =>
        rw [hri] at hI
        have hmn : ((min L (s.c i).toNat : Nat) : Int) = min (L : Int) (s.c i) := by omega
        have HMN := Lib.hid hmn
        obtain ⟨hcb1, hcb2⟩ := hcb
        clear hmn
        repeat (first | with_reducible apply wpList_nil | with_reducible apply seq_region | with_reducible apply wp_region_lit | with_reducible apply wp_seq | ((with_reducible apply seq_q); (focus rfl); (focus (simp [go_sem, effAt, ↓IntWalk.iteOmega, *]; (try go_ints); (first | (with_reducible exact effUpon_val) | (with_reducible exact effUpon_skip)))); (focus ((simp only [Act.put, List.setIfInBounds_toArray, List.set_cons_zero, List.set_cons_succ]; rfl)))) | ((with_reducible apply seq_s); (focus rfl); (focus ((simp only [Act.put, List.setIfInBounds_toArray, List.set_cons_zero, List.set_cons_succ]; rfl)))) | with_reducible apply wp_block | with_reducible apply wp_skip | with_reducible apply wp_exit | with_reducible apply wp_ret | ((with_reducible apply wp_cond_true); (focus (first | rfl | (simp [go_sem, *]; done)))) | ((with_reducible apply wp_cond_false); (focus (first | rfl | (simp [go_sem, *]; done)))) | (simp only [Exit.then, Exit.inBlock, ↓reduceIte, Nat.reduceEqDiff]))
        refine hK _ _ (Handed.intro (gk - 1) ?measure (hJ _ _ _ ?_))
        rotate_left
        (repeat apply Exists.intro)
        refine ⟨?rel, rfl⟩
        case rel => exact ⟨i + 1, min L (s.c i).toNat, by go_num, by rw [HMN.out, Int.min_comm], by omega, by omega, least_yes HS.out hlt HLE.out hri, by assumption, by assumption⟩
        case measure => omega
    case neg =>
      obtain rfl : i = 64 := by omega
      have hlt' : ¬ ((64 : Nat) : Int) < 64 := by omega
      clear hJ hK hlt hi
      by_cases hL : L = 64
      case pos =>
        subst hL
        have hno : ∀ d, ¬ mayP s d := by
          rcases hle with ⟨_, h2⟩ | ⟨e, h0, h1, h2, h3, h4⟩
          · intro d hd
            have := h2 d hd.1
            rw [hd.2.1] at this; cases this
          · have := HS.out.clr e h0
            omega
        have hpc := pickC_no hno
        obtain ⟨p1, p2, p3⟩ := HP.out
        have e1 : pd = 0 := by rw [← p1]; unfold PS.pickD; rw [hpc]; rfl
        have e2 : po = false := by rw [← p2]; unfold PS.pickO; rw [hpc]; rfl
        have e3 : ps = s := by rw [← p3]; unfold PS.pick; rw [hpc]
        clear p1 p2 p3 hpc hno hle
        subst e1 e2 e3
        skip
        have hc_p := hB_p.cell
        repeat (first | with_reducible apply wpList_nil | with_reducible apply seq_region | with_reducible apply wp_region_lit | with_reducible apply wp_seq | ((with_reducible apply seq_q); (focus rfl); (focus (simp [go_sem, effAt, ↓IntWalk.iteOmega, *]; (try go_ints); (first | (with_reducible exact effUpon_val) | (with_reducible exact effUpon_skip)))); (focus ((simp only [Act.put, List.setIfInBounds_toArray, List.set_cons_zero, List.set_cons_succ]; rfl)))) | ((with_reducible apply seq_s); (focus rfl); (focus ((simp only [Act.put, List.setIfInBounds_toArray, List.set_cons_zero, List.set_cons_succ]; rfl)))) | with_reducible apply wp_block | with_reducible apply wp_skip | with_reducible apply wp_exit | with_reducible apply wp_ret | ((with_reducible apply wp_cond_true); (focus (first | rfl | (simp [go_sem, *]; done)))) | ((with_reducible apply wp_cond_false); (focus (first | rfl | (simp [go_sem, *]; done)))) | (simp only [Exit.then, Exit.inBlock, ↓reduceIte, Nat.reduceEqDiff]))
        refine bodyPost_ret (v := .tuple #[.int .u8 0, .bool false]) (by simp [results, Try.results14, go_sem, *]) rfl ⟨rfl, hB_p, grown_below (by assumption) _⟩
      case neg =>
        have hL1 : ¬ (L : Int) = 64 := by omega
        have hLlt : (L : Int) < 64 := by omega
        have hLn : L < 64 := by omega
        have hLb : ((L : Int) == 64) = false := by simp; omega
        have HLE := Lib.hid hle
        have hla := HS.out.lar L hLn
        have e3 := cellsP_l HS.out hLn
        obtain ⟨l, hl⟩ : ∃ l, s.l L = l := ⟨_, rfl⟩
        rw [hl] at hla e3
        have HLL := Lib.hid hl
        clear hle hl
        skip
        have hc_p := hB_p.cell
        repeat (first | with_reducible apply wpList_nil | with_reducible apply seq_region | with_reducible apply wp_region_lit | with_reducible apply wp_seq | ((with_reducible apply seq_q); (focus rfl); (focus (simp [go_sem, effAt, ↓IntWalk.iteOmega, *]; (try go_ints); (first | (with_reducible exact effUpon_val) | (with_reducible exact effUpon_skip)))); (focus ((simp only [Act.put, List.setIfInBounds_toArray, List.set_cons_zero, List.set_cons_succ]; rfl)))) | ((with_reducible apply seq_s); (focus rfl); (focus ((simp only [Act.put, List.setIfInBounds_toArray, List.set_cons_zero, List.set_cons_succ]; rfl)))) | with_reducible apply wp_block | with_reducible apply wp_skip | with_reducible apply wp_exit | with_reducible apply wp_ret | ((with_reducible apply wp_cond_true); (focus (first | rfl | (simp [go_sem, *]; done)))) | ((with_reducible apply wp_cond_false); (focus (first | rfl | (simp [go_sem, *]; done)))) | (simp only [Exit.then, Exit.inBlock, ↓reduceIte, Nat.reduceEqDiff]))
        go_loopg [32, 7, 8] 64 (fun q v32 v7 v8 wr => ∃ (i : Nat), v32 = .int .i64 (i : Int) ∧ i + q = 64 ∧ (∀ j, j < i → ¬ mayP s (at_ l j)) ∧ PB wr g s ∧ w.grownBy wr (some g))
        case atStart => exact ⟨0, rfl, by omega, fun j hj => by omega, hB_p, grown_below (by assumption) _⟩
        case round =>
          rename_i J K hJ hK
          clear hB_p hF
          obtain ⟨i, rfl, hi, hno, hB_p, hF⟩ := hrel
          have HNO := Lib.hid hno
          clear hno
          by_cases hlt : i < 64
          case pos =>
            have hlt2 : (i : Int) < 64 := by omega
            have hat : (at_ l i : Int) = (l + 1 + i) % 64 := by unfold at_; omega
            have hat2 : at_ l i < 64 := at_lt l i
            have hT := HT.out (at_ l i)
            obtain ⟨hla1, hla2⟩ := hla
            have Fwr : Below wr.heap.size wr wr := Below.refl _ _
            have hc_p := hB_p.cell
            repeat (first | with_reducible apply wpList_nil | with_reducible apply seq_region | with_reducible apply wp_region_lit | with_reducible apply wp_seq | ((with_reducible apply seq_q); (focus rfl); (focus (simp [go_sem, effAt, ↓IntWalk.iteOmega, *]; (try go_ints); (first | (with_reducible exact effUpon_val) | (with_reducible exact effUpon_skip)))); (focus ((simp only [Act.put, List.setIfInBounds_toArray, List.set_cons_zero, List.set_cons_succ]; rfl)))) | ((with_reducible apply seq_s); (focus rfl); (focus ((simp only [Act.put, List.setIfInBounds_toArray, List.set_cons_zero, List.set_cons_succ]; rfl)))) | with_reducible apply wp_block | with_reducible apply wp_skip | with_reducible apply wp_exit | with_reducible apply wp_ret | ((with_reducible apply wp_cond_true); (focus (first | rfl | (simp [go_sem, *]; done)))) | ((with_reducible apply wp_cond_false); (focus (first | rfl | (simp [go_sem, *]; done)))) | (simp only [Exit.then, Exit.inBlock, ↓reduceIte, Nat.reduceEqDiff]))
            rw [← hat]
            obtain ⟨d, hde⟩ : ∃ d, at_ l i = d := ⟨_, rfl⟩
            rw [hde] at hT hat hat2 ⊢
            have HDE := Lib.hid hde
            clear hde hat
            by_cases hm : mayP s d
            case pos =>
              have hpk : isPick s d := by
                rw [← HDE.out]
                refine round_pick ⟨hla1, hla2⟩ hlt (by rw [HDE.out]; exact hm) ?_ HNO.out
                rw [HDE.out]
                unfold lastOf
                rw [least_may HLE.out hL hm, Int.toNat_natCast, HLL.out]
              have hpc := pickC_is hpk
              obtain ⟨p1, p2, p3⟩ := HP.out
              have q1 : pd = d := by rw [← p1]; unfold PS.pickD; rw [hpc]; rfl
              have q2 : po = true := by rw [← p2]; unfold PS.pickO; rw [hpc]; rfl
              have q3 : ps = s.take d := by rw [← p3]; unfold PS.pick; rw [hpc]
              rw [if_pos hm, decide_eq_true hm] at hT
              clear p1 p2 p3 hpc hpk hm hla1 hla2
              subst q1 q2 q3
              with_reducible apply seq_e (fun w' => PB w' g (s.take pd) ∧ wr.grownBy w' (some g))
              (focus (first | exact wanted_none rfl | exact wanted_yes rfl rfl rfl))
              (focus (simp only [effAt]; simp [go_sem]; (with_reducible exact effUpon_enter (hT _ hB_p))))
              (simp only [Act.put, List.setIfInBounds_toArray, List.set_cons_zero, List.set_cons_succ]; rfl)
              rintro u ⟨hP, hg2⟩
              have hG := grown_trans hF hg2
              clear hT hg2
              repeat (first | with_reducible apply wpList_nil | with_reducible apply seq_region | with_reducible apply wp_region_lit | with_reducible apply wp_seq | ((with_reducible apply seq_q); (focus rfl); (focus (simp [go_sem, effAt, ↓IntWalk.iteOmega, *]; (try go_ints); (first | (with_reducible exact effUpon_val) | (with_reducible exact effUpon_skip)))); (focus ((simp only [Act.put, List.setIfInBounds_toArray, List.set_cons_zero, List.set_cons_succ]; rfl)))) | ((with_reducible apply seq_s); (focus rfl); (focus ((simp only [Act.put, List.setIfInBounds_toArray, List.set_cons_zero, List.set_cons_succ]; rfl)))) | with_reducible apply wp_block | with_reducible apply wp_skip | with_reducible apply wp_exit | with_reducible apply wp_ret | ((with_reducible apply wp_cond_true); (focus (first | rfl | (simp [go_sem, *]; done)))) | ((with_reducible apply wp_cond_false); (focus (first | rfl | (simp [go_sem, *]; done)))) | (simp only [Exit.then, Exit.inBlock, ↓reduceIte, Nat.reduceEqDiff]))
              refine bodyPost_ret (v := .tuple #[.int .u8 pd, .bool true]) (by simp [results, Try.results14, go_sem, *]) rfl ⟨rfl, hP, hG⟩
            case neg =>
              rw [if_neg hm, decide_eq_false hm] at hT
              have HM := Lib.hid hm
              clear hm hla1 hla2
              with_reducible apply seq_e (fun w' => PB w' g s ∧ wr.grownBy w' (some g))
              (focus (first | exact wanted_none rfl | exact wanted_yes rfl rfl rfl))
              (focus (simp only [effAt]; simp [go_sem]; (with_reducible exact effUpon_enter (hT _ hB_p))))
              (simp only [Act.put, List.setIfInBounds_toArray, List.set_cons_zero, List.set_cons_succ]; rfl)
              rintro u ⟨hP, hg2⟩
              have hG := grown_trans hF hg2
              clear hT hg2
              repeat (first | with_reducible apply wpList_nil | with_reducible apply seq_region | with_reducible apply wp_region_lit | with_reducible apply wp_seq | ((with_reducible apply seq_q); (focus rfl); (focus (simp [go_sem, effAt, ↓IntWalk.iteOmega, *]; (try go_ints); (first | (with_reducible exact effUpon_val) | (with_reducible exact effUpon_skip)))); (focus ((simp only [Act.put, List.setIfInBounds_toArray, List.set_cons_zero, List.set_cons_succ]; rfl)))) | ((with_reducible apply seq_s); (focus rfl); (focus ((simp only [Act.put, List.setIfInBounds_toArray, List.set_cons_zero, List.set_cons_succ]; rfl)))) | with_reducible apply wp_block | with_reducible apply wp_skip | with_reducible apply wp_exit | with_reducible apply wp_ret | ((with_reducible apply wp_cond_true); (focus (first | rfl | (simp [go_sem, *]; done)))) | ((with_reducible apply wp_cond_false); (focus (first | rfl | (simp [go_sem, *]; done)))) | (simp only [Exit.then, Exit.inBlock, ↓reduceIte, Nat.reduceEqDiff]))
              refine hK _ _ (Handed.intro (gk - 1) ?measure (hJ _ _ _ ?_))
              rotate_left
              (repeat apply Exists.intro)
              refine ⟨?rel, rfl⟩
              case rel => exact ⟨i + 1, by go_num, by omega, fun j hj hm => by
                by_cases hji : j = i
                · subst hji; exact HM.out (HDE.out ▸ hm)
                · exact HNO.out j (by omega) hm, hP, hG⟩
              case measure => omega
          case neg =>
            exfalso
            obtain ⟨d, hd⟩ := least_ex HLE.out hL
            obtain ⟨j, hj, e⟩ := round_ex (l := l) (by omega) hd
            exact HNO.out j (by omega) (e ▸ hd)
end Go.Proofs.Ytminenipklgbcaa
