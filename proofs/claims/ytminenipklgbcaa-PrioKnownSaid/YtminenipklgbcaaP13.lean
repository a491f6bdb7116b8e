/- The walks of played, PrioFair. -/
import Derived.Test.YtminenipklgbcaaP12
set_option linter.unusedSimpArgs false
set_option linter.unusedVariables false
namespace Go.Proofs.Ytminenipklgbcaa
open Go.RowKit Go.Eff
attribute [local irreducible] Go.wpList
set_option maxRecDepth 100000 in
set_option maxHeartbeats 4000000 in
theorem played_any (v : Value) (l : List Cll) (w : World) (h : Arg w v l) : Calls Try.prog 12 #[v] w (Ret (.pointer (some ⟨w.heap.size, 0, none⟩)) fun w' => PB w' w.heap.size (l.foldl doF newS) ∧ Below w.heap.size w w') := by
  obtain ⟨p, cap, rfl, hmax, hc⟩ := h
  obtain ⟨n, hn'⟩ : ∃ n, l.length = n := ⟨_, rfl⟩
  rw [hn'] at hmax ⊢
  have HC := Lib.hid hc
  have HN := Lib.hid hn'
  clear hc hn'
  go_enter Try.func12, Try.ntmps12
  have F0 : Below w.heap.size w w := Below.refl _ _
  repeat (first | with_reducible apply wpList_nil | with_reducible apply seq_region | with_reducible apply wp_region_lit | with_reducible apply wp_seq | ((with_reducible apply seq_q); (focus rfl); (focus (simp [go_sem, effAt, ↓IntWalk.iteOmega, *]; (try go_ints); (first | (with_reducible exact effUpon_val) | (with_reducible exact effUpon_skip)))); (focus ((simp only [Act.put, List.setIfInBounds_toArray, List.set_cons_zero, List.set_cons_succ]; rfl)))) | ((with_reducible apply seq_s); (focus rfl); (focus ((simp only [Act.put, List.setIfInBounds_toArray, List.set_cons_zero, List.set_cons_succ]; rfl)))) | with_reducible apply wp_block | with_reducible apply wp_skip | with_reducible apply wp_exit | with_reducible apply wp_ret | ((with_reducible apply wp_cond_true); (focus (first | rfl | (simp [go_sem, *]; done)))) | ((with_reducible apply wp_cond_false); (focus (first | rfl | (simp [go_sem, *]; done)))) | (simp only [Exit.then, Exit.inBlock, ↓reduceIte, Nat.reduceEqDiff]))
  with_reducible apply seq_e (fun w' => PB w' w.heap.size newS ∧ Below w.heap.size w w')
  (focus (first | exact wanted_none rfl | exact wanted_yes rfl rfl rfl))
  (focus (simp only [effAt]; simp [go_sem]; (with_reducible exact effUpon_enter (new_any _))))
  (simp only [Act.put, List.setIfInBounds_toArray, List.set_cons_zero, List.set_cons_succ]; rfl)
  rintro x1 ⟨hP1, hF1⟩
  repeat (first | with_reducible apply wpList_nil | with_reducible apply seq_region | with_reducible apply wp_region_lit | with_reducible apply wp_seq | ((with_reducible apply seq_q); (focus rfl); (focus (simp [go_sem, effAt, ↓IntWalk.iteOmega, *]; (try go_ints); (first | (with_reducible exact effUpon_val) | (with_reducible exact effUpon_skip)))); (focus ((simp only [Act.put, List.setIfInBounds_toArray, List.set_cons_zero, List.set_cons_succ]; rfl)))) | ((with_reducible apply seq_s); (focus rfl); (focus ((simp only [Act.put, List.setIfInBounds_toArray, List.set_cons_zero, List.set_cons_succ]; rfl)))) | with_reducible apply wp_block | with_reducible apply wp_skip | with_reducible apply wp_exit | with_reducible apply wp_ret | ((with_reducible apply wp_cond_true); (focus (first | rfl | (simp [go_sem, *]; done)))) | ((with_reducible apply wp_cond_false); (focus (first | rfl | (simp [go_sem, *]; done)))) | (simp only [Exit.then, Exit.inBlock, ↓reduceIte, Nat.reduceEqDiff]))
  with_reducible apply seq_e (fun w' => (∃ z : Sh, z.h = x1.heap.size + 1 ∧ z.Ok x1.heap.size ∧ RB w' z newS) ∧ Below x1.heap.size x1 w')
  (focus (first | exact wanted_none rfl | exact wanted_yes rfl rfl rfl))
  (focus (simp only [effAt]; simp [go_sem]; (with_reducible exact effUpon_enter (rnew_any _))))
  (simp only [Act.put, List.setIfInBounds_toArray, List.set_cons_zero, List.set_cons_succ]; rfl)
  rintro x2 ⟨⟨z, hzh, hz, hR⟩, hF2⟩
  repeat (first | with_reducible apply wpList_nil | with_reducible apply seq_region | with_reducible apply wp_region_lit | with_reducible apply wp_seq | ((with_reducible apply seq_q); (focus rfl); (focus (simp [go_sem, effAt, ↓IntWalk.iteOmega, *]; (try go_ints); (first | (with_reducible exact effUpon_val) | (with_reducible exact effUpon_skip)))); (focus ((simp only [Act.put, List.setIfInBounds_toArray, List.set_cons_zero, List.set_cons_succ]; rfl)))) | ((with_reducible apply seq_s); (focus rfl); (focus ((simp only [Act.put, List.setIfInBounds_toArray, List.set_cons_zero, List.set_cons_succ]; rfl)))) | with_reducible apply wp_block | with_reducible apply wp_skip | with_reducible apply wp_exit | with_reducible apply wp_ret | ((with_reducible apply wp_cond_true); (focus (first | rfl | (simp [go_sem, *]; done)))) | ((with_reducible apply wp_cond_false); (focus (first | rfl | (simp [go_sem, *]; done)))) | (simp only [Exit.then, Exit.inBlock, ↓reduceIte, Nat.reduceEqDiff]))
  obtain ⟨g, hp, hT, e1⟩ : ∃ g, PL w.heap.size g z ∧ Two w g z newS newS x2 ∧ g = w.heap.size := by
    have a1 := Blk.lt hP1
    have a3 := hF1.size
    have := hz.h0
    have := hz.a0
    have := hz.b0
    have := hz.c0
    exact ⟨_, ⟨⟨by omega, by omega, by omega, by omega, hz.ha, hz.hb, hz.hc, hz.ab, hz.ac, hz.bc⟩, Nat.le_refl _, by omega, by omega, by omega, by omega⟩, ⟨Blk.below hP1 hF2 (Blk.lt hP1), hR, hF1.trans (hF2.mono hF1.size)⟩, rfl⟩
  rw [← e1, ← hzh]
  have hpz := Lib.hid hp
  have E1 := Lib.hid e1
  clear e1 hzh hz hR hP1 hF1 hF2 F0 hp
  go_loopg [5] n (fun q v5 wr => ∃ (i : Nat), v5 = .int .i64 (i : Int) ∧ i + q = n ∧ Two w g z ((l.take i).foldl doF newS) ((l.take i).foldl doF newS) wr)
  case atStart => exact ⟨0, rfl, by omega, hT⟩
  case round =>
    rename_i J K hJ hK
    clear hT
    obtain ⟨i, rfl, hi, hT⟩ := hrel
    by_cases hlt : i < n
    case pos =>
      obtain ⟨c, hce⟩ : ∃ c, l[i]? = some c := ⟨_, List.getElem?_eq_getElem (by rw [HN.out]; omega)⟩
      have hsn := take_snoc hce
      have HS := Lib.hid (fold_ok new_ok (l.take i))
      obtain ⟨a, ga, o, rfl, hao, hla, c0, c1, c2, c3, hk0, hk1⟩ := HC.out i c hce
      clear hce
      obtain ⟨s, hse⟩ : ∃ s, (l.take i).foldl doF newS = s := ⟨_, rfl⟩
      obtain ⟨s2, hse2⟩ : ∃ s, (l.take (i + 1)).foldl doF newS = s := ⟨_, rfl⟩
      rw [hse] at hT HS hsn
      rw [hse2] at hsn
      have HS2 := Lib.hid hse2
      have hD := fun w1 (hT : Two w g z s s w1) => does_any HS.out hpz.out c hk0 w1 hT
      rw [← hsn] at hD
      clear hse hse2 hsn
      obtain ⟨kd, d, cl, on⟩ := c
      dsimp only at c0 c1 c2 c3 hD
      clear hk0 hk1
      have hPRE : ∀ w', Below w.heap.size w w' → w'.cell? ⟨ga, o, none⟩ = some (.int .u8 (kd : Int)) ∧ w'.cell? ⟨ga, o + 1, none⟩ = some (.int .u8 (d : Int)) ∧ w'.cell? ⟨ga, o + 2, none⟩ = some (.int .u8 (cl : Int)) ∧ w'.cell? ⟨ga, o + 3, none⟩ = some (.bool on) :=
        fun w' hS => ⟨(hS.cell (p := ⟨ga, o, none⟩) hla).trans c0, (hS.cell (p := ⟨ga, o + 1, none⟩) hla).trans c1, (hS.cell (p := ⟨ga, o + 2, none⟩) hla).trans c2, (hS.cell (p := ⟨ga, o + 3, none⟩) hla).trans c3⟩
      have HP := Lib.hid hPRE
      clear hPRE c0 c1 c2 c3
      obtain ⟨c0, c1, c2, c3⟩ := HP.out _ hT.f
      have Fwr : Below wr.heap.size wr wr := Below.refl _ _
      repeat (first | with_reducible apply wpList_nil | with_reducible apply seq_region | with_reducible apply wp_region_lit | with_reducible apply wp_seq | ((with_reducible apply seq_q); (focus rfl); (focus (simp [go_sem, effAt, ↓IntWalk.iteOmega, *]; (try go_ints); (first | (with_reducible exact effUpon_val) | (with_reducible exact effUpon_skip)))); (focus ((simp only [Act.put, List.setIfInBounds_toArray, List.set_cons_zero, List.set_cons_succ]; rfl)))) | ((with_reducible apply seq_s); (focus rfl); (focus ((simp only [Act.put, List.setIfInBounds_toArray, List.set_cons_zero, List.set_cons_succ]; rfl)))) | with_reducible apply wp_block | with_reducible apply wp_skip | with_reducible apply wp_exit | with_reducible apply wp_ret | ((with_reducible apply wp_cond_true); (focus (first | rfl | (simp [go_sem, *]; done)))) | ((with_reducible apply wp_cond_false); (focus (first | rfl | (simp [go_sem, *]; done)))) | (simp only [Exit.then, Exit.inBlock, ↓reduceIte, Nat.reduceEqDiff]))
      with_reducible apply seq_e (Two w g z s2 s2)
      (focus (first | exact wanted_none rfl | exact wanted_yes rfl rfl rfl))
      (focus (simp only [effAt]; simp [go_sem]; (with_reducible exact effUpon_enter (hD _ hT))))
      (simp only [Act.put, List.setIfInBounds_toArray, List.set_cons_zero, List.set_cons_succ]; rfl)
      intro u1 hT1
      clear hT c0 c1 c2 c3 hD
      repeat (first | with_reducible apply wpList_nil | with_reducible apply seq_region | with_reducible apply wp_region_lit | with_reducible apply wp_seq | ((with_reducible apply seq_q); (focus rfl); (focus (simp [go_sem, effAt, ↓IntWalk.iteOmega, *]; (try go_ints); (first | (with_reducible exact effUpon_val) | (with_reducible exact effUpon_skip)))); (focus ((simp only [Act.put, List.setIfInBounds_toArray, List.set_cons_zero, List.set_cons_succ]; rfl)))) | ((with_reducible apply seq_s); (focus rfl); (focus ((simp only [Act.put, List.setIfInBounds_toArray, List.set_cons_zero, List.set_cons_succ]; rfl)))) | with_reducible apply wp_block | with_reducible apply wp_skip | with_reducible apply wp_exit | with_reducible apply wp_ret | ((with_reducible apply wp_cond_true); (focus (first | rfl | (simp [go_sem, *]; done)))) | ((with_reducible apply wp_cond_false); (focus (first | rfl | (simp [go_sem, *]; done)))) | (simp only [Exit.then, Exit.inBlock, ↓reduceIte, Nat.reduceEqDiff]))
      refine hK _ _ (Handed.intro (gk - 1) ?measure (hJ _ _ _ ?_))
      rotate_left
      (repeat apply Exists.intro)
      refine ⟨?rel, rfl⟩
      case rel => exact ⟨i + 1, by go_num, by omega, by rw [HS2.out]; exact hT1⟩
      case measure => omega
    case neg =>
      have hin : i = n := by omega
      rw [hin, List.take_of_length_le (by rw [HN.out]; exact Nat.le_refl _)] at hT
      clear hJ hK hi
      have HT := Lib.hid hT
      clear hT hin
      have Fwr : Below wr.heap.size wr wr := Below.refl _ _
      repeat (first | with_reducible apply wpList_nil | with_reducible apply seq_region | with_reducible apply wp_region_lit | with_reducible apply wp_seq | ((with_reducible apply seq_q); (focus rfl); (focus (simp [go_sem, effAt, ↓IntWalk.iteOmega, *]; (try go_ints); (first | (with_reducible exact effUpon_val) | (with_reducible exact effUpon_skip)))); (focus ((simp only [Act.put, List.setIfInBounds_toArray, List.set_cons_zero, List.set_cons_succ]; rfl)))) | ((with_reducible apply seq_s); (focus rfl); (focus ((simp only [Act.put, List.setIfInBounds_toArray, List.set_cons_zero, List.set_cons_succ]; rfl)))) | with_reducible apply wp_block | with_reducible apply wp_skip | with_reducible apply wp_exit | with_reducible apply wp_ret | ((with_reducible apply wp_cond_true); (focus (first | rfl | (simp [go_sem, *]; done)))) | ((with_reducible apply wp_cond_false); (focus (first | rfl | (simp [go_sem, *]; done)))) | (simp only [Exit.then, Exit.inBlock, ↓reduceIte, Nat.reduceEqDiff]))
      go_ret
      rw [E1.out]
      exact ⟨rfl, E1.out ▸ HT.out.p, HT.out.f⟩
/-- who may, among the first i -/
def marks (s : PS) (i : Nat) : List Bool := (List.range i).map fun d => decide (mayP s d)
theorem marks_snoc (s : PS) (i : Nat) : (marks s (i + 1)).map Value.bool = (marks s i).map Value.bool ++ [.bool (decide (mayP s i))] := by
  unfold marks
  rw [List.range_succ, List.map_append, List.map_append]
  rfl
theorem marks_count (s : PS) (i : Nat) : (marks s (i + 1)).count true = (marks s i).count true + if mayP s i then 1 else 0 := by
  unfold marks
  rw [List.range_succ, List.map_append, List.count_append]
  congr 1
  by_cases h : mayP s i <;> simp [h]
theorem marks_le (s : PS) (i : Nat) : (marks s i).count true ≤ i := by
  have := List.count_le_length (a := true) (l := marks s i)
  simpa [marks] using this
theorem marks_get (s : PS) (x : Nat) : (marks s 64)[x]? = some true ↔ mayP s x := by
  unfold marks
  rw [List.getElem?_map]
  by_cases h : x < 64
  · rw [List.getElem?_range h]
    simp
  · rw [List.getElem?_eq_none (by simp; omega)]
    simp
    exact fun hm => h hm.1
/-- a slice of marks, and what stands in its spare -/
def cellsM (m : List Bool) (p : List Value) : Array Value := (m.map Value.bool ++ p).toArray
theorem cellsM_get {m : List Bool} (p : List Value) {d : Nat} {b : Bool} (h : m[d]? = some b) : (cellsM m p)[d]? = some (.bool b) := by
  have hd := (List.getElem?_eq_some_iff.1 h).1
  unfold cellsM
  rw [List.getElem?_toArray, List.getElem?_append_left (by simpa using hd), List.getElem?_map, h]
  rfl
theorem cellsM_set {m : List Bool} (p : List Value) {d : Nat} (hd : d < m.length) (b : Bool) : (cellsM m p).setIfInBounds d (.bool b) = cellsM (m.set d b) p := by
  unfold cellsM
  rw [List.setIfInBounds_toArray, List.set_append_left _ _ (by simpa using hd), List.map_set]
/-- between two picks: i are done, n were to be done -/
structure Fair (s : PS) (l0 : Int) (n i R : Nat) (m : List Bool) : Prop where
  ok : s.Ok
  now : Now s l0 R
  len : m.length = 64
  cnt : m.count true + i = n
  left : ∀ x, m[x]? = some true ↔ Left s l0 R x
theorem fair_step {s : PS} {l0 : Int} {n i R : Nat} {m : List Bool} (hl : -1 ≤ l0 ∧ l0 < 64) (h : Fair s l0 n i R m) (hi : i < n) :
    ∃ d q, pickC s = some d ∧ d < 64 ∧ m[d]? = some true ∧ Fair (s.take d) l0 n (i + 1) q (m.set d false) := by
  obtain ⟨x, hx⟩ := count_ex (l := m) (by have := h.cnt; omega)
  have hL := (h.left x).1 hx
  obtain ⟨_, _, _, _, hmx⟩ := hL
  cases hc : pickC s with
  | none => exact absurd hmx (pickC_none hc x)
  | some d =>
    have hpk := pickC_some hc
    obtain ⟨q, hq1, hq2, hq3, hq4⟩ := fair_next hl h.now hpk ⟨x, (h.left x).1 hx⟩
    have hd : m[d]? = some true := (h.left d).2 ⟨q, hq1, hq2, hq3, hpk.1⟩
    refine ⟨d, q + 1, rfl, hpk.1.1, hd, take_ok h.ok hpk.1.1, now_next h.ok hl hpk.1 hq3, by simpa using h.len, ?_, fun y => ?_⟩
    · have := count_set hd
      have := h.cnt
      omega
    · rw [left_take, hq4 y, ← h.left y, List.getElem?_set]
      by_cases hyd : d = y
      · subst hyd; simp
      · simp [hyd, Ne.symm hyd]
end Go.Proofs.Ytminenipklgbcaa
