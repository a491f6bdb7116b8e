/- The walk of choosePivotOrdered[uint8]. -/
import Derived.Test.YtckjgdlceckhpaaS7
set_option linter.unusedSimpArgs false
set_option linter.unusedVariables false
namespace Go.Proofs.Ytckjgdlceckhpaa
open Go.RowKit Go.Eff
open Go.Sort (ltInt order2 median medianAdjacent choosePivot Hint)
attribute [local irreducible] Go.wpList
def hintV : Hint → Int
  | .increasing => 1
  | .decreasing => 2
  | .unknown => 0
def hintK (k : Nat) : Hint := if k = 0 then .increasing else if k = 12 then .decreasing else .unknown
theorem cp_eq {d : Array Int} {a b l q i j k p s : Nat} (hl : b - a = l) (hq : l / 4 = q) (hi : a + q = i) (hj : i + q = j) (hk : j + q = k)
    (hp : (if l ≥ 8 then (if l ≥ 50 then median ltInt d (medianAdjacent ltInt d i 0).1 (medianAdjacent ltInt d j (medianAdjacent ltInt d i 0).2).1 (medianAdjacent ltInt d k (medianAdjacent ltInt d j (medianAdjacent ltInt d i 0).2).2).1 (medianAdjacent ltInt d k (medianAdjacent ltInt d j (medianAdjacent ltInt d i 0).2).2).2 else median ltInt d i j k 0) else (j, 0)) = (p, s)) :
    choosePivot ltInt d a b = (p, hintK s) := by
  have e1 : a + q * 1 = i := by omega
  have e2 : a + q * 2 = j := by omega
  have e3 : a + q * 3 = k := by omega
  unfold choosePivot
  simp only [hl, hq, e1, e2, e3, hp]
  rfl
/-- the call's premises, of whatever length the row is -/
def CP (n g cap a b : Nat) (pad : List Value) (d : Array Int) (w : World) : Prop :=
  ∃ p s, choosePivot ltInt d a b = (p, hintK s) ∧ p < n ∧ Calls Try.prog 30 #[.slice (some ⟨g, 0, none⟩) n cap, .int .i64 a, .int .i64 b] w (Ret (.tuple #[.int .i64 (p : Int), .int .i64 (hintV (hintK s))]) (Below w.heap.size w))
set_option maxRecDepth 100000 in
set_option maxHeartbeats 4000000 in
theorem cp_small {g cap a b n : Nat} {pad : List Value} {d : Array Int} {w : World} (hn : d.size = n) (hab : a < b) (hb : b ≤ n) (hsz : n ≤ 1000) (hB_d : SB w g pad d) (h8 : ¬ 8 ≤ b - a) : CP n g cap a b pad d w := by
  obtain ⟨l, hl⟩ : ∃ l, b - a = l := ⟨_, rfl⟩
  obtain ⟨q, hq⟩ : ∃ q, l / 4 = q := ⟨_, rfl⟩
  obtain ⟨i, hi⟩ : ∃ i, a + q = i := ⟨_, rfl⟩
  obtain ⟨j, hj⟩ : ∃ j, i + q = j := ⟨_, rfl⟩
  obtain ⟨k, hk⟩ : ∃ k, j + q = k := ⟨_, rfl⟩
  have hlI : (b : Int) - (a : Int) = (l : Int) := by omega
  have hqI : Int.tdiv (l : Int) 4 = (q : Int) := by rw [← hq]; rfl
  have hiI : (a : Int) + (q : Int) = (i : Int) := by omega
  have hjI : (a : Int) + (q : Int) * 2 = (j : Int) := by omega
  have hkI : (a : Int) + (q : Int) * 3 = (k : Int) := by omega
  have b1 : (l : Int) ≤ 1000 := by omega
  have b2 : (q : Int) ≤ 250 := by omega
  have b3 : (a : Int) ≤ 1000 := by omega
  have b4 : (k : Int) ≤ 1000 := by omega
  have b5 : (j : Int) ≤ 1000 := by omega
  have b6 : (i : Int) ≤ 1000 := by omega
  have hgw : g < w.heap.size := hB_d.lt
  rw [hl] at h8
  have h8' : ¬ 8 ≤ (l : Int) := by omega
  refine ⟨j, 0, cp_eq hl hq hi hj hk (by rw [if_neg h8]), by omega, ?_⟩
  clear hl hq hi hj hk
  go_enter Try.func30, Try.ntmps30
  have F0 : Below w.heap.size w w := Below.refl _ _
  have hc_d := hB_d.cell
  repeat (first | with_reducible apply wpList_nil | with_reducible apply seq_region | with_reducible apply wp_region_lit | with_reducible apply wp_seq | ((with_reducible apply seq_q); (focus rfl); (focus (simp [go_sem, effAt, ↓IntWalk.iteOmega, *]; (try go_ints); (first | (with_reducible exact effUpon_val) | (with_reducible exact effUpon_skip)))); (focus ((simp only [Act.put, List.setIfInBounds_toArray, List.set_cons_zero, List.set_cons_succ]; rfl)))) | ((with_reducible apply seq_s); (focus rfl); (focus ((simp only [Act.put, List.setIfInBounds_toArray, List.set_cons_zero, List.set_cons_succ]; rfl)))) | with_reducible apply wp_block | with_reducible apply wp_skip | with_reducible apply wp_exit | with_reducible apply wp_ret | ((with_reducible apply wp_cond_true); (focus (first | rfl | (simp [go_sem, *]; done)))) | ((with_reducible apply wp_cond_false); (focus (first | rfl | (simp [go_sem, *]; done)))) | (simp only [Exit.then, Exit.inBlock, ↓reduceIte, Nat.reduceEqDiff]))
  have lt_d_s := hB_d.lt
  ((with_reducible apply seq_box); (focus rfl); (focus (simp [go_sem, effAt]; exact ⟨rfl, rfl⟩)); (focus ((simp only [Act.put, List.setIfInBounds_toArray, List.set_cons_zero, List.set_cons_succ]; rfl))))
  intro w1 hB_s hs
  have Fw1 := F0.trans (hs.mono F0.size)
  replace hB_d := hB_d.below hs hB_d.lt
  clear hs F0
  clear hc_d; have hc_d := hB_d.cell
  have hc_s := hB_s.cell
  repeat (first | with_reducible apply wpList_nil | with_reducible apply seq_region | with_reducible apply wp_region_lit | with_reducible apply wp_seq | ((with_reducible apply seq_q); (focus rfl); (focus (simp [go_sem, effAt, ↓IntWalk.iteOmega, *]; (try go_ints); (first | (with_reducible exact effUpon_val) | (with_reducible exact effUpon_skip)))); (focus ((simp only [Act.put, List.setIfInBounds_toArray, List.set_cons_zero, List.set_cons_succ]; rfl)))) | ((with_reducible apply seq_s); (focus rfl); (focus ((simp only [Act.put, List.setIfInBounds_toArray, List.set_cons_zero, List.set_cons_succ]; rfl)))) | with_reducible apply wp_block | with_reducible apply wp_skip | with_reducible apply wp_exit | with_reducible apply wp_ret | ((with_reducible apply wp_cond_true); (focus (first | rfl | (simp [go_sem, *]; done)))) | ((with_reducible apply wp_cond_false); (focus (first | rfl | (simp [go_sem, *]; done)))) | (simp only [Exit.then, Exit.inBlock, ↓reduceIte, Nat.reduceEqDiff]))
  refine bodyPost_ret (v := .tuple #[.int .i64 (j : Int), .int .i64 1]) (by simp [results, Try.results30, go_sem, *]) rfl ⟨rfl, by assumption⟩
set_option maxRecDepth 100000 in
set_option maxHeartbeats 4000000 in
theorem cp_mid {g cap a b n : Nat} {pad : List Value} {d : Array Int} {w : World} (hn : d.size = n) (hab : a < b) (hb : b ≤ n) (hsz : n ≤ 1000) (hB_d : SB w g pad d) (h8 : 8 ≤ b - a) (h50 : ¬ 50 ≤ b - a) : CP n g cap a b pad d w := by
  obtain ⟨l, hl⟩ : ∃ l, b - a = l := ⟨_, rfl⟩
  obtain ⟨q, hq⟩ : ∃ q, l / 4 = q := ⟨_, rfl⟩
  obtain ⟨i, hi⟩ : ∃ i, a + q = i := ⟨_, rfl⟩
  obtain ⟨j, hj⟩ : ∃ j, i + q = j := ⟨_, rfl⟩
  obtain ⟨k, hk⟩ : ∃ k, j + q = k := ⟨_, rfl⟩
  have hlI : (b : Int) - (a : Int) = (l : Int) := by omega
  have hqI : Int.tdiv (l : Int) 4 = (q : Int) := by rw [← hq]; rfl
  have hiI : (a : Int) + (q : Int) = (i : Int) := by omega
  have hjI : (a : Int) + (q : Int) * 2 = (j : Int) := by omega
  have hkI : (a : Int) + (q : Int) * 3 = (k : Int) := by omega
  have b1 : (l : Int) ≤ 1000 := by omega
  have b2 : (q : Int) ≤ 250 := by omega
  have b3 : (a : Int) ≤ 1000 := by omega
  have b4 : (k : Int) ≤ 1000 := by omega
  have b5 : (j : Int) ≤ 1000 := by omega
  have b6 : (i : Int) ≤ 1000 := by omega
  have hgw : g < w.heap.size := hB_d.lt
  rw [hl] at h8 h50
  have h8' : 8 ≤ (l : Int) := by omega
  have h50' : ¬ 50 ≤ (l : Int) := by omega
  obtain ⟨p4, s4, e4, c4, g4, o4⟩ := median_any (g := g) (cap := cap) (s := w.heap.size) (pad := pad) (a := i) (b := j) (c := k) (k := 0) hn (by omega) (by omega) (by omega) hsz (by omega)
  rw [show ((0 : Nat) : Int) = 0 from rfl] at o4
  refine ⟨p4, s4, cp_eq hl hq hi hj hk (by rw [if_pos h8, if_neg h50]; exact e4), c4, ?_⟩
  have b7 : (s4 : Int) ≤ 100 := by omega
  have b8 : (p4 : Int) ≤ 1000 := by omega
  obtain ⟨sv, hsv⟩ : ∃ sv, s4 = sv := ⟨_, rfl⟩
  obtain ⟨pv, hpv⟩ : ∃ pv, p4 = pv := ⟨_, rfl⟩
  rw [hsv] at o4 b7 ⊢
  rw [hpv] at o4 b8 ⊢
  clear e4 c4 g4 hsv hpv
  clear hl hq hi hj hk
  by_cases hs0 : sv = 0
  case pos =>
    have e0 : ((sv : Int) == 0) = true := by simp [hs0]
    have eh : hintV (hintK sv) = 1 := by rw [hs0]; rfl
    rw [eh]
    clear hs0 eh
    go_enter Try.func30, Try.ntmps30
    have F0 : Below w.heap.size w w := Below.refl _ _
    have hc_d := hB_d.cell
    repeat (first | with_reducible apply wpList_nil | with_reducible apply seq_region | with_reducible apply wp_region_lit | with_reducible apply wp_seq | ((with_reducible apply seq_q); (focus rfl); (focus (simp [go_sem, effAt, ↓IntWalk.iteOmega, *]; (try go_ints); (first | (with_reducible exact effUpon_val) | (with_reducible exact effUpon_skip)))); (focus ((simp only [Act.put, List.setIfInBounds_toArray, List.set_cons_zero, List.set_cons_succ]; rfl)))) | ((with_reducible apply seq_s); (focus rfl); (focus ((simp only [Act.put, List.setIfInBounds_toArray, List.set_cons_zero, List.set_cons_succ]; rfl)))) | with_reducible apply wp_block | with_reducible apply wp_skip | with_reducible apply wp_exit | with_reducible apply wp_ret | ((with_reducible apply wp_cond_true); (focus (first | rfl | (simp [go_sem, *]; done)))) | ((with_reducible apply wp_cond_false); (focus (first | rfl | (simp [go_sem, *]; done)))) | (simp only [Exit.then, Exit.inBlock, ↓reduceIte, Nat.reduceEqDiff]))
    have lt_d_s := hB_d.lt
    ((with_reducible apply seq_box); (focus rfl); (focus (simp [go_sem, effAt]; exact ⟨rfl, rfl⟩)); (focus ((simp only [Act.put, List.setIfInBounds_toArray, List.set_cons_zero, List.set_cons_succ]; rfl))))
    intro w1 hB_s hs
    have Fw1 := F0.trans (hs.mono F0.size)
    replace hB_d := hB_d.below hs hB_d.lt
    clear hs F0
    clear hc_d; have hc_d := hB_d.cell
    have hc_s := hB_s.cell
    repeat (first | with_reducible apply wpList_nil | with_reducible apply seq_region | with_reducible apply wp_region_lit | with_reducible apply wp_seq | ((with_reducible apply seq_q); (focus rfl); (focus (simp [go_sem, effAt, ↓IntWalk.iteOmega, *]; (try go_ints); (first | (with_reducible exact effUpon_val) | (with_reducible exact effUpon_skip)))); (focus ((simp only [Act.put, List.setIfInBounds_toArray, List.set_cons_zero, List.set_cons_succ]; rfl)))) | ((with_reducible apply seq_s); (focus rfl); (focus ((simp only [Act.put, List.setIfInBounds_toArray, List.set_cons_zero, List.set_cons_succ]; rfl)))) | with_reducible apply wp_block | with_reducible apply wp_skip | with_reducible apply wp_exit | with_reducible apply wp_ret | ((with_reducible apply wp_cond_true); (focus (first | rfl | (simp [go_sem, *]; done)))) | ((with_reducible apply wp_cond_false); (focus (first | rfl | (simp [go_sem, *]; done)))) | (simp only [Exit.then, Exit.inBlock, ↓reduceIte, Nat.reduceEqDiff]))
    ((with_reducible apply seq_e (fun w' => Blk w' _ _ _ ∧ w1.grownBy w' (some _))); (focus rfl); (focus (simp only [effAt]; simp [go_sem]; (with_reducible exact effUpon_enter (o4 _ hB_d hB_s)))); (focus ((simp only [Act.put, List.setIfInBounds_toArray, List.set_cons_zero, List.set_cons_succ]; rfl))))
    clear hc_s hB_s
    intro w2 hs
    obtain ⟨hB_s, hs⟩ := hs
    have Fw2 := Fw1.grown hs Fw1.size (by intro k hk; injection hk with hk; subst hk; first | exact Nat.le_refl _ | exact Fw1.size | omega)
    replace hB_d := hB_d.grown hs (by intro hk; injection hk with hk; have := hB_d.lt; have := hB_s.lt; omega)
    clear hs Fw1
    clear hc_d; have hc_d := hB_d.cell
    have hc_s := hB_s.cell
    repeat (first | with_reducible apply wpList_nil | with_reducible apply seq_region | with_reducible apply wp_region_lit | with_reducible apply wp_seq | ((with_reducible apply seq_q); (focus rfl); (focus (simp [go_sem, effAt, ↓IntWalk.iteOmega, *]; (try go_ints); (first | (with_reducible exact effUpon_val) | (with_reducible exact effUpon_skip)))); (focus ((simp only [Act.put, List.setIfInBounds_toArray, List.set_cons_zero, List.set_cons_succ]; rfl)))) | ((with_reducible apply seq_s); (focus rfl); (focus ((simp only [Act.put, List.setIfInBounds_toArray, List.set_cons_zero, List.set_cons_succ]; rfl)))) | with_reducible apply wp_block | with_reducible apply wp_skip | with_reducible apply wp_exit | with_reducible apply wp_ret | ((with_reducible apply wp_cond_true); (focus (first | rfl | (simp [go_sem, *]; done)))) | ((with_reducible apply wp_cond_false); (focus (first | rfl | (simp [go_sem, *]; done)))) | (simp only [Exit.then, Exit.inBlock, ↓reduceIte, Nat.reduceEqDiff]))
    refine bodyPost_ret (v := .tuple #[.int .i64 (pv : Int), .int .i64 1]) (by simp [results, Try.results30, go_sem, *]) rfl ⟨rfl, by assumption⟩
  case neg =>
    have e0 : ((sv : Int) == 0) = false := by simp; omega
    by_cases hs1 : sv = 12
    case pos =>
      have e1 : ((sv : Int) == 12) = true := by simp [hs1]
      have eh : hintV (hintK sv) = 2 := by rw [hs1]; rfl
      rw [eh]
      clear hs0 hs1 eh
      go_enter Try.func30, Try.ntmps30
      have F0 : Below w.heap.size w w := Below.refl _ _
      have hc_d := hB_d.cell
      repeat (first | with_reducible apply wpList_nil | with_reducible apply seq_region | with_reducible apply wp_region_lit | with_reducible apply wp_seq | ((with_reducible apply seq_q); (focus rfl); (focus (simp [go_sem, effAt, ↓IntWalk.iteOmega, *]; (try go_ints); (first | (with_reducible exact effUpon_val) | (with_reducible exact effUpon_skip)))); (focus ((simp only [Act.put, List.setIfInBounds_toArray, List.set_cons_zero, List.set_cons_succ]; rfl)))) | ((with_reducible apply seq_s); (focus rfl); (focus ((simp only [Act.put, List.setIfInBounds_toArray, List.set_cons_zero, List.set_cons_succ]; rfl)))) | with_reducible apply wp_block | with_reducible apply wp_skip | with_reducible apply wp_exit | with_reducible apply wp_ret | ((with_reducible apply wp_cond_true); (focus (first | rfl | (simp [go_sem, *]; done)))) | ((with_reducible apply wp_cond_false); (focus (first | rfl | (simp [go_sem, *]; done)))) | (simp only [Exit.then, Exit.inBlock, ↓reduceIte, Nat.reduceEqDiff]))
      have lt_d_s := hB_d.lt
      ((with_reducible apply seq_box); (focus rfl); (focus (simp [go_sem, effAt]; exact ⟨rfl, rfl⟩)); (focus ((simp only [Act.put, List.setIfInBounds_toArray, List.set_cons_zero, List.set_cons_succ]; rfl))))
      intro w3 hB_s hs
      have Fw3 := F0.trans (hs.mono F0.size)
      replace hB_d := hB_d.below hs hB_d.lt
      clear hs F0
      clear hc_d; have hc_d := hB_d.cell
      have hc_s := hB_s.cell
      repeat (first | with_reducible apply wpList_nil | with_reducible apply seq_region | with_reducible apply wp_region_lit | with_reducible apply wp_seq | ((with_reducible apply seq_q); (focus rfl); (focus (simp [go_sem, effAt, ↓IntWalk.iteOmega, *]; (try go_ints); (first | (with_reducible exact effUpon_val) | (with_reducible exact effUpon_skip)))); (focus ((simp only [Act.put, List.setIfInBounds_toArray, List.set_cons_zero, List.set_cons_succ]; rfl)))) | ((with_reducible apply seq_s); (focus rfl); (focus ((simp only [Act.put, List.setIfInBounds_toArray, List.set_cons_zero, List.set_cons_succ]; rfl)))) | with_reducible apply wp_block | with_reducible apply wp_skip | with_reducible apply wp_exit | with_reducible apply wp_ret | ((with_reducible apply wp_cond_true); (focus (first | rfl | (simp [go_sem, *]; done)))) | ((with_reducible apply wp_cond_false); (focus (first | rfl | (simp [go_sem, *]; done)))) | (simp only [Exit.then, Exit.inBlock, ↓reduceIte, Nat.reduceEqDiff]))
      ((with_reducible apply seq_e (fun w' => Blk w' _ _ _ ∧ w3.grownBy w' (some _))); (focus rfl); (focus (simp only [effAt]; simp [go_sem]; (with_reducible exact effUpon_enter (o4 _ hB_d hB_s)))); (focus ((simp only [Act.put, List.setIfInBounds_toArray, List.set_cons_zero, List.set_cons_succ]; rfl))))
      clear hc_s hB_s
      intro w4 hs
      obtain ⟨hB_s, hs⟩ := hs
      have Fw4 := Fw3.grown hs Fw3.size (by intro k hk; injection hk with hk; subst hk; first | exact Nat.le_refl _ | exact Fw3.size | omega)
      replace hB_d := hB_d.grown hs (by intro hk; injection hk with hk; have := hB_d.lt; have := hB_s.lt; omega)
      clear hs Fw3
      clear hc_d; have hc_d := hB_d.cell
      have hc_s := hB_s.cell
      repeat (first | with_reducible apply wpList_nil | with_reducible apply seq_region | with_reducible apply wp_region_lit | with_reducible apply wp_seq | ((with_reducible apply seq_q); (focus rfl); (focus (simp [go_sem, effAt, ↓IntWalk.iteOmega, *]; (try go_ints); (first | (with_reducible exact effUpon_val) | (with_reducible exact effUpon_skip)))); (focus ((simp only [Act.put, List.setIfInBounds_toArray, List.set_cons_zero, List.set_cons_succ]; rfl)))) | ((with_reducible apply seq_s); (focus rfl); (focus ((simp only [Act.put, List.setIfInBounds_toArray, List.set_cons_zero, List.set_cons_succ]; rfl)))) | with_reducible apply wp_block | with_reducible apply wp_skip | with_reducible apply wp_exit | with_reducible apply wp_ret | ((with_reducible apply wp_cond_true); (focus (first | rfl | (simp [go_sem, *]; done)))) | ((with_reducible apply wp_cond_false); (focus (first | rfl | (simp [go_sem, *]; done)))) | (simp only [Exit.then, Exit.inBlock, ↓reduceIte, Nat.reduceEqDiff]))
      refine bodyPost_ret (v := .tuple #[.int .i64 (pv : Int), .int .i64 2]) (by simp [results, Try.results30, go_sem, *]) rfl ⟨rfl, by assumption⟩
    case neg =>
      have e1 : ((sv : Int) == 12) = false := by simp; omega
      have eh : hintV (hintK sv) = 0 := by unfold hintK; rw [if_neg hs0, if_neg hs1]; rfl
      rw [eh]
      clear hs0 hs1 eh
      go_enter Try.func30, Try.ntmps30
      have F0 : Below w.heap.size w w := Below.refl _ _
      have hc_d := hB_d.cell
      repeat (first | with_reducible apply wpList_nil | with_reducible apply seq_region | with_reducible apply wp_region_lit | with_reducible apply wp_seq | ((with_reducible apply seq_q); (focus rfl); (focus (simp [go_sem, effAt, ↓IntWalk.iteOmega, *]; (try go_ints); (first | (with_reducible exact effUpon_val) | (with_reducible exact effUpon_skip)))); (focus ((simp only [Act.put, List.setIfInBounds_toArray, List.set_cons_zero, List.set_cons_succ]; rfl)))) | ((with_reducible apply seq_s); (focus rfl); (focus ((simp only [Act.put, List.setIfInBounds_toArray, List.set_cons_zero, List.set_cons_succ]; rfl)))) | with_reducible apply wp_block | with_reducible apply wp_skip | with_reducible apply wp_exit | with_reducible apply wp_ret | ((with_reducible apply wp_cond_true); (focus (first | rfl | (simp [go_sem, *]; done)))) | ((with_reducible apply wp_cond_false); (focus (first | rfl | (simp [go_sem, *]; done)))) | (simp only [Exit.then, Exit.inBlock, ↓reduceIte, Nat.reduceEqDiff]))
      have lt_d_s := hB_d.lt
      ((with_reducible apply seq_box); (focus rfl); (focus (simp [go_sem, effAt]; exact ⟨rfl, rfl⟩)); (focus ((simp only [Act.put, List.setIfInBounds_toArray, List.set_cons_zero, List.set_cons_succ]; rfl))))
      intro w5 hB_s hs
      have Fw5 := F0.trans (hs.mono F0.size)
      replace hB_d := hB_d.below hs hB_d.lt
      clear hs F0
      clear hc_d; have hc_d := hB_d.cell
      have hc_s := hB_s.cell
      repeat (first | with_reducible apply wpList_nil | with_reducible apply seq_region | with_reducible apply wp_region_lit | with_reducible apply wp_seq | ((with_reducible apply seq_q); (focus rfl); (focus (simp [go_sem, effAt, ↓IntWalk.iteOmega, *]; (try go_ints); (first | (with_reducible exact effUpon_val) | (with_reducible exact effUpon_skip)))); (focus ((simp only [Act.put, List.setIfInBounds_toArray, List.set_cons_zero, List.set_cons_succ]; rfl)))) | ((with_reducible apply seq_s); (focus rfl); (focus ((simp only [Act.put, List.setIfInBounds_toArray, List.set_cons_zero, List.set_cons_succ]; rfl)))) | with_reducible apply wp_block | with_reducible apply wp_skip | with_reducible apply wp_exit | with_reducible apply wp_ret | ((with_reducible apply wp_cond_true); (focus (first | rfl | (simp [go_sem, *]; done)))) | ((with_reducible apply wp_cond_false); (focus (first | rfl | (simp [go_sem, *]; done)))) | (simp only [Exit.then, Exit.inBlock, ↓reduceIte, Nat.reduceEqDiff]))
      ((with_reducible apply seq_e (fun w' => Blk w' _ _ _ ∧ w5.grownBy w' (some _))); (focus rfl); (focus (simp only [effAt]; simp [go_sem]; (with_reducible exact effUpon_enter (o4 _ hB_d hB_s)))); (focus ((simp only [Act.put, List.setIfInBounds_toArray, List.set_cons_zero, List.set_cons_succ]; rfl))))
      clear hc_s hB_s
      intro w6 hs
      obtain ⟨hB_s, hs⟩ := hs
      have Fw6 := Fw5.grown hs Fw5.size (by intro k hk; injection hk with hk; subst hk; first | exact Nat.le_refl _ | exact Fw5.size | omega)
      replace hB_d := hB_d.grown hs (by intro hk; injection hk with hk; have := hB_d.lt; have := hB_s.lt; omega)
      clear hs Fw5
      clear hc_d; have hc_d := hB_d.cell
      have hc_s := hB_s.cell
      repeat (first | with_reducible apply wpList_nil | with_reducible apply seq_region | with_reducible apply wp_region_lit | with_reducible apply wp_seq | ((with_reducible apply seq_q); (focus rfl); (focus (simp [go_sem, effAt, ↓IntWalk.iteOmega, *]; (try go_ints); (first | (with_reducible exact effUpon_val) | (with_reducible exact effUpon_skip)))); (focus ((simp only [Act.put, List.setIfInBounds_toArray, List.set_cons_zero, List.set_cons_succ]; rfl)))) | ((with_reducible apply seq_s); (focus rfl); (focus ((simp only [Act.put, List.setIfInBounds_toArray, List.set_cons_zero, List.set_cons_succ]; rfl)))) | with_reducible apply wp_block | with_reducible apply wp_skip | with_reducible apply wp_exit | with_reducible apply wp_ret | ((with_reducible apply wp_cond_true); (focus (first | rfl | (simp [go_sem, *]; done)))) | ((with_reducible apply wp_cond_false); (focus (first | rfl | (simp [go_sem, *]; done)))) | (simp only [Exit.then, Exit.inBlock, ↓reduceIte, Nat.reduceEqDiff]))
      refine bodyPost_ret (v := .tuple #[.int .i64 (pv : Int), .int .i64 0]) (by simp [results, Try.results30, go_sem, *]) rfl ⟨rfl, by assumption⟩
set_option maxRecDepth 100000 in
set_option maxHeartbeats 4000000 in
theorem cp_big {g cap a b n : Nat} {pad : List Value} {d : Array Int} {w : World} (hn : d.size = n) (hab : a < b) (hb : b ≤ n) (hsz : n ≤ 1000) (hB_d : SB w g pad d) (h50 : 50 ≤ b - a) : CP n g cap a b pad d w := by
  obtain ⟨l, hl⟩ : ∃ l, b - a = l := ⟨_, rfl⟩
  obtain ⟨q, hq⟩ : ∃ q, l / 4 = q := ⟨_, rfl⟩
  obtain ⟨i, hi⟩ : ∃ i, a + q = i := ⟨_, rfl⟩
  obtain ⟨j, hj⟩ : ∃ j, i + q = j := ⟨_, rfl⟩
  obtain ⟨k, hk⟩ : ∃ k, j + q = k := ⟨_, rfl⟩
  have hlI : (b : Int) - (a : Int) = (l : Int) := by omega
  have hqI : Int.tdiv (l : Int) 4 = (q : Int) := by rw [← hq]; rfl
  have hiI : (a : Int) + (q : Int) = (i : Int) := by omega
  have hjI : (a : Int) + (q : Int) * 2 = (j : Int) := by omega
  have hkI : (a : Int) + (q : Int) * 3 = (k : Int) := by omega
  have b1 : (l : Int) ≤ 1000 := by omega
  have b2 : (q : Int) ≤ 250 := by omega
  have b3 : (a : Int) ≤ 1000 := by omega
  have b4 : (k : Int) ≤ 1000 := by omega
  have b5 : (j : Int) ≤ 1000 := by omega
  have b6 : (i : Int) ≤ 1000 := by omega
  have hgw : g < w.heap.size := hB_d.lt
  have h8 : 8 ≤ b - a := by omega
  rw [hl] at h8 h50
  have h8' : 8 ≤ (l : Int) := by omega
  have h50' : 50 ≤ (l : Int) := by omega
  obtain ⟨p1, s1, e1, c1, g1, o1⟩ := medadj_any (g := g) (cap := cap) (s := w.heap.size) (pad := pad) (a := i) (k := 0) hn (by omega) (by omega) hsz (by omega)
  obtain ⟨p2, s2, e2, c2, g2, o2⟩ := medadj_any (g := g) (cap := cap) (s := w.heap.size) (pad := pad) (a := j) (k := s1) hn (by omega) (by omega) hsz (by omega)
  obtain ⟨p3, s3, e3, c3, g3, o3⟩ := medadj_any (g := g) (cap := cap) (s := w.heap.size) (pad := pad) (a := k) (k := s2) hn (by omega) (by omega) hsz (by omega)
  obtain ⟨p4, s4, e4, c4, g4, o4⟩ := median_any (g := g) (cap := cap) (s := w.heap.size) (pad := pad) (a := p1) (b := p2) (c := p3) (k := s3) hn c1 c2 c3 hsz (by omega)
  rw [show ((0 : Nat) : Int) = 0 from rfl] at o1
  refine ⟨p4, s4, cp_eq hl hq hi hj hk (by rw [if_pos h8, if_pos h50, e1]; dsimp only; rw [e2]; dsimp only; rw [e3]; exact e4), c4, ?_⟩
  have b7 : (s4 : Int) ≤ 100 := by omega
  have b8 : (p4 : Int) ≤ 1000 := by omega
  obtain ⟨sv, hsv⟩ : ∃ sv, s4 = sv := ⟨_, rfl⟩
  obtain ⟨pv, hpv⟩ : ∃ pv, p4 = pv := ⟨_, rfl⟩
  rw [hsv] at o4 b7 ⊢
  rw [hpv] at o4 b8 ⊢
  clear e1 e2 e3 e4 c1 c2 c3 c4 g1 g2 g3 g4 hsv hpv
  clear hl hq hi hj hk
  by_cases hs0 : sv = 0
  case pos =>
    have e0 : ((sv : Int) == 0) = true := by simp [hs0]
    have eh : hintV (hintK sv) = 1 := by rw [hs0]; rfl
    rw [eh]
    clear hs0 eh
    go_enter Try.func30, Try.ntmps30
    have F0 : Below w.heap.size w w := Below.refl _ _
    have hc_d := hB_d.cell
    repeat (first | with_reducible apply wpList_nil | with_reducible apply seq_region | with_reducible apply wp_region_lit | with_reducible apply wp_seq | ((with_reducible apply seq_q); (focus rfl); (focus (simp [go_sem, effAt, ↓IntWalk.iteOmega, *]; (try go_ints); (first | (with_reducible exact effUpon_val) | (with_reducible exact effUpon_skip)))); (focus ((simp only [Act.put, List.setIfInBounds_toArray, List.set_cons_zero, List.set_cons_succ]; rfl)))) | ((with_reducible apply seq_s); (focus rfl); (focus ((simp only [Act.put, List.setIfInBounds_toArray, List.set_cons_zero, List.set_cons_succ]; rfl)))) | with_reducible apply wp_block | with_reducible apply wp_skip | with_reducible apply wp_exit | with_reducible apply wp_ret | ((with_reducible apply wp_cond_true); (focus (first | rfl | (simp [go_sem, *]; done)))) | ((with_reducible apply wp_cond_false); (focus (first | rfl | (simp [go_sem, *]; done)))) | (simp only [Exit.then, Exit.inBlock, ↓reduceIte, Nat.reduceEqDiff]))
    have lt_d_s := hB_d.lt
    ((with_reducible apply seq_box); (focus rfl); (focus (simp [go_sem, effAt]; exact ⟨rfl, rfl⟩)); (focus ((simp only [Act.put, List.setIfInBounds_toArray, List.set_cons_zero, List.set_cons_succ]; rfl))))
    intro w1 hB_s hs
    have Fw1 := F0.trans (hs.mono F0.size)
    replace hB_d := hB_d.below hs hB_d.lt
    clear hs F0
    clear hc_d; have hc_d := hB_d.cell
    have hc_s := hB_s.cell
    repeat (first | with_reducible apply wpList_nil | with_reducible apply seq_region | with_reducible apply wp_region_lit | with_reducible apply wp_seq | ((with_reducible apply seq_q); (focus rfl); (focus (simp [go_sem, effAt, ↓IntWalk.iteOmega, *]; (try go_ints); (first | (with_reducible exact effUpon_val) | (with_reducible exact effUpon_skip)))); (focus ((simp only [Act.put, List.setIfInBounds_toArray, List.set_cons_zero, List.set_cons_succ]; rfl)))) | ((with_reducible apply seq_s); (focus rfl); (focus ((simp only [Act.put, List.setIfInBounds_toArray, List.set_cons_zero, List.set_cons_succ]; rfl)))) | with_reducible apply wp_block | with_reducible apply wp_skip | with_reducible apply wp_exit | with_reducible apply wp_ret | ((with_reducible apply wp_cond_true); (focus (first | rfl | (simp [go_sem, *]; done)))) | ((with_reducible apply wp_cond_false); (focus (first | rfl | (simp [go_sem, *]; done)))) | (simp only [Exit.then, Exit.inBlock, ↓reduceIte, Nat.reduceEqDiff]))
    ((with_reducible apply seq_e (fun w' => Blk w' _ _ _ ∧ w1.grownBy w' (some _))); (focus rfl); (focus (simp only [effAt]; simp [go_sem]; (with_reducible exact effUpon_enter (o1 _ hB_d hB_s)))); (focus ((simp only [Act.put, List.setIfInBounds_toArray, List.set_cons_zero, List.set_cons_succ]; rfl))))
    clear hc_s hB_s
    intro w2 hs
    obtain ⟨hB_s, hs⟩ := hs
    have Fw2 := Fw1.grown hs Fw1.size (by intro k hk; injection hk with hk; subst hk; first | exact Nat.le_refl _ | exact Fw1.size | omega)
    replace hB_d := hB_d.grown hs (by intro hk; injection hk with hk; have := hB_d.lt; have := hB_s.lt; omega)
    clear hs Fw1
    clear hc_d; have hc_d := hB_d.cell
    have hc_s := hB_s.cell
    repeat (first | with_reducible apply wpList_nil | with_reducible apply seq_region | with_reducible apply wp_region_lit | with_reducible apply wp_seq | ((with_reducible apply seq_q); (focus rfl); (focus (simp [go_sem, effAt, ↓IntWalk.iteOmega, *]; (try go_ints); (first | (with_reducible exact effUpon_val) | (with_reducible exact effUpon_skip)))); (focus ((simp only [Act.put, List.setIfInBounds_toArray, List.set_cons_zero, List.set_cons_succ]; rfl)))) | ((with_reducible apply seq_s); (focus rfl); (focus ((simp only [Act.put, List.setIfInBounds_toArray, List.set_cons_zero, List.set_cons_succ]; rfl)))) | with_reducible apply wp_block | with_reducible apply wp_skip | with_reducible apply wp_exit | with_reducible apply wp_ret | ((with_reducible apply wp_cond_true); (focus (first | rfl | (simp [go_sem, *]; done)))) | ((with_reducible apply wp_cond_false); (focus (first | rfl | (simp [go_sem, *]; done)))) | (simp only [Exit.then, Exit.inBlock, ↓reduceIte, Nat.reduceEqDiff]))
    ((with_reducible apply seq_e (fun w' => Blk w' _ _ _ ∧ w2.grownBy w' (some _))); (focus rfl); (focus (simp only [effAt]; simp [go_sem]; (with_reducible exact effUpon_enter (o2 _ hB_d hB_s)))); (focus ((simp only [Act.put, List.setIfInBounds_toArray, List.set_cons_zero, List.set_cons_succ]; rfl))))
    clear hc_s hB_s
    intro w3 hs
    obtain ⟨hB_s, hs⟩ := hs
    have Fw3 := Fw2.grown hs Fw2.size (by intro k hk; injection hk with hk; subst hk; first | exact Nat.le_refl _ | exact Fw2.size | omega)
    replace hB_d := hB_d.grown hs (by intro hk; injection hk with hk; have := hB_d.lt; have := hB_s.lt; omega)
    clear hs Fw2
    clear hc_d; have hc_d := hB_d.cell
    have hc_s := hB_s.cell
    repeat (first | with_reducible apply wpList_nil | with_reducible apply seq_region | with_reducible apply wp_region_lit | with_reducible apply wp_seq | ((with_reducible apply seq_q); (focus rfl); (focus (simp [go_sem, effAt, ↓IntWalk.iteOmega, *]; (try go_ints); (first | (with_reducible exact effUpon_val) | (with_reducible exact effUpon_skip)))); (focus ((simp only [Act.put, List.setIfInBounds_toArray, List.set_cons_zero, List.set_cons_succ]; rfl)))) | ((with_reducible apply seq_s); (focus rfl); (focus ((simp only [Act.put, List.setIfInBounds_toArray, List.set_cons_zero, List.set_cons_succ]; rfl)))) | with_reducible apply wp_block | with_reducible apply wp_skip | with_reducible apply wp_exit | with_reducible apply wp_ret | ((with_reducible apply wp_cond_true); (focus (first | rfl | (simp [go_sem, *]; done)))) | ((with_reducible apply wp_cond_false); (focus (first | rfl | (simp [go_sem, *]; done)))) | (simp only [Exit.then, Exit.inBlock, ↓reduceIte, Nat.reduceEqDiff]))
    ((with_reducible apply seq_e (fun w' => Blk w' _ _ _ ∧ w3.grownBy w' (some _))); (focus rfl); (focus (simp only [effAt]; simp [go_sem]; (with_reducible exact effUpon_enter (o3 _ hB_d hB_s)))); (focus ((simp only [Act.put, List.setIfInBounds_toArray, List.set_cons_zero, List.set_cons_succ]; rfl))))
    clear hc_s hB_s
    intro w4 hs
    obtain ⟨hB_s, hs⟩ := hs
    have Fw4 := Fw3.grown hs Fw3.size (by intro k hk; injection hk with hk; subst hk; first | exact Nat.le_refl _ | exact Fw3.size | omega)
    replace hB_d := hB_d.grown hs (by intro hk; injection hk with hk; have := hB_d.lt; have := hB_s.lt; omega)
    clear hs Fw3
    clear hc_d; have hc_d := hB_d.cell
    have hc_s := hB_s.cell
    repeat (first | with_reducible apply wpList_nil | with_reducible apply seq_region | with_reducible apply wp_region_lit | with_reducible apply wp_seq | ((with_reducible apply seq_q); (focus rfl); (focus (simp [go_sem, effAt, ↓IntWalk.iteOmega, *]; (try go_ints); (first | (with_reducible exact effUpon_val) | (with_reducible exact effUpon_skip)))); (focus ((simp only [Act.put, List.setIfInBounds_toArray, List.set_cons_zero, List.set_cons_succ]; rfl)))) | ((with_reducible apply seq_s); (focus rfl); (focus ((simp only [Act.put, List.setIfInBounds_toArray, List.set_cons_zero, List.set_cons_succ]; rfl)))) | with_reducible apply wp_block | with_reducible apply wp_skip | with_reducible apply wp_exit | with_reducible apply wp_ret | ((with_reducible apply wp_cond_true); (focus (first | rfl | (simp [go_sem, *]; done)))) | ((with_reducible apply wp_cond_false); (focus (first | rfl | (simp [go_sem, *]; done)))) | (simp only [Exit.then, Exit.inBlock, ↓reduceIte, Nat.reduceEqDiff]))
    ((with_reducible apply seq_e (fun w' => Blk w' _ _ _ ∧ w4.grownBy w' (some _))); (focus rfl); (focus (simp only [effAt]; simp [go_sem]; (with_reducible exact effUpon_enter (o4 _ hB_d hB_s)))); (focus ((simp only [Act.put, List.setIfInBounds_toArray, List.set_cons_zero, List.set_cons_succ]; rfl))))
    clear hc_s hB_s
    intro w5 hs
    obtain ⟨hB_s, hs⟩ := hs
    have Fw5 := Fw4.grown hs Fw4.size (by intro k hk; injection hk with hk; subst hk; first | exact Nat.le_refl _ | exact Fw4.size | omega)
    replace hB_d := hB_d.grown hs (by intro hk; injection hk with hk; have := hB_d.lt; have := hB_s.lt; omega)
    clear hs Fw4
    clear hc_d; have hc_d := hB_d.cell
    have hc_s := hB_s.cell
    repeat (first | with_reducible apply wpList_nil | with_reducible apply seq_region | with_reducible apply wp_region_lit | with_reducible apply wp_seq | ((with_reducible apply seq_q); (focus rfl); (focus (simp [go_sem, effAt, ↓IntWalk.iteOmega, *]; (try go_ints); (first | (with_reducible exact effUpon_val) | (with_reducible exact effUpon_skip)))); (focus ((simp only [Act.put, List.setIfInBounds_toArray, List.set_cons_zero, List.set_cons_succ]; rfl)))) | ((with_reducible apply seq_s); (focus rfl); (focus ((simp only [Act.put, List.setIfInBounds_toArray, List.set_cons_zero, List.set_cons_succ]; rfl)))) | with_reducible apply wp_block | with_reducible apply wp_skip | with_reducible apply wp_exit | with_reducible apply wp_ret | ((with_reducible apply wp_cond_true); (focus (first | rfl | (simp [go_sem, *]; done)))) | ((with_reducible apply wp_cond_false); (focus (first | rfl | (simp [go_sem, *]; done)))) | (simp only [Exit.then, Exit.inBlock, ↓reduceIte, Nat.reduceEqDiff]))
    refine bodyPost_ret (v := .tuple #[.int .i64 (pv : Int), .int .i64 1]) (by simp [results, Try.results30, go_sem, *]) rfl ⟨rfl, by assumption⟩
  case neg =>
    have e0 : ((sv : Int) == 0) = false := by simp; omega
    by_cases hs1 : sv = 12
    case pos =>
      have e1 : ((sv : Int) == 12) = true := by simp [hs1]
      have eh : hintV (hintK sv) = 2 := by rw [hs1]; rfl
      rw [eh]
      clear hs0 hs1 eh
      go_enter Try.func30, Try.ntmps30
      have F0 : Below w.heap.size w w := Below.refl _ _
      have hc_d := hB_d.cell
      repeat (first | with_reducible apply wpList_nil | with_reducible apply seq_region | with_reducible apply wp_region_lit | with_reducible apply wp_seq | ((with_reducible apply seq_q); (focus rfl); (focus (simp [go_sem, effAt, ↓IntWalk.iteOmega, *]; (try go_ints); (first | (with_reducible exact effUpon_val) | (with_reducible exact effUpon_skip)))); (focus ((simp only [Act.put, List.setIfInBounds_toArray, List.set_cons_zero, List.set_cons_succ]; rfl)))) | ((with_reducible apply seq_s); (focus rfl); (focus ((simp only [Act.put, List.setIfInBounds_toArray, List.set_cons_zero, List.set_cons_succ]; rfl)))) | with_reducible apply wp_block | with_reducible apply wp_skip | with_reducible apply wp_exit | with_reducible apply wp_ret | ((with_reducible apply wp_cond_true); (focus (first | rfl | (simp [go_sem, *]; done)))) | ((with_reducible apply wp_cond_false); (focus (first | rfl | (simp [go_sem, *]; done)))) | (simp only [Exit.then, Exit.inBlock, ↓reduceIte, Nat.reduceEqDiff]))
      have lt_d_s := hB_d.lt
      ((with_reducible apply seq_box); (focus rfl); (focus (simp [go_sem, effAt]; exact ⟨rfl, rfl⟩)); (focus ((simp only [Act.put, List.setIfInBounds_toArray, List.set_cons_zero, List.set_cons_succ]; rfl))))
      intro w6 hB_s hs
      have Fw6 := F0.trans (hs.mono F0.size)
      replace hB_d := hB_d.below hs hB_d.lt
      clear hs F0
      clear hc_d; have hc_d := hB_d.cell
      have hc_s := hB_s.cell
      repeat (first | with_reducible apply wpList_nil | with_reducible apply seq_region | with_reducible apply wp_region_lit | with_reducible apply wp_seq | ((with_reducible apply seq_q); (focus rfl); (focus (simp [go_sem, effAt, ↓IntWalk.iteOmega, *]; (try go_ints); (first | (with_reducible exact effUpon_val) | (with_reducible exact effUpon_skip)))); (focus ((simp only [Act.put, List.setIfInBounds_toArray, List.set_cons_zero, List.set_cons_succ]; rfl)))) | ((with_reducible apply seq_s); (focus rfl); (focus ((simp only [Act.put, List.setIfInBounds_toArray, List.set_cons_zero, List.set_cons_succ]; rfl)))) | with_reducible apply wp_block | with_reducible apply wp_skip | with_reducible apply wp_exit | with_reducible apply wp_ret | ((with_reducible apply wp_cond_true); (focus (first | rfl | (simp [go_sem, *]; done)))) | ((with_reducible apply wp_cond_false); (focus (first | rfl | (simp [go_sem, *]; done)))) | (simp only [Exit.then, Exit.inBlock, ↓reduceIte, Nat.reduceEqDiff]))
      ((with_reducible apply seq_e (fun w' => Blk w' _ _ _ ∧ w6.grownBy w' (some _))); (focus rfl); (focus (simp only [effAt]; simp [go_sem]; (with_reducible exact effUpon_enter (o1 _ hB_d hB_s)))); (focus ((simp only [Act.put, List.setIfInBounds_toArray, List.set_cons_zero, List.set_cons_succ]; rfl))))
      clear hc_s hB_s
      intro w7 hs
      obtain ⟨hB_s, hs⟩ := hs
      have Fw7 := Fw6.grown hs Fw6.size (by intro k hk; injection hk with hk; subst hk; first | exact Nat.le_refl _ | exact Fw6.size | omega)
      replace hB_d := hB_d.grown hs (by intro hk; injection hk with hk; have := hB_d.lt; have := hB_s.lt; omega)
      clear hs Fw6
      clear hc_d; have hc_d := hB_d.cell
      have hc_s := hB_s.cell
      repeat (first | with_reducible apply wpList_nil | with_reducible apply seq_region | with_reducible apply wp_region_lit | with_reducible apply wp_seq | ((with_reducible apply seq_q); (focus rfl); (focus (simp [go_sem, effAt, ↓IntWalk.iteOmega, *]; (try go_ints); (first | (with_reducible exact effUpon_val) | (with_reducible exact effUpon_skip)))); (focus ((simp only [Act.put, List.setIfInBounds_toArray, List.set_cons_zero, List.set_cons_succ]; rfl)))) | ((with_reducible apply seq_s); (focus rfl); (focus ((simp only [Act.put, List.setIfInBounds_toArray, List.set_cons_zero, List.set_cons_succ]; rfl)))) | with_reducible apply wp_block | with_reducible apply wp_skip | with_reducible apply wp_exit | with_reducible apply wp_ret | ((with_reducible apply wp_cond_true); (focus (first | rfl | (simp [go_sem, *]; done)))) | ((with_reducible apply wp_cond_false); (focus (first | rfl | (simp [go_sem, *]; done)))) | (simp only [Exit.then, Exit.inBlock, ↓reduceIte, Nat.reduceEqDiff]))
      ((with_reducible apply seq_e (fun w' => Blk w' _ _ _ ∧ w7.grownBy w' (some _))); (focus rfl); (focus (simp only [effAt]; simp [go_sem]; (with_reducible exact effUpon_enter (o2 _ hB_d hB_s)))); (focus ((simp only [Act.put, List.setIfInBounds_toArray, List.set_cons_zero, List.set_cons_succ]; rfl))))
      clear hc_s hB_s
      intro w8 hs
      obtain ⟨hB_s, hs⟩ := hs
      have Fw8 := Fw7.grown hs Fw7.size (by intro k hk; injection hk with hk; subst hk; first | exact Nat.le_refl _ | exact Fw7.size | omega)
      replace hB_d := hB_d.grown hs (by intro hk; injection hk with hk; have := hB_d.lt; have := hB_s.lt; omega)
      clear hs Fw7
      clear hc_d; have hc_d := hB_d.cell
      have hc_s := hB_s.cell
      repeat (first | with_reducible apply wpList_nil | with_reducible apply seq_region | with_reducible apply wp_region_lit | with_reducible apply wp_seq | ((with_reducible apply seq_q); (focus rfl); (focus (simp [go_sem, effAt, ↓IntWalk.iteOmega, *]; (try go_ints); (first | (with_reducible exact effUpon_val) | (with_reducible exact effUpon_skip)))); (focus ((simp only [Act.put, List.setIfInBounds_toArray, List.set_cons_zero, List.set_cons_succ]; rfl)))) | ((with_reducible apply seq_s); (focus rfl); (focus ((simp only [Act.put, List.setIfInBounds_toArray, List.set_cons_zero, List.set_cons_succ]; rfl)))) | with_reducible apply wp_block | with_reducible apply wp_skip | with_reducible apply wp_exit | with_reducible apply wp_ret | ((with_reducible apply wp_cond_true); (focus (first | rfl | (simp [go_sem, *]; done)))) | ((with_reducible apply wp_cond_false); (focus (first | rfl | (simp [go_sem, *]; done)))) | (simp only [Exit.then, Exit.inBlock, ↓reduceIte, Nat.reduceEqDiff]))
      ((with_reducible apply seq_e (fun w' => Blk w' _ _ _ ∧ w8.grownBy w' (some _))); (focus rfl); (focus (simp only [effAt]; simp [go_sem]; (with_reducible exact effUpon_enter (o3 _ hB_d hB_s)))); (focus ((simp only [Act.put, List.setIfInBounds_toArray, List.set_cons_zero, List.set_cons_succ]; rfl))))
      clear hc_s hB_s
      intro w9 hs
      obtain ⟨hB_s, hs⟩ := hs
      have Fw9 := Fw8.grown hs Fw8.size (by intro k hk; injection hk with hk; subst hk; first | exact Nat.le_refl _ | exact Fw8.size | omega)
      replace hB_d := hB_d.grown hs (by intro hk; injection hk with hk; have := hB_d.lt; have := hB_s.lt; omega)
      clear hs Fw8
      clear hc_d; have hc_d := hB_d.cell
      have hc_s := hB_s.cell
      repeat (first | with_reducible apply wpList_nil | with_reducible apply seq_region | with_reducible apply wp_region_lit | with_reducible apply wp_seq | ((with_reducible apply seq_q); (focus rfl); (focus (simp [go_sem, effAt, ↓IntWalk.iteOmega, *]; (try go_ints); (first | (with_reducible exact effUpon_val) | (with_reducible exact effUpon_skip)))); (focus ((simp only [Act.put, List.setIfInBounds_toArray, List.set_cons_zero, List.set_cons_succ]; rfl)))) | ((with_reducible apply seq_s); (focus rfl); (focus ((simp only [Act.put, List.setIfInBounds_toArray, List.set_cons_zero, List.set_cons_succ]; rfl)))) | with_reducible apply wp_block | with_reducible apply wp_skip | with_reducible apply wp_exit | with_reducible apply wp_ret | ((with_reducible apply wp_cond_true); (focus (first | rfl | (simp [go_sem, *]; done)))) | ((with_reducible apply wp_cond_false); (focus (first | rfl | (simp [go_sem, *]; done)))) | (simp only [Exit.then, Exit.inBlock, ↓reduceIte, Nat.reduceEqDiff]))
      ((with_reducible apply seq_e (fun w' => Blk w' _ _ _ ∧ w9.grownBy w' (some _))); (focus rfl); (focus (simp only [effAt]; simp [go_sem]; (with_reducible exact effUpon_enter (o4 _ hB_d hB_s)))); (focus ((simp only [Act.put, List.setIfInBounds_toArray, List.set_cons_zero, List.set_cons_succ]; rfl))))
      clear hc_s hB_s
      intro w10 hs
      obtain ⟨hB_s, hs⟩ := hs
      have Fw10 := Fw9.grown hs Fw9.size (by intro k hk; injection hk with hk; subst hk; first | exact Nat.le_refl _ | exact Fw9.size | omega)
      replace hB_d := hB_d.grown hs (by intro hk; injection hk with hk; have := hB_d.lt; have := hB_s.lt; omega)
      clear hs Fw9
      clear hc_d; have hc_d := hB_d.cell
      have hc_s := hB_s.cell
      repeat (first | with_reducible apply wpList_nil | with_reducible apply seq_region | with_reducible apply wp_region_lit | with_reducible apply wp_seq | ((with_reducible apply seq_q); (focus rfl); (focus (simp [go_sem, effAt, ↓IntWalk.iteOmega, *]; (try go_ints); (first | (with_reducible exact effUpon_val) | (with_reducible exact effUpon_skip)))); (focus ((simp only [Act.put, List.setIfInBounds_toArray, List.set_cons_zero, List.set_cons_succ]; rfl)))) | ((with_reducible apply seq_s); (focus rfl); (focus ((simp only [Act.put, List.setIfInBounds_toArray, List.set_cons_zero, List.set_cons_succ]; rfl)))) | with_reducible apply wp_block | with_reducible apply wp_skip | with_reducible apply wp_exit | with_reducible apply wp_ret | ((with_reducible apply wp_cond_true); (focus (first | rfl | (simp [go_sem, *]; done)))) | ((with_reducible apply wp_cond_false); (focus (first | rfl | (simp [go_sem, *]; done)))) | (simp only [Exit.then, Exit.inBlock, ↓reduceIte, Nat.reduceEqDiff]))
      refine bodyPost_ret (v := .tuple #[.int .i64 (pv : Int), .int .i64 2]) (by simp [results, Try.results30, go_sem, *]) rfl ⟨rfl, by assumption⟩
    case neg =>
      have e1 : ((sv : Int) == 12) = false := by simp; omega
      have eh : hintV (hintK sv) = 0 := by unfold hintK; rw [if_neg hs0, if_neg hs1]; rfl
      rw [eh]
      clear hs0 hs1 eh
      go_enter Try.func30, Try.ntmps30
      have F0 : Below w.heap.size w w := Below.refl _ _
      have hc_d := hB_d.cell
      repeat (first | with_reducible apply wpList_nil | with_reducible apply seq_region | with_reducible apply wp_region_lit | with_reducible apply wp_seq | ((with_reducible apply seq_q); (focus rfl); (focus (simp [go_sem, effAt, ↓IntWalk.iteOmega, *]; (try go_ints); (first | (with_reducible exact effUpon_val) | (with_reducible exact effUpon_skip)))); (focus ((simp only [Act.put, List.setIfInBounds_toArray, List.set_cons_zero, List.set_cons_succ]; rfl)))) | ((with_reducible apply seq_s); (focus rfl); (focus ((simp only [Act.put, List.setIfInBounds_toArray, List.set_cons_zero, List.set_cons_succ]; rfl)))) | with_reducible apply wp_block | with_reducible apply wp_skip | with_reducible apply wp_exit | with_reducible apply wp_ret | ((with_reducible apply wp_cond_true); (focus (first | rfl | (simp [go_sem, *]; done)))) | ((with_reducible apply wp_cond_false); (focus (first | rfl | (simp [go_sem, *]; done)))) | (simp only [Exit.then, Exit.inBlock, ↓reduceIte, Nat.reduceEqDiff]))
      have lt_d_s := hB_d.lt
      ((with_reducible apply seq_box); (focus rfl); (focus (simp [go_sem, effAt]; exact ⟨rfl, rfl⟩)); (focus ((simp only [Act.put, List.setIfInBounds_toArray, List.set_cons_zero, List.set_cons_succ]; rfl))))
      intro w11 hB_s hs
      have Fw11 := F0.trans (hs.mono F0.size)
      replace hB_d := hB_d.below hs hB_d.lt
      clear hs F0
      clear hc_d; have hc_d := hB_d.cell
      have hc_s := hB_s.cell
      repeat (first | with_reducible apply wpList_nil | with_reducible apply seq_region | with_reducible apply wp_region_lit | with_reducible apply wp_seq | ((with_reducible apply seq_q); (focus rfl); (focus (simp [go_sem, effAt, ↓IntWalk.iteOmega, *]; (try go_ints); (first | (with_reducible exact effUpon_val) | (with_reducible exact effUpon_skip)))); (focus ((simp only [Act.put, List.setIfInBounds_toArray, List.set_cons_zero, List.set_cons_succ]; rfl)))) | ((with_reducible apply seq_s); (focus rfl); (focus ((simp only [Act.put, List.setIfInBounds_toArray, List.set_cons_zero, List.set_cons_succ]; rfl)))) | with_reducible apply wp_block | with_reducible apply wp_skip | with_reducible apply wp_exit | with_reducible apply wp_ret | ((with_reducible apply wp_cond_true); (focus (first | rfl | (simp [go_sem, *]; done)))) | ((with_reducible apply wp_cond_false); (focus (first | rfl | (simp [go_sem, *]; done)))) | (simp only [Exit.then, Exit.inBlock, ↓reduceIte, Nat.reduceEqDiff]))
      ((with_reducible apply seq_e (fun w' => Blk w' _ _ _ ∧ w11.grownBy w' (some _))); (focus rfl); (focus (simp only [effAt]; simp [go_sem]; (with_reducible exact effUpon_enter (o1 _ hB_d hB_s)))); (focus ((simp only [Act.put, List.setIfInBounds_toArray, List.set_cons_zero, List.set_cons_succ]; rfl))))
      clear hc_s hB_s
      intro w12 hs
      obtain ⟨hB_s, hs⟩ := hs
      have Fw12 := Fw11.grown hs Fw11.size (by intro k hk; injection hk with hk; subst hk; first | exact Nat.le_refl _ | exact Fw11.size | omega)
      replace hB_d := hB_d.grown hs (by intro hk; injection hk with hk; have := hB_d.lt; have := hB_s.lt; omega)
      clear hs Fw11
      clear hc_d; have hc_d := hB_d.cell
      have hc_s := hB_s.cell
      repeat (first | with_reducible apply wpList_nil | with_reducible apply seq_region | with_reducible apply wp_region_lit | with_reducible apply wp_seq | ((with_reducible apply seq_q); (focus rfl); (focus (simp [go_sem, effAt, ↓IntWalk.iteOmega, *]; (try go_ints); (first | (with_reducible exact effUpon_val) | (with_reducible exact effUpon_skip)))); (focus ((simp only [Act.put, List.setIfInBounds_toArray, List.set_cons_zero, List.set_cons_succ]; rfl)))) | ((with_reducible apply seq_s); (focus rfl); (focus ((simp only [Act.put, List.setIfInBounds_toArray, List.set_cons_zero, List.set_cons_succ]; rfl)))) | with_reducible apply wp_block | with_reducible apply wp_skip | with_reducible apply wp_exit | with_reducible apply wp_ret | ((with_reducible apply wp_cond_true); (focus (first | rfl | (simp [go_sem, *]; done)))) | ((with_reducible apply wp_cond_false); (focus (first | rfl | (simp [go_sem, *]; done)))) | (simp only [Exit.then, Exit.inBlock, ↓reduceIte, Nat.reduceEqDiff]))
      ((with_reducible apply seq_e (fun w' => Blk w' _ _ _ ∧ w12.grownBy w' (some _))); (focus rfl); (focus (simp only [effAt]; simp [go_sem]; (with_reducible exact effUpon_enter (o2 _ hB_d hB_s)))); (focus ((simp only [Act.put, List.setIfInBounds_toArray, List.set_cons_zero, List.set_cons_succ]; rfl))))
      clear hc_s hB_s
      intro w13 hs
      obtain ⟨hB_s, hs⟩ := hs
      have Fw13 := Fw12.grown hs Fw12.size (by intro k hk; injection hk with hk; subst hk; first | exact Nat.le_refl _ | exact Fw12.size | omega)
      replace hB_d := hB_d.grown hs (by intro hk; injection hk with hk; have := hB_d.lt; have := hB_s.lt; omega)
      clear hs Fw12
      clear hc_d; have hc_d := hB_d.cell
      have hc_s := hB_s.cell
      repeat (first | with_reducible apply wpList_nil | with_reducible apply seq_region | with_reducible apply wp_region_lit | with_reducible apply wp_seq | ((with_reducible apply seq_q); (focus rfl); (focus (simp [go_sem, effAt, ↓IntWalk.iteOmega, *]; (try go_ints); (first | (with_reducible exact effUpon_val) | (with_reducible exact effUpon_skip)))); (focus ((simp only [Act.put, List.setIfInBounds_toArray, List.set_cons_zero, List.set_cons_succ]; rfl)))) | ((with_reducible apply seq_s); (focus rfl); (focus ((simp only [Act.put, List.setIfInBounds_toArray, List.set_cons_zero, List.set_cons_succ]; rfl)))) | with_reducible apply wp_block | with_reducible apply wp_skip | with_reducible apply wp_exit | with_reducible apply wp_ret | ((with_reducible apply wp_cond_true); (focus (first | rfl | (simp [go_sem, *]; done)))) | ((with_reducible apply wp_cond_false); (focus (first | rfl | (simp [go_sem, *]; done)))) | (simp only [Exit.then, Exit.inBlock, ↓reduceIte, Nat.reduceEqDiff]))
      ((with_reducible apply seq_e (fun w' => Blk w' _ _ _ ∧ w13.grownBy w' (some _))); (focus rfl); (focus (simp only [effAt]; simp [go_sem]; (with_reducible exact effUpon_enter (o3 _ hB_d hB_s)))); (focus ((simp only [Act.put, List.setIfInBounds_toArray, List.set_cons_zero, List.set_cons_succ]; rfl))))
      clear hc_s hB_s
      intro w14 hs
      obtain ⟨hB_s, hs⟩ := hs
      have Fw14 := Fw13.grown hs Fw13.size (by intro k hk; injection hk with hk; subst hk; first | exact Nat.le_refl _ | exact Fw13.size | omega)
      replace hB_d := hB_d.grown hs (by intro hk; injection hk with hk; have := hB_d.lt; have := hB_s.lt; omega)
      clear hs Fw13
      clear hc_d; have hc_d := hB_d.cell
      have hc_s := hB_s.cell
      repeat (first | with_reducible apply wpList_nil | with_reducible apply seq_region | with_reducible apply wp_region_lit | with_reducible apply wp_seq | ((with_reducible apply seq_q); (focus rfl); (focus (simp [go_sem, effAt, ↓IntWalk.iteOmega, *]; (try go_ints); (first | (with_reducible exact effUpon_val) | (with_reducible exact effUpon_skip)))); (focus ((simp only [Act.put, List.setIfInBounds_toArray, List.set_cons_zero, List.set_cons_succ]; rfl)))) | ((with_reducible apply seq_s); (focus rfl); (focus ((simp only [Act.put, List.setIfInBounds_toArray, List.set_cons_zero, List.set_cons_succ]; rfl)))) | with_reducible apply wp_block | with_reducible apply wp_skip | with_reducible apply wp_exit | with_reducible apply wp_ret | ((with_reducible apply wp_cond_true); (focus (first | rfl | (simp [go_sem, *]; done)))) | ((with_reducible apply wp_cond_false); (focus (first | rfl | (simp [go_sem, *]; done)))) | (simp only [Exit.then, Exit.inBlock, ↓reduceIte, Nat.reduceEqDiff]))
      ((with_reducible apply seq_e (fun w' => Blk w' _ _ _ ∧ w14.grownBy w' (some _))); (focus rfl); (focus (simp only [effAt]; simp [go_sem]; (with_reducible exact effUpon_enter (o4 _ hB_d hB_s)))); (focus ((simp only [Act.put, List.setIfInBounds_toArray, List.set_cons_zero, List.set_cons_succ]; rfl))))
      clear hc_s hB_s
      intro w15 hs
      obtain ⟨hB_s, hs⟩ := hs
      have Fw15 := Fw14.grown hs Fw14.size (by intro k hk; injection hk with hk; subst hk; first | exact Nat.le_refl _ | exact Fw14.size | omega)
      replace hB_d := hB_d.grown hs (by intro hk; injection hk with hk; have := hB_d.lt; have := hB_s.lt; omega)
      clear hs Fw14
      clear hc_d; have hc_d := hB_d.cell
      have hc_s := hB_s.cell
      repeat (first | with_reducible apply wpList_nil | with_reducible apply seq_region | with_reducible apply wp_region_lit | with_reducible apply wp_seq | ((with_reducible apply seq_q); (focus rfl); (focus (simp [go_sem, effAt, ↓IntWalk.iteOmega, *]; (try go_ints); (first | (with_reducible exact effUpon_val) | (with_reducible exact effUpon_skip)))); (focus ((simp only [Act.put, List.setIfInBounds_toArray, List.set_cons_zero, List.set_cons_succ]; rfl)))) | ((with_reducible apply seq_s); (focus rfl); (focus ((simp only [Act.put, List.setIfInBounds_toArray, List.set_cons_zero, List.set_cons_succ]; rfl)))) | with_reducible apply wp_block | with_reducible apply wp_skip | with_reducible apply wp_exit | with_reducible apply wp_ret | ((with_reducible apply wp_cond_true); (focus (first | rfl | (simp [go_sem, *]; done)))) | ((with_reducible apply wp_cond_false); (focus (first | rfl | (simp [go_sem, *]; done)))) | (simp only [Exit.then, Exit.inBlock, ↓reduceIte, Nat.reduceEqDiff]))
      refine bodyPost_ret (v := .tuple #[.int .i64 (pv : Int), .int .i64 0]) (by simp [results, Try.results30, go_sem, *]) rfl ⟨rfl, by assumption⟩
theorem cp_any {g cap a b n : Nat} {pad : List Value} {d : Array Int} {w : World} (hn : d.size = n) (hab : a < b) (hb : b ≤ n) (hsz : n ≤ 1000) (hB_d : SB w g pad d) :
    ∃ p h, choosePivot ltInt d a b = (p, h) ∧ a ≤ p ∧ p < b ∧ Calls Try.prog 30 #[.slice (some ⟨g, 0, none⟩) n cap, .int .i64 a, .int .i64 b] w (Ret (.tuple #[.int .i64 (p : Int), .int .i64 (hintV h)]) (Below w.heap.size w)) := by
  have hr := Go.Sort.choosePivot_holds ltInt d a b hab
  have H : CP n g cap a b pad d w := by
    by_cases h8 : 8 ≤ b - a
    · by_cases h50 : 50 ≤ b - a
      · exact cp_big hn hab hb hsz hB_d h50
      · exact cp_mid hn hab hb hsz hB_d h8 h50
    · exact cp_small hn hab hb hsz hB_d h8
  obtain ⟨p, s, h1, h2, h3⟩ := H
  rw [h1] at hr
  exact ⟨p, _, h1, hr.1, hr.2, h3⟩
end Go.Proofs.Ytckjgdlceckhpaa
