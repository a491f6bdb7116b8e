/- The walk of breakPatternsOrdered[uint8]. -/
import Derived.Test.YtckjgdlceckhpaaS2
import Derived.Test.YtckjgdlceckhpaaS5
set_option linter.unusedSimpArgs false
set_option linter.unusedVariables false
namespace Go.Proofs.Ytckjgdlceckhpaa
open Go.RowKit Go.Eff
open Go.Sort (swp bitsLen xorNextN xorNextN_lt xorNext_toNat breakPatterns breakStep)
attribute [local irreducible] Go.wpList
theorem grown_new {w u u' : World} {g r : Nat} (h : w.grownBy u (some g)) (k : u.grownBy u' (some r)) (hr : w.heap.size ≤ r) : w.grownBy u' (some g) :=
  ⟨k.os.trans h.os, k.tape.trans h.tape, k.output.trans h.output, Nat.le_trans h.size k.size, fun i hi hn => (k.block i (Nat.lt_of_lt_of_le hi h.size) (fun e => by injection e with e; omega)).trans (h.block i hi hn)⟩
def otherN (L M X : Nat) : Nat := if X &&& (M - 1) ≥ L then (X &&& (M - 1)) - L else X &&& (M - 1)
def brk (a L M : Nat) : Nat → Nat → Nat → Array Int → Array Int
  | 0, _, _, d => d
  | k + 1, c, X, d => brk a L M k (c + 1) (xorNextN X) (swp d c (a + otherN L M (xorNextN X)))
theorem brk_eq {d : Array Int} {a b L M : Nat} (hL : b - a = L) (h8 : 8 ≤ L) (hx : L < 18446744073709551616) (hM : 1 <<< bitsLen L = M) :
    breakPatterns d a b = brk a L M 3 (a + L / 4 * 2 - 1) L d := by
  have e : (UInt64.ofNat L).toNat = L := by simp [UInt64.toNat_ofNat]; omega
  unfold breakPatterns
  simp only [hL, hM]
  rw [if_pos h8]
  simp only [breakStep, brk, otherN, xorNext_toNat, e]
theorem break_small {d : Array Int} {a b : Nat} (h8 : ¬ 8 ≤ b - a) : breakPatterns d a b = d := by
  unfold breakPatterns
  simp only []
  rw [if_neg h8]
theorem pow_two : ∀ n, n < 1001 → 1 ≤ n → 1 <<< bitsLen n ≤ 2 * n := by decide +kernel
set_option maxRecDepth 100000 in
set_option maxHeartbeats 8000000 in
theorem brk_any (g cap a b : Nat) (pad : List Value) (d : Array Int) (w : World) (hB_d : SB w g pad d) (hab : a ≤ b) (hb : b ≤ d.size) (hsz : d.size ≤ 1000) :
    Calls Try.prog 29 #[.slice (some ⟨g, 0, none⟩) d.size cap, .int .i64 a, .int .i64 b] w (Ret (.tuple #[]) fun w' => SB w' g pad (breakPatterns d a b) ∧ w.grownBy w' (some g)) := by
  obtain ⟨n, hn⟩ : ∃ n, d.size = n := ⟨_, rfl⟩
  obtain ⟨R, hR⟩ : ∃ R, breakPatterns d a b = R := ⟨_, rfl⟩
  obtain ⟨L, hL⟩ : ∃ L, b - a = L := ⟨_, rfl⟩
  have hLI : (b : Int) - (a : Int) = (L : Int) := by omega
  have hLn : L ≤ n := by omega
  have hLJ : (L : Int) ≤ 1000 := by omega
  rw [hR]
  rw [hn] at hb hsz ⊢
  have HN := Lib.hid hn
  have HL := Lib.hid hL
  by_cases h8 : 8 ≤ L
  case neg =>
    have h8' : ¬ 8 ≤ (L : Int) := by omega
    rw [break_small (by omega)] at hR
    subst hR
    clear hn hL
    go_enter Try.func29, Try.ntmps29
    have F0 : Below w.heap.size w w := Below.refl _ _
    repeat (first | with_reducible apply wpList_nil | with_reducible apply seq_region | with_reducible apply wp_region_lit | with_reducible apply wp_seq | ((with_reducible apply seq_q); (focus rfl); (focus (simp [go_sem, effAt, ↓IntWalk.iteOmega, *]; (try go_ints); (first | (with_reducible exact effUpon_val) | (with_reducible exact effUpon_skip)))); (focus ((simp only [Act.put, List.setIfInBounds_toArray, List.set_cons_zero, List.set_cons_succ]; rfl)))) | ((with_reducible apply seq_s); (focus rfl); (focus ((simp only [Act.put, List.setIfInBounds_toArray, List.set_cons_zero, List.set_cons_succ]; rfl)))) | with_reducible apply wp_block | with_reducible apply wp_skip | with_reducible apply wp_exit | with_reducible apply wp_ret | ((with_reducible apply wp_cond_true); (focus (first | rfl | (simp [go_sem, *]; done)))) | ((with_reducible apply wp_cond_false); (focus (first | rfl | (simp [go_sem, *]; done)))) | (simp only [Exit.then, Exit.inBlock, ↓reduceIte, Nat.reduceEqDiff]))
    refine bodyPost_end (results_none rfl _ _ _) rfl ⟨rfl, hB_d, World.grownBy.refl _ _⟩
  case pos =>
    have h8' : 8 ≤ (L : Int) := by omega
    have hnx := next_any L (by omega)
    obtain ⟨M, hM⟩ : ∃ M, 1 <<< bitsLen L = M := ⟨_, rfl⟩
    have hM2 := pow_two L (by omega) (by omega)
    have hM3 := (pow_le L (by omega)).2
    rw [brk_eq hL h8 (by omega) hM] at hR
    rw [hM] at hnx hM2 hM3
    obtain ⟨M1, rfl⟩ : ∃ M1, M = M1 + 1 := ⟨M - 1, by omega⟩
    obtain ⟨q, hq⟩ : ∃ q, L / 4 = q := ⟨_, rfl⟩
    have hqI : Int.tdiv (L : Int) 4 = (q : Int) := by rw [← hq]; rfl
    have hq1 : 2 ≤ q := by omega
    have hq2 : 4 * q ≤ L := by omega
    have hqJ : (q : Int) ≤ 250 := by omega
    have hqK : 2 ≤ (q : Int) := by omega
    obtain ⟨c0, hc0⟩ : ∃ c0, a + q * 2 - 1 = c0 := ⟨_, rfl⟩
    rw [hq, hc0] at hR
    have hc0I : (a : Int) + (q : Int) * 2 - 1 = (c0 : Int) := by omega
    have hc0J : (a : Int) + (q : Int) * 2 + 1 = (c0 : Int) + 2 := by omega
    have haI : (a : Int) ≤ 1000 := by omega
    have hM4 : (M1 : Int) ≤ 1023 := by omega
    have hcn : c0 + 3 ≤ n := by omega
    have hcI : (c0 : Int) ≤ 1000 := by omega
    have hMe : ((M1 + 1 : Nat) : Int) = (M1 : Int) + 1 := rfl
    rw [hMe] at hnx
    have HC := Lib.hid hc0
    have HQ := Lib.hid hq
    have HH := Lib.hid hq2
    have HM := Lib.hid (show M1 + 1 ≤ 2 * L from hM2)
    clear hn hL hq hc0 hM hM2 hM3 hMe hq1 hq2
    have hgw : g < w.heap.size := hB_d.lt
    go_enter Try.func29, Try.ntmps29
    have F0 : Below w.heap.size w w := Below.refl _ _
    have hc_d := hB_d.cell
    repeat (first | with_reducible apply wpList_nil | with_reducible apply seq_region | with_reducible apply wp_region_lit | with_reducible apply wp_seq | ((with_reducible apply seq_q); (focus rfl); (focus (simp [go_sem, effAt, ↓IntWalk.iteOmega, *]; (try go_ints); (first | (with_reducible exact effUpon_val) | (with_reducible exact effUpon_skip)))); (focus ((simp only [Act.put, List.setIfInBounds_toArray, List.set_cons_zero, List.set_cons_succ]; rfl)))) | ((with_reducible apply seq_s); (focus rfl); (focus ((simp only [Act.put, List.setIfInBounds_toArray, List.set_cons_zero, List.set_cons_succ]; rfl)))) | with_reducible apply wp_block | with_reducible apply wp_skip | with_reducible apply wp_exit | with_reducible apply wp_ret | ((with_reducible apply wp_cond_true); (focus (first | rfl | (simp [go_sem, *]; done)))) | ((with_reducible apply wp_cond_false); (focus (first | rfl | (simp [go_sem, *]; done)))) | (simp only [Exit.then, Exit.inBlock, ↓reduceIte, Nat.reduceEqDiff]))
    have lt_d_r := hB_d.lt
    ((with_reducible apply seq_box); (focus rfl); (focus (simp [go_sem, effAt]; exact ⟨rfl, rfl⟩)); (focus ((simp only [Act.put, List.setIfInBounds_toArray, List.set_cons_zero, List.set_cons_succ]; rfl))))
    intro w1 hB_r hs
    have Fw1 := F0.trans (hs.mono F0.size)
    replace hB_d := hB_d.below hs hB_d.lt
    clear hs F0
    clear hc_d; have hc_d := hB_d.cell
    have hc_r := hB_r.cell
    repeat (first | with_reducible apply wpList_nil | with_reducible apply seq_region | with_reducible apply wp_region_lit | with_reducible apply wp_seq | ((with_reducible apply seq_q); (focus rfl); (focus (simp [go_sem, effAt, ↓IntWalk.iteOmega, *]; (try go_ints); (first | (with_reducible exact effUpon_val) | (with_reducible exact effUpon_skip)))); (focus ((simp only [Act.put, List.setIfInBounds_toArray, List.set_cons_zero, List.set_cons_succ]; rfl)))) | ((with_reducible apply seq_s); (focus rfl); (focus ((simp only [Act.put, List.setIfInBounds_toArray, List.set_cons_zero, List.set_cons_succ]; rfl)))) | with_reducible apply wp_block | with_reducible apply wp_skip | with_reducible apply wp_exit | with_reducible apply wp_ret | ((with_reducible apply wp_cond_true); (focus (first | rfl | (simp [go_sem, *]; done)))) | ((with_reducible apply wp_cond_false); (focus (first | rfl | (simp [go_sem, *]; done)))) | (simp only [Exit.then, Exit.inBlock, ↓reduceIte, Nat.reduceEqDiff]))
    have hf_r := hB_r.frozen
    ((with_reducible apply seq_e (fun w' => Blk w' _ _ _ ∧ w1.grownBy w' (some _))); (focus rfl); (focus (simp [go_sem, effAt, *]; exact ⟨rfl, (hB_r.set_ 0 _), (grown_set (World.grownBy.refl _ _))⟩)); (focus ((simp only [Act.put, List.setIfInBounds_toArray, List.set_cons_zero, List.set_cons_succ]; rfl))))
    clear hf_r hc_r hB_r
    intro w2 hs
    obtain ⟨hB_r, hs⟩ := hs
    simp only [List.setIfInBounds_toArray, List.set_cons_zero, List.set_cons_succ] at hB_r
    have Fw2 := Fw1.grown hs Fw1.size (by intro k hk; first | (injection hk with hk; subst hk; first | exact Nat.le_refl _ | exact Fw1.size | omega) | omega)
    replace hB_d := hB_d.grown hs (by intro hk; injection hk with hk; have := hB_d.lt; have := hB_r.lt; omega)
    clear hs Fw1
    clear hc_d; have hc_d := hB_d.cell
    have hc_r := hB_r.cell
    repeat (first | with_reducible apply wpList_nil | with_reducible apply seq_region | with_reducible apply wp_region_lit | with_reducible apply wp_seq | ((with_reducible apply seq_q); (focus rfl); (focus (simp [go_sem, effAt, ↓IntWalk.iteOmega, *]; (try go_ints); (first | (with_reducible exact effUpon_val) | (with_reducible exact effUpon_skip)))); (focus ((simp only [Act.put, List.setIfInBounds_toArray, List.set_cons_zero, List.set_cons_succ]; rfl)))) | ((with_reducible apply seq_s); (focus rfl); (focus ((simp only [Act.put, List.setIfInBounds_toArray, List.set_cons_zero, List.set_cons_succ]; rfl)))) | with_reducible apply wp_block | with_reducible apply wp_skip | with_reducible apply wp_exit | with_reducible apply wp_ret | ((with_reducible apply wp_cond_true); (focus (first | rfl | (simp [go_sem, *]; done)))) | ((with_reducible apply wp_cond_false); (focus (first | rfl | (simp [go_sem, *]; done)))) | (simp only [Exit.then, Exit.inBlock, ↓reduceIte, Nat.reduceEqDiff]))
    ((with_reducible apply seq_e (Below w2.heap.size w2)); (focus rfl); (focus (simp only [effAt]; simp [go_sem]; (with_reducible exact effUpon_enter (hnx _)))); (focus ((simp only [Act.put, List.setIfInBounds_toArray, List.set_cons_zero, List.set_cons_succ]; rfl))))
    intro w3 hs
    have Fw3 := Fw2.trans (hs.mono Fw2.size)
    replace hB_d := hB_d.below hs hB_d.lt
    replace hB_r := hB_r.below hs hB_r.lt
    clear hs Fw2
    clear hc_d; have hc_d := hB_d.cell
    clear hc_r; have hc_r := hB_r.cell
    repeat (first | with_reducible apply wpList_nil | with_reducible apply seq_region | with_reducible apply wp_region_lit | with_reducible apply wp_seq | ((with_reducible apply seq_q); (focus rfl); (focus (simp [go_sem, effAt, ↓IntWalk.iteOmega, *]; (try go_ints); (first | (with_reducible exact effUpon_val) | (with_reducible exact effUpon_skip)))); (focus ((simp only [Act.put, List.setIfInBounds_toArray, List.set_cons_zero, List.set_cons_succ]; rfl)))) | ((with_reducible apply seq_s); (focus rfl); (focus ((simp only [Act.put, List.setIfInBounds_toArray, List.set_cons_zero, List.set_cons_succ]; rfl)))) | with_reducible apply wp_block | with_reducible apply wp_skip | with_reducible apply wp_exit | with_reducible apply wp_ret | ((with_reducible apply wp_cond_true); (focus (first | rfl | (simp [go_sem, *]; done)))) | ((with_reducible apply wp_cond_false); (focus (first | rfl | (simp [go_sem, *]; done)))) | (simp only [Exit.then, Exit.inBlock, ↓reduceIte, Nat.reduceEqDiff]))
    obtain ⟨rb, hrb⟩ : ∃ rb, w.heap.size = rb := ⟨_, rfl⟩
    rw [hrb] at hgw hB_r ⊢
    have hX0 : L < 18446744073709551616 := by have := HN.out; omega
    have hG0 : w.grownBy w3 (some g) := grown_below Fw3 _
    clear Fw3 hc_d hc_r hnx
    have HRB := Lib.hid hrb
    clear hrb
    go_loopg [9] 3 (fun k v9 wr => ∃ (c X : Nat) (dk : Array Int), v9 = .int .i64 (c : Int) ∧ c + k = c0 + 3 ∧ X < 18446744073709551616 ∧ dk.size = n ∧ brk a L (M1 + 1) k c X dk = R ∧ Blk wr rb 74 #[.int .u64 (X : Int)] ∧ SB wr g pad dk ∧ w.grownBy wr (some g))
    case atStart => exact ⟨c0, L, d, rfl, rfl, hX0, HN.out, hR, hB_r, hB_d, hG0⟩
    case round =>
      rename_i J K hJ hK
      skip
      clear hR hB_r hB_d hG0 HN hX0
      obtain ⟨c, X, dk, rfl, hck, hX, hdk, hR, hB_r, hB_d, hG⟩ := hrel
      have HD := Lib.hid hdk
      cases gk with
      | zero =>
        have hcc : ¬ (c : Int) ≤ (c0 : Int) + 2 := by omega
        rw [brk] at hR
        subst hR
        clear hJ hK hck hdk
        skip
        have Fwr : Below wr.heap.size wr wr := Below.refl _ _
        repeat (first | with_reducible apply wpList_nil | with_reducible apply seq_region | with_reducible apply wp_region_lit | with_reducible apply wp_seq | ((with_reducible apply seq_q); (focus rfl); (focus (simp [go_sem, effAt, ↓IntWalk.iteOmega, *]; (try go_ints); (first | (with_reducible exact effUpon_val) | (with_reducible exact effUpon_skip)))); (focus ((simp only [Act.put, List.setIfInBounds_toArray, List.set_cons_zero, List.set_cons_succ]; rfl)))) | ((with_reducible apply seq_s); (focus rfl); (focus ((simp only [Act.put, List.setIfInBounds_toArray, List.set_cons_zero, List.set_cons_succ]; rfl)))) | with_reducible apply wp_block | with_reducible apply wp_skip | with_reducible apply wp_exit | with_reducible apply wp_ret | ((with_reducible apply wp_cond_true); (focus (first | rfl | (simp [go_sem, *]; done)))) | ((with_reducible apply wp_cond_false); (focus (first | rfl | (simp [go_sem, *]; done)))) | (simp only [Exit.then, Exit.inBlock, ↓reduceIte, Nat.reduceEqDiff]))
        refine bodyPost_end (results_none rfl _ _ _) rfl ⟨rfl, hB_d, hG⟩
      | succ k =>
        have hcc : (c : Int) ≤ (c0 : Int) + 2 := by omega
        obtain ⟨X', hX'⟩ : ∃ X', xorNextN X = X' := ⟨_, rfl⟩
        have hX1 := xorNextN_lt X hX
        have hxo := fun u (hu : Blk u rb 74 #[.int .u64 (X : Int)]) => xor_any rb X hX u hu
        obtain ⟨o, ho⟩ : ∃ o, X' &&& M1 = o := ⟨_, rfl⟩
        have ho1 : o ≤ M1 := ho ▸ Nat.and_le_right
        rw [brk, hX'] at hR
        rw [hX'] at hX1 hxo
        have hA : bits .and .u64 (X' : Int) (M1 : Int) = (o : Int) := by rw [bits_and_u64_nat _ _ hX1 (by omega), ho]
        have hoI : (o : Int) ≤ 1023 := by omega
        have hmm : (M1 : Int) + 1 - 1 = (M1 : Int) := by omega
        have hcn' : (c : Int) < (n : Int) := by have := HD.out; omega
        obtain ⟨t, ht⟩ : ∃ t, otherN L (M1 + 1) X' = t := ⟨_, rfl⟩
        rw [ht] at hR
        have ht' := ht
        unfold otherN at ht'
        rw [Nat.add_sub_cancel, ho] at ht'
        have htL : t < L := by
          have h1 := HM.out
          split at ht' <;> omega
        obtain ⟨at_, hat⟩ : ∃ at_, a + t = at_ := ⟨_, rfl⟩
        rw [hat] at hR
        have hatI : (a : Int) + (t : Int) = (at_ : Int) := by omega
        have hatn : at_ < n := by have := HL.out; omega
        have hatJ : (at_ : Int) < (n : Int) := by omega
        have htI : (t : Int) ≤ 1000 := by omega
        obtain ⟨y1, hy1⟩ : ∃ x, dk[c]! = x := ⟨_, rfl⟩
        obtain ⟨y2, hy2⟩ : ∃ x, dk[at_]! = x := ⟨_, rfl⟩
        have f2 := cellsS_get pad (show at_ < dk.size by omega) hy2
        have f1 := cellsS_get pad (show c < dk.size by omega) hy1
        have SW := Lib.hid (cellsS_swp pad (i := c) (j := at_) (by omega) (by omega) hy1 hy2)
        have SZ := Lib.hid (cellsS_get2 (d := dk) pad (i := c) (j := at_) y2 (by omega) (by omega))
        have HT := Lib.hid hX1
        have HK := Lib.hid hck
        clear hy1 hy2 hck hdk hX' ho hX1 hX ht hat
        by_cases hoL : L ≤ o
        case pos =>
          rw [if_pos hoL] at ht'
          have hoJ : (L : Int) ≤ (o : Int) := by omega
          have htJ : (o : Int) - (L : Int) = (t : Int) := by omega
          clear ht'
          skip
          have Fwr : Below wr.heap.size wr wr := Below.refl _ _
          repeat (first | with_reducible apply wpList_nil | with_reducible apply seq_region | with_reducible apply wp_region_lit | with_reducible apply wp_seq | ((with_reducible apply seq_q); (focus rfl); (focus (simp [go_sem, effAt, ↓IntWalk.iteOmega, *]; (try go_ints); (first | (with_reducible exact effUpon_val) | (with_reducible exact effUpon_skip)))); (focus ((simp only [Act.put, List.setIfInBounds_toArray, List.set_cons_zero, List.set_cons_succ]; rfl)))) | ((with_reducible apply seq_s); (focus rfl); (focus ((simp only [Act.put, List.setIfInBounds_toArray, List.set_cons_zero, List.set_cons_succ]; rfl)))) | with_reducible apply wp_block | with_reducible apply wp_skip | with_reducible apply wp_exit | with_reducible apply wp_ret | ((with_reducible apply wp_cond_true); (focus (first | rfl | (simp [go_sem, *]; done)))) | ((with_reducible apply wp_cond_false); (focus (first | rfl | (simp [go_sem, *]; done)))) | (simp only [Exit.then, Exit.inBlock, ↓reduceIte, Nat.reduceEqDiff]))
          with_reducible apply seq_e (fun w' => Blk w' rb 74 #[.int .u64 (X' : Int)] ∧ wr.grownBy w' (some rb))
          (focus (first | exact wanted_none rfl | exact wanted_yes rfl rfl rfl))
          (focus (simp only [effAt]; simp [go_sem]; (with_reducible exact effUpon_enter (hxo _ hB_r))))
          (simp only [Act.put, List.setIfInBounds_toArray, List.set_cons_zero, List.set_cons_succ]; rfl)
          rintro u ⟨hB_n, hg_n⟩
          have hG2 := grown_new hG hg_n (Nat.le_of_eq HRB.out)
          have hB_d2 := Blk.grown hB_d hg_n (by intro e; injection e with e; omega)
          clear hB_d hB_r hG hg_n
          have hB_r := hB_n
          have hB_d := hB_d2
          have hG := hG2
          clear hB_n hB_d2 hG2
          have Fu : Below u.heap.size u u := Below.refl _ _
          repeat (first | with_reducible apply wpList_nil | with_reducible apply seq_region | with_reducible apply wp_region_lit | with_reducible apply wp_seq | ((with_reducible apply seq_q); (focus rfl); (focus (simp [go_sem, effAt, ↓IntWalk.iteOmega, *]; (try go_ints); (first | (with_reducible exact effUpon_val) | (with_reducible exact effUpon_skip)))); (focus ((simp only [Act.put, List.setIfInBounds_toArray, List.set_cons_zero, List.set_cons_succ]; rfl)))) | ((with_reducible apply seq_s); (focus rfl); (focus ((simp only [Act.put, List.setIfInBounds_toArray, List.set_cons_zero, List.set_cons_succ]; rfl)))) | with_reducible apply wp_block | with_reducible apply wp_skip | with_reducible apply wp_exit | with_reducible apply wp_ret | ((with_reducible apply wp_cond_true); (focus (first | rfl | (simp [go_sem, *]; done)))) | ((with_reducible apply wp_cond_false); (focus (first | rfl | (simp [go_sem, *]; done)))) | (simp only [Exit.then, Exit.inBlock, ↓reduceIte, Nat.reduceEqDiff]))
          have hc_d := hB_d.cell
          refine wp_region_effA (S := fun _ => True) (I := (· = World.drew u)) (E := fun i => [17, 19].contains i) (A := fun i => [11, 15].contains i) (by kernel_rfl) (by kernel_rfl) rfl (fun _ _ => trivial) ?_
          repeat (first | ((with_reducible apply lexA_q); (focus rfl); (focus rfl); (focus rfl); (focus (intro w' hS; simp [go_sem, effAt, ↓IntWalk.iteOmega, *]; (try go_ints); (first | (with_reducible exact effUpon_val) | (with_reducible exact effUpon_skip)))); (focus ((simp only [Act.put, List.setIfInBounds_toArray, List.set_cons_zero, List.set_cons_succ]; rfl)))) | ((with_reducible apply lexA_s); (focus rfl); (focus ((simp only [Act.put, List.setIfInBounds_toArray, List.set_cons_zero, List.set_cons_succ]; rfl)))) | ((with_reducible apply lexA_a); (focus rfl); (focus rfl); (focus rfl); (focus (intro w' hS; subst hS; simp [go_sem, effAt, ↓IntWalk.iteOmega, *]; (try go_ints); (first | (with_reducible exact effUpon_val) | (with_reducible exact effUpon_skip)))); (focus ((simp only [Act.put, List.setIfInBounds_toArray, List.set_cons_zero, List.set_cons_succ]; rfl)))))
          with_reducible apply lexA_e (fun w' => Blk w' g 5 ((cellsS pad dk).setIfInBounds (c) (.int .u8 y2)) ∧ World.grownBy u w' (some g))
          (focus (first | exact wanted_none rfl | exact wanted_yes rfl rfl rfl))
          focus rfl
          focus
            intro w' hS
            subst hS
            have hf_d := hB_d.frozen
            simp [go_sem, effAt, *]
            exact ⟨rfl, hB_d.drew.set_ (c) _, grown_undrew (grown_set (World.grownBy.refl _ _))⟩
          focus exact fun _ _ => trivial
          (focus (first | (apply put_some rfl; focus (conv => lhs; dsimp only [List.set_cons_zero, List.set_cons_succ]) <;> rfl) | exact put_none rfl))
          repeat (first | ((with_reducible apply lexA_q); (focus rfl); (focus rfl); (focus rfl); (focus (intro w' hS; simp [go_sem, effAt, ↓IntWalk.iteOmega, *]; (try go_ints); (first | (with_reducible exact effUpon_val) | (with_reducible exact effUpon_skip)))); (focus ((simp only [Act.put, List.setIfInBounds_toArray, List.set_cons_zero, List.set_cons_succ]; rfl)))) | ((with_reducible apply lexA_s); (focus rfl); (focus ((simp only [Act.put, List.setIfInBounds_toArray, List.set_cons_zero, List.set_cons_succ]; rfl)))) | ((with_reducible apply lexA_a); (focus rfl); (focus rfl); (focus rfl); (focus (intro w' hS; skip; simp [go_sem, effAt, ↓IntWalk.iteOmega, *]; (try go_ints); (first | (with_reducible exact effUpon_val) | (with_reducible exact effUpon_skip)))); (focus ((simp only [Act.put, List.setIfInBounds_toArray, List.set_cons_zero, List.set_cons_succ]; rfl)))))
          with_reducible apply lexA_e (fun w' => SB w' g pad (swp dk (c) (at_)) ∧ World.grownBy u w' (some g))
          (focus (first | exact wanted_none rfl | exact wanted_yes rfl rfl rfl))
          focus rfl
          focus
            rintro w' ⟨hB', hg'⟩
            have hf_d := hB'.frozen
            have hc_d := hB'.cell
            obtain ⟨z, hz⟩ := SZ.out
            simp [go_sem, effAt, *]
            exact ⟨rfl, by have h := hB'.set_ (at_) (.int .u8 y1); rw [SW.out] at h; exact h, grown_set hg'⟩
          focus exact fun _ _ => trivial
          (focus (first | (apply put_some rfl; focus (conv => lhs; dsimp only [List.set_cons_zero, List.set_cons_succ]) <;> rfl) | exact put_none rfl))
          with_reducible apply lexA_nil
          rintro un ⟨hB_n, hg_n⟩
          have hG2 := grown_trans hG hg_n
          have hB_r2 := Blk.grown hB_r hg_n (by intro e; injection e with e; omega)
          clear hB_d hc_d hG hg_n hB_r
          have Fun : Below un.heap.size un un := Below.refl _ _
          repeat (first | with_reducible apply wpList_nil | with_reducible apply seq_region | with_reducible apply wp_region_lit | with_reducible apply wp_seq | ((with_reducible apply seq_q); (focus rfl); (focus (simp [go_sem, effAt, ↓IntWalk.iteOmega, *]; (try go_ints); (first | (with_reducible exact effUpon_val) | (with_reducible exact effUpon_skip)))); (focus ((simp only [Act.put, List.setIfInBounds_toArray, List.set_cons_zero, List.set_cons_succ]; rfl)))) | ((with_reducible apply seq_s); (focus rfl); (focus ((simp only [Act.put, List.setIfInBounds_toArray, List.set_cons_zero, List.set_cons_succ]; rfl)))) | with_reducible apply wp_block | with_reducible apply wp_skip | with_reducible apply wp_exit | with_reducible apply wp_ret | ((with_reducible apply wp_cond_true); (focus (first | rfl | (simp [go_sem, *]; done)))) | ((with_reducible apply wp_cond_false); (focus (first | rfl | (simp [go_sem, *]; done)))) | (simp only [Exit.then, Exit.inBlock, ↓reduceIte, Nat.reduceEqDiff]))
          refine hK _ _ (Handed.intro k ?measure (hJ _ _ _ ?_))
          rotate_left
          (repeat apply Exists.intro)
          refine ⟨?rel, rfl⟩
          case rel => exact ⟨c + 1, X', swp dk c at_, by go_num, by have := HK.out; omega, HT.out, by rw [swp_size]; exact HD.out, hR, hB_r2, hB_n, hG2⟩
          case measure => omega
        case neg =>
          rw [if_neg hoL] at ht'
          have hoJ : ¬ (L : Int) ≤ (o : Int) := by omega
          subst ht'
          skip
          have Fwr : Below wr.heap.size wr wr := Below.refl _ _
          repeat (first | with_reducible apply wpList_nil | with_reducible apply seq_region | with_reducible apply wp_region_lit | with_reducible apply wp_seq | ((with_reducible apply seq_q); (focus rfl); (focus (simp [go_sem, effAt, ↓IntWalk.iteOmega, *]; (try go_ints); (first | (with_reducible exact effUpon_val) | (with_reducible exact effUpon_skip)))); (focus ((simp only [Act.put, List.setIfInBounds_toArray, List.set_cons_zero, List.set_cons_succ]; rfl)))) | ((with_reducible apply seq_s); (focus rfl); (focus ((simp only [Act.put, List.setIfInBounds_toArray, List.set_cons_zero, List.set_cons_succ]; rfl)))) | with_reducible apply wp_block | with_reducible apply wp_skip | with_reducible apply wp_exit | with_reducible apply wp_ret | ((with_reducible apply wp_cond_true); (focus (first | rfl | (simp [go_sem, *]; done)))) | ((with_reducible apply wp_cond_false); (focus (first | rfl | (simp [go_sem, *]; done)))) | (simp only [Exit.then, Exit.inBlock, ↓reduceIte, Nat.reduceEqDiff]))
          with_reducible apply seq_e (fun w' => Blk w' rb 74 #[.int .u64 (X' : Int)] ∧ wr.grownBy w' (some rb))
          (focus (first | exact wanted_none rfl | exact wanted_yes rfl rfl rfl))
          (focus (simp only [effAt]; simp [go_sem]; (with_reducible exact effUpon_enter (hxo _ hB_r))))
          (simp only [Act.put, List.setIfInBounds_toArray, List.set_cons_zero, List.set_cons_succ]; rfl)
          rintro u ⟨hB_n, hg_n⟩
          have hG2 := grown_new hG hg_n (Nat.le_of_eq HRB.out)
          have hB_d2 := Blk.grown hB_d hg_n (by intro e; injection e with e; omega)
          clear hB_d hB_r hG hg_n
          have hB_r := hB_n
          have hB_d := hB_d2
          have hG := hG2
          clear hB_n hB_d2 hG2
          have Fu : Below u.heap.size u u := Below.refl _ _
          repeat (first | with_reducible apply wpList_nil | with_reducible apply seq_region | with_reducible apply wp_region_lit | with_reducible apply wp_seq | ((with_reducible apply seq_q); (focus rfl); (focus (simp [go_sem, effAt, ↓IntWalk.iteOmega, *]; (try go_ints); (first | (with_reducible exact effUpon_val) | (with_reducible exact effUpon_skip)))); (focus ((simp only [Act.put, List.setIfInBounds_toArray, List.set_cons_zero, List.set_cons_succ]; rfl)))) | ((with_reducible apply seq_s); (focus rfl); (focus ((simp only [Act.put, List.setIfInBounds_toArray, List.set_cons_zero, List.set_cons_succ]; rfl)))) | with_reducible apply wp_block | with_reducible apply wp_skip | with_reducible apply wp_exit | with_reducible apply wp_ret | ((with_reducible apply wp_cond_true); (focus (first | rfl | (simp [go_sem, *]; done)))) | ((with_reducible apply wp_cond_false); (focus (first | rfl | (simp [go_sem, *]; done)))) | (simp only [Exit.then, Exit.inBlock, ↓reduceIte, Nat.reduceEqDiff]))
          have hc_d := hB_d.cell
          refine wp_region_effA (S := fun _ => True) (I := (· = World.drew u)) (E := fun i => [17, 19].contains i) (A := fun i => [11, 15].contains i) (by kernel_rfl) (by kernel_rfl) rfl (fun _ _ => trivial) ?_
          repeat (first | ((with_reducible apply lexA_q); (focus rfl); (focus rfl); (focus rfl); (focus (intro w' hS; simp [go_sem, effAt, ↓IntWalk.iteOmega, *]; (try go_ints); (first | (with_reducible exact effUpon_val) | (with_reducible exact effUpon_skip)))); (focus ((simp only [Act.put, List.setIfInBounds_toArray, List.set_cons_zero, List.set_cons_succ]; rfl)))) | ((with_reducible apply lexA_s); (focus rfl); (focus ((simp only [Act.put, List.setIfInBounds_toArray, List.set_cons_zero, List.set_cons_succ]; rfl)))) | ((with_reducible apply lexA_a); (focus rfl); (focus rfl); (focus rfl); (focus (intro w' hS; subst hS; simp [go_sem, effAt, ↓IntWalk.iteOmega, *]; (try go_ints); (first | (with_reducible exact effUpon_val) | (with_reducible exact effUpon_skip)))); (focus ((simp only [Act.put, List.setIfInBounds_toArray, List.set_cons_zero, List.set_cons_succ]; rfl)))))
          with_reducible apply lexA_e (fun w' => Blk w' g 5 ((cellsS pad dk).setIfInBounds (c) (.int .u8 y2)) ∧ World.grownBy u w' (some g))
          (focus (first | exact wanted_none rfl | exact wanted_yes rfl rfl rfl))
          focus rfl
          focus
            intro w' hS
            subst hS
            have hf_d := hB_d.frozen
            simp [go_sem, effAt, *]
            exact ⟨rfl, hB_d.drew.set_ (c) _, grown_undrew (grown_set (World.grownBy.refl _ _))⟩
          focus exact fun _ _ => trivial
          (focus (first | (apply put_some rfl; focus (conv => lhs; dsimp only [List.set_cons_zero, List.set_cons_succ]) <;> rfl) | exact put_none rfl))
          repeat (first | ((with_reducible apply lexA_q); (focus rfl); (focus rfl); (focus rfl); (focus (intro w' hS; simp [go_sem, effAt, ↓IntWalk.iteOmega, *]; (try go_ints); (first | (with_reducible exact effUpon_val) | (with_reducible exact effUpon_skip)))); (focus ((simp only [Act.put, List.setIfInBounds_toArray, List.set_cons_zero, List.set_cons_succ]; rfl)))) | ((with_reducible apply lexA_s); (focus rfl); (focus ((simp only [Act.put, List.setIfInBounds_toArray, List.set_cons_zero, List.set_cons_succ]; rfl)))) | ((with_reducible apply lexA_a); (focus rfl); (focus rfl); (focus rfl); (focus (intro w' hS; skip; simp [go_sem, effAt, ↓IntWalk.iteOmega, *]; (try go_ints); (first | (with_reducible exact effUpon_val) | (with_reducible exact effUpon_skip)))); (focus ((simp only [Act.put, List.setIfInBounds_toArray, List.set_cons_zero, List.set_cons_succ]; rfl)))))
          with_reducible apply lexA_e (fun w' => SB w' g pad (swp dk (c) (at_)) ∧ World.grownBy u w' (some g))
          (focus (first | exact wanted_none rfl | exact wanted_yes rfl rfl rfl))
          focus rfl
          focus
            rintro w' ⟨hB', hg'⟩
            have hf_d := hB'.frozen
            have hc_d := hB'.cell
            obtain ⟨z, hz⟩ := SZ.out
            simp [go_sem, effAt, *]
            exact ⟨rfl, by have h := hB'.set_ (at_) (.int .u8 y1); rw [SW.out] at h; exact h, grown_set hg'⟩
          focus exact fun _ _ => trivial
          (focus (first | (apply put_some rfl; focus (conv => lhs; dsimp only [List.set_cons_zero, List.set_cons_succ]) <;> rfl) | exact put_none rfl))
          with_reducible apply lexA_nil
          rintro un ⟨hB_n, hg_n⟩
          have hG2 := grown_trans hG hg_n
          have hB_r2 := Blk.grown hB_r hg_n (by intro e; injection e with e; omega)
          clear hB_d hc_d hG hg_n hB_r
          have Fun : Below un.heap.size un un := Below.refl _ _
          repeat (first | with_reducible apply wpList_nil | with_reducible apply seq_region | with_reducible apply wp_region_lit | with_reducible apply wp_seq | ((with_reducible apply seq_q); (focus rfl); (focus (simp [go_sem, effAt, ↓IntWalk.iteOmega, *]; (try go_ints); (first | (with_reducible exact effUpon_val) | (with_reducible exact effUpon_skip)))); (focus ((simp only [Act.put, List.setIfInBounds_toArray, List.set_cons_zero, List.set_cons_succ]; rfl)))) | ((with_reducible apply seq_s); (focus rfl); (focus ((simp only [Act.put, List.setIfInBounds_toArray, List.set_cons_zero, List.set_cons_succ]; rfl)))) | with_reducible apply wp_block | with_reducible apply wp_skip | with_reducible apply wp_exit | with_reducible apply wp_ret | ((with_reducible apply wp_cond_true); (focus (first | rfl | (simp [go_sem, *]; done)))) | ((with_reducible apply wp_cond_false); (focus (first | rfl | (simp [go_sem, *]; done)))) | (simp only [Exit.then, Exit.inBlock, ↓reduceIte, Nat.reduceEqDiff]))
          refine hK _ _ (Handed.intro k ?measure (hJ _ _ _ ?_))
          rotate_left
          (repeat apply Exists.intro)
          refine ⟨?rel, rfl⟩
          case rel => exact ⟨c + 1, X', swp dk c at_, by go_num, by have := HK.out; omega, HT.out, by rw [swp_size]; exact HD.out, hR, hB_r2, hB_n, hG2⟩
          case measure => omega
end Go.Proofs.Ytckjgdlceckhpaa
