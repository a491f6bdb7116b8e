/- The walks of siftDownOrdered[uint8], heapSortOrdered[uint8]. -/
import Derived.Test.YtckjgdlceckhpaaS1
set_option linter.unusedSimpArgs false
set_option linter.unusedVariables false
namespace Go.Proofs.Ytckjgdlceckhpaa
open Go.RowKit Go.Eff
open Go.Sort (swp ltInt siftDown heapBuild heapPop heapSort)
attribute [local irreducible] Go.wpList
section
variable {lt : Int → Int → Bool} {hi f r : Nat} {d : Array Int}
theorem sd_end (h : 2 * r + 1 ≥ hi) : siftDown lt hi f r d = d := by
  rw [siftDown, dif_pos h]
/-- the child that is taken -/
def pickCh (lt : Int → Int → Bool) (hi f r : Nat) (d : Array Int) (c : Nat) : Prop :=
  (c = 2 * r + 1 ∧ (2 * r + 1 + 1 < hi && lt d[f + (2 * r + 1)]! d[f + (2 * r + 1) + 1]!) = false) ∨ (c = 2 * r + 2 ∧ c < hi ∧ (2 * r + 1 + 1 < hi && lt d[f + (2 * r + 1)]! d[f + (2 * r + 1) + 1]!) = true)
theorem sd_stop {c : Nat} (h : 2 * r + 1 < hi) (hc : pickCh lt hi f r d c) (hl : lt d[f + r]! d[f + c]! = false) : siftDown lt hi f r d = d := by
  rw [siftDown, dif_neg (by omega)]
  rcases hc with ⟨rfl, hc⟩ | ⟨rfl, h2, hc⟩
  · rw [hc, if_neg Bool.false_ne_true, if_pos (by simp [hl])]
  · rw [hc, if_pos rfl, if_pos (by simp [hl])]
theorem sd_go {c : Nat} (h : 2 * r + 1 < hi) (hc : pickCh lt hi f r d c) (hl : lt d[f + r]! d[f + c]! = true) : siftDown lt hi f r d = siftDown lt hi f c (swp d (f + r) (f + c)) := by
  rw [siftDown, dif_neg (by omega)]
  rcases hc with ⟨rfl, hc⟩ | ⟨rfl, h2, hc⟩
  · rw [hc, if_neg Bool.false_ne_true, if_neg (by simp [hl])]
  · rw [hc, if_pos rfl, if_neg (by simp [hl]), dif_pos h2]
end
theorem sift_size {lt : Int → Int → Bool} (hi f : Nat) : ∀ (n r : Nat) (d : Array Int), hi - r ≤ n → (siftDown lt hi f r d).size = d.size := by
  intro n
  induction n with
  | zero => intro r d h; rw [sd_end (by omega)]
  | succ n ih =>
    intro r d h
    by_cases h1 : 2 * r + 1 ≥ hi
    · rw [sd_end h1]
    · have hp : ∃ c, pickCh lt hi f r d c ∧ r < c := by
        unfold pickCh
        cases hb : (2 * r + 1 + 1 < hi && lt d[f + (2 * r + 1)]! d[f + (2 * r + 1) + 1]!)
        · exact ⟨_, .inl ⟨rfl, rfl⟩, by omega⟩
        · exact ⟨2 * r + 2, (.inr ⟨rfl, (by simp at hb; omega), rfl⟩), by omega⟩
      obtain ⟨c, hc, hrc⟩ := hp
      cases hl : lt d[f + r]! d[f + c]! with
      | false => rw [sd_stop (by omega) hc hl]
      | true => rw [sd_go (by omega) hc hl, ih c _ (by omega), swp_size]
set_option maxRecDepth 100000 in
set_option maxHeartbeats 4000000 in
theorem sift_any (g cap lo hi f : Nat) (pad : List Value) (d : Array Int) (w : World) (hB_d : SB w g pad d) (hlo : lo ≤ hi) (hb : f + hi ≤ d.size) (hsz : d.size ≤ 1000) :
    Calls Try.prog 38 #[.slice (some ⟨g, 0, none⟩) d.size cap, .int .i64 lo, .int .i64 hi, .int .i64 f] w (Ret (.tuple #[]) fun w' => SB w' g pad (siftDown ltInt hi f lo d) ∧ w.grownBy w' (some g)) := by
  obtain ⟨n, hn⟩ : ∃ n, d.size = n := ⟨_, rfl⟩
  obtain ⟨R, hR⟩ : ∃ R, siftDown ltInt hi f lo d = R := ⟨_, rfl⟩
  rw [hR]
  rw [hn] at hb hsz ⊢
  have HN := Lib.hid hn
  clear hn
  go_enter Try.func38, Try.ntmps38
  have F0 : Below w.heap.size w w := Below.refl _ _
  repeat (first | with_reducible apply wpList_nil | with_reducible apply seq_region | with_reducible apply wp_region_lit | with_reducible apply wp_seq | ((with_reducible apply seq_q); (focus rfl); (focus (simp [go_sem, effAt, ↓IntWalk.iteOmega, *]; (try go_ints); (first | (with_reducible exact effUpon_val) | (with_reducible exact effUpon_skip)))); (focus ((simp only [Act.put, List.setIfInBounds_toArray, List.set_cons_zero, List.set_cons_succ]; rfl)))) | ((with_reducible apply seq_s); (focus rfl); (focus ((simp only [Act.put, List.setIfInBounds_toArray, List.set_cons_zero, List.set_cons_succ]; rfl)))) | with_reducible apply wp_block | with_reducible apply wp_skip | with_reducible apply wp_exit | with_reducible apply wp_ret | ((with_reducible apply wp_cond_true); (focus (first | rfl | (simp [go_sem, *]; done)))) | ((with_reducible apply wp_cond_false); (focus (first | rfl | (simp [go_sem, *]; done)))) | (simp only [Exit.then, Exit.inBlock, ↓reduceIte, Nat.reduceEqDiff]))
  have hnI : (n : Int) ≤ 1000 := by omega
  have hbI : (f : Int) + (hi : Int) ≤ (n : Int) := by omega
  have hfI : (f : Int) ≤ 1000 := by omega
  have hhI : (hi : Int) ≤ 1000 := by omega
  go_loopg [8, 9] (hi + 1) (fun q v8 v9 wr => ∃ (r : Nat) (dk : Array Int), v8 = .int .i64 (r : Int) ∧ r ≤ hi ∧ hi < r + q ∧ dk.size = n ∧ siftDown ltInt hi f r dk = R ∧ SB wr g pad dk ∧ w.grownBy wr (some g))
  case atStart => exact ⟨lo, d, rfl, hlo, by omega, HN.out, hR, hB_d, World.grownBy.refl _ _⟩
  case round =>
    rename_i J K hJ hK
    clear hR F0 hB_d
    obtain ⟨r, dk, rfl, hr1, hr2, hdk, hR, hB_d, hG⟩ := hrel
    obtain ⟨c1, hc1⟩ : ∃ c1, 2 * r + 1 = c1 := ⟨_, rfl⟩
    have hc1I : 2 * (r : Int) + 1 = (c1 : Int) := by omega
    have hrI : (r : Int) ≤ 1000 := by omega
    have hcI : (c1 : Int) ≤ 2001 := by omega
    by_cases hlt : hi ≤ c1
    case pos =>
      have hlt' : (hi : Int) ≤ (c1 : Int) := by omega
      rw [sd_end (by omega)] at hR
      subst hR
      clear hJ hK hc1
      skip
      have Fwr : Below wr.heap.size wr wr := Below.refl _ _
      repeat (first | with_reducible apply wpList_nil | with_reducible apply seq_region | with_reducible apply wp_region_lit | with_reducible apply wp_seq | ((with_reducible apply seq_q); (focus rfl); (focus (simp [go_sem, effAt, ↓IntWalk.iteOmega, *]; (try go_ints); (first | (with_reducible exact effUpon_val) | (with_reducible exact effUpon_skip)))); (focus ((simp only [Act.put, List.setIfInBounds_toArray, List.set_cons_zero, List.set_cons_succ]; rfl)))) | ((with_reducible apply seq_s); (focus rfl); (focus ((simp only [Act.put, List.setIfInBounds_toArray, List.set_cons_zero, List.set_cons_succ]; rfl)))) | with_reducible apply wp_block | with_reducible apply wp_skip | with_reducible apply wp_exit | with_reducible apply wp_ret | ((with_reducible apply wp_cond_true); (focus (first | rfl | (simp [go_sem, *]; done)))) | ((with_reducible apply wp_cond_false); (focus (first | rfl | (simp [go_sem, *]; done)))) | (simp only [Exit.then, Exit.inBlock, ↓reduceIte, Nat.reduceEqDiff]))
      refine bodyPost_end (results_none rfl _ _ _) rfl ⟨rfl, hB_d, hG⟩
    case neg =>
      have hlt' : ¬ (hi : Int) ≤ (c1 : Int) := by omega
      obtain ⟨fc, hfc⟩ : ∃ fc, f + c1 = fc := ⟨_, rfl⟩
      obtain ⟨fr, hfr⟩ : ∃ fr, f + r = fr := ⟨_, rfl⟩
      have hfcI : (f : Int) + (c1 : Int) = (fc : Int) := by omega
      have hfcJ : (f : Int) + ((c1 : Int) + 1) = (fc : Int) + 1 := by omega
      have hfrI : (f : Int) + (r : Int) = (fr : Int) := by omega
      have b1 : (fc : Int) < (n : Int) := by omega
      have b2 : (fr : Int) < (n : Int) := by omega
      have HC1 := Lib.hid hc1
      have HFC := Lib.hid hfc
      have HFR := Lib.hid hfr
      obtain ⟨xr, hxr⟩ : ∃ x, dk[fr]! = x := ⟨_, rfl⟩
      obtain ⟨xc, hxc⟩ : ∃ x, dk[fc]! = x := ⟨_, rfl⟩
      have er := cellsS_get pad (show fr < dk.size by omega) hxr
      have ec := cellsS_get pad (show fc < dk.size by omega) hxc
      have HD := Lib.hid hdk
      have HXR := Lib.hid hxr
      have HXC := Lib.hid hxc
      clear hfc hfr hc1 hxr hxc
      by_cases h2 : c1 + 1 < hi
      case neg =>
        have h2' : ¬ (c1 : Int) + 1 < (hi : Int) := by omega
        have hp : pickCh ltInt hi f r dk c1 := .inl ⟨HC1.out.symm, by simp; omega⟩
        clear hdk
        skip
        have Fwr : Below wr.heap.size wr wr := Below.refl _ _
        have hc_d := hB_d.cell
        repeat (first | with_reducible apply wpList_nil | with_reducible apply seq_region | with_reducible apply wp_region_lit | with_reducible apply wp_seq | ((with_reducible apply seq_q); (focus rfl); (focus (simp [go_sem, effAt, ↓IntWalk.iteOmega, *]; (try go_ints); (first | (with_reducible exact effUpon_val) | (with_reducible exact effUpon_skip)))); (focus ((simp only [Act.put, List.setIfInBounds_toArray, List.set_cons_zero, List.set_cons_succ]; rfl)))) | ((with_reducible apply seq_s); (focus rfl); (focus ((simp only [Act.put, List.setIfInBounds_toArray, List.set_cons_zero, List.set_cons_succ]; rfl)))) | with_reducible apply wp_block | with_reducible apply wp_skip | with_reducible apply wp_exit | with_reducible apply wp_ret | ((with_reducible apply wp_cond_true); (focus (first | rfl | (simp [go_sem, *]; done)))) | ((with_reducible apply wp_cond_false); (focus (first | rfl | (simp [go_sem, *]; done)))) | (simp only [Exit.then, Exit.inBlock, ↓reduceIte, Nat.reduceEqDiff]))
        refine wp_region_pure (E := fun i => [18].contains i) (by kernel_rfl) (by kernel_rfl) ?_
        repeat (first | ((with_reducible apply lex_q); (focus rfl); (focus rfl); (focus (intro w' hS; have hc_d := (hB_d.below hS hB_d.lt).cell; simp [go_sem, effAt, ↓IntWalk.iteOmega, *]; (try go_ints); (first | (with_reducible exact effUpon_val) | (with_reducible exact effUpon_skip)))); (focus ((simp only [Act.put, List.setIfInBounds_toArray, List.set_cons_zero, List.set_cons_succ]; rfl)))) | ((with_reducible apply lex_s); (focus rfl); (focus ((simp only [Act.put, List.setIfInBounds_toArray, List.set_cons_zero, List.set_cons_succ]; rfl)))))
        with_reducible apply lex_nil
        intro w1 hs
        have Fw1 := Fwr.trans (hs.mono Fwr.size)
        replace hB_d := hB_d.below hs hB_d.lt
        clear hs Fwr
        clear hc_d; have hc_d := hB_d.cell
        repeat (first | with_reducible apply wpList_nil | with_reducible apply seq_region | with_reducible apply wp_region_lit | with_reducible apply wp_seq | ((with_reducible apply seq_q); (focus rfl); (focus (simp [go_sem, effAt, ↓IntWalk.iteOmega, *]; (try go_ints); (first | (with_reducible exact effUpon_val) | (with_reducible exact effUpon_skip)))); (focus ((simp only [Act.put, List.setIfInBounds_toArray, List.set_cons_zero, List.set_cons_succ]; rfl)))) | ((with_reducible apply seq_s); (focus rfl); (focus ((simp only [Act.put, List.setIfInBounds_toArray, List.set_cons_zero, List.set_cons_succ]; rfl)))) | with_reducible apply wp_block | with_reducible apply wp_skip | with_reducible apply wp_exit | with_reducible apply wp_ret | ((with_reducible apply wp_cond_true); (focus (first | rfl | (simp [go_sem, *]; done)))) | ((with_reducible apply wp_cond_false); (focus (first | rfl | (simp [go_sem, *]; done)))) | (simp only [Exit.then, Exit.inBlock, ↓reduceIte, Nat.reduceEqDiff]))
        obtain ⟨m, hm⟩ : ∃ m, ltInt xr xc = m := ⟨_, rfl⟩
        have hM := less_any xr xc
        rw [hm] at hM
        have hfe : f + (c1) = fc := by have := HFC.out; omega
        have SW := Lib.hid (cellsS_swp pad (i := fr) (j := fc) (by have := HD.out; omega) (by have := HD.out; omega) HXR.out HXC.out)
        have SZ := Lib.hid (cellsS_get2 (d := dk) pad (i := fr) (j := fc) xc (by have := HD.out; omega) (by have := HD.out; omega))
        cases m with
        | false =>
          rw [sd_stop (by have := HC1.out; omega) hp (by rw [HFR.out, hfe, HXR.out, HXC.out]; exact hm)] at hR
          subst hR
          clear hJ hK hm hfe
          refine wp_region_pure (E := fun i => [12].contains i) (by kernel_rfl) (by kernel_rfl) ?_
          repeat (first | ((with_reducible apply lex_q); (focus rfl); (focus rfl); (focus (intro w' hS; have hc_d := (hB_d.below hS hB_d.lt).cell; simp [go_sem, effAt, ↓IntWalk.iteOmega, *]; (try go_ints); (first | (with_reducible exact effUpon_val) | (with_reducible exact effUpon_skip)))); (focus ((simp only [Act.put, List.setIfInBounds_toArray, List.set_cons_zero, List.set_cons_succ]; rfl)))) | ((with_reducible apply lex_s); (focus rfl); (focus ((simp only [Act.put, List.setIfInBounds_toArray, List.set_cons_zero, List.set_cons_succ]; rfl)))))
          ((with_reducible apply lex_e (Below w1.heap.size w1)); (focus rfl); (focus rfl); (focus (intro w' hS; simp only [effAt]; simp [go_sem]; (with_reducible exact eff_call hS (hM _)))); (focus (exact fun _ h => h)); (focus ((simp only [Act.put, List.setIfInBounds_toArray, List.set_cons_zero, List.set_cons_succ]; rfl))))
          repeat (first | ((with_reducible apply lex_q); (focus rfl); (focus rfl); (focus (intro w' hS; have hc_d := (hB_d.below hS hB_d.lt).cell; simp [go_sem, effAt, ↓IntWalk.iteOmega, *]; (try go_ints); (first | (with_reducible exact effUpon_val) | (with_reducible exact effUpon_skip)))); (focus ((simp only [Act.put, List.setIfInBounds_toArray, List.set_cons_zero, List.set_cons_succ]; rfl)))) | ((with_reducible apply lex_s); (focus rfl); (focus ((simp only [Act.put, List.setIfInBounds_toArray, List.set_cons_zero, List.set_cons_succ]; rfl)))))
          with_reducible apply lex_nil
          intro w2 hs
          have Fw2 := Fw1.trans (hs.mono Fw1.size)
          replace hB_d := hB_d.below hs hB_d.lt
          clear hs Fw1
          clear hc_d; have hc_d := hB_d.cell
          repeat (first | with_reducible apply wpList_nil | with_reducible apply seq_region | with_reducible apply wp_region_lit | with_reducible apply wp_seq | ((with_reducible apply seq_q); (focus rfl); (focus (simp [go_sem, effAt, ↓IntWalk.iteOmega, *]; (try go_ints); (first | (with_reducible exact effUpon_val) | (with_reducible exact effUpon_skip)))); (focus ((simp only [Act.put, List.setIfInBounds_toArray, List.set_cons_zero, List.set_cons_succ]; rfl)))) | ((with_reducible apply seq_s); (focus rfl); (focus ((simp only [Act.put, List.setIfInBounds_toArray, List.set_cons_zero, List.set_cons_succ]; rfl)))) | with_reducible apply wp_block | with_reducible apply wp_skip | with_reducible apply wp_exit | with_reducible apply wp_ret | ((with_reducible apply wp_cond_true); (focus (first | rfl | (simp [go_sem, *]; done)))) | ((with_reducible apply wp_cond_false); (focus (first | rfl | (simp [go_sem, *]; done)))) | (simp only [Exit.then, Exit.inBlock, ↓reduceIte, Nat.reduceEqDiff]))
          refine bodyPost_end (results_none rfl _ _ _) rfl ⟨rfl, by assumption, grown_trans hG (grown_below (by assumption) _)⟩
        | true =>
          rw [sd_go (by have := HC1.out; omega) hp (by rw [HFR.out, hfe, HXR.out, HXC.out]; exact hm), HFR.out, hfe] at hR
          clear hm hfe
          refine wp_region_pure (E := fun i => [12].contains i) (by kernel_rfl) (by kernel_rfl) ?_
          repeat (first | ((with_reducible apply lex_q); (focus rfl); (focus rfl); (focus (intro w' hS; have hc_d := (hB_d.below hS hB_d.lt).cell; simp [go_sem, effAt, ↓IntWalk.iteOmega, *]; (try go_ints); (first | (with_reducible exact effUpon_val) | (with_reducible exact effUpon_skip)))); (focus ((simp only [Act.put, List.setIfInBounds_toArray, List.set_cons_zero, List.set_cons_succ]; rfl)))) | ((with_reducible apply lex_s); (focus rfl); (focus ((simp only [Act.put, List.setIfInBounds_toArray, List.set_cons_zero, List.set_cons_succ]; rfl)))))
          ((with_reducible apply lex_e (Below w1.heap.size w1)); (focus rfl); (focus rfl); (focus (intro w' hS; simp only [effAt]; simp [go_sem]; (with_reducible exact eff_call hS (hM _)))); (focus (exact fun _ h => h)); (focus ((simp only [Act.put, List.setIfInBounds_toArray, List.set_cons_zero, List.set_cons_succ]; rfl))))
          repeat (first | ((with_reducible apply lex_q); (focus rfl); (focus rfl); (focus (intro w' hS; have hc_d := (hB_d.below hS hB_d.lt).cell; simp [go_sem, effAt, ↓IntWalk.iteOmega, *]; (try go_ints); (first | (with_reducible exact effUpon_val) | (with_reducible exact effUpon_skip)))); (focus ((simp only [Act.put, List.setIfInBounds_toArray, List.set_cons_zero, List.set_cons_succ]; rfl)))) | ((with_reducible apply lex_s); (focus rfl); (focus ((simp only [Act.put, List.setIfInBounds_toArray, List.set_cons_zero, List.set_cons_succ]; rfl)))))
          with_reducible apply lex_nil
          intro w3 hs
          have Fw3 := Fw1.trans (hs.mono Fw1.size)
          replace hB_d := hB_d.below hs hB_d.lt
          clear hs Fw1
          clear hc_d; have hc_d := hB_d.cell
          repeat (first | with_reducible apply wpList_nil | with_reducible apply seq_region | with_reducible apply wp_region_lit | with_reducible apply wp_seq | ((with_reducible apply seq_q); (focus rfl); (focus (simp [go_sem, effAt, ↓IntWalk.iteOmega, *]; (try go_ints); (first | (with_reducible exact effUpon_val) | (with_reducible exact effUpon_skip)))); (focus ((simp only [Act.put, List.setIfInBounds_toArray, List.set_cons_zero, List.set_cons_succ]; rfl)))) | ((with_reducible apply seq_s); (focus rfl); (focus ((simp only [Act.put, List.setIfInBounds_toArray, List.set_cons_zero, List.set_cons_succ]; rfl)))) | with_reducible apply wp_block | with_reducible apply wp_skip | with_reducible apply wp_exit | with_reducible apply wp_ret | ((with_reducible apply wp_cond_true); (focus (first | rfl | (simp [go_sem, *]; done)))) | ((with_reducible apply wp_cond_false); (focus (first | rfl | (simp [go_sem, *]; done)))) | (simp only [Exit.then, Exit.inBlock, ↓reduceIte, Nat.reduceEqDiff]))
          refine wp_region_effA (S := fun _ => True) (I := (· = World.drew w3)) (E := fun i => [21, 23].contains i) (A := fun i => [13, 19].contains i) (by kernel_rfl) (by kernel_rfl) rfl (fun _ _ => trivial) ?_
          repeat (first | ((with_reducible apply lexA_q); (focus rfl); (focus rfl); (focus rfl); (focus (intro w' hS; simp [go_sem, effAt, ↓IntWalk.iteOmega, *]; (try go_ints); (first | (with_reducible exact effUpon_val) | (with_reducible exact effUpon_skip)))); (focus ((simp only [Act.put, List.setIfInBounds_toArray, List.set_cons_zero, List.set_cons_succ]; rfl)))) | ((with_reducible apply lexA_s); (focus rfl); (focus ((simp only [Act.put, List.setIfInBounds_toArray, List.set_cons_zero, List.set_cons_succ]; rfl)))) | ((with_reducible apply lexA_a); (focus rfl); (focus rfl); (focus rfl); (focus (intro w' hS; subst hS; simp [go_sem, effAt, ↓IntWalk.iteOmega, *]; (try go_ints); (first | (with_reducible exact effUpon_val) | (with_reducible exact effUpon_skip)))); (focus ((simp only [Act.put, List.setIfInBounds_toArray, List.set_cons_zero, List.set_cons_succ]; rfl)))))
          with_reducible apply lexA_e (fun w' => Blk w' g 5 ((cellsS pad dk).setIfInBounds (fr) (.int .u8 xc)) ∧ World.grownBy w3 w' (some g))
          (focus (first | exact wanted_none rfl | exact wanted_yes rfl rfl rfl))
          focus rfl
          focus
            intro w' hS
            subst hS
            have hf_d := hB_d.frozen
            simp [go_sem, effAt, *]
            exact ⟨rfl, hB_d.drew.set_ (fr) _, grown_undrew (grown_set (World.grownBy.refl _ _))⟩
          focus exact fun _ _ => trivial
          (focus (first | (apply put_some rfl; focus (conv => lhs; dsimp only [List.set_cons_zero, List.set_cons_succ]) <;> rfl) | exact put_none rfl))
          repeat (first | ((with_reducible apply lexA_q); (focus rfl); (focus rfl); (focus rfl); (focus (intro w' hS; simp [go_sem, effAt, ↓IntWalk.iteOmega, *]; (try go_ints); (first | (with_reducible exact effUpon_val) | (with_reducible exact effUpon_skip)))); (focus ((simp only [Act.put, List.setIfInBounds_toArray, List.set_cons_zero, List.set_cons_succ]; rfl)))) | ((with_reducible apply lexA_s); (focus rfl); (focus ((simp only [Act.put, List.setIfInBounds_toArray, List.set_cons_zero, List.set_cons_succ]; rfl)))) | ((with_reducible apply lexA_a); (focus rfl); (focus rfl); (focus rfl); (focus (intro w' hS; skip; simp [go_sem, effAt, ↓IntWalk.iteOmega, *]; (try go_ints); (first | (with_reducible exact effUpon_val) | (with_reducible exact effUpon_skip)))); (focus ((simp only [Act.put, List.setIfInBounds_toArray, List.set_cons_zero, List.set_cons_succ]; rfl)))))
          with_reducible apply lexA_e (fun w' => SB w' g pad (swp dk (fr) (fc)) ∧ World.grownBy w3 w' (some g))
          (focus (first | exact wanted_none rfl | exact wanted_yes rfl rfl rfl))
          focus rfl
          focus
            rintro w' ⟨hB', hg'⟩
            have hf_d := hB'.frozen
            have hc_d := hB'.cell
            obtain ⟨z, hz⟩ := SZ.out
            simp [go_sem, effAt, *]
            exact ⟨rfl, by have h := hB'.set_ (fc) (.int .u8 xr); rw [SW.out] at h; exact h, grown_set hg'⟩
          focus exact fun _ _ => trivial
          (focus (first | (apply put_some rfl; focus (conv => lhs; dsimp only [List.set_cons_zero, List.set_cons_succ]) <;> rfl) | exact put_none rfl))
          with_reducible apply lexA_nil
          rintro w3n ⟨hB_n, hg_n⟩
          have hG2 := grown_trans (grown_trans hG (grown_below (by assumption : Below wr.heap.size wr w3) _)) hg_n
          clear hB_d hc_d hg_n
          have Fw3n : Below w3n.heap.size w3n w3n := Below.refl _ _
          repeat (first | with_reducible apply wpList_nil | with_reducible apply seq_region | with_reducible apply wp_region_lit | with_reducible apply wp_seq | ((with_reducible apply seq_q); (focus rfl); (focus (simp [go_sem, effAt, ↓IntWalk.iteOmega, *]; (try go_ints); (first | (with_reducible exact effUpon_val) | (with_reducible exact effUpon_skip)))); (focus ((simp only [Act.put, List.setIfInBounds_toArray, List.set_cons_zero, List.set_cons_succ]; rfl)))) | ((with_reducible apply seq_s); (focus rfl); (focus ((simp only [Act.put, List.setIfInBounds_toArray, List.set_cons_zero, List.set_cons_succ]; rfl)))) | with_reducible apply wp_block | with_reducible apply wp_skip | with_reducible apply wp_exit | with_reducible apply wp_ret | ((with_reducible apply wp_cond_true); (focus (first | rfl | (simp [go_sem, *]; done)))) | ((with_reducible apply wp_cond_false); (focus (first | rfl | (simp [go_sem, *]; done)))) | (simp only [Exit.then, Exit.inBlock, ↓reduceIte, Nat.reduceEqDiff]))
          refine hK _ _ (Handed.intro (gk - 1) ?measure (hJ _ _ _ ?_))
          rotate_left
          (repeat apply Exists.intro)
          refine ⟨?rel, rfl⟩
          case rel => exact ⟨c1, swp dk fr (fc), by go_num, by omega, by have := HC1.out; omega, by rw [swp_size]; exact HD.out, hR, hB_n, hG2⟩
          case measure => have := HC1.out; omega
      case pos =>
        have h2' : (c1 : Int) + 1 < (hi : Int) := by omega
        have b3 : (fc : Int) + 1 < (n : Int) := by omega
        obtain ⟨xd, hxd⟩ : ∃ x, dk[fc + 1]! = x := ⟨_, rfl⟩
        have ed := cellsS_get pad (show fc + 1 < dk.size by omega) hxd
        have HXD := Lib.hid hxd
        clear hdk hxd
        have hL := less_any xc xd
        obtain ⟨l, hl⟩ : ∃ l, ltInt xc xd = l := ⟨_, rfl⟩
        rw [hl] at hL
        cases l with
        | false =>
          have hp : pickCh ltInt hi f r dk c1 := by
            refine .inl ⟨HC1.out.symm, ?_⟩
            rw [HC1.out, HFC.out, HXC.out, HXD.out, hl, Bool.and_false]
          clear hl
          skip
          have Fwr : Below wr.heap.size wr wr := Below.refl _ _
          have hc_d := hB_d.cell
          repeat (first | with_reducible apply wpList_nil | with_reducible apply seq_region | with_reducible apply wp_region_lit | with_reducible apply wp_seq | ((with_reducible apply seq_q); (focus rfl); (focus (simp [go_sem, effAt, ↓IntWalk.iteOmega, *]; (try go_ints); (first | (with_reducible exact effUpon_val) | (with_reducible exact effUpon_skip)))); (focus ((simp only [Act.put, List.setIfInBounds_toArray, List.set_cons_zero, List.set_cons_succ]; rfl)))) | ((with_reducible apply seq_s); (focus rfl); (focus ((simp only [Act.put, List.setIfInBounds_toArray, List.set_cons_zero, List.set_cons_succ]; rfl)))) | with_reducible apply wp_block | with_reducible apply wp_skip | with_reducible apply wp_exit | with_reducible apply wp_ret | ((with_reducible apply wp_cond_true); (focus (first | rfl | (simp [go_sem, *]; done)))) | ((with_reducible apply wp_cond_false); (focus (first | rfl | (simp [go_sem, *]; done)))) | (simp only [Exit.then, Exit.inBlock, ↓reduceIte, Nat.reduceEqDiff]))
          refine wp_region_pure (E := fun i => [18].contains i) (by kernel_rfl) (by kernel_rfl) ?_
          repeat (first | ((with_reducible apply lex_q); (focus rfl); (focus rfl); (focus (intro w' hS; have hc_d := (hB_d.below hS hB_d.lt).cell; simp [go_sem, effAt, ↓IntWalk.iteOmega, *]; (try go_ints); (first | (with_reducible exact effUpon_val) | (with_reducible exact effUpon_skip)))); (focus ((simp only [Act.put, List.setIfInBounds_toArray, List.set_cons_zero, List.set_cons_succ]; rfl)))) | ((with_reducible apply lex_s); (focus rfl); (focus ((simp only [Act.put, List.setIfInBounds_toArray, List.set_cons_zero, List.set_cons_succ]; rfl)))))
          ((with_reducible apply lex_e (Below wr.heap.size wr)); (focus rfl); (focus rfl); (focus (intro w' hS; simp only [effAt]; simp [go_sem]; (with_reducible exact eff_call hS (hL _)))); (focus (exact fun _ h => h)); (focus ((simp only [Act.put, List.setIfInBounds_toArray, List.set_cons_zero, List.set_cons_succ]; rfl))))
          repeat (first | ((with_reducible apply lex_q); (focus rfl); (focus rfl); (focus (intro w' hS; have hc_d := (hB_d.below hS hB_d.lt).cell; simp [go_sem, effAt, ↓IntWalk.iteOmega, *]; (try go_ints); (first | (with_reducible exact effUpon_val) | (with_reducible exact effUpon_skip)))); (focus ((simp only [Act.put, List.setIfInBounds_toArray, List.set_cons_zero, List.set_cons_succ]; rfl)))) | ((with_reducible apply lex_s); (focus rfl); (focus ((simp only [Act.put, List.setIfInBounds_toArray, List.set_cons_zero, List.set_cons_succ]; rfl)))))
          with_reducible apply lex_nil
          intro w1 hs
          have Fw1 := Fwr.trans (hs.mono Fwr.size)
          replace hB_d := hB_d.below hs hB_d.lt
          clear hs Fwr
          clear hc_d; have hc_d := hB_d.cell
          repeat (first | with_reducible apply wpList_nil | with_reducible apply seq_region | with_reducible apply wp_region_lit | with_reducible apply wp_seq | ((with_reducible apply seq_q); (focus rfl); (focus (simp [go_sem, effAt, ↓IntWalk.iteOmega, *]; (try go_ints); (first | (with_reducible exact effUpon_val) | (with_reducible exact effUpon_skip)))); (focus ((simp only [Act.put, List.setIfInBounds_toArray, List.set_cons_zero, List.set_cons_succ]; rfl)))) | ((with_reducible apply seq_s); (focus rfl); (focus ((simp only [Act.put, List.setIfInBounds_toArray, List.set_cons_zero, List.set_cons_succ]; rfl)))) | with_reducible apply wp_block | with_reducible apply wp_skip | with_reducible apply wp_exit | with_reducible apply wp_ret | ((with_reducible apply wp_cond_true); (focus (first | rfl | (simp [go_sem, *]; done)))) | ((with_reducible apply wp_cond_false); (focus (first | rfl | (simp [go_sem, *]; done)))) | (simp only [Exit.then, Exit.inBlock, ↓reduceIte, Nat.reduceEqDiff]))
          obtain ⟨m, hm⟩ : ∃ m, ltInt xr xc = m := ⟨_, rfl⟩
          have hM := less_any xr xc
          rw [hm] at hM
          have hfe : f + (c1) = fc := by have := HFC.out; omega
          have SW := Lib.hid (cellsS_swp pad (i := fr) (j := fc) (by have := HD.out; omega) (by have := HD.out; omega) HXR.out HXC.out)
          have SZ := Lib.hid (cellsS_get2 (d := dk) pad (i := fr) (j := fc) xc (by have := HD.out; omega) (by have := HD.out; omega))
          cases m with
          | false =>
            rw [sd_stop (by have := HC1.out; omega) hp (by rw [HFR.out, hfe, HXR.out, HXC.out]; exact hm)] at hR
            subst hR
            clear hJ hK hm hfe
            refine wp_region_pure (E := fun i => [12].contains i) (by kernel_rfl) (by kernel_rfl) ?_
            repeat (first | ((with_reducible apply lex_q); (focus rfl); (focus rfl); (focus (intro w' hS; have hc_d := (hB_d.below hS hB_d.lt).cell; simp [go_sem, effAt, ↓IntWalk.iteOmega, *]; (try go_ints); (first | (with_reducible exact effUpon_val) | (with_reducible exact effUpon_skip)))); (focus ((simp only [Act.put, List.setIfInBounds_toArray, List.set_cons_zero, List.set_cons_succ]; rfl)))) | ((with_reducible apply lex_s); (focus rfl); (focus ((simp only [Act.put, List.setIfInBounds_toArray, List.set_cons_zero, List.set_cons_succ]; rfl)))))
            ((with_reducible apply lex_e (Below w1.heap.size w1)); (focus rfl); (focus rfl); (focus (intro w' hS; simp only [effAt]; simp [go_sem]; (with_reducible exact eff_call hS (hM _)))); (focus (exact fun _ h => h)); (focus ((simp only [Act.put, List.setIfInBounds_toArray, List.set_cons_zero, List.set_cons_succ]; rfl))))
            repeat (first | ((with_reducible apply lex_q); (focus rfl); (focus rfl); (focus (intro w' hS; have hc_d := (hB_d.below hS hB_d.lt).cell; simp [go_sem, effAt, ↓IntWalk.iteOmega, *]; (try go_ints); (first | (with_reducible exact effUpon_val) | (with_reducible exact effUpon_skip)))); (focus ((simp only [Act.put, List.setIfInBounds_toArray, List.set_cons_zero, List.set_cons_succ]; rfl)))) | ((with_reducible apply lex_s); (focus rfl); (focus ((simp only [Act.put, List.setIfInBounds_toArray, List.set_cons_zero, List.set_cons_succ]; rfl)))))
            with_reducible apply lex_nil
            intro w2 hs
            have Fw2 := Fw1.trans (hs.mono Fw1.size)
            replace hB_d := hB_d.below hs hB_d.lt
            clear hs Fw1
            clear hc_d; have hc_d := hB_d.cell
            repeat (first | with_reducible apply wpList_nil | with_reducible apply seq_region | with_reducible apply wp_region_lit | with_reducible apply wp_seq | ((with_reducible apply seq_q); (focus rfl); (focus (simp [go_sem, effAt, ↓IntWalk.iteOmega, *]; (try go_ints); (first | (with_reducible exact effUpon_val) | (with_reducible exact effUpon_skip)))); (focus ((simp only [Act.put, List.setIfInBounds_toArray, List.set_cons_zero, List.set_cons_succ]; rfl)))) | ((with_reducible apply seq_s); (focus rfl); (focus ((simp only [Act.put, List.setIfInBounds_toArray, List.set_cons_zero, List.set_cons_succ]; rfl)))) | with_reducible apply wp_block | with_reducible apply wp_skip | with_reducible apply wp_exit | with_reducible apply wp_ret | ((with_reducible apply wp_cond_true); (focus (first | rfl | (simp [go_sem, *]; done)))) | ((with_reducible apply wp_cond_false); (focus (first | rfl | (simp [go_sem, *]; done)))) | (simp only [Exit.then, Exit.inBlock, ↓reduceIte, Nat.reduceEqDiff]))
            refine bodyPost_end (results_none rfl _ _ _) rfl ⟨rfl, by assumption, grown_trans hG (grown_below (by assumption) _)⟩
          | true =>
            rw [sd_go (by have := HC1.out; omega) hp (by rw [HFR.out, hfe, HXR.out, HXC.out]; exact hm), HFR.out, hfe] at hR
            clear hm hfe
            refine wp_region_pure (E := fun i => [12].contains i) (by kernel_rfl) (by kernel_rfl) ?_
            repeat (first | ((with_reducible apply lex_q); (focus rfl); (focus rfl); (focus (intro w' hS; have hc_d := (hB_d.below hS hB_d.lt).cell; simp [go_sem, effAt, ↓IntWalk.iteOmega, *]; (try go_ints); (first | (with_reducible exact effUpon_val) | (with_reducible exact effUpon_skip)))); (focus ((simp only [Act.put, List.setIfInBounds_toArray, List.set_cons_zero, List.set_cons_succ]; rfl)))) | ((with_reducible apply lex_s); (focus rfl); (focus ((simp only [Act.put, List.setIfInBounds_toArray, List.set_cons_zero, List.set_cons_succ]; rfl)))))
            ((with_reducible apply lex_e (Below w1.heap.size w1)); (focus rfl); (focus rfl); (focus (intro w' hS; simp only [effAt]; simp [go_sem]; (with_reducible exact eff_call hS (hM _)))); (focus (exact fun _ h => h)); (focus ((simp only [Act.put, List.setIfInBounds_toArray, List.set_cons_zero, List.set_cons_succ]; rfl))))
            repeat (first | ((with_reducible apply lex_q); (focus rfl); (focus rfl); (focus (intro w' hS; have hc_d := (hB_d.below hS hB_d.lt).cell; simp [go_sem, effAt, ↓IntWalk.iteOmega, *]; (try go_ints); (first | (with_reducible exact effUpon_val) | (with_reducible exact effUpon_skip)))); (focus ((simp only [Act.put, List.setIfInBounds_toArray, List.set_cons_zero, List.set_cons_succ]; rfl)))) | ((with_reducible apply lex_s); (focus rfl); (focus ((simp only [Act.put, List.setIfInBounds_toArray, List.set_cons_zero, List.set_cons_succ]; rfl)))))
            with_reducible apply lex_nil
            intro w3 hs
            have Fw3 := Fw1.trans (hs.mono Fw1.size)
            replace hB_d := hB_d.below hs hB_d.lt
            clear hs Fw1
            clear hc_d; have hc_d := hB_d.cell
            repeat (first | with_reducible apply wpList_nil | with_reducible apply seq_region | with_reducible apply wp_region_lit | with_reducible apply wp_seq | ((with_reducible apply seq_q); (focus rfl); (focus (simp [go_sem, effAt, ↓IntWalk.iteOmega, *]; (try go_ints); (first | (with_reducible exact effUpon_val) | (with_reducible exact effUpon_skip)))); (focus ((simp only [Act.put, List.setIfInBounds_toArray, List.set_cons_zero, List.set_cons_succ]; rfl)))) | ((with_reducible apply seq_s); (focus rfl); (focus ((simp only [Act.put, List.setIfInBounds_toArray, List.set_cons_zero, List.set_cons_succ]; rfl)))) | with_reducible apply wp_block | with_reducible apply wp_skip | with_reducible apply wp_exit | with_reducible apply wp_ret | ((with_reducible apply wp_cond_true); (focus (first | rfl | (simp [go_sem, *]; done)))) | ((with_reducible apply wp_cond_false); (focus (first | rfl | (simp [go_sem, *]; done)))) | (simp only [Exit.then, Exit.inBlock, ↓reduceIte, Nat.reduceEqDiff]))
            refine wp_region_effA (S := fun _ => True) (I := (· = World.drew w3)) (E := fun i => [21, 23].contains i) (A := fun i => [13, 19].contains i) (by kernel_rfl) (by kernel_rfl) rfl (fun _ _ => trivial) ?_
            repeat (first | ((with_reducible apply lexA_q); (focus rfl); (focus rfl); (focus rfl); (focus (intro w' hS; simp [go_sem, effAt, ↓IntWalk.iteOmega, *]; (try go_ints); (first | (with_reducible exact effUpon_val) | (with_reducible exact effUpon_skip)))); (focus ((simp only [Act.put, List.setIfInBounds_toArray, List.set_cons_zero, List.set_cons_succ]; rfl)))) | ((with_reducible apply lexA_s); (focus rfl); (focus ((simp only [Act.put, List.setIfInBounds_toArray, List.set_cons_zero, List.set_cons_succ]; rfl)))) | ((with_reducible apply lexA_a); (focus rfl); (focus rfl); (focus rfl); (focus (intro w' hS; subst hS; simp [go_sem, effAt, ↓IntWalk.iteOmega, *]; (try go_ints); (first | (with_reducible exact effUpon_val) | (with_reducible exact effUpon_skip)))); (focus ((simp only [Act.put, List.setIfInBounds_toArray, List.set_cons_zero, List.set_cons_succ]; rfl)))))
            with_reducible apply lexA_e (fun w' => Blk w' g 5 ((cellsS pad dk).setIfInBounds (fr) (.int .u8 xc)) ∧ World.grownBy w3 w' (some g))
            (focus (first | exact wanted_none rfl | exact wanted_yes rfl rfl rfl))
            focus rfl
            focus
              intro w' hS
              subst hS
              have hf_d := hB_d.frozen
              simp [go_sem, effAt, *]
              exact ⟨rfl, hB_d.drew.set_ (fr) _, grown_undrew (grown_set (World.grownBy.refl _ _))⟩
            focus exact fun _ _ => trivial
            (focus (first | (apply put_some rfl; focus (conv => lhs; dsimp only [List.set_cons_zero, List.set_cons_succ]) <;> rfl) | exact put_none rfl))
            repeat (first | ((with_reducible apply lexA_q); (focus rfl); (focus rfl); (focus rfl); (focus (intro w' hS; simp [go_sem, effAt, ↓IntWalk.iteOmega, *]; (try go_ints); (first | (with_reducible exact effUpon_val) | (with_reducible exact effUpon_skip)))); (focus ((simp only [Act.put, List.setIfInBounds_toArray, List.set_cons_zero, List.set_cons_succ]; rfl)))) | ((with_reducible apply lexA_s); (focus rfl); (focus ((simp only [Act.put, List.setIfInBounds_toArray, List.set_cons_zero, List.set_cons_succ]; rfl)))) | ((with_reducible apply lexA_a); (focus rfl); (focus rfl); (focus rfl); (focus (intro w' hS; skip; simp [go_sem, effAt, ↓IntWalk.iteOmega, *]; (try go_ints); (first | (with_reducible exact effUpon_val) | (with_reducible exact effUpon_skip)))); (focus ((simp only [Act.put, List.setIfInBounds_toArray, List.set_cons_zero, List.set_cons_succ]; rfl)))))
            with_reducible apply lexA_e (fun w' => SB w' g pad (swp dk (fr) (fc)) ∧ World.grownBy w3 w' (some g))
            (focus (first | exact wanted_none rfl | exact wanted_yes rfl rfl rfl))
            focus rfl
            focus
              rintro w' ⟨hB', hg'⟩
              have hf_d := hB'.frozen
              have hc_d := hB'.cell
              obtain ⟨z, hz⟩ := SZ.out
              simp [go_sem, effAt, *]
              exact ⟨rfl, by have h := hB'.set_ (fc) (.int .u8 xr); rw [SW.out] at h; exact h, grown_set hg'⟩
            focus exact fun _ _ => trivial
            (focus (first | (apply put_some rfl; focus (conv => lhs; dsimp only [List.set_cons_zero, List.set_cons_succ]) <;> rfl) | exact put_none rfl))
            with_reducible apply lexA_nil
            rintro w3n ⟨hB_n, hg_n⟩
            have hG2 := grown_trans (grown_trans hG (grown_below (by assumption : Below wr.heap.size wr w3) _)) hg_n
            clear hB_d hc_d hg_n
            have Fw3n : Below w3n.heap.size w3n w3n := Below.refl _ _
            repeat (first | with_reducible apply wpList_nil | with_reducible apply seq_region | with_reducible apply wp_region_lit | with_reducible apply wp_seq | ((with_reducible apply seq_q); (focus rfl); (focus (simp [go_sem, effAt, ↓IntWalk.iteOmega, *]; (try go_ints); (first | (with_reducible exact effUpon_val) | (with_reducible exact effUpon_skip)))); (focus ((simp only [Act.put, List.setIfInBounds_toArray, List.set_cons_zero, List.set_cons_succ]; rfl)))) | ((with_reducible apply seq_s); (focus rfl); (focus ((simp only [Act.put, List.setIfInBounds_toArray, List.set_cons_zero, List.set_cons_succ]; rfl)))) | with_reducible apply wp_block | with_reducible apply wp_skip | with_reducible apply wp_exit | with_reducible apply wp_ret | ((with_reducible apply wp_cond_true); (focus (first | rfl | (simp [go_sem, *]; done)))) | ((with_reducible apply wp_cond_false); (focus (first | rfl | (simp [go_sem, *]; done)))) | (simp only [Exit.then, Exit.inBlock, ↓reduceIte, Nat.reduceEqDiff]))
            refine hK _ _ (Handed.intro (gk - 1) ?measure (hJ _ _ _ ?_))
            rotate_left
            (repeat apply Exists.intro)
            refine ⟨?rel, rfl⟩
            case rel => exact ⟨c1, swp dk fr (fc), by go_num, by omega, by have := HC1.out; omega, by rw [swp_size]; exact HD.out, hR, hB_n, hG2⟩
            case measure => have := HC1.out; omega
        | true =>
          have hp : pickCh ltInt hi f r dk (c1 + 1) := by
            refine .inr ⟨by have := HC1.out; omega, h2, ?_⟩
            rw [HC1.out, HFC.out, HXC.out, HXD.out, hl, Bool.and_true]
            simpa using h2
          clear hl
          skip
          have Fwr : Below wr.heap.size wr wr := Below.refl _ _
          have hc_d := hB_d.cell
          repeat (first | with_reducible apply wpList_nil | with_reducible apply seq_region | with_reducible apply wp_region_lit | with_reducible apply wp_seq | ((with_reducible apply seq_q); (focus rfl); (focus (simp [go_sem, effAt, ↓IntWalk.iteOmega, *]; (try go_ints); (first | (with_reducible exact effUpon_val) | (with_reducible exact effUpon_skip)))); (focus ((simp only [Act.put, List.setIfInBounds_toArray, List.set_cons_zero, List.set_cons_succ]; rfl)))) | ((with_reducible apply seq_s); (focus rfl); (focus ((simp only [Act.put, List.setIfInBounds_toArray, List.set_cons_zero, List.set_cons_succ]; rfl)))) | with_reducible apply wp_block | with_reducible apply wp_skip | with_reducible apply wp_exit | with_reducible apply wp_ret | ((with_reducible apply wp_cond_true); (focus (first | rfl | (simp [go_sem, *]; done)))) | ((with_reducible apply wp_cond_false); (focus (first | rfl | (simp [go_sem, *]; done)))) | (simp only [Exit.then, Exit.inBlock, ↓reduceIte, Nat.reduceEqDiff]))
          refine wp_region_pure (E := fun i => [18].contains i) (by kernel_rfl) (by kernel_rfl) ?_
          repeat (first | ((with_reducible apply lex_q); (focus rfl); (focus rfl); (focus (intro w' hS; have hc_d := (hB_d.below hS hB_d.lt).cell; simp [go_sem, effAt, ↓IntWalk.iteOmega, *]; (try go_ints); (first | (with_reducible exact effUpon_val) | (with_reducible exact effUpon_skip)))); (focus ((simp only [Act.put, List.setIfInBounds_toArray, List.set_cons_zero, List.set_cons_succ]; rfl)))) | ((with_reducible apply lex_s); (focus rfl); (focus ((simp only [Act.put, List.setIfInBounds_toArray, List.set_cons_zero, List.set_cons_succ]; rfl)))))
          ((with_reducible apply lex_e (Below wr.heap.size wr)); (focus rfl); (focus rfl); (focus (intro w' hS; simp only [effAt]; simp [go_sem]; (with_reducible exact eff_call hS (hL _)))); (focus (exact fun _ h => h)); (focus ((simp only [Act.put, List.setIfInBounds_toArray, List.set_cons_zero, List.set_cons_succ]; rfl))))
          repeat (first | ((with_reducible apply lex_q); (focus rfl); (focus rfl); (focus (intro w' hS; have hc_d := (hB_d.below hS hB_d.lt).cell; simp [go_sem, effAt, ↓IntWalk.iteOmega, *]; (try go_ints); (first | (with_reducible exact effUpon_val) | (with_reducible exact effUpon_skip)))); (focus ((simp only [Act.put, List.setIfInBounds_toArray, List.set_cons_zero, List.set_cons_succ]; rfl)))) | ((with_reducible apply lex_s); (focus rfl); (focus ((simp only [Act.put, List.setIfInBounds_toArray, List.set_cons_zero, List.set_cons_succ]; rfl)))))
          with_reducible apply lex_nil
          intro w1 hs
          have Fw1 := Fwr.trans (hs.mono Fwr.size)
          replace hB_d := hB_d.below hs hB_d.lt
          clear hs Fwr
          clear hc_d; have hc_d := hB_d.cell
          repeat (first | with_reducible apply wpList_nil | with_reducible apply seq_region | with_reducible apply wp_region_lit | with_reducible apply wp_seq | ((with_reducible apply seq_q); (focus rfl); (focus (simp [go_sem, effAt, ↓IntWalk.iteOmega, *]; (try go_ints); (first | (with_reducible exact effUpon_val) | (with_reducible exact effUpon_skip)))); (focus ((simp only [Act.put, List.setIfInBounds_toArray, List.set_cons_zero, List.set_cons_succ]; rfl)))) | ((with_reducible apply seq_s); (focus rfl); (focus ((simp only [Act.put, List.setIfInBounds_toArray, List.set_cons_zero, List.set_cons_succ]; rfl)))) | with_reducible apply wp_block | with_reducible apply wp_skip | with_reducible apply wp_exit | with_reducible apply wp_ret | ((with_reducible apply wp_cond_true); (focus (first | rfl | (simp [go_sem, *]; done)))) | ((with_reducible apply wp_cond_false); (focus (first | rfl | (simp [go_sem, *]; done)))) | (simp only [Exit.then, Exit.inBlock, ↓reduceIte, Nat.reduceEqDiff]))
          obtain ⟨m, hm⟩ : ∃ m, ltInt xr xd = m := ⟨_, rfl⟩
          have hM := less_any xr xd
          rw [hm] at hM
          have hfe : f + (c1 + 1) = fc + 1 := by have := HFC.out; omega
          have SW := Lib.hid (cellsS_swp pad (i := fr) (j := fc + 1) (by have := HD.out; omega) (by have := HD.out; omega) HXR.out HXD.out)
          have SZ := Lib.hid (cellsS_get2 (d := dk) pad (i := fr) (j := fc + 1) xd (by have := HD.out; omega) (by have := HD.out; omega))
          cases m with
          | false =>
            rw [sd_stop (by have := HC1.out; omega) hp (by rw [HFR.out, hfe, HXR.out, HXD.out]; exact hm)] at hR
            subst hR
            clear hJ hK hm hfe
            refine wp_region_pure (E := fun i => [12].contains i) (by kernel_rfl) (by kernel_rfl) ?_
            repeat (first | ((with_reducible apply lex_q); (focus rfl); (focus rfl); (focus (intro w' hS; have hc_d := (hB_d.below hS hB_d.lt).cell; simp [go_sem, effAt, ↓IntWalk.iteOmega, *]; (try go_ints); (first | (with_reducible exact effUpon_val) | (with_reducible exact effUpon_skip)))); (focus ((simp only [Act.put, List.setIfInBounds_toArray, List.set_cons_zero, List.set_cons_succ]; rfl)))) | ((with_reducible apply lex_s); (focus rfl); (focus ((simp only [Act.put, List.setIfInBounds_toArray, List.set_cons_zero, List.set_cons_succ]; rfl)))))
            ((with_reducible apply lex_e (Below w1.heap.size w1)); (focus rfl); (focus rfl); (focus (intro w' hS; simp only [effAt]; simp [go_sem]; (with_reducible exact eff_call hS (hM _)))); (focus (exact fun _ h => h)); (focus ((simp only [Act.put, List.setIfInBounds_toArray, List.set_cons_zero, List.set_cons_succ]; rfl))))
            repeat (first | ((with_reducible apply lex_q); (focus rfl); (focus rfl); (focus (intro w' hS; have hc_d := (hB_d.below hS hB_d.lt).cell; simp [go_sem, effAt, ↓IntWalk.iteOmega, *]; (try go_ints); (first | (with_reducible exact effUpon_val) | (with_reducible exact effUpon_skip)))); (focus ((simp only [Act.put, List.setIfInBounds_toArray, List.set_cons_zero, List.set_cons_succ]; rfl)))) | ((with_reducible apply lex_s); (focus rfl); (focus ((simp only [Act.put, List.setIfInBounds_toArray, List.set_cons_zero, List.set_cons_succ]; rfl)))))
            with_reducible apply lex_nil
            intro w2 hs
            have Fw2 := Fw1.trans (hs.mono Fw1.size)
            replace hB_d := hB_d.below hs hB_d.lt
            clear hs Fw1
            clear hc_d; have hc_d := hB_d.cell
            repeat (first | with_reducible apply wpList_nil | with_reducible apply seq_region | with_reducible apply wp_region_lit | with_reducible apply wp_seq | ((with_reducible apply seq_q); (focus rfl); (focus (simp [go_sem, effAt, ↓IntWalk.iteOmega, *]; (try go_ints); (first | (with_reducible exact effUpon_val) | (with_reducible exact effUpon_skip)))); (focus ((simp only [Act.put, List.setIfInBounds_toArray, List.set_cons_zero, List.set_cons_succ]; rfl)))) | ((with_reducible apply seq_s); (focus rfl); (focus ((simp only [Act.put, List.setIfInBounds_toArray, List.set_cons_zero, List.set_cons_succ]; rfl)))) | with_reducible apply wp_block | with_reducible apply wp_skip | with_reducible apply wp_exit | with_reducible apply wp_ret | ((with_reducible apply wp_cond_true); (focus (first | rfl | (simp [go_sem, *]; done)))) | ((with_reducible apply wp_cond_false); (focus (first | rfl | (simp [go_sem, *]; done)))) | (simp only [Exit.then, Exit.inBlock, ↓reduceIte, Nat.reduceEqDiff]))
            refine bodyPost_end (results_none rfl _ _ _) rfl ⟨rfl, by assumption, grown_trans hG (grown_below (by assumption) _)⟩
          | true =>
            rw [sd_go (by have := HC1.out; omega) hp (by rw [HFR.out, hfe, HXR.out, HXD.out]; exact hm), HFR.out, hfe] at hR
            clear hm hfe
            refine wp_region_pure (E := fun i => [12].contains i) (by kernel_rfl) (by kernel_rfl) ?_
            repeat (first | ((with_reducible apply lex_q); (focus rfl); (focus rfl); (focus (intro w' hS; have hc_d := (hB_d.below hS hB_d.lt).cell; simp [go_sem, effAt, ↓IntWalk.iteOmega, *]; (try go_ints); (first | (with_reducible exact effUpon_val) | (with_reducible exact effUpon_skip)))); (focus ((simp only [Act.put, List.setIfInBounds_toArray, List.set_cons_zero, List.set_cons_succ]; rfl)))) | ((with_reducible apply lex_s); (focus rfl); (focus ((simp only [Act.put, List.setIfInBounds_toArray, List.set_cons_zero, List.set_cons_succ]; rfl)))))
            ((with_reducible apply lex_e (Below w1.heap.size w1)); (focus rfl); (focus rfl); (focus (intro w' hS; simp only [effAt]; simp [go_sem]; (with_reducible exact eff_call hS (hM _)))); (focus (exact fun _ h => h)); (focus ((simp only [Act.put, List.setIfInBounds_toArray, List.set_cons_zero, List.set_cons_succ]; rfl))))
            repeat (first | ((with_reducible apply lex_q); (focus rfl); (focus rfl); (focus (intro w' hS; have hc_d := (hB_d.below hS hB_d.lt).cell; simp [go_sem, effAt, ↓IntWalk.iteOmega, *]; (try go_ints); (first | (with_reducible exact effUpon_val) | (with_reducible exact effUpon_skip)))); (focus ((simp only [Act.put, List.setIfInBounds_toArray, List.set_cons_zero, List.set_cons_succ]; rfl)))) | ((with_reducible apply lex_s); (focus rfl); (focus ((simp only [Act.put, List.setIfInBounds_toArray, List.set_cons_zero, List.set_cons_succ]; rfl)))))
            with_reducible apply lex_nil
            intro w3 hs
            have Fw3 := Fw1.trans (hs.mono Fw1.size)
            replace hB_d := hB_d.below hs hB_d.lt
            clear hs Fw1
            clear hc_d; have hc_d := hB_d.cell
            repeat (first | with_reducible apply wpList_nil | with_reducible apply seq_region | with_reducible apply wp_region_lit | with_reducible apply wp_seq | ((with_reducible apply seq_q); (focus rfl); (focus (simp [go_sem, effAt, ↓IntWalk.iteOmega, *]; (try go_ints); (first | (with_reducible exact effUpon_val) | (with_reducible exact effUpon_skip)))); (focus ((simp only [Act.put, List.setIfInBounds_toArray, List.set_cons_zero, List.set_cons_succ]; rfl)))) | ((with_reducible apply seq_s); (focus rfl); (focus ((simp only [Act.put, List.setIfInBounds_toArray, List.set_cons_zero, List.set_cons_succ]; rfl)))) | with_reducible apply wp_block | with_reducible apply wp_skip | with_reducible apply wp_exit | with_reducible apply wp_ret | ((with_reducible apply wp_cond_true); (focus (first | rfl | (simp [go_sem, *]; done)))) | ((with_reducible apply wp_cond_false); (focus (first | rfl | (simp [go_sem, *]; done)))) | (simp only [Exit.then, Exit.inBlock, ↓reduceIte, Nat.reduceEqDiff]))
            refine wp_region_effA (S := fun _ => True) (I := (· = World.drew w3)) (E := fun i => [21, 23].contains i) (A := fun i => [13, 19].contains i) (by kernel_rfl) (by kernel_rfl) rfl (fun _ _ => trivial) ?_
            repeat (first | ((with_reducible apply lexA_q); (focus rfl); (focus rfl); (focus rfl); (focus (intro w' hS; simp [go_sem, effAt, ↓IntWalk.iteOmega, *]; (try go_ints); (first | (with_reducible exact effUpon_val) | (with_reducible exact effUpon_skip)))); (focus ((simp only [Act.put, List.setIfInBounds_toArray, List.set_cons_zero, List.set_cons_succ]; rfl)))) | ((with_reducible apply lexA_s); (focus rfl); (focus ((simp only [Act.put, List.setIfInBounds_toArray, List.set_cons_zero, List.set_cons_succ]; rfl)))) | ((with_reducible apply lexA_a); (focus rfl); (focus rfl); (focus rfl); (focus (intro w' hS; subst hS; simp [go_sem, effAt, ↓IntWalk.iteOmega, *]; (try go_ints); (first | (with_reducible exact effUpon_val) | (with_reducible exact effUpon_skip)))); (focus ((simp only [Act.put, List.setIfInBounds_toArray, List.set_cons_zero, List.set_cons_succ]; rfl)))))
            with_reducible apply lexA_e (fun w' => Blk w' g 5 ((cellsS pad dk).setIfInBounds (fr) (.int .u8 xd)) ∧ World.grownBy w3 w' (some g))
            (focus (first | exact wanted_none rfl | exact wanted_yes rfl rfl rfl))
            focus rfl
            focus
              intro w' hS
              subst hS
              have hf_d := hB_d.frozen
              simp [go_sem, effAt, *]
              exact ⟨rfl, hB_d.drew.set_ (fr) _, grown_undrew (grown_set (World.grownBy.refl _ _))⟩
            focus exact fun _ _ => trivial
            (focus (first | (apply put_some rfl; focus (conv => lhs; dsimp only [List.set_cons_zero, List.set_cons_succ]) <;> rfl) | exact put_none rfl))
            repeat (first | ((with_reducible apply lexA_q); (focus rfl); (focus rfl); (focus rfl); (focus (intro w' hS; simp [go_sem, effAt, ↓IntWalk.iteOmega, *]; (try go_ints); (first | (with_reducible exact effUpon_val) | (with_reducible exact effUpon_skip)))); (focus ((simp only [Act.put, List.setIfInBounds_toArray, List.set_cons_zero, List.set_cons_succ]; rfl)))) | ((with_reducible apply lexA_s); (focus rfl); (focus ((simp only [Act.put, List.setIfInBounds_toArray, List.set_cons_zero, List.set_cons_succ]; rfl)))) | ((with_reducible apply lexA_a); (focus rfl); (focus rfl); (focus rfl); (focus (intro w' hS; skip; simp [go_sem, effAt, ↓IntWalk.iteOmega, *]; (try go_ints); (first | (with_reducible exact effUpon_val) | (with_reducible exact effUpon_skip)))); (focus ((simp only [Act.put, List.setIfInBounds_toArray, List.set_cons_zero, List.set_cons_succ]; rfl)))))
            with_reducible apply lexA_e (fun w' => SB w' g pad (swp dk (fr) (fc + 1)) ∧ World.grownBy w3 w' (some g))
            (focus (first | exact wanted_none rfl | exact wanted_yes rfl rfl rfl))
            focus rfl
            focus
              rintro w' ⟨hB', hg'⟩
              have hf_d := hB'.frozen
              have hc_d := hB'.cell
              obtain ⟨z, hz⟩ := SZ.out
              simp [go_sem, effAt, *]
              exact ⟨rfl, by have h := hB'.set_ (fc + 1) (.int .u8 xr); rw [SW.out] at h; exact h, grown_set hg'⟩
            focus exact fun _ _ => trivial
            (focus (first | (apply put_some rfl; focus (conv => lhs; dsimp only [List.set_cons_zero, List.set_cons_succ]) <;> rfl) | exact put_none rfl))
            with_reducible apply lexA_nil
            rintro w3n ⟨hB_n, hg_n⟩
            have hG2 := grown_trans (grown_trans hG (grown_below (by assumption : Below wr.heap.size wr w3) _)) hg_n
            clear hB_d hc_d hg_n
            have Fw3n : Below w3n.heap.size w3n w3n := Below.refl _ _
            repeat (first | with_reducible apply wpList_nil | with_reducible apply seq_region | with_reducible apply wp_region_lit | with_reducible apply wp_seq | ((with_reducible apply seq_q); (focus rfl); (focus (simp [go_sem, effAt, ↓IntWalk.iteOmega, *]; (try go_ints); (first | (with_reducible exact effUpon_val) | (with_reducible exact effUpon_skip)))); (focus ((simp only [Act.put, List.setIfInBounds_toArray, List.set_cons_zero, List.set_cons_succ]; rfl)))) | ((with_reducible apply seq_s); (focus rfl); (focus ((simp only [Act.put, List.setIfInBounds_toArray, List.set_cons_zero, List.set_cons_succ]; rfl)))) | with_reducible apply wp_block | with_reducible apply wp_skip | with_reducible apply wp_exit | with_reducible apply wp_ret | ((with_reducible apply wp_cond_true); (focus (first | rfl | (simp [go_sem, *]; done)))) | ((with_reducible apply wp_cond_false); (focus (first | rfl | (simp [go_sem, *]; done)))) | (simp only [Exit.then, Exit.inBlock, ↓reduceIte, Nat.reduceEqDiff]))
            refine hK _ _ (Handed.intro (gk - 1) ?measure (hJ _ _ _ ?_))
            rotate_left
            (repeat apply Exists.intro)
            refine ⟨?rel, rfl⟩
            case rel => exact ⟨c1 + 1, swp dk fr (fc + 1), by go_num, by omega, by have := HC1.out; omega, by rw [swp_size]; exact HD.out, hR, hB_n, hG2⟩
            case measure => have := HC1.out; omega
set_option maxRecDepth 100000 in
set_option maxHeartbeats 4000000 in
theorem heap_any (g cap a b : Nat) (pad : List Value) (d : Array Int) (w : World) (hB_d : SB w g pad d) (hab : a < b) (hb : b ≤ d.size) (hsz : d.size ≤ 1000) :
    Calls Try.prog 28 #[.slice (some ⟨g, 0, none⟩) d.size cap, .int .i64 a, .int .i64 b] w (Ret (.tuple #[]) fun w' => SB w' g pad (heapSort ltInt d a b) ∧ w.grownBy w' (some g)) := by
  obtain ⟨n, hn⟩ : ∃ n, d.size = n := ⟨_, rfl⟩
  obtain ⟨R, hR⟩ : ∃ R, heapSort ltInt d a b = R := ⟨_, rfl⟩
  obtain ⟨h, hh⟩ : ∃ h, b - a = h + 1 := ⟨b - a - 1, by omega⟩
  obtain ⟨k2, hk2⟩ : ∃ k, h / 2 = k := ⟨_, rfl⟩
  have hR1 : heapPop ltInt a (h + 1) (heapBuild ltInt (h + 1) a (k2 + 1) d) = R := by
    rw [← hR, heapSort, hh, ← hk2]
    rfl
  rw [hR]
  rw [hn] at hb hsz ⊢
  have HN := Lib.hid hn
  have hhI : (b : Int) - (a : Int) = (h : Int) + 1 := by omega
  have hkI : Int.tdiv (h : Int) 2 = (k2 : Int) := by rw [← hk2]; rfl
  have hnI : (n : Int) ≤ 1000 := by omega
  have haI : (a : Int) ≤ 1000 := by omega
  have hbI : (b : Int) ≤ 1000 := by omega
  have hhJ : (h : Int) ≤ 1000 := by omega
  have hkJ : (k2 : Int) ≤ 1000 := by omega
  have HH := Lib.hid hh
  have hk2h : k2 ≤ h := by omega
  clear hn hR hk2 hh
  go_enter Try.func28, Try.ntmps28
  have F0 : Below w.heap.size w w := Below.refl _ _
  repeat (first | with_reducible apply wpList_nil | with_reducible apply seq_region | with_reducible apply wp_region_lit | with_reducible apply wp_seq | ((with_reducible apply seq_q); (focus rfl); (focus (simp [go_sem, effAt, ↓IntWalk.iteOmega, *]; (try go_ints); (first | (with_reducible exact effUpon_val) | (with_reducible exact effUpon_skip)))); (focus ((simp only [Act.put, List.setIfInBounds_toArray, List.set_cons_zero, List.set_cons_succ]; rfl)))) | ((with_reducible apply seq_s); (focus rfl); (focus ((simp only [Act.put, List.setIfInBounds_toArray, List.set_cons_zero, List.set_cons_succ]; rfl)))) | with_reducible apply wp_block | with_reducible apply wp_skip | with_reducible apply wp_exit | with_reducible apply wp_ret | ((with_reducible apply wp_cond_true); (focus (first | rfl | (simp [go_sem, *]; done)))) | ((with_reducible apply wp_cond_false); (focus (first | rfl | (simp [go_sem, *]; done)))) | (simp only [Exit.then, Exit.inBlock, ↓reduceIte, Nat.reduceEqDiff]))
  go_loopg [9] (k2 + 1) (fun q v9 wr => ∃ (k : Nat) (x : Int) (dk : Array Int), v9 = .int .i64 x ∧ x = (k : Int) - 1 ∧ k ≤ q ∧ k ≤ k2 + 1 ∧ dk.size = n ∧ heapPop ltInt a (h + 1) (heapBuild ltInt (h + 1) a k dk) = R ∧ SB wr g pad dk ∧ w.grownBy wr (some g))
  case atStart => exact ⟨k2 + 1, _, d, rfl, by omega, Nat.le_refl _, Nat.le_refl _, HN.out, hR1, hB_d, World.grownBy.refl _ _⟩
  case round =>
    rename_i J K hJ hK
    clear hR1 F0 hB_d
    obtain ⟨k, x, dk, rfl, hx, hkq, hk2, hdk, hR, hB_d, hG⟩ := hrel
    cases k with
    | succ k =>
      obtain rfl : x = (k : Int) := by omega
      have hsd := fun u (hu : SB u g pad dk) => sift_any g cap k (h + 1) a pad dk u hu (by omega) (by have := HH.out; omega) (by omega)
      have hsz2 := sift_size (lt := ltInt) (h + 1) a _ k dk (Nat.le_refl _)
      rw [hdk] at hsd hsz2
      simp only [show ((h + 1 : Nat) : Int) = (h : Int) + 1 from rfl] at hsd
      have HS := Lib.hid hsz2
      clear hx hdk hsz2
      rw [heapBuild] at hR
      skip
      have Fwr : Below wr.heap.size wr wr := Below.refl _ _
      have hc_d := hB_d.cell
      repeat (first | with_reducible apply wpList_nil | with_reducible apply seq_region | with_reducible apply wp_region_lit | with_reducible apply wp_seq | ((with_reducible apply seq_q); (focus rfl); (focus (simp [go_sem, effAt, ↓IntWalk.iteOmega, *]; (try go_ints); (first | (with_reducible exact effUpon_val) | (with_reducible exact effUpon_skip)))); (focus ((simp only [Act.put, List.setIfInBounds_toArray, List.set_cons_zero, List.set_cons_succ]; rfl)))) | ((with_reducible apply seq_s); (focus rfl); (focus ((simp only [Act.put, List.setIfInBounds_toArray, List.set_cons_zero, List.set_cons_succ]; rfl)))) | with_reducible apply wp_block | with_reducible apply wp_skip | with_reducible apply wp_exit | with_reducible apply wp_ret | ((with_reducible apply wp_cond_true); (focus (first | rfl | (simp [go_sem, *]; done)))) | ((with_reducible apply wp_cond_false); (focus (first | rfl | (simp [go_sem, *]; done)))) | (simp only [Exit.then, Exit.inBlock, ↓reduceIte, Nat.reduceEqDiff]))
      with_reducible apply seq_e (fun w' => SB w' g pad (siftDown ltInt (h + 1) a k dk) ∧ wr.grownBy w' (some g))
      (focus (first | exact wanted_none rfl | exact wanted_yes rfl rfl rfl))
      (focus (simp only [effAt]; simp [go_sem]; (with_reducible exact effUpon_enter (hsd _ hB_d))))
      (simp only [Act.put, List.setIfInBounds_toArray, List.set_cons_zero, List.set_cons_succ]; rfl)
      rintro u ⟨hB_n, hg_n⟩
      have hG2 := grown_trans hG hg_n
      clear hB_d hc_d hg_n hsd
      have Fu : Below u.heap.size u u := Below.refl _ _
      repeat (first | with_reducible apply wpList_nil | with_reducible apply seq_region | with_reducible apply wp_region_lit | with_reducible apply wp_seq | ((with_reducible apply seq_q); (focus rfl); (focus (simp [go_sem, effAt, ↓IntWalk.iteOmega, *]; (try go_ints); (first | (with_reducible exact effUpon_val) | (with_reducible exact effUpon_skip)))); (focus ((simp only [Act.put, List.setIfInBounds_toArray, List.set_cons_zero, List.set_cons_succ]; rfl)))) | ((with_reducible apply seq_s); (focus rfl); (focus ((simp only [Act.put, List.setIfInBounds_toArray, List.set_cons_zero, List.set_cons_succ]; rfl)))) | with_reducible apply wp_block | with_reducible apply wp_skip | with_reducible apply wp_exit | with_reducible apply wp_ret | ((with_reducible apply wp_cond_true); (focus (first | rfl | (simp [go_sem, *]; done)))) | ((with_reducible apply wp_cond_false); (focus (first | rfl | (simp [go_sem, *]; done)))) | (simp only [Exit.then, Exit.inBlock, ↓reduceIte, Nat.reduceEqDiff]))
      refine hK _ _ (Handed.intro (gk - 1) ?measure (hJ _ _ _ ?_))
      rotate_left
      (repeat apply Exists.intro)
      refine ⟨?rel, rfl⟩
      case rel => exact ⟨k, _, _, rfl, by go_num, by omega, by omega, HS.out, hR, hB_n, hG2⟩
      case measure => omega
    | zero =>
      obtain rfl : x = -1 := by omega
      rw [heapBuild] at hR
      clear hJ hK hx
      skip
      have Fwr : Below wr.heap.size wr wr := Below.refl _ _
      repeat (first | with_reducible apply wpList_nil | with_reducible apply seq_region | with_reducible apply wp_region_lit | with_reducible apply wp_seq | ((with_reducible apply seq_q); (focus rfl); (focus (simp [go_sem, effAt, ↓IntWalk.iteOmega, *]; (try go_ints); (first | (with_reducible exact effUpon_val) | (with_reducible exact effUpon_skip)))); (focus ((simp only [Act.put, List.setIfInBounds_toArray, List.set_cons_zero, List.set_cons_succ]; rfl)))) | ((with_reducible apply seq_s); (focus rfl); (focus ((simp only [Act.put, List.setIfInBounds_toArray, List.set_cons_zero, List.set_cons_succ]; rfl)))) | with_reducible apply wp_block | with_reducible apply wp_skip | with_reducible apply wp_exit | with_reducible apply wp_ret | ((with_reducible apply wp_cond_true); (focus (first | rfl | (simp [go_sem, *]; done)))) | ((with_reducible apply wp_cond_false); (focus (first | rfl | (simp [go_sem, *]; done)))) | (simp only [Exit.then, Exit.inBlock, ↓reduceIte, Nat.reduceEqDiff]))
      go_loopg [10] (h + 1) (fun q v10 wr => ∃ (k : Nat) (x : Int) (dk : Array Int), v10 = .int .i64 x ∧ x = (k : Int) - 1 ∧ k ≤ q ∧ k ≤ h + 1 ∧ dk.size = n ∧ heapPop ltInt a k dk = R ∧ SB wr g pad dk ∧ w.grownBy wr (some g))
      case atStart => exact ⟨h + 1, _, dk, rfl, by omega, Nat.le_refl _, Nat.le_refl _, hdk, hR, hB_d, hG⟩
      case round =>
        rename_i J K hJ hK
        clear hR hB_d hG hdk
        obtain ⟨k, x, dk, rfl, hx, hkq, hk2, hdk, hR, hB_d, hG⟩ := hrel
        cases k with
        | succ k =>
          obtain rfl : x = (k : Int) := by omega
          obtain ⟨ak, hak⟩ : ∃ ak, a + k = ak := ⟨_, rfl⟩
          have hakI : (a : Int) + (k : Int) = (ak : Int) := by omega
          have hba : a < n := by omega
          have hbk : ak < n := by have := HH.out; omega
          have b1 : (a : Int) < (n : Int) := by omega
          have b2 : (ak : Int) < (n : Int) := by omega
          have hsd := fun u (hu : SB u g pad (swp dk a ak)) => sift_any g cap 0 k a pad (swp dk a ak) u hu (by omega) (by rw [swp_size, hdk]; omega) (by rw [swp_size, hdk]; omega)
          have hsz2 := sift_size (lt := ltInt) k a _ 0 (swp dk a ak) (Nat.le_refl _)
          rw [swp_size, hdk] at hsd hsz2
          simp only [show ((0 : Nat) : Int) = 0 from rfl] at hsd
          rw [heapPop, hak] at hR
          obtain ⟨xa, hxa⟩ : ∃ x, dk[a]! = x := ⟨_, rfl⟩
          obtain ⟨xk, hxk⟩ : ∃ x, dk[ak]! = x := ⟨_, rfl⟩
          have ea := cellsS_get pad (show a < dk.size by omega) hxa
          have ek := cellsS_get pad (show ak < dk.size by omega) hxk
          have SW := Lib.hid (cellsS_swp pad (i := a) (j := ak) (by omega) (by omega) hxa hxk)
          have SZ := Lib.hid (cellsS_get2 (d := dk) pad (i := a) (j := ak) xk (by omega) (by omega))
          have HS := Lib.hid hsz2
          clear hx hdk hsz2 hxa hxk hak
          skip
          have Fwr : Below wr.heap.size wr wr := Below.refl _ _
          have hc_d := hB_d.cell
          repeat (first | with_reducible apply wpList_nil | with_reducible apply seq_region | with_reducible apply wp_region_lit | with_reducible apply wp_seq | ((with_reducible apply seq_q); (focus rfl); (focus (simp [go_sem, effAt, ↓IntWalk.iteOmega, *]; (try go_ints); (first | (with_reducible exact effUpon_val) | (with_reducible exact effUpon_skip)))); (focus ((simp only [Act.put, List.setIfInBounds_toArray, List.set_cons_zero, List.set_cons_succ]; rfl)))) | ((with_reducible apply seq_s); (focus rfl); (focus ((simp only [Act.put, List.setIfInBounds_toArray, List.set_cons_zero, List.set_cons_succ]; rfl)))) | with_reducible apply wp_block | with_reducible apply wp_skip | with_reducible apply wp_exit | with_reducible apply wp_ret | ((with_reducible apply wp_cond_true); (focus (first | rfl | (simp [go_sem, *]; done)))) | ((with_reducible apply wp_cond_false); (focus (first | rfl | (simp [go_sem, *]; done)))) | (simp only [Exit.then, Exit.inBlock, ↓reduceIte, Nat.reduceEqDiff]))
          refine wp_region_effA (S := fun _ => True) (I := (· = World.drew wr)) (E := fun i => [17, 19].contains i) (A := fun i => [11, 15].contains i) (by kernel_rfl) (by kernel_rfl) rfl (fun _ _ => trivial) ?_
          repeat (first | ((with_reducible apply lexA_q); (focus rfl); (focus rfl); (focus rfl); (focus (intro w' hS; simp [go_sem, effAt, ↓IntWalk.iteOmega, *]; (try go_ints); (first | (with_reducible exact effUpon_val) | (with_reducible exact effUpon_skip)))); (focus ((simp only [Act.put, List.setIfInBounds_toArray, List.set_cons_zero, List.set_cons_succ]; rfl)))) | ((with_reducible apply lexA_s); (focus rfl); (focus ((simp only [Act.put, List.setIfInBounds_toArray, List.set_cons_zero, List.set_cons_succ]; rfl)))) | ((with_reducible apply lexA_a); (focus rfl); (focus rfl); (focus rfl); (focus (intro w' hS; subst hS; simp [go_sem, effAt, ↓IntWalk.iteOmega, *]; (try go_ints); (first | (with_reducible exact effUpon_val) | (with_reducible exact effUpon_skip)))); (focus ((simp only [Act.put, List.setIfInBounds_toArray, List.set_cons_zero, List.set_cons_succ]; rfl)))))
          with_reducible apply lexA_e (fun w' => Blk w' g 5 ((cellsS pad dk).setIfInBounds (a) (.int .u8 xk)) ∧ World.grownBy wr w' (some g))
          (focus (first | exact wanted_none rfl | exact wanted_yes rfl rfl rfl))
          focus rfl
          focus
            intro w' hS
            subst hS
            have hf_d := hB_d.frozen
            simp [go_sem, effAt, *]
            exact ⟨rfl, hB_d.drew.set_ (a) _, grown_undrew (grown_set (World.grownBy.refl _ _))⟩
          focus exact fun _ _ => trivial
          (focus (first | (apply put_some rfl; focus (conv => lhs; dsimp only [List.set_cons_zero, List.set_cons_succ]) <;> rfl) | exact put_none rfl))
          repeat (first | ((with_reducible apply lexA_q); (focus rfl); (focus rfl); (focus rfl); (focus (intro w' hS; simp [go_sem, effAt, ↓IntWalk.iteOmega, *]; (try go_ints); (first | (with_reducible exact effUpon_val) | (with_reducible exact effUpon_skip)))); (focus ((simp only [Act.put, List.setIfInBounds_toArray, List.set_cons_zero, List.set_cons_succ]; rfl)))) | ((with_reducible apply lexA_s); (focus rfl); (focus ((simp only [Act.put, List.setIfInBounds_toArray, List.set_cons_zero, List.set_cons_succ]; rfl)))) | ((with_reducible apply lexA_a); (focus rfl); (focus rfl); (focus rfl); (focus (intro w' hS; skip; simp [go_sem, effAt, ↓IntWalk.iteOmega, *]; (try go_ints); (first | (with_reducible exact effUpon_val) | (with_reducible exact effUpon_skip)))); (focus ((simp only [Act.put, List.setIfInBounds_toArray, List.set_cons_zero, List.set_cons_succ]; rfl)))))
          with_reducible apply lexA_e (fun w' => SB w' g pad (swp dk (a) (ak)) ∧ World.grownBy wr w' (some g))
          (focus (first | exact wanted_none rfl | exact wanted_yes rfl rfl rfl))
          focus rfl
          focus
            rintro w' ⟨hB', hg'⟩
            have hf_d := hB'.frozen
            have hc_d := hB'.cell
            obtain ⟨z, hz⟩ := SZ.out
            simp [go_sem, effAt, *]
            exact ⟨rfl, by have h := hB'.set_ (ak) (.int .u8 xa); rw [SW.out] at h; exact h, grown_set hg'⟩
          focus exact fun _ _ => trivial
          (focus (first | (apply put_some rfl; focus (conv => lhs; dsimp only [List.set_cons_zero, List.set_cons_succ]) <;> rfl) | exact put_none rfl))
          with_reducible apply lexA_nil
          rintro wrn ⟨hB_n, hg_n⟩
          have hG2 := grown_trans hG hg_n
          clear hB_d hc_d hg_n
          have hB_d := hB_n
          clear hB_n
          have Fwrn : Below wrn.heap.size wrn wrn := Below.refl _ _
          have hc_d := hB_d.cell
          repeat (first | with_reducible apply wpList_nil | with_reducible apply seq_region | with_reducible apply wp_region_lit | with_reducible apply wp_seq | ((with_reducible apply seq_q); (focus rfl); (focus (simp [go_sem, effAt, ↓IntWalk.iteOmega, *]; (try go_ints); (first | (with_reducible exact effUpon_val) | (with_reducible exact effUpon_skip)))); (focus ((simp only [Act.put, List.setIfInBounds_toArray, List.set_cons_zero, List.set_cons_succ]; rfl)))) | ((with_reducible apply seq_s); (focus rfl); (focus ((simp only [Act.put, List.setIfInBounds_toArray, List.set_cons_zero, List.set_cons_succ]; rfl)))) | with_reducible apply wp_block | with_reducible apply wp_skip | with_reducible apply wp_exit | with_reducible apply wp_ret | ((with_reducible apply wp_cond_true); (focus (first | rfl | (simp [go_sem, *]; done)))) | ((with_reducible apply wp_cond_false); (focus (first | rfl | (simp [go_sem, *]; done)))) | (simp only [Exit.then, Exit.inBlock, ↓reduceIte, Nat.reduceEqDiff]))
          with_reducible apply seq_e (fun w' => SB w' g pad (siftDown ltInt k a 0 (swp dk a ak)) ∧ wrn.grownBy w' (some g))
          (focus (first | exact wanted_none rfl | exact wanted_yes rfl rfl rfl))
          (focus (simp only [effAt]; simp [go_sem]; (with_reducible exact effUpon_enter (hsd _ hB_d))))
          (simp only [Act.put, List.setIfInBounds_toArray, List.set_cons_zero, List.set_cons_succ]; rfl)
          rintro u ⟨hB_n, hg_n⟩
          have hG3 := grown_trans hG2 hg_n
          clear hB_d hc_d hg_n hsd
          have Fu : Below u.heap.size u u := Below.refl _ _
          repeat (first | with_reducible apply wpList_nil | with_reducible apply seq_region | with_reducible apply wp_region_lit | with_reducible apply wp_seq | ((with_reducible apply seq_q); (focus rfl); (focus (simp [go_sem, effAt, ↓IntWalk.iteOmega, *]; (try go_ints); (first | (with_reducible exact effUpon_val) | (with_reducible exact effUpon_skip)))); (focus ((simp only [Act.put, List.setIfInBounds_toArray, List.set_cons_zero, List.set_cons_succ]; rfl)))) | ((with_reducible apply seq_s); (focus rfl); (focus ((simp only [Act.put, List.setIfInBounds_toArray, List.set_cons_zero, List.set_cons_succ]; rfl)))) | with_reducible apply wp_block | with_reducible apply wp_skip | with_reducible apply wp_exit | with_reducible apply wp_ret | ((with_reducible apply wp_cond_true); (focus (first | rfl | (simp [go_sem, *]; done)))) | ((with_reducible apply wp_cond_false); (focus (first | rfl | (simp [go_sem, *]; done)))) | (simp only [Exit.then, Exit.inBlock, ↓reduceIte, Nat.reduceEqDiff]))
          refine hK _ _ (Handed.intro (gk - 1) ?measure (hJ _ _ _ ?_))
          rotate_left
          (repeat apply Exists.intro)
          refine ⟨?rel, rfl⟩
          case rel => exact ⟨k, _, _, rfl, by go_num, by omega, by omega, HS.out, hR, hB_n, hG3⟩
          case measure => omega
        | zero =>
          obtain rfl : x = -1 := by omega
          rw [heapPop] at hR
          subst hR
          clear hJ hK hx
          skip
          have Fwr : Below wr.heap.size wr wr := Below.refl _ _
          repeat (first | with_reducible apply wpList_nil | with_reducible apply seq_region | with_reducible apply wp_region_lit | with_reducible apply wp_seq | ((with_reducible apply seq_q); (focus rfl); (focus (simp [go_sem, effAt, ↓IntWalk.iteOmega, *]; (try go_ints); (first | (with_reducible exact effUpon_val) | (with_reducible exact effUpon_skip)))); (focus ((simp only [Act.put, List.setIfInBounds_toArray, List.set_cons_zero, List.set_cons_succ]; rfl)))) | ((with_reducible apply seq_s); (focus rfl); (focus ((simp only [Act.put, List.setIfInBounds_toArray, List.set_cons_zero, List.set_cons_succ]; rfl)))) | with_reducible apply wp_block | with_reducible apply wp_skip | with_reducible apply wp_exit | with_reducible apply wp_ret | ((with_reducible apply wp_cond_true); (focus (first | rfl | (simp [go_sem, *]; done)))) | ((with_reducible apply wp_cond_false); (focus (first | rfl | (simp [go_sem, *]; done)))) | (simp only [Exit.then, Exit.inBlock, ↓reduceIte, Nat.reduceEqDiff]))
          refine bodyPost_end (results_none rfl _ _ _) rfl ⟨rfl, hB_d, hG⟩
end Go.Proofs.Ytckjgdlceckhpaa
