/- The walk of PnKnown. -/
import Derived.Test.YtcnckejeepkflaaW11
import Derived.Test.YtcnckejeepkflaaW12
import Derived.Test.YtcnckejeepkflaaKf
import Derived.Deep.LoopGhost
set_option linter.unusedSimpArgs false
set_option linter.unusedVariables false
namespace Go.Proofs.Ytcnckejeepkflaa
open Go.RowKit Go.Eff
attribute [local irreducible] Go.wpList
set_option maxRecDepth 100000 in
set_option maxHeartbeats 8000000 in
theorem known_any (w : World) : Calls Try.prog 6 #[] w (Ret (.bool true) (Below w.heap.size w)) := by
  have hRP := fun w1 => rput_t 5 2 3 7 10 300 3 2 w1 ex_may (by omega) (by omega) (by omega) (by omega)
  have hs8 : (octs 5 2 3 7 10 300 3 2).size = 8 := strOfNums_size _
  generalize octs 5 2 3 7 10 300 3 2 = S at *
  have HCV := Lib.hid (conv_bytes S hs8)
  obtain ⟨og, hog⟩ : ∃ og, w.heap.size = og := ⟨_, rfl⟩
  have HOG := Lib.hid hog
  clear hog
  go_enter Try.func6, Try.ntmps6
  have F0 : Below w.heap.size w w := Below.refl _ _
  repeat (first | with_reducible apply wpList_nil | ((with_reducible apply region_k); intro KK kk) | with_reducible apply wp_region_lit | ((with_reducible apply seq_k); intro KK kk) | ((with_reducible apply seq_q); (focus (first | exact wanted_none rfl | exact wanted_yes rfl rfl rfl)); (focus (simp [go_sem, effAt, ↓IntWalk.iteOmega, *]; (try go_ints); (first | (with_reducible exact effUpon_val) | (with_reducible exact effUpon_skip)))); (focus ((first | (apply put_some rfl; focus (conv => lhs; dsimp only [List.set_cons_zero, List.set_cons_succ]) <;> rfl) | exact put_none rfl)))) | ((with_reducible apply seq_s); (focus (first | exact wanted_no rfl rfl rfl | exact wanted_undef rfl rfl rfl)); (focus ((first | (apply put_some rfl; focus (conv => lhs; dsimp only [List.set_cons_zero, List.set_cons_succ]) <;> rfl) | exact put_none rfl)))) | with_reducible apply wp_block | with_reducible apply wp_skip | with_reducible apply wp_exit | with_reducible apply wp_ret | ((with_reducible apply wp_cond_true); (focus (first | rfl | (simp [go_sem, *]; done)))) | ((with_reducible apply wp_cond_false); (focus (first | rfl | (simp [go_sem, *]; done)))) | (simp only [Exit.then, Exit.inBlock, ↓reduceIte, Nat.reduceEqDiff]) | ((with_reducible apply kf_out); (focus assumption)))
  ((with_reducible apply seq_box); (focus rfl); (focus (simp [go_sem, effAt]; exact ⟨rfl, rfl⟩)); (focus ((first | (apply put_some rfl; focus (conv => lhs; dsimp only [List.set_cons_zero, List.set_cons_succ]) <;> rfl) | exact put_none rfl))))
  intro w1 hB_o hs
  have Fw1 := F0.trans (hs.mono F0.size)
  clear hs F0
  have hc_o := hB_o.cell
  have hf_o := hB_o.frozen
  ((with_reducible apply seq_e (fun w' => Blk w' _ _ _ ∧ w1.grownBy w' (some _))); (focus rfl); (focus (simp [go_sem, effAt, *]; exact ⟨rfl, ((((((((hB_o.set_ 0 _).set_ 1 _).set_ 2 _).set_ 3 _).set_ 4 _).set_ 5 _).set_ 6 _).set_ 7 _), (grown_set (grown_set (grown_set (grown_set (grown_set (grown_set (grown_set (grown_set (World.grownBy.refl _ _)))))))))⟩)); (focus ((first | (apply put_some rfl; focus (conv => lhs; dsimp only [List.set_cons_zero, List.set_cons_succ]) <;> rfl) | exact put_none rfl))))
  clear hf_o hc_o hB_o
  intro w2 hs
  obtain ⟨hB_o, hs⟩ := hs
  simp only [List.setIfInBounds_toArray, List.set_cons_zero, List.set_cons_succ] at hB_o
  have Fw2 := Fw1.grown hs Fw1.size (by intro k hk; first | (injection hk with hk; subst hk; first | exact Nat.le_refl _ | exact Fw1.size | omega) | omega)
  clear hs Fw1
  have hc_o := hB_o.cell
  repeat (first | with_reducible apply wpList_nil | ((with_reducible apply region_k); intro KK kk) | with_reducible apply wp_region_lit | ((with_reducible apply seq_k); intro KK kk) | ((with_reducible apply seq_q); (focus (first | exact wanted_none rfl | exact wanted_yes rfl rfl rfl)); (focus (simp [go_sem, effAt, ↓IntWalk.iteOmega, *]; (try go_ints); (first | (with_reducible exact effUpon_val) | (with_reducible exact effUpon_skip)))); (focus ((first | (apply put_some rfl; focus (conv => lhs; dsimp only [List.set_cons_zero, List.set_cons_succ]) <;> rfl) | exact put_none rfl)))) | ((with_reducible apply seq_s); (focus (first | exact wanted_no rfl rfl rfl | exact wanted_undef rfl rfl rfl)); (focus ((first | (apply put_some rfl; focus (conv => lhs; dsimp only [List.set_cons_zero, List.set_cons_succ]) <;> rfl) | exact put_none rfl)))) | with_reducible apply wp_block | with_reducible apply wp_skip | with_reducible apply wp_exit | with_reducible apply wp_ret | ((with_reducible apply wp_cond_true); (focus (first | rfl | (simp [go_sem, *]; done)))) | ((with_reducible apply wp_cond_false); (focus (first | rfl | (simp [go_sem, *]; done)))) | (simp only [Exit.then, Exit.inBlock, ↓reduceIte, Nat.reduceEqDiff]) | ((with_reducible apply kf_out); (focus assumption)))
  ((with_reducible apply seq_e (Below w2.heap.size w2)); (focus rfl); (focus (simp only [effAt]; simp [go_sem]; (with_reducible exact effUpon_enter (ref_any _ _ _ _ _ _ _ _ _)))); (focus ((first | (apply put_some rfl; focus (conv => lhs; dsimp only [List.set_cons_zero, List.set_cons_succ]) <;> rfl) | exact put_none rfl))))
  intro w3 hs
  have Fw3 := Fw2.trans (hs.mono Fw2.size)
  replace hB_o := hB_o.below hs hB_o.lt
  clear hs Fw2
  clear hc_o; have hc_o := hB_o.cell
  repeat (first | with_reducible apply wpList_nil | ((with_reducible apply region_k); intro KK kk) | with_reducible apply wp_region_lit | ((with_reducible apply seq_k); intro KK kk) | ((with_reducible apply seq_q); (focus (first | exact wanted_none rfl | exact wanted_yes rfl rfl rfl)); (focus (simp [go_sem, effAt, ↓IntWalk.iteOmega, *]; (try go_ints); (first | (with_reducible exact effUpon_val) | (with_reducible exact effUpon_skip)))); (focus ((first | (apply put_some rfl; focus (conv => lhs; dsimp only [List.set_cons_zero, List.set_cons_succ]) <;> rfl) | exact put_none rfl)))) | ((with_reducible apply seq_s); (focus (first | exact wanted_no rfl rfl rfl | exact wanted_undef rfl rfl rfl)); (focus ((first | (apply put_some rfl; focus (conv => lhs; dsimp only [List.set_cons_zero, List.set_cons_succ]) <;> rfl) | exact put_none rfl)))) | with_reducible apply wp_block | with_reducible apply wp_skip | with_reducible apply wp_exit | with_reducible apply wp_ret | ((with_reducible apply wp_cond_true); (focus (first | rfl | (simp [go_sem, *]; done)))) | ((with_reducible apply wp_cond_false); (focus (first | rfl | (simp [go_sem, *]; done)))) | (simp only [Exit.then, Exit.inBlock, ↓reduceIte, Nat.reduceEqDiff]) | ((with_reducible apply kf_out); (focus assumption)))
  ((with_reducible apply seq_e (Below w3.heap.size w3)); (focus rfl); (focus (simp only [effAt]; simp [go_sem]; (with_reducible exact effUpon_enter (hRP _)))); (focus ((first | (apply put_some rfl; focus (conv => lhs; dsimp only [List.set_cons_zero, List.set_cons_succ]) <;> rfl) | exact put_none rfl))))
  intro w4 hs
  have Fw4 := Fw3.trans (hs.mono Fw3.size)
  replace hB_o := hB_o.below hs hB_o.lt
  clear hs Fw3
  clear hc_o; have hc_o := hB_o.cell
  clear hRP
  repeat (first | with_reducible apply wpList_nil | ((with_reducible apply region_k); intro KK kk) | with_reducible apply wp_region_lit | ((with_reducible apply seq_k); intro KK kk) | ((with_reducible apply seq_q); (focus (first | exact wanted_none rfl | exact wanted_yes rfl rfl rfl)); (focus (simp [go_sem, effAt, ↓IntWalk.iteOmega, *]; (try go_ints); (first | (with_reducible exact effUpon_val) | (with_reducible exact effUpon_skip)))); (focus ((first | (apply put_some rfl; focus (conv => lhs; dsimp only [List.set_cons_zero, List.set_cons_succ]) <;> rfl) | exact put_none rfl)))) | ((with_reducible apply seq_s); (focus (first | exact wanted_no rfl rfl rfl | exact wanted_undef rfl rfl rfl)); (focus ((first | (apply put_some rfl; focus (conv => lhs; dsimp only [List.set_cons_zero, List.set_cons_succ]) <;> rfl) | exact put_none rfl)))) | with_reducible apply wp_block | with_reducible apply wp_skip | with_reducible apply wp_exit | with_reducible apply wp_ret | ((with_reducible apply wp_cond_true); (focus (first | rfl | (simp [go_sem, *]; done)))) | ((with_reducible apply wp_cond_false); (focus (first | rfl | (simp [go_sem, *]; done)))) | (simp only [Exit.then, Exit.inBlock, ↓reduceIte, Nat.reduceEqDiff]) | ((with_reducible apply kf_out); (focus assumption)))
  rw [HOG.out] at hB_o ⊢
  go_loopg [4] 256 (fun q v4 wr => ∃ c : Nat, v4 = .int .i64 (c : Int) ∧ c + q = 256 ∧ Blk wr og 23 #[.int .u8 5, .int .u8 2, .int .u8 3, .int .u8 7, .int .i64 10, .int .i64 300, .int .i64 3, .int .i64 2] ∧ Below og w wr)
  case atStart => exact ⟨0, rfl, by omega, hB_o, HOG.out ▸ by assumption⟩
  case round =>
    rename_i J K hJ hK
    clear hB_o hc_o
    obtain ⟨c, rfl, hc, hB_o, hF⟩ := hrel
    by_cases hlt : c < 256
    case pos =>
      have hlt' : (c : Int) < 256 := by omega
      repeat (first | with_reducible apply wpList_nil | ((with_reducible apply region_k); intro KK kk) | with_reducible apply wp_region_lit | ((with_reducible apply seq_k); intro KK kk) | ((with_reducible apply seq_q); (focus (first | exact wanted_none rfl | exact wanted_yes rfl rfl rfl)); (focus (simp [go_sem, effAt, ↓IntWalk.iteOmega, *]; (try go_ints); (first | (with_reducible exact effUpon_val) | (with_reducible exact effUpon_skip)))); (focus ((first | (apply put_some rfl; focus (conv => lhs; dsimp only [List.set_cons_zero, List.set_cons_succ]) <;> rfl) | exact put_none rfl)))) | ((with_reducible apply seq_s); (focus (first | exact wanted_no rfl rfl rfl | exact wanted_undef rfl rfl rfl)); (focus ((first | (apply put_some rfl; focus (conv => lhs; dsimp only [List.set_cons_zero, List.set_cons_succ]) <;> rfl) | exact put_none rfl)))) | with_reducible apply wp_block | with_reducible apply wp_skip | with_reducible apply wp_exit | with_reducible apply wp_ret | ((with_reducible apply wp_cond_true); (focus (first | rfl | (simp [go_sem, *]; done)))) | ((with_reducible apply wp_cond_false); (focus (first | rfl | (simp [go_sem, *]; done)))) | (simp only [Exit.then, Exit.inBlock, ↓reduceIte, Nat.reduceEqDiff]) | ((with_reducible apply kf_out); (focus assumption)))
      go_loopg [5] 8 (fun q v5 wr => ∃ i : Nat, v5 = .int .i64 (i : Int) ∧ i + q = 8 ∧ Blk wr og 23 #[.int .u8 5, .int .u8 2, .int .u8 3, .int .u8 7, .int .i64 10, .int .i64 300, .int .i64 3, .int .i64 2] ∧ Below og w wr)
      case atStart => exact ⟨0, rfl, by omega, hB_o, hF⟩
      case round =>
        rename_i J2 K2 hJ2 hK2
        clear hB_o hF
        obtain ⟨i, rfl, hi, hB_o, hF⟩ := hrel
        by_cases hlt2 : i < 8
        case pos =>
          have hlt2' : (i : Int) < 8 := by omega
          obtain ⟨cap, n, xs, hcap, hcap2, hxs, hn8, hcv⟩ := HCV.out wr
          have Fwr : Below wr.heap.size wr wr := Below.refl _ _
          repeat (first | with_reducible apply wpList_nil | ((with_reducible apply region_k); intro KK kk) | with_reducible apply wp_region_lit | ((with_reducible apply seq_k); intro KK kk) | ((with_reducible apply seq_q); (focus (first | exact wanted_none rfl | exact wanted_yes rfl rfl rfl)); (focus (simp [go_sem, effAt, ↓IntWalk.iteOmega, *]; (try go_ints); (first | (with_reducible exact effUpon_val) | (with_reducible exact effUpon_skip)))); (focus ((first | (apply put_some rfl; focus (conv => lhs; dsimp only [List.set_cons_zero, List.set_cons_succ]) <;> rfl) | exact put_none rfl)))) | ((with_reducible apply seq_s); (focus (first | exact wanted_no rfl rfl rfl | exact wanted_undef rfl rfl rfl)); (focus ((first | (apply put_some rfl; focus (conv => lhs; dsimp only [List.set_cons_zero, List.set_cons_succ]) <;> rfl) | exact put_none rfl)))) | with_reducible apply wp_block | with_reducible apply wp_skip | with_reducible apply wp_exit | with_reducible apply wp_ret | ((with_reducible apply wp_cond_true); (focus (first | rfl | (simp [go_sem, *]; done)))) | ((with_reducible apply wp_cond_false); (focus (first | rfl | (simp [go_sem, *]; done)))) | (simp only [Exit.then, Exit.inBlock, ↓reduceIte, Nat.reduceEqDiff]) | ((with_reducible apply kf_out); (focus assumption)))
          with_reducible apply seq_e (fun w' => Blz w' wr.heap.size 5 (xs.map (Value.int .u8)).toArray (n, n + 1) ∧ Below wr.heap.size wr w')
          focus rfl
          focus
            simp [go_sem, effAt, hcv]
            exact ⟨rfl, Blz.new _ _ _ _, (Below.refl _ _).drew.alloc (Nat.le_refl _) _⟩
          (first | (apply put_some rfl; focus (conv => lhs; dsimp only [List.set_cons_zero, List.set_cons_succ]) <;> rfl) | exact put_none rfl)
          rintro x2 ⟨hB_b, hs⟩
          have lt_o_b := hB_o.lt
          replace hB_o := hB_o.below hs hB_o.lt
          clear hcv
          skip
          repeat (first | with_reducible apply wpList_nil | ((with_reducible apply region_k); intro KK kk) | with_reducible apply wp_region_lit | ((with_reducible apply seq_k); intro KK kk) | ((with_reducible apply seq_q); (focus (first | exact wanted_none rfl | exact wanted_yes rfl rfl rfl)); (focus (simp [go_sem, effAt, ↓IntWalk.iteOmega, *]; (try go_ints); (first | (with_reducible exact effUpon_val) | (with_reducible exact effUpon_skip)))); (focus ((first | (apply put_some rfl; focus (conv => lhs; dsimp only [List.set_cons_zero, List.set_cons_succ]) <;> rfl) | exact put_none rfl)))) | ((with_reducible apply seq_s); (focus (first | exact wanted_no rfl rfl rfl | exact wanted_undef rfl rfl rfl)); (focus ((first | (apply put_some rfl; focus (conv => lhs; dsimp only [List.set_cons_zero, List.set_cons_succ]) <;> rfl) | exact put_none rfl)))) | with_reducible apply wp_block | with_reducible apply wp_skip | with_reducible apply wp_exit | with_reducible apply wp_ret | ((with_reducible apply wp_cond_true); (focus (first | rfl | (simp [go_sem, *]; done)))) | ((with_reducible apply wp_cond_false); (focus (first | rfl | (simp [go_sem, *]; done)))) | (simp only [Exit.then, Exit.inBlock, ↓reduceIte, Nat.reduceEqDiff]) | ((with_reducible apply kf_out); (focus assumption)))
          have hf_b := hB_b.frozen i (by dsimp only; omega)
          have hc_b := hB_b.cell i
          have hget : ∃ v, (xs.map (Value.int .u8)).toArray[i]? = some v := ⟨_, Array.getElem?_eq_getElem (by simp; omega)⟩
          obtain ⟨v, hv⟩ := hget
          have hcap3 : (i : Int) < (cap : Int) := by omega
          with_reducible apply seq_e (fun w' => (∃ ys : List Int, ys.length = n ∧ Blz w' wr.heap.size 5 (ys.map (Value.int .u8)).toArray (n, n + 1)) ∧ x2.grownBy w' (some wr.heap.size))
          focus rfl
          focus
            simp [go_sem, effAt, hc_b, hf_b, hv, hlt2']
            refine ⟨rfl, ⟨xs.set i ↑c, by simpa using hxs, ?_⟩, grown_set (World.grownBy.refl _ _)⟩
            rw [← set_bytes]
            exact hB_b.set_ _ _
          (first | (apply put_some rfl; focus (conv => lhs; dsimp only [List.set_cons_zero, List.set_cons_succ]) <;> rfl) | exact put_none rfl)
          rintro x3 ⟨⟨ys, hy, hB_b3⟩, hg3⟩
          have F3 := hs.grown hg3 hs.size (by intro k hk; injection hk with hk; subst hk; exact Nat.le_refl _)
          replace hB_o := hB_o.grown hg3 (by intro hk; injection hk with hk; omega)
          clear hc_b hf_b hv hB_b hs hg3 hcap3
          skip
          have hc_o := hB_o.cell
          have hPu := fun w1 => puts_any 5 2 3 7 10 300 3 2 (strOfNums (ys.take 8)) w1 (by omega) (by omega) (by omega) (by omega) (by rw [strOf_size]; simp; omega)
          have hBk := fun w1 => back_any 5 2 3 7 10 300 3 2 5 2 3 7 10 300 3 2 (strOfNums (ys.take i)) w1 (by omega) (by omega) (by omega) (by omega) (by rw [strOf_size]; simp; omega)
          have hcap3 : (i : Int) ≤ (cap : Int) := by omega
          have hcap4 : ¬ ((cap : Int) < (i : Int)) := by omega
          have hci : ¬ ((i : Int) < 0) := by omega
          by_cases h16 : (c : Int) % 16 = 0
          case pos =>
            have h16b : ((c : Int) % 16 == 0) = true := by simpa using h16
            repeat (first | with_reducible apply wpList_nil | ((with_reducible apply region_k); intro KK kk) | with_reducible apply wp_region_lit | ((with_reducible apply seq_k); intro KK kk) | ((with_reducible apply seq_q); (focus (first | exact wanted_none rfl | exact wanted_yes rfl rfl rfl)); (focus (simp [go_sem, effAt, ↓IntWalk.iteOmega, *]; (try go_ints); (first | (with_reducible exact effUpon_val) | (with_reducible exact effUpon_skip)))); (focus ((first | (apply put_some rfl; focus (conv => lhs; dsimp only [List.set_cons_zero, List.set_cons_succ]) <;> rfl) | exact put_none rfl)))) | ((with_reducible apply seq_s); (focus (first | exact wanted_no rfl rfl rfl | exact wanted_undef rfl rfl rfl)); (focus ((first | (apply put_some rfl; focus (conv => lhs; dsimp only [List.set_cons_zero, List.set_cons_succ]) <;> rfl) | exact put_none rfl)))) | with_reducible apply wp_block | with_reducible apply wp_skip | with_reducible apply wp_exit | with_reducible apply wp_ret | ((with_reducible apply wp_cond_true); (focus (first | rfl | (simp [go_sem, *]; done)))) | ((with_reducible apply wp_cond_false); (focus (first | rfl | (simp [go_sem, *]; done)))) | (simp only [Exit.then, Exit.inBlock, ↓reduceIte, Nat.reduceEqDiff]) | ((with_reducible apply kf_out); (focus assumption)))
            refine wp_region_pure (E := fun i => [3, 16].contains i) (by kernel_rfl) (by kernel_rfl) ?_
            repeat (first | ((with_reducible apply lex_q); (focus (first | exact wanted_none rfl | exact wanted_yes rfl rfl rfl)); (focus rfl); (focus (intro w' hS; have hc_o := (hB_o.below hS hB_o.lt).cell; have hst := str_bytes (hB_b3.below hS hB_b3.lt) 8 cap (by omega); have hst2 := str_bytes (hB_b3.below hS hB_b3.lt) i cap (by omega); simp [go_sem, effAt, ↓IntWalk.iteOmega, *]; (try go_ints); (first | (with_reducible exact effUpon_val) | (with_reducible exact effUpon_skip)))); (focus ((first | (apply put_some rfl; focus (conv => lhs; dsimp only [List.set_cons_zero, List.set_cons_succ]) <;> rfl) | exact put_none rfl)))) | ((with_reducible apply lex_s); (focus (first | exact wanted_no rfl rfl rfl | exact wanted_undef rfl rfl rfl)); (focus ((first | (apply put_some rfl; focus (conv => lhs; dsimp only [List.set_cons_zero, List.set_cons_succ]) <;> rfl) | exact put_none rfl)))))
            ((with_reducible apply lex_e (Below x3.heap.size x3)); (focus rfl); (focus rfl); (focus (intro w' hS; simp only [effAt]; simp [go_sem]; (with_reducible exact eff_call hS (hPu _)))); (focus (exact fun _ h => h)); (focus ((first | (apply put_some rfl; focus (conv => lhs; dsimp only [List.set_cons_zero, List.set_cons_succ]) <;> rfl) | exact put_none rfl))))
            repeat (first | ((with_reducible apply lex_q); (focus (first | exact wanted_none rfl | exact wanted_yes rfl rfl rfl)); (focus rfl); (focus (intro w' hS; have hc_o := (hB_o.below hS hB_o.lt).cell; have hst := str_bytes (hB_b3.below hS hB_b3.lt) 8 cap (by omega); have hst2 := str_bytes (hB_b3.below hS hB_b3.lt) i cap (by omega); simp [go_sem, effAt, ↓IntWalk.iteOmega, *]; (try go_ints); (first | (with_reducible exact effUpon_val) | (with_reducible exact effUpon_skip)))); (focus ((first | (apply put_some rfl; focus (conv => lhs; dsimp only [List.set_cons_zero, List.set_cons_succ]) <;> rfl) | exact put_none rfl)))) | ((with_reducible apply lex_s); (focus (first | exact wanted_no rfl rfl rfl | exact wanted_undef rfl rfl rfl)); (focus ((first | (apply put_some rfl; focus (conv => lhs; dsimp only [List.set_cons_zero, List.set_cons_succ]) <;> rfl) | exact put_none rfl)))))
            ((with_reducible apply lex_e (Below x3.heap.size x3)); (focus rfl); (focus rfl); (focus (intro w' hS; simp only [effAt]; simp [go_sem]; (with_reducible exact eff_call hS (hBk _)))); (focus (exact fun _ h => h)); (focus ((first | (apply put_some rfl; focus (conv => lhs; dsimp only [List.set_cons_zero, List.set_cons_succ]) <;> rfl) | exact put_none rfl))))
            repeat (first | ((with_reducible apply lex_q); (focus (first | exact wanted_none rfl | exact wanted_yes rfl rfl rfl)); (focus rfl); (focus (intro w' hS; have hc_o := (hB_o.below hS hB_o.lt).cell; have hst := str_bytes (hB_b3.below hS hB_b3.lt) 8 cap (by omega); have hst2 := str_bytes (hB_b3.below hS hB_b3.lt) i cap (by omega); simp [go_sem, effAt, ↓IntWalk.iteOmega, *]; (try go_ints); (first | (with_reducible exact effUpon_val) | (with_reducible exact effUpon_skip)))); (focus ((first | (apply put_some rfl; focus (conv => lhs; dsimp only [List.set_cons_zero, List.set_cons_succ]) <;> rfl) | exact put_none rfl)))) | ((with_reducible apply lex_s); (focus (first | exact wanted_no rfl rfl rfl | exact wanted_undef rfl rfl rfl)); (focus ((first | (apply put_some rfl; focus (conv => lhs; dsimp only [List.set_cons_zero, List.set_cons_succ]) <;> rfl) | exact put_none rfl)))))
            with_reducible apply lex_nil
            intro w5 hs
            have Fw5 := F3.trans (hs.mono F3.size)
            replace hB_o := hB_o.below hs hB_o.lt
            clear hs F3
            clear hc_o; have hc_o := hB_o.cell
            repeat (first | with_reducible apply wpList_nil | ((with_reducible apply region_k); intro KK kk) | with_reducible apply wp_region_lit | ((with_reducible apply seq_k); intro KK kk) | ((with_reducible apply seq_q); (focus (first | exact wanted_none rfl | exact wanted_yes rfl rfl rfl)); (focus (simp [go_sem, effAt, ↓IntWalk.iteOmega, *]; (try go_ints); (first | (with_reducible exact effUpon_val) | (with_reducible exact effUpon_skip)))); (focus ((first | (apply put_some rfl; focus (conv => lhs; dsimp only [List.set_cons_zero, List.set_cons_succ]) <;> rfl) | exact put_none rfl)))) | ((with_reducible apply seq_s); (focus (first | exact wanted_no rfl rfl rfl | exact wanted_undef rfl rfl rfl)); (focus ((first | (apply put_some rfl; focus (conv => lhs; dsimp only [List.set_cons_zero, List.set_cons_succ]) <;> rfl) | exact put_none rfl)))) | with_reducible apply wp_block | with_reducible apply wp_skip | with_reducible apply wp_exit | with_reducible apply wp_ret | ((with_reducible apply wp_cond_true); (focus (first | rfl | (simp [go_sem, *]; done)))) | ((with_reducible apply wp_cond_false); (focus (first | rfl | (simp [go_sem, *]; done)))) | (simp only [Exit.then, Exit.inBlock, ↓reduceIte, Nat.reduceEqDiff]) | ((with_reducible apply kf_out); (focus assumption)))
            refine hK2 _ _ (Handed.intro (7 - i) ?measure (hJ2 _ _ _ ?_))
            rotate_left
            (repeat apply Exists.intro)
            refine ⟨?rel, rfl⟩
            case rel => exact ⟨i + 1, by go_num, by omega, hB_o, hF.trans (Below.mono (by assumption) (by have := hF.size; have := HOG.out; omega))⟩
            case measure => omega
          case neg =>
            have h16b : ((c : Int) % 16 == 0) = false := by simpa using h16
            repeat (first | with_reducible apply wpList_nil | ((with_reducible apply region_k); intro KK kk) | with_reducible apply wp_region_lit | ((with_reducible apply seq_k); intro KK kk) | ((with_reducible apply seq_q); (focus (first | exact wanted_none rfl | exact wanted_yes rfl rfl rfl)); (focus (simp [go_sem, effAt, ↓IntWalk.iteOmega, *]; (try go_ints); (first | (with_reducible exact effUpon_val) | (with_reducible exact effUpon_skip)))); (focus ((first | (apply put_some rfl; focus (conv => lhs; dsimp only [List.set_cons_zero, List.set_cons_succ]) <;> rfl) | exact put_none rfl)))) | ((with_reducible apply seq_s); (focus (first | exact wanted_no rfl rfl rfl | exact wanted_undef rfl rfl rfl)); (focus ((first | (apply put_some rfl; focus (conv => lhs; dsimp only [List.set_cons_zero, List.set_cons_succ]) <;> rfl) | exact put_none rfl)))) | with_reducible apply wp_block | with_reducible apply wp_skip | with_reducible apply wp_exit | with_reducible apply wp_ret | ((with_reducible apply wp_cond_true); (focus (first | rfl | (simp [go_sem, *]; done)))) | ((with_reducible apply wp_cond_false); (focus (first | rfl | (simp [go_sem, *]; done)))) | (simp only [Exit.then, Exit.inBlock, ↓reduceIte, Nat.reduceEqDiff]) | ((with_reducible apply kf_out); (focus assumption)))
            refine wp_region_pure (E := fun i => [3, 16].contains i) (by kernel_rfl) (by kernel_rfl) ?_
            repeat (first | ((with_reducible apply lex_q); (focus (first | exact wanted_none rfl | exact wanted_yes rfl rfl rfl)); (focus rfl); (focus (intro w' hS; have hc_o := (hB_o.below hS hB_o.lt).cell; have hst := str_bytes (hB_b3.below hS hB_b3.lt) 8 cap (by omega); have hst2 := str_bytes (hB_b3.below hS hB_b3.lt) i cap (by omega); simp [go_sem, effAt, ↓IntWalk.iteOmega, *]; (try go_ints); (first | (with_reducible exact effUpon_val) | (with_reducible exact effUpon_skip)))); (focus ((first | (apply put_some rfl; focus (conv => lhs; dsimp only [List.set_cons_zero, List.set_cons_succ]) <;> rfl) | exact put_none rfl)))) | ((with_reducible apply lex_s); (focus (first | exact wanted_no rfl rfl rfl | exact wanted_undef rfl rfl rfl)); (focus ((first | (apply put_some rfl; focus (conv => lhs; dsimp only [List.set_cons_zero, List.set_cons_succ]) <;> rfl) | exact put_none rfl)))))
            ((with_reducible apply lex_e (Below x3.heap.size x3)); (focus rfl); (focus rfl); (focus (intro w' hS; simp only [effAt]; simp [go_sem]; (with_reducible exact eff_call hS (hPu _)))); (focus (exact fun _ h => h)); (focus ((first | (apply put_some rfl; focus (conv => lhs; dsimp only [List.set_cons_zero, List.set_cons_succ]) <;> rfl) | exact put_none rfl))))
            repeat (first | ((with_reducible apply lex_q); (focus (first | exact wanted_none rfl | exact wanted_yes rfl rfl rfl)); (focus rfl); (focus (intro w' hS; have hc_o := (hB_o.below hS hB_o.lt).cell; have hst := str_bytes (hB_b3.below hS hB_b3.lt) 8 cap (by omega); have hst2 := str_bytes (hB_b3.below hS hB_b3.lt) i cap (by omega); simp [go_sem, effAt, ↓IntWalk.iteOmega, *]; (try go_ints); (first | (with_reducible exact effUpon_val) | (with_reducible exact effUpon_skip)))); (focus ((first | (apply put_some rfl; focus (conv => lhs; dsimp only [List.set_cons_zero, List.set_cons_succ]) <;> rfl) | exact put_none rfl)))) | ((with_reducible apply lex_s); (focus (first | exact wanted_no rfl rfl rfl | exact wanted_undef rfl rfl rfl)); (focus ((first | (apply put_some rfl; focus (conv => lhs; dsimp only [List.set_cons_zero, List.set_cons_succ]) <;> rfl) | exact put_none rfl)))))
            with_reducible apply lex_nil
            intro w6 hs
            have Fw6 := F3.trans (hs.mono F3.size)
            replace hB_o := hB_o.below hs hB_o.lt
            clear hs F3
            clear hc_o; have hc_o := hB_o.cell
            repeat (first | with_reducible apply wpList_nil | ((with_reducible apply region_k); intro KK kk) | with_reducible apply wp_region_lit | ((with_reducible apply seq_k); intro KK kk) | ((with_reducible apply seq_q); (focus (first | exact wanted_none rfl | exact wanted_yes rfl rfl rfl)); (focus (simp [go_sem, effAt, ↓IntWalk.iteOmega, *]; (try go_ints); (first | (with_reducible exact effUpon_val) | (with_reducible exact effUpon_skip)))); (focus ((first | (apply put_some rfl; focus (conv => lhs; dsimp only [List.set_cons_zero, List.set_cons_succ]) <;> rfl) | exact put_none rfl)))) | ((with_reducible apply seq_s); (focus (first | exact wanted_no rfl rfl rfl | exact wanted_undef rfl rfl rfl)); (focus ((first | (apply put_some rfl; focus (conv => lhs; dsimp only [List.set_cons_zero, List.set_cons_succ]) <;> rfl) | exact put_none rfl)))) | with_reducible apply wp_block | with_reducible apply wp_skip | with_reducible apply wp_exit | with_reducible apply wp_ret | ((with_reducible apply wp_cond_true); (focus (first | rfl | (simp [go_sem, *]; done)))) | ((with_reducible apply wp_cond_false); (focus (first | rfl | (simp [go_sem, *]; done)))) | (simp only [Exit.then, Exit.inBlock, ↓reduceIte, Nat.reduceEqDiff]) | ((with_reducible apply kf_out); (focus assumption)))
            refine hK2 _ _ (Handed.intro (7 - i) ?measure (hJ2 _ _ _ ?_))
            rotate_left
            (repeat apply Exists.intro)
            refine ⟨?rel, rfl⟩
            case rel => exact ⟨i + 1, by go_num, by omega, hB_o, hF.trans (Below.mono (by assumption) (by have := hF.size; have := HOG.out; omega))⟩
            case measure => omega
        case neg =>
          have hlt2' : ¬ (i : Int) < 8 := by omega
          have hP0 := fun w1 => puts_any (c : Int) 2 3 7 10 300 3 2 ⟨#[]⟩ w1 (by omega) (by omega) (by omega) (by omega) (by decide)
          have hP1 := fun w1 => puts_any 5 2 (c : Int) 7 10 300 3 2 (S ++ ⟨#[120]⟩) w1 (by omega) (by omega) (by omega) (by omega) (by rw [ByteArray.size_append, hs8]; decide)
          have hB1 := fun w1 => back_any (c : Int) 2 3 7 10 300 3 2 5 2 (c : Int) 7 10 300 3 2 S w1 (by omega) (by omega) (by omega) (by omega) (by omega)
          have hP2 := fun w1 => puts_any 5 2 3 (c : Int) 10 300 3 2 ⟨#[]⟩ w1 (by omega) (by omega) (by omega) (by omega) (by decide)
          have hP3 := fun w1 => puts_any 5 (c : Int) 3 7 10 300 3 2 ⟨#[]⟩ w1 (by omega) (by omega) (by omega) (by omega) (by decide)
          have hB2 := fun V w1 hV => back_any 5 (c : Int) 3 7 10 300 3 2 5 2 3 (c : Int) 10 300 3 2 V w1 (by omega) (by omega) (by omega) (by omega) hV
          have h9 : (c : Int) % 9 ≤ 8 := by omega
          have h9a : 0 ≤ (c : Int) % 9 := by omega
          have Fwr : Below wr.heap.size wr wr := Below.refl _ _
          have hc_o := hB_o.cell
          repeat (first | with_reducible apply wpList_nil | ((with_reducible apply region_k); intro KK kk) | with_reducible apply wp_region_lit | ((with_reducible apply seq_k); intro KK kk) | ((with_reducible apply seq_q); (focus (first | exact wanted_none rfl | exact wanted_yes rfl rfl rfl)); (focus (simp [go_sem, effAt, ↓IntWalk.iteOmega, *]; (try go_ints); (first | (with_reducible exact effUpon_val) | (with_reducible exact effUpon_skip)))); (focus ((first | (apply put_some rfl; focus (conv => lhs; dsimp only [List.set_cons_zero, List.set_cons_succ]) <;> rfl) | exact put_none rfl)))) | ((with_reducible apply seq_s); (focus (first | exact wanted_no rfl rfl rfl | exact wanted_undef rfl rfl rfl)); (focus ((first | (apply put_some rfl; focus (conv => lhs; dsimp only [List.set_cons_zero, List.set_cons_succ]) <;> rfl) | exact put_none rfl)))) | with_reducible apply wp_block | with_reducible apply wp_skip | with_reducible apply wp_exit | with_reducible apply wp_ret | ((with_reducible apply wp_cond_true); (focus (first | rfl | (simp [go_sem, *]; done)))) | ((with_reducible apply wp_cond_false); (focus (first | rfl | (simp [go_sem, *]; done)))) | (simp only [Exit.then, Exit.inBlock, ↓reduceIte, Nat.reduceEqDiff]) | ((with_reducible apply kf_out); (focus assumption)))
          have lt_o_p := hB_o.lt
          ((with_reducible apply seq_box); (focus rfl); (focus (simp [go_sem, effAt]; exact ⟨rfl, rfl⟩)); (focus ((first | (apply put_some rfl; focus (conv => lhs; dsimp only [List.set_cons_zero, List.set_cons_succ]) <;> rfl) | exact put_none rfl))))
          intro w7 hB_p hs
          have Fw7 := Fwr.trans (hs.mono Fwr.size)
          replace hB_o := hB_o.below hs hB_o.lt
          clear hs Fwr
          clear hc_o; have hc_o := hB_o.cell
          have hc_p := hB_p.cell
          have hf_p := hB_p.frozen
          ((with_reducible apply seq_e (fun w' => Blk w' _ _ _ ∧ w7.grownBy w' (some _))); (focus rfl); (focus (simp [go_sem, effAt, *]; exact ⟨rfl, ((((((((hB_p.set_ 0 _).set_ 1 _).set_ 2 _).set_ 3 _).set_ 4 _).set_ 5 _).set_ 6 _).set_ 7 _), (grown_set (grown_set (grown_set (grown_set (grown_set (grown_set (grown_set (grown_set (World.grownBy.refl _ _)))))))))⟩)); (focus ((first | (apply put_some rfl; focus (conv => lhs; dsimp only [List.set_cons_zero, List.set_cons_succ]) <;> rfl) | exact put_none rfl))))
          clear hf_p hc_p hB_p
          intro w8 hs
          obtain ⟨hB_p, hs⟩ := hs
          simp only [List.setIfInBounds_toArray, List.set_cons_zero, List.set_cons_succ] at hB_p
          have Fw8 := Fw7.grown hs Fw7.size (by intro k hk; first | (injection hk with hk; subst hk; first | exact Nat.le_refl _ | exact Fw7.size | omega) | omega)
          replace hB_o := hB_o.grown hs (by intro hk; injection hk with hk; have := hB_o.lt; have := hB_p.lt; omega)
          clear hs Fw7
          clear hc_o; have hc_o := hB_o.cell
          have hc_p := hB_p.cell
          repeat (first | with_reducible apply wpList_nil | ((with_reducible apply region_k); intro KK kk) | with_reducible apply wp_region_lit | ((with_reducible apply seq_k); intro KK kk) | ((with_reducible apply seq_q); (focus (first | exact wanted_none rfl | exact wanted_yes rfl rfl rfl)); (focus (simp [go_sem, effAt, ↓IntWalk.iteOmega, *]; (try go_ints); (first | (with_reducible exact effUpon_val) | (with_reducible exact effUpon_skip)))); (focus ((first | (apply put_some rfl; focus (conv => lhs; dsimp only [List.set_cons_zero, List.set_cons_succ]) <;> rfl) | exact put_none rfl)))) | ((with_reducible apply seq_s); (focus (first | exact wanted_no rfl rfl rfl | exact wanted_undef rfl rfl rfl)); (focus ((first | (apply put_some rfl; focus (conv => lhs; dsimp only [List.set_cons_zero, List.set_cons_succ]) <;> rfl) | exact put_none rfl)))) | with_reducible apply wp_block | with_reducible apply wp_skip | with_reducible apply wp_exit | with_reducible apply wp_ret | ((with_reducible apply wp_cond_true); (focus (first | rfl | (simp [go_sem, *]; done)))) | ((with_reducible apply wp_cond_false); (focus (first | rfl | (simp [go_sem, *]; done)))) | (simp only [Exit.then, Exit.inBlock, ↓reduceIte, Nat.reduceEqDiff]) | ((with_reducible apply kf_out); (focus assumption)))
          have lt_o_q := hB_o.lt
          have lt_p_q := hB_p.lt
          ((with_reducible apply seq_box); (focus rfl); (focus (simp [go_sem, effAt]; exact ⟨rfl, rfl⟩)); (focus ((first | (apply put_some rfl; focus (conv => lhs; dsimp only [List.set_cons_zero, List.set_cons_succ]) <;> rfl) | exact put_none rfl))))
          intro w9 hB_q hs
          have Fw9 := Fw8.trans (hs.mono Fw8.size)
          replace hB_o := hB_o.below hs hB_o.lt
          replace hB_p := hB_p.below hs hB_p.lt
          clear hs Fw8
          clear hc_o; have hc_o := hB_o.cell
          clear hc_p; have hc_p := hB_p.cell
          have hc_q := hB_q.cell
          have hf_q := hB_q.frozen
          ((with_reducible apply seq_e (fun w' => Blk w' _ _ _ ∧ w9.grownBy w' (some _))); (focus rfl); (focus (simp [go_sem, effAt, *]; exact ⟨rfl, ((((((((hB_q.set_ 0 _).set_ 1 _).set_ 2 _).set_ 3 _).set_ 4 _).set_ 5 _).set_ 6 _).set_ 7 _), (grown_set (grown_set (grown_set (grown_set (grown_set (grown_set (grown_set (grown_set (World.grownBy.refl _ _)))))))))⟩)); (focus ((first | (apply put_some rfl; focus (conv => lhs; dsimp only [List.set_cons_zero, List.set_cons_succ]) <;> rfl) | exact put_none rfl))))
          clear hf_q hc_q hB_q
          intro w10 hs
          obtain ⟨hB_q, hs⟩ := hs
          simp only [List.setIfInBounds_toArray, List.set_cons_zero, List.set_cons_succ] at hB_q
          have Fw10 := Fw9.grown hs Fw9.size (by intro k hk; first | (injection hk with hk; subst hk; first | exact Nat.le_refl _ | exact Fw9.size | omega) | omega)
          replace hB_o := hB_o.grown hs (by intro hk; injection hk with hk; have := hB_o.lt; have := hB_q.lt; omega)
          replace hB_p := hB_p.grown hs (by intro hk; injection hk with hk; have := hB_p.lt; have := hB_q.lt; omega)
          clear hs Fw9
          clear hc_o; have hc_o := hB_o.cell
          clear hc_p; have hc_p := hB_p.cell
          have hc_q := hB_q.cell
          repeat (first | with_reducible apply wpList_nil | ((with_reducible apply region_k); intro KK kk) | with_reducible apply wp_region_lit | ((with_reducible apply seq_k); intro KK kk) | ((with_reducible apply seq_q); (focus (first | exact wanted_none rfl | exact wanted_yes rfl rfl rfl)); (focus (simp [go_sem, effAt, ↓IntWalk.iteOmega, *]; (try go_ints); (first | (with_reducible exact effUpon_val) | (with_reducible exact effUpon_skip)))); (focus ((first | (apply put_some rfl; focus (conv => lhs; dsimp only [List.set_cons_zero, List.set_cons_succ]) <;> rfl) | exact put_none rfl)))) | ((with_reducible apply seq_s); (focus (first | exact wanted_no rfl rfl rfl | exact wanted_undef rfl rfl rfl)); (focus ((first | (apply put_some rfl; focus (conv => lhs; dsimp only [List.set_cons_zero, List.set_cons_succ]) <;> rfl) | exact put_none rfl)))) | with_reducible apply wp_block | with_reducible apply wp_skip | with_reducible apply wp_exit | with_reducible apply wp_ret | ((with_reducible apply wp_cond_true); (focus (first | rfl | (simp [go_sem, *]; done)))) | ((with_reducible apply wp_cond_false); (focus (first | rfl | (simp [go_sem, *]; done)))) | (simp only [Exit.then, Exit.inBlock, ↓reduceIte, Nat.reduceEqDiff]) | ((with_reducible apply kf_out); (focus assumption)))
          have hf_p := hB_p.frozen
          ((with_reducible apply seq_e (fun w' => Blk w' _ _ _ ∧ w10.grownBy w' (some _))); (focus rfl); (focus (simp [go_sem, effAt, *]; exact ⟨rfl, (hB_p.set_ 0 _), (grown_set (World.grownBy.refl _ _))⟩)); (focus ((first | (apply put_some rfl; focus (conv => lhs; dsimp only [List.set_cons_zero, List.set_cons_succ]) <;> rfl) | exact put_none rfl))))
          clear hf_p hc_p hB_p
          intro w11 hs
          obtain ⟨hB_p, hs⟩ := hs
          simp only [List.setIfInBounds_toArray, List.set_cons_zero, List.set_cons_succ] at hB_p
          have Fw11 := Fw10.grown hs Fw10.size (by intro k hk; first | (injection hk with hk; subst hk; first | exact Nat.le_refl _ | exact Fw10.size | omega) | omega)
          replace hB_o := hB_o.grown hs (by intro hk; injection hk with hk; have := hB_o.lt; have := hB_p.lt; omega)
          replace hB_q := hB_q.grown hs (by intro hk; injection hk with hk; have := hB_q.lt; have := hB_p.lt; omega)
          clear hs Fw10
          clear hc_o; have hc_o := hB_o.cell
          clear hc_q; have hc_q := hB_q.cell
          have hc_p := hB_p.cell
          repeat (first | with_reducible apply wpList_nil | ((with_reducible apply region_k); intro KK kk) | with_reducible apply wp_region_lit | ((with_reducible apply seq_k); intro KK kk) | ((with_reducible apply seq_q); (focus (first | exact wanted_none rfl | exact wanted_yes rfl rfl rfl)); (focus (simp [go_sem, effAt, ↓IntWalk.iteOmega, *]; (try go_ints); (first | (with_reducible exact effUpon_val) | (with_reducible exact effUpon_skip)))); (focus ((first | (apply put_some rfl; focus (conv => lhs; dsimp only [List.set_cons_zero, List.set_cons_succ]) <;> rfl) | exact put_none rfl)))) | ((with_reducible apply seq_s); (focus (first | exact wanted_no rfl rfl rfl | exact wanted_undef rfl rfl rfl)); (focus ((first | (apply put_some rfl; focus (conv => lhs; dsimp only [List.set_cons_zero, List.set_cons_succ]) <;> rfl) | exact put_none rfl)))) | with_reducible apply wp_block | with_reducible apply wp_skip | with_reducible apply wp_exit | with_reducible apply wp_ret | ((with_reducible apply wp_cond_true); (focus (first | rfl | (simp [go_sem, *]; done)))) | ((with_reducible apply wp_cond_false); (focus (first | rfl | (simp [go_sem, *]; done)))) | (simp only [Exit.then, Exit.inBlock, ↓reduceIte, Nat.reduceEqDiff]) | ((with_reducible apply kf_out); (focus assumption)))
          have hf_q := hB_q.frozen
          ((with_reducible apply seq_e (fun w' => Blk w' _ _ _ ∧ w11.grownBy w' (some _))); (focus rfl); (focus (simp [go_sem, effAt, *]; exact ⟨rfl, (hB_q.set_ 2 _), (grown_set (World.grownBy.refl _ _))⟩)); (focus ((first | (apply put_some rfl; focus (conv => lhs; dsimp only [List.set_cons_zero, List.set_cons_succ]) <;> rfl) | exact put_none rfl))))
          clear hf_q hc_q hB_q
          intro w12 hs
          obtain ⟨hB_q, hs⟩ := hs
          simp only [List.setIfInBounds_toArray, List.set_cons_zero, List.set_cons_succ] at hB_q
          have Fw12 := Fw11.grown hs Fw11.size (by intro k hk; first | (injection hk with hk; subst hk; first | exact Nat.le_refl _ | exact Fw11.size | omega) | omega)
          replace hB_o := hB_o.grown hs (by intro hk; injection hk with hk; have := hB_o.lt; have := hB_q.lt; omega)
          replace hB_p := hB_p.grown hs (by intro hk; injection hk with hk; have := hB_p.lt; have := hB_q.lt; omega)
          clear hs Fw11
          clear hc_o; have hc_o := hB_o.cell
          clear hc_p; have hc_p := hB_p.cell
          have hc_q := hB_q.cell
          repeat (first | with_reducible apply wpList_nil | ((with_reducible apply region_k); intro KK kk) | with_reducible apply wp_region_lit | ((with_reducible apply seq_k); intro KK kk) | ((with_reducible apply seq_q); (focus (first | exact wanted_none rfl | exact wanted_yes rfl rfl rfl)); (focus (simp [go_sem, effAt, ↓IntWalk.iteOmega, *]; (try go_ints); (first | (with_reducible exact effUpon_val) | (with_reducible exact effUpon_skip)))); (focus ((first | (apply put_some rfl; focus (conv => lhs; dsimp only [List.set_cons_zero, List.set_cons_succ]) <;> rfl) | exact put_none rfl)))) | ((with_reducible apply seq_s); (focus (first | exact wanted_no rfl rfl rfl | exact wanted_undef rfl rfl rfl)); (focus ((first | (apply put_some rfl; focus (conv => lhs; dsimp only [List.set_cons_zero, List.set_cons_succ]) <;> rfl) | exact put_none rfl)))) | with_reducible apply wp_block | with_reducible apply wp_skip | with_reducible apply wp_exit | with_reducible apply wp_ret | ((with_reducible apply wp_cond_true); (focus (first | rfl | (simp [go_sem, *]; done)))) | ((with_reducible apply wp_cond_false); (focus (first | rfl | (simp [go_sem, *]; done)))) | (simp only [Exit.then, Exit.inBlock, ↓reduceIte, Nat.reduceEqDiff]) | ((with_reducible apply kf_out); (focus assumption)))
          ((with_reducible apply seq_e (Below w12.heap.size w12)); (focus rfl); (focus (simp only [effAt]; simp [go_sem]; (with_reducible exact effUpon_enter (hP0 _)))); (focus ((first | (apply put_some rfl; focus (conv => lhs; dsimp only [List.set_cons_zero, List.set_cons_succ]) <;> rfl) | exact put_none rfl))))
          intro w13 hs
          have Fw13 := Fw12.trans (hs.mono Fw12.size)
          replace hB_o := hB_o.below hs hB_o.lt
          replace hB_p := hB_p.below hs hB_p.lt
          replace hB_q := hB_q.below hs hB_q.lt
          clear hs Fw12
          clear hc_o; have hc_o := hB_o.cell
          clear hc_p; have hc_p := hB_p.cell
          clear hc_q; have hc_q := hB_q.cell
          repeat (first | with_reducible apply wpList_nil | ((with_reducible apply region_k); intro KK kk) | with_reducible apply wp_region_lit | ((with_reducible apply seq_k); intro KK kk) | ((with_reducible apply seq_q); (focus (first | exact wanted_none rfl | exact wanted_yes rfl rfl rfl)); (focus (simp [go_sem, effAt, ↓IntWalk.iteOmega, *]; (try go_ints); (first | (with_reducible exact effUpon_val) | (with_reducible exact effUpon_skip)))); (focus ((first | (apply put_some rfl; focus (conv => lhs; dsimp only [List.set_cons_zero, List.set_cons_succ]) <;> rfl) | exact put_none rfl)))) | ((with_reducible apply seq_s); (focus (first | exact wanted_no rfl rfl rfl | exact wanted_undef rfl rfl rfl)); (focus ((first | (apply put_some rfl; focus (conv => lhs; dsimp only [List.set_cons_zero, List.set_cons_succ]) <;> rfl) | exact put_none rfl)))) | with_reducible apply wp_block | with_reducible apply wp_skip | with_reducible apply wp_exit | with_reducible apply wp_ret | ((with_reducible apply wp_cond_true); (focus (first | rfl | (simp [go_sem, *]; done)))) | ((with_reducible apply wp_cond_false); (focus (first | rfl | (simp [go_sem, *]; done)))) | (simp only [Exit.then, Exit.inBlock, ↓reduceIte, Nat.reduceEqDiff]) | ((with_reducible apply kf_out); (focus assumption)))
          ((with_reducible apply seq_e (Below w13.heap.size w13)); (focus rfl); (focus (simp only [effAt]; simp [go_sem]; (with_reducible exact effUpon_enter (hP1 _)))); (focus ((first | (apply put_some rfl; focus (conv => lhs; dsimp only [List.set_cons_zero, List.set_cons_succ]) <;> rfl) | exact put_none rfl))))
          intro w14 hs
          have Fw14 := Fw13.trans (hs.mono Fw13.size)
          replace hB_o := hB_o.below hs hB_o.lt
          replace hB_p := hB_p.below hs hB_p.lt
          replace hB_q := hB_q.below hs hB_q.lt
          clear hs Fw13
          clear hc_o; have hc_o := hB_o.cell
          clear hc_p; have hc_p := hB_p.cell
          clear hc_q; have hc_q := hB_q.cell
          repeat (first | with_reducible apply wpList_nil | ((with_reducible apply region_k); intro KK kk) | with_reducible apply wp_region_lit | ((with_reducible apply seq_k); intro KK kk) | ((with_reducible apply seq_q); (focus (first | exact wanted_none rfl | exact wanted_yes rfl rfl rfl)); (focus (simp [go_sem, effAt, ↓IntWalk.iteOmega, *]; (try go_ints); (first | (with_reducible exact effUpon_val) | (with_reducible exact effUpon_skip)))); (focus ((first | (apply put_some rfl; focus (conv => lhs; dsimp only [List.set_cons_zero, List.set_cons_succ]) <;> rfl) | exact put_none rfl)))) | ((with_reducible apply seq_s); (focus (first | exact wanted_no rfl rfl rfl | exact wanted_undef rfl rfl rfl)); (focus ((first | (apply put_some rfl; focus (conv => lhs; dsimp only [List.set_cons_zero, List.set_cons_succ]) <;> rfl) | exact put_none rfl)))) | with_reducible apply wp_block | with_reducible apply wp_skip | with_reducible apply wp_exit | with_reducible apply wp_ret | ((with_reducible apply wp_cond_true); (focus (first | rfl | (simp [go_sem, *]; done)))) | ((with_reducible apply wp_cond_false); (focus (first | rfl | (simp [go_sem, *]; done)))) | (simp only [Exit.then, Exit.inBlock, ↓reduceIte, Nat.reduceEqDiff]) | ((with_reducible apply kf_out); (focus assumption)))
          ((with_reducible apply seq_e (Below w14.heap.size w14)); (focus rfl); (focus (simp only [effAt]; simp [go_sem]; (with_reducible exact effUpon_enter (hB1 _)))); (focus ((first | (apply put_some rfl; focus (conv => lhs; dsimp only [List.set_cons_zero, List.set_cons_succ]) <;> rfl) | exact put_none rfl))))
          intro w15 hs
          have Fw15 := Fw14.trans (hs.mono Fw14.size)
          replace hB_o := hB_o.below hs hB_o.lt
          replace hB_p := hB_p.below hs hB_p.lt
          replace hB_q := hB_q.below hs hB_q.lt
          clear hs Fw14
          clear hc_o; have hc_o := hB_o.cell
          clear hc_p; have hc_p := hB_p.cell
          clear hc_q; have hc_q := hB_q.cell
          repeat (first | with_reducible apply wpList_nil | ((with_reducible apply region_k); intro KK kk) | with_reducible apply wp_region_lit | ((with_reducible apply seq_k); intro KK kk) | ((with_reducible apply seq_q); (focus (first | exact wanted_none rfl | exact wanted_yes rfl rfl rfl)); (focus (simp [go_sem, effAt, ↓IntWalk.iteOmega, *]; (try go_ints); (first | (with_reducible exact effUpon_val) | (with_reducible exact effUpon_skip)))); (focus ((first | (apply put_some rfl; focus (conv => lhs; dsimp only [List.set_cons_zero, List.set_cons_succ]) <;> rfl) | exact put_none rfl)))) | ((with_reducible apply seq_s); (focus (first | exact wanted_no rfl rfl rfl | exact wanted_undef rfl rfl rfl)); (focus ((first | (apply put_some rfl; focus (conv => lhs; dsimp only [List.set_cons_zero, List.set_cons_succ]) <;> rfl) | exact put_none rfl)))) | with_reducible apply wp_block | with_reducible apply wp_skip | with_reducible apply wp_exit | with_reducible apply wp_ret | ((with_reducible apply wp_cond_true); (focus (first | rfl | (simp [go_sem, *]; done)))) | ((with_reducible apply wp_cond_false); (focus (first | rfl | (simp [go_sem, *]; done)))) | (simp only [Exit.then, Exit.inBlock, ↓reduceIte, Nat.reduceEqDiff]) | ((with_reducible apply kf_out); (focus assumption)))
          have hf_p := hB_p.frozen
          ((with_reducible apply seq_e (fun w' => Blk w' _ _ _ ∧ w15.grownBy w' (some _))); (focus rfl); (focus (simp [go_sem, effAt, *]; exact ⟨rfl, ((((((((hB_p.set_ 0 _).set_ 1 _).set_ 2 _).set_ 3 _).set_ 4 _).set_ 5 _).set_ 6 _).set_ 7 _), (grown_set (grown_set (grown_set (grown_set (grown_set (grown_set (grown_set (grown_set (World.grownBy.refl _ _)))))))))⟩)); (focus ((first | (apply put_some rfl; focus (conv => lhs; dsimp only [List.set_cons_zero, List.set_cons_succ]) <;> rfl) | exact put_none rfl))))
          clear hf_p hc_p hB_p
          intro w16 hs
          obtain ⟨hB_p, hs⟩ := hs
          simp only [List.setIfInBounds_toArray, List.set_cons_zero, List.set_cons_succ] at hB_p
          have Fw16 := Fw15.grown hs Fw15.size (by intro k hk; first | (injection hk with hk; subst hk; first | exact Nat.le_refl _ | exact Fw15.size | omega) | omega)
          replace hB_o := hB_o.grown hs (by intro hk; injection hk with hk; have := hB_o.lt; have := hB_p.lt; omega)
          replace hB_q := hB_q.grown hs (by intro hk; injection hk with hk; have := hB_q.lt; have := hB_p.lt; omega)
          clear hs Fw15
          clear hc_o; have hc_o := hB_o.cell
          clear hc_q; have hc_q := hB_q.cell
          have hc_p := hB_p.cell
          repeat (first | with_reducible apply wpList_nil | ((with_reducible apply region_k); intro KK kk) | with_reducible apply wp_region_lit | ((with_reducible apply seq_k); intro KK kk) | ((with_reducible apply seq_q); (focus (first | exact wanted_none rfl | exact wanted_yes rfl rfl rfl)); (focus (simp [go_sem, effAt, ↓IntWalk.iteOmega, *]; (try go_ints); (first | (with_reducible exact effUpon_val) | (with_reducible exact effUpon_skip)))); (focus ((first | (apply put_some rfl; focus (conv => lhs; dsimp only [List.set_cons_zero, List.set_cons_succ]) <;> rfl) | exact put_none rfl)))) | ((with_reducible apply seq_s); (focus (first | exact wanted_no rfl rfl rfl | exact wanted_undef rfl rfl rfl)); (focus ((first | (apply put_some rfl; focus (conv => lhs; dsimp only [List.set_cons_zero, List.set_cons_succ]) <;> rfl) | exact put_none rfl)))) | with_reducible apply wp_block | with_reducible apply wp_skip | with_reducible apply wp_exit | with_reducible apply wp_ret | ((with_reducible apply wp_cond_true); (focus (first | rfl | (simp [go_sem, *]; done)))) | ((with_reducible apply wp_cond_false); (focus (first | rfl | (simp [go_sem, *]; done)))) | (simp only [Exit.then, Exit.inBlock, ↓reduceIte, Nat.reduceEqDiff]) | ((with_reducible apply kf_out); (focus assumption)))
          have hf_q := hB_q.frozen
          ((with_reducible apply seq_e (fun w' => Blk w' _ _ _ ∧ w16.grownBy w' (some _))); (focus rfl); (focus (simp [go_sem, effAt, *]; exact ⟨rfl, ((((((((hB_q.set_ 0 _).set_ 1 _).set_ 2 _).set_ 3 _).set_ 4 _).set_ 5 _).set_ 6 _).set_ 7 _), (grown_set (grown_set (grown_set (grown_set (grown_set (grown_set (grown_set (grown_set (World.grownBy.refl _ _)))))))))⟩)); (focus ((first | (apply put_some rfl; focus (conv => lhs; dsimp only [List.set_cons_zero, List.set_cons_succ]) <;> rfl) | exact put_none rfl))))
          clear hf_q hc_q hB_q
          intro w17 hs
          obtain ⟨hB_q, hs⟩ := hs
          simp only [List.setIfInBounds_toArray, List.set_cons_zero, List.set_cons_succ] at hB_q
          have Fw17 := Fw16.grown hs Fw16.size (by intro k hk; first | (injection hk with hk; subst hk; first | exact Nat.le_refl _ | exact Fw16.size | omega) | omega)
          replace hB_o := hB_o.grown hs (by intro hk; injection hk with hk; have := hB_o.lt; have := hB_q.lt; omega)
          replace hB_p := hB_p.grown hs (by intro hk; injection hk with hk; have := hB_p.lt; have := hB_q.lt; omega)
          clear hs Fw16
          clear hc_o; have hc_o := hB_o.cell
          clear hc_p; have hc_p := hB_p.cell
          have hc_q := hB_q.cell
          repeat (first | with_reducible apply wpList_nil | ((with_reducible apply region_k); intro KK kk) | with_reducible apply wp_region_lit | ((with_reducible apply seq_k); intro KK kk) | ((with_reducible apply seq_q); (focus (first | exact wanted_none rfl | exact wanted_yes rfl rfl rfl)); (focus (simp [go_sem, effAt, ↓IntWalk.iteOmega, *]; (try go_ints); (first | (with_reducible exact effUpon_val) | (with_reducible exact effUpon_skip)))); (focus ((first | (apply put_some rfl; focus (conv => lhs; dsimp only [List.set_cons_zero, List.set_cons_succ]) <;> rfl) | exact put_none rfl)))) | ((with_reducible apply seq_s); (focus (first | exact wanted_no rfl rfl rfl | exact wanted_undef rfl rfl rfl)); (focus ((first | (apply put_some rfl; focus (conv => lhs; dsimp only [List.set_cons_zero, List.set_cons_succ]) <;> rfl) | exact put_none rfl)))) | with_reducible apply wp_block | with_reducible apply wp_skip | with_reducible apply wp_exit | with_reducible apply wp_ret | ((with_reducible apply wp_cond_true); (focus (first | rfl | (simp [go_sem, *]; done)))) | ((with_reducible apply wp_cond_false); (focus (first | rfl | (simp [go_sem, *]; done)))) | (simp only [Exit.then, Exit.inBlock, ↓reduceIte, Nat.reduceEqDiff]) | ((with_reducible apply kf_out); (focus assumption)))
          have hf_p := hB_p.frozen
          ((with_reducible apply seq_e (fun w' => Blk w' _ _ _ ∧ w17.grownBy w' (some _))); (focus rfl); (focus (simp [go_sem, effAt, *]; exact ⟨rfl, (hB_p.set_ 3 _), (grown_set (World.grownBy.refl _ _))⟩)); (focus ((first | (apply put_some rfl; focus (conv => lhs; dsimp only [List.set_cons_zero, List.set_cons_succ]) <;> rfl) | exact put_none rfl))))
          clear hf_p hc_p hB_p
          intro w18 hs
          obtain ⟨hB_p, hs⟩ := hs
          simp only [List.setIfInBounds_toArray, List.set_cons_zero, List.set_cons_succ] at hB_p
          have Fw18 := Fw17.grown hs Fw17.size (by intro k hk; first | (injection hk with hk; subst hk; first | exact Nat.le_refl _ | exact Fw17.size | omega) | omega)
          replace hB_o := hB_o.grown hs (by intro hk; injection hk with hk; have := hB_o.lt; have := hB_p.lt; omega)
          replace hB_q := hB_q.grown hs (by intro hk; injection hk with hk; have := hB_q.lt; have := hB_p.lt; omega)
          clear hs Fw17
          clear hc_o; have hc_o := hB_o.cell
          clear hc_q; have hc_q := hB_q.cell
          have hc_p := hB_p.cell
          repeat (first | with_reducible apply wpList_nil | ((with_reducible apply region_k); intro KK kk) | with_reducible apply wp_region_lit | ((with_reducible apply seq_k); intro KK kk) | ((with_reducible apply seq_q); (focus (first | exact wanted_none rfl | exact wanted_yes rfl rfl rfl)); (focus (simp [go_sem, effAt, ↓IntWalk.iteOmega, *]; (try go_ints); (first | (with_reducible exact effUpon_val) | (with_reducible exact effUpon_skip)))); (focus ((first | (apply put_some rfl; focus (conv => lhs; dsimp only [List.set_cons_zero, List.set_cons_succ]) <;> rfl) | exact put_none rfl)))) | ((with_reducible apply seq_s); (focus (first | exact wanted_no rfl rfl rfl | exact wanted_undef rfl rfl rfl)); (focus ((first | (apply put_some rfl; focus (conv => lhs; dsimp only [List.set_cons_zero, List.set_cons_succ]) <;> rfl) | exact put_none rfl)))) | with_reducible apply wp_block | with_reducible apply wp_skip | with_reducible apply wp_exit | with_reducible apply wp_ret | ((with_reducible apply wp_cond_true); (focus (first | rfl | (simp [go_sem, *]; done)))) | ((with_reducible apply wp_cond_false); (focus (first | rfl | (simp [go_sem, *]; done)))) | (simp only [Exit.then, Exit.inBlock, ↓reduceIte, Nat.reduceEqDiff]) | ((with_reducible apply kf_out); (focus assumption)))
          have hf_q := hB_q.frozen
          ((with_reducible apply seq_e (fun w' => Blk w' _ _ _ ∧ w18.grownBy w' (some _))); (focus rfl); (focus (simp [go_sem, effAt, *]; exact ⟨rfl, (hB_q.set_ 1 _), (grown_set (World.grownBy.refl _ _))⟩)); (focus ((first | (apply put_some rfl; focus (conv => lhs; dsimp only [List.set_cons_zero, List.set_cons_succ]) <;> rfl) | exact put_none rfl))))
          clear hf_q hc_q hB_q
          intro w19 hs
          obtain ⟨hB_q, hs⟩ := hs
          simp only [List.setIfInBounds_toArray, List.set_cons_zero, List.set_cons_succ] at hB_q
          have Fw19 := Fw18.grown hs Fw18.size (by intro k hk; first | (injection hk with hk; subst hk; first | exact Nat.le_refl _ | exact Fw18.size | omega) | omega)
          replace hB_o := hB_o.grown hs (by intro hk; injection hk with hk; have := hB_o.lt; have := hB_q.lt; omega)
          replace hB_p := hB_p.grown hs (by intro hk; injection hk with hk; have := hB_p.lt; have := hB_q.lt; omega)
          clear hs Fw18
          clear hc_o; have hc_o := hB_o.cell
          clear hc_p; have hc_p := hB_p.cell
          have hc_q := hB_q.cell
          clear hP0 hP1 hB1
          repeat (first | with_reducible apply wpList_nil | ((with_reducible apply region_k); intro KK kk) | with_reducible apply wp_region_lit | ((with_reducible apply seq_k); intro KK kk) | ((with_reducible apply seq_q); (focus (first | exact wanted_none rfl | exact wanted_yes rfl rfl rfl)); (focus (simp [go_sem, effAt, ↓IntWalk.iteOmega, *]; (try go_ints); (first | (with_reducible exact effUpon_val) | (with_reducible exact effUpon_skip)))); (focus ((first | (apply put_some rfl; focus (conv => lhs; dsimp only [List.set_cons_zero, List.set_cons_succ]) <;> rfl) | exact put_none rfl)))) | ((with_reducible apply seq_s); (focus (first | exact wanted_no rfl rfl rfl | exact wanted_undef rfl rfl rfl)); (focus ((first | (apply put_some rfl; focus (conv => lhs; dsimp only [List.set_cons_zero, List.set_cons_succ]) <;> rfl) | exact put_none rfl)))) | with_reducible apply wp_block | with_reducible apply wp_skip | with_reducible apply wp_exit | with_reducible apply wp_ret | ((with_reducible apply wp_cond_true); (focus (first | rfl | (simp [go_sem, *]; done)))) | ((with_reducible apply wp_cond_false); (focus (first | rfl | (simp [go_sem, *]; done)))) | (simp only [Exit.then, Exit.inBlock, ↓reduceIte, Nat.reduceEqDiff]) | ((with_reducible apply kf_out); (focus assumption)))
          refine wp_region_pure (E := fun i => [1, 5, 15].contains i) (by kernel_rfl) (by kernel_rfl) ?_
          repeat (first | ((with_reducible apply lex_q); (focus (first | exact wanted_none rfl | exact wanted_yes rfl rfl rfl)); (focus rfl); (focus (intro w' hS; have hc_o := (hB_o.below hS hB_o.lt).cell; have hc_p := (hB_p.below hS hB_p.lt).cell; have hc_q := (hB_q.below hS hB_q.lt).cell; simp [go_sem, effAt, ↓IntWalk.iteOmega, *]; (try go_ints); (first | (with_reducible exact effUpon_val) | (with_reducible exact effUpon_skip)))); (focus ((first | (apply put_some rfl; focus (conv => lhs; dsimp only [List.set_cons_zero, List.set_cons_succ]) <;> rfl) | exact put_none rfl)))) | ((with_reducible apply lex_s); (focus (first | exact wanted_no rfl rfl rfl | exact wanted_undef rfl rfl rfl)); (focus ((first | (apply put_some rfl; focus (conv => lhs; dsimp only [List.set_cons_zero, List.set_cons_succ]) <;> rfl) | exact put_none rfl)))))
          ((with_reducible apply lex_e (Below w19.heap.size w19)); (focus rfl); (focus rfl); (focus (intro w' hS; simp only [effAt]; simp [go_sem]; (with_reducible exact eff_call hS (hP2 _)))); (focus (exact fun _ h => h)); (focus ((first | (apply put_some rfl; focus (conv => lhs; dsimp only [List.set_cons_zero, List.set_cons_succ]) <;> rfl) | exact put_none rfl))))
          repeat (first | ((with_reducible apply lex_q); (focus (first | exact wanted_none rfl | exact wanted_yes rfl rfl rfl)); (focus rfl); (focus (intro w' hS; have hc_o := (hB_o.below hS hB_o.lt).cell; have hc_p := (hB_p.below hS hB_p.lt).cell; have hc_q := (hB_q.below hS hB_q.lt).cell; simp [go_sem, effAt, ↓IntWalk.iteOmega, *]; (try go_ints); (first | (with_reducible exact effUpon_val) | (with_reducible exact effUpon_skip)))); (focus ((first | (apply put_some rfl; focus (conv => lhs; dsimp only [List.set_cons_zero, List.set_cons_succ]) <;> rfl) | exact put_none rfl)))) | ((with_reducible apply lex_s); (focus (first | exact wanted_no rfl rfl rfl | exact wanted_undef rfl rfl rfl)); (focus ((first | (apply put_some rfl; focus (conv => lhs; dsimp only [List.set_cons_zero, List.set_cons_succ]) <;> rfl) | exact put_none rfl)))))
          ((with_reducible apply lex_e (Below w19.heap.size w19)); (focus rfl); (focus rfl); (focus (intro w' hS; simp only [effAt]; simp [go_sem]; (with_reducible exact eff_call hS (hP3 _)))); (focus (exact fun _ h => h)); (focus ((first | (apply put_some rfl; focus (conv => lhs; dsimp only [List.set_cons_zero, List.set_cons_succ]) <;> rfl) | exact put_none rfl))))
          repeat (first | ((with_reducible apply lex_q); (focus (first | exact wanted_none rfl | exact wanted_yes rfl rfl rfl)); (focus rfl); (focus (intro w' hS; have hc_o := (hB_o.below hS hB_o.lt).cell; have hc_p := (hB_p.below hS hB_p.lt).cell; have hc_q := (hB_q.below hS hB_q.lt).cell; simp [go_sem, effAt, ↓IntWalk.iteOmega, *]; (try go_ints); (first | (with_reducible exact effUpon_val) | (with_reducible exact effUpon_skip)))); (focus ((first | (apply put_some rfl; focus (conv => lhs; dsimp only [List.set_cons_zero, List.set_cons_succ]) <;> rfl) | exact put_none rfl)))) | ((with_reducible apply lex_s); (focus (first | exact wanted_no rfl rfl rfl | exact wanted_undef rfl rfl rfl)); (focus ((first | (apply put_some rfl; focus (conv => lhs; dsimp only [List.set_cons_zero, List.set_cons_succ]) <;> rfl) | exact put_none rfl)))))
          ((with_reducible apply lex_e (Below w19.heap.size w19)); (focus rfl); (focus rfl); (focus (intro w' hS; simp only [effAt]; simp [go_sem]; (with_reducible exact eff_call hS (hB2 _ _ (by simp; omega))))); (focus (exact fun _ h => h)); (focus ((first | (apply put_some rfl; focus (conv => lhs; dsimp only [List.set_cons_zero, List.set_cons_succ]) <;> rfl) | exact put_none rfl))))
          repeat (first | ((with_reducible apply lex_q); (focus (first | exact wanted_none rfl | exact wanted_yes rfl rfl rfl)); (focus rfl); (focus (intro w' hS; have hc_o := (hB_o.below hS hB_o.lt).cell; have hc_p := (hB_p.below hS hB_p.lt).cell; have hc_q := (hB_q.below hS hB_q.lt).cell; simp [go_sem, effAt, ↓IntWalk.iteOmega, *]; (try go_ints); (first | (with_reducible exact effUpon_val) | (with_reducible exact effUpon_skip)))); (focus ((first | (apply put_some rfl; focus (conv => lhs; dsimp only [List.set_cons_zero, List.set_cons_succ]) <;> rfl) | exact put_none rfl)))) | ((with_reducible apply lex_s); (focus (first | exact wanted_no rfl rfl rfl | exact wanted_undef rfl rfl rfl)); (focus ((first | (apply put_some rfl; focus (conv => lhs; dsimp only [List.set_cons_zero, List.set_cons_succ]) <;> rfl) | exact put_none rfl)))))
          with_reducible apply lex_nil
          intro w20 hs
          have Fw20 := Fw19.trans (hs.mono Fw19.size)
          replace hB_o := hB_o.below hs hB_o.lt
          replace hB_p := hB_p.below hs hB_p.lt
          replace hB_q := hB_q.below hs hB_q.lt
          clear hs Fw19
          clear hc_o; have hc_o := hB_o.cell
          clear hc_p; have hc_p := hB_p.cell
          clear hc_q; have hc_q := hB_q.cell
          repeat (first | with_reducible apply wpList_nil | ((with_reducible apply region_k); intro KK kk) | with_reducible apply wp_region_lit | ((with_reducible apply seq_k); intro KK kk) | ((with_reducible apply seq_q); (focus (first | exact wanted_none rfl | exact wanted_yes rfl rfl rfl)); (focus (simp [go_sem, effAt, ↓IntWalk.iteOmega, *]; (try go_ints); (first | (with_reducible exact effUpon_val) | (with_reducible exact effUpon_skip)))); (focus ((first | (apply put_some rfl; focus (conv => lhs; dsimp only [List.set_cons_zero, List.set_cons_succ]) <;> rfl) | exact put_none rfl)))) | ((with_reducible apply seq_s); (focus (first | exact wanted_no rfl rfl rfl | exact wanted_undef rfl rfl rfl)); (focus ((first | (apply put_some rfl; focus (conv => lhs; dsimp only [List.set_cons_zero, List.set_cons_succ]) <;> rfl) | exact put_none rfl)))) | with_reducible apply wp_block | with_reducible apply wp_skip | with_reducible apply wp_exit | with_reducible apply wp_ret | ((with_reducible apply wp_cond_true); (focus (first | rfl | (simp [go_sem, *]; done)))) | ((with_reducible apply wp_cond_false); (focus (first | rfl | (simp [go_sem, *]; done)))) | (simp only [Exit.then, Exit.inBlock, ↓reduceIte, Nat.reduceEqDiff]) | ((with_reducible apply kf_out); (focus assumption)))
          refine hK _ _ (Handed.intro (255 - c) ?measure (hJ _ _ _ ?_))
          rotate_left
          (repeat apply Exists.intro)
          refine ⟨?rel, rfl⟩
          case rel => exact ⟨c + 1, by go_num, by omega, hB_o, hF.trans (Below.mono (by assumption) (by have := hF.size; have := HOG.out; omega))⟩
          case measure => omega
    case neg =>
      have hlt' : ¬ (c : Int) < 256 := by omega
      have Fwr : Below wr.heap.size wr wr := Below.refl _ _
      have hc_o := hB_o.cell
      repeat (first | with_reducible apply wpList_nil | ((with_reducible apply region_k); intro KK kk) | with_reducible apply wp_region_lit | ((with_reducible apply seq_k); intro KK kk) | ((with_reducible apply seq_q); (focus (first | exact wanted_none rfl | exact wanted_yes rfl rfl rfl)); (focus (simp [go_sem, effAt, ↓IntWalk.iteOmega, *]; (try go_ints); (first | (with_reducible exact effUpon_val) | (with_reducible exact effUpon_skip)))); (focus ((first | (apply put_some rfl; focus (conv => lhs; dsimp only [List.set_cons_zero, List.set_cons_succ]) <;> rfl) | exact put_none rfl)))) | ((with_reducible apply seq_s); (focus (first | exact wanted_no rfl rfl rfl | exact wanted_undef rfl rfl rfl)); (focus ((first | (apply put_some rfl; focus (conv => lhs; dsimp only [List.set_cons_zero, List.set_cons_succ]) <;> rfl) | exact put_none rfl)))) | with_reducible apply wp_block | with_reducible apply wp_skip | with_reducible apply wp_exit | with_reducible apply wp_ret | ((with_reducible apply wp_cond_true); (focus (first | rfl | (simp [go_sem, *]; done)))) | ((with_reducible apply wp_cond_false); (focus (first | rfl | (simp [go_sem, *]; done)))) | (simp only [Exit.then, Exit.inBlock, ↓reduceIte, Nat.reduceEqDiff]) | ((with_reducible apply kf_out); (focus assumption)))
      have lt_o_r := hB_o.lt
      ((with_reducible apply seq_box); (focus rfl); (focus (simp [go_sem, effAt]; exact ⟨rfl, rfl⟩)); (focus ((first | (apply put_some rfl; focus (conv => lhs; dsimp only [List.set_cons_zero, List.set_cons_succ]) <;> rfl) | exact put_none rfl))))
      intro w21 hB_r hs
      have Fw21 := Fwr.trans (hs.mono Fwr.size)
      replace hB_o := hB_o.below hs hB_o.lt
      clear hs Fwr
      clear hc_o; have hc_o := hB_o.cell
      have hc_r := hB_r.cell
      have hnums := nums_get
      generalize (#[Value.int .i64 (-9223372036854775808), .int .i64 (-1), .int .i64 0, .int .i64 1, .int .i64 2, .int .i64 7, .int .i64 8, .int .i64 255, .int .i64 256, .int .i64 300, .int .i64 65535, .int .i64 65536, .int .i64 9223372036854775807] : Array Value) = cs at hB_r hnums hc_r
      have HR := Lib.hid hnums
      obtain ⟨rg, hrg⟩ : ∃ rg, wr.heap.size = rg := ⟨_, rfl⟩
      have hF2 := hF.trans (Below.mono (by assumption) (by have := hF.size; have := HOG.out; omega))
      rw [hrg] at hB_r
      clear hnums hc_r hc_o hF HCV
      repeat (first | with_reducible apply wpList_nil | ((with_reducible apply region_k); intro KK kk) | with_reducible apply wp_region_lit | ((with_reducible apply seq_k); intro KK kk) | ((with_reducible apply seq_q); (focus (first | exact wanted_none rfl | exact wanted_yes rfl rfl rfl)); (focus (simp [go_sem, effAt, ↓IntWalk.iteOmega, *]; (try go_ints); (first | (with_reducible exact effUpon_val) | (with_reducible exact effUpon_skip)))); (focus ((first | (apply put_some rfl; focus (conv => lhs; dsimp only [List.set_cons_zero, List.set_cons_succ]) <;> rfl) | exact put_none rfl)))) | ((with_reducible apply seq_s); (focus (first | exact wanted_no rfl rfl rfl | exact wanted_undef rfl rfl rfl)); (focus ((first | (apply put_some rfl; focus (conv => lhs; dsimp only [List.set_cons_zero, List.set_cons_succ]) <;> rfl) | exact put_none rfl)))) | with_reducible apply wp_block | with_reducible apply wp_skip | with_reducible apply wp_exit | with_reducible apply wp_ret | ((with_reducible apply wp_cond_true); (focus (first | rfl | (simp [go_sem, *]; done)))) | ((with_reducible apply wp_cond_false); (focus (first | rfl | (simp [go_sem, *]; done)))) | (simp only [Exit.then, Exit.inBlock, ↓reduceIte, Nat.reduceEqDiff]) | ((with_reducible apply kf_out); (focus assumption)))
      rw [hrg]
      clear hrg lt_o_r
      go_loopg [110] 13 (fun q v110 wr => ∃ i : Nat, v110 = .int .i64 (i : Int) ∧ i + q = 13 ∧ Blk wr og 23 #[.int .u8 5, .int .u8 2, .int .u8 3, .int .u8 7, .int .i64 10, .int .i64 300, .int .i64 3, .int .i64 2] ∧ Blk wr rg 3 cs ∧ Below og w wr)
      case atStart => exact ⟨0, rfl, by omega, hB_o, hB_r, hF2⟩
      case round =>
        rename_i J K hJ hK
        clear hB_o hB_r hF2
        obtain ⟨i, rfl, hi, hB_o, hB_r, hF⟩ := hrel
        by_cases hlt : i < 13
        case neg =>
          have hlt' : ¬ (i : Int) < 13 := by omega
          have Fwr : Below wr.heap.size wr wr := Below.refl _ _
          repeat (first | with_reducible apply wpList_nil | ((with_reducible apply region_k); intro KK kk) | with_reducible apply wp_region_lit | ((with_reducible apply seq_k); intro KK kk) | ((with_reducible apply seq_q); (focus (first | exact wanted_none rfl | exact wanted_yes rfl rfl rfl)); (focus (simp [go_sem, effAt, ↓IntWalk.iteOmega, *]; (try go_ints); (first | (with_reducible exact effUpon_val) | (with_reducible exact effUpon_skip)))); (focus ((first | (apply put_some rfl; focus (conv => lhs; dsimp only [List.set_cons_zero, List.set_cons_succ]) <;> rfl) | exact put_none rfl)))) | ((with_reducible apply seq_s); (focus (first | exact wanted_no rfl rfl rfl | exact wanted_undef rfl rfl rfl)); (focus ((first | (apply put_some rfl; focus (conv => lhs; dsimp only [List.set_cons_zero, List.set_cons_succ]) <;> rfl) | exact put_none rfl)))) | with_reducible apply wp_block | with_reducible apply wp_skip | with_reducible apply wp_exit | with_reducible apply wp_ret | ((with_reducible apply wp_cond_true); (focus (first | rfl | (simp [go_sem, *]; done)))) | ((with_reducible apply wp_cond_false); (focus (first | rfl | (simp [go_sem, *]; done)))) | (simp only [Exit.then, Exit.inBlock, ↓reduceIte, Nat.reduceEqDiff]) | ((with_reducible apply kf_out); (focus assumption)))
          ((with_reducible apply seq_e (Below wr.heap.size wr)); (focus rfl); (focus (simp only [effAt]; simp [go_sem]; (with_reducible exact effUpon_enter (works_any _)))); (focus ((first | (apply put_some rfl; focus (conv => lhs; dsimp only [List.set_cons_zero, List.set_cons_succ]) <;> rfl) | exact put_none rfl))))
          intro w22 hs
          have Fw22 := Fwr.trans (hs.mono Fwr.size)
          clear hs Fwr
          repeat (first | with_reducible apply wpList_nil | ((with_reducible apply region_k); intro KK kk) | with_reducible apply wp_region_lit | ((with_reducible apply seq_k); intro KK kk) | ((with_reducible apply seq_q); (focus (first | exact wanted_none rfl | exact wanted_yes rfl rfl rfl)); (focus (simp [go_sem, effAt, ↓IntWalk.iteOmega, *]; (try go_ints); (first | (with_reducible exact effUpon_val) | (with_reducible exact effUpon_skip)))); (focus ((first | (apply put_some rfl; focus (conv => lhs; dsimp only [List.set_cons_zero, List.set_cons_succ]) <;> rfl) | exact put_none rfl)))) | ((with_reducible apply seq_s); (focus (first | exact wanted_no rfl rfl rfl | exact wanted_undef rfl rfl rfl)); (focus ((first | (apply put_some rfl; focus (conv => lhs; dsimp only [List.set_cons_zero, List.set_cons_succ]) <;> rfl) | exact put_none rfl)))) | with_reducible apply wp_block | with_reducible apply wp_skip | with_reducible apply wp_exit | with_reducible apply wp_ret | ((with_reducible apply wp_cond_true); (focus (first | rfl | (simp [go_sem, *]; done)))) | ((with_reducible apply wp_cond_false); (focus (first | rfl | (simp [go_sem, *]; done)))) | (simp only [Exit.then, Exit.inBlock, ↓reduceIte, Nat.reduceEqDiff]) | ((with_reducible apply kf_out); (focus assumption)))
          go_ret
          exact ⟨rfl, hF.trans (Below.mono (by assumption) (by have := hF.size; have := HOG.out; omega)) |>.mono (by have := HOG.out; omega)⟩
        case pos =>
          have hlt' : (i : Int) < 13 := by omega
          obtain ⟨x, hx⟩ := HR.out i hlt
          have hc_r := hB_r.cell
          repeat (first | with_reducible apply wpList_nil | ((with_reducible apply region_k); intro KK kk) | with_reducible apply wp_region_lit | ((with_reducible apply seq_k); intro KK kk) | ((with_reducible apply seq_q); (focus (first | exact wanted_none rfl | exact wanted_yes rfl rfl rfl)); (focus (simp [go_sem, effAt, ↓IntWalk.iteOmega, *]; (try go_ints); (first | (with_reducible exact effUpon_val) | (with_reducible exact effUpon_skip)))); (focus ((first | (apply put_some rfl; focus (conv => lhs; dsimp only [List.set_cons_zero, List.set_cons_succ]) <;> rfl) | exact put_none rfl)))) | ((with_reducible apply seq_s); (focus (first | exact wanted_no rfl rfl rfl | exact wanted_undef rfl rfl rfl)); (focus ((first | (apply put_some rfl; focus (conv => lhs; dsimp only [List.set_cons_zero, List.set_cons_succ]) <;> rfl) | exact put_none rfl)))) | with_reducible apply wp_block | with_reducible apply wp_skip | with_reducible apply wp_exit | with_reducible apply wp_ret | ((with_reducible apply wp_cond_true); (focus (first | rfl | (simp [go_sem, *]; done)))) | ((with_reducible apply wp_cond_false); (focus (first | rfl | (simp [go_sem, *]; done)))) | (simp only [Exit.then, Exit.inBlock, ↓reduceIte, Nat.reduceEqDiff]) | ((with_reducible apply kf_out); (focus assumption)))
          clear hc_r hx
          have hP0 := fun w1 => puts_any 5 2 3 7 x 300 3 2 ⟨#[]⟩ w1 (by omega) (by omega) (by omega) (by omega) (by decide)
          go_loopg [11] 4 (fun q v11 wr => ∃ k : Nat, v11 = .int .i64 (k : Int) ∧ k + q = 4 ∧ Blk wr og 23 #[.int .u8 5, .int .u8 2, .int .u8 3, .int .u8 7, .int .i64 10, .int .i64 300, .int .i64 3, .int .i64 2] ∧ Blk wr rg 3 cs ∧ Below og w wr)
          case atStart => exact ⟨0, rfl, by omega, hB_o, hB_r, hF⟩
          case round =>
            rename_i J2 K2 hJ2 hK2
            clear hB_o hB_r hF hP0
            obtain ⟨k, rfl, hk, hB_o, hB_r, hF⟩ := hrel
            by_cases hlt2 : k < 4
            case neg =>
              have hlt2' : ¬ (k : Int) < 4 := by omega
              repeat (first | with_reducible apply wpList_nil | ((with_reducible apply region_k); intro KK kk) | with_reducible apply wp_region_lit | ((with_reducible apply seq_k); intro KK kk) | ((with_reducible apply seq_q); (focus (first | exact wanted_none rfl | exact wanted_yes rfl rfl rfl)); (focus (simp [go_sem, effAt, ↓IntWalk.iteOmega, *]; (try go_ints); (first | (with_reducible exact effUpon_val) | (with_reducible exact effUpon_skip)))); (focus ((first | (apply put_some rfl; focus (conv => lhs; dsimp only [List.set_cons_zero, List.set_cons_succ]) <;> rfl) | exact put_none rfl)))) | ((with_reducible apply seq_s); (focus (first | exact wanted_no rfl rfl rfl | exact wanted_undef rfl rfl rfl)); (focus ((first | (apply put_some rfl; focus (conv => lhs; dsimp only [List.set_cons_zero, List.set_cons_succ]) <;> rfl) | exact put_none rfl)))) | with_reducible apply wp_block | with_reducible apply wp_skip | with_reducible apply wp_exit | with_reducible apply wp_ret | ((with_reducible apply wp_cond_true); (focus (first | rfl | (simp [go_sem, *]; done)))) | ((with_reducible apply wp_cond_false); (focus (first | rfl | (simp [go_sem, *]; done)))) | (simp only [Exit.then, Exit.inBlock, ↓reduceIte, Nat.reduceEqDiff]) | ((with_reducible apply kf_out); (focus assumption)))
              refine hK _ _ (Handed.intro (12 - i) ?measure (hJ _ _ _ ?_))
              rotate_left
              (repeat apply Exists.intro)
              refine ⟨?rel, rfl⟩
              case rel => exact ⟨i + 1, by go_num, by omega, hB_o, hB_r, hF⟩
              case measure => omega
            case pos =>
              have hlt2' : (k : Int) < 4 := by omega
              rcases (show k = 0 ∨ k = 1 ∨ k = 2 ∨ k = 3 by omega) with rfl | rfl | rfl | rfl
              · have hP0 := fun w1 => puts_any 5 2 3 7 x 300 3 2 ⟨#[]⟩ w1 (by omega) (by omega) (by omega) (by omega) (by decide)
                have hA1 := fun w1 => agrees_any 5 2 3 7 x 300 3 2 5 2 3 7 10 300 3 2 w1 (by omega)
                have hA2 := fun w1 => agrees_any 5 2 3 7 10 300 3 2 5 2 3 7 x 300 3 2 w1 (by omega)
                have hB1 := fun w1 => back_any 5 2 3 7 x 300 3 2 5 2 3 7 10 300 3 2 ⟨#[]⟩ w1 (by omega) (by omega) (by omega) (by omega) (by decide)
                have hB2 := fun w1 => back_any 5 2 3 7 10 300 3 2 5 2 3 7 x 300 3 2 ⟨#[]⟩ w1 (by omega) (by omega) (by omega) (by omega) (by decide)
                have Fwr : Below wr.heap.size wr wr := Below.refl _ _
                have hc_o := hB_o.cell
                have hc_r := hB_r.cell
                repeat (first | with_reducible apply wpList_nil | ((with_reducible apply region_k); intro KK kk) | with_reducible apply wp_region_lit | ((with_reducible apply seq_k); intro KK kk) | ((with_reducible apply seq_q); (focus (first | exact wanted_none rfl | exact wanted_yes rfl rfl rfl)); (focus (simp [go_sem, effAt, ↓IntWalk.iteOmega, *]; (try go_ints); (first | (with_reducible exact effUpon_val) | (with_reducible exact effUpon_skip)))); (focus ((first | (apply put_some rfl; focus (conv => lhs; dsimp only [List.set_cons_zero, List.set_cons_succ]) <;> rfl) | exact put_none rfl)))) | ((with_reducible apply seq_s); (focus (first | exact wanted_no rfl rfl rfl | exact wanted_undef rfl rfl rfl)); (focus ((first | (apply put_some rfl; focus (conv => lhs; dsimp only [List.set_cons_zero, List.set_cons_succ]) <;> rfl) | exact put_none rfl)))) | with_reducible apply wp_block | with_reducible apply wp_skip | with_reducible apply wp_exit | with_reducible apply wp_ret | ((with_reducible apply wp_cond_true); (focus (first | rfl | (simp [go_sem, *]; done)))) | ((with_reducible apply wp_cond_false); (focus (first | rfl | (simp [go_sem, *]; done)))) | (simp only [Exit.then, Exit.inBlock, ↓reduceIte, Nat.reduceEqDiff]) | ((with_reducible apply kf_out); (focus assumption)))
                have lt_o_p := hB_o.lt
                have lt_r_p := hB_r.lt
                ((with_reducible apply seq_box); (focus rfl); (focus (simp [go_sem, effAt]; exact ⟨rfl, rfl⟩)); (focus ((first | (apply put_some rfl; focus (conv => lhs; dsimp only [List.set_cons_zero, List.set_cons_succ]) <;> rfl) | exact put_none rfl))))
                intro w23 hB_p hs
                have Fw23 := Fwr.trans (hs.mono Fwr.size)
                replace hB_o := hB_o.below hs hB_o.lt
                replace hB_r := hB_r.below hs hB_r.lt
                clear hs Fwr
                clear hc_o; have hc_o := hB_o.cell
                clear hc_r; have hc_r := hB_r.cell
                have hc_p := hB_p.cell
                have hf_p := hB_p.frozen
                ((with_reducible apply seq_e (fun w' => Blk w' _ _ _ ∧ w23.grownBy w' (some _))); (focus rfl); (focus (simp [go_sem, effAt, *]; exact ⟨rfl, ((((((((hB_p.set_ 0 _).set_ 1 _).set_ 2 _).set_ 3 _).set_ 4 _).set_ 5 _).set_ 6 _).set_ 7 _), (grown_set (grown_set (grown_set (grown_set (grown_set (grown_set (grown_set (grown_set (World.grownBy.refl _ _)))))))))⟩)); (focus ((first | (apply put_some rfl; focus (conv => lhs; dsimp only [List.set_cons_zero, List.set_cons_succ]) <;> rfl) | exact put_none rfl))))
                clear hf_p hc_p hB_p
                intro w24 hs
                obtain ⟨hB_p, hs⟩ := hs
                simp only [List.setIfInBounds_toArray, List.set_cons_zero, List.set_cons_succ] at hB_p
                have Fw24 := Fw23.grown hs Fw23.size (by intro k hk; first | (injection hk with hk; subst hk; first | exact Nat.le_refl _ | exact Fw23.size | omega) | omega)
                replace hB_o := hB_o.grown hs (by intro hk; injection hk with hk; have := hB_o.lt; have := hB_p.lt; omega)
                replace hB_r := hB_r.grown hs (by intro hk; injection hk with hk; have := hB_r.lt; have := hB_p.lt; omega)
                clear hs Fw23
                clear hc_o; have hc_o := hB_o.cell
                clear hc_r; have hc_r := hB_r.cell
                have hc_p := hB_p.cell
                repeat (first | with_reducible apply wpList_nil | ((with_reducible apply region_k); intro KK kk) | with_reducible apply wp_region_lit | ((with_reducible apply seq_k); intro KK kk) | ((with_reducible apply seq_q); (focus (first | exact wanted_none rfl | exact wanted_yes rfl rfl rfl)); (focus (simp [go_sem, effAt, ↓IntWalk.iteOmega, *]; (try go_ints); (first | (with_reducible exact effUpon_val) | (with_reducible exact effUpon_skip)))); (focus ((first | (apply put_some rfl; focus (conv => lhs; dsimp only [List.set_cons_zero, List.set_cons_succ]) <;> rfl) | exact put_none rfl)))) | ((with_reducible apply seq_s); (focus (first | exact wanted_no rfl rfl rfl | exact wanted_undef rfl rfl rfl)); (focus ((first | (apply put_some rfl; focus (conv => lhs; dsimp only [List.set_cons_zero, List.set_cons_succ]) <;> rfl) | exact put_none rfl)))) | with_reducible apply wp_block | with_reducible apply wp_skip | with_reducible apply wp_exit | with_reducible apply wp_ret | ((with_reducible apply wp_cond_true); (focus (first | rfl | (simp [go_sem, *]; done)))) | ((with_reducible apply wp_cond_false); (focus (first | rfl | (simp [go_sem, *]; done)))) | (simp only [Exit.then, Exit.inBlock, ↓reduceIte, Nat.reduceEqDiff]) | ((with_reducible apply kf_out); (focus assumption)))
                have hf_p := hB_p.frozen
                ((with_reducible apply seq_e (fun w' => Blk w' _ _ _ ∧ w24.grownBy w' (some _))); (focus rfl); (focus (simp [go_sem, effAt, *]; exact ⟨rfl, (hB_p.set_ 4 _), (grown_set (World.grownBy.refl _ _))⟩)); (focus ((first | (apply put_some rfl; focus (conv => lhs; dsimp only [List.set_cons_zero, List.set_cons_succ]) <;> rfl) | exact put_none rfl))))
                clear hf_p hc_p hB_p
                intro w25 hs
                obtain ⟨hB_p, hs⟩ := hs
                simp only [List.setIfInBounds_toArray, List.set_cons_zero, List.set_cons_succ] at hB_p
                have Fw25 := Fw24.grown hs Fw24.size (by intro k hk; first | (injection hk with hk; subst hk; first | exact Nat.le_refl _ | exact Fw24.size | omega) | omega)
                replace hB_o := hB_o.grown hs (by intro hk; injection hk with hk; have := hB_o.lt; have := hB_p.lt; omega)
                replace hB_r := hB_r.grown hs (by intro hk; injection hk with hk; have := hB_r.lt; have := hB_p.lt; omega)
                clear hs Fw24
                clear hc_o; have hc_o := hB_o.cell
                clear hc_r; have hc_r := hB_r.cell
                have hc_p := hB_p.cell
                repeat (first | with_reducible apply wpList_nil | ((with_reducible apply region_k); intro KK kk) | with_reducible apply wp_region_lit | ((with_reducible apply seq_k); intro KK kk) | ((with_reducible apply seq_q); (focus (first | exact wanted_none rfl | exact wanted_yes rfl rfl rfl)); (focus (simp [go_sem, effAt, ↓IntWalk.iteOmega, *]; (try go_ints); (first | (with_reducible exact effUpon_val) | (with_reducible exact effUpon_skip)))); (focus ((first | (apply put_some rfl; focus (conv => lhs; dsimp only [List.set_cons_zero, List.set_cons_succ]) <;> rfl) | exact put_none rfl)))) | ((with_reducible apply seq_s); (focus (first | exact wanted_no rfl rfl rfl | exact wanted_undef rfl rfl rfl)); (focus ((first | (apply put_some rfl; focus (conv => lhs; dsimp only [List.set_cons_zero, List.set_cons_succ]) <;> rfl) | exact put_none rfl)))) | with_reducible apply wp_block | with_reducible apply wp_skip | with_reducible apply wp_exit | with_reducible apply wp_ret | ((with_reducible apply wp_cond_true); (focus (first | rfl | (simp [go_sem, *]; done)))) | ((with_reducible apply wp_cond_false); (focus (first | rfl | (simp [go_sem, *]; done)))) | (simp only [Exit.then, Exit.inBlock, ↓reduceIte, Nat.reduceEqDiff]) | ((with_reducible apply kf_out); (focus assumption)))
                ((with_reducible apply seq_e (Below w25.heap.size w25)); (focus rfl); (focus (simp only [effAt]; simp [go_sem]; (with_reducible exact effUpon_enter (hP0 _)))); (focus ((first | (apply put_some rfl; focus (conv => lhs; dsimp only [List.set_cons_zero, List.set_cons_succ]) <;> rfl) | exact put_none rfl))))
                intro w26 hs
                have Fw26 := Fw25.trans (hs.mono Fw25.size)
                replace hB_o := hB_o.below hs hB_o.lt
                replace hB_r := hB_r.below hs hB_r.lt
                replace hB_p := hB_p.below hs hB_p.lt
                clear hs Fw25
                clear hc_o; have hc_o := hB_o.cell
                clear hc_r; have hc_r := hB_r.cell
                clear hc_p; have hc_p := hB_p.cell
                repeat (first | with_reducible apply wpList_nil | ((with_reducible apply region_k); intro KK kk) | with_reducible apply wp_region_lit | ((with_reducible apply seq_k); intro KK kk) | ((with_reducible apply seq_q); (focus (first | exact wanted_none rfl | exact wanted_yes rfl rfl rfl)); (focus (simp [go_sem, effAt, ↓IntWalk.iteOmega, *]; (try go_ints); (first | (with_reducible exact effUpon_val) | (with_reducible exact effUpon_skip)))); (focus ((first | (apply put_some rfl; focus (conv => lhs; dsimp only [List.set_cons_zero, List.set_cons_succ]) <;> rfl) | exact put_none rfl)))) | ((with_reducible apply seq_s); (focus (first | exact wanted_no rfl rfl rfl | exact wanted_undef rfl rfl rfl)); (focus ((first | (apply put_some rfl; focus (conv => lhs; dsimp only [List.set_cons_zero, List.set_cons_succ]) <;> rfl) | exact put_none rfl)))) | with_reducible apply wp_block | with_reducible apply wp_skip | with_reducible apply wp_exit | with_reducible apply wp_ret | ((with_reducible apply wp_cond_true); (focus (first | rfl | (simp [go_sem, *]; done)))) | ((with_reducible apply wp_cond_false); (focus (first | rfl | (simp [go_sem, *]; done)))) | (simp only [Exit.then, Exit.inBlock, ↓reduceIte, Nat.reduceEqDiff]) | ((with_reducible apply kf_out); (focus assumption)))
                ((with_reducible apply seq_e (Below w26.heap.size w26)); (focus rfl); (focus (simp only [effAt]; simp [go_sem]; (with_reducible exact effUpon_enter (hA1 _)))); (focus ((first | (apply put_some rfl; focus (conv => lhs; dsimp only [List.set_cons_zero, List.set_cons_succ]) <;> rfl) | exact put_none rfl))))
                intro w27 hs
                have Fw27 := Fw26.trans (hs.mono Fw26.size)
                replace hB_o := hB_o.below hs hB_o.lt
                replace hB_r := hB_r.below hs hB_r.lt
                replace hB_p := hB_p.below hs hB_p.lt
                clear hs Fw26
                clear hc_o; have hc_o := hB_o.cell
                clear hc_r; have hc_r := hB_r.cell
                clear hc_p; have hc_p := hB_p.cell
                repeat (first | with_reducible apply wpList_nil | ((with_reducible apply region_k); intro KK kk) | with_reducible apply wp_region_lit | ((with_reducible apply seq_k); intro KK kk) | ((with_reducible apply seq_q); (focus (first | exact wanted_none rfl | exact wanted_yes rfl rfl rfl)); (focus (simp [go_sem, effAt, ↓IntWalk.iteOmega, *]; (try go_ints); (first | (with_reducible exact effUpon_val) | (with_reducible exact effUpon_skip)))); (focus ((first | (apply put_some rfl; focus (conv => lhs; dsimp only [List.set_cons_zero, List.set_cons_succ]) <;> rfl) | exact put_none rfl)))) | ((with_reducible apply seq_s); (focus (first | exact wanted_no rfl rfl rfl | exact wanted_undef rfl rfl rfl)); (focus ((first | (apply put_some rfl; focus (conv => lhs; dsimp only [List.set_cons_zero, List.set_cons_succ]) <;> rfl) | exact put_none rfl)))) | with_reducible apply wp_block | with_reducible apply wp_skip | with_reducible apply wp_exit | with_reducible apply wp_ret | ((with_reducible apply wp_cond_true); (focus (first | rfl | (simp [go_sem, *]; done)))) | ((with_reducible apply wp_cond_false); (focus (first | rfl | (simp [go_sem, *]; done)))) | (simp only [Exit.then, Exit.inBlock, ↓reduceIte, Nat.reduceEqDiff]) | ((with_reducible apply kf_out); (focus assumption)))
                ((with_reducible apply seq_e (Below w27.heap.size w27)); (focus rfl); (focus (simp only [effAt]; simp [go_sem]; (with_reducible exact effUpon_enter (hA2 _)))); (focus ((first | (apply put_some rfl; focus (conv => lhs; dsimp only [List.set_cons_zero, List.set_cons_succ]) <;> rfl) | exact put_none rfl))))
                intro w28 hs
                have Fw28 := Fw27.trans (hs.mono Fw27.size)
                replace hB_o := hB_o.below hs hB_o.lt
                replace hB_r := hB_r.below hs hB_r.lt
                replace hB_p := hB_p.below hs hB_p.lt
                clear hs Fw27
                clear hc_o; have hc_o := hB_o.cell
                clear hc_r; have hc_r := hB_r.cell
                clear hc_p; have hc_p := hB_p.cell
                repeat (first | with_reducible apply wpList_nil | ((with_reducible apply region_k); intro KK kk) | with_reducible apply wp_region_lit | ((with_reducible apply seq_k); intro KK kk) | ((with_reducible apply seq_q); (focus (first | exact wanted_none rfl | exact wanted_yes rfl rfl rfl)); (focus (simp [go_sem, effAt, ↓IntWalk.iteOmega, *]; (try go_ints); (first | (with_reducible exact effUpon_val) | (with_reducible exact effUpon_skip)))); (focus ((first | (apply put_some rfl; focus (conv => lhs; dsimp only [List.set_cons_zero, List.set_cons_succ]) <;> rfl) | exact put_none rfl)))) | ((with_reducible apply seq_s); (focus (first | exact wanted_no rfl rfl rfl | exact wanted_undef rfl rfl rfl)); (focus ((first | (apply put_some rfl; focus (conv => lhs; dsimp only [List.set_cons_zero, List.set_cons_succ]) <;> rfl) | exact put_none rfl)))) | with_reducible apply wp_block | with_reducible apply wp_skip | with_reducible apply wp_exit | with_reducible apply wp_ret | ((with_reducible apply wp_cond_true); (focus (first | rfl | (simp [go_sem, *]; done)))) | ((with_reducible apply wp_cond_false); (focus (first | rfl | (simp [go_sem, *]; done)))) | (simp only [Exit.then, Exit.inBlock, ↓reduceIte, Nat.reduceEqDiff]) | ((with_reducible apply kf_out); (focus assumption)))
                ((with_reducible apply seq_e (Below w28.heap.size w28)); (focus rfl); (focus (simp only [effAt]; simp [go_sem]; (with_reducible exact effUpon_enter (hB1 _)))); (focus ((first | (apply put_some rfl; focus (conv => lhs; dsimp only [List.set_cons_zero, List.set_cons_succ]) <;> rfl) | exact put_none rfl))))
                intro w29 hs
                have Fw29 := Fw28.trans (hs.mono Fw28.size)
                replace hB_o := hB_o.below hs hB_o.lt
                replace hB_r := hB_r.below hs hB_r.lt
                replace hB_p := hB_p.below hs hB_p.lt
                clear hs Fw28
                clear hc_o; have hc_o := hB_o.cell
                clear hc_r; have hc_r := hB_r.cell
                clear hc_p; have hc_p := hB_p.cell
                repeat (first | with_reducible apply wpList_nil | ((with_reducible apply region_k); intro KK kk) | with_reducible apply wp_region_lit | ((with_reducible apply seq_k); intro KK kk) | ((with_reducible apply seq_q); (focus (first | exact wanted_none rfl | exact wanted_yes rfl rfl rfl)); (focus (simp [go_sem, effAt, ↓IntWalk.iteOmega, *]; (try go_ints); (first | (with_reducible exact effUpon_val) | (with_reducible exact effUpon_skip)))); (focus ((first | (apply put_some rfl; focus (conv => lhs; dsimp only [List.set_cons_zero, List.set_cons_succ]) <;> rfl) | exact put_none rfl)))) | ((with_reducible apply seq_s); (focus (first | exact wanted_no rfl rfl rfl | exact wanted_undef rfl rfl rfl)); (focus ((first | (apply put_some rfl; focus (conv => lhs; dsimp only [List.set_cons_zero, List.set_cons_succ]) <;> rfl) | exact put_none rfl)))) | with_reducible apply wp_block | with_reducible apply wp_skip | with_reducible apply wp_exit | with_reducible apply wp_ret | ((with_reducible apply wp_cond_true); (focus (first | rfl | (simp [go_sem, *]; done)))) | ((with_reducible apply wp_cond_false); (focus (first | rfl | (simp [go_sem, *]; done)))) | (simp only [Exit.then, Exit.inBlock, ↓reduceIte, Nat.reduceEqDiff]) | ((with_reducible apply kf_out); (focus assumption)))
                ((with_reducible apply seq_e (Below w29.heap.size w29)); (focus rfl); (focus (simp only [effAt]; simp [go_sem]; (with_reducible exact effUpon_enter (hB2 _)))); (focus ((first | (apply put_some rfl; focus (conv => lhs; dsimp only [List.set_cons_zero, List.set_cons_succ]) <;> rfl) | exact put_none rfl))))
                intro w30 hs
                have Fw30 := Fw29.trans (hs.mono Fw29.size)
                replace hB_o := hB_o.below hs hB_o.lt
                replace hB_r := hB_r.below hs hB_r.lt
                replace hB_p := hB_p.below hs hB_p.lt
                clear hs Fw29
                clear hc_o; have hc_o := hB_o.cell
                clear hc_r; have hc_r := hB_r.cell
                clear hc_p; have hc_p := hB_p.cell
                repeat (first | with_reducible apply wpList_nil | ((with_reducible apply region_k); intro KK kk) | with_reducible apply wp_region_lit | ((with_reducible apply seq_k); intro KK kk) | ((with_reducible apply seq_q); (focus (first | exact wanted_none rfl | exact wanted_yes rfl rfl rfl)); (focus (simp [go_sem, effAt, ↓IntWalk.iteOmega, *]; (try go_ints); (first | (with_reducible exact effUpon_val) | (with_reducible exact effUpon_skip)))); (focus ((first | (apply put_some rfl; focus (conv => lhs; dsimp only [List.set_cons_zero, List.set_cons_succ]) <;> rfl) | exact put_none rfl)))) | ((with_reducible apply seq_s); (focus (first | exact wanted_no rfl rfl rfl | exact wanted_undef rfl rfl rfl)); (focus ((first | (apply put_some rfl; focus (conv => lhs; dsimp only [List.set_cons_zero, List.set_cons_succ]) <;> rfl) | exact put_none rfl)))) | with_reducible apply wp_block | with_reducible apply wp_skip | with_reducible apply wp_exit | with_reducible apply wp_ret | ((with_reducible apply wp_cond_true); (focus (first | rfl | (simp [go_sem, *]; done)))) | ((with_reducible apply wp_cond_false); (focus (first | rfl | (simp [go_sem, *]; done)))) | (simp only [Exit.then, Exit.inBlock, ↓reduceIte, Nat.reduceEqDiff]) | ((with_reducible apply kf_out); (focus assumption)))
                refine hK2 _ _ (Handed.intro 3 ?measure (hJ2 _ _ _ ?_))
                rotate_left
                (repeat apply Exists.intro)
                refine ⟨?rel, rfl⟩
                case rel => exact ⟨1, by go_num, by omega, hB_o, hB_r, hF.trans (Below.mono (by assumption) (by have := hF.size; have := HOG.out; omega))⟩
                case measure => omega
              · have hP0 := fun w1 => puts_any 5 2 3 7 10 x 3 2 ⟨#[]⟩ w1 (by omega) (by omega) (by omega) (by omega) (by decide)
                have hA1 := fun w1 => agrees_any 5 2 3 7 10 x 3 2 5 2 3 7 10 300 3 2 w1 (by omega)
                have hA2 := fun w1 => agrees_any 5 2 3 7 10 300 3 2 5 2 3 7 10 x 3 2 w1 (by omega)
                have hB1 := fun w1 => back_any 5 2 3 7 10 x 3 2 5 2 3 7 10 300 3 2 ⟨#[]⟩ w1 (by omega) (by omega) (by omega) (by omega) (by decide)
                have hB2 := fun w1 => back_any 5 2 3 7 10 300 3 2 5 2 3 7 10 x 3 2 ⟨#[]⟩ w1 (by omega) (by omega) (by omega) (by omega) (by decide)
                have Fwr : Below wr.heap.size wr wr := Below.refl _ _
                have hc_o := hB_o.cell
                have hc_r := hB_r.cell
                repeat (first | with_reducible apply wpList_nil | ((with_reducible apply region_k); intro KK kk) | with_reducible apply wp_region_lit | ((with_reducible apply seq_k); intro KK kk) | ((with_reducible apply seq_q); (focus (first | exact wanted_none rfl | exact wanted_yes rfl rfl rfl)); (focus (simp [go_sem, effAt, ↓IntWalk.iteOmega, *]; (try go_ints); (first | (with_reducible exact effUpon_val) | (with_reducible exact effUpon_skip)))); (focus ((first | (apply put_some rfl; focus (conv => lhs; dsimp only [List.set_cons_zero, List.set_cons_succ]) <;> rfl) | exact put_none rfl)))) | ((with_reducible apply seq_s); (focus (first | exact wanted_no rfl rfl rfl | exact wanted_undef rfl rfl rfl)); (focus ((first | (apply put_some rfl; focus (conv => lhs; dsimp only [List.set_cons_zero, List.set_cons_succ]) <;> rfl) | exact put_none rfl)))) | with_reducible apply wp_block | with_reducible apply wp_skip | with_reducible apply wp_exit | with_reducible apply wp_ret | ((with_reducible apply wp_cond_true); (focus (first | rfl | (simp [go_sem, *]; done)))) | ((with_reducible apply wp_cond_false); (focus (first | rfl | (simp [go_sem, *]; done)))) | (simp only [Exit.then, Exit.inBlock, ↓reduceIte, Nat.reduceEqDiff]) | ((with_reducible apply kf_out); (focus assumption)))
                have lt_o_p := hB_o.lt
                have lt_r_p := hB_r.lt
                ((with_reducible apply seq_box); (focus rfl); (focus (simp [go_sem, effAt]; exact ⟨rfl, rfl⟩)); (focus ((first | (apply put_some rfl; focus (conv => lhs; dsimp only [List.set_cons_zero, List.set_cons_succ]) <;> rfl) | exact put_none rfl))))
                intro w31 hB_p hs
                have Fw31 := Fwr.trans (hs.mono Fwr.size)
                replace hB_o := hB_o.below hs hB_o.lt
                replace hB_r := hB_r.below hs hB_r.lt
                clear hs Fwr
                clear hc_o; have hc_o := hB_o.cell
                clear hc_r; have hc_r := hB_r.cell
                have hc_p := hB_p.cell
                have hf_p := hB_p.frozen
                ((with_reducible apply seq_e (fun w' => Blk w' _ _ _ ∧ w31.grownBy w' (some _))); (focus rfl); (focus (simp [go_sem, effAt, *]; exact ⟨rfl, ((((((((hB_p.set_ 0 _).set_ 1 _).set_ 2 _).set_ 3 _).set_ 4 _).set_ 5 _).set_ 6 _).set_ 7 _), (grown_set (grown_set (grown_set (grown_set (grown_set (grown_set (grown_set (grown_set (World.grownBy.refl _ _)))))))))⟩)); (focus ((first | (apply put_some rfl; focus (conv => lhs; dsimp only [List.set_cons_zero, List.set_cons_succ]) <;> rfl) | exact put_none rfl))))
                clear hf_p hc_p hB_p
                intro w32 hs
                obtain ⟨hB_p, hs⟩ := hs
                simp only [List.setIfInBounds_toArray, List.set_cons_zero, List.set_cons_succ] at hB_p
                have Fw32 := Fw31.grown hs Fw31.size (by intro k hk; first | (injection hk with hk; subst hk; first | exact Nat.le_refl _ | exact Fw31.size | omega) | omega)
                replace hB_o := hB_o.grown hs (by intro hk; injection hk with hk; have := hB_o.lt; have := hB_p.lt; omega)
                replace hB_r := hB_r.grown hs (by intro hk; injection hk with hk; have := hB_r.lt; have := hB_p.lt; omega)
                clear hs Fw31
                clear hc_o; have hc_o := hB_o.cell
                clear hc_r; have hc_r := hB_r.cell
                have hc_p := hB_p.cell
                repeat (first | with_reducible apply wpList_nil | ((with_reducible apply region_k); intro KK kk) | with_reducible apply wp_region_lit | ((with_reducible apply seq_k); intro KK kk) | ((with_reducible apply seq_q); (focus (first | exact wanted_none rfl | exact wanted_yes rfl rfl rfl)); (focus (simp [go_sem, effAt, ↓IntWalk.iteOmega, *]; (try go_ints); (first | (with_reducible exact effUpon_val) | (with_reducible exact effUpon_skip)))); (focus ((first | (apply put_some rfl; focus (conv => lhs; dsimp only [List.set_cons_zero, List.set_cons_succ]) <;> rfl) | exact put_none rfl)))) | ((with_reducible apply seq_s); (focus (first | exact wanted_no rfl rfl rfl | exact wanted_undef rfl rfl rfl)); (focus ((first | (apply put_some rfl; focus (conv => lhs; dsimp only [List.set_cons_zero, List.set_cons_succ]) <;> rfl) | exact put_none rfl)))) | with_reducible apply wp_block | with_reducible apply wp_skip | with_reducible apply wp_exit | with_reducible apply wp_ret | ((with_reducible apply wp_cond_true); (focus (first | rfl | (simp [go_sem, *]; done)))) | ((with_reducible apply wp_cond_false); (focus (first | rfl | (simp [go_sem, *]; done)))) | (simp only [Exit.then, Exit.inBlock, ↓reduceIte, Nat.reduceEqDiff]) | ((with_reducible apply kf_out); (focus assumption)))
                have hf_p := hB_p.frozen
                ((with_reducible apply seq_e (fun w' => Blk w' _ _ _ ∧ w32.grownBy w' (some _))); (focus rfl); (focus (simp [go_sem, effAt, *]; exact ⟨rfl, (hB_p.set_ 5 _), (grown_set (World.grownBy.refl _ _))⟩)); (focus ((first | (apply put_some rfl; focus (conv => lhs; dsimp only [List.set_cons_zero, List.set_cons_succ]) <;> rfl) | exact put_none rfl))))
                clear hf_p hc_p hB_p
                intro w33 hs
                obtain ⟨hB_p, hs⟩ := hs
                simp only [List.setIfInBounds_toArray, List.set_cons_zero, List.set_cons_succ] at hB_p
                have Fw33 := Fw32.grown hs Fw32.size (by intro k hk; first | (injection hk with hk; subst hk; first | exact Nat.le_refl _ | exact Fw32.size | omega) | omega)
                replace hB_o := hB_o.grown hs (by intro hk; injection hk with hk; have := hB_o.lt; have := hB_p.lt; omega)
                replace hB_r := hB_r.grown hs (by intro hk; injection hk with hk; have := hB_r.lt; have := hB_p.lt; omega)
                clear hs Fw32
                clear hc_o; have hc_o := hB_o.cell
                clear hc_r; have hc_r := hB_r.cell
                have hc_p := hB_p.cell
                repeat (first | with_reducible apply wpList_nil | ((with_reducible apply region_k); intro KK kk) | with_reducible apply wp_region_lit | ((with_reducible apply seq_k); intro KK kk) | ((with_reducible apply seq_q); (focus (first | exact wanted_none rfl | exact wanted_yes rfl rfl rfl)); (focus (simp [go_sem, effAt, ↓IntWalk.iteOmega, *]; (try go_ints); (first | (with_reducible exact effUpon_val) | (with_reducible exact effUpon_skip)))); (focus ((first | (apply put_some rfl; focus (conv => lhs; dsimp only [List.set_cons_zero, List.set_cons_succ]) <;> rfl) | exact put_none rfl)))) | ((with_reducible apply seq_s); (focus (first | exact wanted_no rfl rfl rfl | exact wanted_undef rfl rfl rfl)); (focus ((first | (apply put_some rfl; focus (conv => lhs; dsimp only [List.set_cons_zero, List.set_cons_succ]) <;> rfl) | exact put_none rfl)))) | with_reducible apply wp_block | with_reducible apply wp_skip | with_reducible apply wp_exit | with_reducible apply wp_ret | ((with_reducible apply wp_cond_true); (focus (first | rfl | (simp [go_sem, *]; done)))) | ((with_reducible apply wp_cond_false); (focus (first | rfl | (simp [go_sem, *]; done)))) | (simp only [Exit.then, Exit.inBlock, ↓reduceIte, Nat.reduceEqDiff]) | ((with_reducible apply kf_out); (focus assumption)))
                ((with_reducible apply seq_e (Below w33.heap.size w33)); (focus rfl); (focus (simp only [effAt]; simp [go_sem]; (with_reducible exact effUpon_enter (hP0 _)))); (focus ((first | (apply put_some rfl; focus (conv => lhs; dsimp only [List.set_cons_zero, List.set_cons_succ]) <;> rfl) | exact put_none rfl))))
                intro w34 hs
                have Fw34 := Fw33.trans (hs.mono Fw33.size)
                replace hB_o := hB_o.below hs hB_o.lt
                replace hB_r := hB_r.below hs hB_r.lt
                replace hB_p := hB_p.below hs hB_p.lt
                clear hs Fw33
                clear hc_o; have hc_o := hB_o.cell
                clear hc_r; have hc_r := hB_r.cell
                clear hc_p; have hc_p := hB_p.cell
                repeat (first | with_reducible apply wpList_nil | ((with_reducible apply region_k); intro KK kk) | with_reducible apply wp_region_lit | ((with_reducible apply seq_k); intro KK kk) | ((with_reducible apply seq_q); (focus (first | exact wanted_none rfl | exact wanted_yes rfl rfl rfl)); (focus (simp [go_sem, effAt, ↓IntWalk.iteOmega, *]; (try go_ints); (first | (with_reducible exact effUpon_val) | (with_reducible exact effUpon_skip)))); (focus ((first | (apply put_some rfl; focus (conv => lhs; dsimp only [List.set_cons_zero, List.set_cons_succ]) <;> rfl) | exact put_none rfl)))) | ((with_reducible apply seq_s); (focus (first | exact wanted_no rfl rfl rfl | exact wanted_undef rfl rfl rfl)); (focus ((first | (apply put_some rfl; focus (conv => lhs; dsimp only [List.set_cons_zero, List.set_cons_succ]) <;> rfl) | exact put_none rfl)))) | with_reducible apply wp_block | with_reducible apply wp_skip | with_reducible apply wp_exit | with_reducible apply wp_ret | ((with_reducible apply wp_cond_true); (focus (first | rfl | (simp [go_sem, *]; done)))) | ((with_reducible apply wp_cond_false); (focus (first | rfl | (simp [go_sem, *]; done)))) | (simp only [Exit.then, Exit.inBlock, ↓reduceIte, Nat.reduceEqDiff]) | ((with_reducible apply kf_out); (focus assumption)))
                ((with_reducible apply seq_e (Below w34.heap.size w34)); (focus rfl); (focus (simp only [effAt]; simp [go_sem]; (with_reducible exact effUpon_enter (hA1 _)))); (focus ((first | (apply put_some rfl; focus (conv => lhs; dsimp only [List.set_cons_zero, List.set_cons_succ]) <;> rfl) | exact put_none rfl))))
                intro w35 hs
                have Fw35 := Fw34.trans (hs.mono Fw34.size)
                replace hB_o := hB_o.below hs hB_o.lt
                replace hB_r := hB_r.below hs hB_r.lt
                replace hB_p := hB_p.below hs hB_p.lt
                clear hs Fw34
                clear hc_o; have hc_o := hB_o.cell
                clear hc_r; have hc_r := hB_r.cell
                clear hc_p; have hc_p := hB_p.cell
                repeat (first | with_reducible apply wpList_nil | ((with_reducible apply region_k); intro KK kk) | with_reducible apply wp_region_lit | ((with_reducible apply seq_k); intro KK kk) | ((with_reducible apply seq_q); (focus (first | exact wanted_none rfl | exact wanted_yes rfl rfl rfl)); (focus (simp [go_sem, effAt, ↓IntWalk.iteOmega, *]; (try go_ints); (first | (with_reducible exact effUpon_val) | (with_reducible exact effUpon_skip)))); (focus ((first | (apply put_some rfl; focus (conv => lhs; dsimp only [List.set_cons_zero, List.set_cons_succ]) <;> rfl) | exact put_none rfl)))) | ((with_reducible apply seq_s); (focus (first | exact wanted_no rfl rfl rfl | exact wanted_undef rfl rfl rfl)); (focus ((first | (apply put_some rfl; focus (conv => lhs; dsimp only [List.set_cons_zero, List.set_cons_succ]) <;> rfl) | exact put_none rfl)))) | with_reducible apply wp_block | with_reducible apply wp_skip | with_reducible apply wp_exit | with_reducible apply wp_ret | ((with_reducible apply wp_cond_true); (focus (first | rfl | (simp [go_sem, *]; done)))) | ((with_reducible apply wp_cond_false); (focus (first | rfl | (simp [go_sem, *]; done)))) | (simp only [Exit.then, Exit.inBlock, ↓reduceIte, Nat.reduceEqDiff]) | ((with_reducible apply kf_out); (focus assumption)))
                ((with_reducible apply seq_e (Below w35.heap.size w35)); (focus rfl); (focus (simp only [effAt]; simp [go_sem]; (with_reducible exact effUpon_enter (hA2 _)))); (focus ((first | (apply put_some rfl; focus (conv => lhs; dsimp only [List.set_cons_zero, List.set_cons_succ]) <;> rfl) | exact put_none rfl))))
                intro w36 hs
                have Fw36 := Fw35.trans (hs.mono Fw35.size)
                replace hB_o := hB_o.below hs hB_o.lt
                replace hB_r := hB_r.below hs hB_r.lt
                replace hB_p := hB_p.below hs hB_p.lt
                clear hs Fw35
                clear hc_o; have hc_o := hB_o.cell
                clear hc_r; have hc_r := hB_r.cell
                clear hc_p; have hc_p := hB_p.cell
                repeat (first | with_reducible apply wpList_nil | ((with_reducible apply region_k); intro KK kk) | with_reducible apply wp_region_lit | ((with_reducible apply seq_k); intro KK kk) | ((with_reducible apply seq_q); (focus (first | exact wanted_none rfl | exact wanted_yes rfl rfl rfl)); (focus (simp [go_sem, effAt, ↓IntWalk.iteOmega, *]; (try go_ints); (first | (with_reducible exact effUpon_val) | (with_reducible exact effUpon_skip)))); (focus ((first | (apply put_some rfl; focus (conv => lhs; dsimp only [List.set_cons_zero, List.set_cons_succ]) <;> rfl) | exact put_none rfl)))) | ((with_reducible apply seq_s); (focus (first | exact wanted_no rfl rfl rfl | exact wanted_undef rfl rfl rfl)); (focus ((first | (apply put_some rfl; focus (conv => lhs; dsimp only [List.set_cons_zero, List.set_cons_succ]) <;> rfl) | exact put_none rfl)))) | with_reducible apply wp_block | with_reducible apply wp_skip | with_reducible apply wp_exit | with_reducible apply wp_ret | ((with_reducible apply wp_cond_true); (focus (first | rfl | (simp [go_sem, *]; done)))) | ((with_reducible apply wp_cond_false); (focus (first | rfl | (simp [go_sem, *]; done)))) | (simp only [Exit.then, Exit.inBlock, ↓reduceIte, Nat.reduceEqDiff]) | ((with_reducible apply kf_out); (focus assumption)))
                ((with_reducible apply seq_e (Below w36.heap.size w36)); (focus rfl); (focus (simp only [effAt]; simp [go_sem]; (with_reducible exact effUpon_enter (hB1 _)))); (focus ((first | (apply put_some rfl; focus (conv => lhs; dsimp only [List.set_cons_zero, List.set_cons_succ]) <;> rfl) | exact put_none rfl))))
                intro w37 hs
                have Fw37 := Fw36.trans (hs.mono Fw36.size)
                replace hB_o := hB_o.below hs hB_o.lt
                replace hB_r := hB_r.below hs hB_r.lt
                replace hB_p := hB_p.below hs hB_p.lt
                clear hs Fw36
                clear hc_o; have hc_o := hB_o.cell
                clear hc_r; have hc_r := hB_r.cell
                clear hc_p; have hc_p := hB_p.cell
                repeat (first | with_reducible apply wpList_nil | ((with_reducible apply region_k); intro KK kk) | with_reducible apply wp_region_lit | ((with_reducible apply seq_k); intro KK kk) | ((with_reducible apply seq_q); (focus (first | exact wanted_none rfl | exact wanted_yes rfl rfl rfl)); (focus (simp [go_sem, effAt, ↓IntWalk.iteOmega, *]; (try go_ints); (first | (with_reducible exact effUpon_val) | (with_reducible exact effUpon_skip)))); (focus ((first | (apply put_some rfl; focus (conv => lhs; dsimp only [List.set_cons_zero, List.set_cons_succ]) <;> rfl) | exact put_none rfl)))) | ((with_reducible apply seq_s); (focus (first | exact wanted_no rfl rfl rfl | exact wanted_undef rfl rfl rfl)); (focus ((first | (apply put_some rfl; focus (conv => lhs; dsimp only [List.set_cons_zero, List.set_cons_succ]) <;> rfl) | exact put_none rfl)))) | with_reducible apply wp_block | with_reducible apply wp_skip | with_reducible apply wp_exit | with_reducible apply wp_ret | ((with_reducible apply wp_cond_true); (focus (first | rfl | (simp [go_sem, *]; done)))) | ((with_reducible apply wp_cond_false); (focus (first | rfl | (simp [go_sem, *]; done)))) | (simp only [Exit.then, Exit.inBlock, ↓reduceIte, Nat.reduceEqDiff]) | ((with_reducible apply kf_out); (focus assumption)))
                ((with_reducible apply seq_e (Below w37.heap.size w37)); (focus rfl); (focus (simp only [effAt]; simp [go_sem]; (with_reducible exact effUpon_enter (hB2 _)))); (focus ((first | (apply put_some rfl; focus (conv => lhs; dsimp only [List.set_cons_zero, List.set_cons_succ]) <;> rfl) | exact put_none rfl))))
                intro w38 hs
                have Fw38 := Fw37.trans (hs.mono Fw37.size)
                replace hB_o := hB_o.below hs hB_o.lt
                replace hB_r := hB_r.below hs hB_r.lt
                replace hB_p := hB_p.below hs hB_p.lt
                clear hs Fw37
                clear hc_o; have hc_o := hB_o.cell
                clear hc_r; have hc_r := hB_r.cell
                clear hc_p; have hc_p := hB_p.cell
                repeat (first | with_reducible apply wpList_nil | ((with_reducible apply region_k); intro KK kk) | with_reducible apply wp_region_lit | ((with_reducible apply seq_k); intro KK kk) | ((with_reducible apply seq_q); (focus (first | exact wanted_none rfl | exact wanted_yes rfl rfl rfl)); (focus (simp [go_sem, effAt, ↓IntWalk.iteOmega, *]; (try go_ints); (first | (with_reducible exact effUpon_val) | (with_reducible exact effUpon_skip)))); (focus ((first | (apply put_some rfl; focus (conv => lhs; dsimp only [List.set_cons_zero, List.set_cons_succ]) <;> rfl) | exact put_none rfl)))) | ((with_reducible apply seq_s); (focus (first | exact wanted_no rfl rfl rfl | exact wanted_undef rfl rfl rfl)); (focus ((first | (apply put_some rfl; focus (conv => lhs; dsimp only [List.set_cons_zero, List.set_cons_succ]) <;> rfl) | exact put_none rfl)))) | with_reducible apply wp_block | with_reducible apply wp_skip | with_reducible apply wp_exit | with_reducible apply wp_ret | ((with_reducible apply wp_cond_true); (focus (first | rfl | (simp [go_sem, *]; done)))) | ((with_reducible apply wp_cond_false); (focus (first | rfl | (simp [go_sem, *]; done)))) | (simp only [Exit.then, Exit.inBlock, ↓reduceIte, Nat.reduceEqDiff]) | ((with_reducible apply kf_out); (focus assumption)))
                refine hK2 _ _ (Handed.intro 2 ?measure (hJ2 _ _ _ ?_))
                rotate_left
                (repeat apply Exists.intro)
                refine ⟨?rel, rfl⟩
                case rel => exact ⟨2, by go_num, by omega, hB_o, hB_r, hF.trans (Below.mono (by assumption) (by have := hF.size; have := HOG.out; omega))⟩
                case measure => omega
              · have hP0 := fun w1 => puts_any 5 2 3 7 10 300 x 2 ⟨#[]⟩ w1 (by omega) (by omega) (by omega) (by omega) (by decide)
                have hA1 := fun w1 => agrees_any 5 2 3 7 10 300 x 2 5 2 3 7 10 300 3 2 w1 (by omega)
                have hA2 := fun w1 => agrees_any 5 2 3 7 10 300 3 2 5 2 3 7 10 300 x 2 w1 (by omega)
                have hB1 := fun w1 => back_any 5 2 3 7 10 300 x 2 5 2 3 7 10 300 3 2 ⟨#[]⟩ w1 (by omega) (by omega) (by omega) (by omega) (by decide)
                have hB2 := fun w1 => back_any 5 2 3 7 10 300 3 2 5 2 3 7 10 300 x 2 ⟨#[]⟩ w1 (by omega) (by omega) (by omega) (by omega) (by decide)
                have Fwr : Below wr.heap.size wr wr := Below.refl _ _
                have hc_o := hB_o.cell
                have hc_r := hB_r.cell
                repeat (first | with_reducible apply wpList_nil | ((with_reducible apply region_k); intro KK kk) | with_reducible apply wp_region_lit | ((with_reducible apply seq_k); intro KK kk) | ((with_reducible apply seq_q); (focus (first | exact wanted_none rfl | exact wanted_yes rfl rfl rfl)); (focus (simp [go_sem, effAt, ↓IntWalk.iteOmega, *]; (try go_ints); (first | (with_reducible exact effUpon_val) | (with_reducible exact effUpon_skip)))); (focus ((first | (apply put_some rfl; focus (conv => lhs; dsimp only [List.set_cons_zero, List.set_cons_succ]) <;> rfl) | exact put_none rfl)))) | ((with_reducible apply seq_s); (focus (first | exact wanted_no rfl rfl rfl | exact wanted_undef rfl rfl rfl)); (focus ((first | (apply put_some rfl; focus (conv => lhs; dsimp only [List.set_cons_zero, List.set_cons_succ]) <;> rfl) | exact put_none rfl)))) | with_reducible apply wp_block | with_reducible apply wp_skip | with_reducible apply wp_exit | with_reducible apply wp_ret | ((with_reducible apply wp_cond_true); (focus (first | rfl | (simp [go_sem, *]; done)))) | ((with_reducible apply wp_cond_false); (focus (first | rfl | (simp [go_sem, *]; done)))) | (simp only [Exit.then, Exit.inBlock, ↓reduceIte, Nat.reduceEqDiff]) | ((with_reducible apply kf_out); (focus assumption)))
                have lt_o_p := hB_o.lt
                have lt_r_p := hB_r.lt
                ((with_reducible apply seq_box); (focus rfl); (focus (simp [go_sem, effAt]; exact ⟨rfl, rfl⟩)); (focus ((first | (apply put_some rfl; focus (conv => lhs; dsimp only [List.set_cons_zero, List.set_cons_succ]) <;> rfl) | exact put_none rfl))))
                intro w39 hB_p hs
                have Fw39 := Fwr.trans (hs.mono Fwr.size)
                replace hB_o := hB_o.below hs hB_o.lt
                replace hB_r := hB_r.below hs hB_r.lt
                clear hs Fwr
                clear hc_o; have hc_o := hB_o.cell
                clear hc_r; have hc_r := hB_r.cell
                have hc_p := hB_p.cell
                have hf_p := hB_p.frozen
                ((with_reducible apply seq_e (fun w' => Blk w' _ _ _ ∧ w39.grownBy w' (some _))); (focus rfl); (focus (simp [go_sem, effAt, *]; exact ⟨rfl, ((((((((hB_p.set_ 0 _).set_ 1 _).set_ 2 _).set_ 3 _).set_ 4 _).set_ 5 _).set_ 6 _).set_ 7 _), (grown_set (grown_set (grown_set (grown_set (grown_set (grown_set (grown_set (grown_set (World.grownBy.refl _ _)))))))))⟩)); (focus ((first | (apply put_some rfl; focus (conv => lhs; dsimp only [List.set_cons_zero, List.set_cons_succ]) <;> rfl) | exact put_none rfl))))
                clear hf_p hc_p hB_p
                intro w40 hs
                obtain ⟨hB_p, hs⟩ := hs
                simp only [List.setIfInBounds_toArray, List.set_cons_zero, List.set_cons_succ] at hB_p
                have Fw40 := Fw39.grown hs Fw39.size (by intro k hk; first | (injection hk with hk; subst hk; first | exact Nat.le_refl _ | exact Fw39.size | omega) | omega)
                replace hB_o := hB_o.grown hs (by intro hk; injection hk with hk; have := hB_o.lt; have := hB_p.lt; omega)
                replace hB_r := hB_r.grown hs (by intro hk; injection hk with hk; have := hB_r.lt; have := hB_p.lt; omega)
                clear hs Fw39
                clear hc_o; have hc_o := hB_o.cell
                clear hc_r; have hc_r := hB_r.cell
                have hc_p := hB_p.cell
                repeat (first | with_reducible apply wpList_nil | ((with_reducible apply region_k); intro KK kk) | with_reducible apply wp_region_lit | ((with_reducible apply seq_k); intro KK kk) | ((with_reducible apply seq_q); (focus (first | exact wanted_none rfl | exact wanted_yes rfl rfl rfl)); (focus (simp [go_sem, effAt, ↓IntWalk.iteOmega, *]; (try go_ints); (first | (with_reducible exact effUpon_val) | (with_reducible exact effUpon_skip)))); (focus ((first | (apply put_some rfl; focus (conv => lhs; dsimp only [List.set_cons_zero, List.set_cons_succ]) <;> rfl) | exact put_none rfl)))) | ((with_reducible apply seq_s); (focus (first | exact wanted_no rfl rfl rfl | exact wanted_undef rfl rfl rfl)); (focus ((first | (apply put_some rfl; focus (conv => lhs; dsimp only [List.set_cons_zero, List.set_cons_succ]) <;> rfl) | exact put_none rfl)))) | with_reducible apply wp_block | with_reducible apply wp_skip | with_reducible apply wp_exit | with_reducible apply wp_ret | ((with_reducible apply wp_cond_true); (focus (first | rfl | (simp [go_sem, *]; done)))) | ((with_reducible apply wp_cond_false); (focus (first | rfl | (simp [go_sem, *]; done)))) | (simp only [Exit.then, Exit.inBlock, ↓reduceIte, Nat.reduceEqDiff]) | ((with_reducible apply kf_out); (focus assumption)))
                have hf_p := hB_p.frozen
                ((with_reducible apply seq_e (fun w' => Blk w' _ _ _ ∧ w40.grownBy w' (some _))); (focus rfl); (focus (simp [go_sem, effAt, *]; exact ⟨rfl, (hB_p.set_ 6 _), (grown_set (World.grownBy.refl _ _))⟩)); (focus ((first | (apply put_some rfl; focus (conv => lhs; dsimp only [List.set_cons_zero, List.set_cons_succ]) <;> rfl) | exact put_none rfl))))
                clear hf_p hc_p hB_p
                intro w41 hs
                obtain ⟨hB_p, hs⟩ := hs
                simp only [List.setIfInBounds_toArray, List.set_cons_zero, List.set_cons_succ] at hB_p
                have Fw41 := Fw40.grown hs Fw40.size (by intro k hk; first | (injection hk with hk; subst hk; first | exact Nat.le_refl _ | exact Fw40.size | omega) | omega)
                replace hB_o := hB_o.grown hs (by intro hk; injection hk with hk; have := hB_o.lt; have := hB_p.lt; omega)
                replace hB_r := hB_r.grown hs (by intro hk; injection hk with hk; have := hB_r.lt; have := hB_p.lt; omega)
                clear hs Fw40
                clear hc_o; have hc_o := hB_o.cell
                clear hc_r; have hc_r := hB_r.cell
                have hc_p := hB_p.cell
                repeat (first | with_reducible apply wpList_nil | ((with_reducible apply region_k); intro KK kk) | with_reducible apply wp_region_lit | ((with_reducible apply seq_k); intro KK kk) | ((with_reducible apply seq_q); (focus (first | exact wanted_none rfl | exact wanted_yes rfl rfl rfl)); (focus (simp [go_sem, effAt, ↓IntWalk.iteOmega, *]; (try go_ints); (first | (with_reducible exact effUpon_val) | (with_reducible exact effUpon_skip)))); (focus ((first | (apply put_some rfl; focus (conv => lhs; dsimp only [List.set_cons_zero, List.set_cons_succ]) <;> rfl) | exact put_none rfl)))) | ((with_reducible apply seq_s); (focus (first | exact wanted_no rfl rfl rfl | exact wanted_undef rfl rfl rfl)); (focus ((first | (apply put_some rfl; focus (conv => lhs; dsimp only [List.set_cons_zero, List.set_cons_succ]) <;> rfl) | exact put_none rfl)))) | with_reducible apply wp_block | with_reducible apply wp_skip | with_reducible apply wp_exit | with_reducible apply wp_ret | ((with_reducible apply wp_cond_true); (focus (first | rfl | (simp [go_sem, *]; done)))) | ((with_reducible apply wp_cond_false); (focus (first | rfl | (simp [go_sem, *]; done)))) | (simp only [Exit.then, Exit.inBlock, ↓reduceIte, Nat.reduceEqDiff]) | ((with_reducible apply kf_out); (focus assumption)))
                ((with_reducible apply seq_e (Below w41.heap.size w41)); (focus rfl); (focus (simp only [effAt]; simp [go_sem]; (with_reducible exact effUpon_enter (hP0 _)))); (focus ((first | (apply put_some rfl; focus (conv => lhs; dsimp only [List.set_cons_zero, List.set_cons_succ]) <;> rfl) | exact put_none rfl))))
                intro w42 hs
                have Fw42 := Fw41.trans (hs.mono Fw41.size)
                replace hB_o := hB_o.below hs hB_o.lt
                replace hB_r := hB_r.below hs hB_r.lt
                replace hB_p := hB_p.below hs hB_p.lt
                clear hs Fw41
                clear hc_o; have hc_o := hB_o.cell
                clear hc_r; have hc_r := hB_r.cell
                clear hc_p; have hc_p := hB_p.cell
                repeat (first | with_reducible apply wpList_nil | ((with_reducible apply region_k); intro KK kk) | with_reducible apply wp_region_lit | ((with_reducible apply seq_k); intro KK kk) | ((with_reducible apply seq_q); (focus (first | exact wanted_none rfl | exact wanted_yes rfl rfl rfl)); (focus (simp [go_sem, effAt, ↓IntWalk.iteOmega, *]; (try go_ints); (first | (with_reducible exact effUpon_val) | (with_reducible exact effUpon_skip)))); (focus ((first | (apply put_some rfl; focus (conv => lhs; dsimp only [List.set_cons_zero, List.set_cons_succ]) <;> rfl) | exact put_none rfl)))) | ((with_reducible apply seq_s); (focus (first | exact wanted_no rfl rfl rfl | exact wanted_undef rfl rfl rfl)); (focus ((first | (apply put_some rfl; focus (conv => lhs; dsimp only [List.set_cons_zero, List.set_cons_succ]) <;> rfl) | exact put_none rfl)))) | with_reducible apply wp_block | with_reducible apply wp_skip | with_reducible apply wp_exit | with_reducible apply wp_ret | ((with_reducible apply wp_cond_true); (focus (first | rfl | (simp [go_sem, *]; done)))) | ((with_reducible apply wp_cond_false); (focus (first | rfl | (simp [go_sem, *]; done)))) | (simp only [Exit.then, Exit.inBlock, ↓reduceIte, Nat.reduceEqDiff]) | ((with_reducible apply kf_out); (focus assumption)))
                ((with_reducible apply seq_e (Below w42.heap.size w42)); (focus rfl); (focus (simp only [effAt]; simp [go_sem]; (with_reducible exact effUpon_enter (hA1 _)))); (focus ((first | (apply put_some rfl; focus (conv => lhs; dsimp only [List.set_cons_zero, List.set_cons_succ]) <;> rfl) | exact put_none rfl))))
                intro w43 hs
                have Fw43 := Fw42.trans (hs.mono Fw42.size)
                replace hB_o := hB_o.below hs hB_o.lt
                replace hB_r := hB_r.below hs hB_r.lt
                replace hB_p := hB_p.below hs hB_p.lt
                clear hs Fw42
                clear hc_o; have hc_o := hB_o.cell
                clear hc_r; have hc_r := hB_r.cell
                clear hc_p; have hc_p := hB_p.cell
                repeat (first | with_reducible apply wpList_nil | ((with_reducible apply region_k); intro KK kk) | with_reducible apply wp_region_lit | ((with_reducible apply seq_k); intro KK kk) | ((with_reducible apply seq_q); (focus (first | exact wanted_none rfl | exact wanted_yes rfl rfl rfl)); (focus (simp [go_sem, effAt, ↓IntWalk.iteOmega, *]; (try go_ints); (first | (with_reducible exact effUpon_val) | (with_reducible exact effUpon_skip)))); (focus ((first | (apply put_some rfl; focus (conv => lhs; dsimp only [List.set_cons_zero, List.set_cons_succ]) <;> rfl) | exact put_none rfl)))) | ((with_reducible apply seq_s); (focus (first | exact wanted_no rfl rfl rfl | exact wanted_undef rfl rfl rfl)); (focus ((first | (apply put_some rfl; focus (conv => lhs; dsimp only [List.set_cons_zero, List.set_cons_succ]) <;> rfl) | exact put_none rfl)))) | with_reducible apply wp_block | with_reducible apply wp_skip | with_reducible apply wp_exit | with_reducible apply wp_ret | ((with_reducible apply wp_cond_true); (focus (first | rfl | (simp [go_sem, *]; done)))) | ((with_reducible apply wp_cond_false); (focus (first | rfl | (simp [go_sem, *]; done)))) | (simp only [Exit.then, Exit.inBlock, ↓reduceIte, Nat.reduceEqDiff]) | ((with_reducible apply kf_out); (focus assumption)))
                ((with_reducible apply seq_e (Below w43.heap.size w43)); (focus rfl); (focus (simp only [effAt]; simp [go_sem]; (with_reducible exact effUpon_enter (hA2 _)))); (focus ((first | (apply put_some rfl; focus (conv => lhs; dsimp only [List.set_cons_zero, List.set_cons_succ]) <;> rfl) | exact put_none rfl))))
                intro w44 hs
                have Fw44 := Fw43.trans (hs.mono Fw43.size)
                replace hB_o := hB_o.below hs hB_o.lt
                replace hB_r := hB_r.below hs hB_r.lt
                replace hB_p := hB_p.below hs hB_p.lt
                clear hs Fw43
                clear hc_o; have hc_o := hB_o.cell
                clear hc_r; have hc_r := hB_r.cell
                clear hc_p; have hc_p := hB_p.cell
                repeat (first | with_reducible apply wpList_nil | ((with_reducible apply region_k); intro KK kk) | with_reducible apply wp_region_lit | ((with_reducible apply seq_k); intro KK kk) | ((with_reducible apply seq_q); (focus (first | exact wanted_none rfl | exact wanted_yes rfl rfl rfl)); (focus (simp [go_sem, effAt, ↓IntWalk.iteOmega, *]; (try go_ints); (first | (with_reducible exact effUpon_val) | (with_reducible exact effUpon_skip)))); (focus ((first | (apply put_some rfl; focus (conv => lhs; dsimp only [List.set_cons_zero, List.set_cons_succ]) <;> rfl) | exact put_none rfl)))) | ((with_reducible apply seq_s); (focus (first | exact wanted_no rfl rfl rfl | exact wanted_undef rfl rfl rfl)); (focus ((first | (apply put_some rfl; focus (conv => lhs; dsimp only [List.set_cons_zero, List.set_cons_succ]) <;> rfl) | exact put_none rfl)))) | with_reducible apply wp_block | with_reducible apply wp_skip | with_reducible apply wp_exit | with_reducible apply wp_ret | ((with_reducible apply wp_cond_true); (focus (first | rfl | (simp [go_sem, *]; done)))) | ((with_reducible apply wp_cond_false); (focus (first | rfl | (simp [go_sem, *]; done)))) | (simp only [Exit.then, Exit.inBlock, ↓reduceIte, Nat.reduceEqDiff]) | ((with_reducible apply kf_out); (focus assumption)))
                ((with_reducible apply seq_e (Below w44.heap.size w44)); (focus rfl); (focus (simp only [effAt]; simp [go_sem]; (with_reducible exact effUpon_enter (hB1 _)))); (focus ((first | (apply put_some rfl; focus (conv => lhs; dsimp only [List.set_cons_zero, List.set_cons_succ]) <;> rfl) | exact put_none rfl))))
                intro w45 hs
                have Fw45 := Fw44.trans (hs.mono Fw44.size)
                replace hB_o := hB_o.below hs hB_o.lt
                replace hB_r := hB_r.below hs hB_r.lt
                replace hB_p := hB_p.below hs hB_p.lt
                clear hs Fw44
                clear hc_o; have hc_o := hB_o.cell
                clear hc_r; have hc_r := hB_r.cell
                clear hc_p; have hc_p := hB_p.cell
                repeat (first | with_reducible apply wpList_nil | ((with_reducible apply region_k); intro KK kk) | with_reducible apply wp_region_lit | ((with_reducible apply seq_k); intro KK kk) | ((with_reducible apply seq_q); (focus (first | exact wanted_none rfl | exact wanted_yes rfl rfl rfl)); (focus (simp [go_sem, effAt, ↓IntWalk.iteOmega, *]; (try go_ints); (first | (with_reducible exact effUpon_val) | (with_reducible exact effUpon_skip)))); (focus ((first | (apply put_some rfl; focus (conv => lhs; dsimp only [List.set_cons_zero, List.set_cons_succ]) <;> rfl) | exact put_none rfl)))) | ((with_reducible apply seq_s); (focus (first | exact wanted_no rfl rfl rfl | exact wanted_undef rfl rfl rfl)); (focus ((first | (apply put_some rfl; focus (conv => lhs; dsimp only [List.set_cons_zero, List.set_cons_succ]) <;> rfl) | exact put_none rfl)))) | with_reducible apply wp_block | with_reducible apply wp_skip | with_reducible apply wp_exit | with_reducible apply wp_ret | ((with_reducible apply wp_cond_true); (focus (first | rfl | (simp [go_sem, *]; done)))) | ((with_reducible apply wp_cond_false); (focus (first | rfl | (simp [go_sem, *]; done)))) | (simp only [Exit.then, Exit.inBlock, ↓reduceIte, Nat.reduceEqDiff]) | ((with_reducible apply kf_out); (focus assumption)))
                ((with_reducible apply seq_e (Below w45.heap.size w45)); (focus rfl); (focus (simp only [effAt]; simp [go_sem]; (with_reducible exact effUpon_enter (hB2 _)))); (focus ((first | (apply put_some rfl; focus (conv => lhs; dsimp only [List.set_cons_zero, List.set_cons_succ]) <;> rfl) | exact put_none rfl))))
                intro w46 hs
                have Fw46 := Fw45.trans (hs.mono Fw45.size)
                replace hB_o := hB_o.below hs hB_o.lt
                replace hB_r := hB_r.below hs hB_r.lt
                replace hB_p := hB_p.below hs hB_p.lt
                clear hs Fw45
                clear hc_o; have hc_o := hB_o.cell
                clear hc_r; have hc_r := hB_r.cell
                clear hc_p; have hc_p := hB_p.cell
                repeat (first | with_reducible apply wpList_nil | ((with_reducible apply region_k); intro KK kk) | with_reducible apply wp_region_lit | ((with_reducible apply seq_k); intro KK kk) | ((with_reducible apply seq_q); (focus (first | exact wanted_none rfl | exact wanted_yes rfl rfl rfl)); (focus (simp [go_sem, effAt, ↓IntWalk.iteOmega, *]; (try go_ints); (first | (with_reducible exact effUpon_val) | (with_reducible exact effUpon_skip)))); (focus ((first | (apply put_some rfl; focus (conv => lhs; dsimp only [List.set_cons_zero, List.set_cons_succ]) <;> rfl) | exact put_none rfl)))) | ((with_reducible apply seq_s); (focus (first | exact wanted_no rfl rfl rfl | exact wanted_undef rfl rfl rfl)); (focus ((first | (apply put_some rfl; focus (conv => lhs; dsimp only [List.set_cons_zero, List.set_cons_succ]) <;> rfl) | exact put_none rfl)))) | with_reducible apply wp_block | with_reducible apply wp_skip | with_reducible apply wp_exit | with_reducible apply wp_ret | ((with_reducible apply wp_cond_true); (focus (first | rfl | (simp [go_sem, *]; done)))) | ((with_reducible apply wp_cond_false); (focus (first | rfl | (simp [go_sem, *]; done)))) | (simp only [Exit.then, Exit.inBlock, ↓reduceIte, Nat.reduceEqDiff]) | ((with_reducible apply kf_out); (focus assumption)))
                refine hK2 _ _ (Handed.intro 1 ?measure (hJ2 _ _ _ ?_))
                rotate_left
                (repeat apply Exists.intro)
                refine ⟨?rel, rfl⟩
                case rel => exact ⟨3, by go_num, by omega, hB_o, hB_r, hF.trans (Below.mono (by assumption) (by have := hF.size; have := HOG.out; omega))⟩
                case measure => omega
              · have hP0 := fun w1 => puts_any 5 2 3 7 10 300 3 x ⟨#[]⟩ w1 (by omega) (by omega) (by omega) (by omega) (by decide)
                have hA1 := fun w1 => agrees_any 5 2 3 7 10 300 3 x 5 2 3 7 10 300 3 2 w1 (by omega)
                have hA2 := fun w1 => agrees_any 5 2 3 7 10 300 3 2 5 2 3 7 10 300 3 x w1 (by omega)
                have hB1 := fun w1 => back_any 5 2 3 7 10 300 3 x 5 2 3 7 10 300 3 2 ⟨#[]⟩ w1 (by omega) (by omega) (by omega) (by omega) (by decide)
                have hB2 := fun w1 => back_any 5 2 3 7 10 300 3 2 5 2 3 7 10 300 3 x ⟨#[]⟩ w1 (by omega) (by omega) (by omega) (by omega) (by decide)
                have Fwr : Below wr.heap.size wr wr := Below.refl _ _
                have hc_o := hB_o.cell
                have hc_r := hB_r.cell
                repeat (first | with_reducible apply wpList_nil | ((with_reducible apply region_k); intro KK kk) | with_reducible apply wp_region_lit | ((with_reducible apply seq_k); intro KK kk) | ((with_reducible apply seq_q); (focus (first | exact wanted_none rfl | exact wanted_yes rfl rfl rfl)); (focus (simp [go_sem, effAt, ↓IntWalk.iteOmega, *]; (try go_ints); (first | (with_reducible exact effUpon_val) | (with_reducible exact effUpon_skip)))); (focus ((first | (apply put_some rfl; focus (conv => lhs; dsimp only [List.set_cons_zero, List.set_cons_succ]) <;> rfl) | exact put_none rfl)))) | ((with_reducible apply seq_s); (focus (first | exact wanted_no rfl rfl rfl | exact wanted_undef rfl rfl rfl)); (focus ((first | (apply put_some rfl; focus (conv => lhs; dsimp only [List.set_cons_zero, List.set_cons_succ]) <;> rfl) | exact put_none rfl)))) | with_reducible apply wp_block | with_reducible apply wp_skip | with_reducible apply wp_exit | with_reducible apply wp_ret | ((with_reducible apply wp_cond_true); (focus (first | rfl | (simp [go_sem, *]; done)))) | ((with_reducible apply wp_cond_false); (focus (first | rfl | (simp [go_sem, *]; done)))) | (simp only [Exit.then, Exit.inBlock, ↓reduceIte, Nat.reduceEqDiff]) | ((with_reducible apply kf_out); (focus assumption)))
                have lt_o_p := hB_o.lt
                have lt_r_p := hB_r.lt
                ((with_reducible apply seq_box); (focus rfl); (focus (simp [go_sem, effAt]; exact ⟨rfl, rfl⟩)); (focus ((first | (apply put_some rfl; focus (conv => lhs; dsimp only [List.set_cons_zero, List.set_cons_succ]) <;> rfl) | exact put_none rfl))))
                intro w47 hB_p hs
                have Fw47 := Fwr.trans (hs.mono Fwr.size)
                replace hB_o := hB_o.below hs hB_o.lt
                replace hB_r := hB_r.below hs hB_r.lt
                clear hs Fwr
                clear hc_o; have hc_o := hB_o.cell
                clear hc_r; have hc_r := hB_r.cell
                have hc_p := hB_p.cell
                have hf_p := hB_p.frozen
                ((with_reducible apply seq_e (fun w' => Blk w' _ _ _ ∧ w47.grownBy w' (some _))); (focus rfl); (focus (simp [go_sem, effAt, *]; exact ⟨rfl, ((((((((hB_p.set_ 0 _).set_ 1 _).set_ 2 _).set_ 3 _).set_ 4 _).set_ 5 _).set_ 6 _).set_ 7 _), (grown_set (grown_set (grown_set (grown_set (grown_set (grown_set (grown_set (grown_set (World.grownBy.refl _ _)))))))))⟩)); (focus ((first | (apply put_some rfl; focus (conv => lhs; dsimp only [List.set_cons_zero, List.set_cons_succ]) <;> rfl) | exact put_none rfl))))
                clear hf_p hc_p hB_p
                intro w48 hs
                obtain ⟨hB_p, hs⟩ := hs
                simp only [List.setIfInBounds_toArray, List.set_cons_zero, List.set_cons_succ] at hB_p
                have Fw48 := Fw47.grown hs Fw47.size (by intro k hk; first | (injection hk with hk; subst hk; first | exact Nat.le_refl _ | exact Fw47.size | omega) | omega)
                replace hB_o := hB_o.grown hs (by intro hk; injection hk with hk; have := hB_o.lt; have := hB_p.lt; omega)
                replace hB_r := hB_r.grown hs (by intro hk; injection hk with hk; have := hB_r.lt; have := hB_p.lt; omega)
                clear hs Fw47
                clear hc_o; have hc_o := hB_o.cell
                clear hc_r; have hc_r := hB_r.cell
                have hc_p := hB_p.cell
                repeat (first | with_reducible apply wpList_nil | ((with_reducible apply region_k); intro KK kk) | with_reducible apply wp_region_lit | ((with_reducible apply seq_k); intro KK kk) | ((with_reducible apply seq_q); (focus (first | exact wanted_none rfl | exact wanted_yes rfl rfl rfl)); (focus (simp [go_sem, effAt, ↓IntWalk.iteOmega, *]; (try go_ints); (first | (with_reducible exact effUpon_val) | (with_reducible exact effUpon_skip)))); (focus ((first | (apply put_some rfl; focus (conv => lhs; dsimp only [List.set_cons_zero, List.set_cons_succ]) <;> rfl) | exact put_none rfl)))) | ((with_reducible apply seq_s); (focus (first | exact wanted_no rfl rfl rfl | exact wanted_undef rfl rfl rfl)); (focus ((first | (apply put_some rfl; focus (conv => lhs; dsimp only [List.set_cons_zero, List.set_cons_succ]) <;> rfl) | exact put_none rfl)))) | with_reducible apply wp_block | with_reducible apply wp_skip | with_reducible apply wp_exit | with_reducible apply wp_ret | ((with_reducible apply wp_cond_true); (focus (first | rfl | (simp [go_sem, *]; done)))) | ((with_reducible apply wp_cond_false); (focus (first | rfl | (simp [go_sem, *]; done)))) | (simp only [Exit.then, Exit.inBlock, ↓reduceIte, Nat.reduceEqDiff]) | ((with_reducible apply kf_out); (focus assumption)))
                have hf_p := hB_p.frozen
                ((with_reducible apply seq_e (fun w' => Blk w' _ _ _ ∧ w48.grownBy w' (some _))); (focus rfl); (focus (simp [go_sem, effAt, *]; exact ⟨rfl, (hB_p.set_ 7 _), (grown_set (World.grownBy.refl _ _))⟩)); (focus ((first | (apply put_some rfl; focus (conv => lhs; dsimp only [List.set_cons_zero, List.set_cons_succ]) <;> rfl) | exact put_none rfl))))
                clear hf_p hc_p hB_p
                intro w49 hs
                obtain ⟨hB_p, hs⟩ := hs
                simp only [List.setIfInBounds_toArray, List.set_cons_zero, List.set_cons_succ] at hB_p
                have Fw49 := Fw48.grown hs Fw48.size (by intro k hk; first | (injection hk with hk; subst hk; first | exact Nat.le_refl _ | exact Fw48.size | omega) | omega)
                replace hB_o := hB_o.grown hs (by intro hk; injection hk with hk; have := hB_o.lt; have := hB_p.lt; omega)
                replace hB_r := hB_r.grown hs (by intro hk; injection hk with hk; have := hB_r.lt; have := hB_p.lt; omega)
                clear hs Fw48
                clear hc_o; have hc_o := hB_o.cell
                clear hc_r; have hc_r := hB_r.cell
                have hc_p := hB_p.cell
                repeat (first | with_reducible apply wpList_nil | ((with_reducible apply region_k); intro KK kk) | with_reducible apply wp_region_lit | ((with_reducible apply seq_k); intro KK kk) | ((with_reducible apply seq_q); (focus (first | exact wanted_none rfl | exact wanted_yes rfl rfl rfl)); (focus (simp [go_sem, effAt, ↓IntWalk.iteOmega, *]; (try go_ints); (first | (with_reducible exact effUpon_val) | (with_reducible exact effUpon_skip)))); (focus ((first | (apply put_some rfl; focus (conv => lhs; dsimp only [List.set_cons_zero, List.set_cons_succ]) <;> rfl) | exact put_none rfl)))) | ((with_reducible apply seq_s); (focus (first | exact wanted_no rfl rfl rfl | exact wanted_undef rfl rfl rfl)); (focus ((first | (apply put_some rfl; focus (conv => lhs; dsimp only [List.set_cons_zero, List.set_cons_succ]) <;> rfl) | exact put_none rfl)))) | with_reducible apply wp_block | with_reducible apply wp_skip | with_reducible apply wp_exit | with_reducible apply wp_ret | ((with_reducible apply wp_cond_true); (focus (first | rfl | (simp [go_sem, *]; done)))) | ((with_reducible apply wp_cond_false); (focus (first | rfl | (simp [go_sem, *]; done)))) | (simp only [Exit.then, Exit.inBlock, ↓reduceIte, Nat.reduceEqDiff]) | ((with_reducible apply kf_out); (focus assumption)))
                ((with_reducible apply seq_e (Below w49.heap.size w49)); (focus rfl); (focus (simp only [effAt]; simp [go_sem]; (with_reducible exact effUpon_enter (hP0 _)))); (focus ((first | (apply put_some rfl; focus (conv => lhs; dsimp only [List.set_cons_zero, List.set_cons_succ]) <;> rfl) | exact put_none rfl))))
                intro w50 hs
                have Fw50 := Fw49.trans (hs.mono Fw49.size)
                replace hB_o := hB_o.below hs hB_o.lt
                replace hB_r := hB_r.below hs hB_r.lt
                replace hB_p := hB_p.below hs hB_p.lt
                clear hs Fw49
                clear hc_o; have hc_o := hB_o.cell
                clear hc_r; have hc_r := hB_r.cell
                clear hc_p; have hc_p := hB_p.cell
                repeat (first | with_reducible apply wpList_nil | ((with_reducible apply region_k); intro KK kk) | with_reducible apply wp_region_lit | ((with_reducible apply seq_k); intro KK kk) | ((with_reducible apply seq_q); (focus (first | exact wanted_none rfl | exact wanted_yes rfl rfl rfl)); (focus (simp [go_sem, effAt, ↓IntWalk.iteOmega, *]; (try go_ints); (first | (with_reducible exact effUpon_val) | (with_reducible exact effUpon_skip)))); (focus ((first | (apply put_some rfl; focus (conv => lhs; dsimp only [List.set_cons_zero, List.set_cons_succ]) <;> rfl) | exact put_none rfl)))) | ((with_reducible apply seq_s); (focus (first | exact wanted_no rfl rfl rfl | exact wanted_undef rfl rfl rfl)); (focus ((first | (apply put_some rfl; focus (conv => lhs; dsimp only [List.set_cons_zero, List.set_cons_succ]) <;> rfl) | exact put_none rfl)))) | with_reducible apply wp_block | with_reducible apply wp_skip | with_reducible apply wp_exit | with_reducible apply wp_ret | ((with_reducible apply wp_cond_true); (focus (first | rfl | (simp [go_sem, *]; done)))) | ((with_reducible apply wp_cond_false); (focus (first | rfl | (simp [go_sem, *]; done)))) | (simp only [Exit.then, Exit.inBlock, ↓reduceIte, Nat.reduceEqDiff]) | ((with_reducible apply kf_out); (focus assumption)))
                ((with_reducible apply seq_e (Below w50.heap.size w50)); (focus rfl); (focus (simp only [effAt]; simp [go_sem]; (with_reducible exact effUpon_enter (hA1 _)))); (focus ((first | (apply put_some rfl; focus (conv => lhs; dsimp only [List.set_cons_zero, List.set_cons_succ]) <;> rfl) | exact put_none rfl))))
                intro w51 hs
                have Fw51 := Fw50.trans (hs.mono Fw50.size)
                replace hB_o := hB_o.below hs hB_o.lt
                replace hB_r := hB_r.below hs hB_r.lt
                replace hB_p := hB_p.below hs hB_p.lt
                clear hs Fw50
                clear hc_o; have hc_o := hB_o.cell
                clear hc_r; have hc_r := hB_r.cell
                clear hc_p; have hc_p := hB_p.cell
                repeat (first | with_reducible apply wpList_nil | ((with_reducible apply region_k); intro KK kk) | with_reducible apply wp_region_lit | ((with_reducible apply seq_k); intro KK kk) | ((with_reducible apply seq_q); (focus (first | exact wanted_none rfl | exact wanted_yes rfl rfl rfl)); (focus (simp [go_sem, effAt, ↓IntWalk.iteOmega, *]; (try go_ints); (first | (with_reducible exact effUpon_val) | (with_reducible exact effUpon_skip)))); (focus ((first | (apply put_some rfl; focus (conv => lhs; dsimp only [List.set_cons_zero, List.set_cons_succ]) <;> rfl) | exact put_none rfl)))) | ((with_reducible apply seq_s); (focus (first | exact wanted_no rfl rfl rfl | exact wanted_undef rfl rfl rfl)); (focus ((first | (apply put_some rfl; focus (conv => lhs; dsimp only [List.set_cons_zero, List.set_cons_succ]) <;> rfl) | exact put_none rfl)))) | with_reducible apply wp_block | with_reducible apply wp_skip | with_reducible apply wp_exit | with_reducible apply wp_ret | ((with_reducible apply wp_cond_true); (focus (first | rfl | (simp [go_sem, *]; done)))) | ((with_reducible apply wp_cond_false); (focus (first | rfl | (simp [go_sem, *]; done)))) | (simp only [Exit.then, Exit.inBlock, ↓reduceIte, Nat.reduceEqDiff]) | ((with_reducible apply kf_out); (focus assumption)))
                ((with_reducible apply seq_e (Below w51.heap.size w51)); (focus rfl); (focus (simp only [effAt]; simp [go_sem]; (with_reducible exact effUpon_enter (hA2 _)))); (focus ((first | (apply put_some rfl; focus (conv => lhs; dsimp only [List.set_cons_zero, List.set_cons_succ]) <;> rfl) | exact put_none rfl))))
                intro w52 hs
                have Fw52 := Fw51.trans (hs.mono Fw51.size)
                replace hB_o := hB_o.below hs hB_o.lt
                replace hB_r := hB_r.below hs hB_r.lt
                replace hB_p := hB_p.below hs hB_p.lt
                clear hs Fw51
                clear hc_o; have hc_o := hB_o.cell
                clear hc_r; have hc_r := hB_r.cell
                clear hc_p; have hc_p := hB_p.cell
                repeat (first | with_reducible apply wpList_nil | ((with_reducible apply region_k); intro KK kk) | with_reducible apply wp_region_lit | ((with_reducible apply seq_k); intro KK kk) | ((with_reducible apply seq_q); (focus (first | exact wanted_none rfl | exact wanted_yes rfl rfl rfl)); (focus (simp [go_sem, effAt, ↓IntWalk.iteOmega, *]; (try go_ints); (first | (with_reducible exact effUpon_val) | (with_reducible exact effUpon_skip)))); (focus ((first | (apply put_some rfl; focus (conv => lhs; dsimp only [List.set_cons_zero, List.set_cons_succ]) <;> rfl) | exact put_none rfl)))) | ((with_reducible apply seq_s); (focus (first | exact wanted_no rfl rfl rfl | exact wanted_undef rfl rfl rfl)); (focus ((first | (apply put_some rfl; focus (conv => lhs; dsimp only [List.set_cons_zero, List.set_cons_succ]) <;> rfl) | exact put_none rfl)))) | with_reducible apply wp_block | with_reducible apply wp_skip | with_reducible apply wp_exit | with_reducible apply wp_ret | ((with_reducible apply wp_cond_true); (focus (first | rfl | (simp [go_sem, *]; done)))) | ((with_reducible apply wp_cond_false); (focus (first | rfl | (simp [go_sem, *]; done)))) | (simp only [Exit.then, Exit.inBlock, ↓reduceIte, Nat.reduceEqDiff]) | ((with_reducible apply kf_out); (focus assumption)))
                ((with_reducible apply seq_e (Below w52.heap.size w52)); (focus rfl); (focus (simp only [effAt]; simp [go_sem]; (with_reducible exact effUpon_enter (hB1 _)))); (focus ((first | (apply put_some rfl; focus (conv => lhs; dsimp only [List.set_cons_zero, List.set_cons_succ]) <;> rfl) | exact put_none rfl))))
                intro w53 hs
                have Fw53 := Fw52.trans (hs.mono Fw52.size)
                replace hB_o := hB_o.below hs hB_o.lt
                replace hB_r := hB_r.below hs hB_r.lt
                replace hB_p := hB_p.below hs hB_p.lt
                clear hs Fw52
                clear hc_o; have hc_o := hB_o.cell
                clear hc_r; have hc_r := hB_r.cell
                clear hc_p; have hc_p := hB_p.cell
                repeat (first | with_reducible apply wpList_nil | ((with_reducible apply region_k); intro KK kk) | with_reducible apply wp_region_lit | ((with_reducible apply seq_k); intro KK kk) | ((with_reducible apply seq_q); (focus (first | exact wanted_none rfl | exact wanted_yes rfl rfl rfl)); (focus (simp [go_sem, effAt, ↓IntWalk.iteOmega, *]; (try go_ints); (first | (with_reducible exact effUpon_val) | (with_reducible exact effUpon_skip)))); (focus ((first | (apply put_some rfl; focus (conv => lhs; dsimp only [List.set_cons_zero, List.set_cons_succ]) <;> rfl) | exact put_none rfl)))) | ((with_reducible apply seq_s); (focus (first | exact wanted_no rfl rfl rfl | exact wanted_undef rfl rfl rfl)); (focus ((first | (apply put_some rfl; focus (conv => lhs; dsimp only [List.set_cons_zero, List.set_cons_succ]) <;> rfl) | exact put_none rfl)))) | with_reducible apply wp_block | with_reducible apply wp_skip | with_reducible apply wp_exit | with_reducible apply wp_ret | ((with_reducible apply wp_cond_true); (focus (first | rfl | (simp [go_sem, *]; done)))) | ((with_reducible apply wp_cond_false); (focus (first | rfl | (simp [go_sem, *]; done)))) | (simp only [Exit.then, Exit.inBlock, ↓reduceIte, Nat.reduceEqDiff]) | ((with_reducible apply kf_out); (focus assumption)))
                ((with_reducible apply seq_e (Below w53.heap.size w53)); (focus rfl); (focus (simp only [effAt]; simp [go_sem]; (with_reducible exact effUpon_enter (hB2 _)))); (focus ((first | (apply put_some rfl; focus (conv => lhs; dsimp only [List.set_cons_zero, List.set_cons_succ]) <;> rfl) | exact put_none rfl))))
                intro w54 hs
                have Fw54 := Fw53.trans (hs.mono Fw53.size)
                replace hB_o := hB_o.below hs hB_o.lt
                replace hB_r := hB_r.below hs hB_r.lt
                replace hB_p := hB_p.below hs hB_p.lt
                clear hs Fw53
                clear hc_o; have hc_o := hB_o.cell
                clear hc_r; have hc_r := hB_r.cell
                clear hc_p; have hc_p := hB_p.cell
                repeat (first | with_reducible apply wpList_nil | ((with_reducible apply region_k); intro KK kk) | with_reducible apply wp_region_lit | ((with_reducible apply seq_k); intro KK kk) | ((with_reducible apply seq_q); (focus (first | exact wanted_none rfl | exact wanted_yes rfl rfl rfl)); (focus (simp [go_sem, effAt, ↓IntWalk.iteOmega, *]; (try go_ints); (first | (with_reducible exact effUpon_val) | (with_reducible exact effUpon_skip)))); (focus ((first | (apply put_some rfl; focus (conv => lhs; dsimp only [List.set_cons_zero, List.set_cons_succ]) <;> rfl) | exact put_none rfl)))) | ((with_reducible apply seq_s); (focus (first | exact wanted_no rfl rfl rfl | exact wanted_undef rfl rfl rfl)); (focus ((first | (apply put_some rfl; focus (conv => lhs; dsimp only [List.set_cons_zero, List.set_cons_succ]) <;> rfl) | exact put_none rfl)))) | with_reducible apply wp_block | with_reducible apply wp_skip | with_reducible apply wp_exit | with_reducible apply wp_ret | ((with_reducible apply wp_cond_true); (focus (first | rfl | (simp [go_sem, *]; done)))) | ((with_reducible apply wp_cond_false); (focus (first | rfl | (simp [go_sem, *]; done)))) | (simp only [Exit.then, Exit.inBlock, ↓reduceIte, Nat.reduceEqDiff]) | ((with_reducible apply kf_out); (focus assumption)))
                refine hK2 _ _ (Handed.intro 0 ?measure (hJ2 _ _ _ ?_))
                rotate_left
                (repeat apply Exists.intro)
                refine ⟨?rel, rfl⟩
                case rel => exact ⟨4, by go_num, by omega, hB_o, hB_r, hF.trans (Below.mono (by assumption) (by have := hF.size; have := HOG.out; omega))⟩
                case measure => omega
end Go.Proofs.Ytcnckejeepkflaa
