/- The walk of pdqsortOrdered[uint8]. -/
import Derived.Test.YtckjgdlceckhpaaKf
import Derived.Test.YtckjgdlceckhpaaS10
import Derived.Deep.DeepCutAuto
set_option linter.unusedSimpArgs false
set_option linter.unusedVariables false
namespace Go.Proofs.Ytckjgdlceckhpaa
open Go.RowKit Go.Eff
open Go.Sort (swp ltInt insertionSort heapSort partialInsertionSort breakPatterns reverseRange choosePivot Hint partition partitionEqual pdq pdq_small pdq_heap)
attribute [local irreducible] Go.wpList
theorem cp_n {g cap a b n cp : Nat} {ch : Hint} {pad : List Value} {d : Array Int} {w : World} (hn : d.size = n) (hD : choosePivot ltInt d a b = (cp, ch)) (hab : a < b) (hb : b ≤ n) (hsz : n ≤ 1000) (hB_d : SB w g pad d) :
    Calls Try.prog 30 #[.slice (some ⟨g, 0, none⟩) n cap, .int .i64 a, .int .i64 b] w (Ret (.tuple #[.int .i64 (cp : Int), .int .i64 (hintV ch)]) (Below w.heap.size w)) := by
  obtain ⟨p, h, h1, _, _, h2⟩ := cp_any (g := g) (cap := cap) hn hab hb hsz hB_d
  rw [hD] at h1
  injection h1 with e1 e2
  subst e1 e2
  exact h2
theorem hintV_two {h : Hint} : (hintV h == 2) = decide (h = .decreasing) := by cases h <;> rfl
theorem hintV_one {h : Hint} : (hintV h == 1) = decide (h = .increasing) := by cases h <;> rfl
set_option maxRecDepth 100000 in
set_option maxHeartbeats 16000000 in
theorem pdq_any : ∀ (N g cap a b limit n : Nat) (pad : List Value) (d : Array Int) (w : World), b - a < N → d.size = n → a ≤ b → b ≤ n → n ≤ 1000 → limit ≤ 100 → Go.Sort.Below ltInt a b d → SB w g pad d →
    Calls Try.prog 25 #[.slice (some ⟨g, 0, none⟩) n cap, .int .i64 a, .int .i64 b, .int .i64 limit] w (Ret (.tuple #[]) fun w' => SB w' g pad (pdq ltInt d a b limit true true) ∧ w.grownBy w' (some g)) := by
  intro N
  induction N with
  | zero => intro _ _ _ _ _ _ _ _ _ h; exact absurd h (Nat.not_lt_zero _)
  | succ N ih =>
    intro g cap a b limit n pad d w hN hn hab hb hsz hlim hBl hB_d
    obtain ⟨R, hR⟩ : ∃ R, pdq ltInt d a b limit true true = R := ⟨_, rfl⟩
    rw [hR]
    have HD := Lib.hid hn
    clear hn
    have hG : w.grownBy w (some g) := World.grownBy.refl _ _
    have ih := Lib.hid ih
    go_enter Try.func25, Try.ntmps25
    have F0 : Below w.heap.size w w := Below.refl _ _
    repeat (first | with_reducible apply wpList_nil | ((with_reducible apply region_k); intro KK kk) | with_reducible apply wp_region_lit | ((with_reducible apply seq_k); intro KK kk) | ((with_reducible apply seq_q); (focus (first | exact wanted_none rfl | exact wanted_yes rfl rfl rfl)); (focus (simp [go_sem, effAt, ↓IntWalk.iteOmega, *]; (try go_ints); (first | (with_reducible exact effUpon_val) | (with_reducible exact effUpon_skip)))); (focus ((first | (apply put_some rfl; focus (conv => lhs; dsimp only [List.set_cons_zero, List.set_cons_succ]) <;> rfl) | exact put_none rfl)))) | ((with_reducible apply seq_s); (focus (first | exact wanted_no rfl rfl rfl | exact wanted_undef rfl rfl rfl)); (focus ((first | (apply put_some rfl; focus (conv => lhs; dsimp only [List.set_cons_zero, List.set_cons_succ]) <;> rfl) | exact put_none rfl)))) | with_reducible apply wp_block | with_reducible apply wp_skip | with_reducible apply wp_exit | with_reducible apply wp_ret | ((with_reducible apply wp_cond_true); (focus (first | rfl | (simp [go_sem, *]; done)))) | ((with_reducible apply wp_cond_false); (focus (first | rfl | (simp [go_sem, *]; done)))) | (simp only [Exit.then, Exit.inBlock, ↓reduceIte, Nat.reduceEqDiff]) | ((with_reducible apply kf_out); (focus assumption)))
    go_loopg [1, 2, 3, 8, 9] (b - a) (fun q s1 s2 s3 s8 s9 wr => ∃ (a1 b1 lim : Nat) (wb wp : Bool) (dk : Array Int), s1 = .int .i64 (a1 : Int) ∧ s2 = .int .i64 (b1 : Int) ∧ s3 = .int .i64 (lim : Int) ∧ s8 = .bool wb ∧ s9 = .bool wp ∧
      a1 ≤ b1 ∧ b1 ≤ n ∧ b1 - a1 ≤ q ∧ q ≤ b - a ∧ lim ≤ 100 ∧ dk.size = n ∧ Go.Sort.Below ltInt a1 b1 dk ∧ pdq ltInt dk a1 b1 lim wb wp = R ∧ SB wr g pad dk ∧ w.grownBy wr (some g))
    case atStart => exact ⟨a, b, limit, true, true, d, rfl, rfl, rfl, rfl, rfl, hab, hb, Nat.le_refl _, Nat.le_refl _, hlim, HD.out, hBl, hR, hB_d, hG⟩
    case round =>
      rename_i J K hJ hK
      clear hR F0 hB_d hG HD hBl hlim hab hb
      obtain ⟨a1, b1, lim, wb, wp, dk, rfl, rfl, rfl, rfl, rfl, hab, hb, hq1, hq2, hlim, hdk, hBl, hR, hB_d, hG⟩ := hrel
      have hN1 : b1 - a1 ≤ N := by omega
      clear hN
      have HD := Lib.hid hdk
      have HBl := Lib.hid hBl
      clear hdk hBl
      obtain ⟨l, hl⟩ : ∃ l, b1 - a1 = l := ⟨_, rfl⟩
      have hlI : (b1 : Int) - (a1 : Int) = (l : Int) := by omega
      have i1 : (a1 : Int) ≤ (b1 : Int) := by omega
      have i2 : (b1 : Int) ≤ 1000 := by omega
      have i3 : (lim : Int) ≤ 100 := by omega
      have i4 : (l : Int) ≤ 1000 := by omega
      have HL := Lib.hid hl
      have HK := Lib.hid hK
      have HJ := Lib.hid hJ
      clear hl hJ hK
      by_cases h12 : l ≤ 12
      case pos =>
        have h12' : (l : Int) ≤ 12 := by omega
        rw [pdq_small (by rw [HL.out]; exact h12)] at hR
        have Fwr : Below wr.heap.size wr wr := Below.refl _ _
        repeat (first | with_reducible apply wpList_nil | ((with_reducible apply region_k); intro KK kk) | with_reducible apply wp_region_lit | ((with_reducible apply seq_k); intro KK kk) | ((with_reducible apply seq_q); (focus (first | exact wanted_none rfl | exact wanted_yes rfl rfl rfl)); (focus (simp [go_sem, effAt, ↓IntWalk.iteOmega, *]; (try go_ints); (first | (with_reducible exact effUpon_val) | (with_reducible exact effUpon_skip)))); (focus ((first | (apply put_some rfl; focus (conv => lhs; dsimp only [List.set_cons_zero, List.set_cons_succ]) <;> rfl) | exact put_none rfl)))) | ((with_reducible apply seq_s); (focus (first | exact wanted_no rfl rfl rfl | exact wanted_undef rfl rfl rfl)); (focus ((first | (apply put_some rfl; focus (conv => lhs; dsimp only [List.set_cons_zero, List.set_cons_succ]) <;> rfl) | exact put_none rfl)))) | with_reducible apply wp_block | with_reducible apply wp_skip | with_reducible apply wp_exit | with_reducible apply wp_ret | ((with_reducible apply wp_cond_true); (focus (first | rfl | (simp [go_sem, *]; done)))) | ((with_reducible apply wp_cond_false); (focus (first | rfl | (simp [go_sem, *]; done)))) | (simp only [Exit.then, Exit.inBlock, ↓reduceIte, Nat.reduceEqDiff]) | ((with_reducible apply kf_out); (focus assumption)))
        try (subst hR)
        with_reducible apply seq_e (fun w' => SB w' g pad (insertionSort ltInt dk a1 b1) ∧ World.grownBy wr w' (some g))
        (focus (first | exact wanted_none rfl | exact wanted_yes rfl rfl rfl))
        (focus (simp only [effAt]; simp [go_sem]; (with_reducible exact effUpon_enter (ins_n HD.out rfl hab hb hsz hB_d))))
        (first | (apply put_some rfl; focus (conv => lhs; dsimp only [List.set_cons_zero, List.set_cons_succ]) <;> rfl) | exact put_none rfl)
        rintro u1 ⟨hB_n, hg_n⟩
        have hG2 := grown_trans hG hg_n
        clear hB_d hG hg_n
        try clear hc_d
        have hB_d := hB_n
        have hG := hG2
        clear hB_n hG2
        have Fu1 : Below u1.heap.size u1 u1 := Below.refl _ _
        repeat (first | with_reducible apply wpList_nil | ((with_reducible apply region_k); intro KK kk) | with_reducible apply wp_region_lit | ((with_reducible apply seq_k); intro KK kk) | ((with_reducible apply seq_q); (focus (first | exact wanted_none rfl | exact wanted_yes rfl rfl rfl)); (focus (simp [go_sem, effAt, ↓IntWalk.iteOmega, *]; (try go_ints); (first | (with_reducible exact effUpon_val) | (with_reducible exact effUpon_skip)))); (focus ((first | (apply put_some rfl; focus (conv => lhs; dsimp only [List.set_cons_zero, List.set_cons_succ]) <;> rfl) | exact put_none rfl)))) | ((with_reducible apply seq_s); (focus (first | exact wanted_no rfl rfl rfl | exact wanted_undef rfl rfl rfl)); (focus ((first | (apply put_some rfl; focus (conv => lhs; dsimp only [List.set_cons_zero, List.set_cons_succ]) <;> rfl) | exact put_none rfl)))) | with_reducible apply wp_block | with_reducible apply wp_skip | with_reducible apply wp_exit | with_reducible apply wp_ret | ((with_reducible apply wp_cond_true); (focus (first | rfl | (simp [go_sem, *]; done)))) | ((with_reducible apply wp_cond_false); (focus (first | rfl | (simp [go_sem, *]; done)))) | (simp only [Exit.then, Exit.inBlock, ↓reduceIte, Nat.reduceEqDiff]) | ((with_reducible apply kf_out); (focus assumption)))
        refine bodyPost_end (results_none rfl _ _ _) rfl ⟨rfl, hB_d, hG⟩
      case neg =>
        have h12' : ¬ (l : Int) ≤ 12 := by omega
        have hab1 : a1 < b1 := by have := HL.out; omega
        by_cases h0 : lim = 0
        case pos =>
          have h0' : ((lim : Int) == 0) = true := by simp [h0]
          rw [pdq_heap (by rw [HL.out]; exact h12) h0] at hR
          clear h0
          have Fwr : Below wr.heap.size wr wr := Below.refl _ _
          repeat (first | with_reducible apply wpList_nil | ((with_reducible apply region_k); intro KK kk) | with_reducible apply wp_region_lit | ((with_reducible apply seq_k); intro KK kk) | ((with_reducible apply seq_q); (focus (first | exact wanted_none rfl | exact wanted_yes rfl rfl rfl)); (focus (simp [go_sem, effAt, ↓IntWalk.iteOmega, *]; (try go_ints); (first | (with_reducible exact effUpon_val) | (with_reducible exact effUpon_skip)))); (focus ((first | (apply put_some rfl; focus (conv => lhs; dsimp only [List.set_cons_zero, List.set_cons_succ]) <;> rfl) | exact put_none rfl)))) | ((with_reducible apply seq_s); (focus (first | exact wanted_no rfl rfl rfl | exact wanted_undef rfl rfl rfl)); (focus ((first | (apply put_some rfl; focus (conv => lhs; dsimp only [List.set_cons_zero, List.set_cons_succ]) <;> rfl) | exact put_none rfl)))) | with_reducible apply wp_block | with_reducible apply wp_skip | with_reducible apply wp_exit | with_reducible apply wp_ret | ((with_reducible apply wp_cond_true); (focus (first | rfl | (simp [go_sem, *]; done)))) | ((with_reducible apply wp_cond_false); (focus (first | rfl | (simp [go_sem, *]; done)))) | (simp only [Exit.then, Exit.inBlock, ↓reduceIte, Nat.reduceEqDiff]) | ((with_reducible apply kf_out); (focus assumption)))
          try (subst hR)
          with_reducible apply seq_e (fun w' => SB w' g pad (heapSort ltInt dk a1 b1) ∧ World.grownBy wr w' (some g))
          (focus (first | exact wanted_none rfl | exact wanted_yes rfl rfl rfl))
          (focus (simp only [effAt]; simp [go_sem]; (with_reducible exact effUpon_enter (heap_n HD.out rfl hab1 hb hsz hB_d))))
          (first | (apply put_some rfl; focus (conv => lhs; dsimp only [List.set_cons_zero, List.set_cons_succ]) <;> rfl) | exact put_none rfl)
          rintro u1 ⟨hB_n, hg_n⟩
          have hG2 := grown_trans hG hg_n
          clear hB_d hG hg_n
          try clear hc_d
          have hB_d := hB_n
          have hG := hG2
          clear hB_n hG2
          have Fu1 : Below u1.heap.size u1 u1 := Below.refl _ _
          repeat (first | with_reducible apply wpList_nil | ((with_reducible apply region_k); intro KK kk) | with_reducible apply wp_region_lit | ((with_reducible apply seq_k); intro KK kk) | ((with_reducible apply seq_q); (focus (first | exact wanted_none rfl | exact wanted_yes rfl rfl rfl)); (focus (simp [go_sem, effAt, ↓IntWalk.iteOmega, *]; (try go_ints); (first | (with_reducible exact effUpon_val) | (with_reducible exact effUpon_skip)))); (focus ((first | (apply put_some rfl; focus (conv => lhs; dsimp only [List.set_cons_zero, List.set_cons_succ]) <;> rfl) | exact put_none rfl)))) | ((with_reducible apply seq_s); (focus (first | exact wanted_no rfl rfl rfl | exact wanted_undef rfl rfl rfl)); (focus ((first | (apply put_some rfl; focus (conv => lhs; dsimp only [List.set_cons_zero, List.set_cons_succ]) <;> rfl) | exact put_none rfl)))) | with_reducible apply wp_block | with_reducible apply wp_skip | with_reducible apply wp_exit | with_reducible apply wp_ret | ((with_reducible apply wp_cond_true); (focus (first | rfl | (simp [go_sem, *]; done)))) | ((with_reducible apply wp_cond_false); (focus (first | rfl | (simp [go_sem, *]; done)))) | (simp only [Exit.then, Exit.inBlock, ↓reduceIte, Nat.reduceEqDiff]) | ((with_reducible apply kf_out); (focus assumption)))
          refine bodyPost_end (results_none rfl _ _ _) rfl ⟨rfl, hB_d, hG⟩
        case neg =>
          have h0' : ((lim : Int) == 0) = false := by simpa using h0
          obtain ⟨D1, D2, D3, lm, cp, pv, ch, hh, pd, PR⟩ := pdq_round (wb := wb) (wp := wp) HD.out hab1 hb HBl.out (by rw [HL.out]; exact h12) h0
          have PR := Lib.hid PR
          clear h0 h12 HBl
          have lm1 : (lm : Int) ≤ 100 := by have := PR.out.lm_le; omega
          have hR := Lib.hid hR
          have Fwr : Below wr.heap.size wr wr := Below.refl _ _
          repeat (first | with_reducible apply wpList_nil | ((with_reducible apply region_k); intro KK kk) | with_reducible apply wp_region_lit | ((with_reducible apply seq_k); intro KK kk) | ((with_reducible apply seq_q); (focus (first | exact wanted_none rfl | exact wanted_yes rfl rfl rfl)); (focus (simp [go_sem, effAt, ↓IntWalk.iteOmega, *]; (try go_ints); (first | (with_reducible exact effUpon_val) | (with_reducible exact effUpon_skip)))); (focus ((first | (apply put_some rfl; focus (conv => lhs; dsimp only [List.set_cons_zero, List.set_cons_succ]) <;> rfl) | exact put_none rfl)))) | ((with_reducible apply seq_s); (focus (first | exact wanted_no rfl rfl rfl | exact wanted_undef rfl rfl rfl)); (focus ((first | (apply put_some rfl; focus (conv => lhs; dsimp only [List.set_cons_zero, List.set_cons_succ]) <;> rfl) | exact put_none rfl)))) | with_reducible apply wp_block | with_reducible apply wp_skip | with_reducible apply wp_exit | with_reducible apply wp_ret | ((with_reducible apply wp_cond_true); (focus (first | rfl | (simp [go_sem, *]; done)))) | ((with_reducible apply wp_cond_false); (focus (first | rfl | (simp [go_sem, *]; done)))) | (simp only [Exit.then, Exit.inBlock, ↓reduceIte, Nat.reduceEqDiff]) | ((with_reducible apply kf_out); (focus assumption)))
          go_cut [3] from 19 to 133 (fun s3 wx => s3 = .int .i64 (lm : Int) ∧ SB wx g pad D1 ∧ w.grownBy wx (some g))
          case first =>
            rename_i hJJ hKK
            have hJJ := Lib.hid hJJ
            have hKK := Lib.hid hKK
            cases wb with
            | false =>
              have hlm : (lim : Int) - 1 = (lm : Int) := by have := (PR.out.brk rfl).2; simp at h0'; omega
              have Fwr : Below wr.heap.size wr wr := Below.refl _ _
              repeat (first | with_reducible apply wpList_nil | ((with_reducible apply region_k); intro KK kk) | with_reducible apply wp_region_lit | ((with_reducible apply seq_k); intro KK kk) | ((with_reducible apply seq_q); (focus (first | exact wanted_none rfl | exact wanted_yes rfl rfl rfl)); (focus (simp [go_sem, effAt, ↓IntWalk.iteOmega, *]; (try go_ints); (first | (with_reducible exact effUpon_val) | (with_reducible exact effUpon_skip)))); (focus ((first | (apply put_some rfl; focus (conv => lhs; dsimp only [List.set_cons_zero, List.set_cons_succ]) <;> rfl) | exact put_none rfl)))) | ((with_reducible apply seq_s); (focus (first | exact wanted_no rfl rfl rfl | exact wanted_undef rfl rfl rfl)); (focus ((first | (apply put_some rfl; focus (conv => lhs; dsimp only [List.set_cons_zero, List.set_cons_succ]) <;> rfl) | exact put_none rfl)))) | with_reducible apply wp_block | with_reducible apply wp_skip | with_reducible apply wp_exit | with_reducible apply wp_ret | ((with_reducible apply wp_cond_true); (focus (first | rfl | (simp [go_sem, *]; done)))) | ((with_reducible apply wp_cond_false); (focus (first | rfl | (simp [go_sem, *]; done)))) | (simp only [Exit.then, Exit.inBlock, ↓reduceIte, Nat.reduceEqDiff]) | ((with_reducible apply kf_out); (focus assumption)))
              with_reducible apply seq_e (fun w' => SB w' g pad (D1) ∧ World.grownBy wr w' (some g))
              (focus (first | exact wanted_none rfl | exact wanted_yes rfl rfl rfl))
              (focus (simp only [effAt]; simp [go_sem]; (with_reducible exact effUpon_enter (brk_n HD.out (PR.out.brk rfl).1 hab hb hsz hB_d))))
              (first | (apply put_some rfl; focus (conv => lhs; dsimp only [List.set_cons_zero, List.set_cons_succ]) <;> rfl) | exact put_none rfl)
              rintro u1 ⟨hB_n, hg_n⟩
              have hG2 := grown_trans hG hg_n
              clear hB_d hG hg_n
              try clear hc_d
              have hB_d := hB_n
              have hG := hG2
              clear hB_n hG2
              have Fu1 : Below u1.heap.size u1 u1 := Below.refl _ _
              repeat (first | with_reducible apply wpList_nil | ((with_reducible apply region_k); intro KK kk) | with_reducible apply wp_region_lit | ((with_reducible apply seq_k); intro KK kk) | ((with_reducible apply seq_q); (focus (first | exact wanted_none rfl | exact wanted_yes rfl rfl rfl)); (focus (simp [go_sem, effAt, ↓IntWalk.iteOmega, *]; (try go_ints); (first | (with_reducible exact effUpon_val) | (with_reducible exact effUpon_skip)))); (focus ((first | (apply put_some rfl; focus (conv => lhs; dsimp only [List.set_cons_zero, List.set_cons_succ]) <;> rfl) | exact put_none rfl)))) | ((with_reducible apply seq_s); (focus (first | exact wanted_no rfl rfl rfl | exact wanted_undef rfl rfl rfl)); (focus ((first | (apply put_some rfl; focus (conv => lhs; dsimp only [List.set_cons_zero, List.set_cons_succ]) <;> rfl) | exact put_none rfl)))) | with_reducible apply wp_block | with_reducible apply wp_skip | with_reducible apply wp_exit | with_reducible apply wp_ret | ((with_reducible apply wp_cond_true); (focus (first | rfl | (simp [go_sem, *]; done)))) | ((with_reducible apply wp_cond_false); (focus (first | rfl | (simp [go_sem, *]; done)))) | (simp only [Exit.then, Exit.inBlock, ↓reduceIte, Nat.reduceEqDiff]) | ((with_reducible apply kf_out); (focus assumption)))
              refine hKK.out _ _ (Met.intro (hJJ.out _ _ ?_))
              (repeat apply Exists.intro)
              refine ⟨?rel, rfl⟩
              case rel => exact ⟨rfl, hB_d, hG⟩
            | true =>
              obtain ⟨rfl, rfl⟩ := PR.out.nob rfl
              have Fwr : Below wr.heap.size wr wr := Below.refl _ _
              repeat (first | with_reducible apply wpList_nil | ((with_reducible apply region_k); intro KK kk) | with_reducible apply wp_region_lit | ((with_reducible apply seq_k); intro KK kk) | ((with_reducible apply seq_q); (focus (first | exact wanted_none rfl | exact wanted_yes rfl rfl rfl)); (focus (simp [go_sem, effAt, ↓IntWalk.iteOmega, *]; (try go_ints); (first | (with_reducible exact effUpon_val) | (with_reducible exact effUpon_skip)))); (focus ((first | (apply put_some rfl; focus (conv => lhs; dsimp only [List.set_cons_zero, List.set_cons_succ]) <;> rfl) | exact put_none rfl)))) | ((with_reducible apply seq_s); (focus (first | exact wanted_no rfl rfl rfl | exact wanted_undef rfl rfl rfl)); (focus ((first | (apply put_some rfl; focus (conv => lhs; dsimp only [List.set_cons_zero, List.set_cons_succ]) <;> rfl) | exact put_none rfl)))) | with_reducible apply wp_block | with_reducible apply wp_skip | with_reducible apply wp_exit | with_reducible apply wp_ret | ((with_reducible apply wp_cond_true); (focus (first | rfl | (simp [go_sem, *]; done)))) | ((with_reducible apply wp_cond_false); (focus (first | rfl | (simp [go_sem, *]; done)))) | (simp only [Exit.then, Exit.inBlock, ↓reduceIte, Nat.reduceEqDiff]) | ((with_reducible apply kf_out); (focus assumption)))
              refine hKK.out _ _ (Met.intro (hJJ.out _ _ ?_))
              (repeat apply Exists.intro)
              refine ⟨?rel, rfl⟩
              case rel => exact ⟨rfl, hB_d, hG⟩
          case rest =>
            clear hB_d hG HD
            obtain ⟨rfl, hB_d, hG⟩ := hcut
            have hcp := cp_n (g := g) (cap := cap) PR.out.n1 PR.out.cpv hab1 hb hsz hB_d
            obtain ⟨hv, hhv⟩ : ∃ v, hintV ch = v := ⟨_, rfl⟩
            rw [hhv] at hcp
            have HV := Lib.hid hhv
            clear hhv
            have c1 : (cp : Int) < (b1 : Int) := by have := PR.out.pa; omega
            have c2 : (a1 : Int) ≤ (cp : Int) := by have := PR.out.pa; omega
            skip
            have Fwc : Below wc.heap.size wc wc := Below.refl _ _
            have hc_d := hB_d.cell
            repeat (first | with_reducible apply wpList_nil | ((with_reducible apply region_k); intro KK kk) | with_reducible apply wp_region_lit | ((with_reducible apply seq_k); intro KK kk) | ((with_reducible apply seq_q); (focus (first | exact wanted_none rfl | exact wanted_yes rfl rfl rfl)); (focus (simp [go_sem, effAt, ↓IntWalk.iteOmega, *]; (try go_ints); (first | (with_reducible exact effUpon_val) | (with_reducible exact effUpon_skip)))); (focus ((first | (apply put_some rfl; focus (conv => lhs; dsimp only [List.set_cons_zero, List.set_cons_succ]) <;> rfl) | exact put_none rfl)))) | ((with_reducible apply seq_s); (focus (first | exact wanted_no rfl rfl rfl | exact wanted_undef rfl rfl rfl)); (focus ((first | (apply put_some rfl; focus (conv => lhs; dsimp only [List.set_cons_zero, List.set_cons_succ]) <;> rfl) | exact put_none rfl)))) | with_reducible apply wp_block | with_reducible apply wp_skip | with_reducible apply wp_exit | with_reducible apply wp_ret | ((with_reducible apply wp_cond_true); (focus (first | rfl | (simp [go_sem, *]; done)))) | ((with_reducible apply wp_cond_false); (focus (first | rfl | (simp [go_sem, *]; done)))) | (simp only [Exit.then, Exit.inBlock, ↓reduceIte, Nat.reduceEqDiff]) | ((with_reducible apply kf_out); (focus assumption)))
            ((with_reducible apply seq_e (Below wc.heap.size wc)); (focus rfl); (focus (simp only [effAt]; simp [go_sem]; (with_reducible exact effUpon_enter (hcp)))); (focus ((first | (apply put_some rfl; focus (conv => lhs; dsimp only [List.set_cons_zero, List.set_cons_succ]) <;> rfl) | exact put_none rfl))))
            intro w1 hs
            have Fw1 := Fwc.trans (hs.mono Fwc.size)
            replace hB_d := hB_d.below hs hB_d.lt
            clear hs Fwc
            clear hc_d; have hc_d := hB_d.cell
            repeat (first | with_reducible apply wpList_nil | ((with_reducible apply region_k); intro KK kk) | with_reducible apply wp_region_lit | ((with_reducible apply seq_k); intro KK kk) | ((with_reducible apply seq_q); (focus (first | exact wanted_none rfl | exact wanted_yes rfl rfl rfl)); (focus (simp [go_sem, effAt, ↓IntWalk.iteOmega, *]; (try go_ints); (first | (with_reducible exact effUpon_val) | (with_reducible exact effUpon_skip)))); (focus ((first | (apply put_some rfl; focus (conv => lhs; dsimp only [List.set_cons_zero, List.set_cons_succ]) <;> rfl) | exact put_none rfl)))) | ((with_reducible apply seq_s); (focus (first | exact wanted_no rfl rfl rfl | exact wanted_undef rfl rfl rfl)); (focus ((first | (apply put_some rfl; focus (conv => lhs; dsimp only [List.set_cons_zero, List.set_cons_succ]) <;> rfl) | exact put_none rfl)))) | with_reducible apply wp_block | with_reducible apply wp_skip | with_reducible apply wp_exit | with_reducible apply wp_ret | ((with_reducible apply wp_cond_true); (focus (first | rfl | (simp [go_sem, *]; done)))) | ((with_reducible apply wp_cond_false); (focus (first | rfl | (simp [go_sem, *]; done)))) | (simp only [Exit.then, Exit.inBlock, ↓reduceIte, Nat.reduceEqDiff]) | ((with_reducible apply kf_out); (focus assumption)))
            have hG2 := grown_trans hG (grown_below (by assumption : Below wc.heap.size wc w1) _)
            clear hG hcp
            have hG := hG2
            clear hG2
            go_cut [11, 12] from 19 to 133 (fun s11 s12 wx => s11 = .int .i64 (pv : Int) ∧ s12 = .int .i64 (hintV hh) ∧ SB wx g pad D2 ∧ w.grownBy wx (some g))
            case first =>
              rename_i hJJ hKK
              have hJJ := Lib.hid hJJ
              have hKK := Lib.hid hKK
              by_cases hd : ch = .decreasing
              case pos =>
                have hd' : (hv == 2) = true := by rw [← HV.out, hintV_two]; simpa using hd
                obtain ⟨er, ep, eh⟩ := PR.out.rev hd
                have hpI : (b1 : Int) - 1 - ((cp : Int) - (a1 : Int)) = (pv : Int) := by have := PR.out.pa; omega
                clear hd
                have Fw1 : Below w1.heap.size w1 w1 := Below.refl _ _
                repeat (first | with_reducible apply wpList_nil | ((with_reducible apply region_k); intro KK kk) | with_reducible apply wp_region_lit | ((with_reducible apply seq_k); intro KK kk) | ((with_reducible apply seq_q); (focus (first | exact wanted_none rfl | exact wanted_yes rfl rfl rfl)); (focus (simp [go_sem, effAt, ↓IntWalk.iteOmega, *]; (try go_ints); (first | (with_reducible exact effUpon_val) | (with_reducible exact effUpon_skip)))); (focus ((first | (apply put_some rfl; focus (conv => lhs; dsimp only [List.set_cons_zero, List.set_cons_succ]) <;> rfl) | exact put_none rfl)))) | ((with_reducible apply seq_s); (focus (first | exact wanted_no rfl rfl rfl | exact wanted_undef rfl rfl rfl)); (focus ((first | (apply put_some rfl; focus (conv => lhs; dsimp only [List.set_cons_zero, List.set_cons_succ]) <;> rfl) | exact put_none rfl)))) | with_reducible apply wp_block | with_reducible apply wp_skip | with_reducible apply wp_exit | with_reducible apply wp_ret | ((with_reducible apply wp_cond_true); (focus (first | rfl | (simp [go_sem, *]; done)))) | ((with_reducible apply wp_cond_false); (focus (first | rfl | (simp [go_sem, *]; done)))) | (simp only [Exit.then, Exit.inBlock, ↓reduceIte, Nat.reduceEqDiff]) | ((with_reducible apply kf_out); (focus assumption)))
                with_reducible apply seq_e (fun w' => SB w' g pad (D2) ∧ World.grownBy w1 w' (some g))
                (focus (first | exact wanted_none rfl | exact wanted_yes rfl rfl rfl))
                (focus (simp only [effAt]; simp [go_sem]; (with_reducible exact effUpon_enter (rev_n PR.out.n1 er hab1 hb hsz hB_d))))
                (first | (apply put_some rfl; focus (conv => lhs; dsimp only [List.set_cons_zero, List.set_cons_succ]) <;> rfl) | exact put_none rfl)
                rintro u2 ⟨hB_n, hg_n⟩
                have hG2 := grown_trans hG hg_n
                clear hB_d hG hg_n
                try clear hc_d
                have hB_d := hB_n
                have hG := hG2
                clear hB_n hG2
                have Fu2 : Below u2.heap.size u2 u2 := Below.refl _ _
                repeat (first | with_reducible apply wpList_nil | ((with_reducible apply region_k); intro KK kk) | with_reducible apply wp_region_lit | ((with_reducible apply seq_k); intro KK kk) | ((with_reducible apply seq_q); (focus (first | exact wanted_none rfl | exact wanted_yes rfl rfl rfl)); (focus (simp [go_sem, effAt, ↓IntWalk.iteOmega, *]; (try go_ints); (first | (with_reducible exact effUpon_val) | (with_reducible exact effUpon_skip)))); (focus ((first | (apply put_some rfl; focus (conv => lhs; dsimp only [List.set_cons_zero, List.set_cons_succ]) <;> rfl) | exact put_none rfl)))) | ((with_reducible apply seq_s); (focus (first | exact wanted_no rfl rfl rfl | exact wanted_undef rfl rfl rfl)); (focus ((first | (apply put_some rfl; focus (conv => lhs; dsimp only [List.set_cons_zero, List.set_cons_succ]) <;> rfl) | exact put_none rfl)))) | with_reducible apply wp_block | with_reducible apply wp_skip | with_reducible apply wp_exit | with_reducible apply wp_ret | ((with_reducible apply wp_cond_true); (focus (first | rfl | (simp [go_sem, *]; done)))) | ((with_reducible apply wp_cond_false); (focus (first | rfl | (simp [go_sem, *]; done)))) | (simp only [Exit.then, Exit.inBlock, ↓reduceIte, Nat.reduceEqDiff]) | ((with_reducible apply kf_out); (focus assumption)))
                refine hKK.out _ _ (Met.intro (hJJ.out _ _ ?_))
                (repeat apply Exists.intro)
                refine ⟨?rel, rfl⟩
                case rel => exact ⟨rfl, by rw [eh]; rfl, hB_d, hG⟩
              case neg =>
                have hd' : (hv == 2) = false := by rw [← HV.out, hintV_two]; simpa using hd
                obtain ⟨er, ep, eh⟩ := PR.out.nor hd
                subst er ep eh
                clear hd
                have Fw1 : Below w1.heap.size w1 w1 := Below.refl _ _
                repeat (first | with_reducible apply wpList_nil | ((with_reducible apply region_k); intro KK kk) | with_reducible apply wp_region_lit | ((with_reducible apply seq_k); intro KK kk) | ((with_reducible apply seq_q); (focus (first | exact wanted_none rfl | exact wanted_yes rfl rfl rfl)); (focus (simp [go_sem, effAt, ↓IntWalk.iteOmega, *]; (try go_ints); (first | (with_reducible exact effUpon_val) | (with_reducible exact effUpon_skip)))); (focus ((first | (apply put_some rfl; focus (conv => lhs; dsimp only [List.set_cons_zero, List.set_cons_succ]) <;> rfl) | exact put_none rfl)))) | ((with_reducible apply seq_s); (focus (first | exact wanted_no rfl rfl rfl | exact wanted_undef rfl rfl rfl)); (focus ((first | (apply put_some rfl; focus (conv => lhs; dsimp only [List.set_cons_zero, List.set_cons_succ]) <;> rfl) | exact put_none rfl)))) | with_reducible apply wp_block | with_reducible apply wp_skip | with_reducible apply wp_exit | with_reducible apply wp_ret | ((with_reducible apply wp_cond_true); (focus (first | rfl | (simp [go_sem, *]; done)))) | ((with_reducible apply wp_cond_false); (focus (first | rfl | (simp [go_sem, *]; done)))) | (simp only [Exit.then, Exit.inBlock, ↓reduceIte, Nat.reduceEqDiff]) | ((with_reducible apply kf_out); (focus assumption)))
                refine hKK.out _ _ (Met.intro (hJJ.out _ _ ?_))
                (repeat apply Exists.intro)
                refine ⟨?rel, rfl⟩
                case rel => exact ⟨rfl, by rw [HV.out], hB_d, hG⟩
            case rest =>
              clear hB_d hG
              try clear hc_d
              obtain ⟨rfl, rfl, hB_d, hG⟩ := hcut
              clear HV
              obtain ⟨hv, hhv⟩ : ∃ v, hintV hh = v := ⟨_, rfl⟩
              rw [hhv]
              have HV := Lib.hid hhv
              clear hhv
              have p1 : (pv : Int) < (b1 : Int) := by have := PR.out.pb; omega
              have p2 : (a1 : Int) ≤ (pv : Int) := by have := PR.out.pb; omega
              (with_reducible apply kf_out); (focus assumption)
              (with_reducible apply seq_k); intro KK kk
              go_cut [] from 19 to 133 (fun wx => pd = false ∧ SB wx g pad D3 ∧ w.grownBy wx (some g))
              case first =>
                rename_i hJJ hKK
                have hJJ := Lib.hid hJJ
                have hKK := Lib.hid hKK
                by_cases ht : wb = true ∧ wp = true ∧ hh = .increasing
                case pos =>
                  have hd' : (hv == 1) = true := by rw [← HV.out, hintV_one]; simpa using ht.2.2
                  have ep := PR.out.pin ht.1 ht.2.1 ht.2.2
                  obtain ⟨rfl, rfl, _⟩ := ht
                  cases pd with
                  | false =>
                    have Fwc : Below wc.heap.size wc wc := Below.refl _ _
                    repeat (first | with_reducible apply wpList_nil | ((with_reducible apply region_k); intro KK kk) | with_reducible apply wp_region_lit | ((with_reducible apply seq_k); intro KK kk) | ((with_reducible apply seq_q); (focus (first | exact wanted_none rfl | exact wanted_yes rfl rfl rfl)); (focus (simp [go_sem, effAt, ↓IntWalk.iteOmega, *]; (try go_ints); (first | (with_reducible exact effUpon_val) | (with_reducible exact effUpon_skip)))); (focus ((first | (apply put_some rfl; focus (conv => lhs; dsimp only [List.set_cons_zero, List.set_cons_succ]) <;> rfl) | exact put_none rfl)))) | ((with_reducible apply seq_s); (focus (first | exact wanted_no rfl rfl rfl | exact wanted_undef rfl rfl rfl)); (focus ((first | (apply put_some rfl; focus (conv => lhs; dsimp only [List.set_cons_zero, List.set_cons_succ]) <;> rfl) | exact put_none rfl)))) | with_reducible apply wp_block | with_reducible apply wp_skip | with_reducible apply wp_exit | with_reducible apply wp_ret | ((with_reducible apply wp_cond_true); (focus (first | rfl | (simp [go_sem, *]; done)))) | ((with_reducible apply wp_cond_false); (focus (first | rfl | (simp [go_sem, *]; done)))) | (simp only [Exit.then, Exit.inBlock, ↓reduceIte, Nat.reduceEqDiff]) | ((with_reducible apply kf_out); (focus assumption)))
                    with_reducible apply seq_e (fun w' => SB w' g pad (D3) ∧ World.grownBy wc w' (some g))
                    (focus (first | exact wanted_none rfl | exact wanted_yes rfl rfl rfl))
                    (focus (simp only [effAt]; simp [go_sem]; (with_reducible exact effUpon_enter (pin_n PR.out.n2 ep hab1 hb hsz hB_d))))
                    (first | (apply put_some rfl; focus (conv => lhs; dsimp only [List.set_cons_zero, List.set_cons_succ]) <;> rfl) | exact put_none rfl)
                    rintro u3 ⟨hB_n, hg_n⟩
                    have hG2 := grown_trans hG hg_n
                    clear hB_d hG hg_n
                    try clear hc_d
                    have hB_d := hB_n
                    have hG := hG2
                    clear hB_n hG2
                    have Fu3 : Below u3.heap.size u3 u3 := Below.refl _ _
                    repeat (first | with_reducible apply wpList_nil | ((with_reducible apply region_k); intro KK kk) | with_reducible apply wp_region_lit | ((with_reducible apply seq_k); intro KK kk) | ((with_reducible apply seq_q); (focus (first | exact wanted_none rfl | exact wanted_yes rfl rfl rfl)); (focus (simp [go_sem, effAt, ↓IntWalk.iteOmega, *]; (try go_ints); (first | (with_reducible exact effUpon_val) | (with_reducible exact effUpon_skip)))); (focus ((first | (apply put_some rfl; focus (conv => lhs; dsimp only [List.set_cons_zero, List.set_cons_succ]) <;> rfl) | exact put_none rfl)))) | ((with_reducible apply seq_s); (focus (first | exact wanted_no rfl rfl rfl | exact wanted_undef rfl rfl rfl)); (focus ((first | (apply put_some rfl; focus (conv => lhs; dsimp only [List.set_cons_zero, List.set_cons_succ]) <;> rfl) | exact put_none rfl)))) | with_reducible apply wp_block | with_reducible apply wp_skip | with_reducible apply wp_exit | with_reducible apply wp_ret | ((with_reducible apply wp_cond_true); (focus (first | rfl | (simp [go_sem, *]; done)))) | ((with_reducible apply wp_cond_false); (focus (first | rfl | (simp [go_sem, *]; done)))) | (simp only [Exit.then, Exit.inBlock, ↓reduceIte, Nat.reduceEqDiff]) | ((with_reducible apply kf_out); (focus assumption)))
                    refine hKK.out _ _ (Met.intro (hJJ.out _ _ ?_))
                    (repeat apply Exists.intro)
                    refine ⟨?rel, rfl⟩
                    case rel => exact ⟨rfl, hB_d, hG⟩
                  | true =>
                    have hR := hR.out
                    rw [PR.out.done rfl] at hR
                    subst hR
                    have Fwc : Below wc.heap.size wc wc := Below.refl _ _
                    repeat (first | with_reducible apply wpList_nil | ((with_reducible apply region_k); intro KK kk) | with_reducible apply wp_region_lit | ((with_reducible apply seq_k); intro KK kk) | ((with_reducible apply seq_q); (focus (first | exact wanted_none rfl | exact wanted_yes rfl rfl rfl)); (focus (simp [go_sem, effAt, ↓IntWalk.iteOmega, *]; (try go_ints); (first | (with_reducible exact effUpon_val) | (with_reducible exact effUpon_skip)))); (focus ((first | (apply put_some rfl; focus (conv => lhs; dsimp only [List.set_cons_zero, List.set_cons_succ]) <;> rfl) | exact put_none rfl)))) | ((with_reducible apply seq_s); (focus (first | exact wanted_no rfl rfl rfl | exact wanted_undef rfl rfl rfl)); (focus ((first | (apply put_some rfl; focus (conv => lhs; dsimp only [List.set_cons_zero, List.set_cons_succ]) <;> rfl) | exact put_none rfl)))) | with_reducible apply wp_block | with_reducible apply wp_skip | with_reducible apply wp_exit | with_reducible apply wp_ret | ((with_reducible apply wp_cond_true); (focus (first | rfl | (simp [go_sem, *]; done)))) | ((with_reducible apply wp_cond_false); (focus (first | rfl | (simp [go_sem, *]; done)))) | (simp only [Exit.then, Exit.inBlock, ↓reduceIte, Nat.reduceEqDiff]) | ((with_reducible apply kf_out); (focus assumption)))
                    with_reducible apply seq_e (fun w' => SB w' g pad (D3) ∧ World.grownBy wc w' (some g))
                    (focus (first | exact wanted_none rfl | exact wanted_yes rfl rfl rfl))
                    (focus (simp only [effAt]; simp [go_sem]; (with_reducible exact effUpon_enter (pin_n PR.out.n2 ep hab1 hb hsz hB_d))))
                    (first | (apply put_some rfl; focus (conv => lhs; dsimp only [List.set_cons_zero, List.set_cons_succ]) <;> rfl) | exact put_none rfl)
                    rintro u3 ⟨hB_n, hg_n⟩
                    have hG2 := grown_trans hG hg_n
                    clear hB_d hG hg_n
                    try clear hc_d
                    have hB_d := hB_n
                    have hG := hG2
                    clear hB_n hG2
                    have Fu3 : Below u3.heap.size u3 u3 := Below.refl _ _
                    repeat (first | with_reducible apply wpList_nil | ((with_reducible apply region_k); intro KK kk) | with_reducible apply wp_region_lit | ((with_reducible apply seq_k); intro KK kk) | ((with_reducible apply seq_q); (focus (first | exact wanted_none rfl | exact wanted_yes rfl rfl rfl)); (focus (simp [go_sem, effAt, ↓IntWalk.iteOmega, *]; (try go_ints); (first | (with_reducible exact effUpon_val) | (with_reducible exact effUpon_skip)))); (focus ((first | (apply put_some rfl; focus (conv => lhs; dsimp only [List.set_cons_zero, List.set_cons_succ]) <;> rfl) | exact put_none rfl)))) | ((with_reducible apply seq_s); (focus (first | exact wanted_no rfl rfl rfl | exact wanted_undef rfl rfl rfl)); (focus ((first | (apply put_some rfl; focus (conv => lhs; dsimp only [List.set_cons_zero, List.set_cons_succ]) <;> rfl) | exact put_none rfl)))) | with_reducible apply wp_block | with_reducible apply wp_skip | with_reducible apply wp_exit | with_reducible apply wp_ret | ((with_reducible apply wp_cond_true); (focus (first | rfl | (simp [go_sem, *]; done)))) | ((with_reducible apply wp_cond_false); (focus (first | rfl | (simp [go_sem, *]; done)))) | (simp only [Exit.then, Exit.inBlock, ↓reduceIte, Nat.reduceEqDiff]) | ((with_reducible apply kf_out); (focus assumption)))
                    refine bodyPost_end (results_none rfl _ _ _) rfl ⟨rfl, hB_d, hG⟩
                case neg =>
                  obtain ⟨er, ep⟩ := PR.out.nop ht
                  subst er ep
                  cases wb with
                  | false =>
                    clear ht
                    have Fwc : Below wc.heap.size wc wc := Below.refl _ _
                    repeat (first | with_reducible apply wpList_nil | ((with_reducible apply region_k); intro KK kk) | with_reducible apply wp_region_lit | ((with_reducible apply seq_k); intro KK kk) | ((with_reducible apply seq_q); (focus (first | exact wanted_none rfl | exact wanted_yes rfl rfl rfl)); (focus (simp [go_sem, effAt, ↓IntWalk.iteOmega, *]; (try go_ints); (first | (with_reducible exact effUpon_val) | (with_reducible exact effUpon_skip)))); (focus ((first | (apply put_some rfl; focus (conv => lhs; dsimp only [List.set_cons_zero, List.set_cons_succ]) <;> rfl) | exact put_none rfl)))) | ((with_reducible apply seq_s); (focus (first | exact wanted_no rfl rfl rfl | exact wanted_undef rfl rfl rfl)); (focus ((first | (apply put_some rfl; focus (conv => lhs; dsimp only [List.set_cons_zero, List.set_cons_succ]) <;> rfl) | exact put_none rfl)))) | with_reducible apply wp_block | with_reducible apply wp_skip | with_reducible apply wp_exit | with_reducible apply wp_ret | ((with_reducible apply wp_cond_true); (focus (first | rfl | (simp [go_sem, *]; done)))) | ((with_reducible apply wp_cond_false); (focus (first | rfl | (simp [go_sem, *]; done)))) | (simp only [Exit.then, Exit.inBlock, ↓reduceIte, Nat.reduceEqDiff]) | ((with_reducible apply kf_out); (focus assumption)))
                    refine hKK.out _ _ (Met.intro (hJJ.out _ _ ?_))
                    (repeat apply Exists.intro)
                    refine ⟨?rel, rfl⟩
                    case rel => exact ⟨rfl, hB_d, hG⟩
                  | true =>
                    cases wp with
                    | false =>
                      clear ht
                      have Fwc : Below wc.heap.size wc wc := Below.refl _ _
                      repeat (first | with_reducible apply wpList_nil | ((with_reducible apply region_k); intro KK kk) | with_reducible apply wp_region_lit | ((with_reducible apply seq_k); intro KK kk) | ((with_reducible apply seq_q); (focus (first | exact wanted_none rfl | exact wanted_yes rfl rfl rfl)); (focus (simp [go_sem, effAt, ↓IntWalk.iteOmega, *]; (try go_ints); (first | (with_reducible exact effUpon_val) | (with_reducible exact effUpon_skip)))); (focus ((first | (apply put_some rfl; focus (conv => lhs; dsimp only [List.set_cons_zero, List.set_cons_succ]) <;> rfl) | exact put_none rfl)))) | ((with_reducible apply seq_s); (focus (first | exact wanted_no rfl rfl rfl | exact wanted_undef rfl rfl rfl)); (focus ((first | (apply put_some rfl; focus (conv => lhs; dsimp only [List.set_cons_zero, List.set_cons_succ]) <;> rfl) | exact put_none rfl)))) | with_reducible apply wp_block | with_reducible apply wp_skip | with_reducible apply wp_exit | with_reducible apply wp_ret | ((with_reducible apply wp_cond_true); (focus (first | rfl | (simp [go_sem, *]; done)))) | ((with_reducible apply wp_cond_false); (focus (first | rfl | (simp [go_sem, *]; done)))) | (simp only [Exit.then, Exit.inBlock, ↓reduceIte, Nat.reduceEqDiff]) | ((with_reducible apply kf_out); (focus assumption)))
                      refine hKK.out _ _ (Met.intro (hJJ.out _ _ ?_))
                      (repeat apply Exists.intro)
                      refine ⟨?rel, rfl⟩
                      case rel => exact ⟨rfl, hB_d, hG⟩
                    | true =>
                      have hd' : (hv == 1) = false := by rw [← HV.out, hintV_one]; simpa using ht
                      clear ht
                      have Fwc : Below wc.heap.size wc wc := Below.refl _ _
                      repeat (first | with_reducible apply wpList_nil | ((with_reducible apply region_k); intro KK kk) | with_reducible apply wp_region_lit | ((with_reducible apply seq_k); intro KK kk) | ((with_reducible apply seq_q); (focus (first | exact wanted_none rfl | exact wanted_yes rfl rfl rfl)); (focus (simp [go_sem, effAt, ↓IntWalk.iteOmega, *]; (try go_ints); (first | (with_reducible exact effUpon_val) | (with_reducible exact effUpon_skip)))); (focus ((first | (apply put_some rfl; focus (conv => lhs; dsimp only [List.set_cons_zero, List.set_cons_succ]) <;> rfl) | exact put_none rfl)))) | ((with_reducible apply seq_s); (focus (first | exact wanted_no rfl rfl rfl | exact wanted_undef rfl rfl rfl)); (focus ((first | (apply put_some rfl; focus (conv => lhs; dsimp only [List.set_cons_zero, List.set_cons_succ]) <;> rfl) | exact put_none rfl)))) | with_reducible apply wp_block | with_reducible apply wp_skip | with_reducible apply wp_exit | with_reducible apply wp_ret | ((with_reducible apply wp_cond_true); (focus (first | rfl | (simp [go_sem, *]; done)))) | ((with_reducible apply wp_cond_false); (focus (first | rfl | (simp [go_sem, *]; done)))) | (simp only [Exit.then, Exit.inBlock, ↓reduceIte, Nat.reduceEqDiff]) | ((with_reducible apply kf_out); (focus assumption)))
                      refine hKK.out _ _ (Met.intro (hJJ.out _ _ ?_))
                      (repeat apply Exists.intro)
                      refine ⟨?rel, rfl⟩
                      case rel => exact ⟨rfl, hB_d, hG⟩
              case rest =>
                clear hB_d hG HV
                obtain ⟨hpd, hB_d, hG⟩ := hcut
                have q2 : (pv : Int) < (n : Int) := by omega
                have q3 : (a1 : Int) < (n : Int) := by omega
                obtain ⟨xp, hxp⟩ : ∃ x, D3[pv]! = x := ⟨_, rfl⟩
                have e2 := cellsS_get pad (show pv < D3.size by have := PR.out.n3; omega) hxp
                by_cases ha0 : a1 = 0
                case pos =>
                  have ha0' : ¬ 0 < (a1 : Int) := by omega
                  have ha0n : ¬ 0 < a1 := by omega
                  have hprt := PR.out.prt hpd (.inl ha0)
                  clear ha0 hxp
                  skip
                  have Fwc : Below wc.heap.size wc wc := Below.refl _ _
                  have hc_d := hB_d.cell
                  repeat (first | with_reducible apply wpList_nil | ((with_reducible apply region_k); intro KK kk) | with_reducible apply wp_region_lit | ((with_reducible apply seq_k); intro KK kk) | ((with_reducible apply seq_q); (focus (first | exact wanted_none rfl | exact wanted_yes rfl rfl rfl)); (focus (simp [go_sem, effAt, ↓IntWalk.iteOmega, *]; (try go_ints); (first | (with_reducible exact effUpon_val) | (with_reducible exact effUpon_skip)))); (focus ((first | (apply put_some rfl; focus (conv => lhs; dsimp only [List.set_cons_zero, List.set_cons_succ]) <;> rfl) | exact put_none rfl)))) | ((with_reducible apply seq_s); (focus (first | exact wanted_no rfl rfl rfl | exact wanted_undef rfl rfl rfl)); (focus ((first | (apply put_some rfl; focus (conv => lhs; dsimp only [List.set_cons_zero, List.set_cons_succ]) <;> rfl) | exact put_none rfl)))) | with_reducible apply wp_block | with_reducible apply wp_skip | with_reducible apply wp_exit | with_reducible apply wp_ret | ((with_reducible apply wp_cond_true); (focus (first | rfl | (simp [go_sem, *]; done)))) | ((with_reducible apply wp_cond_false); (focus (first | rfl | (simp [go_sem, *]; done)))) | (simp only [Exit.then, Exit.inBlock, ↓reduceIte, Nat.reduceEqDiff]) | ((with_reducible apply kf_out); (focus assumption)))
                  refine wp_region_pure (E := fun i => [12].contains i) (by kernel_rfl) (by kernel_rfl) ?_
                  repeat (first | ((with_reducible apply lex_q); (focus (first | exact wanted_none rfl | exact wanted_yes rfl rfl rfl)); (focus rfl); (focus (intro w' hS; have hc_d := (hB_d.below hS hB_d.lt).cell; simp [go_sem, effAt, ↓IntWalk.iteOmega, *]; (try go_ints); (first | (with_reducible exact effUpon_val) | (with_reducible exact effUpon_skip)))); (focus ((first | (apply put_some rfl; focus (conv => lhs; dsimp only [List.set_cons_zero, List.set_cons_succ]) <;> rfl) | exact put_none rfl)))) | ((with_reducible apply lex_s); (focus (first | exact wanted_no rfl rfl rfl | exact wanted_undef rfl rfl rfl)); (focus ((first | (apply put_some rfl; focus (conv => lhs; dsimp only [List.set_cons_zero, List.set_cons_succ]) <;> rfl) | exact put_none rfl)))))
                  with_reducible apply lex_nil
                  intro w1 hs
                  have Fw1 := Fwc.trans (hs.mono Fwc.size)
                  replace hB_d := hB_d.below hs hB_d.lt
                  clear hs Fwc
                  clear hc_d; have hc_d := hB_d.cell
                  repeat (first | with_reducible apply wpList_nil | ((with_reducible apply region_k); intro KK kk) | with_reducible apply wp_region_lit | ((with_reducible apply seq_k); intro KK kk) | ((with_reducible apply seq_q); (focus (first | exact wanted_none rfl | exact wanted_yes rfl rfl rfl)); (focus (simp [go_sem, effAt, ↓IntWalk.iteOmega, *]; (try go_ints); (first | (with_reducible exact effUpon_val) | (with_reducible exact effUpon_skip)))); (focus ((first | (apply put_some rfl; focus (conv => lhs; dsimp only [List.set_cons_zero, List.set_cons_succ]) <;> rfl) | exact put_none rfl)))) | ((with_reducible apply seq_s); (focus (first | exact wanted_no rfl rfl rfl | exact wanted_undef rfl rfl rfl)); (focus ((first | (apply put_some rfl; focus (conv => lhs; dsimp only [List.set_cons_zero, List.set_cons_succ]) <;> rfl) | exact put_none rfl)))) | with_reducible apply wp_block | with_reducible apply wp_skip | with_reducible apply wp_exit | with_reducible apply wp_ret | ((with_reducible apply wp_cond_true); (focus (first | rfl | (simp [go_sem, *]; done)))) | ((with_reducible apply wp_cond_false); (focus (first | rfl | (simp [go_sem, *]; done)))) | (simp only [Exit.then, Exit.inBlock, ↓reduceIte, Nat.reduceEqDiff]) | ((with_reducible apply kf_out); (focus assumption)))
                  have hG2 := grown_trans hG (grown_below (by assumption : Below wc.heap.size wc w1) _)
                  clear hG
                  try clear hLs e1
                  clear e2
                  have hG := hG2
                  clear hG2
                  obtain ⟨mid, ap, d4, hx, r1, r2, r3, r4, r5, hlf, hrt⟩ := hprt
                  have Fw1 : Below w1.heap.size w1 w1 := Below.refl _ _
                  with_reducible apply seq_e (fun w' => SB w' g pad (d4) ∧ World.grownBy w1 w' (some g))
                  (focus (first | exact wanted_none rfl | exact wanted_yes rfl rfl rfl))
                  (focus (simp only [effAt]; simp [go_sem]; (with_reducible exact effUpon_enter (prt_n PR.out.n3 hx PR.out.pb.1 PR.out.pb.2 hb hsz hB_d))))
                  (first | (apply put_some rfl; focus (conv => lhs; dsimp only [List.set_cons_zero, List.set_cons_succ]) <;> rfl) | exact put_none rfl)
                  rintro w2p ⟨hB_n, hg_n⟩
                  have hG2 := grown_trans hG hg_n
                  clear hB_d hG hg_n
                  try clear hc_d
                  have hB_d := hB_n
                  have hG := hG2
                  clear hB_n hG2
                  have Fw2p : Below w2p.heap.size w2p w2p := Below.refl _ _
                  obtain ⟨ll, hll⟩ : ∃ k, mid - a1 = k := ⟨_, rfl⟩
                  obtain ⟨rl, hrl⟩ : ∃ k, b1 - mid = k := ⟨_, rfl⟩
                  obtain ⟨th, hth⟩ : ∃ k, l / 8 = k := ⟨_, rfl⟩
                  have hllI : (mid : Int) - (a1 : Int) = (ll : Int) := by omega
                  have hrlI : (b1 : Int) - (mid : Int) = (rl : Int) := by omega
                  have hthI : Int.tdiv (l : Int) 8 = (th : Int) := by rw [← hth]; rfl
                  have t1 : (ll : Int) ≤ 1000 := by omega
                  have t2 : (rl : Int) ≤ 1000 := by omega
                  have t3 : (th : Int) ≤ 1000 := by omega
                  have t4 : (mid : Int) < (b1 : Int) := by omega
                  have hl := HL.out
                  by_cases hlr : ll < rl
                  case pos =>
                    have hlr' : (ll : Int) < (rl : Int) := by omega
                    obtain ⟨L, s0, s1, s2, s3⟩ := hlf (by omega)
                    have hR := hR.out
                    rw [s3] at hR
                    clear s3 hlf hrt
                    have hih := ih.out g cap a1 mid lm n pad d4 _ (by omega) r3 r1 (by omega) hsz (by omega) r4 hB_d
                    rw [s0] at hih
                    try (simp only [show ((a0 + 1 : Nat) : Int) = (a0 : Int) + 1 from rfl] at hih)
                    try (simp only [show ((mid + 1 : Nat) : Int) = (mid : Int) + 1 from rfl] at hih)
                    by_cases ht : th ≤ ll
                    case pos =>
                      have ht' : (th : Int) ≤ (ll : Int) := by omega
                      have hdc : (decide (mid - a1 ≥ (b1 - a1) / 8)) = true := by simp; omega
                      rw [hdc] at hR
                      clear ht hdc
                      have Fw2p : Below w2p.heap.size w2p w2p := Below.refl _ _
                      repeat (first | with_reducible apply wpList_nil | ((with_reducible apply region_k); intro KK kk) | with_reducible apply wp_region_lit | ((with_reducible apply seq_k); intro KK kk) | ((with_reducible apply seq_q); (focus (first | exact wanted_none rfl | exact wanted_yes rfl rfl rfl)); (focus (simp [go_sem, effAt, ↓IntWalk.iteOmega, *]; (try go_ints); (first | (with_reducible exact effUpon_val) | (with_reducible exact effUpon_skip)))); (focus ((first | (apply put_some rfl; focus (conv => lhs; dsimp only [List.set_cons_zero, List.set_cons_succ]) <;> rfl) | exact put_none rfl)))) | ((with_reducible apply seq_s); (focus (first | exact wanted_no rfl rfl rfl | exact wanted_undef rfl rfl rfl)); (focus ((first | (apply put_some rfl; focus (conv => lhs; dsimp only [List.set_cons_zero, List.set_cons_succ]) <;> rfl) | exact put_none rfl)))) | with_reducible apply wp_block | with_reducible apply wp_skip | with_reducible apply wp_exit | with_reducible apply wp_ret | ((with_reducible apply wp_cond_true); (focus (first | rfl | (simp [go_sem, *]; done)))) | ((with_reducible apply wp_cond_false); (focus (first | rfl | (simp [go_sem, *]; done)))) | (simp only [Exit.then, Exit.inBlock, ↓reduceIte, Nat.reduceEqDiff]) | ((with_reducible apply kf_out); (focus assumption)))
                      with_reducible apply seq_e (fun w' => SB w' g pad (L) ∧ World.grownBy w2p w' (some g))
                      (focus (first | exact wanted_none rfl | exact wanted_yes rfl rfl rfl))
                      (focus (simp only [effAt]; simp [go_sem]; (with_reducible exact effUpon_enter (hih))))
                      (first | (apply put_some rfl; focus (conv => lhs; dsimp only [List.set_cons_zero, List.set_cons_succ]) <;> rfl) | exact put_none rfl)
                      rintro u3 ⟨hB_n, hg_n⟩
                      have hG2 := grown_trans hG hg_n
                      clear hB_d hG hg_n
                      try clear hc_d
                      have hB_d := hB_n
                      have hG := hG2
                      clear hB_n hG2
                      have Fu3 : Below u3.heap.size u3 u3 := Below.refl _ _
                      repeat (first | with_reducible apply wpList_nil | ((with_reducible apply region_k); intro KK kk) | with_reducible apply wp_region_lit | ((with_reducible apply seq_k); intro KK kk) | ((with_reducible apply seq_q); (focus (first | exact wanted_none rfl | exact wanted_yes rfl rfl rfl)); (focus (simp [go_sem, effAt, ↓IntWalk.iteOmega, *]; (try go_ints); (first | (with_reducible exact effUpon_val) | (with_reducible exact effUpon_skip)))); (focus ((first | (apply put_some rfl; focus (conv => lhs; dsimp only [List.set_cons_zero, List.set_cons_succ]) <;> rfl) | exact put_none rfl)))) | ((with_reducible apply seq_s); (focus (first | exact wanted_no rfl rfl rfl | exact wanted_undef rfl rfl rfl)); (focus ((first | (apply put_some rfl; focus (conv => lhs; dsimp only [List.set_cons_zero, List.set_cons_succ]) <;> rfl) | exact put_none rfl)))) | with_reducible apply wp_block | with_reducible apply wp_skip | with_reducible apply wp_exit | with_reducible apply wp_ret | ((with_reducible apply wp_cond_true); (focus (first | rfl | (simp [go_sem, *]; done)))) | ((with_reducible apply wp_cond_false); (focus (first | rfl | (simp [go_sem, *]; done)))) | (simp only [Exit.then, Exit.inBlock, ↓reduceIte, Nat.reduceEqDiff]) | ((with_reducible apply kf_out); (focus assumption)))
                      have hK := HK.out
                      have hJ := HJ.out
                      refine hK _ _ (Handed.intro (b1 - (mid + 1)) ?measure (hJ _ _ _ ?_))
                      rotate_left
                      (repeat apply Exists.intro)
                      refine ⟨?rel, rfl⟩
                      case rel => exact ⟨mid + 1, b1, lm, true, ap, L, by go_num, rfl, rfl, rfl, rfl, by omega, hb, Nat.le_refl _, by omega, by omega, s1, s2, hR, hB_d, hG⟩
                      case measure => omega
                    case neg =>
                      have ht' : ¬ (th : Int) ≤ (ll : Int) := by omega
                      have hdc : (decide (mid - a1 ≥ (b1 - a1) / 8)) = false := by simp; omega
                      rw [hdc] at hR
                      clear ht hdc
                      have Fw2p : Below w2p.heap.size w2p w2p := Below.refl _ _
                      repeat (first | with_reducible apply wpList_nil | ((with_reducible apply region_k); intro KK kk) | with_reducible apply wp_region_lit | ((with_reducible apply seq_k); intro KK kk) | ((with_reducible apply seq_q); (focus (first | exact wanted_none rfl | exact wanted_yes rfl rfl rfl)); (focus (simp [go_sem, effAt, ↓IntWalk.iteOmega, *]; (try go_ints); (first | (with_reducible exact effUpon_val) | (with_reducible exact effUpon_skip)))); (focus ((first | (apply put_some rfl; focus (conv => lhs; dsimp only [List.set_cons_zero, List.set_cons_succ]) <;> rfl) | exact put_none rfl)))) | ((with_reducible apply seq_s); (focus (first | exact wanted_no rfl rfl rfl | exact wanted_undef rfl rfl rfl)); (focus ((first | (apply put_some rfl; focus (conv => lhs; dsimp only [List.set_cons_zero, List.set_cons_succ]) <;> rfl) | exact put_none rfl)))) | with_reducible apply wp_block | with_reducible apply wp_skip | with_reducible apply wp_exit | with_reducible apply wp_ret | ((with_reducible apply wp_cond_true); (focus (first | rfl | (simp [go_sem, *]; done)))) | ((with_reducible apply wp_cond_false); (focus (first | rfl | (simp [go_sem, *]; done)))) | (simp only [Exit.then, Exit.inBlock, ↓reduceIte, Nat.reduceEqDiff]) | ((with_reducible apply kf_out); (focus assumption)))
                      with_reducible apply seq_e (fun w' => SB w' g pad (L) ∧ World.grownBy w2p w' (some g))
                      (focus (first | exact wanted_none rfl | exact wanted_yes rfl rfl rfl))
                      (focus (simp only [effAt]; simp [go_sem]; (with_reducible exact effUpon_enter (hih))))
                      (first | (apply put_some rfl; focus (conv => lhs; dsimp only [List.set_cons_zero, List.set_cons_succ]) <;> rfl) | exact put_none rfl)
                      rintro u3 ⟨hB_n, hg_n⟩
                      have hG2 := grown_trans hG hg_n
                      clear hB_d hG hg_n
                      try clear hc_d
                      have hB_d := hB_n
                      have hG := hG2
                      clear hB_n hG2
                      have Fu3 : Below u3.heap.size u3 u3 := Below.refl _ _
                      repeat (first | with_reducible apply wpList_nil | ((with_reducible apply region_k); intro KK kk) | with_reducible apply wp_region_lit | ((with_reducible apply seq_k); intro KK kk) | ((with_reducible apply seq_q); (focus (first | exact wanted_none rfl | exact wanted_yes rfl rfl rfl)); (focus (simp [go_sem, effAt, ↓IntWalk.iteOmega, *]; (try go_ints); (first | (with_reducible exact effUpon_val) | (with_reducible exact effUpon_skip)))); (focus ((first | (apply put_some rfl; focus (conv => lhs; dsimp only [List.set_cons_zero, List.set_cons_succ]) <;> rfl) | exact put_none rfl)))) | ((with_reducible apply seq_s); (focus (first | exact wanted_no rfl rfl rfl | exact wanted_undef rfl rfl rfl)); (focus ((first | (apply put_some rfl; focus (conv => lhs; dsimp only [List.set_cons_zero, List.set_cons_succ]) <;> rfl) | exact put_none rfl)))) | with_reducible apply wp_block | with_reducible apply wp_skip | with_reducible apply wp_exit | with_reducible apply wp_ret | ((with_reducible apply wp_cond_true); (focus (first | rfl | (simp [go_sem, *]; done)))) | ((with_reducible apply wp_cond_false); (focus (first | rfl | (simp [go_sem, *]; done)))) | (simp only [Exit.then, Exit.inBlock, ↓reduceIte, Nat.reduceEqDiff]) | ((with_reducible apply kf_out); (focus assumption)))
                      have hK := HK.out
                      have hJ := HJ.out
                      refine hK _ _ (Handed.intro (b1 - (mid + 1)) ?measure (hJ _ _ _ ?_))
                      rotate_left
                      (repeat apply Exists.intro)
                      refine ⟨?rel, rfl⟩
                      case rel => exact ⟨mid + 1, b1, lm, false, ap, L, by go_num, rfl, rfl, rfl, rfl, by omega, hb, Nat.le_refl _, by omega, by omega, s1, s2, hR, hB_d, hG⟩
                      case measure => omega
                  case neg =>
                    have hlr' : ¬ (ll : Int) < (rl : Int) := by omega
                    obtain ⟨L, s0, s1, s2, s3⟩ := hrt (by omega)
                    have hR := hR.out
                    rw [s3] at hR
                    clear s3 hlf hrt
                    have hih := ih.out g cap (mid + 1) b1 lm n pad d4 _ (by omega) r3 (by omega) hb hsz (by omega) r5 hB_d
                    rw [s0] at hih
                    try (simp only [show ((a0 + 1 : Nat) : Int) = (a0 : Int) + 1 from rfl] at hih)
                    try (simp only [show ((mid + 1 : Nat) : Int) = (mid : Int) + 1 from rfl] at hih)
                    by_cases ht : th ≤ rl
                    case pos =>
                      have ht' : (th : Int) ≤ (rl : Int) := by omega
                      have hdc : (decide (b1 - mid ≥ (b1 - a1) / 8)) = true := by simp; omega
                      rw [hdc] at hR
                      clear ht hdc
                      have Fw2p : Below w2p.heap.size w2p w2p := Below.refl _ _
                      repeat (first | with_reducible apply wpList_nil | ((with_reducible apply region_k); intro KK kk) | with_reducible apply wp_region_lit | ((with_reducible apply seq_k); intro KK kk) | ((with_reducible apply seq_q); (focus (first | exact wanted_none rfl | exact wanted_yes rfl rfl rfl)); (focus (simp [go_sem, effAt, ↓IntWalk.iteOmega, *]; (try go_ints); (first | (with_reducible exact effUpon_val) | (with_reducible exact effUpon_skip)))); (focus ((first | (apply put_some rfl; focus (conv => lhs; dsimp only [List.set_cons_zero, List.set_cons_succ]) <;> rfl) | exact put_none rfl)))) | ((with_reducible apply seq_s); (focus (first | exact wanted_no rfl rfl rfl | exact wanted_undef rfl rfl rfl)); (focus ((first | (apply put_some rfl; focus (conv => lhs; dsimp only [List.set_cons_zero, List.set_cons_succ]) <;> rfl) | exact put_none rfl)))) | with_reducible apply wp_block | with_reducible apply wp_skip | with_reducible apply wp_exit | with_reducible apply wp_ret | ((with_reducible apply wp_cond_true); (focus (first | rfl | (simp [go_sem, *]; done)))) | ((with_reducible apply wp_cond_false); (focus (first | rfl | (simp [go_sem, *]; done)))) | (simp only [Exit.then, Exit.inBlock, ↓reduceIte, Nat.reduceEqDiff]) | ((with_reducible apply kf_out); (focus assumption)))
                      with_reducible apply seq_e (fun w' => SB w' g pad (L) ∧ World.grownBy w2p w' (some g))
                      (focus (first | exact wanted_none rfl | exact wanted_yes rfl rfl rfl))
                      (focus (simp only [effAt]; simp [go_sem]; (with_reducible exact effUpon_enter (hih))))
                      (first | (apply put_some rfl; focus (conv => lhs; dsimp only [List.set_cons_zero, List.set_cons_succ]) <;> rfl) | exact put_none rfl)
                      rintro u3 ⟨hB_n, hg_n⟩
                      have hG2 := grown_trans hG hg_n
                      clear hB_d hG hg_n
                      try clear hc_d
                      have hB_d := hB_n
                      have hG := hG2
                      clear hB_n hG2
                      have Fu3 : Below u3.heap.size u3 u3 := Below.refl _ _
                      repeat (first | with_reducible apply wpList_nil | ((with_reducible apply region_k); intro KK kk) | with_reducible apply wp_region_lit | ((with_reducible apply seq_k); intro KK kk) | ((with_reducible apply seq_q); (focus (first | exact wanted_none rfl | exact wanted_yes rfl rfl rfl)); (focus (simp [go_sem, effAt, ↓IntWalk.iteOmega, *]; (try go_ints); (first | (with_reducible exact effUpon_val) | (with_reducible exact effUpon_skip)))); (focus ((first | (apply put_some rfl; focus (conv => lhs; dsimp only [List.set_cons_zero, List.set_cons_succ]) <;> rfl) | exact put_none rfl)))) | ((with_reducible apply seq_s); (focus (first | exact wanted_no rfl rfl rfl | exact wanted_undef rfl rfl rfl)); (focus ((first | (apply put_some rfl; focus (conv => lhs; dsimp only [List.set_cons_zero, List.set_cons_succ]) <;> rfl) | exact put_none rfl)))) | with_reducible apply wp_block | with_reducible apply wp_skip | with_reducible apply wp_exit | with_reducible apply wp_ret | ((with_reducible apply wp_cond_true); (focus (first | rfl | (simp [go_sem, *]; done)))) | ((with_reducible apply wp_cond_false); (focus (first | rfl | (simp [go_sem, *]; done)))) | (simp only [Exit.then, Exit.inBlock, ↓reduceIte, Nat.reduceEqDiff]) | ((with_reducible apply kf_out); (focus assumption)))
                      have hK := HK.out
                      have hJ := HJ.out
                      refine hK _ _ (Handed.intro (mid - a1) ?measure (hJ _ _ _ ?_))
                      rotate_left
                      (repeat apply Exists.intro)
                      refine ⟨?rel, rfl⟩
                      case rel => exact ⟨a1, mid, lm, true, ap, L, rfl, rfl, rfl, rfl, rfl, by omega, by omega, Nat.le_refl _, by omega, by omega, s1, s2, hR, hB_d, hG⟩
                      case measure => omega
                    case neg =>
                      have ht' : ¬ (th : Int) ≤ (rl : Int) := by omega
                      have hdc : (decide (b1 - mid ≥ (b1 - a1) / 8)) = false := by simp; omega
                      rw [hdc] at hR
                      clear ht hdc
                      have Fw2p : Below w2p.heap.size w2p w2p := Below.refl _ _
                      repeat (first | with_reducible apply wpList_nil | ((with_reducible apply region_k); intro KK kk) | with_reducible apply wp_region_lit | ((with_reducible apply seq_k); intro KK kk) | ((with_reducible apply seq_q); (focus (first | exact wanted_none rfl | exact wanted_yes rfl rfl rfl)); (focus (simp [go_sem, effAt, ↓IntWalk.iteOmega, *]; (try go_ints); (first | (with_reducible exact effUpon_val) | (with_reducible exact effUpon_skip)))); (focus ((first | (apply put_some rfl; focus (conv => lhs; dsimp only [List.set_cons_zero, List.set_cons_succ]) <;> rfl) | exact put_none rfl)))) | ((with_reducible apply seq_s); (focus (first | exact wanted_no rfl rfl rfl | exact wanted_undef rfl rfl rfl)); (focus ((first | (apply put_some rfl; focus (conv => lhs; dsimp only [List.set_cons_zero, List.set_cons_succ]) <;> rfl) | exact put_none rfl)))) | with_reducible apply wp_block | with_reducible apply wp_skip | with_reducible apply wp_exit | with_reducible apply wp_ret | ((with_reducible apply wp_cond_true); (focus (first | rfl | (simp [go_sem, *]; done)))) | ((with_reducible apply wp_cond_false); (focus (first | rfl | (simp [go_sem, *]; done)))) | (simp only [Exit.then, Exit.inBlock, ↓reduceIte, Nat.reduceEqDiff]) | ((with_reducible apply kf_out); (focus assumption)))
                      with_reducible apply seq_e (fun w' => SB w' g pad (L) ∧ World.grownBy w2p w' (some g))
                      (focus (first | exact wanted_none rfl | exact wanted_yes rfl rfl rfl))
                      (focus (simp only [effAt]; simp [go_sem]; (with_reducible exact effUpon_enter (hih))))
                      (first | (apply put_some rfl; focus (conv => lhs; dsimp only [List.set_cons_zero, List.set_cons_succ]) <;> rfl) | exact put_none rfl)
                      rintro u3 ⟨hB_n, hg_n⟩
                      have hG2 := grown_trans hG hg_n
                      clear hB_d hG hg_n
                      try clear hc_d
                      have hB_d := hB_n
                      have hG := hG2
                      clear hB_n hG2
                      have Fu3 : Below u3.heap.size u3 u3 := Below.refl _ _
                      repeat (first | with_reducible apply wpList_nil | ((with_reducible apply region_k); intro KK kk) | with_reducible apply wp_region_lit | ((with_reducible apply seq_k); intro KK kk) | ((with_reducible apply seq_q); (focus (first | exact wanted_none rfl | exact wanted_yes rfl rfl rfl)); (focus (simp [go_sem, effAt, ↓IntWalk.iteOmega, *]; (try go_ints); (first | (with_reducible exact effUpon_val) | (with_reducible exact effUpon_skip)))); (focus ((first | (apply put_some rfl; focus (conv => lhs; dsimp only [List.set_cons_zero, List.set_cons_succ]) <;> rfl) | exact put_none rfl)))) | ((with_reducible apply seq_s); (focus (first | exact wanted_no rfl rfl rfl | exact wanted_undef rfl rfl rfl)); (focus ((first | (apply put_some rfl; focus (conv => lhs; dsimp only [List.set_cons_zero, List.set_cons_succ]) <;> rfl) | exact put_none rfl)))) | with_reducible apply wp_block | with_reducible apply wp_skip | with_reducible apply wp_exit | with_reducible apply wp_ret | ((with_reducible apply wp_cond_true); (focus (first | rfl | (simp [go_sem, *]; done)))) | ((with_reducible apply wp_cond_false); (focus (first | rfl | (simp [go_sem, *]; done)))) | (simp only [Exit.then, Exit.inBlock, ↓reduceIte, Nat.reduceEqDiff]) | ((with_reducible apply kf_out); (focus assumption)))
                      have hK := HK.out
                      have hJ := HJ.out
                      refine hK _ _ (Handed.intro (mid - a1) ?measure (hJ _ _ _ ?_))
                      rotate_left
                      (repeat apply Exists.intro)
                      refine ⟨?rel, rfl⟩
                      case rel => exact ⟨a1, mid, lm, false, ap, L, rfl, rfl, rfl, rfl, rfl, by omega, by omega, Nat.le_refl _, by omega, by omega, s1, s2, hR, hB_d, hG⟩
                      case measure => omega
                case neg =>
                  obtain ⟨a0, ha0⟩ : ∃ k, a1 = k + 1 := ⟨a1 - 1, by omega⟩
                  subst ha0
                  have ha0' : 0 < (a0 : Int) + 1 := by omega
                  have q4 : (a0 : Int) < (n : Int) := by omega
                  obtain ⟨xa, hxa⟩ : ∃ x, D3[a0]! = x := ⟨_, rfl⟩
                  have e1 := cellsS_get pad (show a0 < D3.size by have := PR.out.n3; omega) hxa
                  have hLs := less_any xa xp
                  obtain ⟨m, hm⟩ : ∃ m, ltInt xa xp = m := ⟨_, rfl⟩
                  rw [hm] at hLs
                  rw [← hxa, ← hxp] at hm
                  clear hxa hxp
                  cases m with
                  | true =>
                    have hprt := PR.out.prt hpd (.inr hm)
                    clear hm
                    skip
                    have Fwc : Below wc.heap.size wc wc := Below.refl _ _
                    have hc_d := hB_d.cell
                    repeat (first | with_reducible apply wpList_nil | ((with_reducible apply region_k); intro KK kk) | with_reducible apply wp_region_lit | ((with_reducible apply seq_k); intro KK kk) | ((with_reducible apply seq_q); (focus (first | exact wanted_none rfl | exact wanted_yes rfl rfl rfl)); (focus (simp [go_sem, effAt, ↓IntWalk.iteOmega, *]; (try go_ints); (first | (with_reducible exact effUpon_val) | (with_reducible exact effUpon_skip)))); (focus ((first | (apply put_some rfl; focus (conv => lhs; dsimp only [List.set_cons_zero, List.set_cons_succ]) <;> rfl) | exact put_none rfl)))) | ((with_reducible apply seq_s); (focus (first | exact wanted_no rfl rfl rfl | exact wanted_undef rfl rfl rfl)); (focus ((first | (apply put_some rfl; focus (conv => lhs; dsimp only [List.set_cons_zero, List.set_cons_succ]) <;> rfl) | exact put_none rfl)))) | with_reducible apply wp_block | with_reducible apply wp_skip | with_reducible apply wp_exit | with_reducible apply wp_ret | ((with_reducible apply wp_cond_true); (focus (first | rfl | (simp [go_sem, *]; done)))) | ((with_reducible apply wp_cond_false); (focus (first | rfl | (simp [go_sem, *]; done)))) | (simp only [Exit.then, Exit.inBlock, ↓reduceIte, Nat.reduceEqDiff]) | ((with_reducible apply kf_out); (focus assumption)))
                    refine wp_region_pure (E := fun i => [12].contains i) (by kernel_rfl) (by kernel_rfl) ?_
                    repeat (first | ((with_reducible apply lex_q); (focus (first | exact wanted_none rfl | exact wanted_yes rfl rfl rfl)); (focus rfl); (focus (intro w' hS; have hc_d := (hB_d.below hS hB_d.lt).cell; simp [go_sem, effAt, ↓IntWalk.iteOmega, *]; (try go_ints); (first | (with_reducible exact effUpon_val) | (with_reducible exact effUpon_skip)))); (focus ((first | (apply put_some rfl; focus (conv => lhs; dsimp only [List.set_cons_zero, List.set_cons_succ]) <;> rfl) | exact put_none rfl)))) | ((with_reducible apply lex_s); (focus (first | exact wanted_no rfl rfl rfl | exact wanted_undef rfl rfl rfl)); (focus ((first | (apply put_some rfl; focus (conv => lhs; dsimp only [List.set_cons_zero, List.set_cons_succ]) <;> rfl) | exact put_none rfl)))))
                    ((with_reducible apply lex_e (Below wc.heap.size wc)); (focus rfl); (focus rfl); (focus (intro w' hS; simp only [effAt]; simp [go_sem]; (with_reducible exact eff_call hS (hLs _)))); (focus (exact fun _ h => h)); (focus ((first | (apply put_some rfl; focus (conv => lhs; dsimp only [List.set_cons_zero, List.set_cons_succ]) <;> rfl) | exact put_none rfl))))
                    repeat (first | ((with_reducible apply lex_q); (focus (first | exact wanted_none rfl | exact wanted_yes rfl rfl rfl)); (focus rfl); (focus (intro w' hS; have hc_d := (hB_d.below hS hB_d.lt).cell; simp [go_sem, effAt, ↓IntWalk.iteOmega, *]; (try go_ints); (first | (with_reducible exact effUpon_val) | (with_reducible exact effUpon_skip)))); (focus ((first | (apply put_some rfl; focus (conv => lhs; dsimp only [List.set_cons_zero, List.set_cons_succ]) <;> rfl) | exact put_none rfl)))) | ((with_reducible apply lex_s); (focus (first | exact wanted_no rfl rfl rfl | exact wanted_undef rfl rfl rfl)); (focus ((first | (apply put_some rfl; focus (conv => lhs; dsimp only [List.set_cons_zero, List.set_cons_succ]) <;> rfl) | exact put_none rfl)))))
                    with_reducible apply lex_nil
                    intro w1 hs
                    have Fw1 := Fwc.trans (hs.mono Fwc.size)
                    replace hB_d := hB_d.below hs hB_d.lt
                    clear hs Fwc
                    clear hc_d; have hc_d := hB_d.cell
                    repeat (first | with_reducible apply wpList_nil | ((with_reducible apply region_k); intro KK kk) | with_reducible apply wp_region_lit | ((with_reducible apply seq_k); intro KK kk) | ((with_reducible apply seq_q); (focus (first | exact wanted_none rfl | exact wanted_yes rfl rfl rfl)); (focus (simp [go_sem, effAt, ↓IntWalk.iteOmega, *]; (try go_ints); (first | (with_reducible exact effUpon_val) | (with_reducible exact effUpon_skip)))); (focus ((first | (apply put_some rfl; focus (conv => lhs; dsimp only [List.set_cons_zero, List.set_cons_succ]) <;> rfl) | exact put_none rfl)))) | ((with_reducible apply seq_s); (focus (first | exact wanted_no rfl rfl rfl | exact wanted_undef rfl rfl rfl)); (focus ((first | (apply put_some rfl; focus (conv => lhs; dsimp only [List.set_cons_zero, List.set_cons_succ]) <;> rfl) | exact put_none rfl)))) | with_reducible apply wp_block | with_reducible apply wp_skip | with_reducible apply wp_exit | with_reducible apply wp_ret | ((with_reducible apply wp_cond_true); (focus (first | rfl | (simp [go_sem, *]; done)))) | ((with_reducible apply wp_cond_false); (focus (first | rfl | (simp [go_sem, *]; done)))) | (simp only [Exit.then, Exit.inBlock, ↓reduceIte, Nat.reduceEqDiff]) | ((with_reducible apply kf_out); (focus assumption)))
                    have hG2 := grown_trans hG (grown_below (by assumption : Below wc.heap.size wc w1) _)
                    clear hG
                    try clear hLs e1
                    clear e2
                    have hG := hG2
                    clear hG2
                    obtain ⟨mid, ap, d4, hx, r1, r2, r3, r4, r5, hlf, hrt⟩ := hprt
                    have Fw1 : Below w1.heap.size w1 w1 := Below.refl _ _
                    with_reducible apply seq_e (fun w' => SB w' g pad (d4) ∧ World.grownBy w1 w' (some g))
                    (focus (first | exact wanted_none rfl | exact wanted_yes rfl rfl rfl))
                    (focus (simp only [effAt]; simp [go_sem]; (with_reducible exact effUpon_enter (prt_n PR.out.n3 hx PR.out.pb.1 PR.out.pb.2 hb hsz hB_d))))
                    (first | (apply put_some rfl; focus (conv => lhs; dsimp only [List.set_cons_zero, List.set_cons_succ]) <;> rfl) | exact put_none rfl)
                    rintro w2p ⟨hB_n, hg_n⟩
                    have hG2 := grown_trans hG hg_n
                    clear hB_d hG hg_n
                    try clear hc_d
                    have hB_d := hB_n
                    have hG := hG2
                    clear hB_n hG2
                    have Fw2p : Below w2p.heap.size w2p w2p := Below.refl _ _
                    obtain ⟨ll, hll⟩ : ∃ k, mid - (a0 + 1) = k := ⟨_, rfl⟩
                    obtain ⟨rl, hrl⟩ : ∃ k, b1 - mid = k := ⟨_, rfl⟩
                    obtain ⟨th, hth⟩ : ∃ k, l / 8 = k := ⟨_, rfl⟩
                    have hllI : (mid : Int) - ((a0 : Int) + 1) = (ll : Int) := by omega
                    have hrlI : (b1 : Int) - (mid : Int) = (rl : Int) := by omega
                    have hthI : Int.tdiv (l : Int) 8 = (th : Int) := by rw [← hth]; rfl
                    have t1 : (ll : Int) ≤ 1000 := by omega
                    have t2 : (rl : Int) ≤ 1000 := by omega
                    have t3 : (th : Int) ≤ 1000 := by omega
                    have t4 : (mid : Int) < (b1 : Int) := by omega
                    have hl := HL.out
                    by_cases hlr : ll < rl
                    case pos =>
                      have hlr' : (ll : Int) < (rl : Int) := by omega
                      obtain ⟨L, s0, s1, s2, s3⟩ := hlf (by omega)
                      have hR := hR.out
                      rw [s3] at hR
                      clear s3 hlf hrt
                      have hih := ih.out g cap (a0 + 1) mid lm n pad d4 _ (by omega) r3 r1 (by omega) hsz (by omega) r4 hB_d
                      rw [s0] at hih
                      try (simp only [show ((a0 + 1 : Nat) : Int) = (a0 : Int) + 1 from rfl] at hih)
                      try (simp only [show ((mid + 1 : Nat) : Int) = (mid : Int) + 1 from rfl] at hih)
                      by_cases ht : th ≤ ll
                      case pos =>
                        have ht' : (th : Int) ≤ (ll : Int) := by omega
                        have hdc : (decide (mid - (a0 + 1) ≥ (b1 - (a0 + 1)) / 8)) = true := by simp; omega
                        rw [hdc] at hR
                        clear ht hdc
                        have Fw2p : Below w2p.heap.size w2p w2p := Below.refl _ _
                        repeat (first | with_reducible apply wpList_nil | ((with_reducible apply region_k); intro KK kk) | with_reducible apply wp_region_lit | ((with_reducible apply seq_k); intro KK kk) | ((with_reducible apply seq_q); (focus (first | exact wanted_none rfl | exact wanted_yes rfl rfl rfl)); (focus (simp [go_sem, effAt, ↓IntWalk.iteOmega, *]; (try go_ints); (first | (with_reducible exact effUpon_val) | (with_reducible exact effUpon_skip)))); (focus ((first | (apply put_some rfl; focus (conv => lhs; dsimp only [List.set_cons_zero, List.set_cons_succ]) <;> rfl) | exact put_none rfl)))) | ((with_reducible apply seq_s); (focus (first | exact wanted_no rfl rfl rfl | exact wanted_undef rfl rfl rfl)); (focus ((first | (apply put_some rfl; focus (conv => lhs; dsimp only [List.set_cons_zero, List.set_cons_succ]) <;> rfl) | exact put_none rfl)))) | with_reducible apply wp_block | with_reducible apply wp_skip | with_reducible apply wp_exit | with_reducible apply wp_ret | ((with_reducible apply wp_cond_true); (focus (first | rfl | (simp [go_sem, *]; done)))) | ((with_reducible apply wp_cond_false); (focus (first | rfl | (simp [go_sem, *]; done)))) | (simp only [Exit.then, Exit.inBlock, ↓reduceIte, Nat.reduceEqDiff]) | ((with_reducible apply kf_out); (focus assumption)))
                        with_reducible apply seq_e (fun w' => SB w' g pad (L) ∧ World.grownBy w2p w' (some g))
                        (focus (first | exact wanted_none rfl | exact wanted_yes rfl rfl rfl))
                        (focus (simp only [effAt]; simp [go_sem]; (with_reducible exact effUpon_enter (hih))))
                        (first | (apply put_some rfl; focus (conv => lhs; dsimp only [List.set_cons_zero, List.set_cons_succ]) <;> rfl) | exact put_none rfl)
                        rintro u3 ⟨hB_n, hg_n⟩
                        have hG2 := grown_trans hG hg_n
                        clear hB_d hG hg_n
                        try clear hc_d
                        have hB_d := hB_n
                        have hG := hG2
                        clear hB_n hG2
                        have Fu3 : Below u3.heap.size u3 u3 := Below.refl _ _
                        repeat (first | with_reducible apply wpList_nil | ((with_reducible apply region_k); intro KK kk) | with_reducible apply wp_region_lit | ((with_reducible apply seq_k); intro KK kk) | ((with_reducible apply seq_q); (focus (first | exact wanted_none rfl | exact wanted_yes rfl rfl rfl)); (focus (simp [go_sem, effAt, ↓IntWalk.iteOmega, *]; (try go_ints); (first | (with_reducible exact effUpon_val) | (with_reducible exact effUpon_skip)))); (focus ((first | (apply put_some rfl; focus (conv => lhs; dsimp only [List.set_cons_zero, List.set_cons_succ]) <;> rfl) | exact put_none rfl)))) | ((with_reducible apply seq_s); (focus (first | exact wanted_no rfl rfl rfl | exact wanted_undef rfl rfl rfl)); (focus ((first | (apply put_some rfl; focus (conv => lhs; dsimp only [List.set_cons_zero, List.set_cons_succ]) <;> rfl) | exact put_none rfl)))) | with_reducible apply wp_block | with_reducible apply wp_skip | with_reducible apply wp_exit | with_reducible apply wp_ret | ((with_reducible apply wp_cond_true); (focus (first | rfl | (simp [go_sem, *]; done)))) | ((with_reducible apply wp_cond_false); (focus (first | rfl | (simp [go_sem, *]; done)))) | (simp only [Exit.then, Exit.inBlock, ↓reduceIte, Nat.reduceEqDiff]) | ((with_reducible apply kf_out); (focus assumption)))
                        have hK := HK.out
                        have hJ := HJ.out
                        refine hK _ _ (Handed.intro (b1 - (mid + 1)) ?measure (hJ _ _ _ ?_))
                        rotate_left
                        (repeat apply Exists.intro)
                        refine ⟨?rel, rfl⟩
                        case rel => exact ⟨mid + 1, b1, lm, true, ap, L, by go_num, rfl, rfl, rfl, rfl, by omega, hb, Nat.le_refl _, by omega, by omega, s1, s2, hR, hB_d, hG⟩
                        case measure => omega
                      case neg =>
                        have ht' : ¬ (th : Int) ≤ (ll : Int) := by omega
                        have hdc : (decide (mid - (a0 + 1) ≥ (b1 - (a0 + 1)) / 8)) = false := by simp; omega
                        rw [hdc] at hR
                        clear ht hdc
                        have Fw2p : Below w2p.heap.size w2p w2p := Below.refl _ _
                        repeat (first | with_reducible apply wpList_nil | ((with_reducible apply region_k); intro KK kk) | with_reducible apply wp_region_lit | ((with_reducible apply seq_k); intro KK kk) | ((with_reducible apply seq_q); (focus (first | exact wanted_none rfl | exact wanted_yes rfl rfl rfl)); (focus (simp [go_sem, effAt, ↓IntWalk.iteOmega, *]; (try go_ints); (first | (with_reducible exact effUpon_val) | (with_reducible exact effUpon_skip)))); (focus ((first | (apply put_some rfl; focus (conv => lhs; dsimp only [List.set_cons_zero, List.set_cons_succ]) <;> rfl) | exact put_none rfl)))) | ((with_reducible apply seq_s); (focus (first | exact wanted_no rfl rfl rfl | exact wanted_undef rfl rfl rfl)); (focus ((first | (apply put_some rfl; focus (conv => lhs; dsimp only [List.set_cons_zero, List.set_cons_succ]) <;> rfl) | exact put_none rfl)))) | with_reducible apply wp_block | with_reducible apply wp_skip | with_reducible apply wp_exit | with_reducible apply wp_ret | ((with_reducible apply wp_cond_true); (focus (first | rfl | (simp [go_sem, *]; done)))) | ((with_reducible apply wp_cond_false); (focus (first | rfl | (simp [go_sem, *]; done)))) | (simp only [Exit.then, Exit.inBlock, ↓reduceIte, Nat.reduceEqDiff]) | ((with_reducible apply kf_out); (focus assumption)))
                        with_reducible apply seq_e (fun w' => SB w' g pad (L) ∧ World.grownBy w2p w' (some g))
                        (focus (first | exact wanted_none rfl | exact wanted_yes rfl rfl rfl))
                        (focus (simp only [effAt]; simp [go_sem]; (with_reducible exact effUpon_enter (hih))))
                        (first | (apply put_some rfl; focus (conv => lhs; dsimp only [List.set_cons_zero, List.set_cons_succ]) <;> rfl) | exact put_none rfl)
                        rintro u3 ⟨hB_n, hg_n⟩
                        have hG2 := grown_trans hG hg_n
                        clear hB_d hG hg_n
                        try clear hc_d
                        have hB_d := hB_n
                        have hG := hG2
                        clear hB_n hG2
                        have Fu3 : Below u3.heap.size u3 u3 := Below.refl _ _
                        repeat (first | with_reducible apply wpList_nil | ((with_reducible apply region_k); intro KK kk) | with_reducible apply wp_region_lit | ((with_reducible apply seq_k); intro KK kk) | ((with_reducible apply seq_q); (focus (first | exact wanted_none rfl | exact wanted_yes rfl rfl rfl)); (focus (simp [go_sem, effAt, ↓IntWalk.iteOmega, *]; (try go_ints); (first | (with_reducible exact effUpon_val) | (with_reducible exact effUpon_skip)))); (focus ((first | (apply put_some rfl; focus (conv => lhs; dsimp only [List.set_cons_zero, List.set_cons_succ]) <;> rfl) | exact put_none rfl)))) | ((with_reducible apply seq_s); (focus (first | exact wanted_no rfl rfl rfl | exact wanted_undef rfl rfl rfl)); (focus ((first | (apply put_some rfl; focus (conv => lhs; dsimp only [List.set_cons_zero, List.set_cons_succ]) <;> rfl) | exact put_none rfl)))) | with_reducible apply wp_block | with_reducible apply wp_skip | with_reducible apply wp_exit | with_reducible apply wp_ret | ((with_reducible apply wp_cond_true); (focus (first | rfl | (simp [go_sem, *]; done)))) | ((with_reducible apply wp_cond_false); (focus (first | rfl | (simp [go_sem, *]; done)))) | (simp only [Exit.then, Exit.inBlock, ↓reduceIte, Nat.reduceEqDiff]) | ((with_reducible apply kf_out); (focus assumption)))
                        have hK := HK.out
                        have hJ := HJ.out
                        refine hK _ _ (Handed.intro (b1 - (mid + 1)) ?measure (hJ _ _ _ ?_))
                        rotate_left
                        (repeat apply Exists.intro)
                        refine ⟨?rel, rfl⟩
                        case rel => exact ⟨mid + 1, b1, lm, false, ap, L, by go_num, rfl, rfl, rfl, rfl, by omega, hb, Nat.le_refl _, by omega, by omega, s1, s2, hR, hB_d, hG⟩
                        case measure => omega
                    case neg =>
                      have hlr' : ¬ (ll : Int) < (rl : Int) := by omega
                      obtain ⟨L, s0, s1, s2, s3⟩ := hrt (by omega)
                      have hR := hR.out
                      rw [s3] at hR
                      clear s3 hlf hrt
                      have hih := ih.out g cap (mid + 1) b1 lm n pad d4 _ (by omega) r3 (by omega) hb hsz (by omega) r5 hB_d
                      rw [s0] at hih
                      try (simp only [show ((a0 + 1 : Nat) : Int) = (a0 : Int) + 1 from rfl] at hih)
                      try (simp only [show ((mid + 1 : Nat) : Int) = (mid : Int) + 1 from rfl] at hih)
                      by_cases ht : th ≤ rl
                      case pos =>
                        have ht' : (th : Int) ≤ (rl : Int) := by omega
                        have hdc : (decide (b1 - mid ≥ (b1 - (a0 + 1)) / 8)) = true := by simp; omega
                        rw [hdc] at hR
                        clear ht hdc
                        have Fw2p : Below w2p.heap.size w2p w2p := Below.refl _ _
                        repeat (first | with_reducible apply wpList_nil | ((with_reducible apply region_k); intro KK kk) | with_reducible apply wp_region_lit | ((with_reducible apply seq_k); intro KK kk) | ((with_reducible apply seq_q); (focus (first | exact wanted_none rfl | exact wanted_yes rfl rfl rfl)); (focus (simp [go_sem, effAt, ↓IntWalk.iteOmega, *]; (try go_ints); (first | (with_reducible exact effUpon_val) | (with_reducible exact effUpon_skip)))); (focus ((first | (apply put_some rfl; focus (conv => lhs; dsimp only [List.set_cons_zero, List.set_cons_succ]) <;> rfl) | exact put_none rfl)))) | ((with_reducible apply seq_s); (focus (first | exact wanted_no rfl rfl rfl | exact wanted_undef rfl rfl rfl)); (focus ((first | (apply put_some rfl; focus (conv => lhs; dsimp only [List.set_cons_zero, List.set_cons_succ]) <;> rfl) | exact put_none rfl)))) | with_reducible apply wp_block | with_reducible apply wp_skip | with_reducible apply wp_exit | with_reducible apply wp_ret | ((with_reducible apply wp_cond_true); (focus (first | rfl | (simp [go_sem, *]; done)))) | ((with_reducible apply wp_cond_false); (focus (first | rfl | (simp [go_sem, *]; done)))) | (simp only [Exit.then, Exit.inBlock, ↓reduceIte, Nat.reduceEqDiff]) | ((with_reducible apply kf_out); (focus assumption)))
                        with_reducible apply seq_e (fun w' => SB w' g pad (L) ∧ World.grownBy w2p w' (some g))
                        (focus (first | exact wanted_none rfl | exact wanted_yes rfl rfl rfl))
                        (focus (simp only [effAt]; simp [go_sem]; (with_reducible exact effUpon_enter (hih))))
                        (first | (apply put_some rfl; focus (conv => lhs; dsimp only [List.set_cons_zero, List.set_cons_succ]) <;> rfl) | exact put_none rfl)
                        rintro u3 ⟨hB_n, hg_n⟩
                        have hG2 := grown_trans hG hg_n
                        clear hB_d hG hg_n
                        try clear hc_d
                        have hB_d := hB_n
                        have hG := hG2
                        clear hB_n hG2
                        have Fu3 : Below u3.heap.size u3 u3 := Below.refl _ _
                        repeat (first | with_reducible apply wpList_nil | ((with_reducible apply region_k); intro KK kk) | with_reducible apply wp_region_lit | ((with_reducible apply seq_k); intro KK kk) | ((with_reducible apply seq_q); (focus (first | exact wanted_none rfl | exact wanted_yes rfl rfl rfl)); (focus (simp [go_sem, effAt, ↓IntWalk.iteOmega, *]; (try go_ints); (first | (with_reducible exact effUpon_val) | (with_reducible exact effUpon_skip)))); (focus ((first | (apply put_some rfl; focus (conv => lhs; dsimp only [List.set_cons_zero, List.set_cons_succ]) <;> rfl) | exact put_none rfl)))) | ((with_reducible apply seq_s); (focus (first | exact wanted_no rfl rfl rfl | exact wanted_undef rfl rfl rfl)); (focus ((first | (apply put_some rfl; focus (conv => lhs; dsimp only [List.set_cons_zero, List.set_cons_succ]) <;> rfl) | exact put_none rfl)))) | with_reducible apply wp_block | with_reducible apply wp_skip | with_reducible apply wp_exit | with_reducible apply wp_ret | ((with_reducible apply wp_cond_true); (focus (first | rfl | (simp [go_sem, *]; done)))) | ((with_reducible apply wp_cond_false); (focus (first | rfl | (simp [go_sem, *]; done)))) | (simp only [Exit.then, Exit.inBlock, ↓reduceIte, Nat.reduceEqDiff]) | ((with_reducible apply kf_out); (focus assumption)))
                        have hK := HK.out
                        have hJ := HJ.out
                        refine hK _ _ (Handed.intro (mid - (a0 + 1)) ?measure (hJ _ _ _ ?_))
                        rotate_left
                        (repeat apply Exists.intro)
                        refine ⟨?rel, rfl⟩
                        case rel => exact ⟨a0 + 1, mid, lm, true, ap, L, rfl, rfl, rfl, rfl, rfl, by omega, by omega, Nat.le_refl _, by omega, by omega, s1, s2, hR, hB_d, hG⟩
                        case measure => omega
                      case neg =>
                        have ht' : ¬ (th : Int) ≤ (rl : Int) := by omega
                        have hdc : (decide (b1 - mid ≥ (b1 - (a0 + 1)) / 8)) = false := by simp; omega
                        rw [hdc] at hR
                        clear ht hdc
                        have Fw2p : Below w2p.heap.size w2p w2p := Below.refl _ _
                        repeat (first | with_reducible apply wpList_nil | ((with_reducible apply region_k); intro KK kk) | with_reducible apply wp_region_lit | ((with_reducible apply seq_k); intro KK kk) | ((with_reducible apply seq_q); (focus (first | exact wanted_none rfl | exact wanted_yes rfl rfl rfl)); (focus (simp [go_sem, effAt, ↓IntWalk.iteOmega, *]; (try go_ints); (first | (with_reducible exact effUpon_val) | (with_reducible exact effUpon_skip)))); (focus ((first | (apply put_some rfl; focus (conv => lhs; dsimp only [List.set_cons_zero, List.set_cons_succ]) <;> rfl) | exact put_none rfl)))) | ((with_reducible apply seq_s); (focus (first | exact wanted_no rfl rfl rfl | exact wanted_undef rfl rfl rfl)); (focus ((first | (apply put_some rfl; focus (conv => lhs; dsimp only [List.set_cons_zero, List.set_cons_succ]) <;> rfl) | exact put_none rfl)))) | with_reducible apply wp_block | with_reducible apply wp_skip | with_reducible apply wp_exit | with_reducible apply wp_ret | ((with_reducible apply wp_cond_true); (focus (first | rfl | (simp [go_sem, *]; done)))) | ((with_reducible apply wp_cond_false); (focus (first | rfl | (simp [go_sem, *]; done)))) | (simp only [Exit.then, Exit.inBlock, ↓reduceIte, Nat.reduceEqDiff]) | ((with_reducible apply kf_out); (focus assumption)))
                        with_reducible apply seq_e (fun w' => SB w' g pad (L) ∧ World.grownBy w2p w' (some g))
                        (focus (first | exact wanted_none rfl | exact wanted_yes rfl rfl rfl))
                        (focus (simp only [effAt]; simp [go_sem]; (with_reducible exact effUpon_enter (hih))))
                        (first | (apply put_some rfl; focus (conv => lhs; dsimp only [List.set_cons_zero, List.set_cons_succ]) <;> rfl) | exact put_none rfl)
                        rintro u3 ⟨hB_n, hg_n⟩
                        have hG2 := grown_trans hG hg_n
                        clear hB_d hG hg_n
                        try clear hc_d
                        have hB_d := hB_n
                        have hG := hG2
                        clear hB_n hG2
                        have Fu3 : Below u3.heap.size u3 u3 := Below.refl _ _
                        repeat (first | with_reducible apply wpList_nil | ((with_reducible apply region_k); intro KK kk) | with_reducible apply wp_region_lit | ((with_reducible apply seq_k); intro KK kk) | ((with_reducible apply seq_q); (focus (first | exact wanted_none rfl | exact wanted_yes rfl rfl rfl)); (focus (simp [go_sem, effAt, ↓IntWalk.iteOmega, *]; (try go_ints); (first | (with_reducible exact effUpon_val) | (with_reducible exact effUpon_skip)))); (focus ((first | (apply put_some rfl; focus (conv => lhs; dsimp only [List.set_cons_zero, List.set_cons_succ]) <;> rfl) | exact put_none rfl)))) | ((with_reducible apply seq_s); (focus (first | exact wanted_no rfl rfl rfl | exact wanted_undef rfl rfl rfl)); (focus ((first | (apply put_some rfl; focus (conv => lhs; dsimp only [List.set_cons_zero, List.set_cons_succ]) <;> rfl) | exact put_none rfl)))) | with_reducible apply wp_block | with_reducible apply wp_skip | with_reducible apply wp_exit | with_reducible apply wp_ret | ((with_reducible apply wp_cond_true); (focus (first | rfl | (simp [go_sem, *]; done)))) | ((with_reducible apply wp_cond_false); (focus (first | rfl | (simp [go_sem, *]; done)))) | (simp only [Exit.then, Exit.inBlock, ↓reduceIte, Nat.reduceEqDiff]) | ((with_reducible apply kf_out); (focus assumption)))
                        have hK := HK.out
                        have hJ := HJ.out
                        refine hK _ _ (Handed.intro (mid - (a0 + 1)) ?measure (hJ _ _ _ ?_))
                        rotate_left
                        (repeat apply Exists.intro)
                        refine ⟨?rel, rfl⟩
                        case rel => exact ⟨a0 + 1, mid, lm, false, ap, L, rfl, rfl, rfl, rfl, rfl, by omega, by omega, Nat.le_refl _, by omega, by omega, s1, s2, hR, hB_d, hG⟩
                        case measure => omega
                  | false =>
                    obtain ⟨mid, d4, hx, r1, r2, r3, r4, r5⟩ := PR.out.peq hpd (Nat.succ_pos _) hm
                    have hR := hR.out
                    rw [r5] at hR
                    clear hm r5
                    skip
                    have Fwc : Below wc.heap.size wc wc := Below.refl _ _
                    have hc_d := hB_d.cell
                    repeat (first | with_reducible apply wpList_nil | ((with_reducible apply region_k); intro KK kk) | with_reducible apply wp_region_lit | ((with_reducible apply seq_k); intro KK kk) | ((with_reducible apply seq_q); (focus (first | exact wanted_none rfl | exact wanted_yes rfl rfl rfl)); (focus (simp [go_sem, effAt, ↓IntWalk.iteOmega, *]; (try go_ints); (first | (with_reducible exact effUpon_val) | (with_reducible exact effUpon_skip)))); (focus ((first | (apply put_some rfl; focus (conv => lhs; dsimp only [List.set_cons_zero, List.set_cons_succ]) <;> rfl) | exact put_none rfl)))) | ((with_reducible apply seq_s); (focus (first | exact wanted_no rfl rfl rfl | exact wanted_undef rfl rfl rfl)); (focus ((first | (apply put_some rfl; focus (conv => lhs; dsimp only [List.set_cons_zero, List.set_cons_succ]) <;> rfl) | exact put_none rfl)))) | with_reducible apply wp_block | with_reducible apply wp_skip | with_reducible apply wp_exit | with_reducible apply wp_ret | ((with_reducible apply wp_cond_true); (focus (first | rfl | (simp [go_sem, *]; done)))) | ((with_reducible apply wp_cond_false); (focus (first | rfl | (simp [go_sem, *]; done)))) | (simp only [Exit.then, Exit.inBlock, ↓reduceIte, Nat.reduceEqDiff]) | ((with_reducible apply kf_out); (focus assumption)))
                    refine wp_region_pure (E := fun i => [12].contains i) (by kernel_rfl) (by kernel_rfl) ?_
                    repeat (first | ((with_reducible apply lex_q); (focus (first | exact wanted_none rfl | exact wanted_yes rfl rfl rfl)); (focus rfl); (focus (intro w' hS; have hc_d := (hB_d.below hS hB_d.lt).cell; simp [go_sem, effAt, ↓IntWalk.iteOmega, *]; (try go_ints); (first | (with_reducible exact effUpon_val) | (with_reducible exact effUpon_skip)))); (focus ((first | (apply put_some rfl; focus (conv => lhs; dsimp only [List.set_cons_zero, List.set_cons_succ]) <;> rfl) | exact put_none rfl)))) | ((with_reducible apply lex_s); (focus (first | exact wanted_no rfl rfl rfl | exact wanted_undef rfl rfl rfl)); (focus ((first | (apply put_some rfl; focus (conv => lhs; dsimp only [List.set_cons_zero, List.set_cons_succ]) <;> rfl) | exact put_none rfl)))))
                    ((with_reducible apply lex_e (Below wc.heap.size wc)); (focus rfl); (focus rfl); (focus (intro w' hS; simp only [effAt]; simp [go_sem]; (with_reducible exact eff_call hS (hLs _)))); (focus (exact fun _ h => h)); (focus ((first | (apply put_some rfl; focus (conv => lhs; dsimp only [List.set_cons_zero, List.set_cons_succ]) <;> rfl) | exact put_none rfl))))
                    repeat (first | ((with_reducible apply lex_q); (focus (first | exact wanted_none rfl | exact wanted_yes rfl rfl rfl)); (focus rfl); (focus (intro w' hS; have hc_d := (hB_d.below hS hB_d.lt).cell; simp [go_sem, effAt, ↓IntWalk.iteOmega, *]; (try go_ints); (first | (with_reducible exact effUpon_val) | (with_reducible exact effUpon_skip)))); (focus ((first | (apply put_some rfl; focus (conv => lhs; dsimp only [List.set_cons_zero, List.set_cons_succ]) <;> rfl) | exact put_none rfl)))) | ((with_reducible apply lex_s); (focus (first | exact wanted_no rfl rfl rfl | exact wanted_undef rfl rfl rfl)); (focus ((first | (apply put_some rfl; focus (conv => lhs; dsimp only [List.set_cons_zero, List.set_cons_succ]) <;> rfl) | exact put_none rfl)))))
                    with_reducible apply lex_nil
                    intro w1 hs
                    have Fw1 := Fwc.trans (hs.mono Fwc.size)
                    replace hB_d := hB_d.below hs hB_d.lt
                    clear hs Fwc
                    clear hc_d; have hc_d := hB_d.cell
                    repeat (first | with_reducible apply wpList_nil | ((with_reducible apply region_k); intro KK kk) | with_reducible apply wp_region_lit | ((with_reducible apply seq_k); intro KK kk) | ((with_reducible apply seq_q); (focus (first | exact wanted_none rfl | exact wanted_yes rfl rfl rfl)); (focus (simp [go_sem, effAt, ↓IntWalk.iteOmega, *]; (try go_ints); (first | (with_reducible exact effUpon_val) | (with_reducible exact effUpon_skip)))); (focus ((first | (apply put_some rfl; focus (conv => lhs; dsimp only [List.set_cons_zero, List.set_cons_succ]) <;> rfl) | exact put_none rfl)))) | ((with_reducible apply seq_s); (focus (first | exact wanted_no rfl rfl rfl | exact wanted_undef rfl rfl rfl)); (focus ((first | (apply put_some rfl; focus (conv => lhs; dsimp only [List.set_cons_zero, List.set_cons_succ]) <;> rfl) | exact put_none rfl)))) | with_reducible apply wp_block | with_reducible apply wp_skip | with_reducible apply wp_exit | with_reducible apply wp_ret | ((with_reducible apply wp_cond_true); (focus (first | rfl | (simp [go_sem, *]; done)))) | ((with_reducible apply wp_cond_false); (focus (first | rfl | (simp [go_sem, *]; done)))) | (simp only [Exit.then, Exit.inBlock, ↓reduceIte, Nat.reduceEqDiff]) | ((with_reducible apply kf_out); (focus assumption)))
                    have hG2 := grown_trans hG (grown_below (by assumption : Below wc.heap.size wc w1) _)
                    clear hG hLs e1 e2
                    have hG := hG2
                    clear hG2
                    have Fw1 : Below w1.heap.size w1 w1 := Below.refl _ _
                    with_reducible apply seq_e (fun w' => SB w' g pad (d4) ∧ World.grownBy w1 w' (some g))
                    (focus (first | exact wanted_none rfl | exact wanted_yes rfl rfl rfl))
                    (focus (simp only [effAt]; simp [go_sem]; (with_reducible exact effUpon_enter (peq_n PR.out.n3 hx PR.out.pb.1 PR.out.pb.2 hb hsz hB_d))))
                    (first | (apply put_some rfl; focus (conv => lhs; dsimp only [List.set_cons_zero, List.set_cons_succ]) <;> rfl) | exact put_none rfl)
                    rintro u4 ⟨hB_n, hg_n⟩
                    have hG2 := grown_trans hG hg_n
                    clear hB_d hG hg_n
                    try clear hc_d
                    have hB_d := hB_n
                    have hG := hG2
                    clear hB_n hG2
                    have Fu4 : Below u4.heap.size u4 u4 := Below.refl _ _
                    repeat (first | with_reducible apply wpList_nil | ((with_reducible apply region_k); intro KK kk) | with_reducible apply wp_region_lit | ((with_reducible apply seq_k); intro KK kk) | ((with_reducible apply seq_q); (focus (first | exact wanted_none rfl | exact wanted_yes rfl rfl rfl)); (focus (simp [go_sem, effAt, ↓IntWalk.iteOmega, *]; (try go_ints); (first | (with_reducible exact effUpon_val) | (with_reducible exact effUpon_skip)))); (focus ((first | (apply put_some rfl; focus (conv => lhs; dsimp only [List.set_cons_zero, List.set_cons_succ]) <;> rfl) | exact put_none rfl)))) | ((with_reducible apply seq_s); (focus (first | exact wanted_no rfl rfl rfl | exact wanted_undef rfl rfl rfl)); (focus ((first | (apply put_some rfl; focus (conv => lhs; dsimp only [List.set_cons_zero, List.set_cons_succ]) <;> rfl) | exact put_none rfl)))) | with_reducible apply wp_block | with_reducible apply wp_skip | with_reducible apply wp_exit | with_reducible apply wp_ret | ((with_reducible apply wp_cond_true); (focus (first | rfl | (simp [go_sem, *]; done)))) | ((with_reducible apply wp_cond_false); (focus (first | rfl | (simp [go_sem, *]; done)))) | (simp only [Exit.then, Exit.inBlock, ↓reduceIte, Nat.reduceEqDiff]) | ((with_reducible apply kf_out); (focus assumption)))
                    have hK := HK.out
                    have hJ := HJ.out
                    refine hK _ _ (Handed.intro (b1 - mid) ?measure (hJ _ _ _ ?_))
                    rotate_left
                    (repeat apply Exists.intro)
                    refine ⟨?rel, rfl⟩
                    case rel => exact ⟨mid, b1, lm, wb, wp, d4, rfl, rfl, rfl, rfl, rfl, r2, hb, Nat.le_refl _, by omega, by omega, r3, r4, hR, hB_d, hG⟩
                    case measure => omega
end Go.Proofs.Ytckjgdlceckhpaa
