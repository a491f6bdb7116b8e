/- The walk of the document's Pick. -/
import Derived.Test.YtminenipklgbcaaP8
set_option linter.unusedSimpArgs false
set_option linter.unusedVariables false
namespace Go.Proofs.Ytminenipklgbcaa
open Go.RowKit Go.Eff
attribute [local irreducible] Go.wpList
/-- f is the first that may, among the first i (-1: none) -/
def firstIn (s : PS) (i : Nat) (f : Int) : Prop := (f = -1 ∧ ∀ e, e < i → ¬ mayP s e) ∨ (∃ F : Nat, f = F ∧ F < 64 ∧ mayP s F ∧ ∀ e, e < F → ¬ mayP s e)
/-- a is the first that may, above the last turn's -/
def aboveIn (s : PS) (i : Nat) (a : Int) : Prop := (a = -1 ∧ ∀ e, e < i → mayP s e → ¬ lastOf s e < e) ∨ (∃ A : Nat, a = A ∧ A < 64 ∧ mayP s A ∧ lastOf s A < A ∧ ∀ e, e < A → mayP s e → ¬ lastOf s e < e)
section
variable {s : PS} {i : Nat} {f a : Int}
theorem first_no (h : firstIn s i f) (hm : ¬ mayP s i) : firstIn s (i + 1) f := by
  rcases h with ⟨h1, h2⟩ | h
  · refine .inl ⟨h1, fun e he => ?_⟩
    by_cases hei : e = i
    · subst hei; exact hm
    · exact h2 e (by omega)
  · exact .inr h
theorem above_no (h : aboveIn s i a) (hm : mayP s i → ¬ lastOf s i < i) : aboveIn s (i + 1) a := by
  rcases h with ⟨h1, h2⟩ | h
  · refine .inl ⟨h1, fun e he => ?_⟩
    by_cases hei : e = i
    · subst hei; exact hm
    · exact h2 e (by omega)
  · exact .inr h
theorem first_new (h : firstIn s i f) (hf : f < 0) (hi : i < 64) (hm : mayP s i) : firstIn s (i + 1) i := by
  rcases h with ⟨h1, h2⟩ | ⟨F, h, _⟩
  · exact .inr ⟨i, rfl, hi, hm, h2⟩
  · omega
theorem first_old (h : firstIn s i f) (hf : ¬ f < 0) : firstIn s (i + 1) f := by
  rcases h with ⟨h1, h2⟩ | h
  · omega
  · exact .inr h
theorem above_new (h : aboveIn s i a) (ha : a < 0) (hi : i < 64) (hm : mayP s i) (hl : lastOf s i < i) : aboveIn s (i + 1) i := by
  rcases h with ⟨h1, h2⟩ | ⟨F, h, _⟩
  · exact .inr ⟨i, rfl, hi, hm, hl, h2⟩
  · omega
theorem above_old (h : aboveIn s i a) (ha : ¬ a < 0) : aboveIn s (i + 1) a := by
  rcases h with ⟨h1, h2⟩ | h
  · omega
  · exact .inr h
theorem first_b (h : firstIn s i f) : -1 ≤ f ∧ f < 64 := by
  rcases h with ⟨h1, h2⟩ | ⟨F, h, h3, _⟩ <;> omega
theorem above_b (h : aboveIn s i a) : -1 ≤ a ∧ a < 64 := by
  rcases h with ⟨h1, h2⟩ | ⟨F, h, h3, _⟩ <;> omega
/-- at the end -/
theorem pick_none (h : firstIn s 64 f) (hf : f < 0) : ∀ d, ¬ mayP s d := by
  rcases h with ⟨h1, h2⟩ | ⟨F, h, _⟩
  · exact fun d hd => h2 d hd.1 hd
  · omega
theorem pick_above (h : firstIn s 64 f) (h' : aboveIn s 64 a) (hf : ¬ f < 0) (ha : 0 ≤ a) : ∃ d : Nat, a = d ∧ isPick s d := by
  rcases h with ⟨h1, h2⟩ | ⟨F, rfl, h3, h4, h5⟩
  · omega
  rcases h' with ⟨h1, h2⟩ | ⟨A, rfl, a3, a4, a5, a6⟩
  · omega
  exact ⟨A, rfl, doc_pick h4 h5 a4 a5 a6⟩
theorem pick_first (h : firstIn s 64 f) (h' : aboveIn s 64 a) (hf : ¬ f < 0) (ha : ¬ 0 ≤ a) : ∃ d : Nat, f = d ∧ isPick s d := by
  rcases h with ⟨h1, h2⟩ | ⟨F, rfl, h3, h4, h5⟩
  · omega
  rcases h' with ⟨h1, h2⟩ | ⟨A, rfl, a3, a4, a5, a6⟩
  · exact ⟨F, rfl, doc_pick0 h4 h5 h2⟩
  · omega
end
section
variable {s : PS} {z : Sh} {B : Nat}
set_option maxRecDepth 100000 in
set_option maxHeartbeats 8000000 in
theorem rpick_any (hs : s.Ok) (hz : z.Ok B) (w : World) (hR : RB w z s) : Calls Try.prog 23 #[.pointer (some ⟨z.h, 0, none⟩)] w (Ret (.tuple #[.int .u8 s.pickD, .bool s.pickO]) fun w' => RB w' z s.pick ∧ Turn (TR z w) w w') := by
  have HT := Lib.hid (fun d => rtake_any (z := z) hs hz d)
  have HM := Lib.hid (fun d => rmay_any (z := z) hs d)
  have HS := Lib.hid hs
  obtain ⟨pd, hpd⟩ : ∃ x, s.pickD = x := ⟨_, rfl⟩
  obtain ⟨po, hpo⟩ : ∃ x, s.pickO = x := ⟨_, rfl⟩
  obtain ⟨ps, hps⟩ : ∃ x, s.pick = x := ⟨_, rfl⟩
  rw [hpd, hpo, hps]
  have HP := Lib.hid (And.intro hpd (And.intro hpo hps))
  have HR := Lib.hid hR
  clear hs hz hpd hpo hps hR
  go_enter Try.func23, Try.ntmps23
  have F0 : Below w.heap.size w w := Below.refl _ _
  repeat (first | with_reducible apply wpList_nil | with_reducible apply seq_region | with_reducible apply wp_region_lit | with_reducible apply wp_seq | ((with_reducible apply seq_q); (focus rfl); (focus (simp [go_sem, effAt, ↓IntWalk.iteOmega, *]; (try go_ints); (first | (with_reducible exact effUpon_val) | (with_reducible exact effUpon_skip)))); (focus ((simp only [Act.put, List.setIfInBounds_toArray, List.set_cons_zero, List.set_cons_succ]; rfl)))) | ((with_reducible apply seq_s); (focus rfl); (focus ((simp only [Act.put, List.setIfInBounds_toArray, List.set_cons_zero, List.set_cons_succ]; rfl)))) | with_reducible apply wp_block | with_reducible apply wp_skip | with_reducible apply wp_exit | with_reducible apply wp_ret | ((with_reducible apply wp_cond_true); (focus (first | rfl | (simp [go_sem, *]; done)))) | ((with_reducible apply wp_cond_false); (focus (first | rfl | (simp [go_sem, *]; done)))) | (simp only [Exit.then, Exit.inBlock, ↓reduceIte, Nat.reduceEqDiff]))
  go_loopg [6, 4, 5] 64 (fun q v6 v4 v5 wr => ∃ (i : Nat) (f a : Int), v6 = .int .i64 (i : Int) ∧ v4 = .int .i64 f ∧ v5 = .int .i64 a ∧ i + q = 64 ∧ firstIn s i f ∧ aboveIn s i a ∧ Below w.heap.size w wr)
  case atStart => exact ⟨0, -1, -1, rfl, rfl, rfl, by omega, .inl ⟨rfl, fun e he => by omega⟩, .inl ⟨rfl, fun e he => by omega⟩, F0⟩
  case round =>
    rename_i J K hJ hK
    clear F0
    obtain ⟨i, f, a, rfl, rfl, rfl, hi, hf, ha, hF⟩ := hrel
    have hR := HR.out.below hF
    have hfb := first_b hf
    have hab := above_b ha
    have HF := Lib.hid hf
    have HA := Lib.hid ha
    clear hf ha
    by_cases hlt : i < 64
    case pos =>
      have hlt' : (i : Int) < 64 := by omega
      have hMx := fun w' (hb : Below wr.heap.size wr w') => HM.out i w' (hR.below hb)
      by_cases hm : mayP s i
      case neg =>
        rw [decide_eq_false hm] at hMx
        skip
        repeat (first | with_reducible apply wpList_nil | with_reducible apply seq_region | with_reducible apply wp_region_lit | with_reducible apply wp_seq | ((with_reducible apply seq_q); (focus rfl); (focus (simp [go_sem, effAt, ↓IntWalk.iteOmega, *]; (try go_ints); (first | (with_reducible exact effUpon_val) | (with_reducible exact effUpon_skip)))); (focus ((simp only [Act.put, List.setIfInBounds_toArray, List.set_cons_zero, List.set_cons_succ]; rfl)))) | ((with_reducible apply seq_s); (focus rfl); (focus ((simp only [Act.put, List.setIfInBounds_toArray, List.set_cons_zero, List.set_cons_succ]; rfl)))) | with_reducible apply wp_block | with_reducible apply wp_skip | with_reducible apply wp_exit | with_reducible apply wp_ret | ((with_reducible apply wp_cond_true); (focus (first | rfl | (simp [go_sem, *]; done)))) | ((with_reducible apply wp_cond_false); (focus (first | rfl | (simp [go_sem, *]; done)))) | (simp only [Exit.then, Exit.inBlock, ↓reduceIte, Nat.reduceEqDiff]))
        ((with_reducible apply seq_e (Below wr.heap.size wr)); (focus rfl); (focus (simp only [effAt]; simp [go_sem]; (with_reducible exact effUpon_enter (hMx _ (Below.refl _ _))))); (focus ((simp only [Act.put, List.setIfInBounds_toArray, List.set_cons_zero, List.set_cons_succ]; rfl))))
        intro w1 hs
        have Fw1 := hF.trans (hs.mono hF.size)
        clear hs hF
        clear hMx
        repeat (first | with_reducible apply wpList_nil | with_reducible apply seq_region | with_reducible apply wp_region_lit | with_reducible apply wp_seq | ((with_reducible apply seq_q); (focus rfl); (focus (simp [go_sem, effAt, ↓IntWalk.iteOmega, *]; (try go_ints); (first | (with_reducible exact effUpon_val) | (with_reducible exact effUpon_skip)))); (focus ((simp only [Act.put, List.setIfInBounds_toArray, List.set_cons_zero, List.set_cons_succ]; rfl)))) | ((with_reducible apply seq_s); (focus rfl); (focus ((simp only [Act.put, List.setIfInBounds_toArray, List.set_cons_zero, List.set_cons_succ]; rfl)))) | with_reducible apply wp_block | with_reducible apply wp_skip | with_reducible apply wp_exit | with_reducible apply wp_ret | ((with_reducible apply wp_cond_true); (focus (first | rfl | (simp [go_sem, *]; done)))) | ((with_reducible apply wp_cond_false); (focus (first | rfl | (simp [go_sem, *]; done)))) | (simp only [Exit.then, Exit.inBlock, ↓reduceIte, Nat.reduceEqDiff]))
        refine hK _ _ (Handed.intro (gk - 1) ?measure (hJ _ _ _ ?_))
        rotate_left
        (repeat apply Exists.intro)
        refine ⟨?rel, rfl⟩
        case rel => exact ⟨i + 1, f, a, by go_num, rfl, rfl, by omega, first_no HF.out hm, above_no HA.out (fun h => absurd h hm), by assumption⟩
        case measure => omega
      case pos =>
        rw [decide_eq_true hm] at hMx
        have e1 := cellsA_get HS.out z.pa hlt
        have hcb := HS.out.clr i hlt
        have e3 := cellsL_get HS.out z.pc (d := (s.c i).toNat) (by omega)
        have hc1 := hcb.1
        have hc2 := hcb.2
        have hll : s.l (s.c i).toNat = lastOf s i := rfl
        rw [hll] at e3
        have hla := HS.out.lar (s.c i).toNat (by omega)
        rw [hll] at hla
        obtain ⟨L, hL⟩ : ∃ L, lastOf s i = L := ⟨_, rfl⟩
        rw [hL] at e3 hla
        have HL := Lib.hid hL
        have HMP := Lib.hid hm
        clear hcb hll hL hm
        obtain ⟨hla1, hla2⟩ := hla
        by_cases hf0 : f < 0
        case pos =>
          by_cases ha0 : a < 0
          case pos =>
            by_cases hl : L < i
            case pos =>
              obtain ⟨hB_h, hB_a, hB_b, hB_c⟩ := hR
              skip
              have hc_h := hB_h.cell
              have hc_a := hB_a.cell
              have hc_c := hB_c.cell
              repeat (first | with_reducible apply wpList_nil | with_reducible apply seq_region | with_reducible apply wp_region_lit | with_reducible apply wp_seq | ((with_reducible apply seq_q); (focus rfl); (focus (simp [go_sem, effAt, ↓IntWalk.iteOmega, *]; (try go_ints); (first | (with_reducible exact effUpon_val) | (with_reducible exact effUpon_skip)))); (focus ((simp only [Act.put, List.setIfInBounds_toArray, List.set_cons_zero, List.set_cons_succ]; rfl)))) | ((with_reducible apply seq_s); (focus rfl); (focus ((simp only [Act.put, List.setIfInBounds_toArray, List.set_cons_zero, List.set_cons_succ]; rfl)))) | with_reducible apply wp_block | with_reducible apply wp_skip | with_reducible apply wp_exit | with_reducible apply wp_ret | ((with_reducible apply wp_cond_true); (focus (first | rfl | (simp [go_sem, *]; done)))) | ((with_reducible apply wp_cond_false); (focus (first | rfl | (simp [go_sem, *]; done)))) | (simp only [Exit.then, Exit.inBlock, ↓reduceIte, Nat.reduceEqDiff]))
              ((with_reducible apply seq_e (Below wr.heap.size wr)); (focus rfl); (focus (simp only [effAt]; simp [go_sem]; (with_reducible exact effUpon_enter (hMx _ (Below.refl _ _))))); (focus ((simp only [Act.put, List.setIfInBounds_toArray, List.set_cons_zero, List.set_cons_succ]; rfl))))
              intro w2 hs
              have Fw2 := hF.trans (hs.mono hF.size)
              replace hB_h := hB_h.below hs hB_h.lt
              replace hB_a := hB_a.below hs hB_a.lt
              replace hB_c := hB_c.below hs hB_c.lt
              clear hs hF
              clear hc_h; have hc_h := hB_h.cell
              clear hc_a; have hc_a := hB_a.cell
              clear hc_c; have hc_c := hB_c.cell
              clear hMx
              repeat (first | with_reducible apply wpList_nil | with_reducible apply seq_region | with_reducible apply wp_region_lit | with_reducible apply wp_seq | ((with_reducible apply seq_q); (focus rfl); (focus (simp [go_sem, effAt, ↓IntWalk.iteOmega, *]; (try go_ints); (first | (with_reducible exact effUpon_val) | (with_reducible exact effUpon_skip)))); (focus ((simp only [Act.put, List.setIfInBounds_toArray, List.set_cons_zero, List.set_cons_succ]; rfl)))) | ((with_reducible apply seq_s); (focus rfl); (focus ((simp only [Act.put, List.setIfInBounds_toArray, List.set_cons_zero, List.set_cons_succ]; rfl)))) | with_reducible apply wp_block | with_reducible apply wp_skip | with_reducible apply wp_exit | with_reducible apply wp_ret | ((with_reducible apply wp_cond_true); (focus (first | rfl | (simp [go_sem, *]; done)))) | ((with_reducible apply wp_cond_false); (focus (first | rfl | (simp [go_sem, *]; done)))) | (simp only [Exit.then, Exit.inBlock, ↓reduceIte, Nat.reduceEqDiff]))
              refine wp_region_pure (E := fun i => [].contains i) (by kernel_rfl) (by kernel_rfl) ?_
              repeat (first | ((with_reducible apply lex_q); (focus rfl); (focus rfl); (focus (intro w' hS; have hc_h := (hB_h.below hS hB_h.lt).cell; have hc_a := (hB_a.below hS hB_a.lt).cell; have hc_c := (hB_c.below hS hB_c.lt).cell; simp [go_sem, effAt, ↓IntWalk.iteOmega, *]; (try go_ints); (first | (with_reducible exact effUpon_val) | (with_reducible exact effUpon_skip)))); (focus ((simp only [Act.put, List.setIfInBounds_toArray, List.set_cons_zero, List.set_cons_succ]; rfl)))) | ((with_reducible apply lex_s); (focus rfl); (focus ((simp only [Act.put, List.setIfInBounds_toArray, List.set_cons_zero, List.set_cons_succ]; rfl)))))
              with_reducible apply lex_nil
              intro w3 hs
              have Fw3 := Fw2.trans (hs.mono Fw2.size)
              replace hB_h := hB_h.below hs hB_h.lt
              replace hB_a := hB_a.below hs hB_a.lt
              replace hB_c := hB_c.below hs hB_c.lt
              clear hs Fw2
              clear hc_h; have hc_h := hB_h.cell
              clear hc_a; have hc_a := hB_a.cell
              clear hc_c; have hc_c := hB_c.cell
              repeat (first | with_reducible apply wpList_nil | with_reducible apply seq_region | with_reducible apply wp_region_lit | with_reducible apply wp_seq | ((with_reducible apply seq_q); (focus rfl); (focus (simp [go_sem, effAt, ↓IntWalk.iteOmega, *]; (try go_ints); (first | (with_reducible exact effUpon_val) | (with_reducible exact effUpon_skip)))); (focus ((simp only [Act.put, List.setIfInBounds_toArray, List.set_cons_zero, List.set_cons_succ]; rfl)))) | ((with_reducible apply seq_s); (focus rfl); (focus ((simp only [Act.put, List.setIfInBounds_toArray, List.set_cons_zero, List.set_cons_succ]; rfl)))) | with_reducible apply wp_block | with_reducible apply wp_skip | with_reducible apply wp_exit | with_reducible apply wp_ret | ((with_reducible apply wp_cond_true); (focus (first | rfl | (simp [go_sem, *]; done)))) | ((with_reducible apply wp_cond_false); (focus (first | rfl | (simp [go_sem, *]; done)))) | (simp only [Exit.then, Exit.inBlock, ↓reduceIte, Nat.reduceEqDiff]))
              refine hK _ _ (Handed.intro (gk - 1) ?measure (hJ _ _ _ ?_))
              rotate_left
              (repeat apply Exists.intro)
              refine ⟨?rel, rfl⟩
              case rel => exact ⟨i + 1, i, i, by go_num, rfl, rfl, by omega, first_new HF.out hf0 hlt HMP.out, above_new HA.out ha0 hlt HMP.out (by rw [HL.out]; exact hl), by assumption⟩
              case measure => omega
            case neg =>
              obtain ⟨hB_h, hB_a, hB_b, hB_c⟩ := hR
              skip
              have hc_h := hB_h.cell
              have hc_a := hB_a.cell
              have hc_c := hB_c.cell
              repeat (first | with_reducible apply wpList_nil | with_reducible apply seq_region | with_reducible apply wp_region_lit | with_reducible apply wp_seq | ((with_reducible apply seq_q); (focus rfl); (focus (simp [go_sem, effAt, ↓IntWalk.iteOmega, *]; (try go_ints); (first | (with_reducible exact effUpon_val) | (with_reducible exact effUpon_skip)))); (focus ((simp only [Act.put, List.setIfInBounds_toArray, List.set_cons_zero, List.set_cons_succ]; rfl)))) | ((with_reducible apply seq_s); (focus rfl); (focus ((simp only [Act.put, List.setIfInBounds_toArray, List.set_cons_zero, List.set_cons_succ]; rfl)))) | with_reducible apply wp_block | with_reducible apply wp_skip | with_reducible apply wp_exit | with_reducible apply wp_ret | ((with_reducible apply wp_cond_true); (focus (first | rfl | (simp [go_sem, *]; done)))) | ((with_reducible apply wp_cond_false); (focus (first | rfl | (simp [go_sem, *]; done)))) | (simp only [Exit.then, Exit.inBlock, ↓reduceIte, Nat.reduceEqDiff]))
              ((with_reducible apply seq_e (Below wr.heap.size wr)); (focus rfl); (focus (simp only [effAt]; simp [go_sem]; (with_reducible exact effUpon_enter (hMx _ (Below.refl _ _))))); (focus ((simp only [Act.put, List.setIfInBounds_toArray, List.set_cons_zero, List.set_cons_succ]; rfl))))
              intro w4 hs
              have Fw4 := hF.trans (hs.mono hF.size)
              replace hB_h := hB_h.below hs hB_h.lt
              replace hB_a := hB_a.below hs hB_a.lt
              replace hB_c := hB_c.below hs hB_c.lt
              clear hs hF
              clear hc_h; have hc_h := hB_h.cell
              clear hc_a; have hc_a := hB_a.cell
              clear hc_c; have hc_c := hB_c.cell
              clear hMx
              repeat (first | with_reducible apply wpList_nil | with_reducible apply seq_region | with_reducible apply wp_region_lit | with_reducible apply wp_seq | ((with_reducible apply seq_q); (focus rfl); (focus (simp [go_sem, effAt, ↓IntWalk.iteOmega, *]; (try go_ints); (first | (with_reducible exact effUpon_val) | (with_reducible exact effUpon_skip)))); (focus ((simp only [Act.put, List.setIfInBounds_toArray, List.set_cons_zero, List.set_cons_succ]; rfl)))) | ((with_reducible apply seq_s); (focus rfl); (focus ((simp only [Act.put, List.setIfInBounds_toArray, List.set_cons_zero, List.set_cons_succ]; rfl)))) | with_reducible apply wp_block | with_reducible apply wp_skip | with_reducible apply wp_exit | with_reducible apply wp_ret | ((with_reducible apply wp_cond_true); (focus (first | rfl | (simp [go_sem, *]; done)))) | ((with_reducible apply wp_cond_false); (focus (first | rfl | (simp [go_sem, *]; done)))) | (simp only [Exit.then, Exit.inBlock, ↓reduceIte, Nat.reduceEqDiff]))
              refine wp_region_pure (E := fun i => [].contains i) (by kernel_rfl) (by kernel_rfl) ?_
              repeat (first | ((with_reducible apply lex_q); (focus rfl); (focus rfl); (focus (intro w' hS; have hc_h := (hB_h.below hS hB_h.lt).cell; have hc_a := (hB_a.below hS hB_a.lt).cell; have hc_c := (hB_c.below hS hB_c.lt).cell; simp [go_sem, effAt, ↓IntWalk.iteOmega, *]; (try go_ints); (first | (with_reducible exact effUpon_val) | (with_reducible exact effUpon_skip)))); (focus ((simp only [Act.put, List.setIfInBounds_toArray, List.set_cons_zero, List.set_cons_succ]; rfl)))) | ((with_reducible apply lex_s); (focus rfl); (focus ((simp only [Act.put, List.setIfInBounds_toArray, List.set_cons_zero, List.set_cons_succ]; rfl)))))
              with_reducible apply lex_nil
              intro w5 hs
              have Fw5 := Fw4.trans (hs.mono Fw4.size)
              replace hB_h := hB_h.below hs hB_h.lt
              replace hB_a := hB_a.below hs hB_a.lt
              replace hB_c := hB_c.below hs hB_c.lt
              clear hs Fw4
              clear hc_h; have hc_h := hB_h.cell
              clear hc_a; have hc_a := hB_a.cell
              clear hc_c; have hc_c := hB_c.cell
              repeat (first | with_reducible apply wpList_nil | with_reducible apply seq_region | with_reducible apply wp_region_lit | with_reducible apply wp_seq | ((with_reducible apply seq_q); (focus rfl); (focus (simp [go_sem, effAt, ↓IntWalk.iteOmega, *]; (try go_ints); (first | (with_reducible exact effUpon_val) | (with_reducible exact effUpon_skip)))); (focus ((simp only [Act.put, List.setIfInBounds_toArray, List.set_cons_zero, List.set_cons_succ]; rfl)))) | ((with_reducible apply seq_s); (focus rfl); (focus ((simp only [Act.put, List.setIfInBounds_toArray, List.set_cons_zero, List.set_cons_succ]; rfl)))) | with_reducible apply wp_block | with_reducible apply wp_skip | with_reducible apply wp_exit | with_reducible apply wp_ret | ((with_reducible apply wp_cond_true); (focus (first | rfl | (simp [go_sem, *]; done)))) | ((with_reducible apply wp_cond_false); (focus (first | rfl | (simp [go_sem, *]; done)))) | (simp only [Exit.then, Exit.inBlock, ↓reduceIte, Nat.reduceEqDiff]))
              refine hK _ _ (Handed.intro (gk - 1) ?measure (hJ _ _ _ ?_))
              rotate_left
              (repeat apply Exists.intro)
              refine ⟨?rel, rfl⟩
              case rel => exact ⟨i + 1, i, a, by go_num, rfl, rfl, by omega, first_new HF.out hf0 hlt HMP.out, above_no HA.out (fun _ => by rw [HL.out]; exact hl), by assumption⟩
              case measure => omega
          case neg =>
            obtain ⟨hB_h, hB_a, hB_b, hB_c⟩ := hR
            skip
            have hc_h := hB_h.cell
            have hc_a := hB_a.cell
            have hc_c := hB_c.cell
            repeat (first | with_reducible apply wpList_nil | with_reducible apply seq_region | with_reducible apply wp_region_lit | with_reducible apply wp_seq | ((with_reducible apply seq_q); (focus rfl); (focus (simp [go_sem, effAt, ↓IntWalk.iteOmega, *]; (try go_ints); (first | (with_reducible exact effUpon_val) | (with_reducible exact effUpon_skip)))); (focus ((simp only [Act.put, List.setIfInBounds_toArray, List.set_cons_zero, List.set_cons_succ]; rfl)))) | ((with_reducible apply seq_s); (focus rfl); (focus ((simp only [Act.put, List.setIfInBounds_toArray, List.set_cons_zero, List.set_cons_succ]; rfl)))) | with_reducible apply wp_block | with_reducible apply wp_skip | with_reducible apply wp_exit | with_reducible apply wp_ret | ((with_reducible apply wp_cond_true); (focus (first | rfl | (simp [go_sem, *]; done)))) | ((with_reducible apply wp_cond_false); (focus (first | rfl | (simp [go_sem, *]; done)))) | (simp only [Exit.then, Exit.inBlock, ↓reduceIte, Nat.reduceEqDiff]))
            ((with_reducible apply seq_e (Below wr.heap.size wr)); (focus rfl); (focus (simp only [effAt]; simp [go_sem]; (with_reducible exact effUpon_enter (hMx _ (Below.refl _ _))))); (focus ((simp only [Act.put, List.setIfInBounds_toArray, List.set_cons_zero, List.set_cons_succ]; rfl))))
            intro w6 hs
            have Fw6 := hF.trans (hs.mono hF.size)
            replace hB_h := hB_h.below hs hB_h.lt
            replace hB_a := hB_a.below hs hB_a.lt
            replace hB_c := hB_c.below hs hB_c.lt
            clear hs hF
            clear hc_h; have hc_h := hB_h.cell
            clear hc_a; have hc_a := hB_a.cell
            clear hc_c; have hc_c := hB_c.cell
            clear hMx
            repeat (first | with_reducible apply wpList_nil | with_reducible apply seq_region | with_reducible apply wp_region_lit | with_reducible apply wp_seq | ((with_reducible apply seq_q); (focus rfl); (focus (simp [go_sem, effAt, ↓IntWalk.iteOmega, *]; (try go_ints); (first | (with_reducible exact effUpon_val) | (with_reducible exact effUpon_skip)))); (focus ((simp only [Act.put, List.setIfInBounds_toArray, List.set_cons_zero, List.set_cons_succ]; rfl)))) | ((with_reducible apply seq_s); (focus rfl); (focus ((simp only [Act.put, List.setIfInBounds_toArray, List.set_cons_zero, List.set_cons_succ]; rfl)))) | with_reducible apply wp_block | with_reducible apply wp_skip | with_reducible apply wp_exit | with_reducible apply wp_ret | ((with_reducible apply wp_cond_true); (focus (first | rfl | (simp [go_sem, *]; done)))) | ((with_reducible apply wp_cond_false); (focus (first | rfl | (simp [go_sem, *]; done)))) | (simp only [Exit.then, Exit.inBlock, ↓reduceIte, Nat.reduceEqDiff]))
            refine wp_region_pure (E := fun i => [].contains i) (by kernel_rfl) (by kernel_rfl) ?_
            repeat (first | ((with_reducible apply lex_q); (focus rfl); (focus rfl); (focus (intro w' hS; have hc_h := (hB_h.below hS hB_h.lt).cell; have hc_a := (hB_a.below hS hB_a.lt).cell; have hc_c := (hB_c.below hS hB_c.lt).cell; simp [go_sem, effAt, ↓IntWalk.iteOmega, *]; (try go_ints); (first | (with_reducible exact effUpon_val) | (with_reducible exact effUpon_skip)))); (focus ((simp only [Act.put, List.setIfInBounds_toArray, List.set_cons_zero, List.set_cons_succ]; rfl)))) | ((with_reducible apply lex_s); (focus rfl); (focus ((simp only [Act.put, List.setIfInBounds_toArray, List.set_cons_zero, List.set_cons_succ]; rfl)))))
            with_reducible apply lex_nil
            intro w7 hs
            have Fw7 := Fw6.trans (hs.mono Fw6.size)
            replace hB_h := hB_h.below hs hB_h.lt
            replace hB_a := hB_a.below hs hB_a.lt
            replace hB_c := hB_c.below hs hB_c.lt
            clear hs Fw6
            clear hc_h; have hc_h := hB_h.cell
            clear hc_a; have hc_a := hB_a.cell
            clear hc_c; have hc_c := hB_c.cell
            repeat (first | with_reducible apply wpList_nil | with_reducible apply seq_region | with_reducible apply wp_region_lit | with_reducible apply wp_seq | ((with_reducible apply seq_q); (focus rfl); (focus (simp [go_sem, effAt, ↓IntWalk.iteOmega, *]; (try go_ints); (first | (with_reducible exact effUpon_val) | (with_reducible exact effUpon_skip)))); (focus ((simp only [Act.put, List.setIfInBounds_toArray, List.set_cons_zero, List.set_cons_succ]; rfl)))) | ((with_reducible apply seq_s); (focus rfl); (focus ((simp only [Act.put, List.setIfInBounds_toArray, List.set_cons_zero, List.set_cons_succ]; rfl)))) | with_reducible apply wp_block | with_reducible apply wp_skip | with_reducible apply wp_exit | with_reducible apply wp_ret | ((with_reducible apply wp_cond_true); (focus (first | rfl | (simp [go_sem, *]; done)))) | ((with_reducible apply wp_cond_false); (focus (first | rfl | (simp [go_sem, *]; done)))) | (simp only [Exit.then, Exit.inBlock, ↓reduceIte, Nat.reduceEqDiff]))
            refine hK _ _ (Handed.intro (gk - 1) ?measure (hJ _ _ _ ?_))
            rotate_left
            (repeat apply Exists.intro)
            refine ⟨?rel, rfl⟩
            case rel => exact ⟨i + 1, i, a, by go_num, rfl, rfl, by omega, first_new HF.out hf0 hlt HMP.out, above_old HA.out ha0, by assumption⟩
            case measure => omega
        case neg =>
          by_cases ha0 : a < 0
          case pos =>
            by_cases hl : L < i
            case pos =>
              obtain ⟨hB_h, hB_a, hB_b, hB_c⟩ := hR
              skip
              have hc_h := hB_h.cell
              have hc_a := hB_a.cell
              have hc_c := hB_c.cell
              repeat (first | with_reducible apply wpList_nil | with_reducible apply seq_region | with_reducible apply wp_region_lit | with_reducible apply wp_seq | ((with_reducible apply seq_q); (focus rfl); (focus (simp [go_sem, effAt, ↓IntWalk.iteOmega, *]; (try go_ints); (first | (with_reducible exact effUpon_val) | (with_reducible exact effUpon_skip)))); (focus ((simp only [Act.put, List.setIfInBounds_toArray, List.set_cons_zero, List.set_cons_succ]; rfl)))) | ((with_reducible apply seq_s); (focus rfl); (focus ((simp only [Act.put, List.setIfInBounds_toArray, List.set_cons_zero, List.set_cons_succ]; rfl)))) | with_reducible apply wp_block | with_reducible apply wp_skip | with_reducible apply wp_exit | with_reducible apply wp_ret | ((with_reducible apply wp_cond_true); (focus (first | rfl | (simp [go_sem, *]; done)))) | ((with_reducible apply wp_cond_false); (focus (first | rfl | (simp [go_sem, *]; done)))) | (simp only [Exit.then, Exit.inBlock, ↓reduceIte, Nat.reduceEqDiff]))
              ((with_reducible apply seq_e (Below wr.heap.size wr)); (focus rfl); (focus (simp only [effAt]; simp [go_sem]; (with_reducible exact effUpon_enter (hMx _ (Below.refl _ _))))); (focus ((simp only [Act.put, List.setIfInBounds_toArray, List.set_cons_zero, List.set_cons_succ]; rfl))))
              intro w8 hs
              have Fw8 := hF.trans (hs.mono hF.size)
              replace hB_h := hB_h.below hs hB_h.lt
              replace hB_a := hB_a.below hs hB_a.lt
              replace hB_c := hB_c.below hs hB_c.lt
              clear hs hF
              clear hc_h; have hc_h := hB_h.cell
              clear hc_a; have hc_a := hB_a.cell
              clear hc_c; have hc_c := hB_c.cell
              clear hMx
              repeat (first | with_reducible apply wpList_nil | with_reducible apply seq_region | with_reducible apply wp_region_lit | with_reducible apply wp_seq | ((with_reducible apply seq_q); (focus rfl); (focus (simp [go_sem, effAt, ↓IntWalk.iteOmega, *]; (try go_ints); (first | (with_reducible exact effUpon_val) | (with_reducible exact effUpon_skip)))); (focus ((simp only [Act.put, List.setIfInBounds_toArray, List.set_cons_zero, List.set_cons_succ]; rfl)))) | ((with_reducible apply seq_s); (focus rfl); (focus ((simp only [Act.put, List.setIfInBounds_toArray, List.set_cons_zero, List.set_cons_succ]; rfl)))) | with_reducible apply wp_block | with_reducible apply wp_skip | with_reducible apply wp_exit | with_reducible apply wp_ret | ((with_reducible apply wp_cond_true); (focus (first | rfl | (simp [go_sem, *]; done)))) | ((with_reducible apply wp_cond_false); (focus (first | rfl | (simp [go_sem, *]; done)))) | (simp only [Exit.then, Exit.inBlock, ↓reduceIte, Nat.reduceEqDiff]))
              refine wp_region_pure (E := fun i => [].contains i) (by kernel_rfl) (by kernel_rfl) ?_
              repeat (first | ((with_reducible apply lex_q); (focus rfl); (focus rfl); (focus (intro w' hS; have hc_h := (hB_h.below hS hB_h.lt).cell; have hc_a := (hB_a.below hS hB_a.lt).cell; have hc_c := (hB_c.below hS hB_c.lt).cell; simp [go_sem, effAt, ↓IntWalk.iteOmega, *]; (try go_ints); (first | (with_reducible exact effUpon_val) | (with_reducible exact effUpon_skip)))); (focus ((simp only [Act.put, List.setIfInBounds_toArray, List.set_cons_zero, List.set_cons_succ]; rfl)))) | ((with_reducible apply lex_s); (focus rfl); (focus ((simp only [Act.put, List.setIfInBounds_toArray, List.set_cons_zero, List.set_cons_succ]; rfl)))))
              with_reducible apply lex_nil
              intro w9 hs
              have Fw9 := Fw8.trans (hs.mono Fw8.size)
              replace hB_h := hB_h.below hs hB_h.lt
              replace hB_a := hB_a.below hs hB_a.lt
              replace hB_c := hB_c.below hs hB_c.lt
              clear hs Fw8
              clear hc_h; have hc_h := hB_h.cell
              clear hc_a; have hc_a := hB_a.cell
              clear hc_c; have hc_c := hB_c.cell
              repeat (first | with_reducible apply wpList_nil | with_reducible apply seq_region | with_reducible apply wp_region_lit | with_reducible apply wp_seq | ((with_reducible apply seq_q); (focus rfl); (focus (simp [go_sem, effAt, ↓IntWalk.iteOmega, *]; (try go_ints); (first | (with_reducible exact effUpon_val) | (with_reducible exact effUpon_skip)))); (focus ((simp only [Act.put, List.setIfInBounds_toArray, List.set_cons_zero, List.set_cons_succ]; rfl)))) | ((with_reducible apply seq_s); (focus rfl); (focus ((simp only [Act.put, List.setIfInBounds_toArray, List.set_cons_zero, List.set_cons_succ]; rfl)))) | with_reducible apply wp_block | with_reducible apply wp_skip | with_reducible apply wp_exit | with_reducible apply wp_ret | ((with_reducible apply wp_cond_true); (focus (first | rfl | (simp [go_sem, *]; done)))) | ((with_reducible apply wp_cond_false); (focus (first | rfl | (simp [go_sem, *]; done)))) | (simp only [Exit.then, Exit.inBlock, ↓reduceIte, Nat.reduceEqDiff]))
              refine hK _ _ (Handed.intro (gk - 1) ?measure (hJ _ _ _ ?_))
              rotate_left
              (repeat apply Exists.intro)
              refine ⟨?rel, rfl⟩
              case rel => exact ⟨i + 1, f, i, by go_num, rfl, rfl, by omega, first_old HF.out hf0, above_new HA.out ha0 hlt HMP.out (by rw [HL.out]; exact hl), by assumption⟩
              case measure => omega
            case neg =>
              obtain ⟨hB_h, hB_a, hB_b, hB_c⟩ := hR
              skip
              have hc_h := hB_h.cell
              have hc_a := hB_a.cell
              have hc_c := hB_c.cell
              repeat (first | with_reducible apply wpList_nil | with_reducible apply seq_region | with_reducible apply wp_region_lit | with_reducible apply wp_seq | ((with_reducible apply seq_q); (focus rfl); (focus (simp [go_sem, effAt, ↓IntWalk.iteOmega, *]; (try go_ints); (first | (with_reducible exact effUpon_val) | (with_reducible exact effUpon_skip)))); (focus ((simp only [Act.put, List.setIfInBounds_toArray, List.set_cons_zero, List.set_cons_succ]; rfl)))) | ((with_reducible apply seq_s); (focus rfl); (focus ((simp only [Act.put, List.setIfInBounds_toArray, List.set_cons_zero, List.set_cons_succ]; rfl)))) | with_reducible apply wp_block | with_reducible apply wp_skip | with_reducible apply wp_exit | with_reducible apply wp_ret | ((with_reducible apply wp_cond_true); (focus (first | rfl | (simp [go_sem, *]; done)))) | ((with_reducible apply wp_cond_false); (focus (first | rfl | (simp [go_sem, *]; done)))) | (simp only [Exit.then, Exit.inBlock, ↓reduceIte, Nat.reduceEqDiff]))
              ((with_reducible apply seq_e (Below wr.heap.size wr)); (focus rfl); (focus (simp only [effAt]; simp [go_sem]; (with_reducible exact effUpon_enter (hMx _ (Below.refl _ _))))); (focus ((simp only [Act.put, List.setIfInBounds_toArray, List.set_cons_zero, List.set_cons_succ]; rfl))))
              intro w10 hs
              have Fw10 := hF.trans (hs.mono hF.size)
              replace hB_h := hB_h.below hs hB_h.lt
              replace hB_a := hB_a.below hs hB_a.lt
              replace hB_c := hB_c.below hs hB_c.lt
              clear hs hF
              clear hc_h; have hc_h := hB_h.cell
              clear hc_a; have hc_a := hB_a.cell
              clear hc_c; have hc_c := hB_c.cell
              clear hMx
              repeat (first | with_reducible apply wpList_nil | with_reducible apply seq_region | with_reducible apply wp_region_lit | with_reducible apply wp_seq | ((with_reducible apply seq_q); (focus rfl); (focus (simp [go_sem, effAt, ↓IntWalk.iteOmega, *]; (try go_ints); (first | (with_reducible exact effUpon_val) | (with_reducible exact effUpon_skip)))); (focus ((simp only [Act.put, List.setIfInBounds_toArray, List.set_cons_zero, List.set_cons_succ]; rfl)))) | ((with_reducible apply seq_s); (focus rfl); (focus ((simp only [Act.put, List.setIfInBounds_toArray, List.set_cons_zero, List.set_cons_succ]; rfl)))) | with_reducible apply wp_block | with_reducible apply wp_skip | with_reducible apply wp_exit | with_reducible apply wp_ret | ((with_reducible apply wp_cond_true); (focus (first | rfl | (simp [go_sem, *]; done)))) | ((with_reducible apply wp_cond_false); (focus (first | rfl | (simp [go_sem, *]; done)))) | (simp only [Exit.then, Exit.inBlock, ↓reduceIte, Nat.reduceEqDiff]))
              refine wp_region_pure (E := fun i => [].contains i) (by kernel_rfl) (by kernel_rfl) ?_
              repeat (first | ((with_reducible apply lex_q); (focus rfl); (focus rfl); (focus (intro w' hS; have hc_h := (hB_h.below hS hB_h.lt).cell; have hc_a := (hB_a.below hS hB_a.lt).cell; have hc_c := (hB_c.below hS hB_c.lt).cell; simp [go_sem, effAt, ↓IntWalk.iteOmega, *]; (try go_ints); (first | (with_reducible exact effUpon_val) | (with_reducible exact effUpon_skip)))); (focus ((simp only [Act.put, List.setIfInBounds_toArray, List.set_cons_zero, List.set_cons_succ]; rfl)))) | ((with_reducible apply lex_s); (focus rfl); (focus ((simp only [Act.put, List.setIfInBounds_toArray, List.set_cons_zero, List.set_cons_succ]; rfl)))))
              with_reducible apply lex_nil
              intro w11 hs
              have Fw11 := Fw10.trans (hs.mono Fw10.size)
              replace hB_h := hB_h.below hs hB_h.lt
              replace hB_a := hB_a.below hs hB_a.lt
              replace hB_c := hB_c.below hs hB_c.lt
              clear hs Fw10
              clear hc_h; have hc_h := hB_h.cell
              clear hc_a; have hc_a := hB_a.cell
              clear hc_c; have hc_c := hB_c.cell
              repeat (first | with_reducible apply wpList_nil | with_reducible apply seq_region | with_reducible apply wp_region_lit | with_reducible apply wp_seq | ((with_reducible apply seq_q); (focus rfl); (focus (simp [go_sem, effAt, ↓IntWalk.iteOmega, *]; (try go_ints); (first | (with_reducible exact effUpon_val) | (with_reducible exact effUpon_skip)))); (focus ((simp only [Act.put, List.setIfInBounds_toArray, List.set_cons_zero, List.set_cons_succ]; rfl)))) | ((with_reducible apply seq_s); (focus rfl); (focus ((simp only [Act.put, List.setIfInBounds_toArray, List.set_cons_zero, List.set_cons_succ]; rfl)))) | with_reducible apply wp_block | with_reducible apply wp_skip | with_reducible apply wp_exit | with_reducible apply wp_ret | ((with_reducible apply wp_cond_true); (focus (first | rfl | (simp [go_sem, *]; done)))) | ((with_reducible apply wp_cond_false); (focus (first | rfl | (simp [go_sem, *]; done)))) | (simp only [Exit.then, Exit.inBlock, ↓reduceIte, Nat.reduceEqDiff]))
              refine hK _ _ (Handed.intro (gk - 1) ?measure (hJ _ _ _ ?_))
              rotate_left
              (repeat apply Exists.intro)
              refine ⟨?rel, rfl⟩
              case rel => exact ⟨i + 1, f, a, by go_num, rfl, rfl, by omega, first_old HF.out hf0, above_no HA.out (fun _ => by rw [HL.out]; exact hl), by assumption⟩
              case measure => omega
          case neg =>
            obtain ⟨hB_h, hB_a, hB_b, hB_c⟩ := hR
            skip
            have hc_h := hB_h.cell
            have hc_a := hB_a.cell
            have hc_c := hB_c.cell
            repeat (first | with_reducible apply wpList_nil | with_reducible apply seq_region | with_reducible apply wp_region_lit | with_reducible apply wp_seq | ((with_reducible apply seq_q); (focus rfl); (focus (simp [go_sem, effAt, ↓IntWalk.iteOmega, *]; (try go_ints); (first | (with_reducible exact effUpon_val) | (with_reducible exact effUpon_skip)))); (focus ((simp only [Act.put, List.setIfInBounds_toArray, List.set_cons_zero, List.set_cons_succ]; rfl)))) | ((with_reducible apply seq_s); (focus rfl); (focus ((simp only [Act.put, List.setIfInBounds_toArray, List.set_cons_zero, List.set_cons_succ]; rfl)))) | with_reducible apply wp_block | with_reducible apply wp_skip | with_reducible apply wp_exit | with_reducible apply wp_ret | ((with_reducible apply wp_cond_true); (focus (first | rfl | (simp [go_sem, *]; done)))) | ((with_reducible apply wp_cond_false); (focus (first | rfl | (simp [go_sem, *]; done)))) | (simp only [Exit.then, Exit.inBlock, ↓reduceIte, Nat.reduceEqDiff]))
            ((with_reducible apply seq_e (Below wr.heap.size wr)); (focus rfl); (focus (simp only [effAt]; simp [go_sem]; (with_reducible exact effUpon_enter (hMx _ (Below.refl _ _))))); (focus ((simp only [Act.put, List.setIfInBounds_toArray, List.set_cons_zero, List.set_cons_succ]; rfl))))
            intro w12 hs
            have Fw12 := hF.trans (hs.mono hF.size)
            replace hB_h := hB_h.below hs hB_h.lt
            replace hB_a := hB_a.below hs hB_a.lt
            replace hB_c := hB_c.below hs hB_c.lt
            clear hs hF
            clear hc_h; have hc_h := hB_h.cell
            clear hc_a; have hc_a := hB_a.cell
            clear hc_c; have hc_c := hB_c.cell
            clear hMx
            repeat (first | with_reducible apply wpList_nil | with_reducible apply seq_region | with_reducible apply wp_region_lit | with_reducible apply wp_seq | ((with_reducible apply seq_q); (focus rfl); (focus (simp [go_sem, effAt, ↓IntWalk.iteOmega, *]; (try go_ints); (first | (with_reducible exact effUpon_val) | (with_reducible exact effUpon_skip)))); (focus ((simp only [Act.put, List.setIfInBounds_toArray, List.set_cons_zero, List.set_cons_succ]; rfl)))) | ((with_reducible apply seq_s); (focus rfl); (focus ((simp only [Act.put, List.setIfInBounds_toArray, List.set_cons_zero, List.set_cons_succ]; rfl)))) | with_reducible apply wp_block | with_reducible apply wp_skip | with_reducible apply wp_exit | with_reducible apply wp_ret | ((with_reducible apply wp_cond_true); (focus (first | rfl | (simp [go_sem, *]; done)))) | ((with_reducible apply wp_cond_false); (focus (first | rfl | (simp [go_sem, *]; done)))) | (simp only [Exit.then, Exit.inBlock, ↓reduceIte, Nat.reduceEqDiff]))
            refine wp_region_pure (E := fun i => [].contains i) (by kernel_rfl) (by kernel_rfl) ?_
            repeat (first | ((with_reducible apply lex_q); (focus rfl); (focus rfl); (focus (intro w' hS; have hc_h := (hB_h.below hS hB_h.lt).cell; have hc_a := (hB_a.below hS hB_a.lt).cell; have hc_c := (hB_c.below hS hB_c.lt).cell; simp [go_sem, effAt, ↓IntWalk.iteOmega, *]; (try go_ints); (first | (with_reducible exact effUpon_val) | (with_reducible exact effUpon_skip)))); (focus ((simp only [Act.put, List.setIfInBounds_toArray, List.set_cons_zero, List.set_cons_succ]; rfl)))) | ((with_reducible apply lex_s); (focus rfl); (focus ((simp only [Act.put, List.setIfInBounds_toArray, List.set_cons_zero, List.set_cons_succ]; rfl)))))
            with_reducible apply lex_nil
            intro w13 hs
            have Fw13 := Fw12.trans (hs.mono Fw12.size)
            replace hB_h := hB_h.below hs hB_h.lt
            replace hB_a := hB_a.below hs hB_a.lt
            replace hB_c := hB_c.below hs hB_c.lt
            clear hs Fw12
            clear hc_h; have hc_h := hB_h.cell
            clear hc_a; have hc_a := hB_a.cell
            clear hc_c; have hc_c := hB_c.cell
            repeat (first | with_reducible apply wpList_nil | with_reducible apply seq_region | with_reducible apply wp_region_lit | with_reducible apply wp_seq | ((with_reducible apply seq_q); (focus rfl); (focus (simp [go_sem, effAt, ↓IntWalk.iteOmega, *]; (try go_ints); (first | (with_reducible exact effUpon_val) | (with_reducible exact effUpon_skip)))); (focus ((simp only [Act.put, List.setIfInBounds_toArray, List.set_cons_zero, List.set_cons_succ]; rfl)))) | ((with_reducible apply seq_s); (focus rfl); (focus ((simp only [Act.put, List.setIfInBounds_toArray, List.set_cons_zero, List.set_cons_succ]; rfl)))) | with_reducible apply wp_block | with_reducible apply wp_skip | with_reducible apply wp_exit | with_reducible apply wp_ret | ((with_reducible apply wp_cond_true); (focus (first | rfl | (simp [go_sem, *]; done)))) | ((with_reducible apply wp_cond_false); (focus (first | rfl | (simp [go_sem, *]; done)))) | (simp only [Exit.then, Exit.inBlock, ↓reduceIte, Nat.reduceEqDiff]))
            refine hK _ _ (Handed.intro (gk - 1) ?measure (hJ _ _ _ ?_))
            rotate_left
            (repeat apply Exists.intro)
            refine ⟨?rel, rfl⟩
            case rel => exact ⟨i + 1, f, a, by go_num, rfl, rfl, by omega, first_old HF.out hf0, above_old HA.out ha0, by assumption⟩
            case measure => omega
    case neg =>
      obtain rfl : i = 64 := by omega
      have hlt' : ¬ ((64 : Nat) : Int) < 64 := by omega
      clear hJ hK hlt hi
      by_cases hf0 : f < 0
      case pos =>
        have hpc := pickC_no (pick_none HF.out hf0)
        obtain ⟨p1, p2, p3⟩ := HP.out
        have q1 : pd = 0 := by rw [← p1]; unfold PS.pickD; rw [hpc]; rfl
        have q2 : po = false := by rw [← p2]; unfold PS.pickO; rw [hpc]; rfl
        have q3 : ps = s := by rw [← p3]; unfold PS.pick; rw [hpc]
        clear p1 p2 p3 hpc
        subst q1 q2 q3
        skip
        repeat (first | with_reducible apply wpList_nil | with_reducible apply seq_region | with_reducible apply wp_region_lit | with_reducible apply wp_seq | ((with_reducible apply seq_q); (focus rfl); (focus (simp [go_sem, effAt, ↓IntWalk.iteOmega, *]; (try go_ints); (first | (with_reducible exact effUpon_val) | (with_reducible exact effUpon_skip)))); (focus ((simp only [Act.put, List.setIfInBounds_toArray, List.set_cons_zero, List.set_cons_succ]; rfl)))) | ((with_reducible apply seq_s); (focus rfl); (focus ((simp only [Act.put, List.setIfInBounds_toArray, List.set_cons_zero, List.set_cons_succ]; rfl)))) | with_reducible apply wp_block | with_reducible apply wp_skip | with_reducible apply wp_exit | with_reducible apply wp_ret | ((with_reducible apply wp_cond_true); (focus (first | rfl | (simp [go_sem, *]; done)))) | ((with_reducible apply wp_cond_false); (focus (first | rfl | (simp [go_sem, *]; done)))) | (simp only [Exit.then, Exit.inBlock, ↓reduceIte, Nat.reduceEqDiff]))
        refine bodyPost_ret (v := .tuple #[.int .u8 0, .bool false]) (by simp [results, Try.results23, go_sem, *]) rfl ⟨rfl, hR, Turn.of_below (by assumption)⟩
      case neg =>
        have key : ∀ d : Nat, isPick s d → (d : Int) < 64 ∧ pd = d ∧ po = true ∧ ps = s.take d ∧ Calls Try.prog 22 #[.pointer (some ⟨z.h, 0, none⟩), .int .u8 d] wr (Ret (.bool true) fun w' => RB w' z (s.take d) ∧ Turn (TR z wr) wr w') := by
          intro d hpk
          have hpc := pickC_is hpk
          obtain ⟨p1, p2, p3⟩ := HP.out
          have hT := HT.out d wr hR
          rw [if_pos hpk.1, decide_eq_true hpk.1] at hT
          have hd := hpk.1.1
          refine ⟨by omega, by rw [← p1]; unfold PS.pickD; rw [hpc]; rfl, by rw [← p2]; unfold PS.pickO; rw [hpc]; rfl, by rw [← p3]; unfold PS.pick; rw [hpc], hT⟩
        have HK := Lib.hid key
        clear key
        by_cases ha0 : 0 ≤ a
        case pos =>
          obtain ⟨d, rfl, hpk⟩ := pick_above HF.out HA.out hf0 ha0
          obtain ⟨hd, q1, q2, q3, hT⟩ := HK.out d hpk
          subst q1 q2 q3
          clear hpk
          skip
          repeat (first | with_reducible apply wpList_nil | with_reducible apply seq_region | with_reducible apply wp_region_lit | with_reducible apply wp_seq | ((with_reducible apply seq_q); (focus rfl); (focus (simp [go_sem, effAt, ↓IntWalk.iteOmega, *]; (try go_ints); (first | (with_reducible exact effUpon_val) | (with_reducible exact effUpon_skip)))); (focus ((simp only [Act.put, List.setIfInBounds_toArray, List.set_cons_zero, List.set_cons_succ]; rfl)))) | ((with_reducible apply seq_s); (focus rfl); (focus ((simp only [Act.put, List.setIfInBounds_toArray, List.set_cons_zero, List.set_cons_succ]; rfl)))) | with_reducible apply wp_block | with_reducible apply wp_skip | with_reducible apply wp_exit | with_reducible apply wp_ret | ((with_reducible apply wp_cond_true); (focus (first | rfl | (simp [go_sem, *]; done)))) | ((with_reducible apply wp_cond_false); (focus (first | rfl | (simp [go_sem, *]; done)))) | (simp only [Exit.then, Exit.inBlock, ↓reduceIte, Nat.reduceEqDiff]))
          with_reducible apply seq_e (fun w' => RB w' z (s.take pd) ∧ Turn (TR z wr) wr w')
          (focus (first | exact wanted_none rfl | exact wanted_yes rfl rfl rfl))
          (focus (simp only [effAt]; simp [go_sem]; (with_reducible exact effUpon_enter hT)))
          (simp only [Act.put, List.setIfInBounds_toArray, List.set_cons_zero, List.set_cons_succ]; rfl)
          rintro u ⟨hP, hg2⟩
          have hG : Turn (TR z w) w u := (Turn.of_below hF).trans (hg2.mono (fun i h => by have := hF.size; unfold TR at *; omega))
          clear hT hg2
          repeat (first | with_reducible apply wpList_nil | with_reducible apply seq_region | with_reducible apply wp_region_lit | with_reducible apply wp_seq | ((with_reducible apply seq_q); (focus rfl); (focus (simp [go_sem, effAt, ↓IntWalk.iteOmega, *]; (try go_ints); (first | (with_reducible exact effUpon_val) | (with_reducible exact effUpon_skip)))); (focus ((simp only [Act.put, List.setIfInBounds_toArray, List.set_cons_zero, List.set_cons_succ]; rfl)))) | ((with_reducible apply seq_s); (focus rfl); (focus ((simp only [Act.put, List.setIfInBounds_toArray, List.set_cons_zero, List.set_cons_succ]; rfl)))) | with_reducible apply wp_block | with_reducible apply wp_skip | with_reducible apply wp_exit | with_reducible apply wp_ret | ((with_reducible apply wp_cond_true); (focus (first | rfl | (simp [go_sem, *]; done)))) | ((with_reducible apply wp_cond_false); (focus (first | rfl | (simp [go_sem, *]; done)))) | (simp only [Exit.then, Exit.inBlock, ↓reduceIte, Nat.reduceEqDiff]))
          refine bodyPost_ret (v := .tuple #[.int .u8 pd, .bool true]) (by simp [results, Try.results23, go_sem, *]) rfl ⟨rfl, hP, hG⟩
        case neg =>
          obtain ⟨d, rfl, hpk⟩ := pick_first HF.out HA.out hf0 ha0
          obtain ⟨hd, q1, q2, q3, hT⟩ := HK.out d hpk
          subst q1 q2 q3
          clear hpk
          skip
          repeat (first | with_reducible apply wpList_nil | with_reducible apply seq_region | with_reducible apply wp_region_lit | with_reducible apply wp_seq | ((with_reducible apply seq_q); (focus rfl); (focus (simp [go_sem, effAt, ↓IntWalk.iteOmega, *]; (try go_ints); (first | (with_reducible exact effUpon_val) | (with_reducible exact effUpon_skip)))); (focus ((simp only [Act.put, List.setIfInBounds_toArray, List.set_cons_zero, List.set_cons_succ]; rfl)))) | ((with_reducible apply seq_s); (focus rfl); (focus ((simp only [Act.put, List.setIfInBounds_toArray, List.set_cons_zero, List.set_cons_succ]; rfl)))) | with_reducible apply wp_block | with_reducible apply wp_skip | with_reducible apply wp_exit | with_reducible apply wp_ret | ((with_reducible apply wp_cond_true); (focus (first | rfl | (simp [go_sem, *]; done)))) | ((with_reducible apply wp_cond_false); (focus (first | rfl | (simp [go_sem, *]; done)))) | (simp only [Exit.then, Exit.inBlock, ↓reduceIte, Nat.reduceEqDiff]))
          with_reducible apply seq_e (fun w' => RB w' z (s.take pd) ∧ Turn (TR z wr) wr w')
          (focus (first | exact wanted_none rfl | exact wanted_yes rfl rfl rfl))
          (focus (simp only [effAt]; simp [go_sem]; (with_reducible exact effUpon_enter hT)))
          (simp only [Act.put, List.setIfInBounds_toArray, List.set_cons_zero, List.set_cons_succ]; rfl)
          rintro u ⟨hP, hg2⟩
          have hG : Turn (TR z w) w u := (Turn.of_below hF).trans (hg2.mono (fun i h => by have := hF.size; unfold TR at *; omega))
          clear hT hg2
          repeat (first | with_reducible apply wpList_nil | with_reducible apply seq_region | with_reducible apply wp_region_lit | with_reducible apply wp_seq | ((with_reducible apply seq_q); (focus rfl); (focus (simp [go_sem, effAt, ↓IntWalk.iteOmega, *]; (try go_ints); (first | (with_reducible exact effUpon_val) | (with_reducible exact effUpon_skip)))); (focus ((simp only [Act.put, List.setIfInBounds_toArray, List.set_cons_zero, List.set_cons_succ]; rfl)))) | ((with_reducible apply seq_s); (focus rfl); (focus ((simp only [Act.put, List.setIfInBounds_toArray, List.set_cons_zero, List.set_cons_succ]; rfl)))) | with_reducible apply wp_block | with_reducible apply wp_skip | with_reducible apply wp_exit | with_reducible apply wp_ret | ((with_reducible apply wp_cond_true); (focus (first | rfl | (simp [go_sem, *]; done)))) | ((with_reducible apply wp_cond_false); (focus (first | rfl | (simp [go_sem, *]; done)))) | (simp only [Exit.then, Exit.inBlock, ↓reduceIte, Nat.reduceEqDiff]))
          refine bodyPost_ret (v := .tuple #[.int .u8 pd, .bool true]) (by simp [results, Try.results23, go_sem, *]) rfl ⟨rfl, hP, hG⟩
end
end Go.Proofs.Ytminenipklgbcaa
