/- The walk of May. -/
import Derived.Test.YtminenipklgbcaaP2
set_option linter.unusedSimpArgs false
set_option linter.unusedVariables false
namespace Go.Proofs.Ytminenipklgbcaa
open Go.RowKit Go.Eff
attribute [local irreducible] Go.wpList
theorem rangeAt_rd {s : PS} (hs : s.Ok) {g : Nat} {w : World} (h : PB w g s) : w.rangeAt g 64 (s.rd.map Value.bool) := by
  intro j v hj
  rw [Blk.cell h]
  have hl : j < 64 := by have := (List.getElem?_eq_some_iff.1 hj).1; simpa [hs.rd64] using this
  rw [cellsP_r hs hl, ← hj, List.getElem?_map]
  have := hs.rd64
  simp [PS.r, List.getD_eq_getElem?_getD, List.getElem?_eq_getElem (show j < s.rd.length by omega)]
theorem load44 {s : PS} (hs : s.Ok) {g : Nat} {w : World} (h : PB w g s) : (Instr.loadAt 44 (.pointer (some ⟨g, 64, none⟩))).run Try.prog w = .ok (.agg (s.rd.map Value.bool).toArray) w :=
  run_loadAt_mid (P := Try.prog) w g 64 44 (s.rd.map Value.bool) (.array 64 4) (rangeAt_rd hs h) (by kernel_rfl) rfl (by rw [List.length_map, hs.rd64]; kernel_rfl)
theorem index44 {s : PS} (hs : s.Ok) {d : Nat} (hd : d < 64) (w : World) : (Instr.index 44 (.agg (s.rd.map Value.bool).toArray) (.int .i64 d)).run Try.prog w = .ok (.bool (s.r d)) w := by
  have h1 : Try.prog.underlying 44 = some (.array 64 4) := by kernel_rfl
  have h2 : (Try.prog.info? 4).map (fun i => i.size) = some 1 := by kernel_rfl
  obtain ⟨i0, hi0, hsz⟩ : ∃ i0, Try.prog.info? 4 = some i0 ∧ i0.size = 1 := by
    cases hq : Try.prog.info? 4 with
    | none => rw [hq] at h2; cases h2
    | some i => rw [hq] at h2; exact ⟨i, rfl, by simpa using h2⟩
  have hd' : (d : Int) < 64 := by omega
  have hr : (s.rd.map Value.bool).toArray[d]? = some (.bool (s.r d)) := by
    have := hs.rd64
    simp [PS.r, List.getD_eq_getElem?_getD, List.getElem?_eq_getElem (show d < s.rd.length by omega)]
  have hszr : ∀ w, (sizeOf 4).run Try.prog w = .ok 1 w := fun w => by simp [sizeOf, typeInfo, hi0, hsz]
  simp only [Instr.index, asIntOf, Sem.run_bind, Sem.run_pure, Result.andThen_ok, run_underlying h1]
  rw [if_pos (by omega)]
  simp only [hszr, Sem.run_bind, Sem.run_pure, Result.andThen_ok, part, isAgg, run_underlying Try.underlying4, Nat.mul_one, Int.toNat_natCast, hr, Bool.false_eq_true, if_false]
/-- nobody that is ready is of a lesser class, among the first i -/
def lessNone (s : PS) (d i : Nat) : Prop := ∀ e, e < i → s.r e = true → ¬ s.c e < s.c d
section
variable {s : PS} {d i : Nat}
theorem lessNone_step (h : lessNone s d i) (h' : s.r i = true → ¬ s.c i < s.c d) : lessNone s d (i + 1) := fun e he hr => by
  by_cases hei : e = i
  · subst hei; exact h' hr
  · exact h e (by omega) hr
end
theorem eff_load {P : Program} {o : Oper} {a : Act} {w : World} {ty : TypeId} {x : Operand} {u v : Value} (ho : o.op = .load ty x) (hx : a.eval x = u) (h : (Instr.loadAt ty u).run P w = .ok v w) : effAt P o a w v (· = w) := by
  unfold effAt execOp
  simp only [ho, hx, Sem.run_bind, h, Result.andThen_ok, Sem.run_pure]
  exact ⟨rfl, rfl⟩
theorem eff_index {P : Program} {o : Oper} {a : Act} {w : World} {ty : TypeId} {x y : Operand} {u v r : Value} (ho : o.op = .index ty x y) (hx : a.eval x = u) (hy : a.eval y = v) (h : (Instr.index ty u v).run P w = .ok r w) : effAt P o a w r (· = w) := by
  unfold effAt execOp
  simp only [ho, hx, hy, Sem.run_bind, h, Result.andThen_ok, Sem.run_pure]
  exact ⟨rfl, rfl⟩
set_option maxRecDepth 100000 in
set_option maxHeartbeats 4000000 in
theorem may_any {s : PS} (hs : s.Ok) (g d : Nat) (w : World) (hB_p : PB w g s) : Calls Try.prog 13 #[.pointer (some ⟨g, 0, none⟩), .int .u8 d] w (Ret (.bool (decide (mayP s d))) (Below w.heap.size w)) := by
  have hR := ready_any hs g d
  cases hrd : s.r d with
  | false =>
    have e : decide (mayP s d) = false := by simp [mayP, hrd]
    rw [e]
    rw [hrd] at hR
    clear hs hrd
    go_enter Try.func13, Try.ntmps13
    have F0 : Below w.heap.size w w := Below.refl _ _
    have hc_p := hB_p.cell
    repeat (first | with_reducible apply wpList_nil | with_reducible apply seq_region | with_reducible apply wp_region_lit | with_reducible apply wp_seq | ((with_reducible apply seq_q); (focus rfl); (focus (simp [go_sem, effAt, ↓IntWalk.iteOmega, *]; (try go_ints); (first | (with_reducible exact effUpon_val) | (with_reducible exact effUpon_skip)))); (focus ((simp only [Act.put, List.setIfInBounds_toArray, List.set_cons_zero, List.set_cons_succ]; rfl)))) | ((with_reducible apply seq_s); (focus rfl); (focus ((simp only [Act.put, List.setIfInBounds_toArray, List.set_cons_zero, List.set_cons_succ]; rfl)))) | with_reducible apply wp_block | with_reducible apply wp_skip | with_reducible apply wp_exit | with_reducible apply wp_ret | ((with_reducible apply wp_cond_true); (focus (first | rfl | (simp [go_sem, *]; done)))) | ((with_reducible apply wp_cond_false); (focus (first | rfl | (simp [go_sem, *]; done)))) | (simp only [Exit.then, Exit.inBlock, ↓reduceIte, Nat.reduceEqDiff]))
    ((with_reducible apply seq_e (Below w.heap.size w)); (focus rfl); (focus (simp only [effAt]; simp [go_sem]; (with_reducible exact effUpon_enter (hR _ hB_p)))); (focus ((simp only [Act.put, List.setIfInBounds_toArray, List.set_cons_zero, List.set_cons_succ]; rfl))))
    intro w1 hs
    have Fw1 := F0.trans (hs.mono F0.size)
    replace hB_p := hB_p.below hs hB_p.lt
    clear hs F0
    clear hc_p; have hc_p := hB_p.cell
    repeat (first | with_reducible apply wpList_nil | with_reducible apply seq_region | with_reducible apply wp_region_lit | with_reducible apply wp_seq | ((with_reducible apply seq_q); (focus rfl); (focus (simp [go_sem, effAt, ↓IntWalk.iteOmega, *]; (try go_ints); (first | (with_reducible exact effUpon_val) | (with_reducible exact effUpon_skip)))); (focus ((simp only [Act.put, List.setIfInBounds_toArray, List.set_cons_zero, List.set_cons_succ]; rfl)))) | ((with_reducible apply seq_s); (focus rfl); (focus ((simp only [Act.put, List.setIfInBounds_toArray, List.set_cons_zero, List.set_cons_succ]; rfl)))) | with_reducible apply wp_block | with_reducible apply wp_skip | with_reducible apply wp_exit | with_reducible apply wp_ret | ((with_reducible apply wp_cond_true); (focus (first | rfl | (simp [go_sem, *]; done)))) | ((with_reducible apply wp_cond_false); (focus (first | rfl | (simp [go_sem, *]; done)))) | (simp only [Exit.then, Exit.inBlock, ↓reduceIte, Nat.reduceEqDiff]))
    go_ret
    exact ⟨rfl, by assumption⟩
  | true =>
    have hd : d < 64 := by
      by_cases hd : d < 64
      · exact hd
      · rw [r_out hs hd] at hrd; cases hrd
    have hd' : (d : Int) < 64 := by omega
    rw [hrd] at hR
    obtain ⟨R, hRR⟩ : ∃ R, decide (mayP s d) = R := ⟨_, rfl⟩
    rw [hRR]
    have HM := Lib.hid hRR
    have HS := Lib.hid hs
    have HRD := Lib.hid hrd
    have e1 := cellsP_c hs hd
    have hL := fun u (h : PB u g s) => load44 hs h
    have HL := Lib.hid hL
    clear hRR hs hrd hL
    go_enter Try.func13, Try.ntmps13
    have F0 : Below w.heap.size w w := Below.refl _ _
    have hc_p := hB_p.cell
    repeat (first | with_reducible apply wpList_nil | with_reducible apply seq_region | with_reducible apply wp_region_lit | with_reducible apply wp_seq | ((with_reducible apply seq_q); (focus rfl); (focus (simp [go_sem, effAt, ↓IntWalk.iteOmega, *]; (try go_ints); (first | (with_reducible exact effUpon_val) | (with_reducible exact effUpon_skip)))); (focus ((simp only [Act.put, List.setIfInBounds_toArray, List.set_cons_zero, List.set_cons_succ]; rfl)))) | ((with_reducible apply seq_s); (focus rfl); (focus ((simp only [Act.put, List.setIfInBounds_toArray, List.set_cons_zero, List.set_cons_succ]; rfl)))) | with_reducible apply wp_block | with_reducible apply wp_skip | with_reducible apply wp_exit | with_reducible apply wp_ret | ((with_reducible apply wp_cond_true); (focus (first | rfl | (simp [go_sem, *]; done)))) | ((with_reducible apply wp_cond_false); (focus (first | rfl | (simp [go_sem, *]; done)))) | (simp only [Exit.then, Exit.inBlock, ↓reduceIte, Nat.reduceEqDiff]))
    ((with_reducible apply seq_e (Below w.heap.size w)); (focus rfl); (focus (simp only [effAt]; simp [go_sem]; (with_reducible exact effUpon_enter (hR _ hB_p)))); (focus ((simp only [Act.put, List.setIfInBounds_toArray, List.set_cons_zero, List.set_cons_succ]; rfl))))
    intro w2 hs
    have Fw2 := F0.trans (hs.mono F0.size)
    replace hB_p := hB_p.below hs hB_p.lt
    clear hs F0
    clear hc_p; have hc_p := hB_p.cell
    clear hR
    repeat (first | with_reducible apply wpList_nil | with_reducible apply seq_region | with_reducible apply wp_region_lit | with_reducible apply wp_seq | ((with_reducible apply seq_q); (focus rfl); (focus (simp [go_sem, effAt, ↓IntWalk.iteOmega, *]; (try go_ints); (first | (with_reducible exact effUpon_val) | (with_reducible exact effUpon_skip)))); (focus ((simp only [Act.put, List.setIfInBounds_toArray, List.set_cons_zero, List.set_cons_succ]; rfl)))) | ((with_reducible apply seq_s); (focus rfl); (focus ((simp only [Act.put, List.setIfInBounds_toArray, List.set_cons_zero, List.set_cons_succ]; rfl)))) | with_reducible apply wp_block | with_reducible apply wp_skip | with_reducible apply wp_exit | with_reducible apply wp_ret | ((with_reducible apply wp_cond_true); (focus (first | rfl | (simp [go_sem, *]; done)))) | ((with_reducible apply wp_cond_false); (focus (first | rfl | (simp [go_sem, *]; done)))) | (simp only [Exit.then, Exit.inBlock, ↓reduceIte, Nat.reduceEqDiff]))
    (with_reducible apply seq_q)
    (focus (first | exact wanted_none rfl | exact wanted_yes rfl rfl rfl))
    (focus exact eff_load rfl rfl (HL.out _ hB_p))
    (simp only [Act.put, List.setIfInBounds_toArray, List.set_cons_zero, List.set_cons_succ]; rfl)
    repeat (first | with_reducible apply wpList_nil | with_reducible apply seq_region | with_reducible apply wp_region_lit | with_reducible apply wp_seq | ((with_reducible apply seq_q); (focus rfl); (focus (simp [go_sem, effAt, ↓IntWalk.iteOmega, *]; (try go_ints); (first | (with_reducible exact effUpon_val) | (with_reducible exact effUpon_skip)))); (focus ((simp only [Act.put, List.setIfInBounds_toArray, List.set_cons_zero, List.set_cons_succ]; rfl)))) | ((with_reducible apply seq_s); (focus rfl); (focus ((simp only [Act.put, List.setIfInBounds_toArray, List.set_cons_zero, List.set_cons_succ]; rfl)))) | with_reducible apply wp_block | with_reducible apply wp_skip | with_reducible apply wp_exit | with_reducible apply wp_ret | ((with_reducible apply wp_cond_true); (focus (first | rfl | (simp [go_sem, *]; done)))) | ((with_reducible apply wp_cond_false); (focus (first | rfl | (simp [go_sem, *]; done)))) | (simp only [Exit.then, Exit.inBlock, ↓reduceIte, Nat.reduceEqDiff]))
    clear HL hc_p
    go_loopg [15, 5, 6] 64 (fun q v15 v5 v6 wr => ∃ (i : Nat), v15 = .int .i64 (i : Int) ∧ i + q = 64 ∧ lessNone s d i ∧ PB wr g s ∧ Below w.heap.size w wr)
    case atStart => exact ⟨0, rfl, by omega, fun e he => by omega, hB_p, by assumption⟩
    case round =>
      rename_i J K hJ hK
      obtain ⟨i, rfl, hi, hle, hB_p, hF⟩ := hrel
      by_cases hlt : i < 64
      case neg =>
        obtain rfl : i = 64 := by omega
        have e : R = true := by rw [← HM.out]; simp only [decide_eq_true_eq]; exact ⟨hd, HRD.out, hle⟩
        subst e
        have hlt' : ¬ ((64 : Nat) : Int) < 64 := by omega
        skip
        repeat (first | with_reducible apply wpList_nil | with_reducible apply seq_region | with_reducible apply wp_region_lit | with_reducible apply wp_seq | ((with_reducible apply seq_q); (focus rfl); (focus (simp [go_sem, effAt, ↓IntWalk.iteOmega, *]; (try go_ints); (first | (with_reducible exact effUpon_val) | (with_reducible exact effUpon_skip)))); (focus ((simp only [Act.put, List.setIfInBounds_toArray, List.set_cons_zero, List.set_cons_succ]; rfl)))) | ((with_reducible apply seq_s); (focus rfl); (focus ((simp only [Act.put, List.setIfInBounds_toArray, List.set_cons_zero, List.set_cons_succ]; rfl)))) | with_reducible apply wp_block | with_reducible apply wp_skip | with_reducible apply wp_exit | with_reducible apply wp_ret | ((with_reducible apply wp_cond_true); (focus (first | rfl | (simp [go_sem, *]; done)))) | ((with_reducible apply wp_cond_false); (focus (first | rfl | (simp [go_sem, *]; done)))) | (simp only [Exit.then, Exit.inBlock, ↓reduceIte, Nat.reduceEqDiff]))
        go_ret
        exact ⟨rfl, by assumption⟩
      case pos =>
        have hlt' : (i : Int) < 64 := by omega
        have hI := index44 HS.out hlt
        have e2 := cellsP_c HS.out hlt
        have HLE := Lib.hid hle
        clear hle
        skip
        have hc_p := hB_p.cell
        cases hri : s.r i with
        | false =>
          rw [hri] at hI
          repeat (first | with_reducible apply wpList_nil | with_reducible apply seq_region | with_reducible apply wp_region_lit | with_reducible apply wp_seq | ((with_reducible apply seq_q); (focus rfl); (focus (simp [go_sem, effAt, ↓IntWalk.iteOmega, *]; (try go_ints); (first | (with_reducible exact effUpon_val) | (with_reducible exact effUpon_skip)))); (focus ((simp only [Act.put, List.setIfInBounds_toArray, List.set_cons_zero, List.set_cons_succ]; rfl)))) | ((with_reducible apply seq_s); (focus rfl); (focus ((simp only [Act.put, List.setIfInBounds_toArray, List.set_cons_zero, List.set_cons_succ]; rfl)))) | with_reducible apply wp_block | with_reducible apply wp_skip | with_reducible apply wp_exit | with_reducible apply wp_ret | ((with_reducible apply wp_cond_true); (focus (first | rfl | (simp [go_sem, *]; done)))) | ((with_reducible apply wp_cond_false); (focus (first | rfl | (simp [go_sem, *]; done)))) | (simp only [Exit.then, Exit.inBlock, ↓reduceIte, Nat.reduceEqDiff]))
          refine wp_region_pure (E := fun i => [].contains i) (by kernel_rfl) (by kernel_rfl) ?_
          repeat (first | ((with_reducible apply lex_q); (focus rfl); (focus rfl); (focus (intro w' hS; have hc_p := (hB_p.below hS hB_p.lt).cell; simp [go_sem, effAt, ↓IntWalk.iteOmega, *]; (try go_ints); (first | (with_reducible exact effUpon_val) | (with_reducible exact effUpon_skip)))); (focus ((simp only [Act.put, List.setIfInBounds_toArray, List.set_cons_zero, List.set_cons_succ]; rfl)))) | ((with_reducible apply lex_s); (focus rfl); (focus ((simp only [Act.put, List.setIfInBounds_toArray, List.set_cons_zero, List.set_cons_succ]; rfl)))))
          with_reducible apply lex_nil
          intro w3 hs
          have Fw3 := hF.trans (hs.mono hF.size)
          replace hB_p := hB_p.below hs hB_p.lt
          clear hs hF
          clear hc_p; have hc_p := hB_p.cell
          repeat (first | with_reducible apply wpList_nil | with_reducible apply seq_region | with_reducible apply wp_region_lit | with_reducible apply wp_seq | ((with_reducible apply seq_q); (focus rfl); (focus (simp [go_sem, effAt, ↓IntWalk.iteOmega, *]; (try go_ints); (first | (with_reducible exact effUpon_val) | (with_reducible exact effUpon_skip)))); (focus ((simp only [Act.put, List.setIfInBounds_toArray, List.set_cons_zero, List.set_cons_succ]; rfl)))) | ((with_reducible apply seq_s); (focus rfl); (focus ((simp only [Act.put, List.setIfInBounds_toArray, List.set_cons_zero, List.set_cons_succ]; rfl)))) | with_reducible apply wp_block | with_reducible apply wp_skip | with_reducible apply wp_exit | with_reducible apply wp_ret | ((with_reducible apply wp_cond_true); (focus (first | rfl | (simp [go_sem, *]; done)))) | ((with_reducible apply wp_cond_false); (focus (first | rfl | (simp [go_sem, *]; done)))) | (simp only [Exit.then, Exit.inBlock, ↓reduceIte, Nat.reduceEqDiff]))
          refine hK _ _ (Handed.intro (gk - 1) ?measure (hJ _ _ _ ?_))
          rotate_left
          (repeat apply Exists.intro)
          refine ⟨?rel, rfl⟩
          case rel => exact ⟨i + 1, by go_num, by omega, lessNone_step HLE.out (fun h => by rw [hri] at h; cases h), by assumption, by assumption⟩
          case measure => omega
        | true =>
          rw [hri] at hI
          by_cases hcl : s.c i < s.c d
          case pos =>
            have e : R = false := by rw [← HM.out]; simp only [decide_eq_false_iff_not]; exact fun h => h.2.2 i hlt hri hcl
            subst e
            repeat (first | with_reducible apply wpList_nil | with_reducible apply seq_region | with_reducible apply wp_region_lit | with_reducible apply wp_seq | ((with_reducible apply seq_q); (focus rfl); (focus (simp [go_sem, effAt, ↓IntWalk.iteOmega, *]; (try go_ints); (first | (with_reducible exact effUpon_val) | (with_reducible exact effUpon_skip)))); (focus ((simp only [Act.put, List.setIfInBounds_toArray, List.set_cons_zero, List.set_cons_succ]; rfl)))) | ((with_reducible apply seq_s); (focus rfl); (focus ((simp only [Act.put, List.setIfInBounds_toArray, List.set_cons_zero, List.set_cons_succ]; rfl)))) | with_reducible apply wp_block | with_reducible apply wp_skip | with_reducible apply wp_exit | with_reducible apply wp_ret | ((with_reducible apply wp_cond_true); (focus (first | rfl | (simp [go_sem, *]; done)))) | ((with_reducible apply wp_cond_false); (focus (first | rfl | (simp [go_sem, *]; done)))) | (simp only [Exit.then, Exit.inBlock, ↓reduceIte, Nat.reduceEqDiff]))
            refine wp_region_pure (E := fun i => [].contains i) (by kernel_rfl) (by kernel_rfl) ?_
            repeat (first | ((with_reducible apply lex_q); (focus rfl); (focus rfl); (focus (intro w' hS; have hc_p := (hB_p.below hS hB_p.lt).cell; simp [go_sem, effAt, ↓IntWalk.iteOmega, *]; (try go_ints); (first | (with_reducible exact effUpon_val) | (with_reducible exact effUpon_skip)))); (focus ((simp only [Act.put, List.setIfInBounds_toArray, List.set_cons_zero, List.set_cons_succ]; rfl)))) | ((with_reducible apply lex_s); (focus rfl); (focus ((simp only [Act.put, List.setIfInBounds_toArray, List.set_cons_zero, List.set_cons_succ]; rfl)))))
            with_reducible apply lex_nil
            intro w4 hs
            have Fw4 := hF.trans (hs.mono hF.size)
            replace hB_p := hB_p.below hs hB_p.lt
            clear hs hF
            clear hc_p; have hc_p := hB_p.cell
            repeat (first | with_reducible apply wpList_nil | with_reducible apply seq_region | with_reducible apply wp_region_lit | with_reducible apply wp_seq | ((with_reducible apply seq_q); (focus rfl); (focus (simp [go_sem, effAt, ↓IntWalk.iteOmega, *]; (try go_ints); (first | (with_reducible exact effUpon_val) | (with_reducible exact effUpon_skip)))); (focus ((simp only [Act.put, List.setIfInBounds_toArray, List.set_cons_zero, List.set_cons_succ]; rfl)))) | ((with_reducible apply seq_s); (focus rfl); (focus ((simp only [Act.put, List.setIfInBounds_toArray, List.set_cons_zero, List.set_cons_succ]; rfl)))) | with_reducible apply wp_block | with_reducible apply wp_skip | with_reducible apply wp_exit | with_reducible apply wp_ret | ((with_reducible apply wp_cond_true); (focus (first | rfl | (simp [go_sem, *]; done)))) | ((with_reducible apply wp_cond_false); (focus (first | rfl | (simp [go_sem, *]; done)))) | (simp only [Exit.then, Exit.inBlock, ↓reduceIte, Nat.reduceEqDiff]))
            go_ret
            exact ⟨rfl, by assumption⟩
          case neg =>
            repeat (first | with_reducible apply wpList_nil | with_reducible apply seq_region | with_reducible apply wp_region_lit | with_reducible apply wp_seq | ((with_reducible apply seq_q); (focus rfl); (focus (simp [go_sem, effAt, ↓IntWalk.iteOmega, *]; (try go_ints); (first | (with_reducible exact effUpon_val) | (with_reducible exact effUpon_skip)))); (focus ((simp only [Act.put, List.setIfInBounds_toArray, List.set_cons_zero, List.set_cons_succ]; rfl)))) | ((with_reducible apply seq_s); (focus rfl); (focus ((simp only [Act.put, List.setIfInBounds_toArray, List.set_cons_zero, List.set_cons_succ]; rfl)))) | with_reducible apply wp_block | with_reducible apply wp_skip | with_reducible apply wp_exit | with_reducible apply wp_ret | ((with_reducible apply wp_cond_true); (focus (first | rfl | (simp [go_sem, *]; done)))) | ((with_reducible apply wp_cond_false); (focus (first | rfl | (simp [go_sem, *]; done)))) | (simp only [Exit.then, Exit.inBlock, ↓reduceIte, Nat.reduceEqDiff]))
            refine wp_region_pure (E := fun i => [].contains i) (by kernel_rfl) (by kernel_rfl) ?_
            repeat (first | ((with_reducible apply lex_q); (focus rfl); (focus rfl); (focus (intro w' hS; have hc_p := (hB_p.below hS hB_p.lt).cell; simp [go_sem, effAt, ↓IntWalk.iteOmega, *]; (try go_ints); (first | (with_reducible exact effUpon_val) | (with_reducible exact effUpon_skip)))); (focus ((simp only [Act.put, List.setIfInBounds_toArray, List.set_cons_zero, List.set_cons_succ]; rfl)))) | ((with_reducible apply lex_s); (focus rfl); (focus ((simp only [Act.put, List.setIfInBounds_toArray, List.set_cons_zero, List.set_cons_succ]; rfl)))))
            with_reducible apply lex_nil
            intro w5 hs
            have Fw5 := hF.trans (hs.mono hF.size)
            replace hB_p := hB_p.below hs hB_p.lt
            clear hs hF
            clear hc_p; have hc_p := hB_p.cell
            repeat (first | with_reducible apply wpList_nil | with_reducible apply seq_region | with_reducible apply wp_region_lit | with_reducible apply wp_seq | ((with_reducible apply seq_q); (focus rfl); (focus (simp [go_sem, effAt, ↓IntWalk.iteOmega, *]; (try go_ints); (first | (with_reducible exact effUpon_val) | (with_reducible exact effUpon_skip)))); (focus ((simp only [Act.put, List.setIfInBounds_toArray, List.set_cons_zero, List.set_cons_succ]; rfl)))) | ((with_reducible apply seq_s); (focus rfl); (focus ((simp only [Act.put, List.setIfInBounds_toArray, List.set_cons_zero, List.set_cons_succ]; rfl)))) | with_reducible apply wp_block | with_reducible apply wp_skip | with_reducible apply wp_exit | with_reducible apply wp_ret | ((with_reducible apply wp_cond_true); (focus (first | rfl | (simp [go_sem, *]; done)))) | ((with_reducible apply wp_cond_false); (focus (first | rfl | (simp [go_sem, *]; done)))) | (simp only [Exit.then, Exit.inBlock, ↓reduceIte, Nat.reduceEqDiff]))
            refine hK _ _ (Handed.intro (gk - 1) ?measure (hJ _ _ _ ?_))
            rotate_left
            (repeat apply Exists.intro)
            refine ⟨?rel, rfl⟩
            case rel => exact ⟨i + 1, by go_num, by omega, lessNone_step HLE.out (fun _ => hcl), by assumption, by assumption⟩
            case measure => omega
end Go.Proofs.Ytminenipklgbcaa
