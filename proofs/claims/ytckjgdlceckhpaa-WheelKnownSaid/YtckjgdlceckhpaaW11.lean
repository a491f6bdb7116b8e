/- The document's wheel: the walks of its New, Tick, Count. -/
import Derived.Test.YtckjgdlceckhpaaW10
set_option linter.unusedSimpArgs false
set_option linter.unusedVariables false
namespace Go.Proofs.Ytckjgdlceckhpaa
open Go.RowKit Go.Eff
attribute [local irreducible] Go.wpList
theorem info3m : (Try.prog.info? 3).map (fun i => (i.zero, i.size, i.bytes)) = some (some (.int .i64 0), 1, 8) := by kernel_rfl
theorem info3 : ∃ i0, Try.prog.info? 3 = some i0 ∧ i0.zero = some (.int .i64 0) ∧ i0.size = 1 ∧ i0.bytes = 8 := by
  have h := info3m
  cases hi : Try.prog.info? 3 with
  | none => rw [hi] at h; cases h
  | some i0 =>
    rw [hi] at h
    simp only [Option.map_some, Option.some.injEq, Prod.mk.injEq] at h
    exact ⟨i0, rfl, h.1, h.2.1, h.2.2⟩
theorem eff_make33 {o : Oper} {a : Act} {w : World} {x y : Operand} (ho : o.op = .makeSlice 33 x y) (hx : a.eval x = .int .i64 ((256 : Nat) : Int)) (hy : a.eval y = .int .i64 ((256 : Nat) : Int)) : effAt Try.prog o a w (.slice (some ⟨w.heap.size, 0, none⟩) 256 256) (fun w' => w' = w.alloc (.cells (refC (fun _ => 0)) 3)) := by
  obtain ⟨i0, hi, hz, hs, hb⟩ := info3
  have hr := run_make (P := Try.prog) w 33 3 i0 (.int .i64 0) Try.underlying33 hi hz .i64 .i64 ((256 : Nat) : Int) ((256 : Nat) : Int) (by omega) (Int.le_refl _) (by rw [hb]; omega) (by omega)
  simp only [Int.toNat_natCast, hs, Value.cells] at hr
  unfold effAt execOp
  simp only [ho, hx, hy, Sem.run_bind, hr, Result.andThen_ok, Sem.run_pure]
  refine ⟨rfl, ?_⟩
  congr 2
  apply Array.ext'
  rw [Nat.mul_one, toList_madeCells_one]
  unfold refC
  symm
  rw [List.eq_replicate_iff]
  refine ⟨by simp, fun b hb => ?_⟩
  obtain ⟨i, _, rfl⟩ := List.mem_map.1 hb
  rfl
theorem rnew_any (w : World) : Calls Try.prog 9 #[] w (Ret (ptr (w.heap.size + 1)) fun w' => RefW w' (w.heap.size + 1) w.heap.size (fun _ => 0) ∧ Below w.heap.size w w') := by
  obtain ⟨la, hla⟩ : ∃ la, w.heap.size = la := ⟨_, rfl⟩
  rw [hla]
  go_enter Try.func9, Try.ntmps9
  have F0 : Below w.heap.size w w := Below.refl _ _
  repeat (first | with_reducible apply wpList_nil | with_reducible apply seq_region | with_reducible apply wp_region_lit | with_reducible apply wp_seq | ((with_reducible apply seq_q); (focus rfl); (focus (simp [go_sem, effAt, ↓IntWalk.iteOmega, *]; (try go_ints); (first | (with_reducible exact effUpon_val) | (with_reducible exact effUpon_skip)))); (focus ((simp only [Act.put, List.setIfInBounds_toArray, List.set_cons_zero, List.set_cons_succ]; rfl)))) | ((with_reducible apply seq_s); (focus rfl); (focus ((simp only [Act.put, List.setIfInBounds_toArray, List.set_cons_zero, List.set_cons_succ]; rfl)))) | with_reducible apply wp_block | with_reducible apply wp_skip | with_reducible apply wp_exit | with_reducible apply wp_ret | ((with_reducible apply wp_cond_true); (focus (first | rfl | (simp [go_sem, *]; done)))) | ((with_reducible apply wp_cond_false); (focus (first | rfl | (simp [go_sem, *]; done)))) | (simp only [Exit.then, Exit.inBlock, ↓reduceIte, Nat.reduceEqDiff]))
  with_reducible apply seq_e (fun w' => w' = w.alloc (.cells (refC (fun _ => 0)) 3))
  focus rfl
  focus exact eff_make33 rfl rfl rfl
  (simp only [Act.put, List.setIfInBounds_toArray, List.set_cons_zero, List.set_cons_succ]; rfl)
  intro w1 e1
  have z1 : w1.heap.size = la + 1 := by rw [e1]; simp [hla]
  rw [hla]
  repeat (first | ((with_reducible apply seq_q); (focus rfl); (focus (simp [go_sem, effAt, ↓IntWalk.iteOmega, *]; (try go_ints); (first | (with_reducible exact effUpon_val) | (with_reducible exact effUpon_skip)))); (focus ((simp only [Act.put, List.setIfInBounds_toArray, List.set_cons_zero, List.set_cons_succ]; rfl)))) | ((with_reducible apply seq_s); (focus rfl); (focus ((simp only [Act.put, List.setIfInBounds_toArray, List.set_cons_zero, List.set_cons_succ]; rfl)))))
  (with_reducible apply seq_box)
  focus rfl
  focus
    simp [go_sem, effAt]
    exact ⟨rfl, rfl⟩
  (simp only [Act.put, List.setIfInBounds_toArray, List.set_cons_zero, List.set_cons_succ]; rfl)
  intro w2 hr hs
  rw [z1] at hr hs ⊢
  have hl1 : Blk w1 la 3 (refC (fun _ => 0)) := by have h := Blk.new w 3 (refC (fun _ => 0)); rw [← e1, hla] at h; exact h
  have hl := hl1.below hs (by omega)
  have hb : Below la w w2 := by
    refine Below.trans (b := w1) ?_ (hs.mono (by omega))
    rw [e1]
    exact (Below.refl _ _).alloc (by omega) _
  have Fw2 : Below w2.heap.size w2 w2 := Below.refl _ _
  repeat (first | with_reducible apply wpList_nil | with_reducible apply seq_region | with_reducible apply wp_region_lit | with_reducible apply wp_seq | ((with_reducible apply seq_q); (focus rfl); (focus (simp [go_sem, effAt, ↓IntWalk.iteOmega, *]; (try go_ints); (first | (with_reducible exact effUpon_val) | (with_reducible exact effUpon_skip)))); (focus ((simp only [Act.put, List.setIfInBounds_toArray, List.set_cons_zero, List.set_cons_succ]; rfl)))) | ((with_reducible apply seq_s); (focus rfl); (focus ((simp only [Act.put, List.setIfInBounds_toArray, List.set_cons_zero, List.set_cons_succ]; rfl)))) | with_reducible apply wp_block | with_reducible apply wp_skip | with_reducible apply wp_exit | with_reducible apply wp_ret | ((with_reducible apply wp_cond_true); (focus (first | rfl | (simp [go_sem, *]; done)))) | ((with_reducible apply wp_cond_false); (focus (first | rfl | (simp [go_sem, *]; done)))) | (simp only [Exit.then, Exit.inBlock, ↓reduceIte, Nat.reduceEqDiff]))
  go_ret
  exact ⟨rfl, ⟨hr, hl, by omega⟩, hb⟩
theorem filt_next {p : Nat → Bool} (i : Nat) : (List.range (i + 1)).filter p = (List.range i).filter p ++ (if p i then [i] else []) := by
  rw [List.range_succ, List.filter_append]
  congr 1
  cases h : p i <;> simp [h]
def upTo (L : Nat → Nat) (i k : Nat) : Nat := if k < i then L k - 1 else L k
theorem upTo_zero (L : Nat → Nat) : upTo L 0 = L := by funext k; simp [upTo]
theorem upTo_next (L : Nat → Nat) (i : Nat) : upd (upTo L i) i (L i - 1) = upTo L (i + 1) := by
  funext k
  by_cases hk : k = i
  · subst hk; simp [upTo, upd_same]
  · rw [upd_ne _ _ hk]
    unfold upTo
    by_cases h : k < i
    · rw [if_pos h, if_pos (by omega)]
    · rw [if_neg h, if_neg (by omega)]
theorem upTo_at (L : Nat → Nat) (i : Nat) : upTo L i i = L i := by simp [upTo]
theorem upTo_all {L : Nat → Nat} (hL : ∀ k, 256 ≤ k → L k = 0) : upTo L 256 = dec L := by
  funext k
  unfold upTo dec
  by_cases h : k < 256
  · rw [if_pos h]
  · rw [if_neg h, hL k (by omega)]
theorem RefW.congr {w : World} {r la : Nat} {L L' : Nat → Nat} (h : RefW w r la L) (hL : ∀ k, k < 256 → L' k = L k) : RefW w r la L' := by
  refine ⟨h.hr, ?_, h.ne⟩
  have : refC L' = refC L := by
    unfold refC
    congr 1
    exact List.map_congr_left fun k hk => by rw [hL k (by simpa using hk)]
  rw [this]
  exact h.hl
theorem rcount_any {w : World} {r la : Nat} {L : Nat → Nat} (h : RefW w r la L) : Calls Try.prog 12 #[ptr r] w (Ret (.int .i64 (cnt L : Int)) (Below w.heap.size w)) := by
  obtain ⟨hB_r, hB_l, ne⟩ := h
  go_enter Try.func12, Try.ntmps12
  have F0 : Below w.heap.size w w := Below.refl _ _
  repeat (first | with_reducible apply wpList_nil | with_reducible apply seq_region | with_reducible apply wp_region_lit | with_reducible apply wp_seq | ((with_reducible apply seq_q); (focus rfl); (focus (simp [go_sem, effAt, ↓IntWalk.iteOmega, *]; (try go_ints); (first | (with_reducible exact effUpon_val) | (with_reducible exact effUpon_skip)))); (focus ((simp only [Act.put, List.setIfInBounds_toArray, List.set_cons_zero, List.set_cons_succ]; rfl)))) | ((with_reducible apply seq_s); (focus rfl); (focus ((simp only [Act.put, List.setIfInBounds_toArray, List.set_cons_zero, List.set_cons_succ]; rfl)))) | with_reducible apply wp_block | with_reducible apply wp_skip | with_reducible apply wp_exit | with_reducible apply wp_ret | ((with_reducible apply wp_cond_true); (focus (first | rfl | (simp [go_sem, *]; done)))) | ((with_reducible apply wp_cond_false); (focus (first | rfl | (simp [go_sem, *]; done)))) | (simp only [Exit.then, Exit.inBlock, ↓reduceIte, Nat.reduceEqDiff]))
  go_loopg [3, 4] 256 (fun q v3 v4 wr => ∃ i : Nat, v4 = .int .i64 (i : Int) ∧ v3 = .int .i64 ((((List.range i).filter (fun k => decide (L k ≠ 0))).length : Nat) : Int) ∧ i + q = 256 ∧ Below w.heap.size w wr)
  case atStart => exact ⟨0, rfl, rfl, rfl, Below.refl _ _⟩
  case round =>
    rename_i J K hJ hK
    clear F0
    obtain ⟨i, rfl, rfl, hi, hb⟩ := hrel
    replace hB_r := hB_r.below hb hB_r.lt
    replace hB_l := hB_l.below hb hB_l.lt
    have hnx := filt_next (p := fun k => decide (L k ≠ 0)) i
    obtain ⟨c, hc⟩ : ∃ c, ((List.range i).filter (fun k => decide (L k ≠ 0))).length = c := ⟨_, rfl⟩
    have hc2 : c ≤ i := by rw [← hc]; exact Nat.le_trans (List.length_filter_le _ _) (by simp)
    have hcI : (c : Int) ≤ 256 := by omega
    by_cases hlt : i < 256
    case neg =>
      obtain rfl : i = 256 := by omega
      have hcc : cnt L = c := hc
      rw [hc, hcc]
      clear hJ hK hnx hlt hc hcc
      skip
      have Fwr : Below wr.heap.size wr wr := Below.refl _ _
      have hc_r := hB_r.cell
      have hc_l := hB_l.cell
      repeat (first | with_reducible apply wpList_nil | with_reducible apply seq_region | with_reducible apply wp_region_lit | with_reducible apply wp_seq | ((with_reducible apply seq_q); (focus rfl); (focus (simp [go_sem, effAt, ↓IntWalk.iteOmega, *]; (try go_ints); (first | (with_reducible exact effUpon_val) | (with_reducible exact effUpon_skip)))); (focus ((simp only [Act.put, List.setIfInBounds_toArray, List.set_cons_zero, List.set_cons_succ]; rfl)))) | ((with_reducible apply seq_s); (focus rfl); (focus ((simp only [Act.put, List.setIfInBounds_toArray, List.set_cons_zero, List.set_cons_succ]; rfl)))) | with_reducible apply wp_block | with_reducible apply wp_skip | with_reducible apply wp_exit | with_reducible apply wp_ret | ((with_reducible apply wp_cond_true); (focus (first | rfl | (simp [go_sem, *]; done)))) | ((with_reducible apply wp_cond_false); (focus (first | rfl | (simp [go_sem, *]; done)))) | (simp only [Exit.then, Exit.inBlock, ↓reduceIte, Nat.reduceEqDiff]))
      go_ret
      exact ⟨rfl, hb⟩
    case pos =>
      have hlt' : (i : Int) < 256 := by omega
      have eg := refC_get (L := L) hlt
      rw [hc]
      by_cases h0 : L i = 0
      case pos =>
        rw [h0] at eg
        have hn : ((List.range (i + 1)).filter (fun k => decide (L k ≠ 0))).length = c := by rw [hnx]; simp only [h0, ne_eq, not_true_eq_false, decide_false, Bool.false_eq_true, if_false, List.append_nil]; simpa using hc
        have HN := Lib.hid hn
        clear hnx hc hn
        generalize refC L = C at *
        skip
        have Fwr : Below wr.heap.size wr wr := Below.refl _ _
        have hc_r := hB_r.cell
        have hc_l := hB_l.cell
        repeat (first | with_reducible apply wpList_nil | with_reducible apply seq_region | with_reducible apply wp_region_lit | with_reducible apply wp_seq | ((with_reducible apply seq_q); (focus rfl); (focus (simp [go_sem, effAt, ↓IntWalk.iteOmega, *]; (try go_ints); (first | (with_reducible exact effUpon_val) | (with_reducible exact effUpon_skip)))); (focus ((simp only [Act.put, List.setIfInBounds_toArray, List.set_cons_zero, List.set_cons_succ]; rfl)))) | ((with_reducible apply seq_s); (focus rfl); (focus ((simp only [Act.put, List.setIfInBounds_toArray, List.set_cons_zero, List.set_cons_succ]; rfl)))) | with_reducible apply wp_block | with_reducible apply wp_skip | with_reducible apply wp_exit | with_reducible apply wp_ret | ((with_reducible apply wp_cond_true); (focus (first | rfl | (simp [go_sem, *]; done)))) | ((with_reducible apply wp_cond_false); (focus (first | rfl | (simp [go_sem, *]; done)))) | (simp only [Exit.then, Exit.inBlock, ↓reduceIte, Nat.reduceEqDiff]))
        refine hK _ _ (Handed.intro (gk - 1) ?measure (hJ _ _ _ ?_))
        rotate_left
        (repeat apply Exists.intro)
        refine ⟨?rel, rfl⟩
        case rel => exact ⟨i + 1, by go_num, by rw [HN.out], by omega, hb⟩
        case measure => omega
      case neg =>
        have hn : ((List.range (i + 1)).filter (fun k => decide (L k ≠ 0))).length = c + 1 := by rw [hnx]; simp only [ne_eq, h0, not_false_eq_true, decide_true, if_true, List.length_append, List.length_cons, List.length_nil]; simpa using hc
        have HN := Lib.hid hn
        obtain ⟨lk, hlk⟩ : ∃ x, L i = x := ⟨_, rfl⟩
        rw [hlk] at eg h0
        have h0' : 0 < (lk : Int) := by omega
        have h0n : 0 < lk := by omega
        clear hnx hc hn hlk
        generalize refC L = C at *
        skip
        have Fwr : Below wr.heap.size wr wr := Below.refl _ _
        have hc_r := hB_r.cell
        have hc_l := hB_l.cell
        repeat (first | with_reducible apply wpList_nil | with_reducible apply seq_region | with_reducible apply wp_region_lit | with_reducible apply wp_seq | ((with_reducible apply seq_q); (focus rfl); (focus (simp [go_sem, effAt, ↓IntWalk.iteOmega, *]; (try go_ints); (first | (with_reducible exact effUpon_val) | (with_reducible exact effUpon_skip)))); (focus ((simp only [Act.put, List.setIfInBounds_toArray, List.set_cons_zero, List.set_cons_succ]; rfl)))) | ((with_reducible apply seq_s); (focus rfl); (focus ((simp only [Act.put, List.setIfInBounds_toArray, List.set_cons_zero, List.set_cons_succ]; rfl)))) | with_reducible apply wp_block | with_reducible apply wp_skip | with_reducible apply wp_exit | with_reducible apply wp_ret | ((with_reducible apply wp_cond_true); (focus (first | rfl | (simp [go_sem, *]; done)))) | ((with_reducible apply wp_cond_false); (focus (first | rfl | (simp [go_sem, *]; done)))) | (simp only [Exit.then, Exit.inBlock, ↓reduceIte, Nat.reduceEqDiff]))
        refine hK _ _ (Handed.intro (gk - 1) ?measure (hJ _ _ _ ?_))
        rotate_left
        (repeat apply Exists.intro)
        refine ⟨?rel, rfl⟩
        case rel => exact ⟨i + 1, by go_num, by rw [HN.out]; go_num, by omega, hb⟩
        case measure => omega
set_option maxRecDepth 100000 in
set_option maxHeartbeats 4000000 in
theorem rtick_any {w : World} {r la : Nat} {L : Nat → Nat} (h : RefW w r la L) (hL : ∀ k, L k ≤ 65535) :
    Calls Try.prog 20 #[ptr r] w (fun e w' => ∃ v, e = .returned v ∧ RefW w' r la (dec L) ∧ w.grownBy w' (some la) ∧ DueR w.heap.size w' v (dueL L)) := by
  obtain ⟨base, hbase⟩ : ∃ b, w.heap.size = b := ⟨_, rfl⟩
  have hrl := h.hr.lt
  have hll := h.hl.lt
  have HWR := Lib.hid h
  rw [hbase] at hrl hll
  go_enter Try.func20, Try.ntmps20
  have F0 : Below w.heap.size w w := Below.refl _ _
  repeat (first | with_reducible apply wpList_nil | with_reducible apply seq_region | with_reducible apply wp_region_lit | with_reducible apply wp_seq | ((with_reducible apply seq_q); (focus rfl); (focus (simp [go_sem, effAt, ↓IntWalk.iteOmega, *]; (try go_ints); (first | (with_reducible exact effUpon_val) | (with_reducible exact effUpon_skip)))); (focus ((simp only [Act.put, List.setIfInBounds_toArray, List.set_cons_zero, List.set_cons_succ]; rfl)))) | ((with_reducible apply seq_s); (focus rfl); (focus ((simp only [Act.put, List.setIfInBounds_toArray, List.set_cons_zero, List.set_cons_succ]; rfl)))) | with_reducible apply wp_block | with_reducible apply wp_skip | with_reducible apply wp_exit | with_reducible apply wp_ret | ((with_reducible apply wp_cond_true); (focus (first | rfl | (simp [go_sem, *]; done)))) | ((with_reducible apply wp_cond_false); (focus (first | rfl | (simp [go_sem, *]; done)))) | (simp only [Exit.then, Exit.inBlock, ↓reduceIte, Nat.reduceEqDiff]))
  go_loopg [3, 4] 256 (fun q v3 v4 wr => ∃ i : Nat, v4 = .int .i64 (i : Int) ∧ i + q = 256 ∧ (∃ ao3 l3 c3, v3 = .slice ao3 l3 c3) ∧ RefW wr r la (upTo L i) ∧ DueAt base wr v3 ((List.range i).filter (fun k => decide (L k = 1))) ∧ Turn (fun j => j = la ∨ base ≤ j) w wr)
  case atStart => exact ⟨0, rfl, rfl, ⟨_, _, _, rfl⟩, by rw [upTo_zero]; exact HWR.out, World.ownsRow_nil _ _ _ _, Turn.refl _⟩
  case round =>
    rename_i J K hJ hK
    clear F0 h
    obtain ⟨i, rfl, hi, ⟨ao3, l3, c3, rfl⟩, hR, hD, hT⟩ := hrel
    obtain ⟨hB_r, hB_l, ne⟩ := hR
    have zw := hT.size
    by_cases hlt : i < 256
    case neg =>
      obtain rfl : i = 256 := by omega
      clear hJ hK hlt
      skip
      have Fwr : Below wr.heap.size wr wr := Below.refl _ _
      have hc_r := hB_r.cell
      have hc_l := hB_l.cell
      repeat (first | with_reducible apply wpList_nil | with_reducible apply seq_region | with_reducible apply wp_region_lit | with_reducible apply wp_seq | ((with_reducible apply seq_q); (focus rfl); (focus (simp [go_sem, effAt, ↓IntWalk.iteOmega, *]; (try go_ints); (first | (with_reducible exact effUpon_val) | (with_reducible exact effUpon_skip)))); (focus ((simp only [Act.put, List.setIfInBounds_toArray, List.set_cons_zero, List.set_cons_succ]; rfl)))) | ((with_reducible apply seq_s); (focus rfl); (focus ((simp only [Act.put, List.setIfInBounds_toArray, List.set_cons_zero, List.set_cons_succ]; rfl)))) | with_reducible apply wp_block | with_reducible apply wp_skip | with_reducible apply wp_exit | with_reducible apply wp_ret | ((with_reducible apply wp_cond_true); (focus (first | rfl | (simp [go_sem, *]; done)))) | ((with_reducible apply wp_cond_false); (focus (first | rfl | (simp [go_sem, *]; done)))) | (simp only [Exit.then, Exit.inBlock, ↓reduceIte, Nat.reduceEqDiff]))
      go_ret
      refine ⟨_, rfl, RefW.congr ⟨hB_r, hB_l, ne⟩ (fun k hk => by simp [dec, upTo, hk]), ?_, ?_⟩
      · rw [← hbase] at hT
        exact hT.to_grown
      · rw [hbase]
        rcases hD.toB with ⟨hv, hn⟩ | ⟨g, cap, pad, hv, hgb, hB⟩
        · exact .inl ⟨hv, hn⟩
        · exact .inr ⟨g, cap, pad, hv, hgb, hB⟩
    case pos =>
      have hlt' : (i : Int) < 256 := by omega
      have eg := refC_get (L := upTo L i) hlt
      have es := refC_set (L := upTo L i) hlt (L i - 1)
      rw [upTo_next] at es
      rw [upTo_at] at eg
      have hnx := filt_next (p := fun k => decide (L k = 1)) i
      obtain ⟨lk, hlk⟩ : ∃ x, L i = x := ⟨_, rfl⟩
      have hlb : lk ≤ 65535 := by rw [← hlk]; exact hL i
      obtain ⟨m, hm⟩ : ∃ m, lk - 1 = m := ⟨_, rfl⟩
      rw [hlk, hm] at es
      rw [hlk] at eg
      have hmI : max 0 ((lk : Int) - 1) = (m : Int) := by omega
      have hlbI : (lk : Int) ≤ 65535 := by omega
      have hwr8 : IntKind.u8.wrap (i : Int) = (i : Int) := by rw [IntKind.wrap_u8]; omega
      obtain ⟨C, hC⟩ : ∃ C, refC (upTo L i) = C := ⟨_, rfl⟩
      obtain ⟨C2, hC2⟩ : ∃ C, refC (upTo L (i + 1)) = C := ⟨_, rfl⟩
      rw [hC, hC2] at es
      rw [hC] at eg hB_l
      have ES := Lib.hid es
      have HC2 := Lib.hid hC2
      have HLK := Lib.hid hlk
      have HM := Lib.hid hm
      have hlen : ((List.range i).filter (fun k => decide (L k = 1))).length ≤ 256 := Nat.le_trans (List.length_filter_le _ _) (by simp; omega)
      clear hC hC2 es hlk hm
      by_cases h1 : lk = 1
      case pos =>
        subst h1
        obtain rfl : m = 0 := by have := HM.out; omega
        have hdy : (List.range (i + 1)).filter (fun k => decide (L k = 1)) = (List.range i).filter (fun k => decide (L k = 1)) ++ [i] := by
          rw [hnx]
          simp [HLK.out]
        have hne : ∀ x, (Value.slice ao3 l3 c3).ownBlock = some x → base ≤ x := fun x hx => (World.ownsRow.lt hD x hx).1
        clear hnx
        skip
        have Fwr : Below wr.heap.size wr wr := Below.refl _ _
        have hc_r := hB_r.cell
        have hc_l := hB_l.cell
        repeat (first | with_reducible apply wpList_nil | with_reducible apply seq_region | with_reducible apply wp_region_lit | with_reducible apply wp_seq | ((with_reducible apply seq_q); (focus rfl); (focus (simp [go_sem, effAt, ↓IntWalk.iteOmega, *]; (try go_ints); (first | (with_reducible exact effUpon_val) | (with_reducible exact effUpon_skip)))); (focus ((simp only [Act.put, List.setIfInBounds_toArray, List.set_cons_zero, List.set_cons_succ]; rfl)))) | ((with_reducible apply seq_s); (focus rfl); (focus ((simp only [Act.put, List.setIfInBounds_toArray, List.set_cons_zero, List.set_cons_succ]; rfl)))) | with_reducible apply wp_block | with_reducible apply wp_skip | with_reducible apply wp_exit | with_reducible apply wp_ret | ((with_reducible apply wp_cond_true); (focus (first | rfl | (simp [go_sem, *]; done)))) | ((with_reducible apply wp_cond_false); (focus (first | rfl | (simp [go_sem, *]; done)))) | (simp only [Exit.then, Exit.inBlock, ↓reduceIte, Nat.reduceEqDiff]))
        have lt_r_y := hB_r.lt
        have lt_l_y := hB_l.lt
        ((with_reducible apply seq_box); (focus rfl); (focus (simp [go_sem, effAt]; exact ⟨rfl, rfl⟩)); (focus ((simp only [Act.put, List.setIfInBounds_toArray, List.set_cons_zero, List.set_cons_succ]; rfl))))
        intro w1 hB_y hs
        have Fw1 := Fwr.trans (hs.mono Fwr.size)
        replace hB_r := hB_r.below hs hB_r.lt
        replace hB_l := hB_l.below hs hB_l.lt
        clear hs Fwr
        clear hc_r; have hc_r := hB_r.cell
        clear hc_l; have hc_l := hB_l.cell
        have hc_y := hB_y.cell
        repeat (first | with_reducible apply wpList_nil | with_reducible apply seq_region | with_reducible apply wp_region_lit | with_reducible apply wp_seq | ((with_reducible apply seq_q); (focus rfl); (focus (simp [go_sem, effAt, ↓IntWalk.iteOmega, *]; (try go_ints); (first | (with_reducible exact effUpon_val) | (with_reducible exact effUpon_skip)))); (focus ((simp only [Act.put, List.setIfInBounds_toArray, List.set_cons_zero, List.set_cons_succ]; rfl)))) | ((with_reducible apply seq_s); (focus rfl); (focus ((simp only [Act.put, List.setIfInBounds_toArray, List.set_cons_zero, List.set_cons_succ]; rfl)))) | with_reducible apply wp_block | with_reducible apply wp_skip | with_reducible apply wp_exit | with_reducible apply wp_ret | ((with_reducible apply wp_cond_true); (focus (first | rfl | (simp [go_sem, *]; done)))) | ((with_reducible apply wp_cond_false); (focus (first | rfl | (simp [go_sem, *]; done)))) | (simp only [Exit.then, Exit.inBlock, ↓reduceIte, Nat.reduceEqDiff]))
        have hB_y' := hB_y
        obtain ⟨v', u2, hap, hDu, hgu, ⟨ao', l', c', rfl⟩⟩ := due_append (hD.kept (T := fun _ => False) (Turn.of_below Fw1) (fun _ _ _ h => h)) hB_y' (by omega) (by have := Fw1.size; omega)
        have Tu : Turn (fun i => base ≤ i) wr u2 := (Turn.of_below Fw1).trans ⟨hgu.os, hgu.tape, hgu.output, hgu.size, fun i hi hn => hgu.block i hi (fun e => hn (hne i e.symm))⟩
        have hr2 := hB_r.grown hgu (fun e => by have := hne r e.symm; omega)
        have hl2 := hB_l.grown hgu (fun e => by have := hne la e.symm; omega)
        have hTu := hT.trans (Tu.mono (T' := fun j => j = la ∨ base ≤ j) (fun _ h => .inr h))
        rw [← hdy] at hDu
        with_reducible apply seq_e (fun w' => w' = u2)
        (focus (first | exact wanted_none rfl | exact wanted_yes rfl rfl rfl))
        focus exact eff_append rfl rfl rfl hap
        (simp only [Act.put, List.setIfInBounds_toArray, List.set_cons_zero, List.set_cons_succ]; rfl)
        intro x hx
        obtain rfl : u2 = x := hx.symm
        clear hap hB_y hB_y' hc_y hB_r hc_r hB_l hc_l hD hT hdy hne hgu Tu
        have hB_r := hr2
        have hB_l := hl2
        clear hr2 hl2
        have zu := hTu.size
        skip
        have Fu2 : Below u2.heap.size u2 u2 := Below.refl _ _
        have hc_r := hB_r.cell
        have hc_l := hB_l.cell
        repeat (first | with_reducible apply wpList_nil | with_reducible apply seq_region | with_reducible apply wp_region_lit | with_reducible apply wp_seq | ((with_reducible apply seq_q); (focus rfl); (focus (simp [go_sem, effAt, ↓IntWalk.iteOmega, *]; (try go_ints); (first | (with_reducible exact effUpon_val) | (with_reducible exact effUpon_skip)))); (focus ((simp only [Act.put, List.setIfInBounds_toArray, List.set_cons_zero, List.set_cons_succ]; rfl)))) | ((with_reducible apply seq_s); (focus rfl); (focus ((simp only [Act.put, List.setIfInBounds_toArray, List.set_cons_zero, List.set_cons_succ]; rfl)))) | with_reducible apply wp_block | with_reducible apply wp_skip | with_reducible apply wp_exit | with_reducible apply wp_ret | ((with_reducible apply wp_cond_true); (focus (first | rfl | (simp [go_sem, *]; done)))) | ((with_reducible apply wp_cond_false); (focus (first | rfl | (simp [go_sem, *]; done)))) | (simp only [Exit.then, Exit.inBlock, ↓reduceIte, Nat.reduceEqDiff]))
        refine wp_region_effA (S := fun w' : World => w'.cell? ⟨r, 0, none⟩ = some (.slice (some ⟨la, 0, none⟩) 256 256)) (I := (· = World.drew u2)) (E := fun i => [15].contains i) (A := fun i => [11].contains i) (by kernel_rfl) (by kernel_rfl) rfl (fun _ h => by subst h; rw [hB_r.drew.cell]; rfl) ?_
        repeat (first | ((with_reducible apply lexA_q); (focus rfl); (focus rfl); (focus rfl); (focus (intro w' hS; skip; simp [go_sem, effAt, ↓IntWalk.iteOmega, *]; (try go_ints); (first | (with_reducible exact effUpon_val) | (with_reducible exact effUpon_skip)))); (focus ((simp only [Act.put, List.setIfInBounds_toArray, List.set_cons_zero, List.set_cons_succ]; rfl)))) | ((with_reducible apply lexA_s); (focus rfl); (focus ((simp only [Act.put, List.setIfInBounds_toArray, List.set_cons_zero, List.set_cons_succ]; rfl)))))
        ((with_reducible apply lexA_a); (focus rfl); (focus rfl); (focus rfl); (focus (intro w' hS; subst hS; have hc_l := hB_l.drew.cell; simp [go_sem, effAt, ↓IntWalk.iteOmega, *]; (try go_ints); (first | (with_reducible exact effUpon_val) | (with_reducible exact effUpon_skip)))); (focus ((simp only [Act.put, List.setIfInBounds_toArray, List.set_cons_zero, List.set_cons_succ]; rfl))))
        repeat (first | ((with_reducible apply lexA_q); (focus rfl); (focus rfl); (focus rfl); (focus (intro w' hS; skip; simp [go_sem, effAt, ↓IntWalk.iteOmega, *]; (try go_ints); (first | (with_reducible exact effUpon_val) | (with_reducible exact effUpon_skip)))); (focus ((simp only [Act.put, List.setIfInBounds_toArray, List.set_cons_zero, List.set_cons_succ]; rfl)))) | ((with_reducible apply lexA_s); (focus rfl); (focus ((simp only [Act.put, List.setIfInBounds_toArray, List.set_cons_zero, List.set_cons_succ]; rfl)))))
        with_reducible apply lexA_e (fun w' => Blk w' la 3 C2 ∧ World.grownBy u2 w' (some la))
        (focus (first | exact wanted_none rfl | exact wanted_yes rfl rfl rfl))
        focus rfl
        focus
          rintro w' hS
          subst hS
          have hf_l := hB_l.drew.frozen
          have hc_l' := hB_l.drew.cell
          simp [go_sem, effAt, *]
          exact ⟨rfl, by have h9 := (hB_l.set_ i (.int .i64 0)).drew; have h8 := ES.out; (try rw [show ((0 : Nat) : Int) = 0 from rfl] at h8); rw [h8] at h9; simpa using h9, by have h9 := grown_set (g := la) (i := i) (u := .int .i64 0) (World.grownBy.refl u2 (some la)); exact ⟨h9.os, h9.tape, h9.output, h9.size, h9.block⟩⟩
        focus
          rintro w' ⟨_, hg⟩
          rw [(hB_r.grown hg (by simpa using ne)).cell]
          rfl
        (simp only [Act.put, List.setIfInBounds_toArray, List.set_cons_zero, List.set_cons_succ]; rfl)
        with_reducible apply lexA_nil
        rintro u3 ⟨hB_n, hg_n⟩
        have hr3 := hB_r.grown hg_n (by simpa using ne)
        have hD3 : DueAt base u3 _ _ := hDu.kept (Turn.of_grown (T := fun i => i = la) hg_n rfl) (fun i hi _ e => by omega)
        have hT3 := hTu.trans (Turn.of_grown (T := fun j => j = la ∨ base ≤ j) hg_n (.inl rfl))
        clear hB_r hc_r hB_l hc_l hDu hTu
        have Fu3 : Below u3.heap.size u3 u3 := Below.refl _ _
        repeat (first | with_reducible apply wpList_nil | with_reducible apply seq_region | with_reducible apply wp_region_lit | with_reducible apply wp_seq | ((with_reducible apply seq_q); (focus rfl); (focus (simp [go_sem, effAt, ↓IntWalk.iteOmega, *]; (try go_ints); (first | (with_reducible exact effUpon_val) | (with_reducible exact effUpon_skip)))); (focus ((simp only [Act.put, List.setIfInBounds_toArray, List.set_cons_zero, List.set_cons_succ]; rfl)))) | ((with_reducible apply seq_s); (focus rfl); (focus ((simp only [Act.put, List.setIfInBounds_toArray, List.set_cons_zero, List.set_cons_succ]; rfl)))) | with_reducible apply wp_block | with_reducible apply wp_skip | with_reducible apply wp_exit | with_reducible apply wp_ret | ((with_reducible apply wp_cond_true); (focus (first | rfl | (simp [go_sem, *]; done)))) | ((with_reducible apply wp_cond_false); (focus (first | rfl | (simp [go_sem, *]; done)))) | (simp only [Exit.then, Exit.inBlock, ↓reduceIte, Nat.reduceEqDiff]))
        refine hK _ _ (Handed.intro (gk - 1) ?measure (hJ _ _ _ ?_))
        rotate_left
        (repeat apply Exists.intro)
        refine ⟨?rel, rfl⟩
        case rel => exact ⟨i + 1, by go_num, by omega, ⟨_, _, _, rfl⟩, ⟨hr3, by rw [HC2.out]; exact hB_n, ne⟩, hD3, hT3⟩
        case measure => omega
      case neg =>
        have hdn : (List.range (i + 1)).filter (fun k => decide (L k = 1)) = (List.range i).filter (fun k => decide (L k = 1)) := by
          rw [hnx]
          simp [HLK.out, h1]
        have h1' : ((lk : Int) == 1) = false := by simp; omega
        have hmx : (if 1 < (lk : Int) then (lk : Int) - 1 else 0) = (m : Int) := by have := HM.out; split <;> omega
        have hDu := hD
        have hTu := hT
        rw [← hdn] at hDu
        have zu := hTu.size
        clear hnx hdn hD hT h1
        skip
        have Fwr : Below wr.heap.size wr wr := Below.refl _ _
        have hc_r := hB_r.cell
        have hc_l := hB_l.cell
        repeat (first | with_reducible apply wpList_nil | with_reducible apply seq_region | with_reducible apply wp_region_lit | with_reducible apply wp_seq | ((with_reducible apply seq_q); (focus rfl); (focus (simp [go_sem, effAt, ↓IntWalk.iteOmega, *]; (try go_ints); (first | (with_reducible exact effUpon_val) | (with_reducible exact effUpon_skip)))); (focus ((simp only [Act.put, List.setIfInBounds_toArray, List.set_cons_zero, List.set_cons_succ]; rfl)))) | ((with_reducible apply seq_s); (focus rfl); (focus ((simp only [Act.put, List.setIfInBounds_toArray, List.set_cons_zero, List.set_cons_succ]; rfl)))) | with_reducible apply wp_block | with_reducible apply wp_skip | with_reducible apply wp_exit | with_reducible apply wp_ret | ((with_reducible apply wp_cond_true); (focus (first | rfl | (simp [go_sem, *]; done)))) | ((with_reducible apply wp_cond_false); (focus (first | rfl | (simp [go_sem, *]; done)))) | (simp only [Exit.then, Exit.inBlock, ↓reduceIte, Nat.reduceEqDiff]))
        refine wp_region_effA (S := fun w' : World => w'.cell? ⟨r, 0, none⟩ = some (.slice (some ⟨la, 0, none⟩) 256 256)) (I := (· = World.drew wr)) (E := fun i => [15].contains i) (A := fun i => [11].contains i) (by kernel_rfl) (by kernel_rfl) rfl (fun _ h => by subst h; rw [hB_r.drew.cell]; rfl) ?_
        repeat (first | ((with_reducible apply lexA_q); (focus rfl); (focus rfl); (focus rfl); (focus (intro w' hS; skip; simp [go_sem, effAt, ↓IntWalk.iteOmega, *]; (try go_ints); (first | (with_reducible exact effUpon_val) | (with_reducible exact effUpon_skip)))); (focus ((simp only [Act.put, List.setIfInBounds_toArray, List.set_cons_zero, List.set_cons_succ]; rfl)))) | ((with_reducible apply lexA_s); (focus rfl); (focus ((simp only [Act.put, List.setIfInBounds_toArray, List.set_cons_zero, List.set_cons_succ]; rfl)))))
        ((with_reducible apply lexA_a); (focus rfl); (focus rfl); (focus rfl); (focus (intro w' hS; subst hS; have hc_l := hB_l.drew.cell; simp [go_sem, effAt, ↓IntWalk.iteOmega, *]; (try go_ints); (first | (with_reducible exact effUpon_val) | (with_reducible exact effUpon_skip)))); (focus ((simp only [Act.put, List.setIfInBounds_toArray, List.set_cons_zero, List.set_cons_succ]; rfl))))
        repeat (first | ((with_reducible apply lexA_q); (focus rfl); (focus rfl); (focus rfl); (focus (intro w' hS; skip; simp [go_sem, effAt, ↓IntWalk.iteOmega, *]; (try go_ints); (first | (with_reducible exact effUpon_val) | (with_reducible exact effUpon_skip)))); (focus ((simp only [Act.put, List.setIfInBounds_toArray, List.set_cons_zero, List.set_cons_succ]; rfl)))) | ((with_reducible apply lexA_s); (focus rfl); (focus ((simp only [Act.put, List.setIfInBounds_toArray, List.set_cons_zero, List.set_cons_succ]; rfl)))))
        with_reducible apply lexA_e (fun w' => Blk w' la 3 C2 ∧ World.grownBy wr w' (some la))
        (focus (first | exact wanted_none rfl | exact wanted_yes rfl rfl rfl))
        focus rfl
        focus
          rintro w' hS
          subst hS
          have hf_l := hB_l.drew.frozen
          have hc_l' := hB_l.drew.cell
          simp [go_sem, effAt, *]
          exact ⟨rfl, by have h9 := (hB_l.set_ i (.int .i64 (m : Int))).drew; have h8 := ES.out; (try rw [show ((0 : Nat) : Int) = 0 from rfl] at h8); rw [h8] at h9; simpa using h9, by have h9 := grown_set (g := la) (i := i) (u := .int .i64 (m : Int)) (World.grownBy.refl wr (some la)); exact ⟨h9.os, h9.tape, h9.output, h9.size, h9.block⟩⟩
        focus
          rintro w' ⟨_, hg⟩
          rw [(hB_r.grown hg (by simpa using ne)).cell]
          rfl
        (simp only [Act.put, List.setIfInBounds_toArray, List.set_cons_zero, List.set_cons_succ]; rfl)
        with_reducible apply lexA_nil
        rintro u3 ⟨hB_n, hg_n⟩
        have hr3 := hB_r.grown hg_n (by simpa using ne)
        have hD3 : DueAt base u3 _ _ := hDu.kept (Turn.of_grown (T := fun i => i = la) hg_n rfl) (fun i hi _ e => by omega)
        have hT3 := hTu.trans (Turn.of_grown (T := fun j => j = la ∨ base ≤ j) hg_n (.inl rfl))
        clear hB_r hc_r hB_l hc_l hDu hTu
        have Fu3 : Below u3.heap.size u3 u3 := Below.refl _ _
        repeat (first | with_reducible apply wpList_nil | with_reducible apply seq_region | with_reducible apply wp_region_lit | with_reducible apply wp_seq | ((with_reducible apply seq_q); (focus rfl); (focus (simp [go_sem, effAt, ↓IntWalk.iteOmega, *]; (try go_ints); (first | (with_reducible exact effUpon_val) | (with_reducible exact effUpon_skip)))); (focus ((simp only [Act.put, List.setIfInBounds_toArray, List.set_cons_zero, List.set_cons_succ]; rfl)))) | ((with_reducible apply seq_s); (focus rfl); (focus ((simp only [Act.put, List.setIfInBounds_toArray, List.set_cons_zero, List.set_cons_succ]; rfl)))) | with_reducible apply wp_block | with_reducible apply wp_skip | with_reducible apply wp_exit | with_reducible apply wp_ret | ((with_reducible apply wp_cond_true); (focus (first | rfl | (simp [go_sem, *]; done)))) | ((with_reducible apply wp_cond_false); (focus (first | rfl | (simp [go_sem, *]; done)))) | (simp only [Exit.then, Exit.inBlock, ↓reduceIte, Nat.reduceEqDiff]))
        refine hK _ _ (Handed.intro (gk - 1) ?measure (hJ _ _ _ ?_))
        rotate_left
        (repeat apply Exists.intro)
        refine ⟨?rel, rfl⟩
        case rel => exact ⟨i + 1, by go_num, by omega, ⟨_, _, _, rfl⟩, ⟨hr3, by rw [HC2.out]; exact hB_n, ne⟩, hD3, hT3⟩
        case measure => omega
end Go.Proofs.Ytckjgdlceckhpaa
