/- The walk of Set. -/
import Derived.Test.YtckjgdlceckhpaaKf
import Derived.Test.YtckjgdlceckhpaaOg
import Derived.Test.YtckjgdlceckhpaaW5
set_option linter.unusedSimpArgs false
set_option linter.unusedVariables false
namespace Go.Proofs.Ytckjgdlceckhpaa
open Go.RowKit Go.Eff
attribute [local irreducible] Go.wpList Go.wpOp Go.Eff.wpAnyG
theorem info50m : (Try.prog.info? 50).map (fun i => (i.zero, i.size, i.bytes)) = some (some (.pointer none), 1, 8) := by kernel_rfl
theorem info50 : ∃ i0, Try.prog.info? 50 = some i0 ∧ i0.zero = some (.pointer none) ∧ i0.size = 1 ∧ i0.bytes = 8 := by
  have h := info50m
  cases hi : Try.prog.info? 50 with
  | none => rw [hi] at h; cases h
  | some i0 =>
    rw [hi] at h
    simp only [Option.map_some, Option.some.injEq, Prod.mk.injEq] at h
    exact ⟨i0, rfl, h.1, h.2.1, h.2.2⟩
def RowAt (w : World) (v : Value) (ps : List Nat) : Prop := w.ownsRow 0 50 1 v ps.length (ps.map ptr)
theorem rowAt_nil (w : World) : RowAt w (.slice none 0 0) [] := World.ownsRow_nil w 0 50 1
theorem rowAt_some {w : World} {g : Nat} {ps : List Nat} {pad : List Value} (h : Blk w g 50 (rowL ps pad)) (hm : ps.length + pad.length ≤ maxLen) : RowAt w (.slice (some ⟨g, 0, none⟩) ps.length (ps.length + pad.length)) ps := by
  refine ⟨by simp, .inr ⟨g, _, _, rfl, Nat.zero_le _, h, by omega, hm, ?_, ?_⟩⟩
  · simp [rowL]
  · simp only [rowL, Nat.mul_one]
    rw [List.take_left' (by simp)]
theorem row_append {u : World} {v : Value} {ps : List Nat} {s b : Nat} (h : RowAt u v ps) (hs : Blk u s 50 #[ptr b]) (hq : ps.length ≤ 1000) :
    ∃ v' u' g' pad', (Builtin.append_ #[53, 53] 53 #[v, .slice (some ⟨s, 0, none⟩) 1 1]).run Try.prog u = .ok v' u' ∧ v' = .slice (some ⟨g', 0, none⟩) (ps.length + 1) (ps.length + 1 + pad'.length) ∧ Blk u' g' 50 (rowL (ps ++ [b]) pad') ∧ ps.length + 1 + pad'.length ≤ maxLen ∧ u.grownBy u' v.ownBlock ∧ (v.ownBlock = some g' ∨ g' = u.heap.size) := by
  obtain ⟨i0, hi, hz, h1, hb⟩ := info50
  have hnews : ∀ j x, [ptr b][j]? = some x → u.cell? ((⟨s, 0, none⟩ : Addr).add j) = some x := fun j x hj => by
    rw [Addr.add_lit, Nat.zero_add, hs.cell]
    simpa using hj
  obtain ⟨v', u', hr, ho, hg, _, hat⟩ := run_append_own_at (P := Try.prog) u 0 53 53 50 i0 (.pointer none) 1 8 Try.underlying53 hi hz h1 hb rfl (by omega) v ps.length (ps.map ptr) h ⟨s, 0, none⟩ 1 1 [ptr b] rfl hnews (by simp [Value.oneCell']) (by simp only [maxLen]; omega) (by omega) (Nat.zero_le _)
  rcases ho.2 with ⟨_, hn⟩ | ⟨g', cap', cur, rfl, _, hgg, hnc, hcm, hcs, htake⟩
  · omega
  · have hlen : cur.toList.length = cap' := by rw [Array.length_toList, hcs, Nat.mul_one]
    have hcur : cur = rowL (ps ++ [b]) (cur.toList.drop (ps.length + 1)) := by
      unfold rowL
      apply Array.ext'
      rw [List.map_append, List.map_cons, List.map_nil, ← htake, Nat.mul_one]
      exact (List.take_append_drop _ _).symm
    have hdl : (cur.toList.drop (ps.length + 1)).length = cap' - (ps.length + 1) := by rw [List.length_drop, hlen]
    refine ⟨_, u', g', cur.toList.drop (ps.length + 1), hr, ?_, ?_, by omega, hg, ?_⟩
    · rw [hdl, show ps.length + 1 + (cap' - (ps.length + 1)) = cap' by omega]
    · rw [← hcur]; exact hgg
    · rcases hat with e | e
      · exact .inl e.symm
      · injection e with e; exact .inr e
theorem eff_append {P : Program} {o : Oper} {a : Act} {w w' : World} {sv va vb : Value} {x y : Operand} {ats : Array TypeId} (ho : o.op = .call ⟨.builtin .append, #[x, y], ats⟩) (hx : a.eval x = va) (hy : a.eval y = vb)
    (h : (Builtin.append_ ats o.type #[va, vb]).run P w = .ok sv w') : effAt P o a w sv (fun u => u = w') := by
  obtain ⟨dst, op, ty, pos, after, guard⟩ := o
  dsimp only at ho h
  subst ho
  unfold effAt
  show effUpon P sv _ ((do pure (Next.value (← Builtin.append_ ats ty ((#[x, y] : Array Operand).map a.eval))) : Sem Next).run P w)
  have e : (#[x, y] : Array Operand).map a.eval = #[va, vb] := by simp [hx, hy]
  rw [e, Sem.run_bind, h]
  exact ⟨rfl, rfl⟩
def lateS (i : Nat) : Bool := i == 22
theorem set_nil (k t : Int) (w : World) : Calls Try.prog 14 #[.pointer none, .int .u8 k, .int .i64 t] w (Ret (.int .i64 1) (Below w.heap.size w)) := by
  go_enter Try.func14, Try.ntmps14
  have F0 : Below w.heap.size w w := Below.refl _ _
  repeat (first | with_reducible apply wpList_nil | ((with_reducible apply region_k); intro KK kk) | with_reducible apply wp_region_lit | ((with_reducible apply seq_k); intro KK kk) | ((with_reducible apply seq_q); (focus (first | exact wanted_none rfl | exact wanted_yes rfl rfl rfl)); (focus (simp [go_sem, effAt, ↓IntWalk.iteOmega, *]; (try go_ints); (first | (with_reducible exact effUpon_val) | (with_reducible exact effUpon_skip)))); (focus ((first | (apply put_some rfl; focus (conv => lhs; dsimp only [List.set_cons_zero, List.set_cons_succ]) <;> rfl) | exact put_none rfl)))) | ((with_reducible apply seq_s); (focus (first | exact wanted_no rfl rfl rfl | exact wanted_undef rfl rfl rfl)); (focus ((first | (apply put_some rfl; focus (conv => lhs; dsimp only [List.set_cons_zero, List.set_cons_succ]) <;> rfl) | exact put_none rfl)))) | with_reducible apply wp_block | with_reducible apply wp_skip | with_reducible apply wp_exit | with_reducible apply wp_ret | ((with_reducible apply wp_cond_true); (focus (first | rfl | (simp [go_sem, *]; done)))) | ((with_reducible apply wp_cond_false); (focus (first | rfl | (simp [go_sem, *]; done)))) | (simp only [Exit.then, Exit.inBlock, ↓reduceIte, Nat.reduceEqDiff]) | ((with_reducible apply kf_out); (focus assumption)))
  go_ret
  exact ⟨rfl, by assumption⟩
theorem set_no (p : Nat) (k t : Int) (ht : t < 1 ∨ 65535 < t) (w : World) : Calls Try.prog 14 #[ptr p, .int .u8 k, .int .i64 t] w (Ret (.int .i64 2) (Below w.heap.size w)) := by
  by_cases h1 : t < 1
  case pos =>
    clear ht
    go_enter Try.func14, Try.ntmps14
    have F0 : Below w.heap.size w w := Below.refl _ _
    repeat (first | with_reducible apply wpList_nil | ((with_reducible apply region_k); intro KK kk) | with_reducible apply wp_region_lit | ((with_reducible apply seq_k); intro KK kk) | ((with_reducible apply seq_q); (focus (first | exact wanted_none rfl | exact wanted_yes rfl rfl rfl)); (focus (simp [go_sem, effAt, ↓IntWalk.iteOmega, *]; (try go_ints); (first | (with_reducible exact effUpon_val) | (with_reducible exact effUpon_skip)))); (focus ((first | (apply put_some rfl; focus (conv => lhs; dsimp only [List.set_cons_zero, List.set_cons_succ]) <;> rfl) | exact put_none rfl)))) | ((with_reducible apply seq_s); (focus (first | exact wanted_no rfl rfl rfl | exact wanted_undef rfl rfl rfl)); (focus ((first | (apply put_some rfl; focus (conv => lhs; dsimp only [List.set_cons_zero, List.set_cons_succ]) <;> rfl) | exact put_none rfl)))) | with_reducible apply wp_block | with_reducible apply wp_skip | with_reducible apply wp_exit | with_reducible apply wp_ret | ((with_reducible apply wp_cond_true); (focus (first | rfl | (simp [go_sem, *]; done)))) | ((with_reducible apply wp_cond_false); (focus (first | rfl | (simp [go_sem, *]; done)))) | (simp only [Exit.then, Exit.inBlock, ↓reduceIte, Nat.reduceEqDiff]) | ((with_reducible apply kf_out); (focus assumption)))
    go_ret
    exact ⟨rfl, by assumption⟩
  case neg =>
    have h2 : 65535 < t := by omega
    clear ht
    go_enter Try.func14, Try.ntmps14
    have F0 : Below w.heap.size w w := Below.refl _ _
    repeat (first | with_reducible apply wpList_nil | ((with_reducible apply region_k); intro KK kk) | with_reducible apply wp_region_lit | ((with_reducible apply seq_k); intro KK kk) | ((with_reducible apply seq_q); (focus (first | exact wanted_none rfl | exact wanted_yes rfl rfl rfl)); (focus (simp [go_sem, effAt, ↓IntWalk.iteOmega, *]; (try go_ints); (first | (with_reducible exact effUpon_val) | (with_reducible exact effUpon_skip)))); (focus ((first | (apply put_some rfl; focus (conv => lhs; dsimp only [List.set_cons_zero, List.set_cons_succ]) <;> rfl) | exact put_none rfl)))) | ((with_reducible apply seq_s); (focus (first | exact wanted_no rfl rfl rfl | exact wanted_undef rfl rfl rfl)); (focus ((first | (apply put_some rfl; focus (conv => lhs; dsimp only [List.set_cons_zero, List.set_cons_succ]) <;> rfl) | exact put_none rfl)))) | with_reducible apply wp_block | with_reducible apply wp_skip | with_reducible apply wp_exit | with_reducible apply wp_ret | ((with_reducible apply wp_cond_true); (focus (first | rfl | (simp [go_sem, *]; done)))) | ((with_reducible apply wp_cond_false); (focus (first | rfl | (simp [go_sem, *]; done)))) | (simp only [Exit.then, Exit.inBlock, ↓reduceIte, Nat.reduceEqDiff]) | ((with_reducible apply kf_out); (focus assumption)))
    go_ret
    exact ⟨rfl, by assumption⟩
def Wh.del (s : Wh) (k : Nat) : Wh := if k ∈ s.M then s.stop k else s
theorem stop_any {F : Nat → Prop} {w : World} {p k : Nat} {s : Wh} (h : WI F w p s) :
    Calls Try.prog 15 #[ptr p, .int .u8 (k : Int)] w (Ret (.bool (decide (k ∈ s.M))) fun w' => WI F w' p (s.del k) ∧ Turn (fun j => F j ∨ w.heap.size ≤ j) w w') := by
  unfold Wh.del
  by_cases hk : k ∈ s.M
  · rw [if_pos hk, decide_eq_true hk]
    exact stop_yes h hk
  · rw [if_neg hk, decide_eq_false hk]
    exact (stop_no h hk).mono fun e w' ⟨he, hb⟩ => ⟨he, h.frame (fun g hg hlt => hb.block g hlt) hb.size (fun _ h => h), Turn.of_below hb⟩
theorem not_mem_del {s : Wh} {k : Nat} (hnd : s.M.Nodup) : k ∉ (s.del k).M := by
  unfold Wh.del
  by_cases hk : k ∈ s.M
  · rw [if_pos hk]
    simp only [Wh.stop]
    exact List.Nodup.not_mem_erase hnd
  · rw [if_neg hk]; exact hk
theorem del_fields (s : Wh) (k : Nat) : (s.del k).n = s.n ∧ (s.del k).tt = s.tt ∧ (s.del k).Sl = s.Sl ∧ (s.del k).Rd = s.Rd := by
  unfold Wh.del
  by_cases hk : k ∈ s.M
  · rw [if_pos hk]; exact ⟨rfl, rfl, rfl, rfl⟩
  · rw [if_neg hk]; exact ⟨rfl, rfl, rfl, rfl⟩
/-- what Set needs of the wheel behind its Stop -/
structure PreS (w : World) (p n tt sb mb i : Nat) (v : Value) (ps : List Nat) (rows : Array Value) : Prop where
  p_s : p ≠ sb
  m_s : mb ≠ sb
  v_p : v.ownBlock ≠ some p
  v_s : v.ownBlock ≠ some sb
  v_m : v.ownBlock ≠ some mb
  v_l : ∀ g, v.ownBlock = some g → g < w.heap.size
  hp : Blk w p 49 #[.slice (some ⟨sb, 0, none⟩) n n, .int .i64 (tt : Int), .map (some mb)]
  hs : Blk w sb 53 rows
  row : rows[i]? = some v
  vs : ∃ ao l c, v = .slice ao l c
  hr : RowAt w v ps
  len : ps.length ≤ 256
theorem WI.preS {F : Nat → Prop} {w : World} {p i : Nat} {s : Wh} (h : WI F w p s) (hi : i < s.n) : PreS w p s.n s.tt s.sb s.mb i (s.rowV i) ((s.R i).map s.B) ((List.range s.n).map s.rowV).toArray := by
  have hsub : ∀ j ∈ s.R i, j ∈ s.M := fun j hj => ((h.mem _ hi j).1 hj).1
  have hlen : ((s.R i).map s.B).length ≤ 256 := by
    rw [List.length_map]
    exact nodup_len256 (h.ndr _ hi) (fun x hx => (h.lt x (hsub x hx)).1)
  have hrow := rowV_get s.rowV hi
  have hob : ∀ g, (s.rowV i).ownBlock = some g → s.blk p (.R i) = some g := by
    intro g hg
    cases hG : s.G i with
    | none => simp [Wh.rowV, hG, Value.ownBlock] at hg
    | some x =>
      obtain ⟨g', pad⟩ := x
      simp [Wh.rowV, hG, Value.ownBlock] at hg
      exact blk_R.2 ⟨hi, pad, by rw [hG, hg]⟩
  have ne : ∀ x b, s.blk p x = some b → x ≠ .R i → (s.rowV i).ownBlock ≠ some b := fun x b hx hxi e => hxi (h.ap x _ b hx (hob b e))
  refine ⟨fun e => (by have := h.ap .P .S p rfl (by rw [e]; rfl); cases this), fun e => (by have := h.ap .M .S s.mb rfl (by rw [e]; rfl); cases this), ne .P p rfl (by simp), ne .S _ rfl (by simp), ne .M _ rfl (by simp), fun g hg => (h.ft _ g (hob g hg)).2, h.hp, h.hs, hrow, ?_, ?_, hlen⟩
  · cases hG : s.G i with
    | none => exact ⟨none, 0, 0, by simp [Wh.rowV, hG]⟩
    | some x => exact ⟨some ⟨x.1, 0, none⟩, (s.R i).length, (s.R i).length + x.2.length, by simp [Wh.rowV, hG]⟩
  · cases hG : s.G i with
    | none =>
      have h0 := h.hr0 i hi hG
      simp only [Wh.rowV, hG, h0, List.map_nil]
      exact rowAt_nil w
    | some x =>
      obtain ⟨g, pad⟩ := x
      have h1 := h.hr i g pad hi hG
      have h2 : Blk w g 50 (rowL ((s.R i).map s.B) pad) := by
        have := h1.1
        unfold Wh.rowC at this
        unfold rowL
        rw [List.map_map]
        exact this
      have h3 := rowAt_some h2 (by rw [List.length_map]; exact h1.2)
      rw [List.length_map] at h3
      simp only [Wh.rowV, hG]
      exact h3
set_option maxRecDepth 100000 in
set_option maxHeartbeats 4000000 in
theorem set_walk {w : World} {p n tt sb mb i k t r : Nat} {v : Value} {ps : List Nat} {rows : Array Value} {M : List Nat} {B : Nat → Nat} {bo : Bool} {X : World → Prop}
    (hstop : Calls Try.prog 15 #[ptr p, .int .u8 (k : Int)] w (Ret (.bool bo) X))
    (hP : ∀ w1, X w1 → PreS w1 p n tt sb mb i v ps rows) (hM : ∀ w1, X w1 → ∃ es c, MapAt w1 mb es c ∧ EntsOf es M B) (hk : k ∉ M) (ht : 1 ≤ t) (ht2 : t ≤ 65535) (hn : n ≤ 256) (hn1 : 1 ≤ n) (htt : tt < n) (hi : Int.tmod ((tt : Int) + (t : Int)) (n : Int) = (i : Int)) (hr : Int.tdiv ((t : Int) - 1) (n : Int) = (r : Int)) (hin : i < n) (hr2 : r ≤ 100000) :
    Calls Try.prog 14 #[ptr p, .int .u8 (k : Int), .int .i64 (t : Int)] w (Ret (.int .i64 0) fun w' => ∃ w1 es c u b g' pad', X w1 ∧ w' = setB u mb (.map (es ++ [(⟨.int .u8 (k : Int), ptr b, c⟩ : MapEntry)]).toArray (c + 1)) ∧ MapAt u mb es c ∧ EntsOf es M B ∧ Turn (fun j => v.ownBlock = some j ∨ j = sb ∨ w1.heap.size ≤ j) w1 u ∧ w1.heap.size ≤ b ∧ (v.ownBlock = some g' ∨ w1.heap.size ≤ g') ∧ g' ≠ b ∧
      Blk u b 52 #[.int .u8 (k : Int), .int .i64 (i : Int), .int .i64 (r : Int)] ∧ Blk u g' 50 (rowL (ps ++ [b]) pad') ∧ ps.length + 1 + pad'.length ≤ maxLen ∧ Blk u sb 53 (rows.setIfInBounds i (.slice (some ⟨g', 0, none⟩) (ps.length + 1) (ps.length + 1 + pad'.length)))) := by
  have b1 : (n : Int) ≤ 256 := by omega
  have b2 : (tt : Int) < (n : Int) := by omega
  have b3 : (i : Int) < (n : Int) := by omega
  have b4 : ¬ (t : Int) < 1 := by omega
  have b5 : ¬ 65535 < (t : Int) := by omega
  have b6 : 1 ≤ (n : Int) := by omega
  have b7 : ((n : Int) == 0) = false := by simp; omega
  have b8 : (r : Int) ≤ 100000 := by omega
  have HP := Lib.hid hP
  have HM := Lib.hid hM
  clear hP hM
  go_enter Try.func14, Try.ntmps14
  have F0 : Below w.heap.size w w := Below.refl _ _
  repeat (first | with_reducible apply wpList_nil | ((with_reducible apply region_k); intro KK kk) | with_reducible apply wp_region_lit | ((with_reducible apply seq_k); intro KK kk) | ((with_reducible apply seq_q); (focus (first | exact wanted_none rfl | exact wanted_yes rfl rfl rfl)); (focus (simp [go_sem, effAt, ↓IntWalk.iteOmega, *]; (try go_ints); (first | (with_reducible exact effUpon_val) | (with_reducible exact effUpon_skip)))); (focus ((first | (apply put_some rfl; focus (conv => lhs; dsimp only [List.set_cons_zero, List.set_cons_succ]) <;> rfl) | exact put_none rfl)))) | ((with_reducible apply seq_s); (focus (first | exact wanted_no rfl rfl rfl | exact wanted_undef rfl rfl rfl)); (focus ((first | (apply put_some rfl; focus (conv => lhs; dsimp only [List.set_cons_zero, List.set_cons_succ]) <;> rfl) | exact put_none rfl)))) | with_reducible apply wp_block | with_reducible apply wp_skip | with_reducible apply wp_exit | with_reducible apply wp_ret | ((with_reducible apply wp_cond_true); (focus (first | rfl | (simp [go_sem, *]; done)))) | ((with_reducible apply wp_cond_false); (focus (first | rfl | (simp [go_sem, *]; done)))) | (simp only [Exit.then, Exit.inBlock, ↓reduceIte, Nat.reduceEqDiff]) | ((with_reducible apply kf_out); (focus assumption)))
  with_reducible apply seq_e X
  (focus (first | exact wanted_none rfl | exact wanted_yes rfl rfl rfl))
  (focus (simp only [effAt]; simp [go_sem]; (with_reducible exact effUpon_enter hstop)))
  (first | (apply put_some rfl; focus (conv => lhs; dsimp only [List.set_cons_zero, List.set_cons_succ]) <;> rfl) | exact put_none rfl)
  rintro w0 hX1
  obtain ⟨es, c, hM, hE⟩ := HM.out w0 hX1
  obtain ⟨pS, mS, vp, vS, vm, vl, hB_p, hB_s, hrow, ⟨ao, lv, cv, rfl⟩, hRow, hlen⟩ := HP.out w0 hX1
  clear HP HM hstop F0
  have lp := hB_p.lt
  have ls := hB_s.lt
  have lm := hM.lt
  have Fw0 : Below w0.heap.size w0 w0 := Below.refl _ _
  have hc_p := hB_p.cell
  have hc_s := hB_s.cell
  repeat (first | with_reducible apply wpList_nil | ((with_reducible apply region_k); intro KK kk) | with_reducible apply wp_region_lit | ((with_reducible apply seq_k); intro KK kk) | ((with_reducible apply seq_q); (focus (first | exact wanted_none rfl | exact wanted_yes rfl rfl rfl)); (focus (simp [go_sem, effAt, ↓IntWalk.iteOmega, *]; (try go_ints); (first | (with_reducible exact effUpon_val) | (with_reducible exact effUpon_skip)))); (focus ((first | (apply put_some rfl; focus (conv => lhs; dsimp only [List.set_cons_zero, List.set_cons_succ]) <;> rfl) | exact put_none rfl)))) | ((with_reducible apply seq_s); (focus (first | exact wanted_no rfl rfl rfl | exact wanted_undef rfl rfl rfl)); (focus ((first | (apply put_some rfl; focus (conv => lhs; dsimp only [List.set_cons_zero, List.set_cons_succ]) <;> rfl) | exact put_none rfl)))) | with_reducible apply wp_block | with_reducible apply wp_skip | with_reducible apply wp_exit | with_reducible apply wp_ret | ((with_reducible apply wp_cond_true); (focus (first | rfl | (simp [go_sem, *]; done)))) | ((with_reducible apply wp_cond_false); (focus (first | rfl | (simp [go_sem, *]; done)))) | (simp only [Exit.then, Exit.inBlock, ↓reduceIte, Nat.reduceEqDiff]) | ((with_reducible apply kf_out); (focus assumption)))
  refine wp_region_eff (S := Below w0.heap.size w0) (I := (· = w0.drew)) (E := fun i => [14].contains i) (by kernel_rfl) (by kernel_rfl) rfl (fun _ h => h ▸ (Below.refl _ _).drew) ?_
  repeat (first | ((with_reducible apply lex_q); (focus (first | exact wanted_none rfl | exact wanted_yes rfl rfl rfl)); (focus rfl); (focus (intro w' hS; have hc_p := (hB_p.below hS hB_p.lt).cell; have hc_s := (hB_s.below hS hB_s.lt).cell; simp [go_sem, effAt, ↓IntWalk.iteOmega, *]; (try go_ints); (first | (with_reducible exact effUpon_val) | (with_reducible exact effUpon_skip)))); (focus ((first | (apply put_some rfl; focus (conv => lhs; dsimp only [List.set_cons_zero, List.set_cons_succ]) <;> rfl) | exact put_none rfl)))) | ((with_reducible apply lex_s); (focus (first | exact wanted_no rfl rfl rfl | exact wanted_undef rfl rfl rfl)); (focus ((first | (apply put_some rfl; focus (conv => lhs; dsimp only [List.set_cons_zero, List.set_cons_succ]) <;> rfl) | exact put_none rfl)))))
  ((with_reducible apply lex_e (fun w' => Blk w' w0.heap.size _ _ ∧ Below w0.heap.size w0 w')); (focus rfl); (focus rfl); (focus (intro w' hw'; subst hw'; simp [go_sem, effAt]; exact ⟨rfl, Blk.new _ _ _, (Below.refl _ _).drew.alloc (Nat.le_refl _) _⟩)); (focus (exact fun _ h => h.2)); (focus ((first | (apply put_some rfl; focus (conv => lhs; dsimp only [List.set_cons_zero, List.set_cons_succ]) <;> rfl) | exact put_none rfl))))
  repeat (first | ((with_reducible apply lex_q); (focus (first | exact wanted_none rfl | exact wanted_yes rfl rfl rfl)); (focus rfl); (focus (intro w' hS; have hc_p := (hB_p.below hS hB_p.lt).cell; have hc_s := (hB_s.below hS hB_s.lt).cell; simp [go_sem, effAt, ↓IntWalk.iteOmega, *]; (try go_ints); (first | (with_reducible exact effUpon_val) | (with_reducible exact effUpon_skip)))); (focus ((first | (apply put_some rfl; focus (conv => lhs; dsimp only [List.set_cons_zero, List.set_cons_succ]) <;> rfl) | exact put_none rfl)))) | ((with_reducible apply lex_s); (focus (first | exact wanted_no rfl rfl rfl | exact wanted_undef rfl rfl rfl)); (focus ((first | (apply put_some rfl; focus (conv => lhs; dsimp only [List.set_cons_zero, List.set_cons_succ]) <;> rfl) | exact put_none rfl)))))
  with_reducible apply lex_nil
  rintro w1 ⟨hB_e, F01⟩
  obtain ⟨be, hbe⟩ : ∃ be, w0.heap.size = be := ⟨_, rfl⟩
  rw [hbe] at hB_e lp ls lm vl ⊢
  have z1 := F01.size
  have hp1 := hB_p.below F01 hB_p.lt
  have hs1 := hB_s.below F01 hB_s.lt
  have hr1 : RowAt w1 (.slice ao lv cv) ps := hRow.kept (grown_below F01 none) (by cases ao <;> simp [Value.ownBlock])
  have hM1 := hM.below F01
  clear hB_p hB_s hc_p hc_s hRow hM
  have hB_p := hp1
  have hB_s := hs1
  clear hp1 hs1
  have le := hB_e.lt
  have Fw1 : Below w1.heap.size w1 w1 := Below.refl _ _
  repeat (first | with_reducible apply wpList_nil | ((with_reducible apply region_k); intro KK kk) | with_reducible apply wp_region_lit | ((with_reducible apply seq_k); intro KK kk) | ((with_reducible apply seq_q); (focus (first | exact wanted_none rfl | exact wanted_yes rfl rfl rfl)); (focus (simp [go_sem, effAt, ↓IntWalk.iteOmega, *]; (try go_ints); (first | (with_reducible exact effUpon_val) | (with_reducible exact effUpon_skip)))); (focus ((first | (apply put_some rfl; focus (conv => lhs; dsimp only [List.set_cons_zero, List.set_cons_succ]) <;> rfl) | exact put_none rfl)))) | ((with_reducible apply seq_s); (focus (first | exact wanted_no rfl rfl rfl | exact wanted_undef rfl rfl rfl)); (focus ((first | (apply put_some rfl; focus (conv => lhs; dsimp only [List.set_cons_zero, List.set_cons_succ]) <;> rfl) | exact put_none rfl)))) | with_reducible apply wp_block | with_reducible apply wp_skip | with_reducible apply wp_exit | with_reducible apply wp_ret | ((with_reducible apply wp_cond_true); (focus (first | rfl | (simp [go_sem, *]; done)))) | ((with_reducible apply wp_cond_false); (focus (first | rfl | (simp [go_sem, *]; done)))) | (simp only [Exit.then, Exit.inBlock, ↓reduceIte, Nat.reduceEqDiff]) | ((with_reducible apply kf_out); (focus assumption)))
  obtain ⟨u0', hu0⟩ : ∃ u0, w1.drew = u0 := ⟨_, rfl⟩
  refine late_region 23 (fun w' : World => Blk w' p 49 #[.slice (some ⟨sb, 0, none⟩) n n, .int .i64 (tt : Int), .map (some mb)] ∧ Blk w' be 52 #[.int .u8 (k : Int), .int .i64 (i : Int), .int .i64 (r : Int)] ∧ w'.cell? ⟨sb, i, none⟩ = some (.slice ao lv cv)) lateS (by kernel_rfl) (by kernel_rfl) ?_
  rw [hu0]
  have hp0 : Blk u0' p 49 #[.slice (some ⟨sb, 0, none⟩) n n, .int .i64 (tt : Int), .map (some mb)] := by rw [← hu0]; exact hB_p
  have he0 : Blk u0' be 52 #[.int .u8 (k : Int), .int .i64 (i : Int), .int .i64 (r : Int)] := by rw [← hu0]; exact hB_e
  have hs0 : Blk u0' sb 53 rows := by rw [← hu0]; exact hB_s
  have hr0 : RowAt u0' (.slice ao lv cv) ps := by rw [← hu0]; exact hr1
  have hM0 : MapAt u0' mb es c := by rw [← hu0]; exact hM1
  have F1 : Below be w0 u0' := by rw [← hu0]; rw [hbe] at F01; exact F01.drew
  have hS0 : Blk u0' p 49 #[.slice (some ⟨sb, 0, none⟩) n n, .int .i64 (tt : Int), .map (some mb)] ∧ Blk u0' be 52 #[.int .u8 (k : Int), .int .i64 (i : Int), .int .i64 (r : Int)] ∧ u0'.cell? ⟨sb, i, none⟩ = some (.slice ao lv cv) := ⟨hp0, he0, by rw [hs0.cell]; exact hrow⟩
  clear hB_p hB_s hB_e hr1 hM1 F01 hu0
  (with_reducible apply late_v 0)
  (focus rfl)
  (focus kernel_rfl)
  (focus kernel_rfl)
  (focus kernel_rfl)
  (focus kernel_rfl)
  (focus kernel_rfl)
  (focus rfl)
  (focus exact fun _ _ _ h => h)
  (focus (first | exact wanted_none rfl | exact wanted_yes rfl rfl rfl))
  (focus (intro w' hS; have hc_p := hS.1.cell; have hc_e := hS.2.1.cell; have hc_r := hS.2.2; simp [go_sem, valAt, ↓IntWalk.iteOmega, *]; (try go_ints); (with_reducible exact valUpon_val)))
  (focus exact hS0)
  (focus (first | (apply put_some rfl; focus (conv => lhs; dsimp only [List.set_cons_zero, List.set_cons_succ]) <;> rfl) | exact put_none rfl))
  (with_reducible apply late_v 1)
  (focus rfl)
  (focus kernel_rfl)
  (focus kernel_rfl)
  (focus kernel_rfl)
  (focus kernel_rfl)
  (focus kernel_rfl)
  (focus rfl)
  (focus exact fun _ _ _ h => h)
  (focus (first | exact wanted_none rfl | exact wanted_yes rfl rfl rfl))
  (focus (intro w' hS; have hc_p := hS.1.cell; have hc_e := hS.2.1.cell; have hc_r := hS.2.2; simp [go_sem, valAt, ↓IntWalk.iteOmega, *]; (try go_ints); (with_reducible exact valUpon_val)))
  (focus exact hS0)
  (focus (first | (apply put_some rfl; focus (conv => lhs; dsimp only [List.set_cons_zero, List.set_cons_succ]) <;> rfl) | exact put_none rfl))
  (with_reducible apply late_v 2)
  (focus rfl)
  (focus kernel_rfl)
  (focus kernel_rfl)
  (focus kernel_rfl)
  (focus kernel_rfl)
  (focus kernel_rfl)
  (focus rfl)
  (focus exact fun _ _ _ h => h)
  (focus (first | exact wanted_none rfl | exact wanted_yes rfl rfl rfl))
  (focus (intro w' hS; have hc_p := hS.1.cell; have hc_e := hS.2.1.cell; have hc_r := hS.2.2; simp [go_sem, valAt, ↓IntWalk.iteOmega, *]; (try go_ints); (with_reducible exact valUpon_val)))
  (focus exact hS0)
  (focus (first | (apply put_some rfl; focus (conv => lhs; dsimp only [List.set_cons_zero, List.set_cons_succ]) <;> rfl) | exact put_none rfl))
  (with_reducible apply late_v 3)
  (focus rfl)
  (focus kernel_rfl)
  (focus kernel_rfl)
  (focus kernel_rfl)
  (focus kernel_rfl)
  (focus kernel_rfl)
  (focus rfl)
  (focus exact fun _ _ _ h => h)
  (focus (first | exact wanted_none rfl | exact wanted_yes rfl rfl rfl))
  (focus (intro w' hS; have hc_p := hS.1.cell; have hc_e := hS.2.1.cell; have hc_r := hS.2.2; simp [go_sem, valAt, ↓IntWalk.iteOmega, *]; (try go_ints); (with_reducible exact valUpon_val)))
  (focus exact hS0)
  (focus (first | (apply put_some rfl; focus (conv => lhs; dsimp only [List.set_cons_zero, List.set_cons_succ]) <;> rfl) | exact put_none rfl))
  (with_reducible apply late_v 4)
  (focus rfl)
  (focus kernel_rfl)
  (focus kernel_rfl)
  (focus kernel_rfl)
  (focus kernel_rfl)
  (focus kernel_rfl)
  (focus rfl)
  (focus exact fun _ _ _ h => h)
  (focus (first | exact wanted_none rfl | exact wanted_yes rfl rfl rfl))
  (focus (intro w' hS; have hc_p := hS.1.cell; have hc_e := hS.2.1.cell; have hc_r := hS.2.2; simp [go_sem, valAt, ↓IntWalk.iteOmega, *]; (try go_ints); (with_reducible exact valUpon_val)))
  (focus exact hS0)
  (focus (first | (apply put_some rfl; focus (conv => lhs; dsimp only [List.set_cons_zero, List.set_cons_succ]) <;> rfl) | exact put_none rfl))
  (with_reducible apply late_v 5)
  (focus rfl)
  (focus kernel_rfl)
  (focus kernel_rfl)
  (focus kernel_rfl)
  (focus kernel_rfl)
  (focus kernel_rfl)
  (focus rfl)
  (focus exact fun _ _ _ h => h)
  (focus (first | exact wanted_none rfl | exact wanted_yes rfl rfl rfl))
  (focus (intro w' hS; have hc_p := hS.1.cell; have hc_e := hS.2.1.cell; have hc_r := hS.2.2; simp [go_sem, valAt, ↓IntWalk.iteOmega, *]; (try go_ints); (with_reducible exact valUpon_val)))
  (focus exact hS0)
  (focus (first | (apply put_some rfl; focus (conv => lhs; dsimp only [List.set_cons_zero, List.set_cons_succ]) <;> rfl) | exact put_none rfl))
  (with_reducible apply late_v 6)
  (focus rfl)
  (focus kernel_rfl)
  (focus kernel_rfl)
  (focus kernel_rfl)
  (focus kernel_rfl)
  (focus kernel_rfl)
  (focus rfl)
  (focus exact fun _ _ _ h => h)
  (focus (first | exact wanted_none rfl | exact wanted_yes rfl rfl rfl))
  (focus (intro w' hS; have hc_p := hS.1.cell; have hc_e := hS.2.1.cell; have hc_r := hS.2.2; simp [go_sem, valAt, ↓IntWalk.iteOmega, *]; (try go_ints); (with_reducible exact valUpon_val)))
  (focus exact hS0)
  (focus (first | (apply put_some rfl; focus (conv => lhs; dsimp only [List.set_cons_zero, List.set_cons_succ]) <;> rfl) | exact put_none rfl))
  (with_reducible apply late_v 7)
  (focus rfl)
  (focus kernel_rfl)
  (focus kernel_rfl)
  (focus kernel_rfl)
  (focus kernel_rfl)
  (focus kernel_rfl)
  (focus rfl)
  (focus exact fun _ _ _ h => h)
  (focus (first | exact wanted_none rfl | exact wanted_yes rfl rfl rfl))
  (focus (intro w' hS; have hc_p := hS.1.cell; have hc_e := hS.2.1.cell; have hc_r := hS.2.2; simp [go_sem, valAt, ↓IntWalk.iteOmega, *]; (try go_ints); (with_reducible exact valUpon_val)))
  (focus exact hS0)
  (focus (first | (apply put_some rfl; focus (conv => lhs; dsimp only [List.set_cons_zero, List.set_cons_succ]) <;> rfl) | exact put_none rfl))
  (with_reducible apply late_v 8)
  (focus rfl)
  (focus kernel_rfl)
  (focus kernel_rfl)
  (focus kernel_rfl)
  (focus kernel_rfl)
  (focus kernel_rfl)
  (focus rfl)
  (focus exact fun _ _ _ h => h)
  (focus (first | exact wanted_none rfl | exact wanted_yes rfl rfl rfl))
  (focus (intro w' hS; have hc_p := hS.1.cell; have hc_e := hS.2.1.cell; have hc_r := hS.2.2; simp [go_sem, valAt, ↓IntWalk.iteOmega, *]; (try go_ints); (with_reducible exact valUpon_val)))
  (focus exact hS0)
  (focus (first | (apply put_some rfl; focus (conv => lhs; dsimp only [List.set_cons_zero, List.set_cons_succ]) <;> rfl) | exact put_none rfl))
  (with_reducible apply late_v 9)
  (focus rfl)
  (focus kernel_rfl)
  (focus kernel_rfl)
  (focus kernel_rfl)
  (focus kernel_rfl)
  (focus kernel_rfl)
  (focus rfl)
  (focus exact fun _ _ _ h => h)
  (focus (first | exact wanted_none rfl | exact wanted_yes rfl rfl rfl))
  (focus (intro w' hS; have hc_p := hS.1.cell; have hc_e := hS.2.1.cell; have hc_r := hS.2.2; simp [go_sem, valAt, ↓IntWalk.iteOmega, *]; (try go_ints); (with_reducible exact valUpon_val)))
  (focus exact hS0)
  (focus (first | (apply put_some rfl; focus (conv => lhs; dsimp only [List.set_cons_zero, List.set_cons_succ]) <;> rfl) | exact put_none rfl))
  (with_reducible apply late_v 10)
  (focus rfl)
  (focus kernel_rfl)
  (focus kernel_rfl)
  (focus kernel_rfl)
  (focus kernel_rfl)
  (focus kernel_rfl)
  (focus rfl)
  (focus exact fun _ _ _ h => h)
  (focus (first | exact wanted_none rfl | exact wanted_yes rfl rfl rfl))
  (focus (intro w' hS; have hc_p := hS.1.cell; have hc_e := hS.2.1.cell; have hc_r := hS.2.2; simp [go_sem, valAt, ↓IntWalk.iteOmega, *]; (try go_ints); (with_reducible exact valUpon_val)))
  (focus exact hS0)
  (focus (first | (apply put_some rfl; focus (conv => lhs; dsimp only [List.set_cons_zero, List.set_cons_succ]) <;> rfl) | exact put_none rfl))
  (with_reducible apply late_v 11)
  (focus rfl)
  (focus kernel_rfl)
  (focus kernel_rfl)
  (focus kernel_rfl)
  (focus kernel_rfl)
  (focus kernel_rfl)
  (focus rfl)
  (focus exact fun _ _ _ h => h)
  (focus (first | exact wanted_none rfl | exact wanted_yes rfl rfl rfl))
  (focus (intro w' hS; have hc_p := hS.1.cell; have hc_e := hS.2.1.cell; have hc_r := hS.2.2; simp [go_sem, valAt, ↓IntWalk.iteOmega, *]; (try go_ints); (with_reducible exact valUpon_val)))
  (focus exact hS0)
  (focus (first | (apply put_some rfl; focus (conv => lhs; dsimp only [List.set_cons_zero, List.set_cons_succ]) <;> rfl) | exact put_none rfl))
  (with_reducible apply late_v 12)
  (focus rfl)
  (focus kernel_rfl)
  (focus kernel_rfl)
  (focus kernel_rfl)
  (focus kernel_rfl)
  (focus kernel_rfl)
  (focus rfl)
  (focus exact fun _ _ _ h => h)
  (focus (first | exact wanted_none rfl | exact wanted_yes rfl rfl rfl))
  (focus (intro w' hS; have hc_p := hS.1.cell; have hc_e := hS.2.1.cell; have hc_r := hS.2.2; simp [go_sem, valAt, ↓IntWalk.iteOmega, *]; (try go_ints); (with_reducible exact valUpon_val)))
  (focus exact hS0)
  (focus (first | (apply put_some rfl; focus (conv => lhs; dsimp only [List.set_cons_zero, List.set_cons_succ]) <;> rfl) | exact put_none rfl))
  (with_reducible apply late_v 13)
  (focus rfl)
  (focus kernel_rfl)
  (focus kernel_rfl)
  (focus kernel_rfl)
  (focus kernel_rfl)
  (focus kernel_rfl)
  (focus rfl)
  (focus exact fun _ _ _ h => h)
  (focus (first | exact wanted_none rfl | exact wanted_yes rfl rfl rfl))
  (focus (intro w' hS; have hc_p := hS.1.cell; have hc_e := hS.2.1.cell; have hc_r := hS.2.2; simp [go_sem, valAt, ↓IntWalk.iteOmega, *]; (try go_ints); (with_reducible exact valUpon_val)))
  (focus exact hS0)
  (focus (first | (apply put_some rfl; focus (conv => lhs; dsimp only [List.set_cons_zero, List.set_cons_succ]) <;> rfl) | exact put_none rfl))
  (with_reducible apply late_v 14)
  (focus rfl)
  (focus kernel_rfl)
  (focus kernel_rfl)
  (focus kernel_rfl)
  (focus kernel_rfl)
  (focus kernel_rfl)
  (focus rfl)
  (focus exact fun _ _ _ h => h)
  (focus (first | exact wanted_none rfl | exact wanted_yes rfl rfl rfl))
  (focus (intro w' hS; have hc_p := hS.1.cell; have hc_e := hS.2.1.cell; have hc_r := hS.2.2; simp [go_sem, valAt, ↓IntWalk.iteOmega, *]; (try go_ints); (with_reducible exact valUpon_val)))
  (focus exact hS0)
  (focus (first | (apply put_some rfl; focus (conv => lhs; dsimp only [List.set_cons_zero, List.set_cons_succ]) <;> rfl) | exact put_none rfl))
  (with_reducible apply late_v 15)
  (focus rfl)
  (focus kernel_rfl)
  (focus kernel_rfl)
  (focus kernel_rfl)
  (focus kernel_rfl)
  (focus kernel_rfl)
  (focus rfl)
  (focus exact fun _ _ _ h => h)
  (focus (first | exact wanted_none rfl | exact wanted_yes rfl rfl rfl))
  (focus (intro w' hS; have hc_p := hS.1.cell; have hc_e := hS.2.1.cell; have hc_r := hS.2.2; simp [go_sem, valAt, ↓IntWalk.iteOmega, *]; (try go_ints); (with_reducible exact valUpon_val)))
  (focus exact hS0)
  (focus (first | (apply put_some rfl; focus (conv => lhs; dsimp only [List.set_cons_zero, List.set_cons_succ]) <;> rfl) | exact put_none rfl))
  (with_reducible apply late_v 16)
  (focus rfl)
  (focus kernel_rfl)
  (focus kernel_rfl)
  (focus kernel_rfl)
  (focus kernel_rfl)
  (focus kernel_rfl)
  (focus rfl)
  (focus exact fun _ _ _ h => h)
  (focus (first | exact wanted_none rfl | exact wanted_yes rfl rfl rfl))
  (focus (intro w' hS; have hc_p := hS.1.cell; have hc_e := hS.2.1.cell; have hc_r := hS.2.2; simp [go_sem, valAt, ↓IntWalk.iteOmega, *]; (try go_ints); (with_reducible exact valUpon_val)))
  (focus exact hS0)
  (focus (first | (apply put_some rfl; focus (conv => lhs; dsimp only [List.set_cons_zero, List.set_cons_succ]) <;> rfl) | exact put_none rfl))
  (with_reducible apply late_v 17)
  (focus rfl)
  (focus kernel_rfl)
  (focus kernel_rfl)
  (focus kernel_rfl)
  (focus kernel_rfl)
  (focus kernel_rfl)
  (focus rfl)
  (focus exact fun _ _ _ h => h)
  (focus (first | exact wanted_none rfl | exact wanted_yes rfl rfl rfl))
  (focus (intro w' hS; have hc_p := hS.1.cell; have hc_e := hS.2.1.cell; have hc_r := hS.2.2; simp [go_sem, valAt, ↓IntWalk.iteOmega, *]; (try go_ints); (with_reducible exact valUpon_val)))
  (focus exact hS0)
  (focus (first | (apply put_some rfl; focus (conv => lhs; dsimp only [List.set_cons_zero, List.set_cons_succ]) <;> rfl) | exact put_none rfl))
  (with_reducible apply late_v 18)
  (focus rfl)
  (focus kernel_rfl)
  (focus kernel_rfl)
  (focus kernel_rfl)
  (focus kernel_rfl)
  (focus kernel_rfl)
  (focus rfl)
  (focus exact fun _ _ _ h => h)
  (focus (first | exact wanted_none rfl | exact wanted_yes rfl rfl rfl))
  (focus (intro w' hS; have hc_p := hS.1.cell; have hc_e := hS.2.1.cell; have hc_r := hS.2.2; simp [go_sem, valAt, ↓IntWalk.iteOmega, *]; (try go_ints); (with_reducible exact valUpon_val)))
  (focus exact hS0)
  (focus (first | (apply put_some rfl; focus (conv => lhs; dsimp only [List.set_cons_zero, List.set_cons_succ]) <;> rfl) | exact put_none rfl))
  refine late_all (rs := [19]) (by kernel_rfl) (by simp) ?_
  refine List.forall_mem_cons.2 ⟨?_, by intro _ h; cases h⟩
  (with_reducible apply late_e (fun w' => Blk w' u0'.heap.size 50 #[ptr be] ∧ Below u0'.heap.size u0' w'))
  (focus rfl)
  (focus (first | exact wanted_none rfl | exact wanted_yes rfl rfl rfl))
  (focus (simp [go_sem, effAt]; exact ⟨rfl, Blk.new _ _ _, (Below.refl _ _).alloc (Nat.le_refl _) _⟩))
  (focus (first | (apply put_some rfl; focus (conv => lhs; dsimp only [List.set_cons_zero, List.set_cons_succ]) <;> rfl) | exact put_none rfl))
  (focus exact fun w' h => .inr ⟨hp0.below h.2 hp0.lt, he0.below h.2 he0.lt, by rw [(hs0.below h.2 hs0.lt).cell]; exact hrow⟩)
  rintro u1 ⟨hBx, hs⟩
  have hp2 := hp0.below hs hp0.lt
  have he2 := he0.below hs he0.lt
  have hs2 := hs0.below hs hs0.lt
  have hr2 : RowAt u1 (.slice ao lv cv) ps := hr0.kept (grown_below hs none) (by cases ao <;> simp [Value.ownBlock])
  have hM2 := hM0.below hs
  have F2 := F1.trans (hs.mono (by have := F1.size; omega))
  have ltx := hBx.lt
  have z2 := F2.size
  have z3 := F1.size
  have le2 := he0.lt
  clear hp0 he0 hs0 hr0 hM0 hs F1 hS0
  obtain ⟨v', u2, g', pad', hap, rfl, hB_g, hmx, hg2, hat⟩ := row_append hr2 hBx (by omega)
  have hp3 := hp2.grown hg2 (Ne.symm vp)
  have he3 := he2.grown hg2 (fun e => by have := vl _ e.symm; omega)
  have hs3 := hs2.grown hg2 (Ne.symm vS)
  have hM3 : MapAt u2 mb es c := (hg2.block mb hM2.lt (Ne.symm vm)).trans hM2
  have T3 : Turn (fun j => (Value.slice ao lv cv).ownBlock = some j ∨ j = sb ∨ be ≤ j) w0 u2 := (Turn.of_below (by rw [hbe]; exact F2)).trans ⟨hg2.os, hg2.tape, hg2.output, hg2.size, fun i hi hn => hg2.block i hi (fun e => hn (.inl e.symm))⟩
  have hgs : g' ≠ sb := fun e => by
    rcases hat with h | h
    · exact vS (e ▸ h)
    · have := hs2.lt; omega
  have hgp : g' ≠ be := fun e => by
    rcases hat with h | h
    · have := vl _ h; omega
    · omega
  have hgv : (Value.slice ao lv cv).ownBlock = some g' ∨ be ≤ g' := by
    rcases hat with h | h
    · exact .inl h
    · exact .inr (by omega)
  have z4 := hg2.size
  clear hp2 he2 hs2 hr2 hM2 hg2 hat F2 hBx
  refine late_all (rs := [20]) (by kernel_rfl) (by simp) ?_
  refine List.forall_mem_cons.2 ⟨?_, by intro _ h; cases h⟩
  (with_reducible apply late_e (· = u2))
  (focus rfl)
  (focus (first | exact wanted_none rfl | exact wanted_yes rfl rfl rfl))
  (focus exact eff_append rfl rfl rfl hap)
  (focus (first | (apply put_some rfl; focus (conv => lhs; dsimp only [List.set_cons_zero, List.set_cons_succ]) <;> rfl) | exact put_none rfl))
  (focus exact fun w' h => .inr (h ▸ ⟨hp3, he3, by rw [hs3.cell]; exact hrow⟩))
  intro x hx
  obtain rfl : u2 = x := hx.symm
  clear hap
  have hS0 : Blk u2 p 49 #[.slice (some ⟨sb, 0, none⟩) n n, .int .i64 (tt : Int), .map (some mb)] ∧ Blk u2 be 52 #[.int .u8 (k : Int), .int .i64 (i : Int), .int .i64 (r : Int)] ∧ u2.cell? ⟨sb, i, none⟩ = some (.slice ao lv cv) := ⟨hp3, he3, by rw [hs3.cell]; exact hrow⟩
  (with_reducible apply late_v 21)
  (focus rfl)
  (focus kernel_rfl)
  (focus kernel_rfl)
  (focus kernel_rfl)
  (focus kernel_rfl)
  (focus kernel_rfl)
  (focus rfl)
  (focus exact fun _ _ _ h => h)
  (focus (first | exact wanted_none rfl | exact wanted_yes rfl rfl rfl))
  (focus (intro w' hS; have hc_p := hS.1.cell; have hc_e := hS.2.1.cell; have hc_r := hS.2.2; simp [go_sem, valAt, ↓IntWalk.iteOmega, *]; (try go_ints); (with_reducible exact valUpon_val)))
  (focus exact hS0)
  (focus (first | (apply put_some rfl; focus (conv => lhs; dsimp only [List.set_cons_zero, List.set_cons_succ]) <;> rfl) | exact put_none rfl))
  refine late_all (rs := [22]) (by kernel_rfl) (by simp) ?_
  refine List.forall_mem_cons.2 ⟨?_, by intro _ h; cases h⟩
  (with_reducible apply late_e (fun w' => Blk w' sb 53 (rows.setIfInBounds i (.slice (some ⟨g', 0, none⟩) (ps.length + 1) (ps.length + 1 + pad'.length))) ∧ u2.grownBy w' (some sb)))
  (focus rfl)
  (focus (first | exact wanted_none rfl | exact wanted_yes rfl rfl rfl))
  (focus (have hct := hs3.cell; have hft := hs3.frozen; simp [go_sem, effAt, *]; exact ⟨rfl, hs3.set_ i _, grown_set (World.grownBy.refl _ _)⟩))
  (focus (first | (apply put_some rfl; focus (conv => lhs; dsimp only [List.set_cons_zero, List.set_cons_succ]) <;> rfl) | exact put_none rfl))
  (focus exact fun w' h => .inl rfl)
  rintro u3 ⟨hB_s, hg3⟩
  (with_reducible apply late_done)
  (focus kernel_rfl)
  have hB_p := hp3.grown hg3 (by simpa using pS)
  have hB_e := he3.grown hg3 (by simp; omega)
  have hB_g3 := hB_g.grown hg3 (by simpa using hgs)
  have hM4 : MapAt u3 mb es c := (hg3.block mb hM3.lt (by simpa using mS)).trans hM3
  have T4 := T3.trans (Turn.of_grown hg3 (.inr (.inl rfl)))
  clear hp3 he3 hs3 hM3 hB_g hg3 T3 hS0
  have Fu3 : Below u3.heap.size u3 u3 := Below.refl _ _
  have hc_p := hB_p.cell
  repeat (first | with_reducible apply wpList_nil | ((with_reducible apply region_k); intro KK kk) | with_reducible apply wp_region_lit | ((with_reducible apply seq_k); intro KK kk) | ((with_reducible apply seq_q); (focus (first | exact wanted_none rfl | exact wanted_yes rfl rfl rfl)); (focus (simp [go_sem, effAt, ↓IntWalk.iteOmega, *]; (try go_ints); (first | (with_reducible exact effUpon_val) | (with_reducible exact effUpon_skip)))); (focus ((first | (apply put_some rfl; focus (conv => lhs; dsimp only [List.set_cons_zero, List.set_cons_succ]) <;> rfl) | exact put_none rfl)))) | ((with_reducible apply seq_s); (focus (first | exact wanted_no rfl rfl rfl | exact wanted_undef rfl rfl rfl)); (focus ((first | (apply put_some rfl; focus (conv => lhs; dsimp only [List.set_cons_zero, List.set_cons_succ]) <;> rfl) | exact put_none rfl)))) | with_reducible apply wp_block | with_reducible apply wp_skip | with_reducible apply wp_exit | with_reducible apply wp_ret | ((with_reducible apply wp_cond_true); (focus (first | rfl | (simp [go_sem, *]; done)))) | ((with_reducible apply wp_cond_false); (focus (first | rfl | (simp [go_sem, *]; done)))) | (simp only [Exit.then, Exit.inBlock, ↓reduceIte, Nat.reduceEqDiff]) | ((with_reducible apply kf_out); (focus assumption)))
  with_reducible apply seq_e (fun w' => w' = setB u3 mb (.map (es ++ [(⟨.int .u8 (k : Int), ptr be, c⟩ : MapEntry)]).toArray (c + 1)))
  (focus (first | exact wanted_none rfl | exact wanted_yes rfl rfl rfl))
  focus exact eff_update rfl rfl rfl rfl hM4 hE hk
  (first | (apply put_some rfl; focus (conv => lhs; dsimp only [List.set_cons_zero, List.set_cons_succ]) <;> rfl) | exact put_none rfl)
  intro w5 e5
  rw [← hbe] at T4 hgv
  have Fw5 : Below w5.heap.size w5 w5 := Below.refl _ _
  repeat (first | with_reducible apply wpList_nil | ((with_reducible apply region_k); intro KK kk) | with_reducible apply wp_region_lit | ((with_reducible apply seq_k); intro KK kk) | ((with_reducible apply seq_q); (focus (first | exact wanted_none rfl | exact wanted_yes rfl rfl rfl)); (focus (simp [go_sem, effAt, ↓IntWalk.iteOmega, *]; (try go_ints); (first | (with_reducible exact effUpon_val) | (with_reducible exact effUpon_skip)))); (focus ((first | (apply put_some rfl; focus (conv => lhs; dsimp only [List.set_cons_zero, List.set_cons_succ]) <;> rfl) | exact put_none rfl)))) | ((with_reducible apply seq_s); (focus (first | exact wanted_no rfl rfl rfl | exact wanted_undef rfl rfl rfl)); (focus ((first | (apply put_some rfl; focus (conv => lhs; dsimp only [List.set_cons_zero, List.set_cons_succ]) <;> rfl) | exact put_none rfl)))) | with_reducible apply wp_block | with_reducible apply wp_skip | with_reducible apply wp_exit | with_reducible apply wp_ret | ((with_reducible apply wp_cond_true); (focus (first | rfl | (simp [go_sem, *]; done)))) | ((with_reducible apply wp_cond_false); (focus (first | rfl | (simp [go_sem, *]; done)))) | (simp only [Exit.then, Exit.inBlock, ↓reduceIte, Nat.reduceEqDiff]) | ((with_reducible apply kf_out); (focus assumption)))
  go_ret
  exact ⟨rfl, w0, es, c, u3, be, g', pad', hX1, e5, hM4, hE, T4, by omega, hgv, hgp, hB_e, hB_g3, hmx, hB_s⟩
end Go.Proofs.Ytckjgdlceckhpaa
