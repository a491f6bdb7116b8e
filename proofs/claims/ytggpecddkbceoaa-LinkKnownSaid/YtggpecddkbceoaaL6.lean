/- The walks of the document's link: to, asks, Open, Close, Due, command. -/
import Derived.Test.YtggpecddkbceoaaL5
import Derived.Test.YtggpecddkbceoaaKf
set_option linter.unusedSimpArgs false
set_option linter.unusedVariables false
namespace Go.Proofs.Ytggpecddkbceoaa
open Go.RowKit Go.Eff
attribute [local irreducible] Go.wpList
/-- the document's link -/
def RB (w : World) (h : Nat) (s : Int) (ls : Bool) (tr mo : Int) : Prop := Blk w h 38 #[.int .u8 s, .bool ls, .int .i64 mo, .int .i64 tr]
theorem rto_any (h : Nat) (s : Int) (ls : Bool) (tr mo : Int) (s' k : Int) (c p : Bool) (t f : Int) (w : World) (hB_l : RB w h s ls tr mo) :
    Calls Try.prog 32 #[.pointer (some ⟨h, 0, none⟩), .int .u8 s', actV k c p t f] w (Ret (actV k c p t f) fun w' => RB w' h s' ls tr mo ∧ w.grownBy w' (some h)) := by
  unfold RB at *
  go_enter Try.func32, Try.ntmps32
  have F0 : Turn (fun i => i = h ∨ w.heap.size ≤ i) w w := Turn.refl _
  have hc_l := hB_l.cell
  repeat (first|(with_reducible apply Xa)|((with_reducible apply region_k);intro KK kk)|(with_reducible apply Xc)|((with_reducible apply seq_k);intro KK kk)|((with_reducible apply Xk);(focus first|exact wanted_none rfl|exact wanted_yes rfl rfl rfl);(focus (simp [go_sem,effAt,↓IntWalk.iteOmega, *];(try go_ints);with_reducible first|exact Xm|exact Xn));focus (first|(apply put_some rfl;focus (conv=>lhs;dsimp only [Xr,Xs])<;>rfl)|exact put_none rfl))|((with_reducible apply Xl);(focus first|exact wanted_no rfl rfl rfl|exact wanted_undef rfl rfl rfl);focus (first|(apply put_some rfl;focus (conv=>lhs;dsimp only [Xr,Xs])<;>rfl)|exact put_none rfl))|(with_reducible first|apply Xe|apply Xf|apply Xg|apply Xh)|((with_reducible apply Xi);focus first|rfl|(simp [go_sem, *];done))|((with_reducible apply Xj);focus first|rfl|(simp [go_sem, *];done))|(simp only [Exit.then,Exit.inBlock,↓reduceIte,Nat.reduceEqDiff])|((with_reducible apply kf_out);focus assumption))
  have lt_l_a := hB_l.lt
  have le_a := F0.size
  ((with_reducible apply Xu); (focus rfl); (focus (simp [go_sem, effAt]; exact ⟨rfl, rfl⟩)); (focus ((first|(apply put_some rfl;focus (conv=>lhs;dsimp only [Xr,Xs])<;>rfl)|exact put_none rfl))))
  intro w1 hB_a hs
  have Fw1 := F0.trans (Turn.of_below hs)
  replace hB_l := hB_l.below hs hB_l.lt
  clear hs F0
  clear hc_l; have hc_l := hB_l.cell
  have hc_a := hB_a.cell
  repeat (first|(with_reducible apply Xa)|((with_reducible apply region_k);intro KK kk)|(with_reducible apply Xc)|((with_reducible apply seq_k);intro KK kk)|((with_reducible apply Xk);(focus first|exact wanted_none rfl|exact wanted_yes rfl rfl rfl);(focus (simp [go_sem,effAt,↓IntWalk.iteOmega, *];(try go_ints);with_reducible first|exact Xm|exact Xn));focus (first|(apply put_some rfl;focus (conv=>lhs;dsimp only [Xr,Xs])<;>rfl)|exact put_none rfl))|((with_reducible apply Xl);(focus first|exact wanted_no rfl rfl rfl|exact wanted_undef rfl rfl rfl);focus (first|(apply put_some rfl;focus (conv=>lhs;dsimp only [Xr,Xs])<;>rfl)|exact put_none rfl))|(with_reducible first|apply Xe|apply Xf|apply Xg|apply Xh)|((with_reducible apply Xi);focus first|rfl|(simp [go_sem, *];done))|((with_reducible apply Xj);focus first|rfl|(simp [go_sem, *];done))|(simp only [Exit.then,Exit.inBlock,↓reduceIte,Nat.reduceEqDiff])|((with_reducible apply kf_out);focus assumption))
  have lt_l_r := hB_l.lt
  have lt_a_r := hB_a.lt
  have le_r := Fw1.size
  ((with_reducible apply Xu); (focus rfl); (focus (simp [go_sem, effAt]; exact ⟨rfl, rfl⟩)); (focus ((first|(apply put_some rfl;focus (conv=>lhs;dsimp only [Xr,Xs])<;>rfl)|exact put_none rfl))))
  intro w2 hB_r hs
  have Fw2 := Fw1.trans (Turn.of_below hs)
  replace hB_l := hB_l.below hs hB_l.lt
  replace hB_a := hB_a.below hs hB_a.lt
  clear hs Fw1
  clear hc_l; have hc_l := hB_l.cell
  clear hc_a; have hc_a := hB_a.cell
  have hc_r := hB_r.cell
  repeat (first|(with_reducible apply Xa)|((with_reducible apply region_k);intro KK kk)|(with_reducible apply Xc)|((with_reducible apply seq_k);intro KK kk)|((with_reducible apply Xk);(focus first|exact wanted_none rfl|exact wanted_yes rfl rfl rfl);(focus (simp [go_sem,effAt,↓IntWalk.iteOmega, *];(try go_ints);with_reducible first|exact Xm|exact Xn));focus (first|(apply put_some rfl;focus (conv=>lhs;dsimp only [Xr,Xs])<;>rfl)|exact put_none rfl))|((with_reducible apply Xl);(focus first|exact wanted_no rfl rfl rfl|exact wanted_undef rfl rfl rfl);focus (first|(apply put_some rfl;focus (conv=>lhs;dsimp only [Xr,Xs])<;>rfl)|exact put_none rfl))|(with_reducible first|apply Xe|apply Xf|apply Xg|apply Xh)|((with_reducible apply Xi);focus first|rfl|(simp [go_sem, *];done))|((with_reducible apply Xj);focus first|rfl|(simp [go_sem, *];done))|(simp only [Exit.then,Exit.inBlock,↓reduceIte,Nat.reduceEqDiff])|((with_reducible apply kf_out);focus assumption))
  have hf_l := hB_l.frozen
  ((with_reducible apply Xt (fun w' => Blk w' _ _ _ ∧ w2.grownBy w' (some _))); (focus rfl); (focus (simp [go_sem, effAt, *]; exact ⟨rfl, (hB_l.set_ 0 _), (grown_set (World.grownBy.refl _ _))⟩)); (focus ((first|(apply put_some rfl;focus (conv=>lhs;dsimp only [Xr,Xs])<;>rfl)|exact put_none rfl))))
  clear hf_l hc_l hB_l
  intro w3 hs
  obtain ⟨hB_l, hs⟩ := hs
  simp only [Xq,Xr,Xs] at hB_l
  have Fw3 := Fw2.trans (Turn.of_grown hs (by first | exact .inl rfl | exact .inr (by omega)))
  replace hB_a := hB_a.grown hs (by intro hk; injection hk with hk; have := hB_a.lt; have := hB_l.lt; omega)
  replace hB_r := hB_r.grown hs (by intro hk; injection hk with hk; have := hB_r.lt; have := hB_l.lt; omega)
  clear hs Fw2
  clear hc_a; have hc_a := hB_a.cell
  clear hc_r; have hc_r := hB_r.cell
  have hc_l := hB_l.cell
  repeat (first|(with_reducible apply Xa)|((with_reducible apply region_k);intro KK kk)|(with_reducible apply Xc)|((with_reducible apply seq_k);intro KK kk)|((with_reducible apply Xk);(focus first|exact wanted_none rfl|exact wanted_yes rfl rfl rfl);(focus (simp [go_sem,effAt,↓IntWalk.iteOmega, *];(try go_ints);with_reducible first|exact Xm|exact Xn));focus (first|(apply put_some rfl;focus (conv=>lhs;dsimp only [Xr,Xs])<;>rfl)|exact put_none rfl))|((with_reducible apply Xl);(focus first|exact wanted_no rfl rfl rfl|exact wanted_undef rfl rfl rfl);focus (first|(apply put_some rfl;focus (conv=>lhs;dsimp only [Xr,Xs])<;>rfl)|exact put_none rfl))|(with_reducible first|apply Xe|apply Xf|apply Xg|apply Xh)|((with_reducible apply Xi);focus first|rfl|(simp [go_sem, *];done))|((with_reducible apply Xj);focus first|rfl|(simp [go_sem, *];done))|(simp only [Exit.then,Exit.inBlock,↓reduceIte,Nat.reduceEqDiff])|((with_reducible apply kf_out);focus assumption))
  have hf_r := hB_r.frozen
  ((with_reducible apply Xt (fun w' => Blk w' _ _ _ ∧ w3.grownBy w' (some _))); (focus rfl); (focus (simp [go_sem, effAt, *]; exact ⟨rfl, (((((hB_r.set_ 0 _).set_ 1 _).set_ 2 _).set_ 3 _).set_ 4 _), (grown_set (grown_set (grown_set (grown_set (grown_set (World.grownBy.refl _ _))))))⟩)); (focus ((first|(apply put_some rfl;focus (conv=>lhs;dsimp only [Xr,Xs])<;>rfl)|exact put_none rfl))))
  clear hf_r hc_r hB_r
  intro w4 hs
  obtain ⟨hB_r, hs⟩ := hs
  simp only [Xq,Xr,Xs] at hB_r
  have Fw4 := Fw3.trans (Turn.of_grown hs (by first | exact .inl rfl | exact .inr (by omega)))
  replace hB_l := hB_l.grown hs (by intro hk; injection hk with hk; have := hB_l.lt; have := hB_r.lt; omega)
  replace hB_a := hB_a.grown hs (by intro hk; injection hk with hk; have := hB_a.lt; have := hB_r.lt; omega)
  clear hs Fw3
  clear hc_l; have hc_l := hB_l.cell
  clear hc_a; have hc_a := hB_a.cell
  have hc_r := hB_r.cell
  repeat (first|(with_reducible apply Xa)|((with_reducible apply region_k);intro KK kk)|(with_reducible apply Xc)|((with_reducible apply seq_k);intro KK kk)|((with_reducible apply Xk);(focus first|exact wanted_none rfl|exact wanted_yes rfl rfl rfl);(focus (simp [go_sem,effAt,↓IntWalk.iteOmega, *];(try go_ints);with_reducible first|exact Xm|exact Xn));focus (first|(apply put_some rfl;focus (conv=>lhs;dsimp only [Xr,Xs])<;>rfl)|exact put_none rfl))|((with_reducible apply Xl);(focus first|exact wanted_no rfl rfl rfl|exact wanted_undef rfl rfl rfl);focus (first|(apply put_some rfl;focus (conv=>lhs;dsimp only [Xr,Xs])<;>rfl)|exact put_none rfl))|(with_reducible first|apply Xe|apply Xf|apply Xg|apply Xh)|((with_reducible apply Xi);focus first|rfl|(simp [go_sem, *];done))|((with_reducible apply Xj);focus first|rfl|(simp [go_sem, *];done))|(simp only [Exit.then,Exit.inBlock,↓reduceIte,Nat.reduceEqDiff])|((with_reducible apply kf_out);focus assumption))
  refine bodyPost_ret (v := (actV k c p t f)) (by simp [results, Try.results32, go_sem, *]) rfl ⟨rfl, hB_l, Turn.to_grown (by assumption)⟩
theorem rasks_any (h : Nat) (s : Int) (ls : Bool) (tr mo : Int) (s' k : Int) (w : World) (hB_l : RB w h s ls tr mo) :
    Calls Try.prog 31 #[.pointer (some ⟨h, 0, none⟩), .int .u8 s', .int .u8 k] w (Ret (actV k true true 1 0) fun w' => RB w' h s' ls 0 mo ∧ w.grownBy w' (some h)) := by
  have hT := fun w h' => rto_any h s ls 0 mo s' k true true 1 0 w h'
  unfold RB at *
  go_enter Try.func31, Try.ntmps31
  have F0 : Turn (fun i => i = h ∨ w.heap.size ≤ i) w w := Turn.refl _
  have hc_l := hB_l.cell
  repeat (first|(with_reducible apply Xa)|((with_reducible apply region_k);intro KK kk)|(with_reducible apply Xc)|((with_reducible apply seq_k);intro KK kk)|((with_reducible apply Xk);(focus first|exact wanted_none rfl|exact wanted_yes rfl rfl rfl);(focus (simp [go_sem,effAt,↓IntWalk.iteOmega, *];(try go_ints);with_reducible first|exact Xm|exact Xn));focus (first|(apply put_some rfl;focus (conv=>lhs;dsimp only [Xr,Xs])<;>rfl)|exact put_none rfl))|((with_reducible apply Xl);(focus first|exact wanted_no rfl rfl rfl|exact wanted_undef rfl rfl rfl);focus (first|(apply put_some rfl;focus (conv=>lhs;dsimp only [Xr,Xs])<;>rfl)|exact put_none rfl))|(with_reducible first|apply Xe|apply Xf|apply Xg|apply Xh)|((with_reducible apply Xi);focus first|rfl|(simp [go_sem, *];done))|((with_reducible apply Xj);focus first|rfl|(simp [go_sem, *];done))|(simp only [Exit.then,Exit.inBlock,↓reduceIte,Nat.reduceEqDiff])|((with_reducible apply kf_out);focus assumption))
  have lt_l_r := hB_l.lt
  have le_r := F0.size
  ((with_reducible apply Xu); (focus rfl); (focus (simp [go_sem, effAt]; exact ⟨rfl, rfl⟩)); (focus ((first|(apply put_some rfl;focus (conv=>lhs;dsimp only [Xr,Xs])<;>rfl)|exact put_none rfl))))
  intro w1 hB_r hs
  have Fw1 := F0.trans (Turn.of_below hs)
  replace hB_l := hB_l.below hs hB_l.lt
  clear hs F0
  clear hc_l; have hc_l := hB_l.cell
  have hc_r := hB_r.cell
  repeat (first|(with_reducible apply Xa)|((with_reducible apply region_k);intro KK kk)|(with_reducible apply Xc)|((with_reducible apply seq_k);intro KK kk)|((with_reducible apply Xk);(focus first|exact wanted_none rfl|exact wanted_yes rfl rfl rfl);(focus (simp [go_sem,effAt,↓IntWalk.iteOmega, *];(try go_ints);with_reducible first|exact Xm|exact Xn));focus (first|(apply put_some rfl;focus (conv=>lhs;dsimp only [Xr,Xs])<;>rfl)|exact put_none rfl))|((with_reducible apply Xl);(focus first|exact wanted_no rfl rfl rfl|exact wanted_undef rfl rfl rfl);focus (first|(apply put_some rfl;focus (conv=>lhs;dsimp only [Xr,Xs])<;>rfl)|exact put_none rfl))|(with_reducible first|apply Xe|apply Xf|apply Xg|apply Xh)|((with_reducible apply Xi);focus first|rfl|(simp [go_sem, *];done))|((with_reducible apply Xj);focus first|rfl|(simp [go_sem, *];done))|(simp only [Exit.then,Exit.inBlock,↓reduceIte,Nat.reduceEqDiff])|((with_reducible apply kf_out);focus assumption))
  have hf_l := hB_l.frozen
  ((with_reducible apply Xt (fun w' => Blk w' _ _ _ ∧ w1.grownBy w' (some _))); (focus rfl); (focus (simp [go_sem, effAt, *]; exact ⟨rfl, (hB_l.set_ 3 _), (grown_set (World.grownBy.refl _ _))⟩)); (focus ((first|(apply put_some rfl;focus (conv=>lhs;dsimp only [Xr,Xs])<;>rfl)|exact put_none rfl))))
  clear hf_l hc_l hB_l
  intro w2 hs
  obtain ⟨hB_l, hs⟩ := hs
  simp only [Xq,Xr,Xs] at hB_l
  have Fw2 := Fw1.trans (Turn.of_grown hs (by first | exact .inl rfl | exact .inr (by omega)))
  replace hB_r := hB_r.grown hs (by intro hk; injection hk with hk; have := hB_r.lt; have := hB_l.lt; omega)
  clear hs Fw1
  clear hc_r; have hc_r := hB_r.cell
  have hc_l := hB_l.cell
  repeat (first|(with_reducible apply Xa)|((with_reducible apply region_k);intro KK kk)|(with_reducible apply Xc)|((with_reducible apply seq_k);intro KK kk)|((with_reducible apply Xk);(focus first|exact wanted_none rfl|exact wanted_yes rfl rfl rfl);(focus (simp [go_sem,effAt,↓IntWalk.iteOmega, *];(try go_ints);with_reducible first|exact Xm|exact Xn));focus (first|(apply put_some rfl;focus (conv=>lhs;dsimp only [Xr,Xs])<;>rfl)|exact put_none rfl))|((with_reducible apply Xl);(focus first|exact wanted_no rfl rfl rfl|exact wanted_undef rfl rfl rfl);focus (first|(apply put_some rfl;focus (conv=>lhs;dsimp only [Xr,Xs])<;>rfl)|exact put_none rfl))|(with_reducible first|apply Xe|apply Xf|apply Xg|apply Xh)|((with_reducible apply Xi);focus first|rfl|(simp [go_sem, *];done))|((with_reducible apply Xj);focus first|rfl|(simp [go_sem, *];done))|(simp only [Exit.then,Exit.inBlock,↓reduceIte,Nat.reduceEqDiff])|((with_reducible apply kf_out);focus assumption))
  ((with_reducible apply Xt (fun w' => Blk w' _ _ _ ∧ w2.grownBy w' (some _))); (focus rfl); (focus (simp only [effAt]; simp [go_sem]; (with_reducible exact effUpon_enter (hT _ hB_l)))); (focus ((first|(apply put_some rfl;focus (conv=>lhs;dsimp only [Xr,Xs])<;>rfl)|exact put_none rfl))))
  clear hc_l hB_l
  intro w3 hs
  obtain ⟨hB_l, hs⟩ := hs
  have Fw3 := Fw2.trans (Turn.of_grown hs (by first | exact .inl rfl | exact .inr (by omega)))
  replace hB_r := hB_r.grown hs (by intro hk; injection hk with hk; have := hB_r.lt; have := hB_l.lt; omega)
  clear hs Fw2
  clear hc_r; have hc_r := hB_r.cell
  have hc_l := hB_l.cell
  repeat (first|(with_reducible apply Xa)|((with_reducible apply region_k);intro KK kk)|(with_reducible apply Xc)|((with_reducible apply seq_k);intro KK kk)|((with_reducible apply Xk);(focus first|exact wanted_none rfl|exact wanted_yes rfl rfl rfl);(focus (simp [go_sem,effAt,↓IntWalk.iteOmega, *];(try go_ints);with_reducible first|exact Xm|exact Xn));focus (first|(apply put_some rfl;focus (conv=>lhs;dsimp only [Xr,Xs])<;>rfl)|exact put_none rfl))|((with_reducible apply Xl);(focus first|exact wanted_no rfl rfl rfl|exact wanted_undef rfl rfl rfl);focus (first|(apply put_some rfl;focus (conv=>lhs;dsimp only [Xr,Xs])<;>rfl)|exact put_none rfl))|(with_reducible first|apply Xe|apply Xf|apply Xg|apply Xh)|((with_reducible apply Xi);focus first|rfl|(simp [go_sem, *];done))|((with_reducible apply Xj);focus first|rfl|(simp [go_sem, *];done))|(simp only [Exit.then,Exit.inBlock,↓reduceIte,Nat.reduceEqDiff])|((with_reducible apply kf_out);focus assumption))
  have hf_r := hB_r.frozen
  ((with_reducible apply Xt (fun w' => Blk w' _ _ _ ∧ w3.grownBy w' (some _))); (focus rfl); (focus (simp [go_sem, effAt, *]; exact ⟨rfl, (((((hB_r.set_ 0 _).set_ 1 _).set_ 2 _).set_ 3 _).set_ 4 _), (grown_set (grown_set (grown_set (grown_set (grown_set (World.grownBy.refl _ _))))))⟩)); (focus ((first|(apply put_some rfl;focus (conv=>lhs;dsimp only [Xr,Xs])<;>rfl)|exact put_none rfl))))
  clear hf_r hc_r hB_r
  intro w4 hs
  obtain ⟨hB_r, hs⟩ := hs
  simp only [Xq,Xr,Xs] at hB_r
  have Fw4 := Fw3.trans (Turn.of_grown hs (by first | exact .inl rfl | exact .inr (by omega)))
  replace hB_l := hB_l.grown hs (by intro hk; injection hk with hk; have := hB_l.lt; have := hB_r.lt; omega)
  clear hs Fw3
  clear hc_l; have hc_l := hB_l.cell
  have hc_r := hB_r.cell
  repeat (first|(with_reducible apply Xa)|((with_reducible apply region_k);intro KK kk)|(with_reducible apply Xc)|((with_reducible apply seq_k);intro KK kk)|((with_reducible apply Xk);(focus first|exact wanted_none rfl|exact wanted_yes rfl rfl rfl);(focus (simp [go_sem,effAt,↓IntWalk.iteOmega, *];(try go_ints);with_reducible first|exact Xm|exact Xn));focus (first|(apply put_some rfl;focus (conv=>lhs;dsimp only [Xr,Xs])<;>rfl)|exact put_none rfl))|((with_reducible apply Xl);(focus first|exact wanted_no rfl rfl rfl|exact wanted_undef rfl rfl rfl);focus (first|(apply put_some rfl;focus (conv=>lhs;dsimp only [Xr,Xs])<;>rfl)|exact put_none rfl))|(with_reducible first|apply Xe|apply Xf|apply Xg|apply Xh)|((with_reducible apply Xi);focus first|rfl|(simp [go_sem, *];done))|((with_reducible apply Xj);focus first|rfl|(simp [go_sem, *];done))|(simp only [Exit.then,Exit.inBlock,↓reduceIte,Nat.reduceEqDiff])|((with_reducible apply kf_out);focus assumption))
  refine bodyPost_ret (v := (actV k true true 1 0)) (by simp [results, Try.results31, go_sem, *]) rfl ⟨rfl, hB_l, Turn.to_grown (by assumption)⟩
set_option maxHeartbeats 4000000 in
theorem bundlea_1 :
    (∀ (h : Nat) (ls : Bool) (tr mo : Int) (w : World) (hB_l : RB w h 1 ls tr mo), Calls Try.prog 24 #[.pointer (some ⟨h, 0, none⟩)] w (Ret (actV 1 true true 1 0) fun w' => RB w' h 2 ls 0 mo ∧ w.grownBy w' (some h))) ∧
    (∀ (h : Nat) (ls : Bool) (tr mo : Int) (w : World) (hB_l : RB w h 5 ls tr mo), Calls Try.prog 24 #[.pointer (some ⟨h, 0, none⟩)] w (Ret (actV 1 true true 1 0) fun w' => RB w' h 2 ls 0 mo ∧ w.grownBy w' (some h))) := by
  refine ⟨?a0, ?a1⟩
  case' a0 =>
    intro h ls tr mo w hB_l
    have hT := fun w h' => rasks_any h 1 ls tr mo 2 1 w h'
    unfold RB at *
  case' a1 =>
    intro h ls tr mo w hB_l
    have hT := fun w h' => rasks_any h 5 ls tr mo 2 1 w h'
    unfold RB at *
  all_goals
    go_enter Try.func24, Try.ntmps24
    have F0 : Turn (fun i => i = h ∨ w.heap.size ≤ i) w w := Turn.refl _
    have hc_l := hB_l.cell
    repeat (first|(with_reducible apply Xa)|((with_reducible apply region_k);intro KK kk)|(with_reducible apply Xc)|((with_reducible apply seq_k);intro KK kk)|((with_reducible apply Xk);(focus first|exact wanted_none rfl|exact wanted_yes rfl rfl rfl);(focus (simp [go_sem,effAt,↓IntWalk.iteOmega, *];(try go_ints);with_reducible first|exact Xm|exact Xn));focus (first|(apply put_some rfl;focus (conv=>lhs;dsimp only [Xr,Xs])<;>rfl)|exact put_none rfl))|((with_reducible apply Xl);(focus first|exact wanted_no rfl rfl rfl|exact wanted_undef rfl rfl rfl);focus (first|(apply put_some rfl;focus (conv=>lhs;dsimp only [Xr,Xs])<;>rfl)|exact put_none rfl))|(with_reducible first|apply Xe|apply Xf|apply Xg|apply Xh)|((with_reducible apply Xi);focus first|rfl|(simp [go_sem, *];done))|((with_reducible apply Xj);focus first|rfl|(simp [go_sem, *];done))|(simp only [Exit.then,Exit.inBlock,↓reduceIte,Nat.reduceEqDiff])|((with_reducible apply kf_out);focus assumption))
    have lt_l_r := hB_l.lt
    have le_r := F0.size
    ((with_reducible apply Xu); (focus rfl); (focus (simp [go_sem, effAt]; exact ⟨rfl, rfl⟩)); (focus ((first|(apply put_some rfl;focus (conv=>lhs;dsimp only [Xr,Xs])<;>rfl)|exact put_none rfl))))
    intro w1 hB_r hs
    have Fw1 := F0.trans (Turn.of_below hs)
    replace hB_l := hB_l.below hs hB_l.lt
    clear hs F0
    clear hc_l; have hc_l := hB_l.cell
    have hc_r := hB_r.cell
    repeat (first|(with_reducible apply Xa)|((with_reducible apply region_k);intro KK kk)|(with_reducible apply Xc)|((with_reducible apply seq_k);intro KK kk)|((with_reducible apply Xk);(focus first|exact wanted_none rfl|exact wanted_yes rfl rfl rfl);(focus (simp [go_sem,effAt,↓IntWalk.iteOmega, *];(try go_ints);with_reducible first|exact Xm|exact Xn));focus (first|(apply put_some rfl;focus (conv=>lhs;dsimp only [Xr,Xs])<;>rfl)|exact put_none rfl))|((with_reducible apply Xl);(focus first|exact wanted_no rfl rfl rfl|exact wanted_undef rfl rfl rfl);focus (first|(apply put_some rfl;focus (conv=>lhs;dsimp only [Xr,Xs])<;>rfl)|exact put_none rfl))|(with_reducible first|apply Xe|apply Xf|apply Xg|apply Xh)|((with_reducible apply Xi);focus first|rfl|(simp [go_sem, *];done))|((with_reducible apply Xj);focus first|rfl|(simp [go_sem, *];done))|(simp only [Exit.then,Exit.inBlock,↓reduceIte,Nat.reduceEqDiff])|((with_reducible apply kf_out);focus assumption))
    ((with_reducible apply Xt (fun w' => Blk w' _ _ _ ∧ w1.grownBy w' (some _))); (focus rfl); (focus (simp only [effAt]; simp [go_sem]; (with_reducible exact effUpon_enter (hT _ hB_l)))); (focus ((first|(apply put_some rfl;focus (conv=>lhs;dsimp only [Xr,Xs])<;>rfl)|exact put_none rfl))))
    clear hc_l hB_l
    intro w2 hs
    obtain ⟨hB_l, hs⟩ := hs
    have Fw2 := Fw1.trans (Turn.of_grown hs (by first | exact .inl rfl | exact .inr (by omega)))
    replace hB_r := hB_r.grown hs (by intro hk; injection hk with hk; have := hB_r.lt; have := hB_l.lt; omega)
    clear hs Fw1
    clear hc_r; have hc_r := hB_r.cell
    have hc_l := hB_l.cell
    repeat (first|(with_reducible apply Xa)|((with_reducible apply region_k);intro KK kk)|(with_reducible apply Xc)|((with_reducible apply seq_k);intro KK kk)|((with_reducible apply Xk);(focus first|exact wanted_none rfl|exact wanted_yes rfl rfl rfl);(focus (simp [go_sem,effAt,↓IntWalk.iteOmega, *];(try go_ints);with_reducible first|exact Xm|exact Xn));focus (first|(apply put_some rfl;focus (conv=>lhs;dsimp only [Xr,Xs])<;>rfl)|exact put_none rfl))|((with_reducible apply Xl);(focus first|exact wanted_no rfl rfl rfl|exact wanted_undef rfl rfl rfl);focus (first|(apply put_some rfl;focus (conv=>lhs;dsimp only [Xr,Xs])<;>rfl)|exact put_none rfl))|(with_reducible first|apply Xe|apply Xf|apply Xg|apply Xh)|((with_reducible apply Xi);focus first|rfl|(simp [go_sem, *];done))|((with_reducible apply Xj);focus first|rfl|(simp [go_sem, *];done))|(simp only [Exit.then,Exit.inBlock,↓reduceIte,Nat.reduceEqDiff])|((with_reducible apply kf_out);focus assumption))
    have hf_r := hB_r.frozen
    ((with_reducible apply Xt (fun w' => Blk w' _ _ _ ∧ w2.grownBy w' (some _))); (focus rfl); (focus (simp [go_sem, effAt, *]; exact ⟨rfl, (((((hB_r.set_ 0 _).set_ 1 _).set_ 2 _).set_ 3 _).set_ 4 _), (grown_set (grown_set (grown_set (grown_set (grown_set (World.grownBy.refl _ _))))))⟩)); (focus ((first|(apply put_some rfl;focus (conv=>lhs;dsimp only [Xr,Xs])<;>rfl)|exact put_none rfl))))
    clear hf_r hc_r hB_r
    intro w3 hs
    obtain ⟨hB_r, hs⟩ := hs
    simp only [Xq,Xr,Xs] at hB_r
    have Fw3 := Fw2.trans (Turn.of_grown hs (by first | exact .inl rfl | exact .inr (by omega)))
    replace hB_l := hB_l.grown hs (by intro hk; injection hk with hk; have := hB_l.lt; have := hB_r.lt; omega)
    clear hs Fw2
    clear hc_l; have hc_l := hB_l.cell
    have hc_r := hB_r.cell
    repeat (first|(with_reducible apply Xa)|((with_reducible apply region_k);intro KK kk)|(with_reducible apply Xc)|((with_reducible apply seq_k);intro KK kk)|((with_reducible apply Xk);(focus first|exact wanted_none rfl|exact wanted_yes rfl rfl rfl);(focus (simp [go_sem,effAt,↓IntWalk.iteOmega, *];(try go_ints);with_reducible first|exact Xm|exact Xn));focus (first|(apply put_some rfl;focus (conv=>lhs;dsimp only [Xr,Xs])<;>rfl)|exact put_none rfl))|((with_reducible apply Xl);(focus first|exact wanted_no rfl rfl rfl|exact wanted_undef rfl rfl rfl);focus (first|(apply put_some rfl;focus (conv=>lhs;dsimp only [Xr,Xs])<;>rfl)|exact put_none rfl))|(with_reducible first|apply Xe|apply Xf|apply Xg|apply Xh)|((with_reducible apply Xi);focus first|rfl|(simp [go_sem, *];done))|((with_reducible apply Xj);focus first|rfl|(simp [go_sem, *];done))|(simp only [Exit.then,Exit.inBlock,↓reduceIte,Nat.reduceEqDiff])|((with_reducible apply kf_out);focus assumption))
    refine bodyPost_ret (v := _) (by simp [results, Try.results24, go_sem, *]) rfl ⟨rfl, hB_l, Turn.to_grown (by assumption)⟩
theorem ropen_1 (h : Nat) (ls : Bool) (tr mo : Int) (w : World) (hB_l : RB w h 1 ls tr mo) :
    Calls Try.prog 24 #[.pointer (some ⟨h, 0, none⟩)] w (Ret (actV 1 true true 1 0) fun w' => RB w' h 2 ls 0 mo ∧ w.grownBy w' (some h)) := bundlea_1.1 h ls tr mo w hB_l
theorem ropen_5 (h : Nat) (ls : Bool) (tr mo : Int) (w : World) (hB_l : RB w h 5 ls tr mo) :
    Calls Try.prog 24 #[.pointer (some ⟨h, 0, none⟩)] w (Ret (actV 1 true true 1 0) fun w' => RB w' h 2 ls 0 mo ∧ w.grownBy w' (some h)) := bundlea_1.2 h ls tr mo w hB_l
set_option maxHeartbeats 6000000 in
theorem bundlea_2 :
    (∀ (h : Nat) (ls : Bool) (tr mo : Int) (w : World) (hB_l : RB w h 1 ls tr mo), Calls Try.prog 25 #[.pointer (some ⟨h, 0, none⟩)] w (Ret (actV 0 false false 0 0) fun w' => RB w' h 1 ls tr mo ∧ w.grownBy w' (some h))) ∧
    (∀ (h : Nat) (ls : Bool) (tr mo : Int) (w : World) (hB_l : RB w h 4 ls tr mo), Calls Try.prog 25 #[.pointer (some ⟨h, 0, none⟩)] w (Ret (actV 0 false false 0 0) fun w' => RB w' h 4 ls tr mo ∧ w.grownBy w' (some h))) ∧
    (∀ (h : Nat) (ls : Bool) (tr mo : Int) (w : World) (hB_l : RB w h 5 ls tr mo), Calls Try.prog 25 #[.pointer (some ⟨h, 0, none⟩)] w (Ret (actV 0 false false 0 0) fun w' => RB w' h 5 ls tr mo ∧ w.grownBy w' (some h))) := by
  refine ⟨?a0, ?a1, ?a2⟩
  case' a0 =>
    intro h ls tr mo w hB_l
    unfold RB at *
  case' a1 =>
    intro h ls tr mo w hB_l
    unfold RB at *
  case' a2 =>
    intro h ls tr mo w hB_l
    unfold RB at *
  all_goals
    go_enter Try.func25, Try.ntmps25
    have F0 : Turn (fun i => i = h ∨ w.heap.size ≤ i) w w := Turn.refl _
    have hc_l := hB_l.cell
    repeat (first|(with_reducible apply Xa)|((with_reducible apply region_k);intro KK kk)|(with_reducible apply Xc)|((with_reducible apply seq_k);intro KK kk)|((with_reducible apply Xk);(focus first|exact wanted_none rfl|exact wanted_yes rfl rfl rfl);(focus (simp [go_sem,effAt,↓IntWalk.iteOmega, *];(try go_ints);with_reducible first|exact Xm|exact Xn));focus (first|(apply put_some rfl;focus (conv=>lhs;dsimp only [Xr,Xs])<;>rfl)|exact put_none rfl))|((with_reducible apply Xl);(focus first|exact wanted_no rfl rfl rfl|exact wanted_undef rfl rfl rfl);focus (first|(apply put_some rfl;focus (conv=>lhs;dsimp only [Xr,Xs])<;>rfl)|exact put_none rfl))|(with_reducible first|apply Xe|apply Xf|apply Xg|apply Xh)|((with_reducible apply Xi);focus first|rfl|(simp [go_sem, *];done))|((with_reducible apply Xj);focus first|rfl|(simp [go_sem, *];done))|(simp only [Exit.then,Exit.inBlock,↓reduceIte,Nat.reduceEqDiff])|((with_reducible apply kf_out);focus assumption))
    have lt_l_r := hB_l.lt
    have le_r := F0.size
    ((with_reducible apply Xu); (focus rfl); (focus (simp [go_sem, effAt]; exact ⟨rfl, rfl⟩)); (focus ((first|(apply put_some rfl;focus (conv=>lhs;dsimp only [Xr,Xs])<;>rfl)|exact put_none rfl))))
    intro w1 hB_r hs
    have Fw1 := F0.trans (Turn.of_below hs)
    replace hB_l := hB_l.below hs hB_l.lt
    clear hs F0
    clear hc_l; have hc_l := hB_l.cell
    have hc_r := hB_r.cell
    repeat (first|(with_reducible apply Xa)|((with_reducible apply region_k);intro KK kk)|(with_reducible apply Xc)|((with_reducible apply seq_k);intro KK kk)|((with_reducible apply Xk);(focus first|exact wanted_none rfl|exact wanted_yes rfl rfl rfl);(focus (simp [go_sem,effAt,↓IntWalk.iteOmega, *];(try go_ints);with_reducible first|exact Xm|exact Xn));focus (first|(apply put_some rfl;focus (conv=>lhs;dsimp only [Xr,Xs])<;>rfl)|exact put_none rfl))|((with_reducible apply Xl);(focus first|exact wanted_no rfl rfl rfl|exact wanted_undef rfl rfl rfl);focus (first|(apply put_some rfl;focus (conv=>lhs;dsimp only [Xr,Xs])<;>rfl)|exact put_none rfl))|(with_reducible first|apply Xe|apply Xf|apply Xg|apply Xh)|((with_reducible apply Xi);focus first|rfl|(simp [go_sem, *];done))|((with_reducible apply Xj);focus first|rfl|(simp [go_sem, *];done))|(simp only [Exit.then,Exit.inBlock,↓reduceIte,Nat.reduceEqDiff])|((with_reducible apply kf_out);focus assumption))
    have hf_r := hB_r.frozen
    ((with_reducible apply Xt (fun w' => Blk w' _ _ _ ∧ w1.grownBy w' (some _))); (focus rfl); (focus (simp [go_sem, effAt, *]; exact ⟨rfl, (((((hB_r.set_ 0 _).set_ 1 _).set_ 2 _).set_ 3 _).set_ 4 _), (grown_set (grown_set (grown_set (grown_set (grown_set (World.grownBy.refl _ _))))))⟩)); (focus ((first|(apply put_some rfl;focus (conv=>lhs;dsimp only [Xr,Xs])<;>rfl)|exact put_none rfl))))
    clear hf_r hc_r hB_r
    intro w2 hs
    obtain ⟨hB_r, hs⟩ := hs
    simp only [Xq,Xr,Xs] at hB_r
    have Fw2 := Fw1.trans (Turn.of_grown hs (by first | exact .inl rfl | exact .inr (by omega)))
    replace hB_l := hB_l.grown hs (by intro hk; injection hk with hk; have := hB_l.lt; have := hB_r.lt; omega)
    clear hs Fw1
    clear hc_l; have hc_l := hB_l.cell
    have hc_r := hB_r.cell
    repeat (first|(with_reducible apply Xa)|((with_reducible apply region_k);intro KK kk)|(with_reducible apply Xc)|((with_reducible apply seq_k);intro KK kk)|((with_reducible apply Xk);(focus first|exact wanted_none rfl|exact wanted_yes rfl rfl rfl);(focus (simp [go_sem,effAt,↓IntWalk.iteOmega, *];(try go_ints);with_reducible first|exact Xm|exact Xn));focus (first|(apply put_some rfl;focus (conv=>lhs;dsimp only [Xr,Xs])<;>rfl)|exact put_none rfl))|((with_reducible apply Xl);(focus first|exact wanted_no rfl rfl rfl|exact wanted_undef rfl rfl rfl);focus (first|(apply put_some rfl;focus (conv=>lhs;dsimp only [Xr,Xs])<;>rfl)|exact put_none rfl))|(with_reducible first|apply Xe|apply Xf|apply Xg|apply Xh)|((with_reducible apply Xi);focus first|rfl|(simp [go_sem, *];done))|((with_reducible apply Xj);focus first|rfl|(simp [go_sem, *];done))|(simp only [Exit.then,Exit.inBlock,↓reduceIte,Nat.reduceEqDiff])|((with_reducible apply kf_out);focus assumption))
    refine bodyPost_ret (v := _) (by simp [results, Try.results25, go_sem, *]) rfl ⟨rfl, hB_l, Turn.to_grown (by assumption)⟩
theorem rclose_1 (h : Nat) (ls : Bool) (tr mo : Int) (w : World) (hB_l : RB w h 1 ls tr mo) :
    Calls Try.prog 25 #[.pointer (some ⟨h, 0, none⟩)] w (Ret (actV 0 false false 0 0) fun w' => RB w' h 1 ls tr mo ∧ w.grownBy w' (some h)) := bundlea_2.1 h ls tr mo w hB_l
theorem rclose_4 (h : Nat) (ls : Bool) (tr mo : Int) (w : World) (hB_l : RB w h 4 ls tr mo) :
    Calls Try.prog 25 #[.pointer (some ⟨h, 0, none⟩)] w (Ret (actV 0 false false 0 0) fun w' => RB w' h 4 ls tr mo ∧ w.grownBy w' (some h)) := bundlea_2.2.1 h ls tr mo w hB_l
theorem rclose_5 (h : Nat) (ls : Bool) (tr mo : Int) (w : World) (hB_l : RB w h 5 ls tr mo) :
    Calls Try.prog 25 #[.pointer (some ⟨h, 0, none⟩)] w (Ret (actV 0 false false 0 0) fun w' => RB w' h 5 ls tr mo ∧ w.grownBy w' (some h)) := bundlea_2.2.2 h ls tr mo w hB_l
set_option maxHeartbeats 6000000 in
theorem bundlea_3 :
    (∀ (h : Nat) (ls : Bool) (tr mo : Int) (w : World) (hB_l : RB w h 1 ls tr mo), Calls Try.prog 26 #[.pointer (some ⟨h, 0, none⟩)] w (Ret (actV 0 false false 0 0) fun w' => RB w' h 1 ls tr mo ∧ w.grownBy w' (some h))) ∧
    (∀ (h : Nat) (ls : Bool) (tr mo : Int) (w : World) (hB_l : RB w h 3 ls tr mo), Calls Try.prog 26 #[.pointer (some ⟨h, 0, none⟩)] w (Ret (actV 0 false false 0 0) fun w' => RB w' h 3 ls tr mo ∧ w.grownBy w' (some h))) ∧
    (∀ (h : Nat) (ls : Bool) (tr mo : Int) (w : World) (hB_l : RB w h 5 ls tr mo), Calls Try.prog 26 #[.pointer (some ⟨h, 0, none⟩)] w (Ret (actV 0 false false 0 0) fun w' => RB w' h 5 ls tr mo ∧ w.grownBy w' (some h))) := by
  refine ⟨?a0, ?a1, ?a2⟩
  case' a0 =>
    intro h ls tr mo w hB_l
    unfold RB at *
  case' a1 =>
    intro h ls tr mo w hB_l
    unfold RB at *
  case' a2 =>
    intro h ls tr mo w hB_l
    unfold RB at *
  all_goals
    go_enter Try.func26, Try.ntmps26
    have F0 : Turn (fun i => i = h ∨ w.heap.size ≤ i) w w := Turn.refl _
    have hc_l := hB_l.cell
    repeat (first|(with_reducible apply Xa)|((with_reducible apply region_k);intro KK kk)|(with_reducible apply Xc)|((with_reducible apply seq_k);intro KK kk)|((with_reducible apply Xk);(focus first|exact wanted_none rfl|exact wanted_yes rfl rfl rfl);(focus (simp [go_sem,effAt,↓IntWalk.iteOmega, *];(try go_ints);with_reducible first|exact Xm|exact Xn));focus (first|(apply put_some rfl;focus (conv=>lhs;dsimp only [Xr,Xs])<;>rfl)|exact put_none rfl))|((with_reducible apply Xl);(focus first|exact wanted_no rfl rfl rfl|exact wanted_undef rfl rfl rfl);focus (first|(apply put_some rfl;focus (conv=>lhs;dsimp only [Xr,Xs])<;>rfl)|exact put_none rfl))|(with_reducible first|apply Xe|apply Xf|apply Xg|apply Xh)|((with_reducible apply Xi);focus first|rfl|(simp [go_sem, *];done))|((with_reducible apply Xj);focus first|rfl|(simp [go_sem, *];done))|(simp only [Exit.then,Exit.inBlock,↓reduceIte,Nat.reduceEqDiff])|((with_reducible apply kf_out);focus assumption))
    have lt_l_r := hB_l.lt
    have le_r := F0.size
    ((with_reducible apply Xu); (focus rfl); (focus (simp [go_sem, effAt]; exact ⟨rfl, rfl⟩)); (focus ((first|(apply put_some rfl;focus (conv=>lhs;dsimp only [Xr,Xs])<;>rfl)|exact put_none rfl))))
    intro w1 hB_r hs
    have Fw1 := F0.trans (Turn.of_below hs)
    replace hB_l := hB_l.below hs hB_l.lt
    clear hs F0
    clear hc_l; have hc_l := hB_l.cell
    have hc_r := hB_r.cell
    repeat (first|(with_reducible apply Xa)|((with_reducible apply region_k);intro KK kk)|(with_reducible apply Xc)|((with_reducible apply seq_k);intro KK kk)|((with_reducible apply Xk);(focus first|exact wanted_none rfl|exact wanted_yes rfl rfl rfl);(focus (simp [go_sem,effAt,↓IntWalk.iteOmega, *];(try go_ints);with_reducible first|exact Xm|exact Xn));focus (first|(apply put_some rfl;focus (conv=>lhs;dsimp only [Xr,Xs])<;>rfl)|exact put_none rfl))|((with_reducible apply Xl);(focus first|exact wanted_no rfl rfl rfl|exact wanted_undef rfl rfl rfl);focus (first|(apply put_some rfl;focus (conv=>lhs;dsimp only [Xr,Xs])<;>rfl)|exact put_none rfl))|(with_reducible first|apply Xe|apply Xf|apply Xg|apply Xh)|((with_reducible apply Xi);focus first|rfl|(simp [go_sem, *];done))|((with_reducible apply Xj);focus first|rfl|(simp [go_sem, *];done))|(simp only [Exit.then,Exit.inBlock,↓reduceIte,Nat.reduceEqDiff])|((with_reducible apply kf_out);focus assumption))
    have hf_r := hB_r.frozen
    ((with_reducible apply Xt (fun w' => Blk w' _ _ _ ∧ w1.grownBy w' (some _))); (focus rfl); (focus (simp [go_sem, effAt, *]; exact ⟨rfl, (((((hB_r.set_ 0 _).set_ 1 _).set_ 2 _).set_ 3 _).set_ 4 _), (grown_set (grown_set (grown_set (grown_set (grown_set (World.grownBy.refl _ _))))))⟩)); (focus ((first|(apply put_some rfl;focus (conv=>lhs;dsimp only [Xr,Xs])<;>rfl)|exact put_none rfl))))
    clear hf_r hc_r hB_r
    intro w2 hs
    obtain ⟨hB_r, hs⟩ := hs
    simp only [Xq,Xr,Xs] at hB_r
    have Fw2 := Fw1.trans (Turn.of_grown hs (by first | exact .inl rfl | exact .inr (by omega)))
    replace hB_l := hB_l.grown hs (by intro hk; injection hk with hk; have := hB_l.lt; have := hB_r.lt; omega)
    clear hs Fw1
    clear hc_l; have hc_l := hB_l.cell
    have hc_r := hB_r.cell
    repeat (first|(with_reducible apply Xa)|((with_reducible apply region_k);intro KK kk)|(with_reducible apply Xc)|((with_reducible apply seq_k);intro KK kk)|((with_reducible apply Xk);(focus first|exact wanted_none rfl|exact wanted_yes rfl rfl rfl);(focus (simp [go_sem,effAt,↓IntWalk.iteOmega, *];(try go_ints);with_reducible first|exact Xm|exact Xn));focus (first|(apply put_some rfl;focus (conv=>lhs;dsimp only [Xr,Xs])<;>rfl)|exact put_none rfl))|((with_reducible apply Xl);(focus first|exact wanted_no rfl rfl rfl|exact wanted_undef rfl rfl rfl);focus (first|(apply put_some rfl;focus (conv=>lhs;dsimp only [Xr,Xs])<;>rfl)|exact put_none rfl))|(with_reducible first|apply Xe|apply Xf|apply Xg|apply Xh)|((with_reducible apply Xi);focus first|rfl|(simp [go_sem, *];done))|((with_reducible apply Xj);focus first|rfl|(simp [go_sem, *];done))|(simp only [Exit.then,Exit.inBlock,↓reduceIte,Nat.reduceEqDiff])|((with_reducible apply kf_out);focus assumption))
    refine bodyPost_ret (v := _) (by simp [results, Try.results26, go_sem, *]) rfl ⟨rfl, hB_l, Turn.to_grown (by assumption)⟩
theorem rdue_1 (h : Nat) (ls : Bool) (tr mo : Int) (w : World) (hB_l : RB w h 1 ls tr mo) :
    Calls Try.prog 26 #[.pointer (some ⟨h, 0, none⟩)] w (Ret (actV 0 false false 0 0) fun w' => RB w' h 1 ls tr mo ∧ w.grownBy w' (some h)) := bundlea_3.1 h ls tr mo w hB_l
theorem rdue_3 (h : Nat) (ls : Bool) (tr mo : Int) (w : World) (hB_l : RB w h 3 ls tr mo) :
    Calls Try.prog 26 #[.pointer (some ⟨h, 0, none⟩)] w (Ret (actV 0 false false 0 0) fun w' => RB w' h 3 ls tr mo ∧ w.grownBy w' (some h)) := bundlea_3.2.1 h ls tr mo w hB_l
theorem rdue_5 (h : Nat) (ls : Bool) (tr mo : Int) (w : World) (hB_l : RB w h 5 ls tr mo) :
    Calls Try.prog 26 #[.pointer (some ⟨h, 0, none⟩)] w (Ret (actV 0 false false 0 0) fun w' => RB w' h 5 ls tr mo ∧ w.grownBy w' (some h)) := bundlea_3.2.2 h ls tr mo w hB_l
set_option maxHeartbeats 6000000 in
theorem bundlea_4 :
    (∀ (h : Nat) (ls : Bool) (tr mo : Int) (w : World) (hB_l : RB w h 2 ls tr mo), Calls Try.prog 24 #[.pointer (some ⟨h, 0, none⟩)] w (Ret (actV 0 false false 0 0) fun w' => RB w' h 2 ls tr mo ∧ w.grownBy w' (some h))) ∧
    (∀ (h : Nat) (ls : Bool) (tr mo : Int) (w : World) (hB_l : RB w h 3 ls tr mo), Calls Try.prog 24 #[.pointer (some ⟨h, 0, none⟩)] w (Ret (actV 0 false false 0 0) fun w' => RB w' h 3 ls tr mo ∧ w.grownBy w' (some h))) ∧
    (∀ (h : Nat) (ls : Bool) (tr mo : Int) (w : World) (hB_l : RB w h 4 ls tr mo), Calls Try.prog 24 #[.pointer (some ⟨h, 0, none⟩)] w (Ret (actV 0 false false 0 0) fun w' => RB w' h 4 ls tr mo ∧ w.grownBy w' (some h))) := by
  refine ⟨?a0, ?a1, ?a2⟩
  case' a0 =>
    intro h ls tr mo w hB_l
    unfold RB at *
  case' a1 =>
    intro h ls tr mo w hB_l
    unfold RB at *
  case' a2 =>
    intro h ls tr mo w hB_l
    unfold RB at *
  all_goals
    go_enter Try.func24, Try.ntmps24
    have F0 : Turn (fun i => i = h ∨ w.heap.size ≤ i) w w := Turn.refl _
    have hc_l := hB_l.cell
    repeat (first|(with_reducible apply Xa)|((with_reducible apply region_k);intro KK kk)|(with_reducible apply Xc)|((with_reducible apply seq_k);intro KK kk)|((with_reducible apply Xk);(focus first|exact wanted_none rfl|exact wanted_yes rfl rfl rfl);(focus (simp [go_sem,effAt,↓IntWalk.iteOmega, *];(try go_ints);with_reducible first|exact Xm|exact Xn));focus (first|(apply put_some rfl;focus (conv=>lhs;dsimp only [Xr,Xs])<;>rfl)|exact put_none rfl))|((with_reducible apply Xl);(focus first|exact wanted_no rfl rfl rfl|exact wanted_undef rfl rfl rfl);focus (first|(apply put_some rfl;focus (conv=>lhs;dsimp only [Xr,Xs])<;>rfl)|exact put_none rfl))|(with_reducible first|apply Xe|apply Xf|apply Xg|apply Xh)|((with_reducible apply Xi);focus first|rfl|(simp [go_sem, *];done))|((with_reducible apply Xj);focus first|rfl|(simp [go_sem, *];done))|(simp only [Exit.then,Exit.inBlock,↓reduceIte,Nat.reduceEqDiff])|((with_reducible apply kf_out);focus assumption))
    have lt_l_r := hB_l.lt
    have le_r := F0.size
    ((with_reducible apply Xu); (focus rfl); (focus (simp [go_sem, effAt]; exact ⟨rfl, rfl⟩)); (focus ((first|(apply put_some rfl;focus (conv=>lhs;dsimp only [Xr,Xs])<;>rfl)|exact put_none rfl))))
    intro w1 hB_r hs
    have Fw1 := F0.trans (Turn.of_below hs)
    replace hB_l := hB_l.below hs hB_l.lt
    clear hs F0
    clear hc_l; have hc_l := hB_l.cell
    have hc_r := hB_r.cell
    repeat (first|(with_reducible apply Xa)|((with_reducible apply region_k);intro KK kk)|(with_reducible apply Xc)|((with_reducible apply seq_k);intro KK kk)|((with_reducible apply Xk);(focus first|exact wanted_none rfl|exact wanted_yes rfl rfl rfl);(focus (simp [go_sem,effAt,↓IntWalk.iteOmega, *];(try go_ints);with_reducible first|exact Xm|exact Xn));focus (first|(apply put_some rfl;focus (conv=>lhs;dsimp only [Xr,Xs])<;>rfl)|exact put_none rfl))|((with_reducible apply Xl);(focus first|exact wanted_no rfl rfl rfl|exact wanted_undef rfl rfl rfl);focus (first|(apply put_some rfl;focus (conv=>lhs;dsimp only [Xr,Xs])<;>rfl)|exact put_none rfl))|(with_reducible first|apply Xe|apply Xf|apply Xg|apply Xh)|((with_reducible apply Xi);focus first|rfl|(simp [go_sem, *];done))|((with_reducible apply Xj);focus first|rfl|(simp [go_sem, *];done))|(simp only [Exit.then,Exit.inBlock,↓reduceIte,Nat.reduceEqDiff])|((with_reducible apply kf_out);focus assumption))
    have hf_r := hB_r.frozen
    ((with_reducible apply Xt (fun w' => Blk w' _ _ _ ∧ w1.grownBy w' (some _))); (focus rfl); (focus (simp [go_sem, effAt, *]; exact ⟨rfl, (((((hB_r.set_ 0 _).set_ 1 _).set_ 2 _).set_ 3 _).set_ 4 _), (grown_set (grown_set (grown_set (grown_set (grown_set (World.grownBy.refl _ _))))))⟩)); (focus ((first|(apply put_some rfl;focus (conv=>lhs;dsimp only [Xr,Xs])<;>rfl)|exact put_none rfl))))
    clear hf_r hc_r hB_r
    intro w2 hs
    obtain ⟨hB_r, hs⟩ := hs
    simp only [Xq,Xr,Xs] at hB_r
    have Fw2 := Fw1.trans (Turn.of_grown hs (by first | exact .inl rfl | exact .inr (by omega)))
    replace hB_l := hB_l.grown hs (by intro hk; injection hk with hk; have := hB_l.lt; have := hB_r.lt; omega)
    clear hs Fw1
    clear hc_l; have hc_l := hB_l.cell
    have hc_r := hB_r.cell
    repeat (first|(with_reducible apply Xa)|((with_reducible apply region_k);intro KK kk)|(with_reducible apply Xc)|((with_reducible apply seq_k);intro KK kk)|((with_reducible apply Xk);(focus first|exact wanted_none rfl|exact wanted_yes rfl rfl rfl);(focus (simp [go_sem,effAt,↓IntWalk.iteOmega, *];(try go_ints);with_reducible first|exact Xm|exact Xn));focus (first|(apply put_some rfl;focus (conv=>lhs;dsimp only [Xr,Xs])<;>rfl)|exact put_none rfl))|((with_reducible apply Xl);(focus first|exact wanted_no rfl rfl rfl|exact wanted_undef rfl rfl rfl);focus (first|(apply put_some rfl;focus (conv=>lhs;dsimp only [Xr,Xs])<;>rfl)|exact put_none rfl))|(with_reducible first|apply Xe|apply Xf|apply Xg|apply Xh)|((with_reducible apply Xi);focus first|rfl|(simp [go_sem, *];done))|((with_reducible apply Xj);focus first|rfl|(simp [go_sem, *];done))|(simp only [Exit.then,Exit.inBlock,↓reduceIte,Nat.reduceEqDiff])|((with_reducible apply kf_out);focus assumption))
    refine bodyPost_ret (v := _) (by simp [results, Try.results24, go_sem, *]) rfl ⟨rfl, hB_l, Turn.to_grown (by assumption)⟩
theorem ropen_2 (h : Nat) (ls : Bool) (tr mo : Int) (w : World) (hB_l : RB w h 2 ls tr mo) :
    Calls Try.prog 24 #[.pointer (some ⟨h, 0, none⟩)] w (Ret (actV 0 false false 0 0) fun w' => RB w' h 2 ls tr mo ∧ w.grownBy w' (some h)) := bundlea_4.1 h ls tr mo w hB_l
theorem ropen_3 (h : Nat) (ls : Bool) (tr mo : Int) (w : World) (hB_l : RB w h 3 ls tr mo) :
    Calls Try.prog 24 #[.pointer (some ⟨h, 0, none⟩)] w (Ret (actV 0 false false 0 0) fun w' => RB w' h 3 ls tr mo ∧ w.grownBy w' (some h)) := bundlea_4.2.1 h ls tr mo w hB_l
theorem ropen_4 (h : Nat) (ls : Bool) (tr mo : Int) (w : World) (hB_l : RB w h 4 ls tr mo) :
    Calls Try.prog 24 #[.pointer (some ⟨h, 0, none⟩)] w (Ret (actV 0 false false 0 0) fun w' => RB w' h 4 ls tr mo ∧ w.grownBy w' (some h)) := bundlea_4.2.2 h ls tr mo w hB_l
set_option maxHeartbeats 4000000 in
theorem bundlea_5 :
    (∀ (h : Nat) (ls : Bool) (tr mo : Int) (w : World) (hB_l : RB w h 2 ls tr mo), Calls Try.prog 25 #[.pointer (some ⟨h, 0, none⟩)] w (Ret (actV 4 true true 1 0) fun w' => RB w' h 4 ls 0 mo ∧ w.grownBy w' (some h))) ∧
    (∀ (h : Nat) (ls : Bool) (tr mo : Int) (w : World) (hB_l : RB w h 3 ls tr mo), Calls Try.prog 25 #[.pointer (some ⟨h, 0, none⟩)] w (Ret (actV 4 true true 1 0) fun w' => RB w' h 4 ls 0 mo ∧ w.grownBy w' (some h))) := by
  refine ⟨?a0, ?a1⟩
  case' a0 =>
    intro h ls tr mo w hB_l
    have hT := fun w h' => rasks_any h 2 ls tr mo 4 4 w h'
    unfold RB at *
  case' a1 =>
    intro h ls tr mo w hB_l
    have hT := fun w h' => rasks_any h 3 ls tr mo 4 4 w h'
    unfold RB at *
  all_goals
    go_enter Try.func25, Try.ntmps25
    have F0 : Turn (fun i => i = h ∨ w.heap.size ≤ i) w w := Turn.refl _
    have hc_l := hB_l.cell
    repeat (first|(with_reducible apply Xa)|((with_reducible apply region_k);intro KK kk)|(with_reducible apply Xc)|((with_reducible apply seq_k);intro KK kk)|((with_reducible apply Xk);(focus first|exact wanted_none rfl|exact wanted_yes rfl rfl rfl);(focus (simp [go_sem,effAt,↓IntWalk.iteOmega, *];(try go_ints);with_reducible first|exact Xm|exact Xn));focus (first|(apply put_some rfl;focus (conv=>lhs;dsimp only [Xr,Xs])<;>rfl)|exact put_none rfl))|((with_reducible apply Xl);(focus first|exact wanted_no rfl rfl rfl|exact wanted_undef rfl rfl rfl);focus (first|(apply put_some rfl;focus (conv=>lhs;dsimp only [Xr,Xs])<;>rfl)|exact put_none rfl))|(with_reducible first|apply Xe|apply Xf|apply Xg|apply Xh)|((with_reducible apply Xi);focus first|rfl|(simp [go_sem, *];done))|((with_reducible apply Xj);focus first|rfl|(simp [go_sem, *];done))|(simp only [Exit.then,Exit.inBlock,↓reduceIte,Nat.reduceEqDiff])|((with_reducible apply kf_out);focus assumption))
    have lt_l_r := hB_l.lt
    have le_r := F0.size
    ((with_reducible apply Xu); (focus rfl); (focus (simp [go_sem, effAt]; exact ⟨rfl, rfl⟩)); (focus ((first|(apply put_some rfl;focus (conv=>lhs;dsimp only [Xr,Xs])<;>rfl)|exact put_none rfl))))
    intro w1 hB_r hs
    have Fw1 := F0.trans (Turn.of_below hs)
    replace hB_l := hB_l.below hs hB_l.lt
    clear hs F0
    clear hc_l; have hc_l := hB_l.cell
    have hc_r := hB_r.cell
    repeat (first|(with_reducible apply Xa)|((with_reducible apply region_k);intro KK kk)|(with_reducible apply Xc)|((with_reducible apply seq_k);intro KK kk)|((with_reducible apply Xk);(focus first|exact wanted_none rfl|exact wanted_yes rfl rfl rfl);(focus (simp [go_sem,effAt,↓IntWalk.iteOmega, *];(try go_ints);with_reducible first|exact Xm|exact Xn));focus (first|(apply put_some rfl;focus (conv=>lhs;dsimp only [Xr,Xs])<;>rfl)|exact put_none rfl))|((with_reducible apply Xl);(focus first|exact wanted_no rfl rfl rfl|exact wanted_undef rfl rfl rfl);focus (first|(apply put_some rfl;focus (conv=>lhs;dsimp only [Xr,Xs])<;>rfl)|exact put_none rfl))|(with_reducible first|apply Xe|apply Xf|apply Xg|apply Xh)|((with_reducible apply Xi);focus first|rfl|(simp [go_sem, *];done))|((with_reducible apply Xj);focus first|rfl|(simp [go_sem, *];done))|(simp only [Exit.then,Exit.inBlock,↓reduceIte,Nat.reduceEqDiff])|((with_reducible apply kf_out);focus assumption))
    ((with_reducible apply Xt (fun w' => Blk w' _ _ _ ∧ w1.grownBy w' (some _))); (focus rfl); (focus (simp only [effAt]; simp [go_sem]; (with_reducible exact effUpon_enter (hT _ hB_l)))); (focus ((first|(apply put_some rfl;focus (conv=>lhs;dsimp only [Xr,Xs])<;>rfl)|exact put_none rfl))))
    clear hc_l hB_l
    intro w2 hs
    obtain ⟨hB_l, hs⟩ := hs
    have Fw2 := Fw1.trans (Turn.of_grown hs (by first | exact .inl rfl | exact .inr (by omega)))
    replace hB_r := hB_r.grown hs (by intro hk; injection hk with hk; have := hB_r.lt; have := hB_l.lt; omega)
    clear hs Fw1
    clear hc_r; have hc_r := hB_r.cell
    have hc_l := hB_l.cell
    repeat (first|(with_reducible apply Xa)|((with_reducible apply region_k);intro KK kk)|(with_reducible apply Xc)|((with_reducible apply seq_k);intro KK kk)|((with_reducible apply Xk);(focus first|exact wanted_none rfl|exact wanted_yes rfl rfl rfl);(focus (simp [go_sem,effAt,↓IntWalk.iteOmega, *];(try go_ints);with_reducible first|exact Xm|exact Xn));focus (first|(apply put_some rfl;focus (conv=>lhs;dsimp only [Xr,Xs])<;>rfl)|exact put_none rfl))|((with_reducible apply Xl);(focus first|exact wanted_no rfl rfl rfl|exact wanted_undef rfl rfl rfl);focus (first|(apply put_some rfl;focus (conv=>lhs;dsimp only [Xr,Xs])<;>rfl)|exact put_none rfl))|(with_reducible first|apply Xe|apply Xf|apply Xg|apply Xh)|((with_reducible apply Xi);focus first|rfl|(simp [go_sem, *];done))|((with_reducible apply Xj);focus first|rfl|(simp [go_sem, *];done))|(simp only [Exit.then,Exit.inBlock,↓reduceIte,Nat.reduceEqDiff])|((with_reducible apply kf_out);focus assumption))
    have hf_r := hB_r.frozen
    ((with_reducible apply Xt (fun w' => Blk w' _ _ _ ∧ w2.grownBy w' (some _))); (focus rfl); (focus (simp [go_sem, effAt, *]; exact ⟨rfl, (((((hB_r.set_ 0 _).set_ 1 _).set_ 2 _).set_ 3 _).set_ 4 _), (grown_set (grown_set (grown_set (grown_set (grown_set (World.grownBy.refl _ _))))))⟩)); (focus ((first|(apply put_some rfl;focus (conv=>lhs;dsimp only [Xr,Xs])<;>rfl)|exact put_none rfl))))
    clear hf_r hc_r hB_r
    intro w3 hs
    obtain ⟨hB_r, hs⟩ := hs
    simp only [Xq,Xr,Xs] at hB_r
    have Fw3 := Fw2.trans (Turn.of_grown hs (by first | exact .inl rfl | exact .inr (by omega)))
    replace hB_l := hB_l.grown hs (by intro hk; injection hk with hk; have := hB_l.lt; have := hB_r.lt; omega)
    clear hs Fw2
    clear hc_l; have hc_l := hB_l.cell
    have hc_r := hB_r.cell
    repeat (first|(with_reducible apply Xa)|((with_reducible apply region_k);intro KK kk)|(with_reducible apply Xc)|((with_reducible apply seq_k);intro KK kk)|((with_reducible apply Xk);(focus first|exact wanted_none rfl|exact wanted_yes rfl rfl rfl);(focus (simp [go_sem,effAt,↓IntWalk.iteOmega, *];(try go_ints);with_reducible first|exact Xm|exact Xn));focus (first|(apply put_some rfl;focus (conv=>lhs;dsimp only [Xr,Xs])<;>rfl)|exact put_none rfl))|((with_reducible apply Xl);(focus first|exact wanted_no rfl rfl rfl|exact wanted_undef rfl rfl rfl);focus (first|(apply put_some rfl;focus (conv=>lhs;dsimp only [Xr,Xs])<;>rfl)|exact put_none rfl))|(with_reducible first|apply Xe|apply Xf|apply Xg|apply Xh)|((with_reducible apply Xi);focus first|rfl|(simp [go_sem, *];done))|((with_reducible apply Xj);focus first|rfl|(simp [go_sem, *];done))|(simp only [Exit.then,Exit.inBlock,↓reduceIte,Nat.reduceEqDiff])|((with_reducible apply kf_out);focus assumption))
    refine bodyPost_ret (v := _) (by simp [results, Try.results25, go_sem, *]) rfl ⟨rfl, hB_l, Turn.to_grown (by assumption)⟩
theorem rclose_2 (h : Nat) (ls : Bool) (tr mo : Int) (w : World) (hB_l : RB w h 2 ls tr mo) :
    Calls Try.prog 25 #[.pointer (some ⟨h, 0, none⟩)] w (Ret (actV 4 true true 1 0) fun w' => RB w' h 4 ls 0 mo ∧ w.grownBy w' (some h)) := bundlea_5.1 h ls tr mo w hB_l
theorem rclose_3 (h : Nat) (ls : Bool) (tr mo : Int) (w : World) (hB_l : RB w h 3 ls tr mo) :
    Calls Try.prog 25 #[.pointer (some ⟨h, 0, none⟩)] w (Ret (actV 4 true true 1 0) fun w' => RB w' h 4 ls 0 mo ∧ w.grownBy w' (some h)) := bundlea_5.2 h ls tr mo w hB_l
set_option maxHeartbeats 4000000 in
theorem bundlea_6 :
    (∀ (h : Nat) (ls : Bool) (tr mo : Int) (w : World) (hB_l : RB w h 2 ls tr mo) (hd : tr < mo) (hb : 0 ≤ tr ∧ mo ≤ 255), Calls Try.prog 26 #[.pointer (some ⟨h, 0, none⟩)] w (Ret (actV 1 true true 1 0) fun w' => RB w' h 2 ls (tr + 1) mo ∧ w.grownBy w' (some h))) ∧
    (∀ (h : Nat) (ls : Bool) (tr mo : Int) (w : World) (hB_l : RB w h 4 ls tr mo) (hd : tr < mo) (hb : 0 ≤ tr ∧ mo ≤ 255), Calls Try.prog 26 #[.pointer (some ⟨h, 0, none⟩)] w (Ret (actV 4 true true 1 0) fun w' => RB w' h 4 ls (tr + 1) mo ∧ w.grownBy w' (some h))) := by
  refine ⟨?a0, ?a1⟩
  case' a0 =>
    intro h ls tr mo w hB_l hd hb
    unfold RB at *
  case' a1 =>
    intro h ls tr mo w hB_l hd hb
    unfold RB at *
  all_goals
    go_enter Try.func26, Try.ntmps26
    have F0 : Turn (fun i => i = h ∨ w.heap.size ≤ i) w w := Turn.refl _
    have hc_l := hB_l.cell
    repeat (first|(with_reducible apply Xa)|((with_reducible apply region_k);intro KK kk)|(with_reducible apply Xc)|((with_reducible apply seq_k);intro KK kk)|((with_reducible apply Xk);(focus first|exact wanted_none rfl|exact wanted_yes rfl rfl rfl);(focus (simp [go_sem,effAt,↓IntWalk.iteOmega, *];(try go_ints);with_reducible first|exact Xm|exact Xn));focus (first|(apply put_some rfl;focus (conv=>lhs;dsimp only [Xr,Xs])<;>rfl)|exact put_none rfl))|((with_reducible apply Xl);(focus first|exact wanted_no rfl rfl rfl|exact wanted_undef rfl rfl rfl);focus (first|(apply put_some rfl;focus (conv=>lhs;dsimp only [Xr,Xs])<;>rfl)|exact put_none rfl))|(with_reducible first|apply Xe|apply Xf|apply Xg|apply Xh)|((with_reducible apply Xi);focus first|rfl|(simp [go_sem, *];done))|((with_reducible apply Xj);focus first|rfl|(simp [go_sem, *];done))|(simp only [Exit.then,Exit.inBlock,↓reduceIte,Nat.reduceEqDiff])|((with_reducible apply kf_out);focus assumption))
    have lt_l_r := hB_l.lt
    have le_r := F0.size
    ((with_reducible apply Xu); (focus rfl); (focus (simp [go_sem, effAt]; exact ⟨rfl, rfl⟩)); (focus ((first|(apply put_some rfl;focus (conv=>lhs;dsimp only [Xr,Xs])<;>rfl)|exact put_none rfl))))
    intro w1 hB_r hs
    have Fw1 := F0.trans (Turn.of_below hs)
    replace hB_l := hB_l.below hs hB_l.lt
    clear hs F0
    clear hc_l; have hc_l := hB_l.cell
    have hc_r := hB_r.cell
    repeat (first|(with_reducible apply Xa)|((with_reducible apply region_k);intro KK kk)|(with_reducible apply Xc)|((with_reducible apply seq_k);intro KK kk)|((with_reducible apply Xk);(focus first|exact wanted_none rfl|exact wanted_yes rfl rfl rfl);(focus (simp [go_sem,effAt,↓IntWalk.iteOmega, *];(try go_ints);with_reducible first|exact Xm|exact Xn));focus (first|(apply put_some rfl;focus (conv=>lhs;dsimp only [Xr,Xs])<;>rfl)|exact put_none rfl))|((with_reducible apply Xl);(focus first|exact wanted_no rfl rfl rfl|exact wanted_undef rfl rfl rfl);focus (first|(apply put_some rfl;focus (conv=>lhs;dsimp only [Xr,Xs])<;>rfl)|exact put_none rfl))|(with_reducible first|apply Xe|apply Xf|apply Xg|apply Xh)|((with_reducible apply Xi);focus first|rfl|(simp [go_sem, *];done))|((with_reducible apply Xj);focus first|rfl|(simp [go_sem, *];done))|(simp only [Exit.then,Exit.inBlock,↓reduceIte,Nat.reduceEqDiff])|((with_reducible apply kf_out);focus assumption))
    refine wp_region_tail 8 (by kernel_rfl) (by kernel_rfl) ?_
    simp only [List.take_succ_cons, List.take_zero, List.drop_succ_cons, List.drop_zero]
    generalize hww2 : World.drew w1 = w2
    have hs : Below w1.heap.size w1 w2 := hww2 ▸ (Below.refl _ _).drew
    clear hww2
    have Fw2 := Fw1.trans (Turn.of_below hs)
    replace hB_l := hB_l.below hs hB_l.lt
    replace hB_r := hB_r.below hs hB_r.lt
    clear hs Fw1
    clear hc_l; have hc_l := hB_l.cell
    clear hc_r; have hc_r := hB_r.cell
    repeat (first | ((with_reducible apply still_q); (focus rfl); (focus (simp [go_sem, stAt, ↓IntWalk.iteOmega, *]; (try go_ints); (first | (with_reducible exact stUpon_val) | (with_reducible exact stUpon_skip)))); (focus ((first|(apply put_some rfl;focus (conv=>lhs;dsimp only [Xr,Xs])<;>rfl)|exact put_none rfl)))) | ((with_reducible apply still_s); (focus rfl); (focus ((first|(apply put_some rfl;focus (conv=>lhs;dsimp only [Xr,Xs])<;>rfl)|exact put_none rfl)))))
    with_reducible refine wpStill_nil ?_
    repeat (first|(with_reducible apply Xa)|((with_reducible apply region_k);intro KK kk)|(with_reducible apply Xc)|((with_reducible apply seq_k);intro KK kk)|((with_reducible apply Xk);(focus first|exact wanted_none rfl|exact wanted_yes rfl rfl rfl);(focus (simp [go_sem,effAt,↓IntWalk.iteOmega, *];(try go_ints);with_reducible first|exact Xm|exact Xn));focus (first|(apply put_some rfl;focus (conv=>lhs;dsimp only [Xr,Xs])<;>rfl)|exact put_none rfl))|((with_reducible apply Xl);(focus first|exact wanted_no rfl rfl rfl|exact wanted_undef rfl rfl rfl);focus (first|(apply put_some rfl;focus (conv=>lhs;dsimp only [Xr,Xs])<;>rfl)|exact put_none rfl))|(with_reducible first|apply Xe|apply Xf|apply Xg|apply Xh)|((with_reducible apply Xi);focus first|rfl|(simp [go_sem, *];done))|((with_reducible apply Xj);focus first|rfl|(simp [go_sem, *];done))|(simp only [Exit.then,Exit.inBlock,↓reduceIte,Nat.reduceEqDiff])|((with_reducible apply kf_out);focus assumption))
    have hf_l := hB_l.frozen
    ((with_reducible apply Xt (fun w' => Blk w' _ _ _ ∧ w2.grownBy w' (some _))); (focus rfl); (focus (simp [go_sem, effAt, *]; exact ⟨rfl, (hB_l.set_ 3 _), (grown_set (World.grownBy.refl _ _))⟩)); (focus ((first|(apply put_some rfl;focus (conv=>lhs;dsimp only [Xr,Xs])<;>rfl)|exact put_none rfl))))
    clear hf_l hc_l hB_l
    intro w3 hs
    obtain ⟨hB_l, hs⟩ := hs
    simp only [Xq,Xr,Xs] at hB_l
    have Fw3 := Fw2.trans (Turn.of_grown hs (by first | exact .inl rfl | exact .inr (by omega)))
    replace hB_r := hB_r.grown hs (by intro hk; injection hk with hk; have := hB_r.lt; have := hB_l.lt; omega)
    clear hs Fw2
    clear hc_r; have hc_r := hB_r.cell
    have hc_l := hB_l.cell
    repeat (first|(with_reducible apply Xa)|((with_reducible apply region_k);intro KK kk)|(with_reducible apply Xc)|((with_reducible apply seq_k);intro KK kk)|((with_reducible apply Xk);(focus first|exact wanted_none rfl|exact wanted_yes rfl rfl rfl);(focus (simp [go_sem,effAt,↓IntWalk.iteOmega, *];(try go_ints);with_reducible first|exact Xm|exact Xn));focus (first|(apply put_some rfl;focus (conv=>lhs;dsimp only [Xr,Xs])<;>rfl)|exact put_none rfl))|((with_reducible apply Xl);(focus first|exact wanted_no rfl rfl rfl|exact wanted_undef rfl rfl rfl);focus (first|(apply put_some rfl;focus (conv=>lhs;dsimp only [Xr,Xs])<;>rfl)|exact put_none rfl))|(with_reducible first|apply Xe|apply Xf|apply Xg|apply Xh)|((with_reducible apply Xi);focus first|rfl|(simp [go_sem, *];done))|((with_reducible apply Xj);focus first|rfl|(simp [go_sem, *];done))|(simp only [Exit.then,Exit.inBlock,↓reduceIte,Nat.reduceEqDiff])|((with_reducible apply kf_out);focus assumption))
    have hf_r := hB_r.frozen
    ((with_reducible apply Xt (fun w' => Blk w' _ _ _ ∧ w3.grownBy w' (some _))); (focus rfl); (focus (simp [go_sem, effAt, *]; exact ⟨rfl, (((((hB_r.set_ 0 _).set_ 1 _).set_ 2 _).set_ 3 _).set_ 4 _), (grown_set (grown_set (grown_set (grown_set (grown_set (World.grownBy.refl _ _))))))⟩)); (focus ((first|(apply put_some rfl;focus (conv=>lhs;dsimp only [Xr,Xs])<;>rfl)|exact put_none rfl))))
    clear hf_r hc_r hB_r
    intro w4 hs
    obtain ⟨hB_r, hs⟩ := hs
    simp only [Xq,Xr,Xs] at hB_r
    have Fw4 := Fw3.trans (Turn.of_grown hs (by first | exact .inl rfl | exact .inr (by omega)))
    replace hB_l := hB_l.grown hs (by intro hk; injection hk with hk; have := hB_l.lt; have := hB_r.lt; omega)
    clear hs Fw3
    clear hc_l; have hc_l := hB_l.cell
    have hc_r := hB_r.cell
    repeat (first|(with_reducible apply Xa)|((with_reducible apply region_k);intro KK kk)|(with_reducible apply Xc)|((with_reducible apply seq_k);intro KK kk)|((with_reducible apply Xk);(focus first|exact wanted_none rfl|exact wanted_yes rfl rfl rfl);(focus (simp [go_sem,effAt,↓IntWalk.iteOmega, *];(try go_ints);with_reducible first|exact Xm|exact Xn));focus (first|(apply put_some rfl;focus (conv=>lhs;dsimp only [Xr,Xs])<;>rfl)|exact put_none rfl))|((with_reducible apply Xl);(focus first|exact wanted_no rfl rfl rfl|exact wanted_undef rfl rfl rfl);focus (first|(apply put_some rfl;focus (conv=>lhs;dsimp only [Xr,Xs])<;>rfl)|exact put_none rfl))|(with_reducible first|apply Xe|apply Xf|apply Xg|apply Xh)|((with_reducible apply Xi);focus first|rfl|(simp [go_sem, *];done))|((with_reducible apply Xj);focus first|rfl|(simp [go_sem, *];done))|(simp only [Exit.then,Exit.inBlock,↓reduceIte,Nat.reduceEqDiff])|((with_reducible apply kf_out);focus assumption))
    refine bodyPost_ret (v := _) (by simp [results, Try.results26, go_sem, *]) rfl ⟨rfl, hB_l, Turn.to_grown (by assumption)⟩
theorem rdue_2M (h : Nat) (ls : Bool) (tr mo : Int) (w : World) (hB_l : RB w h 2 ls tr mo) (hd : tr < mo) (hb : 0 ≤ tr ∧ mo ≤ 255) :
    Calls Try.prog 26 #[.pointer (some ⟨h, 0, none⟩)] w (Ret (actV 1 true true 1 0) fun w' => RB w' h 2 ls (tr + 1) mo ∧ w.grownBy w' (some h)) := bundlea_6.1 h ls tr mo w hB_l hd hb
theorem rdue_4M (h : Nat) (ls : Bool) (tr mo : Int) (w : World) (hB_l : RB w h 4 ls tr mo) (hd : tr < mo) (hb : 0 ≤ tr ∧ mo ≤ 255) :
    Calls Try.prog 26 #[.pointer (some ⟨h, 0, none⟩)] w (Ret (actV 4 true true 1 0) fun w' => RB w' h 4 ls (tr + 1) mo ∧ w.grownBy w' (some h)) := bundlea_6.2 h ls tr mo w hB_l hd hb
set_option maxHeartbeats 4000000 in
theorem bundlea_7 :
    (∀ (h : Nat) (ls : Bool) (tr mo : Int) (w : World) (hB_l : RB w h 2 ls tr mo) (hd : ¬ tr < mo), Calls Try.prog 26 #[.pointer (some ⟨h, 0, none⟩)] w (Ret (actV 0 false false 2 6) fun w' => RB w' h 5 ls tr mo ∧ w.grownBy w' (some h))) ∧
    (∀ (h : Nat) (ls : Bool) (tr mo : Int) (w : World) (hB_l : RB w h 4 ls tr mo) (hd : ¬ tr < mo), Calls Try.prog 26 #[.pointer (some ⟨h, 0, none⟩)] w (Ret (actV 0 false false 2 6) fun w' => RB w' h 5 ls tr mo ∧ w.grownBy w' (some h))) := by
  refine ⟨?a0, ?a1⟩
  case' a0 =>
    intro h ls tr mo w hB_l hd
    have hT := fun w h' => rto_any h 2 ls tr mo 5 0 false false 2 6 w h'
    unfold RB at *
  case' a1 =>
    intro h ls tr mo w hB_l hd
    have hT := fun w h' => rto_any h 4 ls tr mo 5 0 false false 2 6 w h'
    unfold RB at *
  all_goals
    go_enter Try.func26, Try.ntmps26
    have F0 : Turn (fun i => i = h ∨ w.heap.size ≤ i) w w := Turn.refl _
    have hc_l := hB_l.cell
    repeat (first|(with_reducible apply Xa)|((with_reducible apply region_k);intro KK kk)|(with_reducible apply Xc)|((with_reducible apply seq_k);intro KK kk)|((with_reducible apply Xk);(focus first|exact wanted_none rfl|exact wanted_yes rfl rfl rfl);(focus (simp [go_sem,effAt,↓IntWalk.iteOmega, *];(try go_ints);with_reducible first|exact Xm|exact Xn));focus (first|(apply put_some rfl;focus (conv=>lhs;dsimp only [Xr,Xs])<;>rfl)|exact put_none rfl))|((with_reducible apply Xl);(focus first|exact wanted_no rfl rfl rfl|exact wanted_undef rfl rfl rfl);focus (first|(apply put_some rfl;focus (conv=>lhs;dsimp only [Xr,Xs])<;>rfl)|exact put_none rfl))|(with_reducible first|apply Xe|apply Xf|apply Xg|apply Xh)|((with_reducible apply Xi);focus first|rfl|(simp [go_sem, *];done))|((with_reducible apply Xj);focus first|rfl|(simp [go_sem, *];done))|(simp only [Exit.then,Exit.inBlock,↓reduceIte,Nat.reduceEqDiff])|((with_reducible apply kf_out);focus assumption))
    have lt_l_r := hB_l.lt
    have le_r := F0.size
    ((with_reducible apply Xu); (focus rfl); (focus (simp [go_sem, effAt]; exact ⟨rfl, rfl⟩)); (focus ((first|(apply put_some rfl;focus (conv=>lhs;dsimp only [Xr,Xs])<;>rfl)|exact put_none rfl))))
    intro w1 hB_r hs
    have Fw1 := F0.trans (Turn.of_below hs)
    replace hB_l := hB_l.below hs hB_l.lt
    clear hs F0
    clear hc_l; have hc_l := hB_l.cell
    have hc_r := hB_r.cell
    repeat (first|(with_reducible apply Xa)|((with_reducible apply region_k);intro KK kk)|(with_reducible apply Xc)|((with_reducible apply seq_k);intro KK kk)|((with_reducible apply Xk);(focus first|exact wanted_none rfl|exact wanted_yes rfl rfl rfl);(focus (simp [go_sem,effAt,↓IntWalk.iteOmega, *];(try go_ints);with_reducible first|exact Xm|exact Xn));focus (first|(apply put_some rfl;focus (conv=>lhs;dsimp only [Xr,Xs])<;>rfl)|exact put_none rfl))|((with_reducible apply Xl);(focus first|exact wanted_no rfl rfl rfl|exact wanted_undef rfl rfl rfl);focus (first|(apply put_some rfl;focus (conv=>lhs;dsimp only [Xr,Xs])<;>rfl)|exact put_none rfl))|(with_reducible first|apply Xe|apply Xf|apply Xg|apply Xh)|((with_reducible apply Xi);focus first|rfl|(simp [go_sem, *];done))|((with_reducible apply Xj);focus first|rfl|(simp [go_sem, *];done))|(simp only [Exit.then,Exit.inBlock,↓reduceIte,Nat.reduceEqDiff])|((with_reducible apply kf_out);focus assumption))
    refine wp_region_tail 8 (by kernel_rfl) (by kernel_rfl) ?_
    simp only [List.take_succ_cons, List.take_zero, List.drop_succ_cons, List.drop_zero]
    generalize hww2 : World.drew w1 = w2
    have hs : Below w1.heap.size w1 w2 := hww2 ▸ (Below.refl _ _).drew
    clear hww2
    have Fw2 := Fw1.trans (Turn.of_below hs)
    replace hB_l := hB_l.below hs hB_l.lt
    replace hB_r := hB_r.below hs hB_r.lt
    clear hs Fw1
    clear hc_l; have hc_l := hB_l.cell
    clear hc_r; have hc_r := hB_r.cell
    repeat (first | ((with_reducible apply still_q); (focus rfl); (focus (simp [go_sem, stAt, ↓IntWalk.iteOmega, *]; (try go_ints); (first | (with_reducible exact stUpon_val) | (with_reducible exact stUpon_skip)))); (focus ((first|(apply put_some rfl;focus (conv=>lhs;dsimp only [Xr,Xs])<;>rfl)|exact put_none rfl)))) | ((with_reducible apply still_s); (focus rfl); (focus ((first|(apply put_some rfl;focus (conv=>lhs;dsimp only [Xr,Xs])<;>rfl)|exact put_none rfl)))))
    with_reducible refine wpStill_nil ?_
    repeat (first|(with_reducible apply Xa)|((with_reducible apply region_k);intro KK kk)|(with_reducible apply Xc)|((with_reducible apply seq_k);intro KK kk)|((with_reducible apply Xk);(focus first|exact wanted_none rfl|exact wanted_yes rfl rfl rfl);(focus (simp [go_sem,effAt,↓IntWalk.iteOmega, *];(try go_ints);with_reducible first|exact Xm|exact Xn));focus (first|(apply put_some rfl;focus (conv=>lhs;dsimp only [Xr,Xs])<;>rfl)|exact put_none rfl))|((with_reducible apply Xl);(focus first|exact wanted_no rfl rfl rfl|exact wanted_undef rfl rfl rfl);focus (first|(apply put_some rfl;focus (conv=>lhs;dsimp only [Xr,Xs])<;>rfl)|exact put_none rfl))|(with_reducible first|apply Xe|apply Xf|apply Xg|apply Xh)|((with_reducible apply Xi);focus first|rfl|(simp [go_sem, *];done))|((with_reducible apply Xj);focus first|rfl|(simp [go_sem, *];done))|(simp only [Exit.then,Exit.inBlock,↓reduceIte,Nat.reduceEqDiff])|((with_reducible apply kf_out);focus assumption))
    ((with_reducible apply Xt (fun w' => Blk w' _ _ _ ∧ w2.grownBy w' (some _))); (focus rfl); (focus (simp only [effAt]; simp [go_sem]; (with_reducible exact effUpon_enter (hT _ hB_l)))); (focus ((first|(apply put_some rfl;focus (conv=>lhs;dsimp only [Xr,Xs])<;>rfl)|exact put_none rfl))))
    clear hc_l hB_l
    intro w3 hs
    obtain ⟨hB_l, hs⟩ := hs
    have Fw3 := Fw2.trans (Turn.of_grown hs (by first | exact .inl rfl | exact .inr (by omega)))
    replace hB_r := hB_r.grown hs (by intro hk; injection hk with hk; have := hB_r.lt; have := hB_l.lt; omega)
    clear hs Fw2
    clear hc_r; have hc_r := hB_r.cell
    have hc_l := hB_l.cell
    repeat (first|(with_reducible apply Xa)|((with_reducible apply region_k);intro KK kk)|(with_reducible apply Xc)|((with_reducible apply seq_k);intro KK kk)|((with_reducible apply Xk);(focus first|exact wanted_none rfl|exact wanted_yes rfl rfl rfl);(focus (simp [go_sem,effAt,↓IntWalk.iteOmega, *];(try go_ints);with_reducible first|exact Xm|exact Xn));focus (first|(apply put_some rfl;focus (conv=>lhs;dsimp only [Xr,Xs])<;>rfl)|exact put_none rfl))|((with_reducible apply Xl);(focus first|exact wanted_no rfl rfl rfl|exact wanted_undef rfl rfl rfl);focus (first|(apply put_some rfl;focus (conv=>lhs;dsimp only [Xr,Xs])<;>rfl)|exact put_none rfl))|(with_reducible first|apply Xe|apply Xf|apply Xg|apply Xh)|((with_reducible apply Xi);focus first|rfl|(simp [go_sem, *];done))|((with_reducible apply Xj);focus first|rfl|(simp [go_sem, *];done))|(simp only [Exit.then,Exit.inBlock,↓reduceIte,Nat.reduceEqDiff])|((with_reducible apply kf_out);focus assumption))
    have hf_r := hB_r.frozen
    ((with_reducible apply Xt (fun w' => Blk w' _ _ _ ∧ w3.grownBy w' (some _))); (focus rfl); (focus (simp [go_sem, effAt, *]; exact ⟨rfl, (((((hB_r.set_ 0 _).set_ 1 _).set_ 2 _).set_ 3 _).set_ 4 _), (grown_set (grown_set (grown_set (grown_set (grown_set (World.grownBy.refl _ _))))))⟩)); (focus ((first|(apply put_some rfl;focus (conv=>lhs;dsimp only [Xr,Xs])<;>rfl)|exact put_none rfl))))
    clear hf_r hc_r hB_r
    intro w4 hs
    obtain ⟨hB_r, hs⟩ := hs
    simp only [Xq,Xr,Xs] at hB_r
    have Fw4 := Fw3.trans (Turn.of_grown hs (by first | exact .inl rfl | exact .inr (by omega)))
    replace hB_l := hB_l.grown hs (by intro hk; injection hk with hk; have := hB_l.lt; have := hB_r.lt; omega)
    clear hs Fw3
    clear hc_l; have hc_l := hB_l.cell
    have hc_r := hB_r.cell
    repeat (first|(with_reducible apply Xa)|((with_reducible apply region_k);intro KK kk)|(with_reducible apply Xc)|((with_reducible apply seq_k);intro KK kk)|((with_reducible apply Xk);(focus first|exact wanted_none rfl|exact wanted_yes rfl rfl rfl);(focus (simp [go_sem,effAt,↓IntWalk.iteOmega, *];(try go_ints);with_reducible first|exact Xm|exact Xn));focus (first|(apply put_some rfl;focus (conv=>lhs;dsimp only [Xr,Xs])<;>rfl)|exact put_none rfl))|((with_reducible apply Xl);(focus first|exact wanted_no rfl rfl rfl|exact wanted_undef rfl rfl rfl);focus (first|(apply put_some rfl;focus (conv=>lhs;dsimp only [Xr,Xs])<;>rfl)|exact put_none rfl))|(with_reducible first|apply Xe|apply Xf|apply Xg|apply Xh)|((with_reducible apply Xi);focus first|rfl|(simp [go_sem, *];done))|((with_reducible apply Xj);focus first|rfl|(simp [go_sem, *];done))|(simp only [Exit.then,Exit.inBlock,↓reduceIte,Nat.reduceEqDiff])|((with_reducible apply kf_out);focus assumption))
    refine bodyPost_ret (v := _) (by simp [results, Try.results26, go_sem, *]) rfl ⟨rfl, hB_l, Turn.to_grown (by assumption)⟩
theorem rdue_2E (h : Nat) (ls : Bool) (tr mo : Int) (w : World) (hB_l : RB w h 2 ls tr mo) (hd : ¬ tr < mo) :
    Calls Try.prog 26 #[.pointer (some ⟨h, 0, none⟩)] w (Ret (actV 0 false false 2 6) fun w' => RB w' h 5 ls tr mo ∧ w.grownBy w' (some h)) := bundlea_7.1 h ls tr mo w hB_l hd
theorem rdue_4E (h : Nat) (ls : Bool) (tr mo : Int) (w : World) (hB_l : RB w h 4 ls tr mo) (hd : ¬ tr < mo) :
    Calls Try.prog 26 #[.pointer (some ⟨h, 0, none⟩)] w (Ret (actV 0 false false 2 6) fun w' => RB w' h 5 ls tr mo ∧ w.grownBy w' (some h)) := bundlea_7.2 h ls tr mo w hB_l hd
set_option maxHeartbeats 6000000 in
theorem bundlea_8 :
    (∀ (h : Nat) (tr mo : Int) (p : Bool) (w : World) (hB_l : RB w h 1 true tr mo), Calls Try.prog 33 #[.pointer (some ⟨h, 0, none⟩), .int .u8 1, .bool p] w (Ret (actV 2 false p 0 2) fun w' => RB w' h 3 true tr mo ∧ w.grownBy w' (some h))) ∧
    (∀ (h : Nat) (tr mo : Int) (p : Bool) (w : World) (hB_l : RB w h 5 true tr mo), Calls Try.prog 33 #[.pointer (some ⟨h, 0, none⟩), .int .u8 1, .bool p] w (Ret (actV 2 false p 0 2) fun w' => RB w' h 3 true tr mo ∧ w.grownBy w' (some h))) ∧
    (∀ (h : Nat) (ls : Bool) (tr mo : Int) (p : Bool) (w : World) (hB_l : RB w h 3 ls tr mo), Calls Try.prog 33 #[.pointer (some ⟨h, 0, none⟩), .int .u8 4, .bool p] w (Ret (actV 2 false p 0 5) fun w' => RB w' h 1 ls tr mo ∧ w.grownBy w' (some h))) := by
  refine ⟨?a0, ?a1, ?a2⟩
  case' a0 =>
    intro h tr mo p w hB_l
    have hT := fun w h' => rto_any h 1 true tr mo 3 2 false p 0 2 w h'
    unfold RB at *
  case' a1 =>
    intro h tr mo p w hB_l
    have hT := fun w h' => rto_any h 5 true tr mo 3 2 false p 0 2 w h'
    unfold RB at *
  case' a2 =>
    intro h ls tr mo p w hB_l
    have hT := fun w h' => rto_any h 3 ls tr mo 1 2 false p 0 5 w h'
    unfold RB at *
  all_goals
    go_enter Try.func33, Try.ntmps33
    have F0 : Turn (fun i => i = h ∨ w.heap.size ≤ i) w w := Turn.refl _
    have hc_l := hB_l.cell
    repeat (first|(with_reducible apply Xa)|((with_reducible apply region_k);intro KK kk)|(with_reducible apply Xc)|((with_reducible apply seq_k);intro KK kk)|((with_reducible apply Xk);(focus first|exact wanted_none rfl|exact wanted_yes rfl rfl rfl);(focus (simp [go_sem,effAt,↓IntWalk.iteOmega, *];(try go_ints);with_reducible first|exact Xm|exact Xn));focus (first|(apply put_some rfl;focus (conv=>lhs;dsimp only [Xr,Xs])<;>rfl)|exact put_none rfl))|((with_reducible apply Xl);(focus first|exact wanted_no rfl rfl rfl|exact wanted_undef rfl rfl rfl);focus (first|(apply put_some rfl;focus (conv=>lhs;dsimp only [Xr,Xs])<;>rfl)|exact put_none rfl))|(with_reducible first|apply Xe|apply Xf|apply Xg|apply Xh)|((with_reducible apply Xi);focus first|rfl|(simp [go_sem, *];done))|((with_reducible apply Xj);focus first|rfl|(simp [go_sem, *];done))|(simp only [Exit.then,Exit.inBlock,↓reduceIte,Nat.reduceEqDiff])|((with_reducible apply kf_out);focus assumption))
    have lt_l_r := hB_l.lt
    have le_r := F0.size
    ((with_reducible apply Xu); (focus rfl); (focus (simp [go_sem, effAt]; exact ⟨rfl, rfl⟩)); (focus ((first|(apply put_some rfl;focus (conv=>lhs;dsimp only [Xr,Xs])<;>rfl)|exact put_none rfl))))
    intro w1 hB_r hs
    have Fw1 := F0.trans (Turn.of_below hs)
    replace hB_l := hB_l.below hs hB_l.lt
    clear hs F0
    clear hc_l; have hc_l := hB_l.cell
    have hc_r := hB_r.cell
    repeat (first|(with_reducible apply Xa)|((with_reducible apply region_k);intro KK kk)|(with_reducible apply Xc)|((with_reducible apply seq_k);intro KK kk)|((with_reducible apply Xk);(focus first|exact wanted_none rfl|exact wanted_yes rfl rfl rfl);(focus (simp [go_sem,effAt,↓IntWalk.iteOmega, *];(try go_ints);with_reducible first|exact Xm|exact Xn));focus (first|(apply put_some rfl;focus (conv=>lhs;dsimp only [Xr,Xs])<;>rfl)|exact put_none rfl))|((with_reducible apply Xl);(focus first|exact wanted_no rfl rfl rfl|exact wanted_undef rfl rfl rfl);focus (first|(apply put_some rfl;focus (conv=>lhs;dsimp only [Xr,Xs])<;>rfl)|exact put_none rfl))|(with_reducible first|apply Xe|apply Xf|apply Xg|apply Xh)|((with_reducible apply Xi);focus first|rfl|(simp [go_sem, *];done))|((with_reducible apply Xj);focus first|rfl|(simp [go_sem, *];done))|(simp only [Exit.then,Exit.inBlock,↓reduceIte,Nat.reduceEqDiff])|((with_reducible apply kf_out);focus assumption))
    have lt_l_u := hB_l.lt
    have lt_r_u := hB_r.lt
    have le_u := Fw1.size
    ((with_reducible apply Xu); (focus rfl); (focus (simp [go_sem, effAt]; exact ⟨rfl, rfl⟩)); (focus ((first|(apply put_some rfl;focus (conv=>lhs;dsimp only [Xr,Xs])<;>rfl)|exact put_none rfl))))
    intro w2 hB_u hs
    have Fw2 := Fw1.trans (Turn.of_below hs)
    replace hB_l := hB_l.below hs hB_l.lt
    replace hB_r := hB_r.below hs hB_r.lt
    clear hs Fw1
    clear hc_l; have hc_l := hB_l.cell
    clear hc_r; have hc_r := hB_r.cell
    have hc_u := hB_u.cell
    repeat (first|(with_reducible apply Xa)|((with_reducible apply region_k);intro KK kk)|(with_reducible apply Xc)|((with_reducible apply seq_k);intro KK kk)|((with_reducible apply Xk);(focus first|exact wanted_none rfl|exact wanted_yes rfl rfl rfl);(focus (simp [go_sem,effAt,↓IntWalk.iteOmega, *];(try go_ints);with_reducible first|exact Xm|exact Xn));focus (first|(apply put_some rfl;focus (conv=>lhs;dsimp only [Xr,Xs])<;>rfl)|exact put_none rfl))|((with_reducible apply Xl);(focus first|exact wanted_no rfl rfl rfl|exact wanted_undef rfl rfl rfl);focus (first|(apply put_some rfl;focus (conv=>lhs;dsimp only [Xr,Xs])<;>rfl)|exact put_none rfl))|(with_reducible first|apply Xe|apply Xf|apply Xg|apply Xh)|((with_reducible apply Xi);focus first|rfl|(simp [go_sem, *];done))|((with_reducible apply Xj);focus first|rfl|(simp [go_sem, *];done))|(simp only [Exit.then,Exit.inBlock,↓reduceIte,Nat.reduceEqDiff])|((with_reducible apply kf_out);focus assumption))
    have lt_l_d := hB_l.lt
    have lt_r_d := hB_r.lt
    have lt_u_d := hB_u.lt
    have le_d := Fw2.size
    ((with_reducible apply Xu); (focus rfl); (focus (simp [go_sem, effAt]; exact ⟨rfl, rfl⟩)); (focus ((first|(apply put_some rfl;focus (conv=>lhs;dsimp only [Xr,Xs])<;>rfl)|exact put_none rfl))))
    intro w3 hB_d hs
    have Fw3 := Fw2.trans (Turn.of_below hs)
    replace hB_l := hB_l.below hs hB_l.lt
    replace hB_r := hB_r.below hs hB_r.lt
    replace hB_u := hB_u.below hs hB_u.lt
    clear hs Fw2
    clear hc_l; have hc_l := hB_l.cell
    clear hc_r; have hc_r := hB_r.cell
    clear hc_u; have hc_u := hB_u.cell
    have hc_d := hB_d.cell
    repeat (first|(with_reducible apply Xa)|((with_reducible apply region_k);intro KK kk)|(with_reducible apply Xc)|((with_reducible apply seq_k);intro KK kk)|((with_reducible apply Xk);(focus first|exact wanted_none rfl|exact wanted_yes rfl rfl rfl);(focus (simp [go_sem,effAt,↓IntWalk.iteOmega, *];(try go_ints);with_reducible first|exact Xm|exact Xn));focus (first|(apply put_some rfl;focus (conv=>lhs;dsimp only [Xr,Xs])<;>rfl)|exact put_none rfl))|((with_reducible apply Xl);(focus first|exact wanted_no rfl rfl rfl|exact wanted_undef rfl rfl rfl);focus (first|(apply put_some rfl;focus (conv=>lhs;dsimp only [Xr,Xs])<;>rfl)|exact put_none rfl))|(with_reducible first|apply Xe|apply Xf|apply Xg|apply Xh)|((with_reducible apply Xi);focus first|rfl|(simp [go_sem, *];done))|((with_reducible apply Xj);focus first|rfl|(simp [go_sem, *];done))|(simp only [Exit.then,Exit.inBlock,↓reduceIte,Nat.reduceEqDiff])|((with_reducible apply kf_out);focus assumption))
    have hf_u := hB_u.frozen
    ((with_reducible apply Xt (fun w' => Blk w' _ _ _ ∧ w3.grownBy w' (some _))); (focus rfl); (focus (simp [go_sem, effAt, *]; exact ⟨rfl, (((((hB_u.set_ 0 _).set_ 1 _).set_ 2 _).set_ 3 _).set_ 4 _), (grown_set (grown_set (grown_set (grown_set (grown_set (World.grownBy.refl _ _))))))⟩)); (focus ((first|(apply put_some rfl;focus (conv=>lhs;dsimp only [Xr,Xs])<;>rfl)|exact put_none rfl))))
    clear hf_u hc_u hB_u
    intro w4 hs
    obtain ⟨hB_u, hs⟩ := hs
    simp only [Xq,Xr,Xs] at hB_u
    have Fw4 := Fw3.trans (Turn.of_grown hs (by first | exact .inl rfl | exact .inr (by omega)))
    replace hB_l := hB_l.grown hs (by intro hk; injection hk with hk; have := hB_l.lt; have := hB_u.lt; omega)
    replace hB_r := hB_r.grown hs (by intro hk; injection hk with hk; have := hB_r.lt; have := hB_u.lt; omega)
    replace hB_d := hB_d.grown hs (by intro hk; injection hk with hk; have := hB_d.lt; have := hB_u.lt; omega)
    clear hs Fw3
    clear hc_l; have hc_l := hB_l.cell
    clear hc_r; have hc_r := hB_r.cell
    clear hc_d; have hc_d := hB_d.cell
    have hc_u := hB_u.cell
    repeat (first|(with_reducible apply Xa)|((with_reducible apply region_k);intro KK kk)|(with_reducible apply Xc)|((with_reducible apply seq_k);intro KK kk)|((with_reducible apply Xk);(focus first|exact wanted_none rfl|exact wanted_yes rfl rfl rfl);(focus (simp [go_sem,effAt,↓IntWalk.iteOmega, *];(try go_ints);with_reducible first|exact Xm|exact Xn));focus (first|(apply put_some rfl;focus (conv=>lhs;dsimp only [Xr,Xs])<;>rfl)|exact put_none rfl))|((with_reducible apply Xl);(focus first|exact wanted_no rfl rfl rfl|exact wanted_undef rfl rfl rfl);focus (first|(apply put_some rfl;focus (conv=>lhs;dsimp only [Xr,Xs])<;>rfl)|exact put_none rfl))|(with_reducible first|apply Xe|apply Xf|apply Xg|apply Xh)|((with_reducible apply Xi);focus first|rfl|(simp [go_sem, *];done))|((with_reducible apply Xj);focus first|rfl|(simp [go_sem, *];done))|(simp only [Exit.then,Exit.inBlock,↓reduceIte,Nat.reduceEqDiff])|((with_reducible apply kf_out);focus assumption))
    have hf_d := hB_d.frozen
    ((with_reducible apply Xt (fun w' => Blk w' _ _ _ ∧ w4.grownBy w' (some _))); (focus rfl); (focus (simp [go_sem, effAt, *]; exact ⟨rfl, (((((hB_d.set_ 0 _).set_ 1 _).set_ 2 _).set_ 3 _).set_ 4 _), (grown_set (grown_set (grown_set (grown_set (grown_set (World.grownBy.refl _ _))))))⟩)); (focus ((first|(apply put_some rfl;focus (conv=>lhs;dsimp only [Xr,Xs])<;>rfl)|exact put_none rfl))))
    clear hf_d hc_d hB_d
    intro w5 hs
    obtain ⟨hB_d, hs⟩ := hs
    simp only [Xq,Xr,Xs] at hB_d
    have Fw5 := Fw4.trans (Turn.of_grown hs (by first | exact .inl rfl | exact .inr (by omega)))
    replace hB_l := hB_l.grown hs (by intro hk; injection hk with hk; have := hB_l.lt; have := hB_d.lt; omega)
    replace hB_r := hB_r.grown hs (by intro hk; injection hk with hk; have := hB_r.lt; have := hB_d.lt; omega)
    replace hB_u := hB_u.grown hs (by intro hk; injection hk with hk; have := hB_u.lt; have := hB_d.lt; omega)
    clear hs Fw4
    clear hc_l; have hc_l := hB_l.cell
    clear hc_r; have hc_r := hB_r.cell
    clear hc_u; have hc_u := hB_u.cell
    have hc_d := hB_d.cell
    repeat (first|(with_reducible apply Xa)|((with_reducible apply region_k);intro KK kk)|(with_reducible apply Xc)|((with_reducible apply seq_k);intro KK kk)|((with_reducible apply Xk);(focus first|exact wanted_none rfl|exact wanted_yes rfl rfl rfl);(focus (simp [go_sem,effAt,↓IntWalk.iteOmega, *];(try go_ints);with_reducible first|exact Xm|exact Xn));focus (first|(apply put_some rfl;focus (conv=>lhs;dsimp only [Xr,Xs])<;>rfl)|exact put_none rfl))|((with_reducible apply Xl);(focus first|exact wanted_no rfl rfl rfl|exact wanted_undef rfl rfl rfl);focus (first|(apply put_some rfl;focus (conv=>lhs;dsimp only [Xr,Xs])<;>rfl)|exact put_none rfl))|(with_reducible first|apply Xe|apply Xf|apply Xg|apply Xh)|((with_reducible apply Xi);focus first|rfl|(simp [go_sem, *];done))|((with_reducible apply Xj);focus first|rfl|(simp [go_sem, *];done))|(simp only [Exit.then,Exit.inBlock,↓reduceIte,Nat.reduceEqDiff])|((with_reducible apply kf_out);focus assumption))
    have hf_u := hB_u.frozen
    ((with_reducible apply Xt (fun w' => Blk w' _ _ _ ∧ w5.grownBy w' (some _))); (focus rfl); (focus (simp [go_sem, effAt, *]; exact ⟨rfl, (hB_u.set_ 4 _), (grown_set (World.grownBy.refl _ _))⟩)); (focus ((first|(apply put_some rfl;focus (conv=>lhs;dsimp only [Xr,Xs])<;>rfl)|exact put_none rfl))))
    clear hf_u hc_u hB_u
    intro w6 hs
    obtain ⟨hB_u, hs⟩ := hs
    simp only [Xq,Xr,Xs] at hB_u
    have Fw6 := Fw5.trans (Turn.of_grown hs (by first | exact .inl rfl | exact .inr (by omega)))
    replace hB_l := hB_l.grown hs (by intro hk; injection hk with hk; have := hB_l.lt; have := hB_u.lt; omega)
    replace hB_r := hB_r.grown hs (by intro hk; injection hk with hk; have := hB_r.lt; have := hB_u.lt; omega)
    replace hB_d := hB_d.grown hs (by intro hk; injection hk with hk; have := hB_d.lt; have := hB_u.lt; omega)
    clear hs Fw5
    clear hc_l; have hc_l := hB_l.cell
    clear hc_r; have hc_r := hB_r.cell
    clear hc_d; have hc_d := hB_d.cell
    have hc_u := hB_u.cell
    repeat (first|(with_reducible apply Xa)|((with_reducible apply region_k);intro KK kk)|(with_reducible apply Xc)|((with_reducible apply seq_k);intro KK kk)|((with_reducible apply Xk);(focus first|exact wanted_none rfl|exact wanted_yes rfl rfl rfl);(focus (simp [go_sem,effAt,↓IntWalk.iteOmega, *];(try go_ints);with_reducible first|exact Xm|exact Xn));focus (first|(apply put_some rfl;focus (conv=>lhs;dsimp only [Xr,Xs])<;>rfl)|exact put_none rfl))|((with_reducible apply Xl);(focus first|exact wanted_no rfl rfl rfl|exact wanted_undef rfl rfl rfl);focus (first|(apply put_some rfl;focus (conv=>lhs;dsimp only [Xr,Xs])<;>rfl)|exact put_none rfl))|(with_reducible first|apply Xe|apply Xf|apply Xg|apply Xh)|((with_reducible apply Xi);focus first|rfl|(simp [go_sem, *];done))|((with_reducible apply Xj);focus first|rfl|(simp [go_sem, *];done))|(simp only [Exit.then,Exit.inBlock,↓reduceIte,Nat.reduceEqDiff])|((with_reducible apply kf_out);focus assumption))
    ((with_reducible apply Xt (fun w' => Blk w' _ _ _ ∧ w6.grownBy w' (some _))); (focus rfl); (focus (simp only [effAt]; simp [go_sem]; (with_reducible exact effUpon_enter (hT _ hB_l)))); (focus ((first|(apply put_some rfl;focus (conv=>lhs;dsimp only [Xr,Xs])<;>rfl)|exact put_none rfl))))
    clear hc_l hB_l
    intro w7 hs
    obtain ⟨hB_l, hs⟩ := hs
    have Fw7 := Fw6.trans (Turn.of_grown hs (by first | exact .inl rfl | exact .inr (by omega)))
    replace hB_r := hB_r.grown hs (by intro hk; injection hk with hk; have := hB_r.lt; have := hB_l.lt; omega)
    replace hB_u := hB_u.grown hs (by intro hk; injection hk with hk; have := hB_u.lt; have := hB_l.lt; omega)
    replace hB_d := hB_d.grown hs (by intro hk; injection hk with hk; have := hB_d.lt; have := hB_l.lt; omega)
    clear hs Fw6
    clear hc_r; have hc_r := hB_r.cell
    clear hc_u; have hc_u := hB_u.cell
    clear hc_d; have hc_d := hB_d.cell
    have hc_l := hB_l.cell
    repeat (first|(with_reducible apply Xa)|((with_reducible apply region_k);intro KK kk)|(with_reducible apply Xc)|((with_reducible apply seq_k);intro KK kk)|((with_reducible apply Xk);(focus first|exact wanted_none rfl|exact wanted_yes rfl rfl rfl);(focus (simp [go_sem,effAt,↓IntWalk.iteOmega, *];(try go_ints);with_reducible first|exact Xm|exact Xn));focus (first|(apply put_some rfl;focus (conv=>lhs;dsimp only [Xr,Xs])<;>rfl)|exact put_none rfl))|((with_reducible apply Xl);(focus first|exact wanted_no rfl rfl rfl|exact wanted_undef rfl rfl rfl);focus (first|(apply put_some rfl;focus (conv=>lhs;dsimp only [Xr,Xs])<;>rfl)|exact put_none rfl))|(with_reducible first|apply Xe|apply Xf|apply Xg|apply Xh)|((with_reducible apply Xi);focus first|rfl|(simp [go_sem, *];done))|((with_reducible apply Xj);focus first|rfl|(simp [go_sem, *];done))|(simp only [Exit.then,Exit.inBlock,↓reduceIte,Nat.reduceEqDiff])|((with_reducible apply kf_out);focus assumption))
    have hf_r := hB_r.frozen
    ((with_reducible apply Xt (fun w' => Blk w' _ _ _ ∧ w7.grownBy w' (some _))); (focus rfl); (focus (simp [go_sem, effAt, *]; exact ⟨rfl, (((((hB_r.set_ 0 _).set_ 1 _).set_ 2 _).set_ 3 _).set_ 4 _), (grown_set (grown_set (grown_set (grown_set (grown_set (World.grownBy.refl _ _))))))⟩)); (focus ((first|(apply put_some rfl;focus (conv=>lhs;dsimp only [Xr,Xs])<;>rfl)|exact put_none rfl))))
    clear hf_r hc_r hB_r
    intro w8 hs
    obtain ⟨hB_r, hs⟩ := hs
    simp only [Xq,Xr,Xs] at hB_r
    have Fw8 := Fw7.trans (Turn.of_grown hs (by first | exact .inl rfl | exact .inr (by omega)))
    replace hB_l := hB_l.grown hs (by intro hk; injection hk with hk; have := hB_l.lt; have := hB_r.lt; omega)
    replace hB_u := hB_u.grown hs (by intro hk; injection hk with hk; have := hB_u.lt; have := hB_r.lt; omega)
    replace hB_d := hB_d.grown hs (by intro hk; injection hk with hk; have := hB_d.lt; have := hB_r.lt; omega)
    clear hs Fw7
    clear hc_l; have hc_l := hB_l.cell
    clear hc_u; have hc_u := hB_u.cell
    clear hc_d; have hc_d := hB_d.cell
    have hc_r := hB_r.cell
    repeat (first|(with_reducible apply Xa)|((with_reducible apply region_k);intro KK kk)|(with_reducible apply Xc)|((with_reducible apply seq_k);intro KK kk)|((with_reducible apply Xk);(focus first|exact wanted_none rfl|exact wanted_yes rfl rfl rfl);(focus (simp [go_sem,effAt,↓IntWalk.iteOmega, *];(try go_ints);with_reducible first|exact Xm|exact Xn));focus (first|(apply put_some rfl;focus (conv=>lhs;dsimp only [Xr,Xs])<;>rfl)|exact put_none rfl))|((with_reducible apply Xl);(focus first|exact wanted_no rfl rfl rfl|exact wanted_undef rfl rfl rfl);focus (first|(apply put_some rfl;focus (conv=>lhs;dsimp only [Xr,Xs])<;>rfl)|exact put_none rfl))|(with_reducible first|apply Xe|apply Xf|apply Xg|apply Xh)|((with_reducible apply Xi);focus first|rfl|(simp [go_sem, *];done))|((with_reducible apply Xj);focus first|rfl|(simp [go_sem, *];done))|(simp only [Exit.then,Exit.inBlock,↓reduceIte,Nat.reduceEqDiff])|((with_reducible apply kf_out);focus assumption))
    refine bodyPost_ret (v := _) (by simp [results, Try.results33, go_sem, *]) rfl ⟨rfl, hB_l, Turn.to_grown (by assumption)⟩
theorem rcmd_1_1t (h : Nat) (tr mo : Int) (p : Bool) (w : World) (hB_l : RB w h 1 true tr mo) :
    Calls Try.prog 33 #[.pointer (some ⟨h, 0, none⟩), .int .u8 1, .bool p] w (Ret (actV 2 false p 0 2) fun w' => RB w' h 3 true tr mo ∧ w.grownBy w' (some h)) := bundlea_8.1 h tr mo p w hB_l
theorem rcmd_5_1t (h : Nat) (tr mo : Int) (p : Bool) (w : World) (hB_l : RB w h 5 true tr mo) :
    Calls Try.prog 33 #[.pointer (some ⟨h, 0, none⟩), .int .u8 1, .bool p] w (Ret (actV 2 false p 0 2) fun w' => RB w' h 3 true tr mo ∧ w.grownBy w' (some h)) := bundlea_8.2.1 h tr mo p w hB_l
theorem rcmd_3_4 (h : Nat) (ls : Bool) (tr mo : Int) (p : Bool) (w : World) (hB_l : RB w h 3 ls tr mo) :
    Calls Try.prog 33 #[.pointer (some ⟨h, 0, none⟩), .int .u8 4, .bool p] w (Ret (actV 2 false p 0 5) fun w' => RB w' h 1 ls tr mo ∧ w.grownBy w' (some h)) := bundlea_8.2.2 h ls tr mo p w hB_l
set_option maxHeartbeats 28000000 in
theorem bundlea_9 :
    (∀ (h : Nat) (tr mo : Int) (p : Bool) (w : World) (hB_l : RB w h 1 false tr mo), Calls Try.prog 33 #[.pointer (some ⟨h, 0, none⟩), .int .u8 1, .bool p] w (Ret (actV 3 false p 0 0) fun w' => RB w' h 1 false tr mo ∧ w.grownBy w' (some h))) ∧
    (∀ (h : Nat) (ls : Bool) (tr mo : Int) (p : Bool) (w : World) (hB_l : RB w h 1 ls tr mo), Calls Try.prog 33 #[.pointer (some ⟨h, 0, none⟩), .int .u8 4, .bool p] w (Ret (actV 3 false p 0 0) fun w' => RB w' h 1 ls tr mo ∧ w.grownBy w' (some h))) ∧
    (∀ (h : Nat) (ls : Bool) (tr mo : Int) (k : Int) (w : World) (hB_l : RB w h 1 ls tr mo) (h1 : ¬ k = 1) (h4 : ¬ k = 4), Calls Try.prog 33 #[.pointer (some ⟨h, 0, none⟩), .int .u8 k, .bool true] w (Ret (actV 3 false true 0 0) fun w' => RB w' h 1 ls tr mo ∧ w.grownBy w' (some h))) ∧
    (∀ (h : Nat) (ls : Bool) (tr mo : Int) (k : Int) (w : World) (hB_l : RB w h 1 ls tr mo) (h1 : ¬ k = 1) (h4 : ¬ k = 4), Calls Try.prog 33 #[.pointer (some ⟨h, 0, none⟩), .int .u8 k, .bool false] w (Ret (actV 0 false false 0 0) fun w' => RB w' h 1 ls tr mo ∧ w.grownBy w' (some h))) ∧
    (∀ (h : Nat) (tr mo : Int) (p : Bool) (w : World) (hB_l : RB w h 5 false tr mo), Calls Try.prog 33 #[.pointer (some ⟨h, 0, none⟩), .int .u8 1, .bool p] w (Ret (actV 3 false p 0 0) fun w' => RB w' h 5 false tr mo ∧ w.grownBy w' (some h))) ∧
    (∀ (h : Nat) (ls : Bool) (tr mo : Int) (p : Bool) (w : World) (hB_l : RB w h 5 ls tr mo), Calls Try.prog 33 #[.pointer (some ⟨h, 0, none⟩), .int .u8 4, .bool p] w (Ret (actV 3 false p 0 0) fun w' => RB w' h 5 ls tr mo ∧ w.grownBy w' (some h))) ∧
    (∀ (h : Nat) (ls : Bool) (tr mo : Int) (k : Int) (w : World) (hB_l : RB w h 5 ls tr mo) (h1 : ¬ k = 1) (h4 : ¬ k = 4), Calls Try.prog 33 #[.pointer (some ⟨h, 0, none⟩), .int .u8 k, .bool true] w (Ret (actV 3 false true 0 0) fun w' => RB w' h 5 ls tr mo ∧ w.grownBy w' (some h))) ∧
    (∀ (h : Nat) (ls : Bool) (tr mo : Int) (k : Int) (w : World) (hB_l : RB w h 5 ls tr mo) (h1 : ¬ k = 1) (h4 : ¬ k = 4), Calls Try.prog 33 #[.pointer (some ⟨h, 0, none⟩), .int .u8 k, .bool false] w (Ret (actV 0 false false 0 0) fun w' => RB w' h 5 ls tr mo ∧ w.grownBy w' (some h))) ∧
    (∀ (h : Nat) (ls : Bool) (tr mo : Int) (p : Bool) (w : World) (hB_l : RB w h 2 ls tr mo), Calls Try.prog 33 #[.pointer (some ⟨h, 0, none⟩), .int .u8 1, .bool p] w (Ret (actV 2 false p 0 0) fun w' => RB w' h 2 ls tr mo ∧ w.grownBy w' (some h))) ∧
    (∀ (h : Nat) (ls : Bool) (tr mo : Int) (p : Bool) (k : Int) (w : World) (hB_l : RB w h 2 ls tr mo) (h1 : ¬ k = 1) (h4 : ¬ k = 4), Calls Try.prog 33 #[.pointer (some ⟨h, 0, none⟩), .int .u8 k, .bool p] w (Ret (actV 0 false false 0 0) fun w' => RB w' h 2 ls tr mo ∧ w.grownBy w' (some h))) ∧
    (∀ (h : Nat) (ls : Bool) (tr mo : Int) (p : Bool) (k : Int) (w : World) (hB_l : RB w h 3 ls tr mo) (h1 : ¬ k = 1) (h4 : ¬ k = 4), Calls Try.prog 33 #[.pointer (some ⟨h, 0, none⟩), .int .u8 k, .bool p] w (Ret (actV 0 false false 0 0) fun w' => RB w' h 3 ls tr mo ∧ w.grownBy w' (some h))) ∧
    (∀ (h : Nat) (ls : Bool) (tr mo : Int) (p : Bool) (w : World) (hB_l : RB w h 4 ls tr mo), Calls Try.prog 33 #[.pointer (some ⟨h, 0, none⟩), .int .u8 1, .bool p] w (Ret (actV 3 false p 0 0) fun w' => RB w' h 4 ls tr mo ∧ w.grownBy w' (some h))) ∧
    (∀ (h : Nat) (ls : Bool) (tr mo : Int) (p : Bool) (w : World) (hB_l : RB w h 4 ls tr mo), Calls Try.prog 33 #[.pointer (some ⟨h, 0, none⟩), .int .u8 4, .bool p] w (Ret (actV 2 false p 0 0) fun w' => RB w' h 4 ls tr mo ∧ w.grownBy w' (some h))) ∧
    (∀ (h : Nat) (ls : Bool) (tr mo : Int) (p : Bool) (k : Int) (w : World) (hB_l : RB w h 4 ls tr mo) (h1 : ¬ k = 1) (h4 : ¬ k = 4), Calls Try.prog 33 #[.pointer (some ⟨h, 0, none⟩), .int .u8 k, .bool p] w (Ret (actV 0 false false 0 0) fun w' => RB w' h 4 ls tr mo ∧ w.grownBy w' (some h))) := by
  refine ⟨?a0, ?a1, ?a2, ?a3, ?a4, ?a5, ?a6, ?a7, ?a8, ?a9, ?a10, ?a11, ?a12, ?a13⟩
  case' a0 =>
    intro h tr mo p w hB_l
    unfold RB at *
  case' a1 =>
    intro h ls tr mo p w hB_l
    unfold RB at *
  case' a2 =>
    intro h ls tr mo k w hB_l h1 h4
    have n1 : (k == 1) = false := by simpa using h1
    have n4 : (k == 4) = false := by simpa using h4
    unfold RB at *
  case' a3 =>
    intro h ls tr mo k w hB_l h1 h4
    have n1 : (k == 1) = false := by simpa using h1
    have n4 : (k == 4) = false := by simpa using h4
    unfold RB at *
  case' a4 =>
    intro h tr mo p w hB_l
    unfold RB at *
  case' a5 =>
    intro h ls tr mo p w hB_l
    unfold RB at *
  case' a6 =>
    intro h ls tr mo k w hB_l h1 h4
    have n1 : (k == 1) = false := by simpa using h1
    have n4 : (k == 4) = false := by simpa using h4
    unfold RB at *
  case' a7 =>
    intro h ls tr mo k w hB_l h1 h4
    have n1 : (k == 1) = false := by simpa using h1
    have n4 : (k == 4) = false := by simpa using h4
    unfold RB at *
  case' a8 =>
    intro h ls tr mo p w hB_l
    unfold RB at *
  case' a9 =>
    intro h ls tr mo p k w hB_l h1 h4
    have n1 : (k == 1) = false := by simpa using h1
    have n4 : (k == 4) = false := by simpa using h4
    unfold RB at *
  case' a10 =>
    intro h ls tr mo p k w hB_l h1 h4
    have n1 : (k == 1) = false := by simpa using h1
    have n4 : (k == 4) = false := by simpa using h4
    unfold RB at *
  case' a11 =>
    intro h ls tr mo p w hB_l
    unfold RB at *
  case' a12 =>
    intro h ls tr mo p w hB_l
    unfold RB at *
  case' a13 =>
    intro h ls tr mo p k w hB_l h1 h4
    have n1 : (k == 1) = false := by simpa using h1
    have n4 : (k == 4) = false := by simpa using h4
    unfold RB at *
  all_goals
    go_enter Try.func33, Try.ntmps33
    have F0 : Turn (fun i => i = h ∨ w.heap.size ≤ i) w w := Turn.refl _
    have hc_l := hB_l.cell
    repeat (first|(with_reducible apply Xa)|((with_reducible apply region_k);intro KK kk)|(with_reducible apply Xc)|((with_reducible apply seq_k);intro KK kk)|((with_reducible apply Xk);(focus first|exact wanted_none rfl|exact wanted_yes rfl rfl rfl);(focus (simp [go_sem,effAt,↓IntWalk.iteOmega, *];(try go_ints);with_reducible first|exact Xm|exact Xn));focus (first|(apply put_some rfl;focus (conv=>lhs;dsimp only [Xr,Xs])<;>rfl)|exact put_none rfl))|((with_reducible apply Xl);(focus first|exact wanted_no rfl rfl rfl|exact wanted_undef rfl rfl rfl);focus (first|(apply put_some rfl;focus (conv=>lhs;dsimp only [Xr,Xs])<;>rfl)|exact put_none rfl))|(with_reducible first|apply Xe|apply Xf|apply Xg|apply Xh)|((with_reducible apply Xi);focus first|rfl|(simp [go_sem, *];done))|((with_reducible apply Xj);focus first|rfl|(simp [go_sem, *];done))|(simp only [Exit.then,Exit.inBlock,↓reduceIte,Nat.reduceEqDiff])|((with_reducible apply kf_out);focus assumption))
    have lt_l_r := hB_l.lt
    have le_r := F0.size
    ((with_reducible apply Xu); (focus rfl); (focus (simp [go_sem, effAt]; exact ⟨rfl, rfl⟩)); (focus ((first|(apply put_some rfl;focus (conv=>lhs;dsimp only [Xr,Xs])<;>rfl)|exact put_none rfl))))
    intro w1 hB_r hs
    have Fw1 := F0.trans (Turn.of_below hs)
    replace hB_l := hB_l.below hs hB_l.lt
    clear hs F0
    clear hc_l; have hc_l := hB_l.cell
    have hc_r := hB_r.cell
    repeat (first|(with_reducible apply Xa)|((with_reducible apply region_k);intro KK kk)|(with_reducible apply Xc)|((with_reducible apply seq_k);intro KK kk)|((with_reducible apply Xk);(focus first|exact wanted_none rfl|exact wanted_yes rfl rfl rfl);(focus (simp [go_sem,effAt,↓IntWalk.iteOmega, *];(try go_ints);with_reducible first|exact Xm|exact Xn));focus (first|(apply put_some rfl;focus (conv=>lhs;dsimp only [Xr,Xs])<;>rfl)|exact put_none rfl))|((with_reducible apply Xl);(focus first|exact wanted_no rfl rfl rfl|exact wanted_undef rfl rfl rfl);focus (first|(apply put_some rfl;focus (conv=>lhs;dsimp only [Xr,Xs])<;>rfl)|exact put_none rfl))|(with_reducible first|apply Xe|apply Xf|apply Xg|apply Xh)|((with_reducible apply Xi);focus first|rfl|(simp [go_sem, *];done))|((with_reducible apply Xj);focus first|rfl|(simp [go_sem, *];done))|(simp only [Exit.then,Exit.inBlock,↓reduceIte,Nat.reduceEqDiff])|((with_reducible apply kf_out);focus assumption))
    have lt_l_u := hB_l.lt
    have lt_r_u := hB_r.lt
    have le_u := Fw1.size
    ((with_reducible apply Xu); (focus rfl); (focus (simp [go_sem, effAt]; exact ⟨rfl, rfl⟩)); (focus ((first|(apply put_some rfl;focus (conv=>lhs;dsimp only [Xr,Xs])<;>rfl)|exact put_none rfl))))
    intro w2 hB_u hs
    have Fw2 := Fw1.trans (Turn.of_below hs)
    replace hB_l := hB_l.below hs hB_l.lt
    replace hB_r := hB_r.below hs hB_r.lt
    clear hs Fw1
    clear hc_l; have hc_l := hB_l.cell
    clear hc_r; have hc_r := hB_r.cell
    have hc_u := hB_u.cell
    repeat (first|(with_reducible apply Xa)|((with_reducible apply region_k);intro KK kk)|(with_reducible apply Xc)|((with_reducible apply seq_k);intro KK kk)|((with_reducible apply Xk);(focus first|exact wanted_none rfl|exact wanted_yes rfl rfl rfl);(focus (simp [go_sem,effAt,↓IntWalk.iteOmega, *];(try go_ints);with_reducible first|exact Xm|exact Xn));focus (first|(apply put_some rfl;focus (conv=>lhs;dsimp only [Xr,Xs])<;>rfl)|exact put_none rfl))|((with_reducible apply Xl);(focus first|exact wanted_no rfl rfl rfl|exact wanted_undef rfl rfl rfl);focus (first|(apply put_some rfl;focus (conv=>lhs;dsimp only [Xr,Xs])<;>rfl)|exact put_none rfl))|(with_reducible first|apply Xe|apply Xf|apply Xg|apply Xh)|((with_reducible apply Xi);focus first|rfl|(simp [go_sem, *];done))|((with_reducible apply Xj);focus first|rfl|(simp [go_sem, *];done))|(simp only [Exit.then,Exit.inBlock,↓reduceIte,Nat.reduceEqDiff])|((with_reducible apply kf_out);focus assumption))
    have lt_l_d := hB_l.lt
    have lt_r_d := hB_r.lt
    have lt_u_d := hB_u.lt
    have le_d := Fw2.size
    ((with_reducible apply Xu); (focus rfl); (focus (simp [go_sem, effAt]; exact ⟨rfl, rfl⟩)); (focus ((first|(apply put_some rfl;focus (conv=>lhs;dsimp only [Xr,Xs])<;>rfl)|exact put_none rfl))))
    intro w3 hB_d hs
    have Fw3 := Fw2.trans (Turn.of_below hs)
    replace hB_l := hB_l.below hs hB_l.lt
    replace hB_r := hB_r.below hs hB_r.lt
    replace hB_u := hB_u.below hs hB_u.lt
    clear hs Fw2
    clear hc_l; have hc_l := hB_l.cell
    clear hc_r; have hc_r := hB_r.cell
    clear hc_u; have hc_u := hB_u.cell
    have hc_d := hB_d.cell
    repeat (first|(with_reducible apply Xa)|((with_reducible apply region_k);intro KK kk)|(with_reducible apply Xc)|((with_reducible apply seq_k);intro KK kk)|((with_reducible apply Xk);(focus first|exact wanted_none rfl|exact wanted_yes rfl rfl rfl);(focus (simp [go_sem,effAt,↓IntWalk.iteOmega, *];(try go_ints);with_reducible first|exact Xm|exact Xn));focus (first|(apply put_some rfl;focus (conv=>lhs;dsimp only [Xr,Xs])<;>rfl)|exact put_none rfl))|((with_reducible apply Xl);(focus first|exact wanted_no rfl rfl rfl|exact wanted_undef rfl rfl rfl);focus (first|(apply put_some rfl;focus (conv=>lhs;dsimp only [Xr,Xs])<;>rfl)|exact put_none rfl))|(with_reducible first|apply Xe|apply Xf|apply Xg|apply Xh)|((with_reducible apply Xi);focus first|rfl|(simp [go_sem, *];done))|((with_reducible apply Xj);focus first|rfl|(simp [go_sem, *];done))|(simp only [Exit.then,Exit.inBlock,↓reduceIte,Nat.reduceEqDiff])|((with_reducible apply kf_out);focus assumption))
    have hf_u := hB_u.frozen
    ((with_reducible apply Xt (fun w' => Blk w' _ _ _ ∧ w3.grownBy w' (some _))); (focus rfl); (focus (simp [go_sem, effAt, *]; exact ⟨rfl, (((((hB_u.set_ 0 _).set_ 1 _).set_ 2 _).set_ 3 _).set_ 4 _), (grown_set (grown_set (grown_set (grown_set (grown_set (World.grownBy.refl _ _))))))⟩)); (focus ((first|(apply put_some rfl;focus (conv=>lhs;dsimp only [Xr,Xs])<;>rfl)|exact put_none rfl))))
    clear hf_u hc_u hB_u
    intro w4 hs
    obtain ⟨hB_u, hs⟩ := hs
    simp only [Xq,Xr,Xs] at hB_u
    have Fw4 := Fw3.trans (Turn.of_grown hs (by first | exact .inl rfl | exact .inr (by omega)))
    replace hB_l := hB_l.grown hs (by intro hk; injection hk with hk; have := hB_l.lt; have := hB_u.lt; omega)
    replace hB_r := hB_r.grown hs (by intro hk; injection hk with hk; have := hB_r.lt; have := hB_u.lt; omega)
    replace hB_d := hB_d.grown hs (by intro hk; injection hk with hk; have := hB_d.lt; have := hB_u.lt; omega)
    clear hs Fw3
    clear hc_l; have hc_l := hB_l.cell
    clear hc_r; have hc_r := hB_r.cell
    clear hc_d; have hc_d := hB_d.cell
    have hc_u := hB_u.cell
    repeat (first|(with_reducible apply Xa)|((with_reducible apply region_k);intro KK kk)|(with_reducible apply Xc)|((with_reducible apply seq_k);intro KK kk)|((with_reducible apply Xk);(focus first|exact wanted_none rfl|exact wanted_yes rfl rfl rfl);(focus (simp [go_sem,effAt,↓IntWalk.iteOmega, *];(try go_ints);with_reducible first|exact Xm|exact Xn));focus (first|(apply put_some rfl;focus (conv=>lhs;dsimp only [Xr,Xs])<;>rfl)|exact put_none rfl))|((with_reducible apply Xl);(focus first|exact wanted_no rfl rfl rfl|exact wanted_undef rfl rfl rfl);focus (first|(apply put_some rfl;focus (conv=>lhs;dsimp only [Xr,Xs])<;>rfl)|exact put_none rfl))|(with_reducible first|apply Xe|apply Xf|apply Xg|apply Xh)|((with_reducible apply Xi);focus first|rfl|(simp [go_sem, *];done))|((with_reducible apply Xj);focus first|rfl|(simp [go_sem, *];done))|(simp only [Exit.then,Exit.inBlock,↓reduceIte,Nat.reduceEqDiff])|((with_reducible apply kf_out);focus assumption))
    have hf_d := hB_d.frozen
    ((with_reducible apply Xt (fun w' => Blk w' _ _ _ ∧ w4.grownBy w' (some _))); (focus rfl); (focus (simp [go_sem, effAt, *]; exact ⟨rfl, (((((hB_d.set_ 0 _).set_ 1 _).set_ 2 _).set_ 3 _).set_ 4 _), (grown_set (grown_set (grown_set (grown_set (grown_set (World.grownBy.refl _ _))))))⟩)); (focus ((first|(apply put_some rfl;focus (conv=>lhs;dsimp only [Xr,Xs])<;>rfl)|exact put_none rfl))))
    clear hf_d hc_d hB_d
    intro w5 hs
    obtain ⟨hB_d, hs⟩ := hs
    simp only [Xq,Xr,Xs] at hB_d
    have Fw5 := Fw4.trans (Turn.of_grown hs (by first | exact .inl rfl | exact .inr (by omega)))
    replace hB_l := hB_l.grown hs (by intro hk; injection hk with hk; have := hB_l.lt; have := hB_d.lt; omega)
    replace hB_r := hB_r.grown hs (by intro hk; injection hk with hk; have := hB_r.lt; have := hB_d.lt; omega)
    replace hB_u := hB_u.grown hs (by intro hk; injection hk with hk; have := hB_u.lt; have := hB_d.lt; omega)
    clear hs Fw4
    clear hc_l; have hc_l := hB_l.cell
    clear hc_r; have hc_r := hB_r.cell
    clear hc_u; have hc_u := hB_u.cell
    have hc_d := hB_d.cell
    repeat (first|(with_reducible apply Xa)|((with_reducible apply region_k);intro KK kk)|(with_reducible apply Xc)|((with_reducible apply seq_k);intro KK kk)|((with_reducible apply Xk);(focus first|exact wanted_none rfl|exact wanted_yes rfl rfl rfl);(focus (simp [go_sem,effAt,↓IntWalk.iteOmega, *];(try go_ints);with_reducible first|exact Xm|exact Xn));focus (first|(apply put_some rfl;focus (conv=>lhs;dsimp only [Xr,Xs])<;>rfl)|exact put_none rfl))|((with_reducible apply Xl);(focus first|exact wanted_no rfl rfl rfl|exact wanted_undef rfl rfl rfl);focus (first|(apply put_some rfl;focus (conv=>lhs;dsimp only [Xr,Xs])<;>rfl)|exact put_none rfl))|(with_reducible first|apply Xe|apply Xf|apply Xg|apply Xh)|((with_reducible apply Xi);focus first|rfl|(simp [go_sem, *];done))|((with_reducible apply Xj);focus first|rfl|(simp [go_sem, *];done))|(simp only [Exit.then,Exit.inBlock,↓reduceIte,Nat.reduceEqDiff])|((with_reducible apply kf_out);focus assumption))
    have hf_r := hB_r.frozen
    ((with_reducible apply Xt (fun w' => Blk w' _ _ _ ∧ w5.grownBy w' (some _))); (focus rfl); (focus (simp [go_sem, effAt, *]; exact ⟨rfl, (((((hB_r.set_ 0 _).set_ 1 _).set_ 2 _).set_ 3 _).set_ 4 _), (grown_set (grown_set (grown_set (grown_set (grown_set (World.grownBy.refl _ _))))))⟩)); (focus ((first|(apply put_some rfl;focus (conv=>lhs;dsimp only [Xr,Xs])<;>rfl)|exact put_none rfl))))
    clear hf_r hc_r hB_r
    intro w6 hs
    obtain ⟨hB_r, hs⟩ := hs
    simp only [Xq,Xr,Xs] at hB_r
    have Fw6 := Fw5.trans (Turn.of_grown hs (by first | exact .inl rfl | exact .inr (by omega)))
    replace hB_l := hB_l.grown hs (by intro hk; injection hk with hk; have := hB_l.lt; have := hB_r.lt; omega)
    replace hB_u := hB_u.grown hs (by intro hk; injection hk with hk; have := hB_u.lt; have := hB_r.lt; omega)
    replace hB_d := hB_d.grown hs (by intro hk; injection hk with hk; have := hB_d.lt; have := hB_r.lt; omega)
    clear hs Fw5
    clear hc_l; have hc_l := hB_l.cell
    clear hc_u; have hc_u := hB_u.cell
    clear hc_d; have hc_d := hB_d.cell
    have hc_r := hB_r.cell
    repeat (first|(with_reducible apply Xa)|((with_reducible apply region_k);intro KK kk)|(with_reducible apply Xc)|((with_reducible apply seq_k);intro KK kk)|((with_reducible apply Xk);(focus first|exact wanted_none rfl|exact wanted_yes rfl rfl rfl);(focus (simp [go_sem,effAt,↓IntWalk.iteOmega, *];(try go_ints);with_reducible first|exact Xm|exact Xn));focus (first|(apply put_some rfl;focus (conv=>lhs;dsimp only [Xr,Xs])<;>rfl)|exact put_none rfl))|((with_reducible apply Xl);(focus first|exact wanted_no rfl rfl rfl|exact wanted_undef rfl rfl rfl);focus (first|(apply put_some rfl;focus (conv=>lhs;dsimp only [Xr,Xs])<;>rfl)|exact put_none rfl))|(with_reducible first|apply Xe|apply Xf|apply Xg|apply Xh)|((with_reducible apply Xi);focus first|rfl|(simp [go_sem, *];done))|((with_reducible apply Xj);focus first|rfl|(simp [go_sem, *];done))|(simp only [Exit.then,Exit.inBlock,↓reduceIte,Nat.reduceEqDiff])|((with_reducible apply kf_out);focus assumption))
    refine bodyPost_ret (v := _) (by simp [results, Try.results33, go_sem, *]) rfl ⟨rfl, hB_l, Turn.to_grown (by assumption)⟩
theorem rcmd_1_1f (h : Nat) (tr mo : Int) (p : Bool) (w : World) (hB_l : RB w h 1 false tr mo) :
    Calls Try.prog 33 #[.pointer (some ⟨h, 0, none⟩), .int .u8 1, .bool p] w (Ret (actV 3 false p 0 0) fun w' => RB w' h 1 false tr mo ∧ w.grownBy w' (some h)) := bundlea_9.1 h tr mo p w hB_l
theorem rcmd_1_4 (h : Nat) (ls : Bool) (tr mo : Int) (p : Bool) (w : World) (hB_l : RB w h 1 ls tr mo) :
    Calls Try.prog 33 #[.pointer (some ⟨h, 0, none⟩), .int .u8 4, .bool p] w (Ret (actV 3 false p 0 0) fun w' => RB w' h 1 ls tr mo ∧ w.grownBy w' (some h)) := bundlea_9.2.1 h ls tr mo p w hB_l
theorem rcmd_1_op (h : Nat) (ls : Bool) (tr mo : Int) (k : Int) (w : World) (hB_l : RB w h 1 ls tr mo) (h1 : ¬ k = 1) (h4 : ¬ k = 4) :
    Calls Try.prog 33 #[.pointer (some ⟨h, 0, none⟩), .int .u8 k, .bool true] w (Ret (actV 3 false true 0 0) fun w' => RB w' h 1 ls tr mo ∧ w.grownBy w' (some h)) := bundlea_9.2.2.1 h ls tr mo k w hB_l h1 h4
theorem rcmd_1_on (h : Nat) (ls : Bool) (tr mo : Int) (k : Int) (w : World) (hB_l : RB w h 1 ls tr mo) (h1 : ¬ k = 1) (h4 : ¬ k = 4) :
    Calls Try.prog 33 #[.pointer (some ⟨h, 0, none⟩), .int .u8 k, .bool false] w (Ret (actV 0 false false 0 0) fun w' => RB w' h 1 ls tr mo ∧ w.grownBy w' (some h)) := bundlea_9.2.2.2.1 h ls tr mo k w hB_l h1 h4
theorem rcmd_5_1f (h : Nat) (tr mo : Int) (p : Bool) (w : World) (hB_l : RB w h 5 false tr mo) :
    Calls Try.prog 33 #[.pointer (some ⟨h, 0, none⟩), .int .u8 1, .bool p] w (Ret (actV 3 false p 0 0) fun w' => RB w' h 5 false tr mo ∧ w.grownBy w' (some h)) := bundlea_9.2.2.2.2.1 h tr mo p w hB_l
theorem rcmd_5_4 (h : Nat) (ls : Bool) (tr mo : Int) (p : Bool) (w : World) (hB_l : RB w h 5 ls tr mo) :
    Calls Try.prog 33 #[.pointer (some ⟨h, 0, none⟩), .int .u8 4, .bool p] w (Ret (actV 3 false p 0 0) fun w' => RB w' h 5 ls tr mo ∧ w.grownBy w' (some h)) := bundlea_9.2.2.2.2.2.1 h ls tr mo p w hB_l
theorem rcmd_5_op (h : Nat) (ls : Bool) (tr mo : Int) (k : Int) (w : World) (hB_l : RB w h 5 ls tr mo) (h1 : ¬ k = 1) (h4 : ¬ k = 4) :
    Calls Try.prog 33 #[.pointer (some ⟨h, 0, none⟩), .int .u8 k, .bool true] w (Ret (actV 3 false true 0 0) fun w' => RB w' h 5 ls tr mo ∧ w.grownBy w' (some h)) := bundlea_9.2.2.2.2.2.2.1 h ls tr mo k w hB_l h1 h4
theorem rcmd_5_on (h : Nat) (ls : Bool) (tr mo : Int) (k : Int) (w : World) (hB_l : RB w h 5 ls tr mo) (h1 : ¬ k = 1) (h4 : ¬ k = 4) :
    Calls Try.prog 33 #[.pointer (some ⟨h, 0, none⟩), .int .u8 k, .bool false] w (Ret (actV 0 false false 0 0) fun w' => RB w' h 5 ls tr mo ∧ w.grownBy w' (some h)) := bundlea_9.2.2.2.2.2.2.2.1 h ls tr mo k w hB_l h1 h4
theorem rcmd_2_1 (h : Nat) (ls : Bool) (tr mo : Int) (p : Bool) (w : World) (hB_l : RB w h 2 ls tr mo) :
    Calls Try.prog 33 #[.pointer (some ⟨h, 0, none⟩), .int .u8 1, .bool p] w (Ret (actV 2 false p 0 0) fun w' => RB w' h 2 ls tr mo ∧ w.grownBy w' (some h)) := bundlea_9.2.2.2.2.2.2.2.2.1 h ls tr mo p w hB_l
theorem rcmd_2_o (h : Nat) (ls : Bool) (tr mo : Int) (p : Bool) (k : Int) (w : World) (hB_l : RB w h 2 ls tr mo) (h1 : ¬ k = 1) (h4 : ¬ k = 4) :
    Calls Try.prog 33 #[.pointer (some ⟨h, 0, none⟩), .int .u8 k, .bool p] w (Ret (actV 0 false false 0 0) fun w' => RB w' h 2 ls tr mo ∧ w.grownBy w' (some h)) := bundlea_9.2.2.2.2.2.2.2.2.2.1 h ls tr mo p k w hB_l h1 h4
theorem rcmd_3_o (h : Nat) (ls : Bool) (tr mo : Int) (p : Bool) (k : Int) (w : World) (hB_l : RB w h 3 ls tr mo) (h1 : ¬ k = 1) (h4 : ¬ k = 4) :
    Calls Try.prog 33 #[.pointer (some ⟨h, 0, none⟩), .int .u8 k, .bool p] w (Ret (actV 0 false false 0 0) fun w' => RB w' h 3 ls tr mo ∧ w.grownBy w' (some h)) := bundlea_9.2.2.2.2.2.2.2.2.2.2.1 h ls tr mo p k w hB_l h1 h4
theorem rcmd_4_1 (h : Nat) (ls : Bool) (tr mo : Int) (p : Bool) (w : World) (hB_l : RB w h 4 ls tr mo) :
    Calls Try.prog 33 #[.pointer (some ⟨h, 0, none⟩), .int .u8 1, .bool p] w (Ret (actV 3 false p 0 0) fun w' => RB w' h 4 ls tr mo ∧ w.grownBy w' (some h)) := bundlea_9.2.2.2.2.2.2.2.2.2.2.2.1 h ls tr mo p w hB_l
theorem rcmd_4_4 (h : Nat) (ls : Bool) (tr mo : Int) (p : Bool) (w : World) (hB_l : RB w h 4 ls tr mo) :
    Calls Try.prog 33 #[.pointer (some ⟨h, 0, none⟩), .int .u8 4, .bool p] w (Ret (actV 2 false p 0 0) fun w' => RB w' h 4 ls tr mo ∧ w.grownBy w' (some h)) := bundlea_9.2.2.2.2.2.2.2.2.2.2.2.2.1 h ls tr mo p w hB_l
theorem rcmd_4_o (h : Nat) (ls : Bool) (tr mo : Int) (p : Bool) (k : Int) (w : World) (hB_l : RB w h 4 ls tr mo) (h1 : ¬ k = 1) (h4 : ¬ k = 4) :
    Calls Try.prog 33 #[.pointer (some ⟨h, 0, none⟩), .int .u8 k, .bool p] w (Ret (actV 0 false false 0 0) fun w' => RB w' h 4 ls tr mo ∧ w.grownBy w' (some h)) := bundlea_9.2.2.2.2.2.2.2.2.2.2.2.2.2 h ls tr mo p k w hB_l h1 h4
theorem rcmd_2_4 (h : Nat) (ls : Bool) (tr mo : Int) (p : Bool) (w : World) (hB_l : RB w h 2 ls tr mo) :
    Calls Try.prog 33 #[.pointer (some ⟨h, 0, none⟩), .int .u8 4, .bool p] w (Ret (actV 3 false p 2 4) fun w' => RB w' h 1 ls tr mo ∧ w.grownBy w' (some h)) := by
  have hT := fun w h' => rto_any h 2 ls tr mo 1 3 false p 2 4 w h'
  unfold RB at *
  go_enter Try.func33, Try.ntmps33
  have F0 : Turn (fun i => i = h ∨ w.heap.size ≤ i) w w := Turn.refl _
  have hc_l := hB_l.cell
  repeat (first|(with_reducible apply Xa)|((with_reducible apply region_k);intro KK kk)|(with_reducible apply Xc)|((with_reducible apply seq_k);intro KK kk)|((with_reducible apply Xk);(focus first|exact wanted_none rfl|exact wanted_yes rfl rfl rfl);(focus (simp [go_sem,effAt,↓IntWalk.iteOmega, *];(try go_ints);with_reducible first|exact Xm|exact Xn));focus (first|(apply put_some rfl;focus (conv=>lhs;dsimp only [Xr,Xs])<;>rfl)|exact put_none rfl))|((with_reducible apply Xl);(focus first|exact wanted_no rfl rfl rfl|exact wanted_undef rfl rfl rfl);focus (first|(apply put_some rfl;focus (conv=>lhs;dsimp only [Xr,Xs])<;>rfl)|exact put_none rfl))|(with_reducible first|apply Xe|apply Xf|apply Xg|apply Xh)|((with_reducible apply Xi);focus first|rfl|(simp [go_sem, *];done))|((with_reducible apply Xj);focus first|rfl|(simp [go_sem, *];done))|(simp only [Exit.then,Exit.inBlock,↓reduceIte,Nat.reduceEqDiff])|((with_reducible apply kf_out);focus assumption))
  have lt_l_r := hB_l.lt
  have le_r := F0.size
  ((with_reducible apply Xu); (focus rfl); (focus (simp [go_sem, effAt]; exact ⟨rfl, rfl⟩)); (focus ((first|(apply put_some rfl;focus (conv=>lhs;dsimp only [Xr,Xs])<;>rfl)|exact put_none rfl))))
  intro w1 hB_r hs
  have Fw1 := F0.trans (Turn.of_below hs)
  replace hB_l := hB_l.below hs hB_l.lt
  clear hs F0
  clear hc_l; have hc_l := hB_l.cell
  have hc_r := hB_r.cell
  repeat (first|(with_reducible apply Xa)|((with_reducible apply region_k);intro KK kk)|(with_reducible apply Xc)|((with_reducible apply seq_k);intro KK kk)|((with_reducible apply Xk);(focus first|exact wanted_none rfl|exact wanted_yes rfl rfl rfl);(focus (simp [go_sem,effAt,↓IntWalk.iteOmega, *];(try go_ints);with_reducible first|exact Xm|exact Xn));focus (first|(apply put_some rfl;focus (conv=>lhs;dsimp only [Xr,Xs])<;>rfl)|exact put_none rfl))|((with_reducible apply Xl);(focus first|exact wanted_no rfl rfl rfl|exact wanted_undef rfl rfl rfl);focus (first|(apply put_some rfl;focus (conv=>lhs;dsimp only [Xr,Xs])<;>rfl)|exact put_none rfl))|(with_reducible first|apply Xe|apply Xf|apply Xg|apply Xh)|((with_reducible apply Xi);focus first|rfl|(simp [go_sem, *];done))|((with_reducible apply Xj);focus first|rfl|(simp [go_sem, *];done))|(simp only [Exit.then,Exit.inBlock,↓reduceIte,Nat.reduceEqDiff])|((with_reducible apply kf_out);focus assumption))
  have lt_l_u := hB_l.lt
  have lt_r_u := hB_r.lt
  have le_u := Fw1.size
  ((with_reducible apply Xu); (focus rfl); (focus (simp [go_sem, effAt]; exact ⟨rfl, rfl⟩)); (focus ((first|(apply put_some rfl;focus (conv=>lhs;dsimp only [Xr,Xs])<;>rfl)|exact put_none rfl))))
  intro w2 hB_u hs
  have Fw2 := Fw1.trans (Turn.of_below hs)
  replace hB_l := hB_l.below hs hB_l.lt
  replace hB_r := hB_r.below hs hB_r.lt
  clear hs Fw1
  clear hc_l; have hc_l := hB_l.cell
  clear hc_r; have hc_r := hB_r.cell
  have hc_u := hB_u.cell
  repeat (first|(with_reducible apply Xa)|((with_reducible apply region_k);intro KK kk)|(with_reducible apply Xc)|((with_reducible apply seq_k);intro KK kk)|((with_reducible apply Xk);(focus first|exact wanted_none rfl|exact wanted_yes rfl rfl rfl);(focus (simp [go_sem,effAt,↓IntWalk.iteOmega, *];(try go_ints);with_reducible first|exact Xm|exact Xn));focus (first|(apply put_some rfl;focus (conv=>lhs;dsimp only [Xr,Xs])<;>rfl)|exact put_none rfl))|((with_reducible apply Xl);(focus first|exact wanted_no rfl rfl rfl|exact wanted_undef rfl rfl rfl);focus (first|(apply put_some rfl;focus (conv=>lhs;dsimp only [Xr,Xs])<;>rfl)|exact put_none rfl))|(with_reducible first|apply Xe|apply Xf|apply Xg|apply Xh)|((with_reducible apply Xi);focus first|rfl|(simp [go_sem, *];done))|((with_reducible apply Xj);focus first|rfl|(simp [go_sem, *];done))|(simp only [Exit.then,Exit.inBlock,↓reduceIte,Nat.reduceEqDiff])|((with_reducible apply kf_out);focus assumption))
  have lt_l_d := hB_l.lt
  have lt_r_d := hB_r.lt
  have lt_u_d := hB_u.lt
  have le_d := Fw2.size
  ((with_reducible apply Xu); (focus rfl); (focus (simp [go_sem, effAt]; exact ⟨rfl, rfl⟩)); (focus ((first|(apply put_some rfl;focus (conv=>lhs;dsimp only [Xr,Xs])<;>rfl)|exact put_none rfl))))
  intro w3 hB_d hs
  have Fw3 := Fw2.trans (Turn.of_below hs)
  replace hB_l := hB_l.below hs hB_l.lt
  replace hB_r := hB_r.below hs hB_r.lt
  replace hB_u := hB_u.below hs hB_u.lt
  clear hs Fw2
  clear hc_l; have hc_l := hB_l.cell
  clear hc_r; have hc_r := hB_r.cell
  clear hc_u; have hc_u := hB_u.cell
  have hc_d := hB_d.cell
  repeat (first|(with_reducible apply Xa)|((with_reducible apply region_k);intro KK kk)|(with_reducible apply Xc)|((with_reducible apply seq_k);intro KK kk)|((with_reducible apply Xk);(focus first|exact wanted_none rfl|exact wanted_yes rfl rfl rfl);(focus (simp [go_sem,effAt,↓IntWalk.iteOmega, *];(try go_ints);with_reducible first|exact Xm|exact Xn));focus (first|(apply put_some rfl;focus (conv=>lhs;dsimp only [Xr,Xs])<;>rfl)|exact put_none rfl))|((with_reducible apply Xl);(focus first|exact wanted_no rfl rfl rfl|exact wanted_undef rfl rfl rfl);focus (first|(apply put_some rfl;focus (conv=>lhs;dsimp only [Xr,Xs])<;>rfl)|exact put_none rfl))|(with_reducible first|apply Xe|apply Xf|apply Xg|apply Xh)|((with_reducible apply Xi);focus first|rfl|(simp [go_sem, *];done))|((with_reducible apply Xj);focus first|rfl|(simp [go_sem, *];done))|(simp only [Exit.then,Exit.inBlock,↓reduceIte,Nat.reduceEqDiff])|((with_reducible apply kf_out);focus assumption))
  have hf_u := hB_u.frozen
  ((with_reducible apply Xt (fun w' => Blk w' _ _ _ ∧ w3.grownBy w' (some _))); (focus rfl); (focus (simp [go_sem, effAt, *]; exact ⟨rfl, (((((hB_u.set_ 0 _).set_ 1 _).set_ 2 _).set_ 3 _).set_ 4 _), (grown_set (grown_set (grown_set (grown_set (grown_set (World.grownBy.refl _ _))))))⟩)); (focus ((first|(apply put_some rfl;focus (conv=>lhs;dsimp only [Xr,Xs])<;>rfl)|exact put_none rfl))))
  clear hf_u hc_u hB_u
  intro w4 hs
  obtain ⟨hB_u, hs⟩ := hs
  simp only [Xq,Xr,Xs] at hB_u
  have Fw4 := Fw3.trans (Turn.of_grown hs (by first | exact .inl rfl | exact .inr (by omega)))
  replace hB_l := hB_l.grown hs (by intro hk; injection hk with hk; have := hB_l.lt; have := hB_u.lt; omega)
  replace hB_r := hB_r.grown hs (by intro hk; injection hk with hk; have := hB_r.lt; have := hB_u.lt; omega)
  replace hB_d := hB_d.grown hs (by intro hk; injection hk with hk; have := hB_d.lt; have := hB_u.lt; omega)
  clear hs Fw3
  clear hc_l; have hc_l := hB_l.cell
  clear hc_r; have hc_r := hB_r.cell
  clear hc_d; have hc_d := hB_d.cell
  have hc_u := hB_u.cell
  repeat (first|(with_reducible apply Xa)|((with_reducible apply region_k);intro KK kk)|(with_reducible apply Xc)|((with_reducible apply seq_k);intro KK kk)|((with_reducible apply Xk);(focus first|exact wanted_none rfl|exact wanted_yes rfl rfl rfl);(focus (simp [go_sem,effAt,↓IntWalk.iteOmega, *];(try go_ints);with_reducible first|exact Xm|exact Xn));focus (first|(apply put_some rfl;focus (conv=>lhs;dsimp only [Xr,Xs])<;>rfl)|exact put_none rfl))|((with_reducible apply Xl);(focus first|exact wanted_no rfl rfl rfl|exact wanted_undef rfl rfl rfl);focus (first|(apply put_some rfl;focus (conv=>lhs;dsimp only [Xr,Xs])<;>rfl)|exact put_none rfl))|(with_reducible first|apply Xe|apply Xf|apply Xg|apply Xh)|((with_reducible apply Xi);focus first|rfl|(simp [go_sem, *];done))|((with_reducible apply Xj);focus first|rfl|(simp [go_sem, *];done))|(simp only [Exit.then,Exit.inBlock,↓reduceIte,Nat.reduceEqDiff])|((with_reducible apply kf_out);focus assumption))
  have hf_d := hB_d.frozen
  ((with_reducible apply Xt (fun w' => Blk w' _ _ _ ∧ w4.grownBy w' (some _))); (focus rfl); (focus (simp [go_sem, effAt, *]; exact ⟨rfl, (((((hB_d.set_ 0 _).set_ 1 _).set_ 2 _).set_ 3 _).set_ 4 _), (grown_set (grown_set (grown_set (grown_set (grown_set (World.grownBy.refl _ _))))))⟩)); (focus ((first|(apply put_some rfl;focus (conv=>lhs;dsimp only [Xr,Xs])<;>rfl)|exact put_none rfl))))
  clear hf_d hc_d hB_d
  intro w5 hs
  obtain ⟨hB_d, hs⟩ := hs
  simp only [Xq,Xr,Xs] at hB_d
  have Fw5 := Fw4.trans (Turn.of_grown hs (by first | exact .inl rfl | exact .inr (by omega)))
  replace hB_l := hB_l.grown hs (by intro hk; injection hk with hk; have := hB_l.lt; have := hB_d.lt; omega)
  replace hB_r := hB_r.grown hs (by intro hk; injection hk with hk; have := hB_r.lt; have := hB_d.lt; omega)
  replace hB_u := hB_u.grown hs (by intro hk; injection hk with hk; have := hB_u.lt; have := hB_d.lt; omega)
  clear hs Fw4
  clear hc_l; have hc_l := hB_l.cell
  clear hc_r; have hc_r := hB_r.cell
  clear hc_u; have hc_u := hB_u.cell
  have hc_d := hB_d.cell
  repeat (first|(with_reducible apply Xa)|((with_reducible apply region_k);intro KK kk)|(with_reducible apply Xc)|((with_reducible apply seq_k);intro KK kk)|((with_reducible apply Xk);(focus first|exact wanted_none rfl|exact wanted_yes rfl rfl rfl);(focus (simp [go_sem,effAt,↓IntWalk.iteOmega, *];(try go_ints);with_reducible first|exact Xm|exact Xn));focus (first|(apply put_some rfl;focus (conv=>lhs;dsimp only [Xr,Xs])<;>rfl)|exact put_none rfl))|((with_reducible apply Xl);(focus first|exact wanted_no rfl rfl rfl|exact wanted_undef rfl rfl rfl);focus (first|(apply put_some rfl;focus (conv=>lhs;dsimp only [Xr,Xs])<;>rfl)|exact put_none rfl))|(with_reducible first|apply Xe|apply Xf|apply Xg|apply Xh)|((with_reducible apply Xi);focus first|rfl|(simp [go_sem, *];done))|((with_reducible apply Xj);focus first|rfl|(simp [go_sem, *];done))|(simp only [Exit.then,Exit.inBlock,↓reduceIte,Nat.reduceEqDiff])|((with_reducible apply kf_out);focus assumption))
  have hf_d := hB_d.frozen
  ((with_reducible apply Xt (fun w' => Blk w' _ _ _ ∧ w5.grownBy w' (some _))); (focus rfl); (focus (simp [go_sem, effAt, *]; exact ⟨rfl, (hB_d.set_ 3 _), (grown_set (World.grownBy.refl _ _))⟩)); (focus ((first|(apply put_some rfl;focus (conv=>lhs;dsimp only [Xr,Xs])<;>rfl)|exact put_none rfl))))
  clear hf_d hc_d hB_d
  intro w6 hs
  obtain ⟨hB_d, hs⟩ := hs
  simp only [Xq,Xr,Xs] at hB_d
  have Fw6 := Fw5.trans (Turn.of_grown hs (by first | exact .inl rfl | exact .inr (by omega)))
  replace hB_l := hB_l.grown hs (by intro hk; injection hk with hk; have := hB_l.lt; have := hB_d.lt; omega)
  replace hB_r := hB_r.grown hs (by intro hk; injection hk with hk; have := hB_r.lt; have := hB_d.lt; omega)
  replace hB_u := hB_u.grown hs (by intro hk; injection hk with hk; have := hB_u.lt; have := hB_d.lt; omega)
  clear hs Fw5
  clear hc_l; have hc_l := hB_l.cell
  clear hc_r; have hc_r := hB_r.cell
  clear hc_u; have hc_u := hB_u.cell
  have hc_d := hB_d.cell
  repeat (first|(with_reducible apply Xa)|((with_reducible apply region_k);intro KK kk)|(with_reducible apply Xc)|((with_reducible apply seq_k);intro KK kk)|((with_reducible apply Xk);(focus first|exact wanted_none rfl|exact wanted_yes rfl rfl rfl);(focus (simp [go_sem,effAt,↓IntWalk.iteOmega, *];(try go_ints);with_reducible first|exact Xm|exact Xn));focus (first|(apply put_some rfl;focus (conv=>lhs;dsimp only [Xr,Xs])<;>rfl)|exact put_none rfl))|((with_reducible apply Xl);(focus first|exact wanted_no rfl rfl rfl|exact wanted_undef rfl rfl rfl);focus (first|(apply put_some rfl;focus (conv=>lhs;dsimp only [Xr,Xs])<;>rfl)|exact put_none rfl))|(with_reducible first|apply Xe|apply Xf|apply Xg|apply Xh)|((with_reducible apply Xi);focus first|rfl|(simp [go_sem, *];done))|((with_reducible apply Xj);focus first|rfl|(simp [go_sem, *];done))|(simp only [Exit.then,Exit.inBlock,↓reduceIte,Nat.reduceEqDiff])|((with_reducible apply kf_out);focus assumption))
  have hf_d := hB_d.frozen
  ((with_reducible apply Xt (fun w' => Blk w' _ _ _ ∧ w6.grownBy w' (some _))); (focus rfl); (focus (simp [go_sem, effAt, *]; exact ⟨rfl, (hB_d.set_ 4 _), (grown_set (World.grownBy.refl _ _))⟩)); (focus ((first|(apply put_some rfl;focus (conv=>lhs;dsimp only [Xr,Xs])<;>rfl)|exact put_none rfl))))
  clear hf_d hc_d hB_d
  intro w7 hs
  obtain ⟨hB_d, hs⟩ := hs
  simp only [Xq,Xr,Xs] at hB_d
  have Fw7 := Fw6.trans (Turn.of_grown hs (by first | exact .inl rfl | exact .inr (by omega)))
  replace hB_l := hB_l.grown hs (by intro hk; injection hk with hk; have := hB_l.lt; have := hB_d.lt; omega)
  replace hB_r := hB_r.grown hs (by intro hk; injection hk with hk; have := hB_r.lt; have := hB_d.lt; omega)
  replace hB_u := hB_u.grown hs (by intro hk; injection hk with hk; have := hB_u.lt; have := hB_d.lt; omega)
  clear hs Fw6
  clear hc_l; have hc_l := hB_l.cell
  clear hc_r; have hc_r := hB_r.cell
  clear hc_u; have hc_u := hB_u.cell
  have hc_d := hB_d.cell
  repeat (first|(with_reducible apply Xa)|((with_reducible apply region_k);intro KK kk)|(with_reducible apply Xc)|((with_reducible apply seq_k);intro KK kk)|((with_reducible apply Xk);(focus first|exact wanted_none rfl|exact wanted_yes rfl rfl rfl);(focus (simp [go_sem,effAt,↓IntWalk.iteOmega, *];(try go_ints);with_reducible first|exact Xm|exact Xn));focus (first|(apply put_some rfl;focus (conv=>lhs;dsimp only [Xr,Xs])<;>rfl)|exact put_none rfl))|((with_reducible apply Xl);(focus first|exact wanted_no rfl rfl rfl|exact wanted_undef rfl rfl rfl);focus (first|(apply put_some rfl;focus (conv=>lhs;dsimp only [Xr,Xs])<;>rfl)|exact put_none rfl))|(with_reducible first|apply Xe|apply Xf|apply Xg|apply Xh)|((with_reducible apply Xi);focus first|rfl|(simp [go_sem, *];done))|((with_reducible apply Xj);focus first|rfl|(simp [go_sem, *];done))|(simp only [Exit.then,Exit.inBlock,↓reduceIte,Nat.reduceEqDiff])|((with_reducible apply kf_out);focus assumption))
  ((with_reducible apply Xt (fun w' => Blk w' _ _ _ ∧ w7.grownBy w' (some _))); (focus rfl); (focus (simp only [effAt]; simp [go_sem]; (with_reducible exact effUpon_enter (hT _ hB_l)))); (focus ((first|(apply put_some rfl;focus (conv=>lhs;dsimp only [Xr,Xs])<;>rfl)|exact put_none rfl))))
  clear hc_l hB_l
  intro w8 hs
  obtain ⟨hB_l, hs⟩ := hs
  have Fw8 := Fw7.trans (Turn.of_grown hs (by first | exact .inl rfl | exact .inr (by omega)))
  replace hB_r := hB_r.grown hs (by intro hk; injection hk with hk; have := hB_r.lt; have := hB_l.lt; omega)
  replace hB_u := hB_u.grown hs (by intro hk; injection hk with hk; have := hB_u.lt; have := hB_l.lt; omega)
  replace hB_d := hB_d.grown hs (by intro hk; injection hk with hk; have := hB_d.lt; have := hB_l.lt; omega)
  clear hs Fw7
  clear hc_r; have hc_r := hB_r.cell
  clear hc_u; have hc_u := hB_u.cell
  clear hc_d; have hc_d := hB_d.cell
  have hc_l := hB_l.cell
  repeat (first|(with_reducible apply Xa)|((with_reducible apply region_k);intro KK kk)|(with_reducible apply Xc)|((with_reducible apply seq_k);intro KK kk)|((with_reducible apply Xk);(focus first|exact wanted_none rfl|exact wanted_yes rfl rfl rfl);(focus (simp [go_sem,effAt,↓IntWalk.iteOmega, *];(try go_ints);with_reducible first|exact Xm|exact Xn));focus (first|(apply put_some rfl;focus (conv=>lhs;dsimp only [Xr,Xs])<;>rfl)|exact put_none rfl))|((with_reducible apply Xl);(focus first|exact wanted_no rfl rfl rfl|exact wanted_undef rfl rfl rfl);focus (first|(apply put_some rfl;focus (conv=>lhs;dsimp only [Xr,Xs])<;>rfl)|exact put_none rfl))|(with_reducible first|apply Xe|apply Xf|apply Xg|apply Xh)|((with_reducible apply Xi);focus first|rfl|(simp [go_sem, *];done))|((with_reducible apply Xj);focus first|rfl|(simp [go_sem, *];done))|(simp only [Exit.then,Exit.inBlock,↓reduceIte,Nat.reduceEqDiff])|((with_reducible apply kf_out);focus assumption))
  have hf_r := hB_r.frozen
  ((with_reducible apply Xt (fun w' => Blk w' _ _ _ ∧ w8.grownBy w' (some _))); (focus rfl); (focus (simp [go_sem, effAt, *]; exact ⟨rfl, (((((hB_r.set_ 0 _).set_ 1 _).set_ 2 _).set_ 3 _).set_ 4 _), (grown_set (grown_set (grown_set (grown_set (grown_set (World.grownBy.refl _ _))))))⟩)); (focus ((first|(apply put_some rfl;focus (conv=>lhs;dsimp only [Xr,Xs])<;>rfl)|exact put_none rfl))))
  clear hf_r hc_r hB_r
  intro w9 hs
  obtain ⟨hB_r, hs⟩ := hs
  simp only [Xq,Xr,Xs] at hB_r
  have Fw9 := Fw8.trans (Turn.of_grown hs (by first | exact .inl rfl | exact .inr (by omega)))
  replace hB_l := hB_l.grown hs (by intro hk; injection hk with hk; have := hB_l.lt; have := hB_r.lt; omega)
  replace hB_u := hB_u.grown hs (by intro hk; injection hk with hk; have := hB_u.lt; have := hB_r.lt; omega)
  replace hB_d := hB_d.grown hs (by intro hk; injection hk with hk; have := hB_d.lt; have := hB_r.lt; omega)
  clear hs Fw8
  clear hc_l; have hc_l := hB_l.cell
  clear hc_u; have hc_u := hB_u.cell
  clear hc_d; have hc_d := hB_d.cell
  have hc_r := hB_r.cell
  repeat (first|(with_reducible apply Xa)|((with_reducible apply region_k);intro KK kk)|(with_reducible apply Xc)|((with_reducible apply seq_k);intro KK kk)|((with_reducible apply Xk);(focus first|exact wanted_none rfl|exact wanted_yes rfl rfl rfl);(focus (simp [go_sem,effAt,↓IntWalk.iteOmega, *];(try go_ints);with_reducible first|exact Xm|exact Xn));focus (first|(apply put_some rfl;focus (conv=>lhs;dsimp only [Xr,Xs])<;>rfl)|exact put_none rfl))|((with_reducible apply Xl);(focus first|exact wanted_no rfl rfl rfl|exact wanted_undef rfl rfl rfl);focus (first|(apply put_some rfl;focus (conv=>lhs;dsimp only [Xr,Xs])<;>rfl)|exact put_none rfl))|(with_reducible first|apply Xe|apply Xf|apply Xg|apply Xh)|((with_reducible apply Xi);focus first|rfl|(simp [go_sem, *];done))|((with_reducible apply Xj);focus first|rfl|(simp [go_sem, *];done))|(simp only [Exit.then,Exit.inBlock,↓reduceIte,Nat.reduceEqDiff])|((with_reducible apply kf_out);focus assumption))
  refine bodyPost_ret (v := (actV 3 false p 2 4)) (by simp [results, Try.results33, go_sem, *]) rfl ⟨rfl, hB_l, Turn.to_grown (by assumption)⟩
theorem rcmd_3_1 (h : Nat) (ls : Bool) (tr mo : Int) (p : Bool) (w : World) (hB_l : RB w h 3 ls tr mo) :
    Calls Try.prog 33 #[.pointer (some ⟨h, 0, none⟩), .int .u8 1, .bool p] w (Ret (actV 2 false p 0 3) fun w' => RB w' h 3 ls tr mo ∧ w.grownBy w' (some h)) := by
  unfold RB at *
  go_enter Try.func33, Try.ntmps33
  have F0 : Turn (fun i => i = h ∨ w.heap.size ≤ i) w w := Turn.refl _
  have hc_l := hB_l.cell
  repeat (first|(with_reducible apply Xa)|((with_reducible apply region_k);intro KK kk)|(with_reducible apply Xc)|((with_reducible apply seq_k);intro KK kk)|((with_reducible apply Xk);(focus first|exact wanted_none rfl|exact wanted_yes rfl rfl rfl);(focus (simp [go_sem,effAt,↓IntWalk.iteOmega, *];(try go_ints);with_reducible first|exact Xm|exact Xn));focus (first|(apply put_some rfl;focus (conv=>lhs;dsimp only [Xr,Xs])<;>rfl)|exact put_none rfl))|((with_reducible apply Xl);(focus first|exact wanted_no rfl rfl rfl|exact wanted_undef rfl rfl rfl);focus (first|(apply put_some rfl;focus (conv=>lhs;dsimp only [Xr,Xs])<;>rfl)|exact put_none rfl))|(with_reducible first|apply Xe|apply Xf|apply Xg|apply Xh)|((with_reducible apply Xi);focus first|rfl|(simp [go_sem, *];done))|((with_reducible apply Xj);focus first|rfl|(simp [go_sem, *];done))|(simp only [Exit.then,Exit.inBlock,↓reduceIte,Nat.reduceEqDiff])|((with_reducible apply kf_out);focus assumption))
  have lt_l_r := hB_l.lt
  have le_r := F0.size
  ((with_reducible apply Xu); (focus rfl); (focus (simp [go_sem, effAt]; exact ⟨rfl, rfl⟩)); (focus ((first|(apply put_some rfl;focus (conv=>lhs;dsimp only [Xr,Xs])<;>rfl)|exact put_none rfl))))
  intro w1 hB_r hs
  have Fw1 := F0.trans (Turn.of_below hs)
  replace hB_l := hB_l.below hs hB_l.lt
  clear hs F0
  clear hc_l; have hc_l := hB_l.cell
  have hc_r := hB_r.cell
  repeat (first|(with_reducible apply Xa)|((with_reducible apply region_k);intro KK kk)|(with_reducible apply Xc)|((with_reducible apply seq_k);intro KK kk)|((with_reducible apply Xk);(focus first|exact wanted_none rfl|exact wanted_yes rfl rfl rfl);(focus (simp [go_sem,effAt,↓IntWalk.iteOmega, *];(try go_ints);with_reducible first|exact Xm|exact Xn));focus (first|(apply put_some rfl;focus (conv=>lhs;dsimp only [Xr,Xs])<;>rfl)|exact put_none rfl))|((with_reducible apply Xl);(focus first|exact wanted_no rfl rfl rfl|exact wanted_undef rfl rfl rfl);focus (first|(apply put_some rfl;focus (conv=>lhs;dsimp only [Xr,Xs])<;>rfl)|exact put_none rfl))|(with_reducible first|apply Xe|apply Xf|apply Xg|apply Xh)|((with_reducible apply Xi);focus first|rfl|(simp [go_sem, *];done))|((with_reducible apply Xj);focus first|rfl|(simp [go_sem, *];done))|(simp only [Exit.then,Exit.inBlock,↓reduceIte,Nat.reduceEqDiff])|((with_reducible apply kf_out);focus assumption))
  have lt_l_u := hB_l.lt
  have lt_r_u := hB_r.lt
  have le_u := Fw1.size
  ((with_reducible apply Xu); (focus rfl); (focus (simp [go_sem, effAt]; exact ⟨rfl, rfl⟩)); (focus ((first|(apply put_some rfl;focus (conv=>lhs;dsimp only [Xr,Xs])<;>rfl)|exact put_none rfl))))
  intro w2 hB_u hs
  have Fw2 := Fw1.trans (Turn.of_below hs)
  replace hB_l := hB_l.below hs hB_l.lt
  replace hB_r := hB_r.below hs hB_r.lt
  clear hs Fw1
  clear hc_l; have hc_l := hB_l.cell
  clear hc_r; have hc_r := hB_r.cell
  have hc_u := hB_u.cell
  repeat (first|(with_reducible apply Xa)|((with_reducible apply region_k);intro KK kk)|(with_reducible apply Xc)|((with_reducible apply seq_k);intro KK kk)|((with_reducible apply Xk);(focus first|exact wanted_none rfl|exact wanted_yes rfl rfl rfl);(focus (simp [go_sem,effAt,↓IntWalk.iteOmega, *];(try go_ints);with_reducible first|exact Xm|exact Xn));focus (first|(apply put_some rfl;focus (conv=>lhs;dsimp only [Xr,Xs])<;>rfl)|exact put_none rfl))|((with_reducible apply Xl);(focus first|exact wanted_no rfl rfl rfl|exact wanted_undef rfl rfl rfl);focus (first|(apply put_some rfl;focus (conv=>lhs;dsimp only [Xr,Xs])<;>rfl)|exact put_none rfl))|(with_reducible first|apply Xe|apply Xf|apply Xg|apply Xh)|((with_reducible apply Xi);focus first|rfl|(simp [go_sem, *];done))|((with_reducible apply Xj);focus first|rfl|(simp [go_sem, *];done))|(simp only [Exit.then,Exit.inBlock,↓reduceIte,Nat.reduceEqDiff])|((with_reducible apply kf_out);focus assumption))
  have lt_l_d := hB_l.lt
  have lt_r_d := hB_r.lt
  have lt_u_d := hB_u.lt
  have le_d := Fw2.size
  ((with_reducible apply Xu); (focus rfl); (focus (simp [go_sem, effAt]; exact ⟨rfl, rfl⟩)); (focus ((first|(apply put_some rfl;focus (conv=>lhs;dsimp only [Xr,Xs])<;>rfl)|exact put_none rfl))))
  intro w3 hB_d hs
  have Fw3 := Fw2.trans (Turn.of_below hs)
  replace hB_l := hB_l.below hs hB_l.lt
  replace hB_r := hB_r.below hs hB_r.lt
  replace hB_u := hB_u.below hs hB_u.lt
  clear hs Fw2
  clear hc_l; have hc_l := hB_l.cell
  clear hc_r; have hc_r := hB_r.cell
  clear hc_u; have hc_u := hB_u.cell
  have hc_d := hB_d.cell
  repeat (first|(with_reducible apply Xa)|((with_reducible apply region_k);intro KK kk)|(with_reducible apply Xc)|((with_reducible apply seq_k);intro KK kk)|((with_reducible apply Xk);(focus first|exact wanted_none rfl|exact wanted_yes rfl rfl rfl);(focus (simp [go_sem,effAt,↓IntWalk.iteOmega, *];(try go_ints);with_reducible first|exact Xm|exact Xn));focus (first|(apply put_some rfl;focus (conv=>lhs;dsimp only [Xr,Xs])<;>rfl)|exact put_none rfl))|((with_reducible apply Xl);(focus first|exact wanted_no rfl rfl rfl|exact wanted_undef rfl rfl rfl);focus (first|(apply put_some rfl;focus (conv=>lhs;dsimp only [Xr,Xs])<;>rfl)|exact put_none rfl))|(with_reducible first|apply Xe|apply Xf|apply Xg|apply Xh)|((with_reducible apply Xi);focus first|rfl|(simp [go_sem, *];done))|((with_reducible apply Xj);focus first|rfl|(simp [go_sem, *];done))|(simp only [Exit.then,Exit.inBlock,↓reduceIte,Nat.reduceEqDiff])|((with_reducible apply kf_out);focus assumption))
  have hf_u := hB_u.frozen
  ((with_reducible apply Xt (fun w' => Blk w' _ _ _ ∧ w3.grownBy w' (some _))); (focus rfl); (focus (simp [go_sem, effAt, *]; exact ⟨rfl, (((((hB_u.set_ 0 _).set_ 1 _).set_ 2 _).set_ 3 _).set_ 4 _), (grown_set (grown_set (grown_set (grown_set (grown_set (World.grownBy.refl _ _))))))⟩)); (focus ((first|(apply put_some rfl;focus (conv=>lhs;dsimp only [Xr,Xs])<;>rfl)|exact put_none rfl))))
  clear hf_u hc_u hB_u
  intro w4 hs
  obtain ⟨hB_u, hs⟩ := hs
  simp only [Xq,Xr,Xs] at hB_u
  have Fw4 := Fw3.trans (Turn.of_grown hs (by first | exact .inl rfl | exact .inr (by omega)))
  replace hB_l := hB_l.grown hs (by intro hk; injection hk with hk; have := hB_l.lt; have := hB_u.lt; omega)
  replace hB_r := hB_r.grown hs (by intro hk; injection hk with hk; have := hB_r.lt; have := hB_u.lt; omega)
  replace hB_d := hB_d.grown hs (by intro hk; injection hk with hk; have := hB_d.lt; have := hB_u.lt; omega)
  clear hs Fw3
  clear hc_l; have hc_l := hB_l.cell
  clear hc_r; have hc_r := hB_r.cell
  clear hc_d; have hc_d := hB_d.cell
  have hc_u := hB_u.cell
  repeat (first|(with_reducible apply Xa)|((with_reducible apply region_k);intro KK kk)|(with_reducible apply Xc)|((with_reducible apply seq_k);intro KK kk)|((with_reducible apply Xk);(focus first|exact wanted_none rfl|exact wanted_yes rfl rfl rfl);(focus (simp [go_sem,effAt,↓IntWalk.iteOmega, *];(try go_ints);with_reducible first|exact Xm|exact Xn));focus (first|(apply put_some rfl;focus (conv=>lhs;dsimp only [Xr,Xs])<;>rfl)|exact put_none rfl))|((with_reducible apply Xl);(focus first|exact wanted_no rfl rfl rfl|exact wanted_undef rfl rfl rfl);focus (first|(apply put_some rfl;focus (conv=>lhs;dsimp only [Xr,Xs])<;>rfl)|exact put_none rfl))|(with_reducible first|apply Xe|apply Xf|apply Xg|apply Xh)|((with_reducible apply Xi);focus first|rfl|(simp [go_sem, *];done))|((with_reducible apply Xj);focus first|rfl|(simp [go_sem, *];done))|(simp only [Exit.then,Exit.inBlock,↓reduceIte,Nat.reduceEqDiff])|((with_reducible apply kf_out);focus assumption))
  have hf_d := hB_d.frozen
  ((with_reducible apply Xt (fun w' => Blk w' _ _ _ ∧ w4.grownBy w' (some _))); (focus rfl); (focus (simp [go_sem, effAt, *]; exact ⟨rfl, (((((hB_d.set_ 0 _).set_ 1 _).set_ 2 _).set_ 3 _).set_ 4 _), (grown_set (grown_set (grown_set (grown_set (grown_set (World.grownBy.refl _ _))))))⟩)); (focus ((first|(apply put_some rfl;focus (conv=>lhs;dsimp only [Xr,Xs])<;>rfl)|exact put_none rfl))))
  clear hf_d hc_d hB_d
  intro w5 hs
  obtain ⟨hB_d, hs⟩ := hs
  simp only [Xq,Xr,Xs] at hB_d
  have Fw5 := Fw4.trans (Turn.of_grown hs (by first | exact .inl rfl | exact .inr (by omega)))
  replace hB_l := hB_l.grown hs (by intro hk; injection hk with hk; have := hB_l.lt; have := hB_d.lt; omega)
  replace hB_r := hB_r.grown hs (by intro hk; injection hk with hk; have := hB_r.lt; have := hB_d.lt; omega)
  replace hB_u := hB_u.grown hs (by intro hk; injection hk with hk; have := hB_u.lt; have := hB_d.lt; omega)
  clear hs Fw4
  clear hc_l; have hc_l := hB_l.cell
  clear hc_r; have hc_r := hB_r.cell
  clear hc_u; have hc_u := hB_u.cell
  have hc_d := hB_d.cell
  repeat (first|(with_reducible apply Xa)|((with_reducible apply region_k);intro KK kk)|(with_reducible apply Xc)|((with_reducible apply seq_k);intro KK kk)|((with_reducible apply Xk);(focus first|exact wanted_none rfl|exact wanted_yes rfl rfl rfl);(focus (simp [go_sem,effAt,↓IntWalk.iteOmega, *];(try go_ints);with_reducible first|exact Xm|exact Xn));focus (first|(apply put_some rfl;focus (conv=>lhs;dsimp only [Xr,Xs])<;>rfl)|exact put_none rfl))|((with_reducible apply Xl);(focus first|exact wanted_no rfl rfl rfl|exact wanted_undef rfl rfl rfl);focus (first|(apply put_some rfl;focus (conv=>lhs;dsimp only [Xr,Xs])<;>rfl)|exact put_none rfl))|(with_reducible first|apply Xe|apply Xf|apply Xg|apply Xh)|((with_reducible apply Xi);focus first|rfl|(simp [go_sem, *];done))|((with_reducible apply Xj);focus first|rfl|(simp [go_sem, *];done))|(simp only [Exit.then,Exit.inBlock,↓reduceIte,Nat.reduceEqDiff])|((with_reducible apply kf_out);focus assumption))
  have hf_u := hB_u.frozen
  ((with_reducible apply Xt (fun w' => Blk w' _ _ _ ∧ w5.grownBy w' (some _))); (focus rfl); (focus (simp [go_sem, effAt, *]; exact ⟨rfl, (hB_u.set_ 4 _), (grown_set (World.grownBy.refl _ _))⟩)); (focus ((first|(apply put_some rfl;focus (conv=>lhs;dsimp only [Xr,Xs])<;>rfl)|exact put_none rfl))))
  clear hf_u hc_u hB_u
  intro w6 hs
  obtain ⟨hB_u, hs⟩ := hs
  simp only [Xq,Xr,Xs] at hB_u
  have Fw6 := Fw5.trans (Turn.of_grown hs (by first | exact .inl rfl | exact .inr (by omega)))
  replace hB_l := hB_l.grown hs (by intro hk; injection hk with hk; have := hB_l.lt; have := hB_u.lt; omega)
  replace hB_r := hB_r.grown hs (by intro hk; injection hk with hk; have := hB_r.lt; have := hB_u.lt; omega)
  replace hB_d := hB_d.grown hs (by intro hk; injection hk with hk; have := hB_d.lt; have := hB_u.lt; omega)
  clear hs Fw5
  clear hc_l; have hc_l := hB_l.cell
  clear hc_r; have hc_r := hB_r.cell
  clear hc_d; have hc_d := hB_d.cell
  have hc_u := hB_u.cell
  repeat (first|(with_reducible apply Xa)|((with_reducible apply region_k);intro KK kk)|(with_reducible apply Xc)|((with_reducible apply seq_k);intro KK kk)|((with_reducible apply Xk);(focus first|exact wanted_none rfl|exact wanted_yes rfl rfl rfl);(focus (simp [go_sem,effAt,↓IntWalk.iteOmega, *];(try go_ints);with_reducible first|exact Xm|exact Xn));focus (first|(apply put_some rfl;focus (conv=>lhs;dsimp only [Xr,Xs])<;>rfl)|exact put_none rfl))|((with_reducible apply Xl);(focus first|exact wanted_no rfl rfl rfl|exact wanted_undef rfl rfl rfl);focus (first|(apply put_some rfl;focus (conv=>lhs;dsimp only [Xr,Xs])<;>rfl)|exact put_none rfl))|(with_reducible first|apply Xe|apply Xf|apply Xg|apply Xh)|((with_reducible apply Xi);focus first|rfl|(simp [go_sem, *];done))|((with_reducible apply Xj);focus first|rfl|(simp [go_sem, *];done))|(simp only [Exit.then,Exit.inBlock,↓reduceIte,Nat.reduceEqDiff])|((with_reducible apply kf_out);focus assumption))
  have hf_r := hB_r.frozen
  ((with_reducible apply Xt (fun w' => Blk w' _ _ _ ∧ w6.grownBy w' (some _))); (focus rfl); (focus (simp [go_sem, effAt, *]; exact ⟨rfl, (((((hB_r.set_ 0 _).set_ 1 _).set_ 2 _).set_ 3 _).set_ 4 _), (grown_set (grown_set (grown_set (grown_set (grown_set (World.grownBy.refl _ _))))))⟩)); (focus ((first|(apply put_some rfl;focus (conv=>lhs;dsimp only [Xr,Xs])<;>rfl)|exact put_none rfl))))
  clear hf_r hc_r hB_r
  intro w7 hs
  obtain ⟨hB_r, hs⟩ := hs
  simp only [Xq,Xr,Xs] at hB_r
  have Fw7 := Fw6.trans (Turn.of_grown hs (by first | exact .inl rfl | exact .inr (by omega)))
  replace hB_l := hB_l.grown hs (by intro hk; injection hk with hk; have := hB_l.lt; have := hB_r.lt; omega)
  replace hB_u := hB_u.grown hs (by intro hk; injection hk with hk; have := hB_u.lt; have := hB_r.lt; omega)
  replace hB_d := hB_d.grown hs (by intro hk; injection hk with hk; have := hB_d.lt; have := hB_r.lt; omega)
  clear hs Fw6
  clear hc_l; have hc_l := hB_l.cell
  clear hc_u; have hc_u := hB_u.cell
  clear hc_d; have hc_d := hB_d.cell
  have hc_r := hB_r.cell
  repeat (first|(with_reducible apply Xa)|((with_reducible apply region_k);intro KK kk)|(with_reducible apply Xc)|((with_reducible apply seq_k);intro KK kk)|((with_reducible apply Xk);(focus first|exact wanted_none rfl|exact wanted_yes rfl rfl rfl);(focus (simp [go_sem,effAt,↓IntWalk.iteOmega, *];(try go_ints);with_reducible first|exact Xm|exact Xn));focus (first|(apply put_some rfl;focus (conv=>lhs;dsimp only [Xr,Xs])<;>rfl)|exact put_none rfl))|((with_reducible apply Xl);(focus first|exact wanted_no rfl rfl rfl|exact wanted_undef rfl rfl rfl);focus (first|(apply put_some rfl;focus (conv=>lhs;dsimp only [Xr,Xs])<;>rfl)|exact put_none rfl))|(with_reducible first|apply Xe|apply Xf|apply Xg|apply Xh)|((with_reducible apply Xi);focus first|rfl|(simp [go_sem, *];done))|((with_reducible apply Xj);focus first|rfl|(simp [go_sem, *];done))|(simp only [Exit.then,Exit.inBlock,↓reduceIte,Nat.reduceEqDiff])|((with_reducible apply kf_out);focus assumption))
  refine bodyPost_ret (v := (actV 2 false p 0 3)) (by simp [results, Try.results33, go_sem, *]) rfl ⟨rfl, hB_l, Turn.to_grown (by assumption)⟩
