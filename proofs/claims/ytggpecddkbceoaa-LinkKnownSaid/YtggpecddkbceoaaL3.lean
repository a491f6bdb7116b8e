/- What an event does, as a function; the walks of does, Open, Close, Due, Listen, heard, Hear, of a link and of none. -/
import Derived.Test.YtggpecddkbceoaaL2
set_option linter.unusedSimpArgs false
set_option linter.unusedVariables false
namespace Go.Proofs.Ytggpecddkbceoaa
open Go.RowKit Go.Eff
theorem does_1 (g : Nat) (ls : Bool) (tr mo : Int) (v : Value) {s2 tr2 mo2 k1 t1 f1 : Int} {c1 p1 ls2 : Bool} (w : World) (hB_l : LB w g 1 ls tr mo)
    (hF : ∀ w, LB w g 1 ls tr mo → Calls Try.prog 34 #[.pointer (some ⟨g, 0, none⟩), v] w (Ret (actV k1 c1 p1 t1 f1) fun w' => LB w' g s2 ls2 tr2 mo2 ∧ w.grownBy w' (some g))) :
    Calls Try.prog 28 #[.pointer (some ⟨g, 0, none⟩), v] w (Ret (actV k1 c1 p1 t1 f1) fun w' => LB w' g s2 ls2 tr2 mo2 ∧ w.grownBy w' (some g)) := by
  have hS := fun w h => state_any g 1 ls tr mo w h
  unfold LB at *
  go_enter Try.func28, Try.ntmps28
  have F0 : Turn (fun i => i = g ∨ w.heap.size ≤ i) w w := Turn.refl _
  have hc_l := hB_l.cell
  repeat (first|(with_reducible first|apply Xa|apply Xb|apply Xc|apply Xd)|((with_reducible apply Xk);(focus rfl);(focus (simp [go_sem,effAt,↓IntWalk.iteOmega, *];(try go_ints);with_reducible first|exact Xm|exact Xn));focus (simp only [Xo,Xp,Xq,Xr,Xs];rfl))|((with_reducible apply Xl);(focus rfl);focus (simp only [Xo,Xp,Xq,Xr,Xs];rfl))|(with_reducible first|apply Xe|apply Xf|apply Xg|apply Xh)|((with_reducible apply Xi);focus first|rfl|(simp [go_sem, *];done))|((with_reducible apply Xj);focus first|rfl|(simp [go_sem, *];done))|(simp only [Exit.then,Exit.inBlock,↓reduceIte,Nat.reduceEqDiff]))
  have lt_l_r := hB_l.lt
  have le_r := F0.size
  ((with_reducible apply Xu); (focus rfl); (focus (simp [go_sem, effAt]; exact ⟨rfl, rfl⟩)); (focus ((simp only [Xo,Xp,Xq,Xr,Xs];rfl))))
  intro w1 hB_r hs
  have Fw1 := F0.trans (Turn.of_below hs)
  replace hB_l := hB_l.below hs hB_l.lt
  clear hs F0
  clear hc_l; have hc_l := hB_l.cell
  have hc_r := hB_r.cell
  repeat (first|(with_reducible first|apply Xa|apply Xb|apply Xc|apply Xd)|((with_reducible apply Xk);(focus rfl);(focus (simp [go_sem,effAt,↓IntWalk.iteOmega, *];(try go_ints);with_reducible first|exact Xm|exact Xn));focus (simp only [Xo,Xp,Xq,Xr,Xs];rfl))|((with_reducible apply Xl);(focus rfl);focus (simp only [Xo,Xp,Xq,Xr,Xs];rfl))|(with_reducible first|apply Xe|apply Xf|apply Xg|apply Xh)|((with_reducible apply Xi);focus first|rfl|(simp [go_sem, *];done))|((with_reducible apply Xj);focus first|rfl|(simp [go_sem, *];done))|(simp only [Exit.then,Exit.inBlock,↓reduceIte,Nat.reduceEqDiff]))
  ((with_reducible apply Xt (Below w1.heap.size w1)); (focus rfl); (focus (simp only [effAt]; simp [go_sem]; (with_reducible exact effUpon_enter (hS _ hB_l)))); (focus ((simp only [Xo,Xp,Xq,Xr,Xs];rfl))))
  intro w2 hs
  have Fw2 := Fw1.trans (Turn.of_below hs)
  replace hB_l := hB_l.below hs hB_l.lt
  replace hB_r := hB_r.below hs hB_r.lt
  clear hs Fw1
  clear hc_l; have hc_l := hB_l.cell
  clear hc_r; have hc_r := hB_r.cell
  repeat (first|(with_reducible first|apply Xa|apply Xb|apply Xc|apply Xd)|((with_reducible apply Xk);(focus rfl);(focus (simp [go_sem,effAt,↓IntWalk.iteOmega, *];(try go_ints);with_reducible first|exact Xm|exact Xn));focus (simp only [Xo,Xp,Xq,Xr,Xs];rfl))|((with_reducible apply Xl);(focus rfl);focus (simp only [Xo,Xp,Xq,Xr,Xs];rfl))|(with_reducible first|apply Xe|apply Xf|apply Xg|apply Xh)|((with_reducible apply Xi);focus first|rfl|(simp [go_sem, *];done))|((with_reducible apply Xj);focus first|rfl|(simp [go_sem, *];done))|(simp only [Exit.then,Exit.inBlock,↓reduceIte,Nat.reduceEqDiff]))
  ((with_reducible apply Xt (fun w' => Blk w' _ _ _ ∧ w2.grownBy w' (some _))); (focus rfl); (focus (simp only [effAt]; simp [go_sem]; (with_reducible exact effUpon_enter (hF _ hB_l)))); (focus ((simp only [Xo,Xp,Xq,Xr,Xs];rfl))))
  clear hc_l hB_l
  intro w3 hs
  obtain ⟨hB_l, hs⟩ := hs
  have Fw3 := Fw2.trans (Turn.of_grown hs (by first | exact .inl rfl | exact .inr (by omega)))
  replace hB_r := hB_r.grown hs (by intro hk; injection hk with hk; have := hB_r.lt; have := hB_l.lt; omega)
  clear hs Fw2
  clear hc_r; have hc_r := hB_r.cell
  have hc_l := hB_l.cell
  repeat (first|(with_reducible first|apply Xa|apply Xb|apply Xc|apply Xd)|((with_reducible apply Xk);(focus rfl);(focus (simp [go_sem,effAt,↓IntWalk.iteOmega, *];(try go_ints);with_reducible first|exact Xm|exact Xn));focus (simp only [Xo,Xp,Xq,Xr,Xs];rfl))|((with_reducible apply Xl);(focus rfl);focus (simp only [Xo,Xp,Xq,Xr,Xs];rfl))|(with_reducible first|apply Xe|apply Xf|apply Xg|apply Xh)|((with_reducible apply Xi);focus first|rfl|(simp [go_sem, *];done))|((with_reducible apply Xj);focus first|rfl|(simp [go_sem, *];done))|(simp only [Exit.then,Exit.inBlock,↓reduceIte,Nat.reduceEqDiff]))
  have hf_r := hB_r.frozen
  ((with_reducible apply Xt (fun w' => Blk w' _ _ _ ∧ w3.grownBy w' (some _))); (focus rfl); (focus (simp [go_sem, effAt, *]; exact ⟨rfl, (((((hB_r.set_ 0 _).set_ 1 _).set_ 2 _).set_ 3 _).set_ 4 _), (grown_set (grown_set (grown_set (grown_set (grown_set (World.grownBy.refl _ _))))))⟩)); (focus ((simp only [Xo,Xp,Xq,Xr,Xs];rfl))))
  clear hf_r hc_r hB_r
  intro w4 hs
  obtain ⟨hB_r, hs⟩ := hs
  simp only [Xq,Xr,Xs] at hB_r
  have Fw4 := Fw3.trans (Turn.of_grown hs (by first | exact .inl rfl | exact .inr (by omega)))
  replace hB_l := hB_l.grown hs (by intro hk; injection hk with hk; have := hB_l.lt; have := hB_r.lt; omega)
  clear hs Fw3
  clear hc_l; have hc_l := hB_l.cell
  have hc_r := hB_r.cell
  repeat (first|(with_reducible first|apply Xa|apply Xb|apply Xc|apply Xd)|((with_reducible apply Xk);(focus rfl);(focus (simp [go_sem,effAt,↓IntWalk.iteOmega, *];(try go_ints);with_reducible first|exact Xm|exact Xn));focus (simp only [Xo,Xp,Xq,Xr,Xs];rfl))|((with_reducible apply Xl);(focus rfl);focus (simp only [Xo,Xp,Xq,Xr,Xs];rfl))|(with_reducible first|apply Xe|apply Xf|apply Xg|apply Xh)|((with_reducible apply Xi);focus first|rfl|(simp [go_sem, *];done))|((with_reducible apply Xj);focus first|rfl|(simp [go_sem, *];done))|(simp only [Exit.then,Exit.inBlock,↓reduceIte,Nat.reduceEqDiff]))
  refine bodyPost_ret (v := (actV k1 c1 p1 t1 f1)) (by simp [results, Try.results28, go_sem, *]) rfl ⟨rfl, hB_l, Turn.to_grown (by assumption)⟩
theorem does_5 (g : Nat) (ls : Bool) (tr mo : Int) (v : Value) {s2 tr2 mo2 k1 t1 f1 : Int} {c1 p1 ls2 : Bool} (w : World) (hB_l : LB w g 5 ls tr mo)
    (hF : ∀ w, LB w g 5 ls tr mo → Calls Try.prog 34 #[.pointer (some ⟨g, 0, none⟩), v] w (Ret (actV k1 c1 p1 t1 f1) fun w' => LB w' g s2 ls2 tr2 mo2 ∧ w.grownBy w' (some g))) :
    Calls Try.prog 28 #[.pointer (some ⟨g, 0, none⟩), v] w (Ret (actV k1 c1 p1 t1 f1) fun w' => LB w' g s2 ls2 tr2 mo2 ∧ w.grownBy w' (some g)) := by
  have hS := fun w h => state_any g 5 ls tr mo w h
  unfold LB at *
  go_enter Try.func28, Try.ntmps28
  have F0 : Turn (fun i => i = g ∨ w.heap.size ≤ i) w w := Turn.refl _
  have hc_l := hB_l.cell
  repeat (first|(with_reducible first|apply Xa|apply Xb|apply Xc|apply Xd)|((with_reducible apply Xk);(focus rfl);(focus (simp [go_sem,effAt,↓IntWalk.iteOmega, *];(try go_ints);with_reducible first|exact Xm|exact Xn));focus (simp only [Xo,Xp,Xq,Xr,Xs];rfl))|((with_reducible apply Xl);(focus rfl);focus (simp only [Xo,Xp,Xq,Xr,Xs];rfl))|(with_reducible first|apply Xe|apply Xf|apply Xg|apply Xh)|((with_reducible apply Xi);focus first|rfl|(simp [go_sem, *];done))|((with_reducible apply Xj);focus first|rfl|(simp [go_sem, *];done))|(simp only [Exit.then,Exit.inBlock,↓reduceIte,Nat.reduceEqDiff]))
  have lt_l_r := hB_l.lt
  have le_r := F0.size
  ((with_reducible apply Xu); (focus rfl); (focus (simp [go_sem, effAt]; exact ⟨rfl, rfl⟩)); (focus ((simp only [Xo,Xp,Xq,Xr,Xs];rfl))))
  intro w1 hB_r hs
  have Fw1 := F0.trans (Turn.of_below hs)
  replace hB_l := hB_l.below hs hB_l.lt
  clear hs F0
  clear hc_l; have hc_l := hB_l.cell
  have hc_r := hB_r.cell
  repeat (first|(with_reducible first|apply Xa|apply Xb|apply Xc|apply Xd)|((with_reducible apply Xk);(focus rfl);(focus (simp [go_sem,effAt,↓IntWalk.iteOmega, *];(try go_ints);with_reducible first|exact Xm|exact Xn));focus (simp only [Xo,Xp,Xq,Xr,Xs];rfl))|((with_reducible apply Xl);(focus rfl);focus (simp only [Xo,Xp,Xq,Xr,Xs];rfl))|(with_reducible first|apply Xe|apply Xf|apply Xg|apply Xh)|((with_reducible apply Xi);focus first|rfl|(simp [go_sem, *];done))|((with_reducible apply Xj);focus first|rfl|(simp [go_sem, *];done))|(simp only [Exit.then,Exit.inBlock,↓reduceIte,Nat.reduceEqDiff]))
  ((with_reducible apply Xt (Below w1.heap.size w1)); (focus rfl); (focus (simp only [effAt]; simp [go_sem]; (with_reducible exact effUpon_enter (hS _ hB_l)))); (focus ((simp only [Xo,Xp,Xq,Xr,Xs];rfl))))
  intro w2 hs
  have Fw2 := Fw1.trans (Turn.of_below hs)
  replace hB_l := hB_l.below hs hB_l.lt
  replace hB_r := hB_r.below hs hB_r.lt
  clear hs Fw1
  clear hc_l; have hc_l := hB_l.cell
  clear hc_r; have hc_r := hB_r.cell
  repeat (first|(with_reducible first|apply Xa|apply Xb|apply Xc|apply Xd)|((with_reducible apply Xk);(focus rfl);(focus (simp [go_sem,effAt,↓IntWalk.iteOmega, *];(try go_ints);with_reducible first|exact Xm|exact Xn));focus (simp only [Xo,Xp,Xq,Xr,Xs];rfl))|((with_reducible apply Xl);(focus rfl);focus (simp only [Xo,Xp,Xq,Xr,Xs];rfl))|(with_reducible first|apply Xe|apply Xf|apply Xg|apply Xh)|((with_reducible apply Xi);focus first|rfl|(simp [go_sem, *];done))|((with_reducible apply Xj);focus first|rfl|(simp [go_sem, *];done))|(simp only [Exit.then,Exit.inBlock,↓reduceIte,Nat.reduceEqDiff]))
  ((with_reducible apply Xt (fun w' => Blk w' _ _ _ ∧ w2.grownBy w' (some _))); (focus rfl); (focus (simp only [effAt]; simp [go_sem]; (with_reducible exact effUpon_enter (hF _ hB_l)))); (focus ((simp only [Xo,Xp,Xq,Xr,Xs];rfl))))
  clear hc_l hB_l
  intro w3 hs
  obtain ⟨hB_l, hs⟩ := hs
  have Fw3 := Fw2.trans (Turn.of_grown hs (by first | exact .inl rfl | exact .inr (by omega)))
  replace hB_r := hB_r.grown hs (by intro hk; injection hk with hk; have := hB_r.lt; have := hB_l.lt; omega)
  clear hs Fw2
  clear hc_r; have hc_r := hB_r.cell
  have hc_l := hB_l.cell
  repeat (first|(with_reducible first|apply Xa|apply Xb|apply Xc|apply Xd)|((with_reducible apply Xk);(focus rfl);(focus (simp [go_sem,effAt,↓IntWalk.iteOmega, *];(try go_ints);with_reducible first|exact Xm|exact Xn));focus (simp only [Xo,Xp,Xq,Xr,Xs];rfl))|((with_reducible apply Xl);(focus rfl);focus (simp only [Xo,Xp,Xq,Xr,Xs];rfl))|(with_reducible first|apply Xe|apply Xf|apply Xg|apply Xh)|((with_reducible apply Xi);focus first|rfl|(simp [go_sem, *];done))|((with_reducible apply Xj);focus first|rfl|(simp [go_sem, *];done))|(simp only [Exit.then,Exit.inBlock,↓reduceIte,Nat.reduceEqDiff]))
  have hf_r := hB_r.frozen
  ((with_reducible apply Xt (fun w' => Blk w' _ _ _ ∧ w3.grownBy w' (some _))); (focus rfl); (focus (simp [go_sem, effAt, *]; exact ⟨rfl, (((((hB_r.set_ 0 _).set_ 1 _).set_ 2 _).set_ 3 _).set_ 4 _), (grown_set (grown_set (grown_set (grown_set (grown_set (World.grownBy.refl _ _))))))⟩)); (focus ((simp only [Xo,Xp,Xq,Xr,Xs];rfl))))
  clear hf_r hc_r hB_r
  intro w4 hs
  obtain ⟨hB_r, hs⟩ := hs
  simp only [Xq,Xr,Xs] at hB_r
  have Fw4 := Fw3.trans (Turn.of_grown hs (by first | exact .inl rfl | exact .inr (by omega)))
  replace hB_l := hB_l.grown hs (by intro hk; injection hk with hk; have := hB_l.lt; have := hB_r.lt; omega)
  clear hs Fw3
  clear hc_l; have hc_l := hB_l.cell
  have hc_r := hB_r.cell
  repeat (first|(with_reducible first|apply Xa|apply Xb|apply Xc|apply Xd)|((with_reducible apply Xk);(focus rfl);(focus (simp [go_sem,effAt,↓IntWalk.iteOmega, *];(try go_ints);with_reducible first|exact Xm|exact Xn));focus (simp only [Xo,Xp,Xq,Xr,Xs];rfl))|((with_reducible apply Xl);(focus rfl);focus (simp only [Xo,Xp,Xq,Xr,Xs];rfl))|(with_reducible first|apply Xe|apply Xf|apply Xg|apply Xh)|((with_reducible apply Xi);focus first|rfl|(simp [go_sem, *];done))|((with_reducible apply Xj);focus first|rfl|(simp [go_sem, *];done))|(simp only [Exit.then,Exit.inBlock,↓reduceIte,Nat.reduceEqDiff]))
  refine bodyPost_ret (v := (actV k1 c1 p1 t1 f1)) (by simp [results, Try.results28, go_sem, *]) rfl ⟨rfl, hB_l, Turn.to_grown (by assumption)⟩
theorem does_2 (g : Nat) (ls : Bool) (tr mo : Int) (v : Value) {s2 tr2 mo2 k1 t1 f1 : Int} {c1 p1 ls2 : Bool} (w : World) (hB_l : LB w g 2 ls tr mo)
    (hF : ∀ w, LB w g 2 ls tr mo → Calls Try.prog 35 #[.pointer (some ⟨g, 0, none⟩), v] w (Ret (actV k1 c1 p1 t1 f1) fun w' => LB w' g s2 ls2 tr2 mo2 ∧ w.grownBy w' (some g))) :
    Calls Try.prog 28 #[.pointer (some ⟨g, 0, none⟩), v] w (Ret (actV k1 c1 p1 t1 f1) fun w' => LB w' g s2 ls2 tr2 mo2 ∧ w.grownBy w' (some g)) := by
  have hS := fun w h => state_any g 2 ls tr mo w h
  unfold LB at *
  go_enter Try.func28, Try.ntmps28
  have F0 : Turn (fun i => i = g ∨ w.heap.size ≤ i) w w := Turn.refl _
  have hc_l := hB_l.cell
  repeat (first|(with_reducible first|apply Xa|apply Xb|apply Xc|apply Xd)|((with_reducible apply Xk);(focus rfl);(focus (simp [go_sem,effAt,↓IntWalk.iteOmega, *];(try go_ints);with_reducible first|exact Xm|exact Xn));focus (simp only [Xo,Xp,Xq,Xr,Xs];rfl))|((with_reducible apply Xl);(focus rfl);focus (simp only [Xo,Xp,Xq,Xr,Xs];rfl))|(with_reducible first|apply Xe|apply Xf|apply Xg|apply Xh)|((with_reducible apply Xi);focus first|rfl|(simp [go_sem, *];done))|((with_reducible apply Xj);focus first|rfl|(simp [go_sem, *];done))|(simp only [Exit.then,Exit.inBlock,↓reduceIte,Nat.reduceEqDiff]))
  have lt_l_r := hB_l.lt
  have le_r := F0.size
  ((with_reducible apply Xu); (focus rfl); (focus (simp [go_sem, effAt]; exact ⟨rfl, rfl⟩)); (focus ((simp only [Xo,Xp,Xq,Xr,Xs];rfl))))
  intro w1 hB_r hs
  have Fw1 := F0.trans (Turn.of_below hs)
  replace hB_l := hB_l.below hs hB_l.lt
  clear hs F0
  clear hc_l; have hc_l := hB_l.cell
  have hc_r := hB_r.cell
  repeat (first|(with_reducible first|apply Xa|apply Xb|apply Xc|apply Xd)|((with_reducible apply Xk);(focus rfl);(focus (simp [go_sem,effAt,↓IntWalk.iteOmega, *];(try go_ints);with_reducible first|exact Xm|exact Xn));focus (simp only [Xo,Xp,Xq,Xr,Xs];rfl))|((with_reducible apply Xl);(focus rfl);focus (simp only [Xo,Xp,Xq,Xr,Xs];rfl))|(with_reducible first|apply Xe|apply Xf|apply Xg|apply Xh)|((with_reducible apply Xi);focus first|rfl|(simp [go_sem, *];done))|((with_reducible apply Xj);focus first|rfl|(simp [go_sem, *];done))|(simp only [Exit.then,Exit.inBlock,↓reduceIte,Nat.reduceEqDiff]))
  ((with_reducible apply Xt (Below w1.heap.size w1)); (focus rfl); (focus (simp only [effAt]; simp [go_sem]; (with_reducible exact effUpon_enter (hS _ hB_l)))); (focus ((simp only [Xo,Xp,Xq,Xr,Xs];rfl))))
  intro w2 hs
  have Fw2 := Fw1.trans (Turn.of_below hs)
  replace hB_l := hB_l.below hs hB_l.lt
  replace hB_r := hB_r.below hs hB_r.lt
  clear hs Fw1
  clear hc_l; have hc_l := hB_l.cell
  clear hc_r; have hc_r := hB_r.cell
  repeat (first|(with_reducible first|apply Xa|apply Xb|apply Xc|apply Xd)|((with_reducible apply Xk);(focus rfl);(focus (simp [go_sem,effAt,↓IntWalk.iteOmega, *];(try go_ints);with_reducible first|exact Xm|exact Xn));focus (simp only [Xo,Xp,Xq,Xr,Xs];rfl))|((with_reducible apply Xl);(focus rfl);focus (simp only [Xo,Xp,Xq,Xr,Xs];rfl))|(with_reducible first|apply Xe|apply Xf|apply Xg|apply Xh)|((with_reducible apply Xi);focus first|rfl|(simp [go_sem, *];done))|((with_reducible apply Xj);focus first|rfl|(simp [go_sem, *];done))|(simp only [Exit.then,Exit.inBlock,↓reduceIte,Nat.reduceEqDiff]))
  ((with_reducible apply Xt (fun w' => Blk w' _ _ _ ∧ w2.grownBy w' (some _))); (focus rfl); (focus (simp only [effAt]; simp [go_sem]; (with_reducible exact effUpon_enter (hF _ hB_l)))); (focus ((simp only [Xo,Xp,Xq,Xr,Xs];rfl))))
  clear hc_l hB_l
  intro w3 hs
  obtain ⟨hB_l, hs⟩ := hs
  have Fw3 := Fw2.trans (Turn.of_grown hs (by first | exact .inl rfl | exact .inr (by omega)))
  replace hB_r := hB_r.grown hs (by intro hk; injection hk with hk; have := hB_r.lt; have := hB_l.lt; omega)
  clear hs Fw2
  clear hc_r; have hc_r := hB_r.cell
  have hc_l := hB_l.cell
  repeat (first|(with_reducible first|apply Xa|apply Xb|apply Xc|apply Xd)|((with_reducible apply Xk);(focus rfl);(focus (simp [go_sem,effAt,↓IntWalk.iteOmega, *];(try go_ints);with_reducible first|exact Xm|exact Xn));focus (simp only [Xo,Xp,Xq,Xr,Xs];rfl))|((with_reducible apply Xl);(focus rfl);focus (simp only [Xo,Xp,Xq,Xr,Xs];rfl))|(with_reducible first|apply Xe|apply Xf|apply Xg|apply Xh)|((with_reducible apply Xi);focus first|rfl|(simp [go_sem, *];done))|((with_reducible apply Xj);focus first|rfl|(simp [go_sem, *];done))|(simp only [Exit.then,Exit.inBlock,↓reduceIte,Nat.reduceEqDiff]))
  have hf_r := hB_r.frozen
  ((with_reducible apply Xt (fun w' => Blk w' _ _ _ ∧ w3.grownBy w' (some _))); (focus rfl); (focus (simp [go_sem, effAt, *]; exact ⟨rfl, (((((hB_r.set_ 0 _).set_ 1 _).set_ 2 _).set_ 3 _).set_ 4 _), (grown_set (grown_set (grown_set (grown_set (grown_set (World.grownBy.refl _ _))))))⟩)); (focus ((simp only [Xo,Xp,Xq,Xr,Xs];rfl))))
  clear hf_r hc_r hB_r
  intro w4 hs
  obtain ⟨hB_r, hs⟩ := hs
  simp only [Xq,Xr,Xs] at hB_r
  have Fw4 := Fw3.trans (Turn.of_grown hs (by first | exact .inl rfl | exact .inr (by omega)))
  replace hB_l := hB_l.grown hs (by intro hk; injection hk with hk; have := hB_l.lt; have := hB_r.lt; omega)
  clear hs Fw3
  clear hc_l; have hc_l := hB_l.cell
  have hc_r := hB_r.cell
  repeat (first|(with_reducible first|apply Xa|apply Xb|apply Xc|apply Xd)|((with_reducible apply Xk);(focus rfl);(focus (simp [go_sem,effAt,↓IntWalk.iteOmega, *];(try go_ints);with_reducible first|exact Xm|exact Xn));focus (simp only [Xo,Xp,Xq,Xr,Xs];rfl))|((with_reducible apply Xl);(focus rfl);focus (simp only [Xo,Xp,Xq,Xr,Xs];rfl))|(with_reducible first|apply Xe|apply Xf|apply Xg|apply Xh)|((with_reducible apply Xi);focus first|rfl|(simp [go_sem, *];done))|((with_reducible apply Xj);focus first|rfl|(simp [go_sem, *];done))|(simp only [Exit.then,Exit.inBlock,↓reduceIte,Nat.reduceEqDiff]))
  refine bodyPost_ret (v := (actV k1 c1 p1 t1 f1)) (by simp [results, Try.results28, go_sem, *]) rfl ⟨rfl, hB_l, Turn.to_grown (by assumption)⟩
theorem does_3 (g : Nat) (ls : Bool) (tr mo : Int) (v : Value) {s2 tr2 mo2 k1 t1 f1 : Int} {c1 p1 ls2 : Bool} (w : World) (hB_l : LB w g 3 ls tr mo)
    (hF : ∀ w, LB w g 3 ls tr mo → Calls Try.prog 36 #[.pointer (some ⟨g, 0, none⟩), v] w (Ret (actV k1 c1 p1 t1 f1) fun w' => LB w' g s2 ls2 tr2 mo2 ∧ w.grownBy w' (some g))) :
    Calls Try.prog 28 #[.pointer (some ⟨g, 0, none⟩), v] w (Ret (actV k1 c1 p1 t1 f1) fun w' => LB w' g s2 ls2 tr2 mo2 ∧ w.grownBy w' (some g)) := by
  have hS := fun w h => state_any g 3 ls tr mo w h
  unfold LB at *
  go_enter Try.func28, Try.ntmps28
  have F0 : Turn (fun i => i = g ∨ w.heap.size ≤ i) w w := Turn.refl _
  have hc_l := hB_l.cell
  repeat (first|(with_reducible first|apply Xa|apply Xb|apply Xc|apply Xd)|((with_reducible apply Xk);(focus rfl);(focus (simp [go_sem,effAt,↓IntWalk.iteOmega, *];(try go_ints);with_reducible first|exact Xm|exact Xn));focus (simp only [Xo,Xp,Xq,Xr,Xs];rfl))|((with_reducible apply Xl);(focus rfl);focus (simp only [Xo,Xp,Xq,Xr,Xs];rfl))|(with_reducible first|apply Xe|apply Xf|apply Xg|apply Xh)|((with_reducible apply Xi);focus first|rfl|(simp [go_sem, *];done))|((with_reducible apply Xj);focus first|rfl|(simp [go_sem, *];done))|(simp only [Exit.then,Exit.inBlock,↓reduceIte,Nat.reduceEqDiff]))
  have lt_l_r := hB_l.lt
  have le_r := F0.size
  ((with_reducible apply Xu); (focus rfl); (focus (simp [go_sem, effAt]; exact ⟨rfl, rfl⟩)); (focus ((simp only [Xo,Xp,Xq,Xr,Xs];rfl))))
  intro w1 hB_r hs
  have Fw1 := F0.trans (Turn.of_below hs)
  replace hB_l := hB_l.below hs hB_l.lt
  clear hs F0
  clear hc_l; have hc_l := hB_l.cell
  have hc_r := hB_r.cell
  repeat (first|(with_reducible first|apply Xa|apply Xb|apply Xc|apply Xd)|((with_reducible apply Xk);(focus rfl);(focus (simp [go_sem,effAt,↓IntWalk.iteOmega, *];(try go_ints);with_reducible first|exact Xm|exact Xn));focus (simp only [Xo,Xp,Xq,Xr,Xs];rfl))|((with_reducible apply Xl);(focus rfl);focus (simp only [Xo,Xp,Xq,Xr,Xs];rfl))|(with_reducible first|apply Xe|apply Xf|apply Xg|apply Xh)|((with_reducible apply Xi);focus first|rfl|(simp [go_sem, *];done))|((with_reducible apply Xj);focus first|rfl|(simp [go_sem, *];done))|(simp only [Exit.then,Exit.inBlock,↓reduceIte,Nat.reduceEqDiff]))
  ((with_reducible apply Xt (Below w1.heap.size w1)); (focus rfl); (focus (simp only [effAt]; simp [go_sem]; (with_reducible exact effUpon_enter (hS _ hB_l)))); (focus ((simp only [Xo,Xp,Xq,Xr,Xs];rfl))))
  intro w2 hs
  have Fw2 := Fw1.trans (Turn.of_below hs)
  replace hB_l := hB_l.below hs hB_l.lt
  replace hB_r := hB_r.below hs hB_r.lt
  clear hs Fw1
  clear hc_l; have hc_l := hB_l.cell
  clear hc_r; have hc_r := hB_r.cell
  repeat (first|(with_reducible first|apply Xa|apply Xb|apply Xc|apply Xd)|((with_reducible apply Xk);(focus rfl);(focus (simp [go_sem,effAt,↓IntWalk.iteOmega, *];(try go_ints);with_reducible first|exact Xm|exact Xn));focus (simp only [Xo,Xp,Xq,Xr,Xs];rfl))|((with_reducible apply Xl);(focus rfl);focus (simp only [Xo,Xp,Xq,Xr,Xs];rfl))|(with_reducible first|apply Xe|apply Xf|apply Xg|apply Xh)|((with_reducible apply Xi);focus first|rfl|(simp [go_sem, *];done))|((with_reducible apply Xj);focus first|rfl|(simp [go_sem, *];done))|(simp only [Exit.then,Exit.inBlock,↓reduceIte,Nat.reduceEqDiff]))
  ((with_reducible apply Xt (fun w' => Blk w' _ _ _ ∧ w2.grownBy w' (some _))); (focus rfl); (focus (simp only [effAt]; simp [go_sem]; (with_reducible exact effUpon_enter (hF _ hB_l)))); (focus ((simp only [Xo,Xp,Xq,Xr,Xs];rfl))))
  clear hc_l hB_l
  intro w3 hs
  obtain ⟨hB_l, hs⟩ := hs
  have Fw3 := Fw2.trans (Turn.of_grown hs (by first | exact .inl rfl | exact .inr (by omega)))
  replace hB_r := hB_r.grown hs (by intro hk; injection hk with hk; have := hB_r.lt; have := hB_l.lt; omega)
  clear hs Fw2
  clear hc_r; have hc_r := hB_r.cell
  have hc_l := hB_l.cell
  repeat (first|(with_reducible first|apply Xa|apply Xb|apply Xc|apply Xd)|((with_reducible apply Xk);(focus rfl);(focus (simp [go_sem,effAt,↓IntWalk.iteOmega, *];(try go_ints);with_reducible first|exact Xm|exact Xn));focus (simp only [Xo,Xp,Xq,Xr,Xs];rfl))|((with_reducible apply Xl);(focus rfl);focus (simp only [Xo,Xp,Xq,Xr,Xs];rfl))|(with_reducible first|apply Xe|apply Xf|apply Xg|apply Xh)|((with_reducible apply Xi);focus first|rfl|(simp [go_sem, *];done))|((with_reducible apply Xj);focus first|rfl|(simp [go_sem, *];done))|(simp only [Exit.then,Exit.inBlock,↓reduceIte,Nat.reduceEqDiff]))
  have hf_r := hB_r.frozen
  ((with_reducible apply Xt (fun w' => Blk w' _ _ _ ∧ w3.grownBy w' (some _))); (focus rfl); (focus (simp [go_sem, effAt, *]; exact ⟨rfl, (((((hB_r.set_ 0 _).set_ 1 _).set_ 2 _).set_ 3 _).set_ 4 _), (grown_set (grown_set (grown_set (grown_set (grown_set (World.grownBy.refl _ _))))))⟩)); (focus ((simp only [Xo,Xp,Xq,Xr,Xs];rfl))))
  clear hf_r hc_r hB_r
  intro w4 hs
  obtain ⟨hB_r, hs⟩ := hs
  simp only [Xq,Xr,Xs] at hB_r
  have Fw4 := Fw3.trans (Turn.of_grown hs (by first | exact .inl rfl | exact .inr (by omega)))
  replace hB_l := hB_l.grown hs (by intro hk; injection hk with hk; have := hB_l.lt; have := hB_r.lt; omega)
  clear hs Fw3
  clear hc_l; have hc_l := hB_l.cell
  have hc_r := hB_r.cell
  repeat (first|(with_reducible first|apply Xa|apply Xb|apply Xc|apply Xd)|((with_reducible apply Xk);(focus rfl);(focus (simp [go_sem,effAt,↓IntWalk.iteOmega, *];(try go_ints);with_reducible first|exact Xm|exact Xn));focus (simp only [Xo,Xp,Xq,Xr,Xs];rfl))|((with_reducible apply Xl);(focus rfl);focus (simp only [Xo,Xp,Xq,Xr,Xs];rfl))|(with_reducible first|apply Xe|apply Xf|apply Xg|apply Xh)|((with_reducible apply Xi);focus first|rfl|(simp [go_sem, *];done))|((with_reducible apply Xj);focus first|rfl|(simp [go_sem, *];done))|(simp only [Exit.then,Exit.inBlock,↓reduceIte,Nat.reduceEqDiff]))
  refine bodyPost_ret (v := (actV k1 c1 p1 t1 f1)) (by simp [results, Try.results28, go_sem, *]) rfl ⟨rfl, hB_l, Turn.to_grown (by assumption)⟩
theorem does_4 (g : Nat) (ls : Bool) (tr mo : Int) (v : Value) {s2 tr2 mo2 k1 t1 f1 : Int} {c1 p1 ls2 : Bool} (w : World) (hB_l : LB w g 4 ls tr mo)
    (hF : ∀ w, LB w g 4 ls tr mo → Calls Try.prog 37 #[.pointer (some ⟨g, 0, none⟩), v] w (Ret (actV k1 c1 p1 t1 f1) fun w' => LB w' g s2 ls2 tr2 mo2 ∧ w.grownBy w' (some g))) :
    Calls Try.prog 28 #[.pointer (some ⟨g, 0, none⟩), v] w (Ret (actV k1 c1 p1 t1 f1) fun w' => LB w' g s2 ls2 tr2 mo2 ∧ w.grownBy w' (some g)) := by
  have hS := fun w h => state_any g 4 ls tr mo w h
  unfold LB at *
  go_enter Try.func28, Try.ntmps28
  have F0 : Turn (fun i => i = g ∨ w.heap.size ≤ i) w w := Turn.refl _
  have hc_l := hB_l.cell
  repeat (first|(with_reducible first|apply Xa|apply Xb|apply Xc|apply Xd)|((with_reducible apply Xk);(focus rfl);(focus (simp [go_sem,effAt,↓IntWalk.iteOmega, *];(try go_ints);with_reducible first|exact Xm|exact Xn));focus (simp only [Xo,Xp,Xq,Xr,Xs];rfl))|((with_reducible apply Xl);(focus rfl);focus (simp only [Xo,Xp,Xq,Xr,Xs];rfl))|(with_reducible first|apply Xe|apply Xf|apply Xg|apply Xh)|((with_reducible apply Xi);focus first|rfl|(simp [go_sem, *];done))|((with_reducible apply Xj);focus first|rfl|(simp [go_sem, *];done))|(simp only [Exit.then,Exit.inBlock,↓reduceIte,Nat.reduceEqDiff]))
  have lt_l_r := hB_l.lt
  have le_r := F0.size
  ((with_reducible apply Xu); (focus rfl); (focus (simp [go_sem, effAt]; exact ⟨rfl, rfl⟩)); (focus ((simp only [Xo,Xp,Xq,Xr,Xs];rfl))))
  intro w1 hB_r hs
  have Fw1 := F0.trans (Turn.of_below hs)
  replace hB_l := hB_l.below hs hB_l.lt
  clear hs F0
  clear hc_l; have hc_l := hB_l.cell
  have hc_r := hB_r.cell
  repeat (first|(with_reducible first|apply Xa|apply Xb|apply Xc|apply Xd)|((with_reducible apply Xk);(focus rfl);(focus (simp [go_sem,effAt,↓IntWalk.iteOmega, *];(try go_ints);with_reducible first|exact Xm|exact Xn));focus (simp only [Xo,Xp,Xq,Xr,Xs];rfl))|((with_reducible apply Xl);(focus rfl);focus (simp only [Xo,Xp,Xq,Xr,Xs];rfl))|(with_reducible first|apply Xe|apply Xf|apply Xg|apply Xh)|((with_reducible apply Xi);focus first|rfl|(simp [go_sem, *];done))|((with_reducible apply Xj);focus first|rfl|(simp [go_sem, *];done))|(simp only [Exit.then,Exit.inBlock,↓reduceIte,Nat.reduceEqDiff]))
  ((with_reducible apply Xt (Below w1.heap.size w1)); (focus rfl); (focus (simp only [effAt]; simp [go_sem]; (with_reducible exact effUpon_enter (hS _ hB_l)))); (focus ((simp only [Xo,Xp,Xq,Xr,Xs];rfl))))
  intro w2 hs
  have Fw2 := Fw1.trans (Turn.of_below hs)
  replace hB_l := hB_l.below hs hB_l.lt
  replace hB_r := hB_r.below hs hB_r.lt
  clear hs Fw1
  clear hc_l; have hc_l := hB_l.cell
  clear hc_r; have hc_r := hB_r.cell
  repeat (first|(with_reducible first|apply Xa|apply Xb|apply Xc|apply Xd)|((with_reducible apply Xk);(focus rfl);(focus (simp [go_sem,effAt,↓IntWalk.iteOmega, *];(try go_ints);with_reducible first|exact Xm|exact Xn));focus (simp only [Xo,Xp,Xq,Xr,Xs];rfl))|((with_reducible apply Xl);(focus rfl);focus (simp only [Xo,Xp,Xq,Xr,Xs];rfl))|(with_reducible first|apply Xe|apply Xf|apply Xg|apply Xh)|((with_reducible apply Xi);focus first|rfl|(simp [go_sem, *];done))|((with_reducible apply Xj);focus first|rfl|(simp [go_sem, *];done))|(simp only [Exit.then,Exit.inBlock,↓reduceIte,Nat.reduceEqDiff]))
  ((with_reducible apply Xt (fun w' => Blk w' _ _ _ ∧ w2.grownBy w' (some _))); (focus rfl); (focus (simp only [effAt]; simp [go_sem]; (with_reducible exact effUpon_enter (hF _ hB_l)))); (focus ((simp only [Xo,Xp,Xq,Xr,Xs];rfl))))
  clear hc_l hB_l
  intro w3 hs
  obtain ⟨hB_l, hs⟩ := hs
  have Fw3 := Fw2.trans (Turn.of_grown hs (by first | exact .inl rfl | exact .inr (by omega)))
  replace hB_r := hB_r.grown hs (by intro hk; injection hk with hk; have := hB_r.lt; have := hB_l.lt; omega)
  clear hs Fw2
  clear hc_r; have hc_r := hB_r.cell
  have hc_l := hB_l.cell
  repeat (first|(with_reducible first|apply Xa|apply Xb|apply Xc|apply Xd)|((with_reducible apply Xk);(focus rfl);(focus (simp [go_sem,effAt,↓IntWalk.iteOmega, *];(try go_ints);with_reducible first|exact Xm|exact Xn));focus (simp only [Xo,Xp,Xq,Xr,Xs];rfl))|((with_reducible apply Xl);(focus rfl);focus (simp only [Xo,Xp,Xq,Xr,Xs];rfl))|(with_reducible first|apply Xe|apply Xf|apply Xg|apply Xh)|((with_reducible apply Xi);focus first|rfl|(simp [go_sem, *];done))|((with_reducible apply Xj);focus first|rfl|(simp [go_sem, *];done))|(simp only [Exit.then,Exit.inBlock,↓reduceIte,Nat.reduceEqDiff]))
  have hf_r := hB_r.frozen
  ((with_reducible apply Xt (fun w' => Blk w' _ _ _ ∧ w3.grownBy w' (some _))); (focus rfl); (focus (simp [go_sem, effAt, *]; exact ⟨rfl, (((((hB_r.set_ 0 _).set_ 1 _).set_ 2 _).set_ 3 _).set_ 4 _), (grown_set (grown_set (grown_set (grown_set (grown_set (World.grownBy.refl _ _))))))⟩)); (focus ((simp only [Xo,Xp,Xq,Xr,Xs];rfl))))
  clear hf_r hc_r hB_r
  intro w4 hs
  obtain ⟨hB_r, hs⟩ := hs
  simp only [Xq,Xr,Xs] at hB_r
  have Fw4 := Fw3.trans (Turn.of_grown hs (by first | exact .inl rfl | exact .inr (by omega)))
  replace hB_l := hB_l.grown hs (by intro hk; injection hk with hk; have := hB_l.lt; have := hB_r.lt; omega)
  clear hs Fw3
  clear hc_l; have hc_l := hB_l.cell
  have hc_r := hB_r.cell
  repeat (first|(with_reducible first|apply Xa|apply Xb|apply Xc|apply Xd)|((with_reducible apply Xk);(focus rfl);(focus (simp [go_sem,effAt,↓IntWalk.iteOmega, *];(try go_ints);with_reducible first|exact Xm|exact Xn));focus (simp only [Xo,Xp,Xq,Xr,Xs];rfl))|((with_reducible apply Xl);(focus rfl);focus (simp only [Xo,Xp,Xq,Xr,Xs];rfl))|(with_reducible first|apply Xe|apply Xf|apply Xg|apply Xh)|((with_reducible apply Xi);focus first|rfl|(simp [go_sem, *];done))|((with_reducible apply Xj);focus first|rfl|(simp [go_sem, *];done))|(simp only [Exit.then,Exit.inBlock,↓reduceIte,Nat.reduceEqDiff]))
  refine bodyPost_ret (v := (actV k1 c1 p1 t1 f1)) (by simp [results, Try.results28, go_sem, *]) rfl ⟨rfl, hB_l, Turn.to_grown (by assumption)⟩
theorem does_nil (v : Value) (w : World) : Calls Try.prog 28 #[.pointer none, v] w (Ret (actV 0 false false 0 0) (Below w.heap.size w)) := by
  go_enter Try.func28, Try.ntmps28
  have F0 : Below w.heap.size w w := Below.refl _ _
  repeat (first|(with_reducible first|apply Xa|apply Xb|apply Xc|apply Xd)|((with_reducible apply Xk);(focus rfl);(focus (simp [go_sem,effAt,↓IntWalk.iteOmega, *];(try go_ints);with_reducible first|exact Xm|exact Xn));focus (simp only [Xo,Xp,Xq,Xr,Xs];rfl))|((with_reducible apply Xl);(focus rfl);focus (simp only [Xo,Xp,Xq,Xr,Xs];rfl))|(with_reducible first|apply Xe|apply Xf|apply Xg|apply Xh)|((with_reducible apply Xi);focus first|rfl|(simp [go_sem, *];done))|((with_reducible apply Xj);focus first|rfl|(simp [go_sem, *];done))|(simp only [Exit.then,Exit.inBlock,↓reduceIte,Nat.reduceEqDiff]))
  ((with_reducible apply Xu); (focus rfl); (focus (simp [go_sem, effAt]; exact ⟨rfl, rfl⟩)); (focus ((simp only [Xo,Xp,Xq,Xr,Xs];rfl))))
  intro w1 hB_r hs
  have Fw1 := F0.trans (hs.mono F0.size)
  clear hs F0
  have hc_r := hB_r.cell
  repeat (first|(with_reducible first|apply Xa|apply Xb|apply Xc|apply Xd)|((with_reducible apply Xk);(focus rfl);(focus (simp [go_sem,effAt,↓IntWalk.iteOmega, *];(try go_ints);with_reducible first|exact Xm|exact Xn));focus (simp only [Xo,Xp,Xq,Xr,Xs];rfl))|((with_reducible apply Xl);(focus rfl);focus (simp only [Xo,Xp,Xq,Xr,Xs];rfl))|(with_reducible first|apply Xe|apply Xf|apply Xg|apply Xh)|((with_reducible apply Xi);focus first|rfl|(simp [go_sem, *];done))|((with_reducible apply Xj);focus first|rfl|(simp [go_sem, *];done))|(simp only [Exit.then,Exit.inBlock,↓reduceIte,Nat.reduceEqDiff]))
  ((with_reducible apply Xt (Below w1.heap.size w1)); (focus rfl); (focus (simp only [effAt]; simp [go_sem]; (with_reducible exact effUpon_enter (state_nil _)))); (focus ((simp only [Xo,Xp,Xq,Xr,Xs];rfl))))
  intro w2 hs
  have Fw2 := Fw1.trans (hs.mono Fw1.size)
  replace hB_r := hB_r.below hs hB_r.lt
  clear hs Fw1
  clear hc_r; have hc_r := hB_r.cell
  repeat (first|(with_reducible first|apply Xa|apply Xb|apply Xc|apply Xd)|((with_reducible apply Xk);(focus rfl);(focus (simp [go_sem,effAt,↓IntWalk.iteOmega, *];(try go_ints);with_reducible first|exact Xm|exact Xn));focus (simp only [Xo,Xp,Xq,Xr,Xs];rfl))|((with_reducible apply Xl);(focus rfl);focus (simp only [Xo,Xp,Xq,Xr,Xs];rfl))|(with_reducible first|apply Xe|apply Xf|apply Xg|apply Xh)|((with_reducible apply Xi);focus first|rfl|(simp [go_sem, *];done))|((with_reducible apply Xj);focus first|rfl|(simp [go_sem, *];done))|(simp only [Exit.then,Exit.inBlock,↓reduceIte,Nat.reduceEqDiff]))
  have hf_r := hB_r.frozen
  ((with_reducible apply Xt (fun w' => Blk w' _ _ _ ∧ w2.grownBy w' (some _))); (focus rfl); (focus (simp [go_sem, effAt, *]; exact ⟨rfl, (((((hB_r.set_ 0 _).set_ 1 _).set_ 2 _).set_ 3 _).set_ 4 _), (grown_set (grown_set (grown_set (grown_set (grown_set (World.grownBy.refl _ _))))))⟩)); (focus ((simp only [Xo,Xp,Xq,Xr,Xs];rfl))))
  clear hf_r hc_r hB_r
  intro w3 hs
  obtain ⟨hB_r, hs⟩ := hs
  simp only [Xq,Xr,Xs] at hB_r
  have Fw3 := Fw2.grown hs Fw2.size (by intro k hk; first | (injection hk with hk; subst hk; first | exact Nat.le_refl _ | exact Fw2.size | omega) | omega)
  clear hs Fw2
  have hc_r := hB_r.cell
  repeat (first|(with_reducible first|apply Xa|apply Xb|apply Xc|apply Xd)|((with_reducible apply Xk);(focus rfl);(focus (simp [go_sem,effAt,↓IntWalk.iteOmega, *];(try go_ints);with_reducible first|exact Xm|exact Xn));focus (simp only [Xo,Xp,Xq,Xr,Xs];rfl))|((with_reducible apply Xl);(focus rfl);focus (simp only [Xo,Xp,Xq,Xr,Xs];rfl))|(with_reducible first|apply Xe|apply Xf|apply Xg|apply Xh)|((with_reducible apply Xi);focus first|rfl|(simp [go_sem, *];done))|((with_reducible apply Xj);focus first|rfl|(simp [go_sem, *];done))|(simp only [Exit.then,Exit.inBlock,↓reduceIte,Nat.reduceEqDiff]))
  refine bodyPost_ret (v := (actV 0 false false 0 0)) (by simp [results, Try.results28, go_sem, *]) rfl ⟨rfl, by assumption⟩
theorem open_any (g : Nat) (s : Int) (ls : Bool) (tr mo : Int) {s2 tr2 mo2 k1 t1 f1 : Int} {c1 p1 ls2 : Bool} (w : World) (hB_l : LB w g s ls tr mo)
    (hF : ∀ w, LB w g s ls tr mo → Calls Try.prog 28 #[.pointer (some ⟨g, 0, none⟩), .iface 62 (.agg #[])] w (Ret (actV k1 c1 p1 t1 f1) fun w' => LB w' g s2 ls2 tr2 mo2 ∧ w.grownBy w' (some g))) :
    Calls Try.prog 18 #[.pointer (some ⟨g, 0, none⟩)] w (Ret (actV k1 c1 p1 t1 f1) fun w' => LB w' g s2 ls2 tr2 mo2 ∧ w.grownBy w' (some g)) := by
  unfold LB at *
  go_enter Try.func18, Try.ntmps18
  have F0 : Turn (fun i => i = g ∨ w.heap.size ≤ i) w w := Turn.refl _
  have hc_l := hB_l.cell
  repeat (first|(with_reducible first|apply Xa|apply Xb|apply Xc|apply Xd)|((with_reducible apply Xk);(focus rfl);(focus (simp [go_sem,effAt,↓IntWalk.iteOmega, *];(try go_ints);with_reducible first|exact Xm|exact Xn));focus (simp only [Xo,Xp,Xq,Xr,Xs];rfl))|((with_reducible apply Xl);(focus rfl);focus (simp only [Xo,Xp,Xq,Xr,Xs];rfl))|(with_reducible first|apply Xe|apply Xf|apply Xg|apply Xh)|((with_reducible apply Xi);focus first|rfl|(simp [go_sem, *];done))|((with_reducible apply Xj);focus first|rfl|(simp [go_sem, *];done))|(simp only [Exit.then,Exit.inBlock,↓reduceIte,Nat.reduceEqDiff]))
  have lt_l_r := hB_l.lt
  have le_r := F0.size
  ((with_reducible apply Xu); (focus rfl); (focus (simp [go_sem, effAt]; exact ⟨rfl, rfl⟩)); (focus ((simp only [Xo,Xp,Xq,Xr,Xs];rfl))))
  intro w1 hB_r hs
  have Fw1 := F0.trans (Turn.of_below hs)
  replace hB_l := hB_l.below hs hB_l.lt
  clear hs F0
  clear hc_l; have hc_l := hB_l.cell
  have hc_r := hB_r.cell
  repeat (first|(with_reducible first|apply Xa|apply Xb|apply Xc|apply Xd)|((with_reducible apply Xk);(focus rfl);(focus (simp [go_sem,effAt,↓IntWalk.iteOmega, *];(try go_ints);with_reducible first|exact Xm|exact Xn));focus (simp only [Xo,Xp,Xq,Xr,Xs];rfl))|((with_reducible apply Xl);(focus rfl);focus (simp only [Xo,Xp,Xq,Xr,Xs];rfl))|(with_reducible first|apply Xe|apply Xf|apply Xg|apply Xh)|((with_reducible apply Xi);focus first|rfl|(simp [go_sem, *];done))|((with_reducible apply Xj);focus first|rfl|(simp [go_sem, *];done))|(simp only [Exit.then,Exit.inBlock,↓reduceIte,Nat.reduceEqDiff]))
  ((with_reducible apply Xt (fun w' => Blk w' _ _ _ ∧ w1.grownBy w' (some _))); (focus rfl); (focus (simp only [effAt]; simp [go_sem]; (with_reducible exact effUpon_enter (hF _ hB_l)))); (focus ((simp only [Xo,Xp,Xq,Xr,Xs];rfl))))
  clear hc_l hB_l
  intro w2 hs
  obtain ⟨hB_l, hs⟩ := hs
  have Fw2 := Fw1.trans (Turn.of_grown hs (by first | exact .inl rfl | exact .inr (by omega)))
  replace hB_r := hB_r.grown hs (by intro hk; injection hk with hk; have := hB_r.lt; have := hB_l.lt; omega)
  clear hs Fw1
  clear hc_r; have hc_r := hB_r.cell
  have hc_l := hB_l.cell
  repeat (first|(with_reducible first|apply Xa|apply Xb|apply Xc|apply Xd)|((with_reducible apply Xk);(focus rfl);(focus (simp [go_sem,effAt,↓IntWalk.iteOmega, *];(try go_ints);with_reducible first|exact Xm|exact Xn));focus (simp only [Xo,Xp,Xq,Xr,Xs];rfl))|((with_reducible apply Xl);(focus rfl);focus (simp only [Xo,Xp,Xq,Xr,Xs];rfl))|(with_reducible first|apply Xe|apply Xf|apply Xg|apply Xh)|((with_reducible apply Xi);focus first|rfl|(simp [go_sem, *];done))|((with_reducible apply Xj);focus first|rfl|(simp [go_sem, *];done))|(simp only [Exit.then,Exit.inBlock,↓reduceIte,Nat.reduceEqDiff]))
  have hf_r := hB_r.frozen
  ((with_reducible apply Xt (fun w' => Blk w' _ _ _ ∧ w2.grownBy w' (some _))); (focus rfl); (focus (simp [go_sem, effAt, *]; exact ⟨rfl, (((((hB_r.set_ 0 _).set_ 1 _).set_ 2 _).set_ 3 _).set_ 4 _), (grown_set (grown_set (grown_set (grown_set (grown_set (World.grownBy.refl _ _))))))⟩)); (focus ((simp only [Xo,Xp,Xq,Xr,Xs];rfl))))
  clear hf_r hc_r hB_r
  intro w3 hs
  obtain ⟨hB_r, hs⟩ := hs
  simp only [Xq,Xr,Xs] at hB_r
  have Fw3 := Fw2.trans (Turn.of_grown hs (by first | exact .inl rfl | exact .inr (by omega)))
  replace hB_l := hB_l.grown hs (by intro hk; injection hk with hk; have := hB_l.lt; have := hB_r.lt; omega)
  clear hs Fw2
  clear hc_l; have hc_l := hB_l.cell
  have hc_r := hB_r.cell
  repeat (first|(with_reducible first|apply Xa|apply Xb|apply Xc|apply Xd)|((with_reducible apply Xk);(focus rfl);(focus (simp [go_sem,effAt,↓IntWalk.iteOmega, *];(try go_ints);with_reducible first|exact Xm|exact Xn));focus (simp only [Xo,Xp,Xq,Xr,Xs];rfl))|((with_reducible apply Xl);(focus rfl);focus (simp only [Xo,Xp,Xq,Xr,Xs];rfl))|(with_reducible first|apply Xe|apply Xf|apply Xg|apply Xh)|((with_reducible apply Xi);focus first|rfl|(simp [go_sem, *];done))|((with_reducible apply Xj);focus first|rfl|(simp [go_sem, *];done))|(simp only [Exit.then,Exit.inBlock,↓reduceIte,Nat.reduceEqDiff]))
  refine bodyPost_ret (v := (actV k1 c1 p1 t1 f1)) (by simp [results, Try.results18, go_sem, *]) rfl ⟨rfl, hB_l, Turn.to_grown (by assumption)⟩
theorem open_nil (w : World) : Calls Try.prog 18 #[.pointer none] w (Ret (actV 0 false false 0 0) (Below w.heap.size w)) := by
  go_enter Try.func18, Try.ntmps18
  have F0 : Below w.heap.size w w := Below.refl _ _
  repeat (first|(with_reducible first|apply Xa|apply Xb|apply Xc|apply Xd)|((with_reducible apply Xk);(focus rfl);(focus (simp [go_sem,effAt,↓IntWalk.iteOmega, *];(try go_ints);with_reducible first|exact Xm|exact Xn));focus (simp only [Xo,Xp,Xq,Xr,Xs];rfl))|((with_reducible apply Xl);(focus rfl);focus (simp only [Xo,Xp,Xq,Xr,Xs];rfl))|(with_reducible first|apply Xe|apply Xf|apply Xg|apply Xh)|((with_reducible apply Xi);focus first|rfl|(simp [go_sem, *];done))|((with_reducible apply Xj);focus first|rfl|(simp [go_sem, *];done))|(simp only [Exit.then,Exit.inBlock,↓reduceIte,Nat.reduceEqDiff]))
  ((with_reducible apply Xu); (focus rfl); (focus (simp [go_sem, effAt]; exact ⟨rfl, rfl⟩)); (focus ((simp only [Xo,Xp,Xq,Xr,Xs];rfl))))
  intro w1 hB_r hs
  have Fw1 := F0.trans (hs.mono F0.size)
  clear hs F0
  have hc_r := hB_r.cell
  repeat (first|(with_reducible first|apply Xa|apply Xb|apply Xc|apply Xd)|((with_reducible apply Xk);(focus rfl);(focus (simp [go_sem,effAt,↓IntWalk.iteOmega, *];(try go_ints);with_reducible first|exact Xm|exact Xn));focus (simp only [Xo,Xp,Xq,Xr,Xs];rfl))|((with_reducible apply Xl);(focus rfl);focus (simp only [Xo,Xp,Xq,Xr,Xs];rfl))|(with_reducible first|apply Xe|apply Xf|apply Xg|apply Xh)|((with_reducible apply Xi);focus first|rfl|(simp [go_sem, *];done))|((with_reducible apply Xj);focus first|rfl|(simp [go_sem, *];done))|(simp only [Exit.then,Exit.inBlock,↓reduceIte,Nat.reduceEqDiff]))
  ((with_reducible apply Xt (Below w1.heap.size w1)); (focus rfl); (focus (simp only [effAt]; simp [go_sem]; (with_reducible exact effUpon_enter (does_nil _ _)))); (focus ((simp only [Xo,Xp,Xq,Xr,Xs];rfl))))
  intro w2 hs
  have Fw2 := Fw1.trans (hs.mono Fw1.size)
  replace hB_r := hB_r.below hs hB_r.lt
  clear hs Fw1
  clear hc_r; have hc_r := hB_r.cell
  repeat (first|(with_reducible first|apply Xa|apply Xb|apply Xc|apply Xd)|((with_reducible apply Xk);(focus rfl);(focus (simp [go_sem,effAt,↓IntWalk.iteOmega, *];(try go_ints);with_reducible first|exact Xm|exact Xn));focus (simp only [Xo,Xp,Xq,Xr,Xs];rfl))|((with_reducible apply Xl);(focus rfl);focus (simp only [Xo,Xp,Xq,Xr,Xs];rfl))|(with_reducible first|apply Xe|apply Xf|apply Xg|apply Xh)|((with_reducible apply Xi);focus first|rfl|(simp [go_sem, *];done))|((with_reducible apply Xj);focus first|rfl|(simp [go_sem, *];done))|(simp only [Exit.then,Exit.inBlock,↓reduceIte,Nat.reduceEqDiff]))
  have hf_r := hB_r.frozen
  ((with_reducible apply Xt (fun w' => Blk w' _ _ _ ∧ w2.grownBy w' (some _))); (focus rfl); (focus (simp [go_sem, effAt, *]; exact ⟨rfl, (((((hB_r.set_ 0 _).set_ 1 _).set_ 2 _).set_ 3 _).set_ 4 _), (grown_set (grown_set (grown_set (grown_set (grown_set (World.grownBy.refl _ _))))))⟩)); (focus ((simp only [Xo,Xp,Xq,Xr,Xs];rfl))))
  clear hf_r hc_r hB_r
  intro w3 hs
  obtain ⟨hB_r, hs⟩ := hs
  simp only [Xq,Xr,Xs] at hB_r
  have Fw3 := Fw2.grown hs Fw2.size (by intro k hk; first | (injection hk with hk; subst hk; first | exact Nat.le_refl _ | exact Fw2.size | omega) | omega)
  clear hs Fw2
  have hc_r := hB_r.cell
  repeat (first|(with_reducible first|apply Xa|apply Xb|apply Xc|apply Xd)|((with_reducible apply Xk);(focus rfl);(focus (simp [go_sem,effAt,↓IntWalk.iteOmega, *];(try go_ints);with_reducible first|exact Xm|exact Xn));focus (simp only [Xo,Xp,Xq,Xr,Xs];rfl))|((with_reducible apply Xl);(focus rfl);focus (simp only [Xo,Xp,Xq,Xr,Xs];rfl))|(with_reducible first|apply Xe|apply Xf|apply Xg|apply Xh)|((with_reducible apply Xi);focus first|rfl|(simp [go_sem, *];done))|((with_reducible apply Xj);focus first|rfl|(simp [go_sem, *];done))|(simp only [Exit.then,Exit.inBlock,↓reduceIte,Nat.reduceEqDiff]))
  refine bodyPost_ret (v := (actV 0 false false 0 0)) (by simp [results, Try.results18, go_sem, *]) rfl ⟨rfl, by assumption⟩
theorem close_any (g : Nat) (s : Int) (ls : Bool) (tr mo : Int) {s2 tr2 mo2 k1 t1 f1 : Int} {c1 p1 ls2 : Bool} (w : World) (hB_l : LB w g s ls tr mo)
    (hF : ∀ w, LB w g s ls tr mo → Calls Try.prog 28 #[.pointer (some ⟨g, 0, none⟩), .iface 63 (.agg #[])] w (Ret (actV k1 c1 p1 t1 f1) fun w' => LB w' g s2 ls2 tr2 mo2 ∧ w.grownBy w' (some g))) :
    Calls Try.prog 20 #[.pointer (some ⟨g, 0, none⟩)] w (Ret (actV k1 c1 p1 t1 f1) fun w' => LB w' g s2 ls2 tr2 mo2 ∧ w.grownBy w' (some g)) := by
  unfold LB at *
  go_enter Try.func20, Try.ntmps20
  have F0 : Turn (fun i => i = g ∨ w.heap.size ≤ i) w w := Turn.refl _
  have hc_l := hB_l.cell
  repeat (first|(with_reducible first|apply Xa|apply Xb|apply Xc|apply Xd)|((with_reducible apply Xk);(focus rfl);(focus (simp [go_sem,effAt,↓IntWalk.iteOmega, *];(try go_ints);with_reducible first|exact Xm|exact Xn));focus (simp only [Xo,Xp,Xq,Xr,Xs];rfl))|((with_reducible apply Xl);(focus rfl);focus (simp only [Xo,Xp,Xq,Xr,Xs];rfl))|(with_reducible first|apply Xe|apply Xf|apply Xg|apply Xh)|((with_reducible apply Xi);focus first|rfl|(simp [go_sem, *];done))|((with_reducible apply Xj);focus first|rfl|(simp [go_sem, *];done))|(simp only [Exit.then,Exit.inBlock,↓reduceIte,Nat.reduceEqDiff]))
  have lt_l_r := hB_l.lt
  have le_r := F0.size
  ((with_reducible apply Xu); (focus rfl); (focus (simp [go_sem, effAt]; exact ⟨rfl, rfl⟩)); (focus ((simp only [Xo,Xp,Xq,Xr,Xs];rfl))))
  intro w1 hB_r hs
  have Fw1 := F0.trans (Turn.of_below hs)
  replace hB_l := hB_l.below hs hB_l.lt
  clear hs F0
  clear hc_l; have hc_l := hB_l.cell
  have hc_r := hB_r.cell
  repeat (first|(with_reducible first|apply Xa|apply Xb|apply Xc|apply Xd)|((with_reducible apply Xk);(focus rfl);(focus (simp [go_sem,effAt,↓IntWalk.iteOmega, *];(try go_ints);with_reducible first|exact Xm|exact Xn));focus (simp only [Xo,Xp,Xq,Xr,Xs];rfl))|((with_reducible apply Xl);(focus rfl);focus (simp only [Xo,Xp,Xq,Xr,Xs];rfl))|(with_reducible first|apply Xe|apply Xf|apply Xg|apply Xh)|((with_reducible apply Xi);focus first|rfl|(simp [go_sem, *];done))|((with_reducible apply Xj);focus first|rfl|(simp [go_sem, *];done))|(simp only [Exit.then,Exit.inBlock,↓reduceIte,Nat.reduceEqDiff]))
  ((with_reducible apply Xt (fun w' => Blk w' _ _ _ ∧ w1.grownBy w' (some _))); (focus rfl); (focus (simp only [effAt]; simp [go_sem]; (with_reducible exact effUpon_enter (hF _ hB_l)))); (focus ((simp only [Xo,Xp,Xq,Xr,Xs];rfl))))
  clear hc_l hB_l
  intro w2 hs
  obtain ⟨hB_l, hs⟩ := hs
  have Fw2 := Fw1.trans (Turn.of_grown hs (by first | exact .inl rfl | exact .inr (by omega)))
  replace hB_r := hB_r.grown hs (by intro hk; injection hk with hk; have := hB_r.lt; have := hB_l.lt; omega)
  clear hs Fw1
  clear hc_r; have hc_r := hB_r.cell
  have hc_l := hB_l.cell
  repeat (first|(with_reducible first|apply Xa|apply Xb|apply Xc|apply Xd)|((with_reducible apply Xk);(focus rfl);(focus (simp [go_sem,effAt,↓IntWalk.iteOmega, *];(try go_ints);with_reducible first|exact Xm|exact Xn));focus (simp only [Xo,Xp,Xq,Xr,Xs];rfl))|((with_reducible apply Xl);(focus rfl);focus (simp only [Xo,Xp,Xq,Xr,Xs];rfl))|(with_reducible first|apply Xe|apply Xf|apply Xg|apply Xh)|((with_reducible apply Xi);focus first|rfl|(simp [go_sem, *];done))|((with_reducible apply Xj);focus first|rfl|(simp [go_sem, *];done))|(simp only [Exit.then,Exit.inBlock,↓reduceIte,Nat.reduceEqDiff]))
  have hf_r := hB_r.frozen
  ((with_reducible apply Xt (fun w' => Blk w' _ _ _ ∧ w2.grownBy w' (some _))); (focus rfl); (focus (simp [go_sem, effAt, *]; exact ⟨rfl, (((((hB_r.set_ 0 _).set_ 1 _).set_ 2 _).set_ 3 _).set_ 4 _), (grown_set (grown_set (grown_set (grown_set (grown_set (World.grownBy.refl _ _))))))⟩)); (focus ((simp only [Xo,Xp,Xq,Xr,Xs];rfl))))
  clear hf_r hc_r hB_r
  intro w3 hs
  obtain ⟨hB_r, hs⟩ := hs
  simp only [Xq,Xr,Xs] at hB_r
  have Fw3 := Fw2.trans (Turn.of_grown hs (by first | exact .inl rfl | exact .inr (by omega)))
  replace hB_l := hB_l.grown hs (by intro hk; injection hk with hk; have := hB_l.lt; have := hB_r.lt; omega)
  clear hs Fw2
  clear hc_l; have hc_l := hB_l.cell
  have hc_r := hB_r.cell
  repeat (first|(with_reducible first|apply Xa|apply Xb|apply Xc|apply Xd)|((with_reducible apply Xk);(focus rfl);(focus (simp [go_sem,effAt,↓IntWalk.iteOmega, *];(try go_ints);with_reducible first|exact Xm|exact Xn));focus (simp only [Xo,Xp,Xq,Xr,Xs];rfl))|((with_reducible apply Xl);(focus rfl);focus (simp only [Xo,Xp,Xq,Xr,Xs];rfl))|(with_reducible first|apply Xe|apply Xf|apply Xg|apply Xh)|((with_reducible apply Xi);focus first|rfl|(simp [go_sem, *];done))|((with_reducible apply Xj);focus first|rfl|(simp [go_sem, *];done))|(simp only [Exit.then,Exit.inBlock,↓reduceIte,Nat.reduceEqDiff]))
  refine bodyPost_ret (v := (actV k1 c1 p1 t1 f1)) (by simp [results, Try.results20, go_sem, *]) rfl ⟨rfl, hB_l, Turn.to_grown (by assumption)⟩
theorem close_nil (w : World) : Calls Try.prog 20 #[.pointer none] w (Ret (actV 0 false false 0 0) (Below w.heap.size w)) := by
  go_enter Try.func20, Try.ntmps20
  have F0 : Below w.heap.size w w := Below.refl _ _
  repeat (first|(with_reducible first|apply Xa|apply Xb|apply Xc|apply Xd)|((with_reducible apply Xk);(focus rfl);(focus (simp [go_sem,effAt,↓IntWalk.iteOmega, *];(try go_ints);with_reducible first|exact Xm|exact Xn));focus (simp only [Xo,Xp,Xq,Xr,Xs];rfl))|((with_reducible apply Xl);(focus rfl);focus (simp only [Xo,Xp,Xq,Xr,Xs];rfl))|(with_reducible first|apply Xe|apply Xf|apply Xg|apply Xh)|((with_reducible apply Xi);focus first|rfl|(simp [go_sem, *];done))|((with_reducible apply Xj);focus first|rfl|(simp [go_sem, *];done))|(simp only [Exit.then,Exit.inBlock,↓reduceIte,Nat.reduceEqDiff]))
  ((with_reducible apply Xu); (focus rfl); (focus (simp [go_sem, effAt]; exact ⟨rfl, rfl⟩)); (focus ((simp only [Xo,Xp,Xq,Xr,Xs];rfl))))
  intro w1 hB_r hs
  have Fw1 := F0.trans (hs.mono F0.size)
  clear hs F0
  have hc_r := hB_r.cell
  repeat (first|(with_reducible first|apply Xa|apply Xb|apply Xc|apply Xd)|((with_reducible apply Xk);(focus rfl);(focus (simp [go_sem,effAt,↓IntWalk.iteOmega, *];(try go_ints);with_reducible first|exact Xm|exact Xn));focus (simp only [Xo,Xp,Xq,Xr,Xs];rfl))|((with_reducible apply Xl);(focus rfl);focus (simp only [Xo,Xp,Xq,Xr,Xs];rfl))|(with_reducible first|apply Xe|apply Xf|apply Xg|apply Xh)|((with_reducible apply Xi);focus first|rfl|(simp [go_sem, *];done))|((with_reducible apply Xj);focus first|rfl|(simp [go_sem, *];done))|(simp only [Exit.then,Exit.inBlock,↓reduceIte,Nat.reduceEqDiff]))
  ((with_reducible apply Xt (Below w1.heap.size w1)); (focus rfl); (focus (simp only [effAt]; simp [go_sem]; (with_reducible exact effUpon_enter (does_nil _ _)))); (focus ((simp only [Xo,Xp,Xq,Xr,Xs];rfl))))
  intro w2 hs
  have Fw2 := Fw1.trans (hs.mono Fw1.size)
  replace hB_r := hB_r.below hs hB_r.lt
  clear hs Fw1
  clear hc_r; have hc_r := hB_r.cell
  repeat (first|(with_reducible first|apply Xa|apply Xb|apply Xc|apply Xd)|((with_reducible apply Xk);(focus rfl);(focus (simp [go_sem,effAt,↓IntWalk.iteOmega, *];(try go_ints);with_reducible first|exact Xm|exact Xn));focus (simp only [Xo,Xp,Xq,Xr,Xs];rfl))|((with_reducible apply Xl);(focus rfl);focus (simp only [Xo,Xp,Xq,Xr,Xs];rfl))|(with_reducible first|apply Xe|apply Xf|apply Xg|apply Xh)|((with_reducible apply Xi);focus first|rfl|(simp [go_sem, *];done))|((with_reducible apply Xj);focus first|rfl|(simp [go_sem, *];done))|(simp only [Exit.then,Exit.inBlock,↓reduceIte,Nat.reduceEqDiff]))
  have hf_r := hB_r.frozen
  ((with_reducible apply Xt (fun w' => Blk w' _ _ _ ∧ w2.grownBy w' (some _))); (focus rfl); (focus (simp [go_sem, effAt, *]; exact ⟨rfl, (((((hB_r.set_ 0 _).set_ 1 _).set_ 2 _).set_ 3 _).set_ 4 _), (grown_set (grown_set (grown_set (grown_set (grown_set (World.grownBy.refl _ _))))))⟩)); (focus ((simp only [Xo,Xp,Xq,Xr,Xs];rfl))))
  clear hf_r hc_r hB_r
  intro w3 hs
  obtain ⟨hB_r, hs⟩ := hs
  simp only [Xq,Xr,Xs] at hB_r
  have Fw3 := Fw2.grown hs Fw2.size (by intro k hk; first | (injection hk with hk; subst hk; first | exact Nat.le_refl _ | exact Fw2.size | omega) | omega)
  clear hs Fw2
  have hc_r := hB_r.cell
  repeat (first|(with_reducible first|apply Xa|apply Xb|apply Xc|apply Xd)|((with_reducible apply Xk);(focus rfl);(focus (simp [go_sem,effAt,↓IntWalk.iteOmega, *];(try go_ints);with_reducible first|exact Xm|exact Xn));focus (simp only [Xo,Xp,Xq,Xr,Xs];rfl))|((with_reducible apply Xl);(focus rfl);focus (simp only [Xo,Xp,Xq,Xr,Xs];rfl))|(with_reducible first|apply Xe|apply Xf|apply Xg|apply Xh)|((with_reducible apply Xi);focus first|rfl|(simp [go_sem, *];done))|((with_reducible apply Xj);focus first|rfl|(simp [go_sem, *];done))|(simp only [Exit.then,Exit.inBlock,↓reduceIte,Nat.reduceEqDiff]))
  refine bodyPost_ret (v := (actV 0 false false 0 0)) (by simp [results, Try.results20, go_sem, *]) rfl ⟨rfl, by assumption⟩
theorem due_any (g : Nat) (s : Int) (ls : Bool) (tr mo : Int) {s2 tr2 mo2 k1 t1 f1 : Int} {c1 p1 ls2 : Bool} (w : World) (hB_l : LB w g s ls tr mo)
    (hF : ∀ w, LB w g s ls tr mo → Calls Try.prog 28 #[.pointer (some ⟨g, 0, none⟩), .iface 68 (.agg #[])] w (Ret (actV k1 c1 p1 t1 f1) fun w' => LB w' g s2 ls2 tr2 mo2 ∧ w.grownBy w' (some g))) :
    Calls Try.prog 22 #[.pointer (some ⟨g, 0, none⟩)] w (Ret (actV k1 c1 p1 t1 f1) fun w' => LB w' g s2 ls2 tr2 mo2 ∧ w.grownBy w' (some g)) := by
  unfold LB at *
  go_enter Try.func22, Try.ntmps22
  have F0 : Turn (fun i => i = g ∨ w.heap.size ≤ i) w w := Turn.refl _
  have hc_l := hB_l.cell
  repeat (first|(with_reducible first|apply Xa|apply Xb|apply Xc|apply Xd)|((with_reducible apply Xk);(focus rfl);(focus (simp [go_sem,effAt,↓IntWalk.iteOmega, *];(try go_ints);with_reducible first|exact Xm|exact Xn));focus (simp only [Xo,Xp,Xq,Xr,Xs];rfl))|((with_reducible apply Xl);(focus rfl);focus (simp only [Xo,Xp,Xq,Xr,Xs];rfl))|(with_reducible first|apply Xe|apply Xf|apply Xg|apply Xh)|((with_reducible apply Xi);focus first|rfl|(simp [go_sem, *];done))|((with_reducible apply Xj);focus first|rfl|(simp [go_sem, *];done))|(simp only [Exit.then,Exit.inBlock,↓reduceIte,Nat.reduceEqDiff]))
  have lt_l_r := hB_l.lt
  have le_r := F0.size
  ((with_reducible apply Xu); (focus rfl); (focus (simp [go_sem, effAt]; exact ⟨rfl, rfl⟩)); (focus ((simp only [Xo,Xp,Xq,Xr,Xs];rfl))))
  intro w1 hB_r hs
  have Fw1 := F0.trans (Turn.of_below hs)
  replace hB_l := hB_l.below hs hB_l.lt
  clear hs F0
  clear hc_l; have hc_l := hB_l.cell
  have hc_r := hB_r.cell
  repeat (first|(with_reducible first|apply Xa|apply Xb|apply Xc|apply Xd)|((with_reducible apply Xk);(focus rfl);(focus (simp [go_sem,effAt,↓IntWalk.iteOmega, *];(try go_ints);with_reducible first|exact Xm|exact Xn));focus (simp only [Xo,Xp,Xq,Xr,Xs];rfl))|((with_reducible apply Xl);(focus rfl);focus (simp only [Xo,Xp,Xq,Xr,Xs];rfl))|(with_reducible first|apply Xe|apply Xf|apply Xg|apply Xh)|((with_reducible apply Xi);focus first|rfl|(simp [go_sem, *];done))|((with_reducible apply Xj);focus first|rfl|(simp [go_sem, *];done))|(simp only [Exit.then,Exit.inBlock,↓reduceIte,Nat.reduceEqDiff]))
  ((with_reducible apply Xt (fun w' => Blk w' _ _ _ ∧ w1.grownBy w' (some _))); (focus rfl); (focus (simp only [effAt]; simp [go_sem]; (with_reducible exact effUpon_enter (hF _ hB_l)))); (focus ((simp only [Xo,Xp,Xq,Xr,Xs];rfl))))
  clear hc_l hB_l
  intro w2 hs
  obtain ⟨hB_l, hs⟩ := hs
  have Fw2 := Fw1.trans (Turn.of_grown hs (by first | exact .inl rfl | exact .inr (by omega)))
  replace hB_r := hB_r.grown hs (by intro hk; injection hk with hk; have := hB_r.lt; have := hB_l.lt; omega)
  clear hs Fw1
  clear hc_r; have hc_r := hB_r.cell
  have hc_l := hB_l.cell
  repeat (first|(with_reducible first|apply Xa|apply Xb|apply Xc|apply Xd)|((with_reducible apply Xk);(focus rfl);(focus (simp [go_sem,effAt,↓IntWalk.iteOmega, *];(try go_ints);with_reducible first|exact Xm|exact Xn));focus (simp only [Xo,Xp,Xq,Xr,Xs];rfl))|((with_reducible apply Xl);(focus rfl);focus (simp only [Xo,Xp,Xq,Xr,Xs];rfl))|(with_reducible first|apply Xe|apply Xf|apply Xg|apply Xh)|((with_reducible apply Xi);focus first|rfl|(simp [go_sem, *];done))|((with_reducible apply Xj);focus first|rfl|(simp [go_sem, *];done))|(simp only [Exit.then,Exit.inBlock,↓reduceIte,Nat.reduceEqDiff]))
  have hf_r := hB_r.frozen
  ((with_reducible apply Xt (fun w' => Blk w' _ _ _ ∧ w2.grownBy w' (some _))); (focus rfl); (focus (simp [go_sem, effAt, *]; exact ⟨rfl, (((((hB_r.set_ 0 _).set_ 1 _).set_ 2 _).set_ 3 _).set_ 4 _), (grown_set (grown_set (grown_set (grown_set (grown_set (World.grownBy.refl _ _))))))⟩)); (focus ((simp only [Xo,Xp,Xq,Xr,Xs];rfl))))
  clear hf_r hc_r hB_r
  intro w3 hs
  obtain ⟨hB_r, hs⟩ := hs
  simp only [Xq,Xr,Xs] at hB_r
  have Fw3 := Fw2.trans (Turn.of_grown hs (by first | exact .inl rfl | exact .inr (by omega)))
  replace hB_l := hB_l.grown hs (by intro hk; injection hk with hk; have := hB_l.lt; have := hB_r.lt; omega)
  clear hs Fw2
  clear hc_l; have hc_l := hB_l.cell
  have hc_r := hB_r.cell
  repeat (first|(with_reducible first|apply Xa|apply Xb|apply Xc|apply Xd)|((with_reducible apply Xk);(focus rfl);(focus (simp [go_sem,effAt,↓IntWalk.iteOmega, *];(try go_ints);with_reducible first|exact Xm|exact Xn));focus (simp only [Xo,Xp,Xq,Xr,Xs];rfl))|((with_reducible apply Xl);(focus rfl);focus (simp only [Xo,Xp,Xq,Xr,Xs];rfl))|(with_reducible first|apply Xe|apply Xf|apply Xg|apply Xh)|((with_reducible apply Xi);focus first|rfl|(simp [go_sem, *];done))|((with_reducible apply Xj);focus first|rfl|(simp [go_sem, *];done))|(simp only [Exit.then,Exit.inBlock,↓reduceIte,Nat.reduceEqDiff]))
  refine bodyPost_ret (v := (actV k1 c1 p1 t1 f1)) (by simp [results, Try.results22, go_sem, *]) rfl ⟨rfl, hB_l, Turn.to_grown (by assumption)⟩
theorem due_nil (w : World) : Calls Try.prog 22 #[.pointer none] w (Ret (actV 0 false false 0 0) (Below w.heap.size w)) := by
  go_enter Try.func22, Try.ntmps22
  have F0 : Below w.heap.size w w := Below.refl _ _
  repeat (first|(with_reducible first|apply Xa|apply Xb|apply Xc|apply Xd)|((with_reducible apply Xk);(focus rfl);(focus (simp [go_sem,effAt,↓IntWalk.iteOmega, *];(try go_ints);with_reducible first|exact Xm|exact Xn));focus (simp only [Xo,Xp,Xq,Xr,Xs];rfl))|((with_reducible apply Xl);(focus rfl);focus (simp only [Xo,Xp,Xq,Xr,Xs];rfl))|(with_reducible first|apply Xe|apply Xf|apply Xg|apply Xh)|((with_reducible apply Xi);focus first|rfl|(simp [go_sem, *];done))|((with_reducible apply Xj);focus first|rfl|(simp [go_sem, *];done))|(simp only [Exit.then,Exit.inBlock,↓reduceIte,Nat.reduceEqDiff]))
  ((with_reducible apply Xu); (focus rfl); (focus (simp [go_sem, effAt]; exact ⟨rfl, rfl⟩)); (focus ((simp only [Xo,Xp,Xq,Xr,Xs];rfl))))
  intro w1 hB_r hs
  have Fw1 := F0.trans (hs.mono F0.size)
  clear hs F0
  have hc_r := hB_r.cell
  repeat (first|(with_reducible first|apply Xa|apply Xb|apply Xc|apply Xd)|((with_reducible apply Xk);(focus rfl);(focus (simp [go_sem,effAt,↓IntWalk.iteOmega, *];(try go_ints);with_reducible first|exact Xm|exact Xn));focus (simp only [Xo,Xp,Xq,Xr,Xs];rfl))|((with_reducible apply Xl);(focus rfl);focus (simp only [Xo,Xp,Xq,Xr,Xs];rfl))|(with_reducible first|apply Xe|apply Xf|apply Xg|apply Xh)|((with_reducible apply Xi);focus first|rfl|(simp [go_sem, *];done))|((with_reducible apply Xj);focus first|rfl|(simp [go_sem, *];done))|(simp only [Exit.then,Exit.inBlock,↓reduceIte,Nat.reduceEqDiff]))
  ((with_reducible apply Xt (Below w1.heap.size w1)); (focus rfl); (focus (simp only [effAt]; simp [go_sem]; (with_reducible exact effUpon_enter (does_nil _ _)))); (focus ((simp only [Xo,Xp,Xq,Xr,Xs];rfl))))
  intro w2 hs
  have Fw2 := Fw1.trans (hs.mono Fw1.size)
  replace hB_r := hB_r.below hs hB_r.lt
  clear hs Fw1
  clear hc_r; have hc_r := hB_r.cell
  repeat (first|(with_reducible first|apply Xa|apply Xb|apply Xc|apply Xd)|((with_reducible apply Xk);(focus rfl);(focus (simp [go_sem,effAt,↓IntWalk.iteOmega, *];(try go_ints);with_reducible first|exact Xm|exact Xn));focus (simp only [Xo,Xp,Xq,Xr,Xs];rfl))|((with_reducible apply Xl);(focus rfl);focus (simp only [Xo,Xp,Xq,Xr,Xs];rfl))|(with_reducible first|apply Xe|apply Xf|apply Xg|apply Xh)|((with_reducible apply Xi);focus first|rfl|(simp [go_sem, *];done))|((with_reducible apply Xj);focus first|rfl|(simp [go_sem, *];done))|(simp only [Exit.then,Exit.inBlock,↓reduceIte,Nat.reduceEqDiff]))
  have hf_r := hB_r.frozen
  ((with_reducible apply Xt (fun w' => Blk w' _ _ _ ∧ w2.grownBy w' (some _))); (focus rfl); (focus (simp [go_sem, effAt, *]; exact ⟨rfl, (((((hB_r.set_ 0 _).set_ 1 _).set_ 2 _).set_ 3 _).set_ 4 _), (grown_set (grown_set (grown_set (grown_set (grown_set (World.grownBy.refl _ _))))))⟩)); (focus ((simp only [Xo,Xp,Xq,Xr,Xs];rfl))))
  clear hf_r hc_r hB_r
  intro w3 hs
  obtain ⟨hB_r, hs⟩ := hs
  simp only [Xq,Xr,Xs] at hB_r
  have Fw3 := Fw2.grown hs Fw2.size (by intro k hk; first | (injection hk with hk; subst hk; first | exact Nat.le_refl _ | exact Fw2.size | omega) | omega)
  clear hs Fw2
  have hc_r := hB_r.cell
  repeat (first|(with_reducible first|apply Xa|apply Xb|apply Xc|apply Xd)|((with_reducible apply Xk);(focus rfl);(focus (simp [go_sem,effAt,↓IntWalk.iteOmega, *];(try go_ints);with_reducible first|exact Xm|exact Xn));focus (simp only [Xo,Xp,Xq,Xr,Xs];rfl))|((with_reducible apply Xl);(focus rfl);focus (simp only [Xo,Xp,Xq,Xr,Xs];rfl))|(with_reducible first|apply Xe|apply Xf|apply Xg|apply Xh)|((with_reducible apply Xi);focus first|rfl|(simp [go_sem, *];done))|((with_reducible apply Xj);focus first|rfl|(simp [go_sem, *];done))|(simp only [Exit.then,Exit.inBlock,↓reduceIte,Nat.reduceEqDiff]))
  refine bodyPost_ret (v := (actV 0 false false 0 0)) (by simp [results, Try.results22, go_sem, *]) rfl ⟨rfl, by assumption⟩
theorem listen_any (g : Nat) (s : Int) (ls b : Bool) (tr mo : Int) (w : World) (hB_l : LB w g s ls tr mo) :
    Calls Try.prog 16 #[.pointer (some ⟨g, 0, none⟩), .bool b] w (Ret (.tuple #[]) fun w' => LB w' g s b tr mo ∧ w.grownBy w' (some g)) := by
  unfold LB at *
  go_enter Try.func16, Try.ntmps16
  have F0 : Turn (fun i => i = g ∨ w.heap.size ≤ i) w w := Turn.refl _
  have hc_l := hB_l.cell
  repeat (first|(with_reducible first|apply Xa|apply Xb|apply Xc|apply Xd)|((with_reducible apply Xk);(focus rfl);(focus (simp [go_sem,effAt,↓IntWalk.iteOmega, *];(try go_ints);with_reducible first|exact Xm|exact Xn));focus (simp only [Xo,Xp,Xq,Xr,Xs];rfl))|((with_reducible apply Xl);(focus rfl);focus (simp only [Xo,Xp,Xq,Xr,Xs];rfl))|(with_reducible first|apply Xe|apply Xf|apply Xg|apply Xh)|((with_reducible apply Xi);focus first|rfl|(simp [go_sem, *];done))|((with_reducible apply Xj);focus first|rfl|(simp [go_sem, *];done))|(simp only [Exit.then,Exit.inBlock,↓reduceIte,Nat.reduceEqDiff]))
  have hf_l := hB_l.frozen
  ((with_reducible apply Xt (fun w' => Blk w' _ _ _ ∧ w.grownBy w' (some _))); (focus rfl); (focus (simp [go_sem, effAt, *]; exact ⟨rfl, (hB_l.set_ 1 _), (grown_set (World.grownBy.refl _ _))⟩)); (focus ((simp only [Xo,Xp,Xq,Xr,Xs];rfl))))
  clear hf_l hc_l hB_l
  intro w1 hs
  obtain ⟨hB_l, hs⟩ := hs
  simp only [Xq,Xr,Xs] at hB_l
  have Fw1 := F0.trans (Turn.of_grown hs (by first | exact .inl rfl | exact .inr (by omega)))
  clear hs F0
  have hc_l := hB_l.cell
  repeat (first|(with_reducible first|apply Xa|apply Xb|apply Xc|apply Xd)|((with_reducible apply Xk);(focus rfl);(focus (simp [go_sem,effAt,↓IntWalk.iteOmega, *];(try go_ints);with_reducible first|exact Xm|exact Xn));focus (simp only [Xo,Xp,Xq,Xr,Xs];rfl))|((with_reducible apply Xl);(focus rfl);focus (simp only [Xo,Xp,Xq,Xr,Xs];rfl))|(with_reducible first|apply Xe|apply Xf|apply Xg|apply Xh)|((with_reducible apply Xi);focus first|rfl|(simp [go_sem, *];done))|((with_reducible apply Xj);focus first|rfl|(simp [go_sem, *];done))|(simp only [Exit.then,Exit.inBlock,↓reduceIte,Nat.reduceEqDiff]))
  refine bodyPost_end (results_none rfl _ _ _) rfl ⟨rfl, hB_l, Turn.to_grown (by assumption)⟩
theorem listen_nil (b : Bool) (w : World) : Calls Try.prog 16 #[.pointer none, .bool b] w (Ret (.tuple #[]) (Below w.heap.size w)) := by
  go_enter Try.func16, Try.ntmps16
  have F0 : Below w.heap.size w w := Below.refl _ _
  repeat (first|(with_reducible first|apply Xa|apply Xb|apply Xc|apply Xd)|((with_reducible apply Xk);(focus rfl);(focus (simp [go_sem,effAt,↓IntWalk.iteOmega, *];(try go_ints);with_reducible first|exact Xm|exact Xn));focus (simp only [Xo,Xp,Xq,Xr,Xs];rfl))|((with_reducible apply Xl);(focus rfl);focus (simp only [Xo,Xp,Xq,Xr,Xs];rfl))|(with_reducible first|apply Xe|apply Xf|apply Xg|apply Xh)|((with_reducible apply Xi);focus first|rfl|(simp [go_sem, *];done))|((with_reducible apply Xj);focus first|rfl|(simp [go_sem, *];done))|(simp only [Exit.then,Exit.inBlock,↓reduceIte,Nat.reduceEqDiff]))
  refine bodyPost_end (results_none rfl _ _ _) rfl ⟨rfl, by assumption⟩
theorem heard_p (g : Nat) (s : Int) (ls : Bool) (tr mo : Int) (k : Int) {s2 tr2 mo2 k1 t1 f1 : Int} {c1 p1 ls2 : Bool} (w : World) (hB_l : LB w g s ls tr mo)
    (hF : ∀ w, LB w g s ls tr mo → Calls Try.prog 28 #[.pointer (some ⟨g, 0, none⟩), .iface 75 (.agg #[.int .u8 k, .int .u8 3])] w (Ret (actV k1 c1 p1 t1 f1) fun w' => LB w' g s2 ls2 tr2 mo2 ∧ w.grownBy w' (some g))) :
    Calls Try.prog 29 #[.pointer (some ⟨g, 0, none⟩), .int .u8 k, .bool true] w (Ret (actV k1 c1 (k1 != 0) t1 f1) fun w' => LB w' g s2 ls2 tr2 mo2 ∧ w.grownBy w' (some g)) := by
  unfold LB at *
  go_enter Try.func29, Try.ntmps29
  have F0 : Turn (fun i => i = g ∨ w.heap.size ≤ i) w w := Turn.refl _
  have hc_l := hB_l.cell
  repeat (first|(with_reducible first|apply Xa|apply Xb|apply Xc|apply Xd)|((with_reducible apply Xk);(focus rfl);(focus (simp [go_sem,effAt,↓IntWalk.iteOmega, *];(try go_ints);with_reducible first|exact Xm|exact Xn));focus (simp only [Xo,Xp,Xq,Xr,Xs];rfl))|((with_reducible apply Xl);(focus rfl);focus (simp only [Xo,Xp,Xq,Xr,Xs];rfl))|(with_reducible first|apply Xe|apply Xf|apply Xg|apply Xh)|((with_reducible apply Xi);focus first|rfl|(simp [go_sem, *];done))|((with_reducible apply Xj);focus first|rfl|(simp [go_sem, *];done))|(simp only [Exit.then,Exit.inBlock,↓reduceIte,Nat.reduceEqDiff]))
  have lt_l_r := hB_l.lt
  have le_r := F0.size
  ((with_reducible apply Xu); (focus rfl); (focus (simp [go_sem, effAt]; exact ⟨rfl, rfl⟩)); (focus ((simp only [Xo,Xp,Xq,Xr,Xs];rfl))))
  intro w1 hB_r hs
  have Fw1 := F0.trans (Turn.of_below hs)
  replace hB_l := hB_l.below hs hB_l.lt
  clear hs F0
  clear hc_l; have hc_l := hB_l.cell
  have hc_r := hB_r.cell
  repeat (first|(with_reducible first|apply Xa|apply Xb|apply Xc|apply Xd)|((with_reducible apply Xk);(focus rfl);(focus (simp [go_sem,effAt,↓IntWalk.iteOmega, *];(try go_ints);with_reducible first|exact Xm|exact Xn));focus (simp only [Xo,Xp,Xq,Xr,Xs];rfl))|((with_reducible apply Xl);(focus rfl);focus (simp only [Xo,Xp,Xq,Xr,Xs];rfl))|(with_reducible first|apply Xe|apply Xf|apply Xg|apply Xh)|((with_reducible apply Xi);focus first|rfl|(simp [go_sem, *];done))|((with_reducible apply Xj);focus first|rfl|(simp [go_sem, *];done))|(simp only [Exit.then,Exit.inBlock,↓reduceIte,Nat.reduceEqDiff]))
  have lt_l_c := hB_l.lt
  have lt_r_c := hB_r.lt
  have le_c := Fw1.size
  ((with_reducible apply Xu); (focus rfl); (focus (simp [go_sem, effAt]; exact ⟨rfl, rfl⟩)); (focus ((simp only [Xo,Xp,Xq,Xr,Xs];rfl))))
  intro w2 hB_c hs
  have Fw2 := Fw1.trans (Turn.of_below hs)
  replace hB_l := hB_l.below hs hB_l.lt
  replace hB_r := hB_r.below hs hB_r.lt
  clear hs Fw1
  clear hc_l; have hc_l := hB_l.cell
  clear hc_r; have hc_r := hB_r.cell
  have hc_c := hB_c.cell
  repeat (first|(with_reducible first|apply Xa|apply Xb|apply Xc|apply Xd)|((with_reducible apply Xk);(focus rfl);(focus (simp [go_sem,effAt,↓IntWalk.iteOmega, *];(try go_ints);with_reducible first|exact Xm|exact Xn));focus (simp only [Xo,Xp,Xq,Xr,Xs];rfl))|((with_reducible apply Xl);(focus rfl);focus (simp only [Xo,Xp,Xq,Xr,Xs];rfl))|(with_reducible first|apply Xe|apply Xf|apply Xg|apply Xh)|((with_reducible apply Xi);focus first|rfl|(simp [go_sem, *];done))|((with_reducible apply Xj);focus first|rfl|(simp [go_sem, *];done))|(simp only [Exit.then,Exit.inBlock,↓reduceIte,Nat.reduceEqDiff]))
  have hf_c := hB_c.frozen
  ((with_reducible apply Xt (fun w' => Blk w' _ _ _ ∧ w2.grownBy w' (some _))); (focus rfl); (focus (simp [go_sem, effAt, *]; exact ⟨rfl, ((hB_c.set_ 0 _).set_ 1 _), (grown_set (grown_set (World.grownBy.refl _ _)))⟩)); (focus ((simp only [Xo,Xp,Xq,Xr,Xs];rfl))))
  clear hf_c hc_c hB_c
  intro w3 hs
  obtain ⟨hB_c, hs⟩ := hs
  simp only [Xq,Xr,Xs] at hB_c
  have Fw3 := Fw2.trans (Turn.of_grown hs (by first | exact .inl rfl | exact .inr (by omega)))
  replace hB_l := hB_l.grown hs (by intro hk; injection hk with hk; have := hB_l.lt; have := hB_c.lt; omega)
  replace hB_r := hB_r.grown hs (by intro hk; injection hk with hk; have := hB_r.lt; have := hB_c.lt; omega)
  clear hs Fw2
  clear hc_l; have hc_l := hB_l.cell
  clear hc_r; have hc_r := hB_r.cell
  have hc_c := hB_c.cell
  repeat (first|(with_reducible first|apply Xa|apply Xb|apply Xc|apply Xd)|((with_reducible apply Xk);(focus rfl);(focus (simp [go_sem,effAt,↓IntWalk.iteOmega, *];(try go_ints);with_reducible first|exact Xm|exact Xn));focus (simp only [Xo,Xp,Xq,Xr,Xs];rfl))|((with_reducible apply Xl);(focus rfl);focus (simp only [Xo,Xp,Xq,Xr,Xs];rfl))|(with_reducible first|apply Xe|apply Xf|apply Xg|apply Xh)|((with_reducible apply Xi);focus first|rfl|(simp [go_sem, *];done))|((with_reducible apply Xj);focus first|rfl|(simp [go_sem, *];done))|(simp only [Exit.then,Exit.inBlock,↓reduceIte,Nat.reduceEqDiff]))
  have hf_c := hB_c.frozen
  ((with_reducible apply Xt (fun w' => Blk w' _ _ _ ∧ w3.grownBy w' (some _))); (focus rfl); (focus (simp [go_sem, effAt, *]; exact ⟨rfl, (hB_c.set_ 1 _), (grown_set (World.grownBy.refl _ _))⟩)); (focus ((simp only [Xo,Xp,Xq,Xr,Xs];rfl))))
  clear hf_c hc_c hB_c
  intro w4 hs
  obtain ⟨hB_c, hs⟩ := hs
  simp only [Xq,Xr,Xs] at hB_c
  have Fw4 := Fw3.trans (Turn.of_grown hs (by first | exact .inl rfl | exact .inr (by omega)))
  replace hB_l := hB_l.grown hs (by intro hk; injection hk with hk; have := hB_l.lt; have := hB_c.lt; omega)
  replace hB_r := hB_r.grown hs (by intro hk; injection hk with hk; have := hB_r.lt; have := hB_c.lt; omega)
  clear hs Fw3
  clear hc_l; have hc_l := hB_l.cell
  clear hc_r; have hc_r := hB_r.cell
  have hc_c := hB_c.cell
  repeat (first|(with_reducible first|apply Xa|apply Xb|apply Xc|apply Xd)|((with_reducible apply Xk);(focus rfl);(focus (simp [go_sem,effAt,↓IntWalk.iteOmega, *];(try go_ints);with_reducible first|exact Xm|exact Xn));focus (simp only [Xo,Xp,Xq,Xr,Xs];rfl))|((with_reducible apply Xl);(focus rfl);focus (simp only [Xo,Xp,Xq,Xr,Xs];rfl))|(with_reducible first|apply Xe|apply Xf|apply Xg|apply Xh)|((with_reducible apply Xi);focus first|rfl|(simp [go_sem, *];done))|((with_reducible apply Xj);focus first|rfl|(simp [go_sem, *];done))|(simp only [Exit.then,Exit.inBlock,↓reduceIte,Nat.reduceEqDiff]))
  ((with_reducible apply Xt (fun w' => Blk w' _ _ _ ∧ w4.grownBy w' (some _))); (focus rfl); (focus (simp only [effAt]; simp [go_sem]; (with_reducible exact effUpon_enter (hF _ hB_l)))); (focus ((simp only [Xo,Xp,Xq,Xr,Xs];rfl))))
  clear hc_l hB_l
  intro w5 hs
  obtain ⟨hB_l, hs⟩ := hs
  have Fw5 := Fw4.trans (Turn.of_grown hs (by first | exact .inl rfl | exact .inr (by omega)))
  replace hB_r := hB_r.grown hs (by intro hk; injection hk with hk; have := hB_r.lt; have := hB_l.lt; omega)
  replace hB_c := hB_c.grown hs (by intro hk; injection hk with hk; have := hB_c.lt; have := hB_l.lt; omega)
  clear hs Fw4
  clear hc_r; have hc_r := hB_r.cell
  clear hc_c; have hc_c := hB_c.cell
  have hc_l := hB_l.cell
  repeat (first|(with_reducible first|apply Xa|apply Xb|apply Xc|apply Xd)|((with_reducible apply Xk);(focus rfl);(focus (simp [go_sem,effAt,↓IntWalk.iteOmega, *];(try go_ints);with_reducible first|exact Xm|exact Xn));focus (simp only [Xo,Xp,Xq,Xr,Xs];rfl))|((with_reducible apply Xl);(focus rfl);focus (simp only [Xo,Xp,Xq,Xr,Xs];rfl))|(with_reducible first|apply Xe|apply Xf|apply Xg|apply Xh)|((with_reducible apply Xi);focus first|rfl|(simp [go_sem, *];done))|((with_reducible apply Xj);focus first|rfl|(simp [go_sem, *];done))|(simp only [Exit.then,Exit.inBlock,↓reduceIte,Nat.reduceEqDiff]))
  have lt_l_a := hB_l.lt
  have lt_r_a := hB_r.lt
  have lt_c_a := hB_c.lt
  have le_a := Fw5.size
  ((with_reducible apply Xu); (focus rfl); (focus (simp [go_sem, effAt]; exact ⟨rfl, rfl⟩)); (focus ((simp only [Xo,Xp,Xq,Xr,Xs];rfl))))
  intro w6 hB_a hs
  have Fw6 := Fw5.trans (Turn.of_below hs)
  replace hB_l := hB_l.below hs hB_l.lt
  replace hB_r := hB_r.below hs hB_r.lt
  replace hB_c := hB_c.below hs hB_c.lt
  clear hs Fw5
  clear hc_l; have hc_l := hB_l.cell
  clear hc_r; have hc_r := hB_r.cell
  clear hc_c; have hc_c := hB_c.cell
  have hc_a := hB_a.cell
  repeat (first|(with_reducible first|apply Xa|apply Xb|apply Xc|apply Xd)|((with_reducible apply Xk);(focus rfl);(focus (simp [go_sem,effAt,↓IntWalk.iteOmega, *];(try go_ints);with_reducible first|exact Xm|exact Xn));focus (simp only [Xo,Xp,Xq,Xr,Xs];rfl))|((with_reducible apply Xl);(focus rfl);focus (simp only [Xo,Xp,Xq,Xr,Xs];rfl))|(with_reducible first|apply Xe|apply Xf|apply Xg|apply Xh)|((with_reducible apply Xi);focus first|rfl|(simp [go_sem, *];done))|((with_reducible apply Xj);focus first|rfl|(simp [go_sem, *];done))|(simp only [Exit.then,Exit.inBlock,↓reduceIte,Nat.reduceEqDiff]))
  have hf_a := hB_a.frozen
  ((with_reducible apply Xt (fun w' => Blk w' _ _ _ ∧ w6.grownBy w' (some _))); (focus rfl); (focus (simp [go_sem, effAt, *]; exact ⟨rfl, (((((hB_a.set_ 0 _).set_ 1 _).set_ 2 _).set_ 3 _).set_ 4 _), (grown_set (grown_set (grown_set (grown_set (grown_set (World.grownBy.refl _ _))))))⟩)); (focus ((simp only [Xo,Xp,Xq,Xr,Xs];rfl))))
  clear hf_a hc_a hB_a
  intro w7 hs
  obtain ⟨hB_a, hs⟩ := hs
  simp only [Xq,Xr,Xs] at hB_a
  have Fw7 := Fw6.trans (Turn.of_grown hs (by first | exact .inl rfl | exact .inr (by omega)))
  replace hB_l := hB_l.grown hs (by intro hk; injection hk with hk; have := hB_l.lt; have := hB_a.lt; omega)
  replace hB_r := hB_r.grown hs (by intro hk; injection hk with hk; have := hB_r.lt; have := hB_a.lt; omega)
  replace hB_c := hB_c.grown hs (by intro hk; injection hk with hk; have := hB_c.lt; have := hB_a.lt; omega)
  clear hs Fw6
  clear hc_l; have hc_l := hB_l.cell
  clear hc_r; have hc_r := hB_r.cell
  clear hc_c; have hc_c := hB_c.cell
  have hc_a := hB_a.cell
  repeat (first|(with_reducible first|apply Xa|apply Xb|apply Xc|apply Xd)|((with_reducible apply Xk);(focus rfl);(focus (simp [go_sem,effAt,↓IntWalk.iteOmega, *];(try go_ints);with_reducible first|exact Xm|exact Xn));focus (simp only [Xo,Xp,Xq,Xr,Xs];rfl))|((with_reducible apply Xl);(focus rfl);focus (simp only [Xo,Xp,Xq,Xr,Xs];rfl))|(with_reducible first|apply Xe|apply Xf|apply Xg|apply Xh)|((with_reducible apply Xi);focus first|rfl|(simp [go_sem, *];done))|((with_reducible apply Xj);focus first|rfl|(simp [go_sem, *];done))|(simp only [Exit.then,Exit.inBlock,↓reduceIte,Nat.reduceEqDiff]))
  have hf_a := hB_a.frozen
  ((with_reducible apply Xt (fun w' => Blk w' _ _ _ ∧ w7.grownBy w' (some _))); (focus rfl); (focus (simp [go_sem, effAt, *]; exact ⟨rfl, (hB_a.set_ 2 _), (grown_set (World.grownBy.refl _ _))⟩)); (focus ((simp only [Xo,Xp,Xq,Xr,Xs];rfl))))
  clear hf_a hc_a hB_a
  intro w8 hs
  obtain ⟨hB_a, hs⟩ := hs
  simp only [Xq,Xr,Xs] at hB_a
  have Fw8 := Fw7.trans (Turn.of_grown hs (by first | exact .inl rfl | exact .inr (by omega)))
  replace hB_l := hB_l.grown hs (by intro hk; injection hk with hk; have := hB_l.lt; have := hB_a.lt; omega)
  replace hB_r := hB_r.grown hs (by intro hk; injection hk with hk; have := hB_r.lt; have := hB_a.lt; omega)
  replace hB_c := hB_c.grown hs (by intro hk; injection hk with hk; have := hB_c.lt; have := hB_a.lt; omega)
  clear hs Fw7
  clear hc_l; have hc_l := hB_l.cell
  clear hc_r; have hc_r := hB_r.cell
  clear hc_c; have hc_c := hB_c.cell
  have hc_a := hB_a.cell
  repeat (first|(with_reducible first|apply Xa|apply Xb|apply Xc|apply Xd)|((with_reducible apply Xk);(focus rfl);(focus (simp [go_sem,effAt,↓IntWalk.iteOmega, *];(try go_ints);with_reducible first|exact Xm|exact Xn));focus (simp only [Xo,Xp,Xq,Xr,Xs];rfl))|((with_reducible apply Xl);(focus rfl);focus (simp only [Xo,Xp,Xq,Xr,Xs];rfl))|(with_reducible first|apply Xe|apply Xf|apply Xg|apply Xh)|((with_reducible apply Xi);focus first|rfl|(simp [go_sem, *];done))|((with_reducible apply Xj);focus first|rfl|(simp [go_sem, *];done))|(simp only [Exit.then,Exit.inBlock,↓reduceIte,Nat.reduceEqDiff]))
  have hf_r := hB_r.frozen
  ((with_reducible apply Xt (fun w' => Blk w' _ _ _ ∧ w8.grownBy w' (some _))); (focus rfl); (focus (simp [go_sem, effAt, *]; exact ⟨rfl, (((((hB_r.set_ 0 _).set_ 1 _).set_ 2 _).set_ 3 _).set_ 4 _), (grown_set (grown_set (grown_set (grown_set (grown_set (World.grownBy.refl _ _))))))⟩)); (focus ((simp only [Xo,Xp,Xq,Xr,Xs];rfl))))
  clear hf_r hc_r hB_r
  intro w9 hs
  obtain ⟨hB_r, hs⟩ := hs
  simp only [Xq,Xr,Xs] at hB_r
  have Fw9 := Fw8.trans (Turn.of_grown hs (by first | exact .inl rfl | exact .inr (by omega)))
  replace hB_l := hB_l.grown hs (by intro hk; injection hk with hk; have := hB_l.lt; have := hB_r.lt; omega)
  replace hB_c := hB_c.grown hs (by intro hk; injection hk with hk; have := hB_c.lt; have := hB_r.lt; omega)
  replace hB_a := hB_a.grown hs (by intro hk; injection hk with hk; have := hB_a.lt; have := hB_r.lt; omega)
  clear hs Fw8
  clear hc_l; have hc_l := hB_l.cell
  clear hc_c; have hc_c := hB_c.cell
  clear hc_a; have hc_a := hB_a.cell
  have hc_r := hB_r.cell
  repeat (first|(with_reducible first|apply Xa|apply Xb|apply Xc|apply Xd)|((with_reducible apply Xk);(focus rfl);(focus (simp [go_sem,effAt,↓IntWalk.iteOmega, *];(try go_ints);with_reducible first|exact Xm|exact Xn));focus (simp only [Xo,Xp,Xq,Xr,Xs];rfl))|((with_reducible apply Xl);(focus rfl);focus (simp only [Xo,Xp,Xq,Xr,Xs];rfl))|(with_reducible first|apply Xe|apply Xf|apply Xg|apply Xh)|((with_reducible apply Xi);focus first|rfl|(simp [go_sem, *];done))|((with_reducible apply Xj);focus first|rfl|(simp [go_sem, *];done))|(simp only [Exit.then,Exit.inBlock,↓reduceIte,Nat.reduceEqDiff]))
  refine bodyPost_ret (v := actV k1 c1 (k1 != 0) t1 f1) (by simp [results, Try.results29, go_sem, *]) rfl ⟨rfl, hB_l, Turn.to_grown (by assumption)⟩
theorem heard_nil_p (k : Int) (w : World) : Calls Try.prog 29 #[.pointer none, .int .u8 k, .bool true] w (Ret (actV 0 false false 0 0) (Below w.heap.size w)) := by
  go_enter Try.func29, Try.ntmps29
  have F0 : Below w.heap.size w w := Below.refl _ _
  repeat (first|(with_reducible first|apply Xa|apply Xb|apply Xc|apply Xd)|((with_reducible apply Xk);(focus rfl);(focus (simp [go_sem,effAt,↓IntWalk.iteOmega, *];(try go_ints);with_reducible first|exact Xm|exact Xn));focus (simp only [Xo,Xp,Xq,Xr,Xs];rfl))|((with_reducible apply Xl);(focus rfl);focus (simp only [Xo,Xp,Xq,Xr,Xs];rfl))|(with_reducible first|apply Xe|apply Xf|apply Xg|apply Xh)|((with_reducible apply Xi);focus first|rfl|(simp [go_sem, *];done))|((with_reducible apply Xj);focus first|rfl|(simp [go_sem, *];done))|(simp only [Exit.then,Exit.inBlock,↓reduceIte,Nat.reduceEqDiff]))
  ((with_reducible apply Xu); (focus rfl); (focus (simp [go_sem, effAt]; exact ⟨rfl, rfl⟩)); (focus ((simp only [Xo,Xp,Xq,Xr,Xs];rfl))))
  intro w1 hB_r hs
  have Fw1 := F0.trans (hs.mono F0.size)
  clear hs F0
  have hc_r := hB_r.cell
  repeat (first|(with_reducible first|apply Xa|apply Xb|apply Xc|apply Xd)|((with_reducible apply Xk);(focus rfl);(focus (simp [go_sem,effAt,↓IntWalk.iteOmega, *];(try go_ints);with_reducible first|exact Xm|exact Xn));focus (simp only [Xo,Xp,Xq,Xr,Xs];rfl))|((with_reducible apply Xl);(focus rfl);focus (simp only [Xo,Xp,Xq,Xr,Xs];rfl))|(with_reducible first|apply Xe|apply Xf|apply Xg|apply Xh)|((with_reducible apply Xi);focus first|rfl|(simp [go_sem, *];done))|((with_reducible apply Xj);focus first|rfl|(simp [go_sem, *];done))|(simp only [Exit.then,Exit.inBlock,↓reduceIte,Nat.reduceEqDiff]))
  have lt_r_c := hB_r.lt
  ((with_reducible apply Xu); (focus rfl); (focus (simp [go_sem, effAt]; exact ⟨rfl, rfl⟩)); (focus ((simp only [Xo,Xp,Xq,Xr,Xs];rfl))))
  intro w2 hB_c hs
  have Fw2 := Fw1.trans (hs.mono Fw1.size)
  replace hB_r := hB_r.below hs hB_r.lt
  clear hs Fw1
  clear hc_r; have hc_r := hB_r.cell
  have hc_c := hB_c.cell
  repeat (first|(with_reducible first|apply Xa|apply Xb|apply Xc|apply Xd)|((with_reducible apply Xk);(focus rfl);(focus (simp [go_sem,effAt,↓IntWalk.iteOmega, *];(try go_ints);with_reducible first|exact Xm|exact Xn));focus (simp only [Xo,Xp,Xq,Xr,Xs];rfl))|((with_reducible apply Xl);(focus rfl);focus (simp only [Xo,Xp,Xq,Xr,Xs];rfl))|(with_reducible first|apply Xe|apply Xf|apply Xg|apply Xh)|((with_reducible apply Xi);focus first|rfl|(simp [go_sem, *];done))|((with_reducible apply Xj);focus first|rfl|(simp [go_sem, *];done))|(simp only [Exit.then,Exit.inBlock,↓reduceIte,Nat.reduceEqDiff]))
  have hf_c := hB_c.frozen
  ((with_reducible apply Xt (fun w' => Blk w' _ _ _ ∧ w2.grownBy w' (some _))); (focus rfl); (focus (simp [go_sem, effAt, *]; exact ⟨rfl, ((hB_c.set_ 0 _).set_ 1 _), (grown_set (grown_set (World.grownBy.refl _ _)))⟩)); (focus ((simp only [Xo,Xp,Xq,Xr,Xs];rfl))))
  clear hf_c hc_c hB_c
  intro w3 hs
  obtain ⟨hB_c, hs⟩ := hs
  simp only [Xq,Xr,Xs] at hB_c
  have Fw3 := Fw2.grown hs Fw2.size (by intro k hk; first | (injection hk with hk; subst hk; first | exact Nat.le_refl _ | exact Fw2.size | omega) | omega)
  replace hB_r := hB_r.grown hs (by intro hk; injection hk with hk; have := hB_r.lt; have := hB_c.lt; omega)
  clear hs Fw2
  clear hc_r; have hc_r := hB_r.cell
  have hc_c := hB_c.cell
  repeat (first|(with_reducible first|apply Xa|apply Xb|apply Xc|apply Xd)|((with_reducible apply Xk);(focus rfl);(focus (simp [go_sem,effAt,↓IntWalk.iteOmega, *];(try go_ints);with_reducible first|exact Xm|exact Xn));focus (simp only [Xo,Xp,Xq,Xr,Xs];rfl))|((with_reducible apply Xl);(focus rfl);focus (simp only [Xo,Xp,Xq,Xr,Xs];rfl))|(with_reducible first|apply Xe|apply Xf|apply Xg|apply Xh)|((with_reducible apply Xi);focus first|rfl|(simp [go_sem, *];done))|((with_reducible apply Xj);focus first|rfl|(simp [go_sem, *];done))|(simp only [Exit.then,Exit.inBlock,↓reduceIte,Nat.reduceEqDiff]))
  have hf_c := hB_c.frozen
  ((with_reducible apply Xt (fun w' => Blk w' _ _ _ ∧ w3.grownBy w' (some _))); (focus rfl); (focus (simp [go_sem, effAt, *]; exact ⟨rfl, (hB_c.set_ 1 _), (grown_set (World.grownBy.refl _ _))⟩)); (focus ((simp only [Xo,Xp,Xq,Xr,Xs];rfl))))
  clear hf_c hc_c hB_c
  intro w4 hs
  obtain ⟨hB_c, hs⟩ := hs
  simp only [Xq,Xr,Xs] at hB_c
  have Fw4 := Fw3.grown hs Fw3.size (by intro k hk; first | (injection hk with hk; subst hk; first | exact Nat.le_refl _ | exact Fw3.size | omega) | omega)
  replace hB_r := hB_r.grown hs (by intro hk; injection hk with hk; have := hB_r.lt; have := hB_c.lt; omega)
  clear hs Fw3
  clear hc_r; have hc_r := hB_r.cell
  have hc_c := hB_c.cell
  repeat (first|(with_reducible first|apply Xa|apply Xb|apply Xc|apply Xd)|((with_reducible apply Xk);(focus rfl);(focus (simp [go_sem,effAt,↓IntWalk.iteOmega, *];(try go_ints);with_reducible first|exact Xm|exact Xn));focus (simp only [Xo,Xp,Xq,Xr,Xs];rfl))|((with_reducible apply Xl);(focus rfl);focus (simp only [Xo,Xp,Xq,Xr,Xs];rfl))|(with_reducible first|apply Xe|apply Xf|apply Xg|apply Xh)|((with_reducible apply Xi);focus first|rfl|(simp [go_sem, *];done))|((with_reducible apply Xj);focus first|rfl|(simp [go_sem, *];done))|(simp only [Exit.then,Exit.inBlock,↓reduceIte,Nat.reduceEqDiff]))
  ((with_reducible apply Xt (Below w4.heap.size w4)); (focus rfl); (focus (simp only [effAt]; simp [go_sem]; (with_reducible exact effUpon_enter (does_nil _ _)))); (focus ((simp only [Xo,Xp,Xq,Xr,Xs];rfl))))
  intro w5 hs
  have Fw5 := Fw4.trans (hs.mono Fw4.size)
  replace hB_r := hB_r.below hs hB_r.lt
  replace hB_c := hB_c.below hs hB_c.lt
  clear hs Fw4
  clear hc_r; have hc_r := hB_r.cell
  clear hc_c; have hc_c := hB_c.cell
  repeat (first|(with_reducible first|apply Xa|apply Xb|apply Xc|apply Xd)|((with_reducible apply Xk);(focus rfl);(focus (simp [go_sem,effAt,↓IntWalk.iteOmega, *];(try go_ints);with_reducible first|exact Xm|exact Xn));focus (simp only [Xo,Xp,Xq,Xr,Xs];rfl))|((with_reducible apply Xl);(focus rfl);focus (simp only [Xo,Xp,Xq,Xr,Xs];rfl))|(with_reducible first|apply Xe|apply Xf|apply Xg|apply Xh)|((with_reducible apply Xi);focus first|rfl|(simp [go_sem, *];done))|((with_reducible apply Xj);focus first|rfl|(simp [go_sem, *];done))|(simp only [Exit.then,Exit.inBlock,↓reduceIte,Nat.reduceEqDiff]))
  have lt_r_a := hB_r.lt
  have lt_c_a := hB_c.lt
  ((with_reducible apply Xu); (focus rfl); (focus (simp [go_sem, effAt]; exact ⟨rfl, rfl⟩)); (focus ((simp only [Xo,Xp,Xq,Xr,Xs];rfl))))
  intro w6 hB_a hs
  have Fw6 := Fw5.trans (hs.mono Fw5.size)
  replace hB_r := hB_r.below hs hB_r.lt
  replace hB_c := hB_c.below hs hB_c.lt
  clear hs Fw5
  clear hc_r; have hc_r := hB_r.cell
  clear hc_c; have hc_c := hB_c.cell
  have hc_a := hB_a.cell
  repeat (first|(with_reducible first|apply Xa|apply Xb|apply Xc|apply Xd)|((with_reducible apply Xk);(focus rfl);(focus (simp [go_sem,effAt,↓IntWalk.iteOmega, *];(try go_ints);with_reducible first|exact Xm|exact Xn));focus (simp only [Xo,Xp,Xq,Xr,Xs];rfl))|((with_reducible apply Xl);(focus rfl);focus (simp only [Xo,Xp,Xq,Xr,Xs];rfl))|(with_reducible first|apply Xe|apply Xf|apply Xg|apply Xh)|((with_reducible apply Xi);focus first|rfl|(simp [go_sem, *];done))|((with_reducible apply Xj);focus first|rfl|(simp [go_sem, *];done))|(simp only [Exit.then,Exit.inBlock,↓reduceIte,Nat.reduceEqDiff]))
  have hf_a := hB_a.frozen
  ((with_reducible apply Xt (fun w' => Blk w' _ _ _ ∧ w6.grownBy w' (some _))); (focus rfl); (focus (simp [go_sem, effAt, *]; exact ⟨rfl, (((((hB_a.set_ 0 _).set_ 1 _).set_ 2 _).set_ 3 _).set_ 4 _), (grown_set (grown_set (grown_set (grown_set (grown_set (World.grownBy.refl _ _))))))⟩)); (focus ((simp only [Xo,Xp,Xq,Xr,Xs];rfl))))
  clear hf_a hc_a hB_a
  intro w7 hs
  obtain ⟨hB_a, hs⟩ := hs
  simp only [Xq,Xr,Xs] at hB_a
  have Fw7 := Fw6.grown hs Fw6.size (by intro k hk; first | (injection hk with hk; subst hk; first | exact Nat.le_refl _ | exact Fw6.size | omega) | omega)
  replace hB_r := hB_r.grown hs (by intro hk; injection hk with hk; have := hB_r.lt; have := hB_a.lt; omega)
  replace hB_c := hB_c.grown hs (by intro hk; injection hk with hk; have := hB_c.lt; have := hB_a.lt; omega)
  clear hs Fw6
  clear hc_r; have hc_r := hB_r.cell
  clear hc_c; have hc_c := hB_c.cell
  have hc_a := hB_a.cell
  repeat (first|(with_reducible first|apply Xa|apply Xb|apply Xc|apply Xd)|((with_reducible apply Xk);(focus rfl);(focus (simp [go_sem,effAt,↓IntWalk.iteOmega, *];(try go_ints);with_reducible first|exact Xm|exact Xn));focus (simp only [Xo,Xp,Xq,Xr,Xs];rfl))|((with_reducible apply Xl);(focus rfl);focus (simp only [Xo,Xp,Xq,Xr,Xs];rfl))|(with_reducible first|apply Xe|apply Xf|apply Xg|apply Xh)|((with_reducible apply Xi);focus first|rfl|(simp [go_sem, *];done))|((with_reducible apply Xj);focus first|rfl|(simp [go_sem, *];done))|(simp only [Exit.then,Exit.inBlock,↓reduceIte,Nat.reduceEqDiff]))
  have hf_a := hB_a.frozen
  ((with_reducible apply Xt (fun w' => Blk w' _ _ _ ∧ w7.grownBy w' (some _))); (focus rfl); (focus (simp [go_sem, effAt, *]; exact ⟨rfl, (hB_a.set_ 2 _), (grown_set (World.grownBy.refl _ _))⟩)); (focus ((simp only [Xo,Xp,Xq,Xr,Xs];rfl))))
  clear hf_a hc_a hB_a
  intro w8 hs
  obtain ⟨hB_a, hs⟩ := hs
  simp only [Xq,Xr,Xs] at hB_a
  have Fw8 := Fw7.grown hs Fw7.size (by intro k hk; first | (injection hk with hk; subst hk; first | exact Nat.le_refl _ | exact Fw7.size | omega) | omega)
  replace hB_r := hB_r.grown hs (by intro hk; injection hk with hk; have := hB_r.lt; have := hB_a.lt; omega)
  replace hB_c := hB_c.grown hs (by intro hk; injection hk with hk; have := hB_c.lt; have := hB_a.lt; omega)
  clear hs Fw7
  clear hc_r; have hc_r := hB_r.cell
  clear hc_c; have hc_c := hB_c.cell
  have hc_a := hB_a.cell
  repeat (first|(with_reducible first|apply Xa|apply Xb|apply Xc|apply Xd)|((with_reducible apply Xk);(focus rfl);(focus (simp [go_sem,effAt,↓IntWalk.iteOmega, *];(try go_ints);with_reducible first|exact Xm|exact Xn));focus (simp only [Xo,Xp,Xq,Xr,Xs];rfl))|((with_reducible apply Xl);(focus rfl);focus (simp only [Xo,Xp,Xq,Xr,Xs];rfl))|(with_reducible first|apply Xe|apply Xf|apply Xg|apply Xh)|((with_reducible apply Xi);focus first|rfl|(simp [go_sem, *];done))|((with_reducible apply Xj);focus first|rfl|(simp [go_sem, *];done))|(simp only [Exit.then,Exit.inBlock,↓reduceIte,Nat.reduceEqDiff]))
  have hf_r := hB_r.frozen
  ((with_reducible apply Xt (fun w' => Blk w' _ _ _ ∧ w8.grownBy w' (some _))); (focus rfl); (focus (simp [go_sem, effAt, *]; exact ⟨rfl, (((((hB_r.set_ 0 _).set_ 1 _).set_ 2 _).set_ 3 _).set_ 4 _), (grown_set (grown_set (grown_set (grown_set (grown_set (World.grownBy.refl _ _))))))⟩)); (focus ((simp only [Xo,Xp,Xq,Xr,Xs];rfl))))
  clear hf_r hc_r hB_r
  intro w9 hs
  obtain ⟨hB_r, hs⟩ := hs
  simp only [Xq,Xr,Xs] at hB_r
  have Fw9 := Fw8.grown hs Fw8.size (by intro k hk; first | (injection hk with hk; subst hk; first | exact Nat.le_refl _ | exact Fw8.size | omega) | omega)
  replace hB_c := hB_c.grown hs (by intro hk; injection hk with hk; have := hB_c.lt; have := hB_r.lt; omega)
  replace hB_a := hB_a.grown hs (by intro hk; injection hk with hk; have := hB_a.lt; have := hB_r.lt; omega)
  clear hs Fw8
  clear hc_c; have hc_c := hB_c.cell
  clear hc_a; have hc_a := hB_a.cell
  have hc_r := hB_r.cell
  repeat (first|(with_reducible first|apply Xa|apply Xb|apply Xc|apply Xd)|((with_reducible apply Xk);(focus rfl);(focus (simp [go_sem,effAt,↓IntWalk.iteOmega, *];(try go_ints);with_reducible first|exact Xm|exact Xn));focus (simp only [Xo,Xp,Xq,Xr,Xs];rfl))|((with_reducible apply Xl);(focus rfl);focus (simp only [Xo,Xp,Xq,Xr,Xs];rfl))|(with_reducible first|apply Xe|apply Xf|apply Xg|apply Xh)|((with_reducible apply Xi);focus first|rfl|(simp [go_sem, *];done))|((with_reducible apply Xj);focus first|rfl|(simp [go_sem, *];done))|(simp only [Exit.then,Exit.inBlock,↓reduceIte,Nat.reduceEqDiff]))
  refine bodyPost_ret (v := (actV 0 false false 0 0)) (by simp [results, Try.results29, go_sem, *]) rfl ⟨rfl, by assumption⟩
theorem heard_1 (g : Nat) (s : Int) (ls : Bool) (tr mo : Int) {s2 tr2 mo2 k1 t1 f1 : Int} {c1 p1 ls2 : Bool} (w : World) (hB_l : LB w g s ls tr mo)
    (hF : ∀ w, LB w g s ls tr mo → Calls Try.prog 28 #[.pointer (some ⟨g, 0, none⟩), .iface 75 (.agg #[.int .u8 1, .int .u8 3])] w (Ret (actV k1 c1 p1 t1 f1) fun w' => LB w' g s2 ls2 tr2 mo2 ∧ w.grownBy w' (some g))) :
    Calls Try.prog 29 #[.pointer (some ⟨g, 0, none⟩), .int .u8 1, .bool false] w (Ret (actV k1 c1 false t1 f1) fun w' => LB w' g s2 ls2 tr2 mo2 ∧ w.grownBy w' (some g)) := by
  unfold LB at *
  go_enter Try.func29, Try.ntmps29
  have F0 : Turn (fun i => i = g ∨ w.heap.size ≤ i) w w := Turn.refl _
  have hc_l := hB_l.cell
  repeat (first|(with_reducible first|apply Xa|apply Xb|apply Xc|apply Xd)|((with_reducible apply Xk);(focus rfl);(focus (simp [go_sem,effAt,↓IntWalk.iteOmega, *];(try go_ints);with_reducible first|exact Xm|exact Xn));focus (simp only [Xo,Xp,Xq,Xr,Xs];rfl))|((with_reducible apply Xl);(focus rfl);focus (simp only [Xo,Xp,Xq,Xr,Xs];rfl))|(with_reducible first|apply Xe|apply Xf|apply Xg|apply Xh)|((with_reducible apply Xi);focus first|rfl|(simp [go_sem, *];done))|((with_reducible apply Xj);focus first|rfl|(simp [go_sem, *];done))|(simp only [Exit.then,Exit.inBlock,↓reduceIte,Nat.reduceEqDiff]))
  have lt_l_r := hB_l.lt
  have le_r := F0.size
  ((with_reducible apply Xu); (focus rfl); (focus (simp [go_sem, effAt]; exact ⟨rfl, rfl⟩)); (focus ((simp only [Xo,Xp,Xq,Xr,Xs];rfl))))
  intro w1 hB_r hs
  have Fw1 := F0.trans (Turn.of_below hs)
  replace hB_l := hB_l.below hs hB_l.lt
  clear hs F0
  clear hc_l; have hc_l := hB_l.cell
  have hc_r := hB_r.cell
  repeat (first|(with_reducible first|apply Xa|apply Xb|apply Xc|apply Xd)|((with_reducible apply Xk);(focus rfl);(focus (simp [go_sem,effAt,↓IntWalk.iteOmega, *];(try go_ints);with_reducible first|exact Xm|exact Xn));focus (simp only [Xo,Xp,Xq,Xr,Xs];rfl))|((with_reducible apply Xl);(focus rfl);focus (simp only [Xo,Xp,Xq,Xr,Xs];rfl))|(with_reducible first|apply Xe|apply Xf|apply Xg|apply Xh)|((with_reducible apply Xi);focus first|rfl|(simp [go_sem, *];done))|((with_reducible apply Xj);focus first|rfl|(simp [go_sem, *];done))|(simp only [Exit.then,Exit.inBlock,↓reduceIte,Nat.reduceEqDiff]))
  have lt_l_c := hB_l.lt
  have lt_r_c := hB_r.lt
  have le_c := Fw1.size
  ((with_reducible apply Xu); (focus rfl); (focus (simp [go_sem, effAt]; exact ⟨rfl, rfl⟩)); (focus ((simp only [Xo,Xp,Xq,Xr,Xs];rfl))))
  intro w2 hB_c hs
  have Fw2 := Fw1.trans (Turn.of_below hs)
  replace hB_l := hB_l.below hs hB_l.lt
  replace hB_r := hB_r.below hs hB_r.lt
  clear hs Fw1
  clear hc_l; have hc_l := hB_l.cell
  clear hc_r; have hc_r := hB_r.cell
  have hc_c := hB_c.cell
  repeat (first|(with_reducible first|apply Xa|apply Xb|apply Xc|apply Xd)|((with_reducible apply Xk);(focus rfl);(focus (simp [go_sem,effAt,↓IntWalk.iteOmega, *];(try go_ints);with_reducible first|exact Xm|exact Xn));focus (simp only [Xo,Xp,Xq,Xr,Xs];rfl))|((with_reducible apply Xl);(focus rfl);focus (simp only [Xo,Xp,Xq,Xr,Xs];rfl))|(with_reducible first|apply Xe|apply Xf|apply Xg|apply Xh)|((with_reducible apply Xi);focus first|rfl|(simp [go_sem, *];done))|((with_reducible apply Xj);focus first|rfl|(simp [go_sem, *];done))|(simp only [Exit.then,Exit.inBlock,↓reduceIte,Nat.reduceEqDiff]))
  have hf_c := hB_c.frozen
  ((with_reducible apply Xt (fun w' => Blk w' _ _ _ ∧ w2.grownBy w' (some _))); (focus rfl); (focus (simp [go_sem, effAt, *]; exact ⟨rfl, ((hB_c.set_ 0 _).set_ 1 _), (grown_set (grown_set (World.grownBy.refl _ _)))⟩)); (focus ((simp only [Xo,Xp,Xq,Xr,Xs];rfl))))
  clear hf_c hc_c hB_c
  intro w3 hs
  obtain ⟨hB_c, hs⟩ := hs
  simp only [Xq,Xr,Xs] at hB_c
  have Fw3 := Fw2.trans (Turn.of_grown hs (by first | exact .inl rfl | exact .inr (by omega)))
  replace hB_l := hB_l.grown hs (by intro hk; injection hk with hk; have := hB_l.lt; have := hB_c.lt; omega)
  replace hB_r := hB_r.grown hs (by intro hk; injection hk with hk; have := hB_r.lt; have := hB_c.lt; omega)
  clear hs Fw2
  clear hc_l; have hc_l := hB_l.cell
  clear hc_r; have hc_r := hB_r.cell
  have hc_c := hB_c.cell
  repeat (first|(with_reducible first|apply Xa|apply Xb|apply Xc|apply Xd)|((with_reducible apply Xk);(focus rfl);(focus (simp [go_sem,effAt,↓IntWalk.iteOmega, *];(try go_ints);with_reducible first|exact Xm|exact Xn));focus (simp only [Xo,Xp,Xq,Xr,Xs];rfl))|((with_reducible apply Xl);(focus rfl);focus (simp only [Xo,Xp,Xq,Xr,Xs];rfl))|(with_reducible first|apply Xe|apply Xf|apply Xg|apply Xh)|((with_reducible apply Xi);focus first|rfl|(simp [go_sem, *];done))|((with_reducible apply Xj);focus first|rfl|(simp [go_sem, *];done))|(simp only [Exit.then,Exit.inBlock,↓reduceIte,Nat.reduceEqDiff]))
  have hf_c := hB_c.frozen
  ((with_reducible apply Xt (fun w' => Blk w' _ _ _ ∧ w3.grownBy w' (some _))); (focus rfl); (focus (simp [go_sem, effAt, *]; exact ⟨rfl, (hB_c.set_ 1 _), (grown_set (World.grownBy.refl _ _))⟩)); (focus ((simp only [Xo,Xp,Xq,Xr,Xs];rfl))))
  clear hf_c hc_c hB_c
  intro w4 hs
  obtain ⟨hB_c, hs⟩ := hs
  simp only [Xq,Xr,Xs] at hB_c
  have Fw4 := Fw3.trans (Turn.of_grown hs (by first | exact .inl rfl | exact .inr (by omega)))
  replace hB_l := hB_l.grown hs (by intro hk; injection hk with hk; have := hB_l.lt; have := hB_c.lt; omega)
  replace hB_r := hB_r.grown hs (by intro hk; injection hk with hk; have := hB_r.lt; have := hB_c.lt; omega)
  clear hs Fw3
  clear hc_l; have hc_l := hB_l.cell
  clear hc_r; have hc_r := hB_r.cell
  have hc_c := hB_c.cell
  repeat (first|(with_reducible first|apply Xa|apply Xb|apply Xc|apply Xd)|((with_reducible apply Xk);(focus rfl);(focus (simp [go_sem,effAt,↓IntWalk.iteOmega, *];(try go_ints);with_reducible first|exact Xm|exact Xn));focus (simp only [Xo,Xp,Xq,Xr,Xs];rfl))|((with_reducible apply Xl);(focus rfl);focus (simp only [Xo,Xp,Xq,Xr,Xs];rfl))|(with_reducible first|apply Xe|apply Xf|apply Xg|apply Xh)|((with_reducible apply Xi);focus first|rfl|(simp [go_sem, *];done))|((with_reducible apply Xj);focus first|rfl|(simp [go_sem, *];done))|(simp only [Exit.then,Exit.inBlock,↓reduceIte,Nat.reduceEqDiff]))
  ((with_reducible apply Xt (fun w' => Blk w' _ _ _ ∧ w4.grownBy w' (some _))); (focus rfl); (focus (simp only [effAt]; simp [go_sem]; (with_reducible exact effUpon_enter (hF _ hB_l)))); (focus ((simp only [Xo,Xp,Xq,Xr,Xs];rfl))))
  clear hc_l hB_l
  intro w5 hs
  obtain ⟨hB_l, hs⟩ := hs
  have Fw5 := Fw4.trans (Turn.of_grown hs (by first | exact .inl rfl | exact .inr (by omega)))
  replace hB_r := hB_r.grown hs (by intro hk; injection hk with hk; have := hB_r.lt; have := hB_l.lt; omega)
  replace hB_c := hB_c.grown hs (by intro hk; injection hk with hk; have := hB_c.lt; have := hB_l.lt; omega)
  clear hs Fw4
  clear hc_r; have hc_r := hB_r.cell
  clear hc_c; have hc_c := hB_c.cell
  have hc_l := hB_l.cell
  repeat (first|(with_reducible first|apply Xa|apply Xb|apply Xc|apply Xd)|((with_reducible apply Xk);(focus rfl);(focus (simp [go_sem,effAt,↓IntWalk.iteOmega, *];(try go_ints);with_reducible first|exact Xm|exact Xn));focus (simp only [Xo,Xp,Xq,Xr,Xs];rfl))|((with_reducible apply Xl);(focus rfl);focus (simp only [Xo,Xp,Xq,Xr,Xs];rfl))|(with_reducible first|apply Xe|apply Xf|apply Xg|apply Xh)|((with_reducible apply Xi);focus first|rfl|(simp [go_sem, *];done))|((with_reducible apply Xj);focus first|rfl|(simp [go_sem, *];done))|(simp only [Exit.then,Exit.inBlock,↓reduceIte,Nat.reduceEqDiff]))
  have lt_l_a := hB_l.lt
  have lt_r_a := hB_r.lt
  have lt_c_a := hB_c.lt
  have le_a := Fw5.size
  ((with_reducible apply Xu); (focus rfl); (focus (simp [go_sem, effAt]; exact ⟨rfl, rfl⟩)); (focus ((simp only [Xo,Xp,Xq,Xr,Xs];rfl))))
  intro w6 hB_a hs
  have Fw6 := Fw5.trans (Turn.of_below hs)
  replace hB_l := hB_l.below hs hB_l.lt
  replace hB_r := hB_r.below hs hB_r.lt
  replace hB_c := hB_c.below hs hB_c.lt
  clear hs Fw5
  clear hc_l; have hc_l := hB_l.cell
  clear hc_r; have hc_r := hB_r.cell
  clear hc_c; have hc_c := hB_c.cell
  have hc_a := hB_a.cell
  repeat (first|(with_reducible first|apply Xa|apply Xb|apply Xc|apply Xd)|((with_reducible apply Xk);(focus rfl);(focus (simp [go_sem,effAt,↓IntWalk.iteOmega, *];(try go_ints);with_reducible first|exact Xm|exact Xn));focus (simp only [Xo,Xp,Xq,Xr,Xs];rfl))|((with_reducible apply Xl);(focus rfl);focus (simp only [Xo,Xp,Xq,Xr,Xs];rfl))|(with_reducible first|apply Xe|apply Xf|apply Xg|apply Xh)|((with_reducible apply Xi);focus first|rfl|(simp [go_sem, *];done))|((with_reducible apply Xj);focus first|rfl|(simp [go_sem, *];done))|(simp only [Exit.then,Exit.inBlock,↓reduceIte,Nat.reduceEqDiff]))
  have hf_a := hB_a.frozen
  ((with_reducible apply Xt (fun w' => Blk w' _ _ _ ∧ w6.grownBy w' (some _))); (focus rfl); (focus (simp [go_sem, effAt, *]; exact ⟨rfl, (((((hB_a.set_ 0 _).set_ 1 _).set_ 2 _).set_ 3 _).set_ 4 _), (grown_set (grown_set (grown_set (grown_set (grown_set (World.grownBy.refl _ _))))))⟩)); (focus ((simp only [Xo,Xp,Xq,Xr,Xs];rfl))))
  clear hf_a hc_a hB_a
  intro w7 hs
  obtain ⟨hB_a, hs⟩ := hs
  simp only [Xq,Xr,Xs] at hB_a
  have Fw7 := Fw6.trans (Turn.of_grown hs (by first | exact .inl rfl | exact .inr (by omega)))
  replace hB_l := hB_l.grown hs (by intro hk; injection hk with hk; have := hB_l.lt; have := hB_a.lt; omega)
  replace hB_r := hB_r.grown hs (by intro hk; injection hk with hk; have := hB_r.lt; have := hB_a.lt; omega)
  replace hB_c := hB_c.grown hs (by intro hk; injection hk with hk; have := hB_c.lt; have := hB_a.lt; omega)
  clear hs Fw6
  clear hc_l; have hc_l := hB_l.cell
  clear hc_r; have hc_r := hB_r.cell
  clear hc_c; have hc_c := hB_c.cell
  have hc_a := hB_a.cell
  repeat (first|(with_reducible first|apply Xa|apply Xb|apply Xc|apply Xd)|((with_reducible apply Xk);(focus rfl);(focus (simp [go_sem,effAt,↓IntWalk.iteOmega, *];(try go_ints);with_reducible first|exact Xm|exact Xn));focus (simp only [Xo,Xp,Xq,Xr,Xs];rfl))|((with_reducible apply Xl);(focus rfl);focus (simp only [Xo,Xp,Xq,Xr,Xs];rfl))|(with_reducible first|apply Xe|apply Xf|apply Xg|apply Xh)|((with_reducible apply Xi);focus first|rfl|(simp [go_sem, *];done))|((with_reducible apply Xj);focus first|rfl|(simp [go_sem, *];done))|(simp only [Exit.then,Exit.inBlock,↓reduceIte,Nat.reduceEqDiff]))
  have hf_a := hB_a.frozen
  ((with_reducible apply Xt (fun w' => Blk w' _ _ _ ∧ w7.grownBy w' (some _))); (focus rfl); (focus (simp [go_sem, effAt, *]; exact ⟨rfl, (hB_a.set_ 2 _), (grown_set (World.grownBy.refl _ _))⟩)); (focus ((simp only [Xo,Xp,Xq,Xr,Xs];rfl))))
  clear hf_a hc_a hB_a
  intro w8 hs
  obtain ⟨hB_a, hs⟩ := hs
  simp only [Xq,Xr,Xs] at hB_a
  have Fw8 := Fw7.trans (Turn.of_grown hs (by first | exact .inl rfl | exact .inr (by omega)))
  replace hB_l := hB_l.grown hs (by intro hk; injection hk with hk; have := hB_l.lt; have := hB_a.lt; omega)
  replace hB_r := hB_r.grown hs (by intro hk; injection hk with hk; have := hB_r.lt; have := hB_a.lt; omega)
  replace hB_c := hB_c.grown hs (by intro hk; injection hk with hk; have := hB_c.lt; have := hB_a.lt; omega)
  clear hs Fw7
  clear hc_l; have hc_l := hB_l.cell
  clear hc_r; have hc_r := hB_r.cell
  clear hc_c; have hc_c := hB_c.cell
  have hc_a := hB_a.cell
  repeat (first|(with_reducible first|apply Xa|apply Xb|apply Xc|apply Xd)|((with_reducible apply Xk);(focus rfl);(focus (simp [go_sem,effAt,↓IntWalk.iteOmega, *];(try go_ints);with_reducible first|exact Xm|exact Xn));focus (simp only [Xo,Xp,Xq,Xr,Xs];rfl))|((with_reducible apply Xl);(focus rfl);focus (simp only [Xo,Xp,Xq,Xr,Xs];rfl))|(with_reducible first|apply Xe|apply Xf|apply Xg|apply Xh)|((with_reducible apply Xi);focus first|rfl|(simp [go_sem, *];done))|((with_reducible apply Xj);focus first|rfl|(simp [go_sem, *];done))|(simp only [Exit.then,Exit.inBlock,↓reduceIte,Nat.reduceEqDiff]))
  have hf_r := hB_r.frozen
  ((with_reducible apply Xt (fun w' => Blk w' _ _ _ ∧ w8.grownBy w' (some _))); (focus rfl); (focus (simp [go_sem, effAt, *]; exact ⟨rfl, (((((hB_r.set_ 0 _).set_ 1 _).set_ 2 _).set_ 3 _).set_ 4 _), (grown_set (grown_set (grown_set (grown_set (grown_set (World.grownBy.refl _ _))))))⟩)); (focus ((simp only [Xo,Xp,Xq,Xr,Xs];rfl))))
  clear hf_r hc_r hB_r
  intro w9 hs
  obtain ⟨hB_r, hs⟩ := hs
  simp only [Xq,Xr,Xs] at hB_r
  have Fw9 := Fw8.trans (Turn.of_grown hs (by first | exact .inl rfl | exact .inr (by omega)))
  replace hB_l := hB_l.grown hs (by intro hk; injection hk with hk; have := hB_l.lt; have := hB_r.lt; omega)
  replace hB_c := hB_c.grown hs (by intro hk; injection hk with hk; have := hB_c.lt; have := hB_r.lt; omega)
  replace hB_a := hB_a.grown hs (by intro hk; injection hk with hk; have := hB_a.lt; have := hB_r.lt; omega)
  clear hs Fw8
  clear hc_l; have hc_l := hB_l.cell
  clear hc_c; have hc_c := hB_c.cell
  clear hc_a; have hc_a := hB_a.cell
  have hc_r := hB_r.cell
  repeat (first|(with_reducible first|apply Xa|apply Xb|apply Xc|apply Xd)|((with_reducible apply Xk);(focus rfl);(focus (simp [go_sem,effAt,↓IntWalk.iteOmega, *];(try go_ints);with_reducible first|exact Xm|exact Xn));focus (simp only [Xo,Xp,Xq,Xr,Xs];rfl))|((with_reducible apply Xl);(focus rfl);focus (simp only [Xo,Xp,Xq,Xr,Xs];rfl))|(with_reducible first|apply Xe|apply Xf|apply Xg|apply Xh)|((with_reducible apply Xi);focus first|rfl|(simp [go_sem, *];done))|((with_reducible apply Xj);focus first|rfl|(simp [go_sem, *];done))|(simp only [Exit.then,Exit.inBlock,↓reduceIte,Nat.reduceEqDiff]))
  refine bodyPost_ret (v := actV k1 c1 false t1 f1) (by simp [results, Try.results29, go_sem, *]) rfl ⟨rfl, hB_l, Turn.to_grown (by assumption)⟩
theorem heard_nil_1 (w : World) : Calls Try.prog 29 #[.pointer none, .int .u8 1, .bool false] w (Ret (actV 0 false false 0 0) (Below w.heap.size w)) := by
  go_enter Try.func29, Try.ntmps29
  have F0 : Below w.heap.size w w := Below.refl _ _
  repeat (first|(with_reducible first|apply Xa|apply Xb|apply Xc|apply Xd)|((with_reducible apply Xk);(focus rfl);(focus (simp [go_sem,effAt,↓IntWalk.iteOmega, *];(try go_ints);with_reducible first|exact Xm|exact Xn));focus (simp only [Xo,Xp,Xq,Xr,Xs];rfl))|((with_reducible apply Xl);(focus rfl);focus (simp only [Xo,Xp,Xq,Xr,Xs];rfl))|(with_reducible first|apply Xe|apply Xf|apply Xg|apply Xh)|((with_reducible apply Xi);focus first|rfl|(simp [go_sem, *];done))|((with_reducible apply Xj);focus first|rfl|(simp [go_sem, *];done))|(simp only [Exit.then,Exit.inBlock,↓reduceIte,Nat.reduceEqDiff]))
  ((with_reducible apply Xu); (focus rfl); (focus (simp [go_sem, effAt]; exact ⟨rfl, rfl⟩)); (focus ((simp only [Xo,Xp,Xq,Xr,Xs];rfl))))
  intro w1 hB_r hs
  have Fw1 := F0.trans (hs.mono F0.size)
  clear hs F0
  have hc_r := hB_r.cell
  repeat (first|(with_reducible first|apply Xa|apply Xb|apply Xc|apply Xd)|((with_reducible apply Xk);(focus rfl);(focus (simp [go_sem,effAt,↓IntWalk.iteOmega, *];(try go_ints);with_reducible first|exact Xm|exact Xn));focus (simp only [Xo,Xp,Xq,Xr,Xs];rfl))|((with_reducible apply Xl);(focus rfl);focus (simp only [Xo,Xp,Xq,Xr,Xs];rfl))|(with_reducible first|apply Xe|apply Xf|apply Xg|apply Xh)|((with_reducible apply Xi);focus first|rfl|(simp [go_sem, *];done))|((with_reducible apply Xj);focus first|rfl|(simp [go_sem, *];done))|(simp only [Exit.then,Exit.inBlock,↓reduceIte,Nat.reduceEqDiff]))
  have lt_r_c := hB_r.lt
  ((with_reducible apply Xu); (focus rfl); (focus (simp [go_sem, effAt]; exact ⟨rfl, rfl⟩)); (focus ((simp only [Xo,Xp,Xq,Xr,Xs];rfl))))
  intro w2 hB_c hs
  have Fw2 := Fw1.trans (hs.mono Fw1.size)
  replace hB_r := hB_r.below hs hB_r.lt
  clear hs Fw1
  clear hc_r; have hc_r := hB_r.cell
  have hc_c := hB_c.cell
  repeat (first|(with_reducible first|apply Xa|apply Xb|apply Xc|apply Xd)|((with_reducible apply Xk);(focus rfl);(focus (simp [go_sem,effAt,↓IntWalk.iteOmega, *];(try go_ints);with_reducible first|exact Xm|exact Xn));focus (simp only [Xo,Xp,Xq,Xr,Xs];rfl))|((with_reducible apply Xl);(focus rfl);focus (simp only [Xo,Xp,Xq,Xr,Xs];rfl))|(with_reducible first|apply Xe|apply Xf|apply Xg|apply Xh)|((with_reducible apply Xi);focus first|rfl|(simp [go_sem, *];done))|((with_reducible apply Xj);focus first|rfl|(simp [go_sem, *];done))|(simp only [Exit.then,Exit.inBlock,↓reduceIte,Nat.reduceEqDiff]))
  have hf_c := hB_c.frozen
  ((with_reducible apply Xt (fun w' => Blk w' _ _ _ ∧ w2.grownBy w' (some _))); (focus rfl); (focus (simp [go_sem, effAt, *]; exact ⟨rfl, ((hB_c.set_ 0 _).set_ 1 _), (grown_set (grown_set (World.grownBy.refl _ _)))⟩)); (focus ((simp only [Xo,Xp,Xq,Xr,Xs];rfl))))
  clear hf_c hc_c hB_c
  intro w3 hs
  obtain ⟨hB_c, hs⟩ := hs
  simp only [Xq,Xr,Xs] at hB_c
  have Fw3 := Fw2.grown hs Fw2.size (by intro k hk; first | (injection hk with hk; subst hk; first | exact Nat.le_refl _ | exact Fw2.size | omega) | omega)
  replace hB_r := hB_r.grown hs (by intro hk; injection hk with hk; have := hB_r.lt; have := hB_c.lt; omega)
  clear hs Fw2
  clear hc_r; have hc_r := hB_r.cell
  have hc_c := hB_c.cell
  repeat (first|(with_reducible first|apply Xa|apply Xb|apply Xc|apply Xd)|((with_reducible apply Xk);(focus rfl);(focus (simp [go_sem,effAt,↓IntWalk.iteOmega, *];(try go_ints);with_reducible first|exact Xm|exact Xn));focus (simp only [Xo,Xp,Xq,Xr,Xs];rfl))|((with_reducible apply Xl);(focus rfl);focus (simp only [Xo,Xp,Xq,Xr,Xs];rfl))|(with_reducible first|apply Xe|apply Xf|apply Xg|apply Xh)|((with_reducible apply Xi);focus first|rfl|(simp [go_sem, *];done))|((with_reducible apply Xj);focus first|rfl|(simp [go_sem, *];done))|(simp only [Exit.then,Exit.inBlock,↓reduceIte,Nat.reduceEqDiff]))
  have hf_c := hB_c.frozen
  ((with_reducible apply Xt (fun w' => Blk w' _ _ _ ∧ w3.grownBy w' (some _))); (focus rfl); (focus (simp [go_sem, effAt, *]; exact ⟨rfl, (hB_c.set_ 1 _), (grown_set (World.grownBy.refl _ _))⟩)); (focus ((simp only [Xo,Xp,Xq,Xr,Xs];rfl))))
  clear hf_c hc_c hB_c
  intro w4 hs
  obtain ⟨hB_c, hs⟩ := hs
  simp only [Xq,Xr,Xs] at hB_c
  have Fw4 := Fw3.grown hs Fw3.size (by intro k hk; first | (injection hk with hk; subst hk; first | exact Nat.le_refl _ | exact Fw3.size | omega) | omega)
  replace hB_r := hB_r.grown hs (by intro hk; injection hk with hk; have := hB_r.lt; have := hB_c.lt; omega)
  clear hs Fw3
  clear hc_r; have hc_r := hB_r.cell
  have hc_c := hB_c.cell
  repeat (first|(with_reducible first|apply Xa|apply Xb|apply Xc|apply Xd)|((with_reducible apply Xk);(focus rfl);(focus (simp [go_sem,effAt,↓IntWalk.iteOmega, *];(try go_ints);with_reducible first|exact Xm|exact Xn));focus (simp only [Xo,Xp,Xq,Xr,Xs];rfl))|((with_reducible apply Xl);(focus rfl);focus (simp only [Xo,Xp,Xq,Xr,Xs];rfl))|(with_reducible first|apply Xe|apply Xf|apply Xg|apply Xh)|((with_reducible apply Xi);focus first|rfl|(simp [go_sem, *];done))|((with_reducible apply Xj);focus first|rfl|(simp [go_sem, *];done))|(simp only [Exit.then,Exit.inBlock,↓reduceIte,Nat.reduceEqDiff]))
  ((with_reducible apply Xt (Below w4.heap.size w4)); (focus rfl); (focus (simp only [effAt]; simp [go_sem]; (with_reducible exact effUpon_enter (does_nil _ _)))); (focus ((simp only [Xo,Xp,Xq,Xr,Xs];rfl))))
  intro w5 hs
  have Fw5 := Fw4.trans (hs.mono Fw4.size)
  replace hB_r := hB_r.below hs hB_r.lt
  replace hB_c := hB_c.below hs hB_c.lt
  clear hs Fw4
  clear hc_r; have hc_r := hB_r.cell
  clear hc_c; have hc_c := hB_c.cell
  repeat (first|(with_reducible first|apply Xa|apply Xb|apply Xc|apply Xd)|((with_reducible apply Xk);(focus rfl);(focus (simp [go_sem,effAt,↓IntWalk.iteOmega, *];(try go_ints);with_reducible first|exact Xm|exact Xn));focus (simp only [Xo,Xp,Xq,Xr,Xs];rfl))|((with_reducible apply Xl);(focus rfl);focus (simp only [Xo,Xp,Xq,Xr,Xs];rfl))|(with_reducible first|apply Xe|apply Xf|apply Xg|apply Xh)|((with_reducible apply Xi);focus first|rfl|(simp [go_sem, *];done))|((with_reducible apply Xj);focus first|rfl|(simp [go_sem, *];done))|(simp only [Exit.then,Exit.inBlock,↓reduceIte,Nat.reduceEqDiff]))
  have lt_r_a := hB_r.lt
  have lt_c_a := hB_c.lt
  ((with_reducible apply Xu); (focus rfl); (focus (simp [go_sem, effAt]; exact ⟨rfl, rfl⟩)); (focus ((simp only [Xo,Xp,Xq,Xr,Xs];rfl))))
  intro w6 hB_a hs
  have Fw6 := Fw5.trans (hs.mono Fw5.size)
  replace hB_r := hB_r.below hs hB_r.lt
  replace hB_c := hB_c.below hs hB_c.lt
  clear hs Fw5
  clear hc_r; have hc_r := hB_r.cell
  clear hc_c; have hc_c := hB_c.cell
  have hc_a := hB_a.cell
  repeat (first|(with_reducible first|apply Xa|apply Xb|apply Xc|apply Xd)|((with_reducible apply Xk);(focus rfl);(focus (simp [go_sem,effAt,↓IntWalk.iteOmega, *];(try go_ints);with_reducible first|exact Xm|exact Xn));focus (simp only [Xo,Xp,Xq,Xr,Xs];rfl))|((with_reducible apply Xl);(focus rfl);focus (simp only [Xo,Xp,Xq,Xr,Xs];rfl))|(with_reducible first|apply Xe|apply Xf|apply Xg|apply Xh)|((with_reducible apply Xi);focus first|rfl|(simp [go_sem, *];done))|((with_reducible apply Xj);focus first|rfl|(simp [go_sem, *];done))|(simp only [Exit.then,Exit.inBlock,↓reduceIte,Nat.reduceEqDiff]))
  have hf_a := hB_a.frozen
  ((with_reducible apply Xt (fun w' => Blk w' _ _ _ ∧ w6.grownBy w' (some _))); (focus rfl); (focus (simp [go_sem, effAt, *]; exact ⟨rfl, (((((hB_a.set_ 0 _).set_ 1 _).set_ 2 _).set_ 3 _).set_ 4 _), (grown_set (grown_set (grown_set (grown_set (grown_set (World.grownBy.refl _ _))))))⟩)); (focus ((simp only [Xo,Xp,Xq,Xr,Xs];rfl))))
  clear hf_a hc_a hB_a
  intro w7 hs
  obtain ⟨hB_a, hs⟩ := hs
  simp only [Xq,Xr,Xs] at hB_a
  have Fw7 := Fw6.grown hs Fw6.size (by intro k hk; first | (injection hk with hk; subst hk; first | exact Nat.le_refl _ | exact Fw6.size | omega) | omega)
  replace hB_r := hB_r.grown hs (by intro hk; injection hk with hk; have := hB_r.lt; have := hB_a.lt; omega)
  replace hB_c := hB_c.grown hs (by intro hk; injection hk with hk; have := hB_c.lt; have := hB_a.lt; omega)
  clear hs Fw6
  clear hc_r; have hc_r := hB_r.cell
  clear hc_c; have hc_c := hB_c.cell
  have hc_a := hB_a.cell
  repeat (first|(with_reducible first|apply Xa|apply Xb|apply Xc|apply Xd)|((with_reducible apply Xk);(focus rfl);(focus (simp [go_sem,effAt,↓IntWalk.iteOmega, *];(try go_ints);with_reducible first|exact Xm|exact Xn));focus (simp only [Xo,Xp,Xq,Xr,Xs];rfl))|((with_reducible apply Xl);(focus rfl);focus (simp only [Xo,Xp,Xq,Xr,Xs];rfl))|(with_reducible first|apply Xe|apply Xf|apply Xg|apply Xh)|((with_reducible apply Xi);focus first|rfl|(simp [go_sem, *];done))|((with_reducible apply Xj);focus first|rfl|(simp [go_sem, *];done))|(simp only [Exit.then,Exit.inBlock,↓reduceIte,Nat.reduceEqDiff]))
  have hf_a := hB_a.frozen
  ((with_reducible apply Xt (fun w' => Blk w' _ _ _ ∧ w7.grownBy w' (some _))); (focus rfl); (focus (simp [go_sem, effAt, *]; exact ⟨rfl, (hB_a.set_ 2 _), (grown_set (World.grownBy.refl _ _))⟩)); (focus ((simp only [Xo,Xp,Xq,Xr,Xs];rfl))))
  clear hf_a hc_a hB_a
  intro w8 hs
  obtain ⟨hB_a, hs⟩ := hs
  simp only [Xq,Xr,Xs] at hB_a
  have Fw8 := Fw7.grown hs Fw7.size (by intro k hk; first | (injection hk with hk; subst hk; first | exact Nat.le_refl _ | exact Fw7.size | omega) | omega)
  replace hB_r := hB_r.grown hs (by intro hk; injection hk with hk; have := hB_r.lt; have := hB_a.lt; omega)
  replace hB_c := hB_c.grown hs (by intro hk; injection hk with hk; have := hB_c.lt; have := hB_a.lt; omega)
  clear hs Fw7
  clear hc_r; have hc_r := hB_r.cell
  clear hc_c; have hc_c := hB_c.cell
  have hc_a := hB_a.cell
  repeat (first|(with_reducible first|apply Xa|apply Xb|apply Xc|apply Xd)|((with_reducible apply Xk);(focus rfl);(focus (simp [go_sem,effAt,↓IntWalk.iteOmega, *];(try go_ints);with_reducible first|exact Xm|exact Xn));focus (simp only [Xo,Xp,Xq,Xr,Xs];rfl))|((with_reducible apply Xl);(focus rfl);focus (simp only [Xo,Xp,Xq,Xr,Xs];rfl))|(with_reducible first|apply Xe|apply Xf|apply Xg|apply Xh)|((with_reducible apply Xi);focus first|rfl|(simp [go_sem, *];done))|((with_reducible apply Xj);focus first|rfl|(simp [go_sem, *];done))|(simp only [Exit.then,Exit.inBlock,↓reduceIte,Nat.reduceEqDiff]))
  have hf_r := hB_r.frozen
  ((with_reducible apply Xt (fun w' => Blk w' _ _ _ ∧ w8.grownBy w' (some _))); (focus rfl); (focus (simp [go_sem, effAt, *]; exact ⟨rfl, (((((hB_r.set_ 0 _).set_ 1 _).set_ 2 _).set_ 3 _).set_ 4 _), (grown_set (grown_set (grown_set (grown_set (grown_set (World.grownBy.refl _ _))))))⟩)); (focus ((simp only [Xo,Xp,Xq,Xr,Xs];rfl))))
  clear hf_r hc_r hB_r
  intro w9 hs
  obtain ⟨hB_r, hs⟩ := hs
  simp only [Xq,Xr,Xs] at hB_r
  have Fw9 := Fw8.grown hs Fw8.size (by intro k hk; first | (injection hk with hk; subst hk; first | exact Nat.le_refl _ | exact Fw8.size | omega) | omega)
  replace hB_c := hB_c.grown hs (by intro hk; injection hk with hk; have := hB_c.lt; have := hB_r.lt; omega)
  replace hB_a := hB_a.grown hs (by intro hk; injection hk with hk; have := hB_a.lt; have := hB_r.lt; omega)
  clear hs Fw8
  clear hc_c; have hc_c := hB_c.cell
  clear hc_a; have hc_a := hB_a.cell
  have hc_r := hB_r.cell
  repeat (first|(with_reducible first|apply Xa|apply Xb|apply Xc|apply Xd)|((with_reducible apply Xk);(focus rfl);(focus (simp [go_sem,effAt,↓IntWalk.iteOmega, *];(try go_ints);with_reducible first|exact Xm|exact Xn));focus (simp only [Xo,Xp,Xq,Xr,Xs];rfl))|((with_reducible apply Xl);(focus rfl);focus (simp only [Xo,Xp,Xq,Xr,Xs];rfl))|(with_reducible first|apply Xe|apply Xf|apply Xg|apply Xh)|((with_reducible apply Xi);focus first|rfl|(simp [go_sem, *];done))|((with_reducible apply Xj);focus first|rfl|(simp [go_sem, *];done))|(simp only [Exit.then,Exit.inBlock,↓reduceIte,Nat.reduceEqDiff]))
  refine bodyPost_ret (v := (actV 0 false false 0 0)) (by simp [results, Try.results29, go_sem, *]) rfl ⟨rfl, by assumption⟩
theorem heard_4 (g : Nat) (s : Int) (ls : Bool) (tr mo : Int) {s2 tr2 mo2 k1 t1 f1 : Int} {c1 p1 ls2 : Bool} (w : World) (hB_l : LB w g s ls tr mo)
    (hF : ∀ w, LB w g s ls tr mo → Calls Try.prog 28 #[.pointer (some ⟨g, 0, none⟩), .iface 75 (.agg #[.int .u8 4, .int .u8 3])] w (Ret (actV k1 c1 p1 t1 f1) fun w' => LB w' g s2 ls2 tr2 mo2 ∧ w.grownBy w' (some g))) :
    Calls Try.prog 29 #[.pointer (some ⟨g, 0, none⟩), .int .u8 4, .bool false] w (Ret (actV k1 c1 false t1 f1) fun w' => LB w' g s2 ls2 tr2 mo2 ∧ w.grownBy w' (some g)) := by
  unfold LB at *
  go_enter Try.func29, Try.ntmps29
  have F0 : Turn (fun i => i = g ∨ w.heap.size ≤ i) w w := Turn.refl _
  have hc_l := hB_l.cell
  repeat (first|(with_reducible first|apply Xa|apply Xb|apply Xc|apply Xd)|((with_reducible apply Xk);(focus rfl);(focus (simp [go_sem,effAt,↓IntWalk.iteOmega, *];(try go_ints);with_reducible first|exact Xm|exact Xn));focus (simp only [Xo,Xp,Xq,Xr,Xs];rfl))|((with_reducible apply Xl);(focus rfl);focus (simp only [Xo,Xp,Xq,Xr,Xs];rfl))|(with_reducible first|apply Xe|apply Xf|apply Xg|apply Xh)|((with_reducible apply Xi);focus first|rfl|(simp [go_sem, *];done))|((with_reducible apply Xj);focus first|rfl|(simp [go_sem, *];done))|(simp only [Exit.then,Exit.inBlock,↓reduceIte,Nat.reduceEqDiff]))
  have lt_l_r := hB_l.lt
  have le_r := F0.size
  ((with_reducible apply Xu); (focus rfl); (focus (simp [go_sem, effAt]; exact ⟨rfl, rfl⟩)); (focus ((simp only [Xo,Xp,Xq,Xr,Xs];rfl))))
  intro w1 hB_r hs
  have Fw1 := F0.trans (Turn.of_below hs)
  replace hB_l := hB_l.below hs hB_l.lt
  clear hs F0
  clear hc_l; have hc_l := hB_l.cell
  have hc_r := hB_r.cell
  repeat (first|(with_reducible first|apply Xa|apply Xb|apply Xc|apply Xd)|((with_reducible apply Xk);(focus rfl);(focus (simp [go_sem,effAt,↓IntWalk.iteOmega, *];(try go_ints);with_reducible first|exact Xm|exact Xn));focus (simp only [Xo,Xp,Xq,Xr,Xs];rfl))|((with_reducible apply Xl);(focus rfl);focus (simp only [Xo,Xp,Xq,Xr,Xs];rfl))|(with_reducible first|apply Xe|apply Xf|apply Xg|apply Xh)|((with_reducible apply Xi);focus first|rfl|(simp [go_sem, *];done))|((with_reducible apply Xj);focus first|rfl|(simp [go_sem, *];done))|(simp only [Exit.then,Exit.inBlock,↓reduceIte,Nat.reduceEqDiff]))
  have lt_l_c := hB_l.lt
  have lt_r_c := hB_r.lt
  have le_c := Fw1.size
  ((with_reducible apply Xu); (focus rfl); (focus (simp [go_sem, effAt]; exact ⟨rfl, rfl⟩)); (focus ((simp only [Xo,Xp,Xq,Xr,Xs];rfl))))
  intro w2 hB_c hs
  have Fw2 := Fw1.trans (Turn.of_below hs)
  replace hB_l := hB_l.below hs hB_l.lt
  replace hB_r := hB_r.below hs hB_r.lt
  clear hs Fw1
  clear hc_l; have hc_l := hB_l.cell
  clear hc_r; have hc_r := hB_r.cell
  have hc_c := hB_c.cell
  repeat (first|(with_reducible first|apply Xa|apply Xb|apply Xc|apply Xd)|((with_reducible apply Xk);(focus rfl);(focus (simp [go_sem,effAt,↓IntWalk.iteOmega, *];(try go_ints);with_reducible first|exact Xm|exact Xn));focus (simp only [Xo,Xp,Xq,Xr,Xs];rfl))|((with_reducible apply Xl);(focus rfl);focus (simp only [Xo,Xp,Xq,Xr,Xs];rfl))|(with_reducible first|apply Xe|apply Xf|apply Xg|apply Xh)|((with_reducible apply Xi);focus first|rfl|(simp [go_sem, *];done))|((with_reducible apply Xj);focus first|rfl|(simp [go_sem, *];done))|(simp only [Exit.then,Exit.inBlock,↓reduceIte,Nat.reduceEqDiff]))
  have hf_c := hB_c.frozen
  ((with_reducible apply Xt (fun w' => Blk w' _ _ _ ∧ w2.grownBy w' (some _))); (focus rfl); (focus (simp [go_sem, effAt, *]; exact ⟨rfl, ((hB_c.set_ 0 _).set_ 1 _), (grown_set (grown_set (World.grownBy.refl _ _)))⟩)); (focus ((simp only [Xo,Xp,Xq,Xr,Xs];rfl))))
  clear hf_c hc_c hB_c
  intro w3 hs
  obtain ⟨hB_c, hs⟩ := hs
  simp only [Xq,Xr,Xs] at hB_c
  have Fw3 := Fw2.trans (Turn.of_grown hs (by first | exact .inl rfl | exact .inr (by omega)))
  replace hB_l := hB_l.grown hs (by intro hk; injection hk with hk; have := hB_l.lt; have := hB_c.lt; omega)
  replace hB_r := hB_r.grown hs (by intro hk; injection hk with hk; have := hB_r.lt; have := hB_c.lt; omega)
  clear hs Fw2
  clear hc_l; have hc_l := hB_l.cell
  clear hc_r; have hc_r := hB_r.cell
  have hc_c := hB_c.cell
  repeat (first|(with_reducible first|apply Xa|apply Xb|apply Xc|apply Xd)|((with_reducible apply Xk);(focus rfl);(focus (simp [go_sem,effAt,↓IntWalk.iteOmega, *];(try go_ints);with_reducible first|exact Xm|exact Xn));focus (simp only [Xo,Xp,Xq,Xr,Xs];rfl))|((with_reducible apply Xl);(focus rfl);focus (simp only [Xo,Xp,Xq,Xr,Xs];rfl))|(with_reducible first|apply Xe|apply Xf|apply Xg|apply Xh)|((with_reducible apply Xi);focus first|rfl|(simp [go_sem, *];done))|((with_reducible apply Xj);focus first|rfl|(simp [go_sem, *];done))|(simp only [Exit.then,Exit.inBlock,↓reduceIte,Nat.reduceEqDiff]))
  have hf_c := hB_c.frozen
  ((with_reducible apply Xt (fun w' => Blk w' _ _ _ ∧ w3.grownBy w' (some _))); (focus rfl); (focus (simp [go_sem, effAt, *]; exact ⟨rfl, (hB_c.set_ 1 _), (grown_set (World.grownBy.refl _ _))⟩)); (focus ((simp only [Xo,Xp,Xq,Xr,Xs];rfl))))
  clear hf_c hc_c hB_c
  intro w4 hs
  obtain ⟨hB_c, hs⟩ := hs
  simp only [Xq,Xr,Xs] at hB_c
  have Fw4 := Fw3.trans (Turn.of_grown hs (by first | exact .inl rfl | exact .inr (by omega)))
  replace hB_l := hB_l.grown hs (by intro hk; injection hk with hk; have := hB_l.lt; have := hB_c.lt; omega)
  replace hB_r := hB_r.grown hs (by intro hk; injection hk with hk; have := hB_r.lt; have := hB_c.lt; omega)
  clear hs Fw3
  clear hc_l; have hc_l := hB_l.cell
  clear hc_r; have hc_r := hB_r.cell
  have hc_c := hB_c.cell
  repeat (first|(with_reducible first|apply Xa|apply Xb|apply Xc|apply Xd)|((with_reducible apply Xk);(focus rfl);(focus (simp [go_sem,effAt,↓IntWalk.iteOmega, *];(try go_ints);with_reducible first|exact Xm|exact Xn));focus (simp only [Xo,Xp,Xq,Xr,Xs];rfl))|((with_reducible apply Xl);(focus rfl);focus (simp only [Xo,Xp,Xq,Xr,Xs];rfl))|(with_reducible first|apply Xe|apply Xf|apply Xg|apply Xh)|((with_reducible apply Xi);focus first|rfl|(simp [go_sem, *];done))|((with_reducible apply Xj);focus first|rfl|(simp [go_sem, *];done))|(simp only [Exit.then,Exit.inBlock,↓reduceIte,Nat.reduceEqDiff]))
  ((with_reducible apply Xt (fun w' => Blk w' _ _ _ ∧ w4.grownBy w' (some _))); (focus rfl); (focus (simp only [effAt]; simp [go_sem]; (with_reducible exact effUpon_enter (hF _ hB_l)))); (focus ((simp only [Xo,Xp,Xq,Xr,Xs];rfl))))
  clear hc_l hB_l
  intro w5 hs
  obtain ⟨hB_l, hs⟩ := hs
  have Fw5 := Fw4.trans (Turn.of_grown hs (by first | exact .inl rfl | exact .inr (by omega)))
  replace hB_r := hB_r.grown hs (by intro hk; injection hk with hk; have := hB_r.lt; have := hB_l.lt; omega)
  replace hB_c := hB_c.grown hs (by intro hk; injection hk with hk; have := hB_c.lt; have := hB_l.lt; omega)
  clear hs Fw4
  clear hc_r; have hc_r := hB_r.cell
  clear hc_c; have hc_c := hB_c.cell
  have hc_l := hB_l.cell
  repeat (first|(with_reducible first|apply Xa|apply Xb|apply Xc|apply Xd)|((with_reducible apply Xk);(focus rfl);(focus (simp [go_sem,effAt,↓IntWalk.iteOmega, *];(try go_ints);with_reducible first|exact Xm|exact Xn));focus (simp only [Xo,Xp,Xq,Xr,Xs];rfl))|((with_reducible apply Xl);(focus rfl);focus (simp only [Xo,Xp,Xq,Xr,Xs];rfl))|(with_reducible first|apply Xe|apply Xf|apply Xg|apply Xh)|((with_reducible apply Xi);focus first|rfl|(simp [go_sem, *];done))|((with_reducible apply Xj);focus first|rfl|(simp [go_sem, *];done))|(simp only [Exit.then,Exit.inBlock,↓reduceIte,Nat.reduceEqDiff]))
  have lt_l_a := hB_l.lt
  have lt_r_a := hB_r.lt
  have lt_c_a := hB_c.lt
  have le_a := Fw5.size
  ((with_reducible apply Xu); (focus rfl); (focus (simp [go_sem, effAt]; exact ⟨rfl, rfl⟩)); (focus ((simp only [Xo,Xp,Xq,Xr,Xs];rfl))))
  intro w6 hB_a hs
  have Fw6 := Fw5.trans (Turn.of_below hs)
  replace hB_l := hB_l.below hs hB_l.lt
  replace hB_r := hB_r.below hs hB_r.lt
  replace hB_c := hB_c.below hs hB_c.lt
  clear hs Fw5
  clear hc_l; have hc_l := hB_l.cell
  clear hc_r; have hc_r := hB_r.cell
  clear hc_c; have hc_c := hB_c.cell
  have hc_a := hB_a.cell
  repeat (first|(with_reducible first|apply Xa|apply Xb|apply Xc|apply Xd)|((with_reducible apply Xk);(focus rfl);(focus (simp [go_sem,effAt,↓IntWalk.iteOmega, *];(try go_ints);with_reducible first|exact Xm|exact Xn));focus (simp only [Xo,Xp,Xq,Xr,Xs];rfl))|((with_reducible apply Xl);(focus rfl);focus (simp only [Xo,Xp,Xq,Xr,Xs];rfl))|(with_reducible first|apply Xe|apply Xf|apply Xg|apply Xh)|((with_reducible apply Xi);focus first|rfl|(simp [go_sem, *];done))|((with_reducible apply Xj);focus first|rfl|(simp [go_sem, *];done))|(simp only [Exit.then,Exit.inBlock,↓reduceIte,Nat.reduceEqDiff]))
  have hf_a := hB_a.frozen
  ((with_reducible apply Xt (fun w' => Blk w' _ _ _ ∧ w6.grownBy w' (some _))); (focus rfl); (focus (simp [go_sem, effAt, *]; exact ⟨rfl, (((((hB_a.set_ 0 _).set_ 1 _).set_ 2 _).set_ 3 _).set_ 4 _), (grown_set (grown_set (grown_set (grown_set (grown_set (World.grownBy.refl _ _))))))⟩)); (focus ((simp only [Xo,Xp,Xq,Xr,Xs];rfl))))
  clear hf_a hc_a hB_a
  intro w7 hs
  obtain ⟨hB_a, hs⟩ := hs
  simp only [Xq,Xr,Xs] at hB_a
  have Fw7 := Fw6.trans (Turn.of_grown hs (by first | exact .inl rfl | exact .inr (by omega)))
  replace hB_l := hB_l.grown hs (by intro hk; injection hk with hk; have := hB_l.lt; have := hB_a.lt; omega)
  replace hB_r := hB_r.grown hs (by intro hk; injection hk with hk; have := hB_r.lt; have := hB_a.lt; omega)
  replace hB_c := hB_c.grown hs (by intro hk; injection hk with hk; have := hB_c.lt; have := hB_a.lt; omega)
  clear hs Fw6
  clear hc_l; have hc_l := hB_l.cell
  clear hc_r; have hc_r := hB_r.cell
  clear hc_c; have hc_c := hB_c.cell
  have hc_a := hB_a.cell
  repeat (first|(with_reducible first|apply Xa|apply Xb|apply Xc|apply Xd)|((with_reducible apply Xk);(focus rfl);(focus (simp [go_sem,effAt,↓IntWalk.iteOmega, *];(try go_ints);with_reducible first|exact Xm|exact Xn));focus (simp only [Xo,Xp,Xq,Xr,Xs];rfl))|((with_reducible apply Xl);(focus rfl);focus (simp only [Xo,Xp,Xq,Xr,Xs];rfl))|(with_reducible first|apply Xe|apply Xf|apply Xg|apply Xh)|((with_reducible apply Xi);focus first|rfl|(simp [go_sem, *];done))|((with_reducible apply Xj);focus first|rfl|(simp [go_sem, *];done))|(simp only [Exit.then,Exit.inBlock,↓reduceIte,Nat.reduceEqDiff]))
  have hf_a := hB_a.frozen
  ((with_reducible apply Xt (fun w' => Blk w' _ _ _ ∧ w7.grownBy w' (some _))); (focus rfl); (focus (simp [go_sem, effAt, *]; exact ⟨rfl, (hB_a.set_ 2 _), (grown_set (World.grownBy.refl _ _))⟩)); (focus ((simp only [Xo,Xp,Xq,Xr,Xs];rfl))))
  clear hf_a hc_a hB_a
  intro w8 hs
  obtain ⟨hB_a, hs⟩ := hs
  simp only [Xq,Xr,Xs] at hB_a
  have Fw8 := Fw7.trans (Turn.of_grown hs (by first | exact .inl rfl | exact .inr (by omega)))
  replace hB_l := hB_l.grown hs (by intro hk; injection hk with hk; have := hB_l.lt; have := hB_a.lt; omega)
  replace hB_r := hB_r.grown hs (by intro hk; injection hk with hk; have := hB_r.lt; have := hB_a.lt; omega)
  replace hB_c := hB_c.grown hs (by intro hk; injection hk with hk; have := hB_c.lt; have := hB_a.lt; omega)
  clear hs Fw7
  clear hc_l; have hc_l := hB_l.cell
  clear hc_r; have hc_r := hB_r.cell
  clear hc_c; have hc_c := hB_c.cell
  have hc_a := hB_a.cell
  repeat (first|(with_reducible first|apply Xa|apply Xb|apply Xc|apply Xd)|((with_reducible apply Xk);(focus rfl);(focus (simp [go_sem,effAt,↓IntWalk.iteOmega, *];(try go_ints);with_reducible first|exact Xm|exact Xn));focus (simp only [Xo,Xp,Xq,Xr,Xs];rfl))|((with_reducible apply Xl);(focus rfl);focus (simp only [Xo,Xp,Xq,Xr,Xs];rfl))|(with_reducible first|apply Xe|apply Xf|apply Xg|apply Xh)|((with_reducible apply Xi);focus first|rfl|(simp [go_sem, *];done))|((with_reducible apply Xj);focus first|rfl|(simp [go_sem, *];done))|(simp only [Exit.then,Exit.inBlock,↓reduceIte,Nat.reduceEqDiff]))
  have hf_r := hB_r.frozen
  ((with_reducible apply Xt (fun w' => Blk w' _ _ _ ∧ w8.grownBy w' (some _))); (focus rfl); (focus (simp [go_sem, effAt, *]; exact ⟨rfl, (((((hB_r.set_ 0 _).set_ 1 _).set_ 2 _).set_ 3 _).set_ 4 _), (grown_set (grown_set (grown_set (grown_set (grown_set (World.grownBy.refl _ _))))))⟩)); (focus ((simp only [Xo,Xp,Xq,Xr,Xs];rfl))))
  clear hf_r hc_r hB_r
  intro w9 hs
  obtain ⟨hB_r, hs⟩ := hs
  simp only [Xq,Xr,Xs] at hB_r
  have Fw9 := Fw8.trans (Turn.of_grown hs (by first | exact .inl rfl | exact .inr (by omega)))
  replace hB_l := hB_l.grown hs (by intro hk; injection hk with hk; have := hB_l.lt; have := hB_r.lt; omega)
  replace hB_c := hB_c.grown hs (by intro hk; injection hk with hk; have := hB_c.lt; have := hB_r.lt; omega)
  replace hB_a := hB_a.grown hs (by intro hk; injection hk with hk; have := hB_a.lt; have := hB_r.lt; omega)
  clear hs Fw8
  clear hc_l; have hc_l := hB_l.cell
  clear hc_c; have hc_c := hB_c.cell
  clear hc_a; have hc_a := hB_a.cell
  have hc_r := hB_r.cell
  repeat (first|(with_reducible first|apply Xa|apply Xb|apply Xc|apply Xd)|((with_reducible apply Xk);(focus rfl);(focus (simp [go_sem,effAt,↓IntWalk.iteOmega, *];(try go_ints);with_reducible first|exact Xm|exact Xn));focus (simp only [Xo,Xp,Xq,Xr,Xs];rfl))|((with_reducible apply Xl);(focus rfl);focus (simp only [Xo,Xp,Xq,Xr,Xs];rfl))|(with_reducible first|apply Xe|apply Xf|apply Xg|apply Xh)|((with_reducible apply Xi);focus first|rfl|(simp [go_sem, *];done))|((with_reducible apply Xj);focus first|rfl|(simp [go_sem, *];done))|(simp only [Exit.then,Exit.inBlock,↓reduceIte,Nat.reduceEqDiff]))
  refine bodyPost_ret (v := actV k1 c1 false t1 f1) (by simp [results, Try.results29, go_sem, *]) rfl ⟨rfl, hB_l, Turn.to_grown (by assumption)⟩
theorem heard_nil_4 (w : World) : Calls Try.prog 29 #[.pointer none, .int .u8 4, .bool false] w (Ret (actV 0 false false 0 0) (Below w.heap.size w)) := by
  go_enter Try.func29, Try.ntmps29
  have F0 : Below w.heap.size w w := Below.refl _ _
  repeat (first|(with_reducible first|apply Xa|apply Xb|apply Xc|apply Xd)|((with_reducible apply Xk);(focus rfl);(focus (simp [go_sem,effAt,↓IntWalk.iteOmega, *];(try go_ints);with_reducible first|exact Xm|exact Xn));focus (simp only [Xo,Xp,Xq,Xr,Xs];rfl))|((with_reducible apply Xl);(focus rfl);focus (simp only [Xo,Xp,Xq,Xr,Xs];rfl))|(with_reducible first|apply Xe|apply Xf|apply Xg|apply Xh)|((with_reducible apply Xi);focus first|rfl|(simp [go_sem, *];done))|((with_reducible apply Xj);focus first|rfl|(simp [go_sem, *];done))|(simp only [Exit.then,Exit.inBlock,↓reduceIte,Nat.reduceEqDiff]))
  ((with_reducible apply Xu); (focus rfl); (focus (simp [go_sem, effAt]; exact ⟨rfl, rfl⟩)); (focus ((simp only [Xo,Xp,Xq,Xr,Xs];rfl))))
  intro w1 hB_r hs
  have Fw1 := F0.trans (hs.mono F0.size)
  clear hs F0
  have hc_r := hB_r.cell
  repeat (first|(with_reducible first|apply Xa|apply Xb|apply Xc|apply Xd)|((with_reducible apply Xk);(focus rfl);(focus (simp [go_sem,effAt,↓IntWalk.iteOmega, *];(try go_ints);with_reducible first|exact Xm|exact Xn));focus (simp only [Xo,Xp,Xq,Xr,Xs];rfl))|((with_reducible apply Xl);(focus rfl);focus (simp only [Xo,Xp,Xq,Xr,Xs];rfl))|(with_reducible first|apply Xe|apply Xf|apply Xg|apply Xh)|((with_reducible apply Xi);focus first|rfl|(simp [go_sem, *];done))|((with_reducible apply Xj);focus first|rfl|(simp [go_sem, *];done))|(simp only [Exit.then,Exit.inBlock,↓reduceIte,Nat.reduceEqDiff]))
  have lt_r_c := hB_r.lt
  ((with_reducible apply Xu); (focus rfl); (focus (simp [go_sem, effAt]; exact ⟨rfl, rfl⟩)); (focus ((simp only [Xo,Xp,Xq,Xr,Xs];rfl))))
  intro w2 hB_c hs
  have Fw2 := Fw1.trans (hs.mono Fw1.size)
  replace hB_r := hB_r.below hs hB_r.lt
  clear hs Fw1
  clear hc_r; have hc_r := hB_r.cell
  have hc_c := hB_c.cell
  repeat (first|(with_reducible first|apply Xa|apply Xb|apply Xc|apply Xd)|((with_reducible apply Xk);(focus rfl);(focus (simp [go_sem,effAt,↓IntWalk.iteOmega, *];(try go_ints);with_reducible first|exact Xm|exact Xn));focus (simp only [Xo,Xp,Xq,Xr,Xs];rfl))|((with_reducible apply Xl);(focus rfl);focus (simp only [Xo,Xp,Xq,Xr,Xs];rfl))|(with_reducible first|apply Xe|apply Xf|apply Xg|apply Xh)|((with_reducible apply Xi);focus first|rfl|(simp [go_sem, *];done))|((with_reducible apply Xj);focus first|rfl|(simp [go_sem, *];done))|(simp only [Exit.then,Exit.inBlock,↓reduceIte,Nat.reduceEqDiff]))
  have hf_c := hB_c.frozen
  ((with_reducible apply Xt (fun w' => Blk w' _ _ _ ∧ w2.grownBy w' (some _))); (focus rfl); (focus (simp [go_sem, effAt, *]; exact ⟨rfl, ((hB_c.set_ 0 _).set_ 1 _), (grown_set (grown_set (World.grownBy.refl _ _)))⟩)); (focus ((simp only [Xo,Xp,Xq,Xr,Xs];rfl))))
  clear hf_c hc_c hB_c
  intro w3 hs
  obtain ⟨hB_c, hs⟩ := hs
  simp only [Xq,Xr,Xs] at hB_c
  have Fw3 := Fw2.grown hs Fw2.size (by intro k hk; first | (injection hk with hk; subst hk; first | exact Nat.le_refl _ | exact Fw2.size | omega) | omega)
  replace hB_r := hB_r.grown hs (by intro hk; injection hk with hk; have := hB_r.lt; have := hB_c.lt; omega)
  clear hs Fw2
  clear hc_r; have hc_r := hB_r.cell
  have hc_c := hB_c.cell
  repeat (first|(with_reducible first|apply Xa|apply Xb|apply Xc|apply Xd)|((with_reducible apply Xk);(focus rfl);(focus (simp [go_sem,effAt,↓IntWalk.iteOmega, *];(try go_ints);with_reducible first|exact Xm|exact Xn));focus (simp only [Xo,Xp,Xq,Xr,Xs];rfl))|((with_reducible apply Xl);(focus rfl);focus (simp only [Xo,Xp,Xq,Xr,Xs];rfl))|(with_reducible first|apply Xe|apply Xf|apply Xg|apply Xh)|((with_reducible apply Xi);focus first|rfl|(simp [go_sem, *];done))|((with_reducible apply Xj);focus first|rfl|(simp [go_sem, *];done))|(simp only [Exit.then,Exit.inBlock,↓reduceIte,Nat.reduceEqDiff]))
  have hf_c := hB_c.frozen
  ((with_reducible apply Xt (fun w' => Blk w' _ _ _ ∧ w3.grownBy w' (some _))); (focus rfl); (focus (simp [go_sem, effAt, *]; exact ⟨rfl, (hB_c.set_ 1 _), (grown_set (World.grownBy.refl _ _))⟩)); (focus ((simp only [Xo,Xp,Xq,Xr,Xs];rfl))))
  clear hf_c hc_c hB_c
  intro w4 hs
  obtain ⟨hB_c, hs⟩ := hs
  simp only [Xq,Xr,Xs] at hB_c
  have Fw4 := Fw3.grown hs Fw3.size (by intro k hk; first | (injection hk with hk; subst hk; first | exact Nat.le_refl _ | exact Fw3.size | omega) | omega)
  replace hB_r := hB_r.grown hs (by intro hk; injection hk with hk; have := hB_r.lt; have := hB_c.lt; omega)
  clear hs Fw3
  clear hc_r; have hc_r := hB_r.cell
  have hc_c := hB_c.cell
  repeat (first|(with_reducible first|apply Xa|apply Xb|apply Xc|apply Xd)|((with_reducible apply Xk);(focus rfl);(focus (simp [go_sem,effAt,↓IntWalk.iteOmega, *];(try go_ints);with_reducible first|exact Xm|exact Xn));focus (simp only [Xo,Xp,Xq,Xr,Xs];rfl))|((with_reducible apply Xl);(focus rfl);focus (simp only [Xo,Xp,Xq,Xr,Xs];rfl))|(with_reducible first|apply Xe|apply Xf|apply Xg|apply Xh)|((with_reducible apply Xi);focus first|rfl|(simp [go_sem, *];done))|((with_reducible apply Xj);focus first|rfl|(simp [go_sem, *];done))|(simp only [Exit.then,Exit.inBlock,↓reduceIte,Nat.reduceEqDiff]))
  ((with_reducible apply Xt (Below w4.heap.size w4)); (focus rfl); (focus (simp only [effAt]; simp [go_sem]; (with_reducible exact effUpon_enter (does_nil _ _)))); (focus ((simp only [Xo,Xp,Xq,Xr,Xs];rfl))))
  intro w5 hs
  have Fw5 := Fw4.trans (hs.mono Fw4.size)
  replace hB_r := hB_r.below hs hB_r.lt
  replace hB_c := hB_c.below hs hB_c.lt
  clear hs Fw4
  clear hc_r; have hc_r := hB_r.cell
  clear hc_c; have hc_c := hB_c.cell
  repeat (first|(with_reducible first|apply Xa|apply Xb|apply Xc|apply Xd)|((with_reducible apply Xk);(focus rfl);(focus (simp [go_sem,effAt,↓IntWalk.iteOmega, *];(try go_ints);with_reducible first|exact Xm|exact Xn));focus (simp only [Xo,Xp,Xq,Xr,Xs];rfl))|((with_reducible apply Xl);(focus rfl);focus (simp only [Xo,Xp,Xq,Xr,Xs];rfl))|(with_reducible first|apply Xe|apply Xf|apply Xg|apply Xh)|((with_reducible apply Xi);focus first|rfl|(simp [go_sem, *];done))|((with_reducible apply Xj);focus first|rfl|(simp [go_sem, *];done))|(simp only [Exit.then,Exit.inBlock,↓reduceIte,Nat.reduceEqDiff]))
  have lt_r_a := hB_r.lt
  have lt_c_a := hB_c.lt
  ((with_reducible apply Xu); (focus rfl); (focus (simp [go_sem, effAt]; exact ⟨rfl, rfl⟩)); (focus ((simp only [Xo,Xp,Xq,Xr,Xs];rfl))))
  intro w6 hB_a hs
  have Fw6 := Fw5.trans (hs.mono Fw5.size)
  replace hB_r := hB_r.below hs hB_r.lt
  replace hB_c := hB_c.below hs hB_c.lt
  clear hs Fw5
  clear hc_r; have hc_r := hB_r.cell
  clear hc_c; have hc_c := hB_c.cell
  have hc_a := hB_a.cell
  repeat (first|(with_reducible first|apply Xa|apply Xb|apply Xc|apply Xd)|((with_reducible apply Xk);(focus rfl);(focus (simp [go_sem,effAt,↓IntWalk.iteOmega, *];(try go_ints);with_reducible first|exact Xm|exact Xn));focus (simp only [Xo,Xp,Xq,Xr,Xs];rfl))|((with_reducible apply Xl);(focus rfl);focus (simp only [Xo,Xp,Xq,Xr,Xs];rfl))|(with_reducible first|apply Xe|apply Xf|apply Xg|apply Xh)|((with_reducible apply Xi);focus first|rfl|(simp [go_sem, *];done))|((with_reducible apply Xj);focus first|rfl|(simp [go_sem, *];done))|(simp only [Exit.then,Exit.inBlock,↓reduceIte,Nat.reduceEqDiff]))
  have hf_a := hB_a.frozen
  ((with_reducible apply Xt (fun w' => Blk w' _ _ _ ∧ w6.grownBy w' (some _))); (focus rfl); (focus (simp [go_sem, effAt, *]; exact ⟨rfl, (((((hB_a.set_ 0 _).set_ 1 _).set_ 2 _).set_ 3 _).set_ 4 _), (grown_set (grown_set (grown_set (grown_set (grown_set (World.grownBy.refl _ _))))))⟩)); (focus ((simp only [Xo,Xp,Xq,Xr,Xs];rfl))))
  clear hf_a hc_a hB_a
  intro w7 hs
  obtain ⟨hB_a, hs⟩ := hs
  simp only [Xq,Xr,Xs] at hB_a
  have Fw7 := Fw6.grown hs Fw6.size (by intro k hk; first | (injection hk with hk; subst hk; first | exact Nat.le_refl _ | exact Fw6.size | omega) | omega)
  replace hB_r := hB_r.grown hs (by intro hk; injection hk with hk; have := hB_r.lt; have := hB_a.lt; omega)
  replace hB_c := hB_c.grown hs (by intro hk; injection hk with hk; have := hB_c.lt; have := hB_a.lt; omega)
  clear hs Fw6
  clear hc_r; have hc_r := hB_r.cell
  clear hc_c; have hc_c := hB_c.cell
  have hc_a := hB_a.cell
  repeat (first|(with_reducible first|apply Xa|apply Xb|apply Xc|apply Xd)|((with_reducible apply Xk);(focus rfl);(focus (simp [go_sem,effAt,↓IntWalk.iteOmega, *];(try go_ints);with_reducible first|exact Xm|exact Xn));focus (simp only [Xo,Xp,Xq,Xr,Xs];rfl))|((with_reducible apply Xl);(focus rfl);focus (simp only [Xo,Xp,Xq,Xr,Xs];rfl))|(with_reducible first|apply Xe|apply Xf|apply Xg|apply Xh)|((with_reducible apply Xi);focus first|rfl|(simp [go_sem, *];done))|((with_reducible apply Xj);focus first|rfl|(simp [go_sem, *];done))|(simp only [Exit.then,Exit.inBlock,↓reduceIte,Nat.reduceEqDiff]))
  have hf_a := hB_a.frozen
  ((with_reducible apply Xt (fun w' => Blk w' _ _ _ ∧ w7.grownBy w' (some _))); (focus rfl); (focus (simp [go_sem, effAt, *]; exact ⟨rfl, (hB_a.set_ 2 _), (grown_set (World.grownBy.refl _ _))⟩)); (focus ((simp only [Xo,Xp,Xq,Xr,Xs];rfl))))
  clear hf_a hc_a hB_a
  intro w8 hs
  obtain ⟨hB_a, hs⟩ := hs
  simp only [Xq,Xr,Xs] at hB_a
  have Fw8 := Fw7.grown hs Fw7.size (by intro k hk; first | (injection hk with hk; subst hk; first | exact Nat.le_refl _ | exact Fw7.size | omega) | omega)
  replace hB_r := hB_r.grown hs (by intro hk; injection hk with hk; have := hB_r.lt; have := hB_a.lt; omega)
  replace hB_c := hB_c.grown hs (by intro hk; injection hk with hk; have := hB_c.lt; have := hB_a.lt; omega)
  clear hs Fw7
  clear hc_r; have hc_r := hB_r.cell
  clear hc_c; have hc_c := hB_c.cell
  have hc_a := hB_a.cell
  repeat (first|(with_reducible first|apply Xa|apply Xb|apply Xc|apply Xd)|((with_reducible apply Xk);(focus rfl);(focus (simp [go_sem,effAt,↓IntWalk.iteOmega, *];(try go_ints);with_reducible first|exact Xm|exact Xn));focus (simp only [Xo,Xp,Xq,Xr,Xs];rfl))|((with_reducible apply Xl);(focus rfl);focus (simp only [Xo,Xp,Xq,Xr,Xs];rfl))|(with_reducible first|apply Xe|apply Xf|apply Xg|apply Xh)|((with_reducible apply Xi);focus first|rfl|(simp [go_sem, *];done))|((with_reducible apply Xj);focus first|rfl|(simp [go_sem, *];done))|(simp only [Exit.then,Exit.inBlock,↓reduceIte,Nat.reduceEqDiff]))
  have hf_r := hB_r.frozen
  ((with_reducible apply Xt (fun w' => Blk w' _ _ _ ∧ w8.grownBy w' (some _))); (focus rfl); (focus (simp [go_sem, effAt, *]; exact ⟨rfl, (((((hB_r.set_ 0 _).set_ 1 _).set_ 2 _).set_ 3 _).set_ 4 _), (grown_set (grown_set (grown_set (grown_set (grown_set (World.grownBy.refl _ _))))))⟩)); (focus ((simp only [Xo,Xp,Xq,Xr,Xs];rfl))))
  clear hf_r hc_r hB_r
  intro w9 hs
  obtain ⟨hB_r, hs⟩ := hs
  simp only [Xq,Xr,Xs] at hB_r
  have Fw9 := Fw8.grown hs Fw8.size (by intro k hk; first | (injection hk with hk; subst hk; first | exact Nat.le_refl _ | exact Fw8.size | omega) | omega)
  replace hB_c := hB_c.grown hs (by intro hk; injection hk with hk; have := hB_c.lt; have := hB_r.lt; omega)
  replace hB_a := hB_a.grown hs (by intro hk; injection hk with hk; have := hB_a.lt; have := hB_r.lt; omega)
  clear hs Fw8
  clear hc_c; have hc_c := hB_c.cell
  clear hc_a; have hc_a := hB_a.cell
  have hc_r := hB_r.cell
  repeat (first|(with_reducible first|apply Xa|apply Xb|apply Xc|apply Xd)|((with_reducible apply Xk);(focus rfl);(focus (simp [go_sem,effAt,↓IntWalk.iteOmega, *];(try go_ints);with_reducible first|exact Xm|exact Xn));focus (simp only [Xo,Xp,Xq,Xr,Xs];rfl))|((with_reducible apply Xl);(focus rfl);focus (simp only [Xo,Xp,Xq,Xr,Xs];rfl))|(with_reducible first|apply Xe|apply Xf|apply Xg|apply Xh)|((with_reducible apply Xi);focus first|rfl|(simp [go_sem, *];done))|((with_reducible apply Xj);focus first|rfl|(simp [go_sem, *];done))|(simp only [Exit.then,Exit.inBlock,↓reduceIte,Nat.reduceEqDiff]))
  refine bodyPost_ret (v := (actV 0 false false 0 0)) (by simp [results, Try.results29, go_sem, *]) rfl ⟨rfl, by assumption⟩
theorem heard_o (g : Nat) (s : Int) (ls : Bool) (tr mo : Int) (k : Int) {s2 tr2 mo2 k1 t1 f1 : Int} {c1 p1 ls2 : Bool} (w : World) (hB_l : LB w g s ls tr mo) (h1 : ¬ k = 1) (h4 : ¬ k = 4)
    (hF : ∀ w, LB w g s ls tr mo → Calls Try.prog 28 #[.pointer (some ⟨g, 0, none⟩), .iface 75 (.agg #[.int .u8 k, .int .u8 0])] w (Ret (actV k1 c1 p1 t1 f1) fun w' => LB w' g s2 ls2 tr2 mo2 ∧ w.grownBy w' (some g))) :
    Calls Try.prog 29 #[.pointer (some ⟨g, 0, none⟩), .int .u8 k, .bool false] w (Ret (actV k1 c1 false t1 f1) fun w' => LB w' g s2 ls2 tr2 mo2 ∧ w.grownBy w' (some g)) := by
  unfold LB at *
  have n1 : (k == 1) = false := by simpa using h1
  have n4 : (k == 4) = false := by simpa using h4
  go_enter Try.func29, Try.ntmps29
  have F0 : Turn (fun i => i = g ∨ w.heap.size ≤ i) w w := Turn.refl _
  have hc_l := hB_l.cell
  repeat (first|(with_reducible first|apply Xa|apply Xb|apply Xc|apply Xd)|((with_reducible apply Xk);(focus rfl);(focus (simp [go_sem,effAt,↓IntWalk.iteOmega, *];(try go_ints);with_reducible first|exact Xm|exact Xn));focus (simp only [Xo,Xp,Xq,Xr,Xs];rfl))|((with_reducible apply Xl);(focus rfl);focus (simp only [Xo,Xp,Xq,Xr,Xs];rfl))|(with_reducible first|apply Xe|apply Xf|apply Xg|apply Xh)|((with_reducible apply Xi);focus first|rfl|(simp [go_sem, *];done))|((with_reducible apply Xj);focus first|rfl|(simp [go_sem, *];done))|(simp only [Exit.then,Exit.inBlock,↓reduceIte,Nat.reduceEqDiff]))
  have lt_l_r := hB_l.lt
  have le_r := F0.size
  ((with_reducible apply Xu); (focus rfl); (focus (simp [go_sem, effAt]; exact ⟨rfl, rfl⟩)); (focus ((simp only [Xo,Xp,Xq,Xr,Xs];rfl))))
  intro w1 hB_r hs
  have Fw1 := F0.trans (Turn.of_below hs)
  replace hB_l := hB_l.below hs hB_l.lt
  clear hs F0
  clear hc_l; have hc_l := hB_l.cell
  have hc_r := hB_r.cell
  repeat (first|(with_reducible first|apply Xa|apply Xb|apply Xc|apply Xd)|((with_reducible apply Xk);(focus rfl);(focus (simp [go_sem,effAt,↓IntWalk.iteOmega, *];(try go_ints);with_reducible first|exact Xm|exact Xn));focus (simp only [Xo,Xp,Xq,Xr,Xs];rfl))|((with_reducible apply Xl);(focus rfl);focus (simp only [Xo,Xp,Xq,Xr,Xs];rfl))|(with_reducible first|apply Xe|apply Xf|apply Xg|apply Xh)|((with_reducible apply Xi);focus first|rfl|(simp [go_sem, *];done))|((with_reducible apply Xj);focus first|rfl|(simp [go_sem, *];done))|(simp only [Exit.then,Exit.inBlock,↓reduceIte,Nat.reduceEqDiff]))
  have lt_l_c := hB_l.lt
  have lt_r_c := hB_r.lt
  have le_c := Fw1.size
  ((with_reducible apply Xu); (focus rfl); (focus (simp [go_sem, effAt]; exact ⟨rfl, rfl⟩)); (focus ((simp only [Xo,Xp,Xq,Xr,Xs];rfl))))
  intro w2 hB_c hs
  have Fw2 := Fw1.trans (Turn.of_below hs)
  replace hB_l := hB_l.below hs hB_l.lt
  replace hB_r := hB_r.below hs hB_r.lt
  clear hs Fw1
  clear hc_l; have hc_l := hB_l.cell
  clear hc_r; have hc_r := hB_r.cell
  have hc_c := hB_c.cell
  repeat (first|(with_reducible first|apply Xa|apply Xb|apply Xc|apply Xd)|((with_reducible apply Xk);(focus rfl);(focus (simp [go_sem,effAt,↓IntWalk.iteOmega, *];(try go_ints);with_reducible first|exact Xm|exact Xn));focus (simp only [Xo,Xp,Xq,Xr,Xs];rfl))|((with_reducible apply Xl);(focus rfl);focus (simp only [Xo,Xp,Xq,Xr,Xs];rfl))|(with_reducible first|apply Xe|apply Xf|apply Xg|apply Xh)|((with_reducible apply Xi);focus first|rfl|(simp [go_sem, *];done))|((with_reducible apply Xj);focus first|rfl|(simp [go_sem, *];done))|(simp only [Exit.then,Exit.inBlock,↓reduceIte,Nat.reduceEqDiff]))
  have hf_c := hB_c.frozen
  ((with_reducible apply Xt (fun w' => Blk w' _ _ _ ∧ w2.grownBy w' (some _))); (focus rfl); (focus (simp [go_sem, effAt, *]; exact ⟨rfl, ((hB_c.set_ 0 _).set_ 1 _), (grown_set (grown_set (World.grownBy.refl _ _)))⟩)); (focus ((simp only [Xo,Xp,Xq,Xr,Xs];rfl))))
  clear hf_c hc_c hB_c
  intro w3 hs
  obtain ⟨hB_c, hs⟩ := hs
  simp only [Xq,Xr,Xs] at hB_c
  have Fw3 := Fw2.trans (Turn.of_grown hs (by first | exact .inl rfl | exact .inr (by omega)))
  replace hB_l := hB_l.grown hs (by intro hk; injection hk with hk; have := hB_l.lt; have := hB_c.lt; omega)
  replace hB_r := hB_r.grown hs (by intro hk; injection hk with hk; have := hB_r.lt; have := hB_c.lt; omega)
  clear hs Fw2
  clear hc_l; have hc_l := hB_l.cell
  clear hc_r; have hc_r := hB_r.cell
  have hc_c := hB_c.cell
  repeat (first|(with_reducible first|apply Xa|apply Xb|apply Xc|apply Xd)|((with_reducible apply Xk);(focus rfl);(focus (simp [go_sem,effAt,↓IntWalk.iteOmega, *];(try go_ints);with_reducible first|exact Xm|exact Xn));focus (simp only [Xo,Xp,Xq,Xr,Xs];rfl))|((with_reducible apply Xl);(focus rfl);focus (simp only [Xo,Xp,Xq,Xr,Xs];rfl))|(with_reducible first|apply Xe|apply Xf|apply Xg|apply Xh)|((with_reducible apply Xi);focus first|rfl|(simp [go_sem, *];done))|((with_reducible apply Xj);focus first|rfl|(simp [go_sem, *];done))|(simp only [Exit.then,Exit.inBlock,↓reduceIte,Nat.reduceEqDiff]))
  ((with_reducible apply Xt (fun w' => Blk w' _ _ _ ∧ w3.grownBy w' (some _))); (focus rfl); (focus (simp only [effAt]; simp [go_sem]; (with_reducible exact effUpon_enter (hF _ hB_l)))); (focus ((simp only [Xo,Xp,Xq,Xr,Xs];rfl))))
  clear hc_l hB_l
  intro w4 hs
  obtain ⟨hB_l, hs⟩ := hs
  have Fw4 := Fw3.trans (Turn.of_grown hs (by first | exact .inl rfl | exact .inr (by omega)))
  replace hB_r := hB_r.grown hs (by intro hk; injection hk with hk; have := hB_r.lt; have := hB_l.lt; omega)
  replace hB_c := hB_c.grown hs (by intro hk; injection hk with hk; have := hB_c.lt; have := hB_l.lt; omega)
  clear hs Fw3
  clear hc_r; have hc_r := hB_r.cell
  clear hc_c; have hc_c := hB_c.cell
  have hc_l := hB_l.cell
  repeat (first|(with_reducible first|apply Xa|apply Xb|apply Xc|apply Xd)|((with_reducible apply Xk);(focus rfl);(focus (simp [go_sem,effAt,↓IntWalk.iteOmega, *];(try go_ints);with_reducible first|exact Xm|exact Xn));focus (simp only [Xo,Xp,Xq,Xr,Xs];rfl))|((with_reducible apply Xl);(focus rfl);focus (simp only [Xo,Xp,Xq,Xr,Xs];rfl))|(with_reducible first|apply Xe|apply Xf|apply Xg|apply Xh)|((with_reducible apply Xi);focus first|rfl|(simp [go_sem, *];done))|((with_reducible apply Xj);focus first|rfl|(simp [go_sem, *];done))|(simp only [Exit.then,Exit.inBlock,↓reduceIte,Nat.reduceEqDiff]))
  have lt_l_a := hB_l.lt
  have lt_r_a := hB_r.lt
  have lt_c_a := hB_c.lt
  have le_a := Fw4.size
  ((with_reducible apply Xu); (focus rfl); (focus (simp [go_sem, effAt]; exact ⟨rfl, rfl⟩)); (focus ((simp only [Xo,Xp,Xq,Xr,Xs];rfl))))
  intro w5 hB_a hs
  have Fw5 := Fw4.trans (Turn.of_below hs)
  replace hB_l := hB_l.below hs hB_l.lt
  replace hB_r := hB_r.below hs hB_r.lt
  replace hB_c := hB_c.below hs hB_c.lt
  clear hs Fw4
  clear hc_l; have hc_l := hB_l.cell
  clear hc_r; have hc_r := hB_r.cell
  clear hc_c; have hc_c := hB_c.cell
  have hc_a := hB_a.cell
  repeat (first|(with_reducible first|apply Xa|apply Xb|apply Xc|apply Xd)|((with_reducible apply Xk);(focus rfl);(focus (simp [go_sem,effAt,↓IntWalk.iteOmega, *];(try go_ints);with_reducible first|exact Xm|exact Xn));focus (simp only [Xo,Xp,Xq,Xr,Xs];rfl))|((with_reducible apply Xl);(focus rfl);focus (simp only [Xo,Xp,Xq,Xr,Xs];rfl))|(with_reducible first|apply Xe|apply Xf|apply Xg|apply Xh)|((with_reducible apply Xi);focus first|rfl|(simp [go_sem, *];done))|((with_reducible apply Xj);focus first|rfl|(simp [go_sem, *];done))|(simp only [Exit.then,Exit.inBlock,↓reduceIte,Nat.reduceEqDiff]))
  have hf_a := hB_a.frozen
  ((with_reducible apply Xt (fun w' => Blk w' _ _ _ ∧ w5.grownBy w' (some _))); (focus rfl); (focus (simp [go_sem, effAt, *]; exact ⟨rfl, (((((hB_a.set_ 0 _).set_ 1 _).set_ 2 _).set_ 3 _).set_ 4 _), (grown_set (grown_set (grown_set (grown_set (grown_set (World.grownBy.refl _ _))))))⟩)); (focus ((simp only [Xo,Xp,Xq,Xr,Xs];rfl))))
  clear hf_a hc_a hB_a
  intro w6 hs
  obtain ⟨hB_a, hs⟩ := hs
  simp only [Xq,Xr,Xs] at hB_a
  have Fw6 := Fw5.trans (Turn.of_grown hs (by first | exact .inl rfl | exact .inr (by omega)))
  replace hB_l := hB_l.grown hs (by intro hk; injection hk with hk; have := hB_l.lt; have := hB_a.lt; omega)
  replace hB_r := hB_r.grown hs (by intro hk; injection hk with hk; have := hB_r.lt; have := hB_a.lt; omega)
  replace hB_c := hB_c.grown hs (by intro hk; injection hk with hk; have := hB_c.lt; have := hB_a.lt; omega)
  clear hs Fw5
  clear hc_l; have hc_l := hB_l.cell
  clear hc_r; have hc_r := hB_r.cell
  clear hc_c; have hc_c := hB_c.cell
  have hc_a := hB_a.cell
  repeat (first|(with_reducible first|apply Xa|apply Xb|apply Xc|apply Xd)|((with_reducible apply Xk);(focus rfl);(focus (simp [go_sem,effAt,↓IntWalk.iteOmega, *];(try go_ints);with_reducible first|exact Xm|exact Xn));focus (simp only [Xo,Xp,Xq,Xr,Xs];rfl))|((with_reducible apply Xl);(focus rfl);focus (simp only [Xo,Xp,Xq,Xr,Xs];rfl))|(with_reducible first|apply Xe|apply Xf|apply Xg|apply Xh)|((with_reducible apply Xi);focus first|rfl|(simp [go_sem, *];done))|((with_reducible apply Xj);focus first|rfl|(simp [go_sem, *];done))|(simp only [Exit.then,Exit.inBlock,↓reduceIte,Nat.reduceEqDiff]))
  have hf_a := hB_a.frozen
  ((with_reducible apply Xt (fun w' => Blk w' _ _ _ ∧ w6.grownBy w' (some _))); (focus rfl); (focus (simp [go_sem, effAt, *]; exact ⟨rfl, (hB_a.set_ 2 _), (grown_set (World.grownBy.refl _ _))⟩)); (focus ((simp only [Xo,Xp,Xq,Xr,Xs];rfl))))
  clear hf_a hc_a hB_a
  intro w7 hs
  obtain ⟨hB_a, hs⟩ := hs
  simp only [Xq,Xr,Xs] at hB_a
  have Fw7 := Fw6.trans (Turn.of_grown hs (by first | exact .inl rfl | exact .inr (by omega)))
  replace hB_l := hB_l.grown hs (by intro hk; injection hk with hk; have := hB_l.lt; have := hB_a.lt; omega)
  replace hB_r := hB_r.grown hs (by intro hk; injection hk with hk; have := hB_r.lt; have := hB_a.lt; omega)
  replace hB_c := hB_c.grown hs (by intro hk; injection hk with hk; have := hB_c.lt; have := hB_a.lt; omega)
  clear hs Fw6
  clear hc_l; have hc_l := hB_l.cell
  clear hc_r; have hc_r := hB_r.cell
  clear hc_c; have hc_c := hB_c.cell
  have hc_a := hB_a.cell
  repeat (first|(with_reducible first|apply Xa|apply Xb|apply Xc|apply Xd)|((with_reducible apply Xk);(focus rfl);(focus (simp [go_sem,effAt,↓IntWalk.iteOmega, *];(try go_ints);with_reducible first|exact Xm|exact Xn));focus (simp only [Xo,Xp,Xq,Xr,Xs];rfl))|((with_reducible apply Xl);(focus rfl);focus (simp only [Xo,Xp,Xq,Xr,Xs];rfl))|(with_reducible first|apply Xe|apply Xf|apply Xg|apply Xh)|((with_reducible apply Xi);focus first|rfl|(simp [go_sem, *];done))|((with_reducible apply Xj);focus first|rfl|(simp [go_sem, *];done))|(simp only [Exit.then,Exit.inBlock,↓reduceIte,Nat.reduceEqDiff]))
  have hf_r := hB_r.frozen
  ((with_reducible apply Xt (fun w' => Blk w' _ _ _ ∧ w7.grownBy w' (some _))); (focus rfl); (focus (simp [go_sem, effAt, *]; exact ⟨rfl, (((((hB_r.set_ 0 _).set_ 1 _).set_ 2 _).set_ 3 _).set_ 4 _), (grown_set (grown_set (grown_set (grown_set (grown_set (World.grownBy.refl _ _))))))⟩)); (focus ((simp only [Xo,Xp,Xq,Xr,Xs];rfl))))
  clear hf_r hc_r hB_r
  intro w8 hs
  obtain ⟨hB_r, hs⟩ := hs
  simp only [Xq,Xr,Xs] at hB_r
  have Fw8 := Fw7.trans (Turn.of_grown hs (by first | exact .inl rfl | exact .inr (by omega)))
  replace hB_l := hB_l.grown hs (by intro hk; injection hk with hk; have := hB_l.lt; have := hB_r.lt; omega)
  replace hB_c := hB_c.grown hs (by intro hk; injection hk with hk; have := hB_c.lt; have := hB_r.lt; omega)
  replace hB_a := hB_a.grown hs (by intro hk; injection hk with hk; have := hB_a.lt; have := hB_r.lt; omega)
  clear hs Fw7
  clear hc_l; have hc_l := hB_l.cell
  clear hc_c; have hc_c := hB_c.cell
  clear hc_a; have hc_a := hB_a.cell
  have hc_r := hB_r.cell
  repeat (first|(with_reducible first|apply Xa|apply Xb|apply Xc|apply Xd)|((with_reducible apply Xk);(focus rfl);(focus (simp [go_sem,effAt,↓IntWalk.iteOmega, *];(try go_ints);with_reducible first|exact Xm|exact Xn));focus (simp only [Xo,Xp,Xq,Xr,Xs];rfl))|((with_reducible apply Xl);(focus rfl);focus (simp only [Xo,Xp,Xq,Xr,Xs];rfl))|(with_reducible first|apply Xe|apply Xf|apply Xg|apply Xh)|((with_reducible apply Xi);focus first|rfl|(simp [go_sem, *];done))|((with_reducible apply Xj);focus first|rfl|(simp [go_sem, *];done))|(simp only [Exit.then,Exit.inBlock,↓reduceIte,Nat.reduceEqDiff]))
  refine bodyPost_ret (v := actV k1 c1 false t1 f1) (by simp [results, Try.results29, go_sem, *]) rfl ⟨rfl, hB_l, Turn.to_grown (by assumption)⟩
theorem heard_nil_o (k : Int) (w : World) (h1 : ¬ k = 1) (h4 : ¬ k = 4) : Calls Try.prog 29 #[.pointer none, .int .u8 k, .bool false] w (Ret (actV 0 false false 0 0) (Below w.heap.size w)) := by
  have n1 : (k == 1) = false := by simpa using h1
  have n4 : (k == 4) = false := by simpa using h4
  go_enter Try.func29, Try.ntmps29
  have F0 : Below w.heap.size w w := Below.refl _ _
  repeat (first|(with_reducible first|apply Xa|apply Xb|apply Xc|apply Xd)|((with_reducible apply Xk);(focus rfl);(focus (simp [go_sem,effAt,↓IntWalk.iteOmega, *];(try go_ints);with_reducible first|exact Xm|exact Xn));focus (simp only [Xo,Xp,Xq,Xr,Xs];rfl))|((with_reducible apply Xl);(focus rfl);focus (simp only [Xo,Xp,Xq,Xr,Xs];rfl))|(with_reducible first|apply Xe|apply Xf|apply Xg|apply Xh)|((with_reducible apply Xi);focus first|rfl|(simp [go_sem, *];done))|((with_reducible apply Xj);focus first|rfl|(simp [go_sem, *];done))|(simp only [Exit.then,Exit.inBlock,↓reduceIte,Nat.reduceEqDiff]))
  ((with_reducible apply Xu); (focus rfl); (focus (simp [go_sem, effAt]; exact ⟨rfl, rfl⟩)); (focus ((simp only [Xo,Xp,Xq,Xr,Xs];rfl))))
  intro w1 hB_r hs
  have Fw1 := F0.trans (hs.mono F0.size)
  clear hs F0
  have hc_r := hB_r.cell
  repeat (first|(with_reducible first|apply Xa|apply Xb|apply Xc|apply Xd)|((with_reducible apply Xk);(focus rfl);(focus (simp [go_sem,effAt,↓IntWalk.iteOmega, *];(try go_ints);with_reducible first|exact Xm|exact Xn));focus (simp only [Xo,Xp,Xq,Xr,Xs];rfl))|((with_reducible apply Xl);(focus rfl);focus (simp only [Xo,Xp,Xq,Xr,Xs];rfl))|(with_reducible first|apply Xe|apply Xf|apply Xg|apply Xh)|((with_reducible apply Xi);focus first|rfl|(simp [go_sem, *];done))|((with_reducible apply Xj);focus first|rfl|(simp [go_sem, *];done))|(simp only [Exit.then,Exit.inBlock,↓reduceIte,Nat.reduceEqDiff]))
  have lt_r_c := hB_r.lt
  ((with_reducible apply Xu); (focus rfl); (focus (simp [go_sem, effAt]; exact ⟨rfl, rfl⟩)); (focus ((simp only [Xo,Xp,Xq,Xr,Xs];rfl))))
  intro w2 hB_c hs
  have Fw2 := Fw1.trans (hs.mono Fw1.size)
  replace hB_r := hB_r.below hs hB_r.lt
  clear hs Fw1
  clear hc_r; have hc_r := hB_r.cell
  have hc_c := hB_c.cell
  repeat (first|(with_reducible first|apply Xa|apply Xb|apply Xc|apply Xd)|((with_reducible apply Xk);(focus rfl);(focus (simp [go_sem,effAt,↓IntWalk.iteOmega, *];(try go_ints);with_reducible first|exact Xm|exact Xn));focus (simp only [Xo,Xp,Xq,Xr,Xs];rfl))|((with_reducible apply Xl);(focus rfl);focus (simp only [Xo,Xp,Xq,Xr,Xs];rfl))|(with_reducible first|apply Xe|apply Xf|apply Xg|apply Xh)|((with_reducible apply Xi);focus first|rfl|(simp [go_sem, *];done))|((with_reducible apply Xj);focus first|rfl|(simp [go_sem, *];done))|(simp only [Exit.then,Exit.inBlock,↓reduceIte,Nat.reduceEqDiff]))
  have hf_c := hB_c.frozen
  ((with_reducible apply Xt (fun w' => Blk w' _ _ _ ∧ w2.grownBy w' (some _))); (focus rfl); (focus (simp [go_sem, effAt, *]; exact ⟨rfl, ((hB_c.set_ 0 _).set_ 1 _), (grown_set (grown_set (World.grownBy.refl _ _)))⟩)); (focus ((simp only [Xo,Xp,Xq,Xr,Xs];rfl))))
  clear hf_c hc_c hB_c
  intro w3 hs
  obtain ⟨hB_c, hs⟩ := hs
  simp only [Xq,Xr,Xs] at hB_c
  have Fw3 := Fw2.grown hs Fw2.size (by intro k hk; first | (injection hk with hk; subst hk; first | exact Nat.le_refl _ | exact Fw2.size | omega) | omega)
  replace hB_r := hB_r.grown hs (by intro hk; injection hk with hk; have := hB_r.lt; have := hB_c.lt; omega)
  clear hs Fw2
  clear hc_r; have hc_r := hB_r.cell
  have hc_c := hB_c.cell
  repeat (first|(with_reducible first|apply Xa|apply Xb|apply Xc|apply Xd)|((with_reducible apply Xk);(focus rfl);(focus (simp [go_sem,effAt,↓IntWalk.iteOmega, *];(try go_ints);with_reducible first|exact Xm|exact Xn));focus (simp only [Xo,Xp,Xq,Xr,Xs];rfl))|((with_reducible apply Xl);(focus rfl);focus (simp only [Xo,Xp,Xq,Xr,Xs];rfl))|(with_reducible first|apply Xe|apply Xf|apply Xg|apply Xh)|((with_reducible apply Xi);focus first|rfl|(simp [go_sem, *];done))|((with_reducible apply Xj);focus first|rfl|(simp [go_sem, *];done))|(simp only [Exit.then,Exit.inBlock,↓reduceIte,Nat.reduceEqDiff]))
  ((with_reducible apply Xt (Below w3.heap.size w3)); (focus rfl); (focus (simp only [effAt]; simp [go_sem]; (with_reducible exact effUpon_enter (does_nil _ _)))); (focus ((simp only [Xo,Xp,Xq,Xr,Xs];rfl))))
  intro w4 hs
  have Fw4 := Fw3.trans (hs.mono Fw3.size)
  replace hB_r := hB_r.below hs hB_r.lt
  replace hB_c := hB_c.below hs hB_c.lt
  clear hs Fw3
  clear hc_r; have hc_r := hB_r.cell
  clear hc_c; have hc_c := hB_c.cell
  repeat (first|(with_reducible first|apply Xa|apply Xb|apply Xc|apply Xd)|((with_reducible apply Xk);(focus rfl);(focus (simp [go_sem,effAt,↓IntWalk.iteOmega, *];(try go_ints);with_reducible first|exact Xm|exact Xn));focus (simp only [Xo,Xp,Xq,Xr,Xs];rfl))|((with_reducible apply Xl);(focus rfl);focus (simp only [Xo,Xp,Xq,Xr,Xs];rfl))|(with_reducible first|apply Xe|apply Xf|apply Xg|apply Xh)|((with_reducible apply Xi);focus first|rfl|(simp [go_sem, *];done))|((with_reducible apply Xj);focus first|rfl|(simp [go_sem, *];done))|(simp only [Exit.then,Exit.inBlock,↓reduceIte,Nat.reduceEqDiff]))
  have lt_r_a := hB_r.lt
  have lt_c_a := hB_c.lt
  ((with_reducible apply Xu); (focus rfl); (focus (simp [go_sem, effAt]; exact ⟨rfl, rfl⟩)); (focus ((simp only [Xo,Xp,Xq,Xr,Xs];rfl))))
  intro w5 hB_a hs
  have Fw5 := Fw4.trans (hs.mono Fw4.size)
  replace hB_r := hB_r.below hs hB_r.lt
  replace hB_c := hB_c.below hs hB_c.lt
  clear hs Fw4
  clear hc_r; have hc_r := hB_r.cell
  clear hc_c; have hc_c := hB_c.cell
  have hc_a := hB_a.cell
  repeat (first|(with_reducible first|apply Xa|apply Xb|apply Xc|apply Xd)|((with_reducible apply Xk);(focus rfl);(focus (simp [go_sem,effAt,↓IntWalk.iteOmega, *];(try go_ints);with_reducible first|exact Xm|exact Xn));focus (simp only [Xo,Xp,Xq,Xr,Xs];rfl))|((with_reducible apply Xl);(focus rfl);focus (simp only [Xo,Xp,Xq,Xr,Xs];rfl))|(with_reducible first|apply Xe|apply Xf|apply Xg|apply Xh)|((with_reducible apply Xi);focus first|rfl|(simp [go_sem, *];done))|((with_reducible apply Xj);focus first|rfl|(simp [go_sem, *];done))|(simp only [Exit.then,Exit.inBlock,↓reduceIte,Nat.reduceEqDiff]))
  have hf_a := hB_a.frozen
  ((with_reducible apply Xt (fun w' => Blk w' _ _ _ ∧ w5.grownBy w' (some _))); (focus rfl); (focus (simp [go_sem, effAt, *]; exact ⟨rfl, (((((hB_a.set_ 0 _).set_ 1 _).set_ 2 _).set_ 3 _).set_ 4 _), (grown_set (grown_set (grown_set (grown_set (grown_set (World.grownBy.refl _ _))))))⟩)); (focus ((simp only [Xo,Xp,Xq,Xr,Xs];rfl))))
  clear hf_a hc_a hB_a
  intro w6 hs
  obtain ⟨hB_a, hs⟩ := hs
  simp only [Xq,Xr,Xs] at hB_a
  have Fw6 := Fw5.grown hs Fw5.size (by intro k hk; first | (injection hk with hk; subst hk; first | exact Nat.le_refl _ | exact Fw5.size | omega) | omega)
  replace hB_r := hB_r.grown hs (by intro hk; injection hk with hk; have := hB_r.lt; have := hB_a.lt; omega)
  replace hB_c := hB_c.grown hs (by intro hk; injection hk with hk; have := hB_c.lt; have := hB_a.lt; omega)
  clear hs Fw5
  clear hc_r; have hc_r := hB_r.cell
  clear hc_c; have hc_c := hB_c.cell
  have hc_a := hB_a.cell
  repeat (first|(with_reducible first|apply Xa|apply Xb|apply Xc|apply Xd)|((with_reducible apply Xk);(focus rfl);(focus (simp [go_sem,effAt,↓IntWalk.iteOmega, *];(try go_ints);with_reducible first|exact Xm|exact Xn));focus (simp only [Xo,Xp,Xq,Xr,Xs];rfl))|((with_reducible apply Xl);(focus rfl);focus (simp only [Xo,Xp,Xq,Xr,Xs];rfl))|(with_reducible first|apply Xe|apply Xf|apply Xg|apply Xh)|((with_reducible apply Xi);focus first|rfl|(simp [go_sem, *];done))|((with_reducible apply Xj);focus first|rfl|(simp [go_sem, *];done))|(simp only [Exit.then,Exit.inBlock,↓reduceIte,Nat.reduceEqDiff]))
  have hf_a := hB_a.frozen
  ((with_reducible apply Xt (fun w' => Blk w' _ _ _ ∧ w6.grownBy w' (some _))); (focus rfl); (focus (simp [go_sem, effAt, *]; exact ⟨rfl, (hB_a.set_ 2 _), (grown_set (World.grownBy.refl _ _))⟩)); (focus ((simp only [Xo,Xp,Xq,Xr,Xs];rfl))))
  clear hf_a hc_a hB_a
  intro w7 hs
  obtain ⟨hB_a, hs⟩ := hs
  simp only [Xq,Xr,Xs] at hB_a
  have Fw7 := Fw6.grown hs Fw6.size (by intro k hk; first | (injection hk with hk; subst hk; first | exact Nat.le_refl _ | exact Fw6.size | omega) | omega)
  replace hB_r := hB_r.grown hs (by intro hk; injection hk with hk; have := hB_r.lt; have := hB_a.lt; omega)
  replace hB_c := hB_c.grown hs (by intro hk; injection hk with hk; have := hB_c.lt; have := hB_a.lt; omega)
  clear hs Fw6
  clear hc_r; have hc_r := hB_r.cell
  clear hc_c; have hc_c := hB_c.cell
  have hc_a := hB_a.cell
  repeat (first|(with_reducible first|apply Xa|apply Xb|apply Xc|apply Xd)|((with_reducible apply Xk);(focus rfl);(focus (simp [go_sem,effAt,↓IntWalk.iteOmega, *];(try go_ints);with_reducible first|exact Xm|exact Xn));focus (simp only [Xo,Xp,Xq,Xr,Xs];rfl))|((with_reducible apply Xl);(focus rfl);focus (simp only [Xo,Xp,Xq,Xr,Xs];rfl))|(with_reducible first|apply Xe|apply Xf|apply Xg|apply Xh)|((with_reducible apply Xi);focus first|rfl|(simp [go_sem, *];done))|((with_reducible apply Xj);focus first|rfl|(simp [go_sem, *];done))|(simp only [Exit.then,Exit.inBlock,↓reduceIte,Nat.reduceEqDiff]))
  have hf_r := hB_r.frozen
  ((with_reducible apply Xt (fun w' => Blk w' _ _ _ ∧ w7.grownBy w' (some _))); (focus rfl); (focus (simp [go_sem, effAt, *]; exact ⟨rfl, (((((hB_r.set_ 0 _).set_ 1 _).set_ 2 _).set_ 3 _).set_ 4 _), (grown_set (grown_set (grown_set (grown_set (grown_set (World.grownBy.refl _ _))))))⟩)); (focus ((simp only [Xo,Xp,Xq,Xr,Xs];rfl))))
  clear hf_r hc_r hB_r
  intro w8 hs
  obtain ⟨hB_r, hs⟩ := hs
  simp only [Xq,Xr,Xs] at hB_r
  have Fw8 := Fw7.grown hs Fw7.size (by intro k hk; first | (injection hk with hk; subst hk; first | exact Nat.le_refl _ | exact Fw7.size | omega) | omega)
  replace hB_c := hB_c.grown hs (by intro hk; injection hk with hk; have := hB_c.lt; have := hB_r.lt; omega)
  replace hB_a := hB_a.grown hs (by intro hk; injection hk with hk; have := hB_a.lt; have := hB_r.lt; omega)
  clear hs Fw7
  clear hc_c; have hc_c := hB_c.cell
  clear hc_a; have hc_a := hB_a.cell
  have hc_r := hB_r.cell
  repeat (first|(with_reducible first|apply Xa|apply Xb|apply Xc|apply Xd)|((with_reducible apply Xk);(focus rfl);(focus (simp [go_sem,effAt,↓IntWalk.iteOmega, *];(try go_ints);with_reducible first|exact Xm|exact Xn));focus (simp only [Xo,Xp,Xq,Xr,Xs];rfl))|((with_reducible apply Xl);(focus rfl);focus (simp only [Xo,Xp,Xq,Xr,Xs];rfl))|(with_reducible first|apply Xe|apply Xf|apply Xg|apply Xh)|((with_reducible apply Xi);focus first|rfl|(simp [go_sem, *];done))|((with_reducible apply Xj);focus first|rfl|(simp [go_sem, *];done))|(simp only [Exit.then,Exit.inBlock,↓reduceIte,Nat.reduceEqDiff]))
  refine bodyPost_ret (v := (actV 0 false false 0 0)) (by simp [results, Try.results29, go_sem, *]) rfl ⟨rfl, by assumption⟩

