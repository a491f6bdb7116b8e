/- The walks of Hear, of a link and of none. -/
import Derived.Test.YtggpecddkbceoaaL3
set_option linter.unusedSimpArgs false
set_option linter.unusedVariables false
namespace Go.Proofs.Ytggpecddkbceoaa
open Go.RowKit Go.Eff
theorem hear_low (g : Nat) (s : Int) (ls : Bool) (tr mo : Int) (k : Int) (pf cmd : Bool) (w : World) (hB_l : LB w g s ls tr mo) (h1 : k < 1) :
    Calls Try.prog 21 #[.pointer (some ⟨g, 0, none⟩), .int .u8 k, .bool pf, .bool cmd] w (Ret (actV 0 false false 0 0) fun w' => LB w' g s ls tr mo ∧ w.grownBy w' (some g)) := by
  have m2 : (k == 2) = false := by simp; omega
  have m3 : (k == 3) = false := by simp; omega
  have hS := fun w h => state_any g s ls tr mo w h
  unfold LB at *
  go_enter Try.func21, Try.ntmps21
  have F0 : Turn (fun i => i = g ∨ w.heap.size ≤ i) w w := Turn.refl _
  have hc_l := hB_l.cell
  repeat (first|(with_reducible first|apply Xa|apply Xb|apply Xc|apply Xd)|((with_reducible apply Xk);(focus rfl);(focus (simp [go_sem,effAt,↓IntWalk.iteOmega, *];(try go_ints);with_reducible first|exact Xm|exact Xn));focus (simp only [Xo,Xp,Xq,Xr,Xs];rfl))|((with_reducible apply Xl);(focus rfl);focus (simp only [Xo,Xp,Xq,Xr,Xs];rfl))|(with_reducible first|apply Xe|apply Xf|apply Xg|apply Xh)|((with_reducible apply Xi);focus first|rfl|(simp [go_sem, *];done))|((with_reducible apply Xj);focus first|rfl|(simp [go_sem, *];done))|(simp only [Exit.then,Exit.inBlock,↓reduceIte,Nat.reduceEqDiff]))
  have lt_l_r := hB_l.lt
  have le_r := F0.size
  ((with_reducible apply Xu); (focus rfl); (focus (simp [go_sem, effAt]; exact ⟨rfl, rfl⟩)); (focus ((simp only [Xo,Xp,Xq,Xr,Xs];rfl))))
  intro w1 hB_r hs
  have Fw1 := F0.trans (Turn.of_below hs)
  replace hB_l := hB_l.below hs hB_l.lt
  clear hs F0
  clear hc_l; have hc_l := hB_l.cell
  have hc_r := hB_r.cell
  repeat (first|(with_reducible first|apply Xa|apply Xb|apply Xc|apply Xd)|((with_reducible apply Xk);(focus rfl);(focus (simp [go_sem,effAt,↓IntWalk.iteOmega, *];(try go_ints);with_reducible first|exact Xm|exact Xn));focus (simp only [Xo,Xp,Xq,Xr,Xs];rfl))|((with_reducible apply Xl);(focus rfl);focus (simp only [Xo,Xp,Xq,Xr,Xs];rfl))|(with_reducible first|apply Xe|apply Xf|apply Xg|apply Xh)|((with_reducible apply Xi);focus first|rfl|(simp [go_sem, *];done))|((with_reducible apply Xj);focus first|rfl|(simp [go_sem, *];done))|(simp only [Exit.then,Exit.inBlock,↓reduceIte,Nat.reduceEqDiff]))
  have hf_r := hB_r.frozen
  ((with_reducible apply Xt (fun w' => Blk w' _ _ _ ∧ w1.grownBy w' (some _))); (focus rfl); (focus (simp [go_sem, effAt, *]; exact ⟨rfl, (((((hB_r.set_ 0 _).set_ 1 _).set_ 2 _).set_ 3 _).set_ 4 _), (grown_set (grown_set (grown_set (grown_set (grown_set (World.grownBy.refl _ _))))))⟩)); (focus ((simp only [Xo,Xp,Xq,Xr,Xs];rfl))))
  clear hf_r hc_r hB_r
  intro w2 hs
  obtain ⟨hB_r, hs⟩ := hs
  simp only [Xq,Xr,Xs] at hB_r
  have Fw2 := Fw1.trans (Turn.of_grown hs (by first | exact .inl rfl | exact .inr (by omega)))
  replace hB_l := hB_l.grown hs (by intro hk; injection hk with hk; have := hB_l.lt; have := hB_r.lt; omega)
  clear hs Fw1
  clear hc_l; have hc_l := hB_l.cell
  have hc_r := hB_r.cell
  repeat (first|(with_reducible first|apply Xa|apply Xb|apply Xc|apply Xd)|((with_reducible apply Xk);(focus rfl);(focus (simp [go_sem,effAt,↓IntWalk.iteOmega, *];(try go_ints);with_reducible first|exact Xm|exact Xn));focus (simp only [Xo,Xp,Xq,Xr,Xs];rfl))|((with_reducible apply Xl);(focus rfl);focus (simp only [Xo,Xp,Xq,Xr,Xs];rfl))|(with_reducible first|apply Xe|apply Xf|apply Xg|apply Xh)|((with_reducible apply Xi);focus first|rfl|(simp [go_sem, *];done))|((with_reducible apply Xj);focus first|rfl|(simp [go_sem, *];done))|(simp only [Exit.then,Exit.inBlock,↓reduceIte,Nat.reduceEqDiff]))
  refine bodyPost_ret (v := (actV 0 false false 0 0)) (by simp [results, Try.results21, go_sem, *]) rfl ⟨rfl, hB_l, Turn.to_grown (by assumption)⟩
theorem hear_up (g : Nat) (s : Int) (ls : Bool) (tr mo : Int) (k : Int) (pf cmd : Bool) (w : World) (hB_l : LB w g s ls tr mo) (h1 : ¬ k < 1) (h2 : 10 < k) :
    Calls Try.prog 21 #[.pointer (some ⟨g, 0, none⟩), .int .u8 k, .bool pf, .bool cmd] w (Ret (actV 0 false false 0 0) fun w' => LB w' g s ls tr mo ∧ w.grownBy w' (some g)) := by
  have m2 : (k == 2) = false := by simp; omega
  have m3 : (k == 3) = false := by simp; omega
  have hS := fun w h => state_any g s ls tr mo w h
  unfold LB at *
  go_enter Try.func21, Try.ntmps21
  have F0 : Turn (fun i => i = g ∨ w.heap.size ≤ i) w w := Turn.refl _
  have hc_l := hB_l.cell
  repeat (first|(with_reducible first|apply Xa|apply Xb|apply Xc|apply Xd)|((with_reducible apply Xk);(focus rfl);(focus (simp [go_sem,effAt,↓IntWalk.iteOmega, *];(try go_ints);with_reducible first|exact Xm|exact Xn));focus (simp only [Xo,Xp,Xq,Xr,Xs];rfl))|((with_reducible apply Xl);(focus rfl);focus (simp only [Xo,Xp,Xq,Xr,Xs];rfl))|(with_reducible first|apply Xe|apply Xf|apply Xg|apply Xh)|((with_reducible apply Xi);focus first|rfl|(simp [go_sem, *];done))|((with_reducible apply Xj);focus first|rfl|(simp [go_sem, *];done))|(simp only [Exit.then,Exit.inBlock,↓reduceIte,Nat.reduceEqDiff]))
  have lt_l_r := hB_l.lt
  have le_r := F0.size
  ((with_reducible apply Xu); (focus rfl); (focus (simp [go_sem, effAt]; exact ⟨rfl, rfl⟩)); (focus ((simp only [Xo,Xp,Xq,Xr,Xs];rfl))))
  intro w1 hB_r hs
  have Fw1 := F0.trans (Turn.of_below hs)
  replace hB_l := hB_l.below hs hB_l.lt
  clear hs F0
  clear hc_l; have hc_l := hB_l.cell
  have hc_r := hB_r.cell
  repeat (first|(with_reducible first|apply Xa|apply Xb|apply Xc|apply Xd)|((with_reducible apply Xk);(focus rfl);(focus (simp [go_sem,effAt,↓IntWalk.iteOmega, *];(try go_ints);with_reducible first|exact Xm|exact Xn));focus (simp only [Xo,Xp,Xq,Xr,Xs];rfl))|((with_reducible apply Xl);(focus rfl);focus (simp only [Xo,Xp,Xq,Xr,Xs];rfl))|(with_reducible first|apply Xe|apply Xf|apply Xg|apply Xh)|((with_reducible apply Xi);focus first|rfl|(simp [go_sem, *];done))|((with_reducible apply Xj);focus first|rfl|(simp [go_sem, *];done))|(simp only [Exit.then,Exit.inBlock,↓reduceIte,Nat.reduceEqDiff]))
  have hf_r := hB_r.frozen
  ((with_reducible apply Xt (fun w' => Blk w' _ _ _ ∧ w1.grownBy w' (some _))); (focus rfl); (focus (simp [go_sem, effAt, *]; exact ⟨rfl, (((((hB_r.set_ 0 _).set_ 1 _).set_ 2 _).set_ 3 _).set_ 4 _), (grown_set (grown_set (grown_set (grown_set (grown_set (World.grownBy.refl _ _))))))⟩)); (focus ((simp only [Xo,Xp,Xq,Xr,Xs];rfl))))
  clear hf_r hc_r hB_r
  intro w2 hs
  obtain ⟨hB_r, hs⟩ := hs
  simp only [Xq,Xr,Xs] at hB_r
  have Fw2 := Fw1.trans (Turn.of_grown hs (by first | exact .inl rfl | exact .inr (by omega)))
  replace hB_l := hB_l.grown hs (by intro hk; injection hk with hk; have := hB_l.lt; have := hB_r.lt; omega)
  clear hs Fw1
  clear hc_l; have hc_l := hB_l.cell
  have hc_r := hB_r.cell
  repeat (first|(with_reducible first|apply Xa|apply Xb|apply Xc|apply Xd)|((with_reducible apply Xk);(focus rfl);(focus (simp [go_sem,effAt,↓IntWalk.iteOmega, *];(try go_ints);with_reducible first|exact Xm|exact Xn));focus (simp only [Xo,Xp,Xq,Xr,Xs];rfl))|((with_reducible apply Xl);(focus rfl);focus (simp only [Xo,Xp,Xq,Xr,Xs];rfl))|(with_reducible first|apply Xe|apply Xf|apply Xg|apply Xh)|((with_reducible apply Xi);focus first|rfl|(simp [go_sem, *];done))|((with_reducible apply Xj);focus first|rfl|(simp [go_sem, *];done))|(simp only [Exit.then,Exit.inBlock,↓reduceIte,Nat.reduceEqDiff]))
  refine bodyPost_ret (v := (actV 0 false false 0 0)) (by simp [results, Try.results21, go_sem, *]) rfl ⟨rfl, hB_l, Turn.to_grown (by assumption)⟩
theorem hear_cmd (g : Nat) (s : Int) (ls : Bool) (tr mo : Int) (k : Int) (pf : Bool) {s2 tr2 mo2 k1 t1 f1 : Int} {c1 p1 ls2 : Bool} (w : World) (hB_l : LB w g s ls tr mo) (h1 : ¬ k < 1) (h10 : ¬ 10 < k) (h2 : ¬ k = 2) (h3 : ¬ k = 3) (hF : ∀ w, LB w g s ls tr mo → Calls Try.prog 29 #[.pointer (some ⟨g, 0, none⟩), .int .u8 k, .bool pf] w (Ret (actV k1 c1 p1 t1 f1) fun w' => LB w' g s2 ls2 tr2 mo2 ∧ w.grownBy w' (some g))) :
    Calls Try.prog 21 #[.pointer (some ⟨g, 0, none⟩), .int .u8 k, .bool pf, .bool true] w (Ret (actV k1 c1 p1 t1 f1) fun w' => LB w' g s2 ls2 tr2 mo2 ∧ w.grownBy w' (some g)) := by
  have m2 : (k == 2) = false := by simpa using h2
  have m3 : (k == 3) = false := by simpa using h3
  have hS := fun w h => state_any g s ls tr mo w h
  unfold LB at *
  go_enter Try.func21, Try.ntmps21
  have F0 : Turn (fun i => i = g ∨ w.heap.size ≤ i) w w := Turn.refl _
  have hc_l := hB_l.cell
  repeat (first|(with_reducible first|apply Xa|apply Xb|apply Xc|apply Xd)|((with_reducible apply Xk);(focus rfl);(focus (simp [go_sem,effAt,↓IntWalk.iteOmega, *];(try go_ints);with_reducible first|exact Xm|exact Xn));focus (simp only [Xo,Xp,Xq,Xr,Xs];rfl))|((with_reducible apply Xl);(focus rfl);focus (simp only [Xo,Xp,Xq,Xr,Xs];rfl))|(with_reducible first|apply Xe|apply Xf|apply Xg|apply Xh)|((with_reducible apply Xi);focus first|rfl|(simp [go_sem, *];done))|((with_reducible apply Xj);focus first|rfl|(simp [go_sem, *];done))|(simp only [Exit.then,Exit.inBlock,↓reduceIte,Nat.reduceEqDiff]))
  have lt_l_r := hB_l.lt
  have le_r := F0.size
  ((with_reducible apply Xu); (focus rfl); (focus (simp [go_sem, effAt]; exact ⟨rfl, rfl⟩)); (focus ((simp only [Xo,Xp,Xq,Xr,Xs];rfl))))
  intro w1 hB_r hs
  have Fw1 := F0.trans (Turn.of_below hs)
  replace hB_l := hB_l.below hs hB_l.lt
  clear hs F0
  clear hc_l; have hc_l := hB_l.cell
  have hc_r := hB_r.cell
  repeat (first|(with_reducible first|apply Xa|apply Xb|apply Xc|apply Xd)|((with_reducible apply Xk);(focus rfl);(focus (simp [go_sem,effAt,↓IntWalk.iteOmega, *];(try go_ints);with_reducible first|exact Xm|exact Xn));focus (simp only [Xo,Xp,Xq,Xr,Xs];rfl))|((with_reducible apply Xl);(focus rfl);focus (simp only [Xo,Xp,Xq,Xr,Xs];rfl))|(with_reducible first|apply Xe|apply Xf|apply Xg|apply Xh)|((with_reducible apply Xi);focus first|rfl|(simp [go_sem, *];done))|((with_reducible apply Xj);focus first|rfl|(simp [go_sem, *];done))|(simp only [Exit.then,Exit.inBlock,↓reduceIte,Nat.reduceEqDiff]))
  ((with_reducible apply Xt (fun w' => Blk w' _ _ _ ∧ w1.grownBy w' (some _))); (focus rfl); (focus (simp only [effAt]; simp [go_sem]; (with_reducible exact effUpon_enter (hF _ hB_l)))); (focus ((simp only [Xo,Xp,Xq,Xr,Xs];rfl))))
  clear hc_l hB_l
  intro w2 hs
  obtain ⟨hB_l, hs⟩ := hs
  have Fw2 := Fw1.trans (Turn.of_grown hs (by first | exact .inl rfl | exact .inr (by omega)))
  replace hB_r := hB_r.grown hs (by intro hk; injection hk with hk; have := hB_r.lt; have := hB_l.lt; omega)
  clear hs Fw1
  clear hc_r; have hc_r := hB_r.cell
  have hc_l := hB_l.cell
  repeat (first|(with_reducible first|apply Xa|apply Xb|apply Xc|apply Xd)|((with_reducible apply Xk);(focus rfl);(focus (simp [go_sem,effAt,↓IntWalk.iteOmega, *];(try go_ints);with_reducible first|exact Xm|exact Xn));focus (simp only [Xo,Xp,Xq,Xr,Xs];rfl))|((with_reducible apply Xl);(focus rfl);focus (simp only [Xo,Xp,Xq,Xr,Xs];rfl))|(with_reducible first|apply Xe|apply Xf|apply Xg|apply Xh)|((with_reducible apply Xi);focus first|rfl|(simp [go_sem, *];done))|((with_reducible apply Xj);focus first|rfl|(simp [go_sem, *];done))|(simp only [Exit.then,Exit.inBlock,↓reduceIte,Nat.reduceEqDiff]))
  have hf_r := hB_r.frozen
  ((with_reducible apply Xt (fun w' => Blk w' _ _ _ ∧ w2.grownBy w' (some _))); (focus rfl); (focus (simp [go_sem, effAt, *]; exact ⟨rfl, (((((hB_r.set_ 0 _).set_ 1 _).set_ 2 _).set_ 3 _).set_ 4 _), (grown_set (grown_set (grown_set (grown_set (grown_set (World.grownBy.refl _ _))))))⟩)); (focus ((simp only [Xo,Xp,Xq,Xr,Xs];rfl))))
  clear hf_r hc_r hB_r
  intro w3 hs
  obtain ⟨hB_r, hs⟩ := hs
  simp only [Xq,Xr,Xs] at hB_r
  have Fw3 := Fw2.trans (Turn.of_grown hs (by first | exact .inl rfl | exact .inr (by omega)))
  replace hB_l := hB_l.grown hs (by intro hk; injection hk with hk; have := hB_l.lt; have := hB_r.lt; omega)
  clear hs Fw2
  clear hc_l; have hc_l := hB_l.cell
  have hc_r := hB_r.cell
  repeat (first|(with_reducible first|apply Xa|apply Xb|apply Xc|apply Xd)|((with_reducible apply Xk);(focus rfl);(focus (simp [go_sem,effAt,↓IntWalk.iteOmega, *];(try go_ints);with_reducible first|exact Xm|exact Xn));focus (simp only [Xo,Xp,Xq,Xr,Xs];rfl))|((with_reducible apply Xl);(focus rfl);focus (simp only [Xo,Xp,Xq,Xr,Xs];rfl))|(with_reducible first|apply Xe|apply Xf|apply Xg|apply Xh)|((with_reducible apply Xi);focus first|rfl|(simp [go_sem, *];done))|((with_reducible apply Xj);focus first|rfl|(simp [go_sem, *];done))|(simp only [Exit.then,Exit.inBlock,↓reduceIte,Nat.reduceEqDiff]))
  refine bodyPost_ret (v := (actV k1 c1 p1 t1 f1)) (by simp [results, Try.results21, go_sem, *]) rfl ⟨rfl, hB_l, Turn.to_grown (by assumption)⟩
theorem hear_res (g : Nat) (s : Int) (ls : Bool) (tr mo : Int) (k : Int) (pf : Bool) (w : World) (hB_l : LB w g s ls tr mo) (h1 : ¬ k < 1) (h10 : ¬ 10 < k) (h2 : ¬ k = 2) (h3 : ¬ k = 3) :
    Calls Try.prog 21 #[.pointer (some ⟨g, 0, none⟩), .int .u8 k, .bool pf, .bool false] w (Ret (actV 0 false false 0 0) fun w' => LB w' g s ls tr mo ∧ w.grownBy w' (some g)) := by
  have m2 : (k == 2) = false := by simpa using h2
  have m3 : (k == 3) = false := by simpa using h3
  have hS := fun w h => state_any g s ls tr mo w h
  unfold LB at *
  go_enter Try.func21, Try.ntmps21
  have F0 : Turn (fun i => i = g ∨ w.heap.size ≤ i) w w := Turn.refl _
  have hc_l := hB_l.cell
  repeat (first|(with_reducible first|apply Xa|apply Xb|apply Xc|apply Xd)|((with_reducible apply Xk);(focus rfl);(focus (simp [go_sem,effAt,↓IntWalk.iteOmega, *];(try go_ints);with_reducible first|exact Xm|exact Xn));focus (simp only [Xo,Xp,Xq,Xr,Xs];rfl))|((with_reducible apply Xl);(focus rfl);focus (simp only [Xo,Xp,Xq,Xr,Xs];rfl))|(with_reducible first|apply Xe|apply Xf|apply Xg|apply Xh)|((with_reducible apply Xi);focus first|rfl|(simp [go_sem, *];done))|((with_reducible apply Xj);focus first|rfl|(simp [go_sem, *];done))|(simp only [Exit.then,Exit.inBlock,↓reduceIte,Nat.reduceEqDiff]))
  have lt_l_r := hB_l.lt
  have le_r := F0.size
  ((with_reducible apply Xu); (focus rfl); (focus (simp [go_sem, effAt]; exact ⟨rfl, rfl⟩)); (focus ((simp only [Xo,Xp,Xq,Xr,Xs];rfl))))
  intro w1 hB_r hs
  have Fw1 := F0.trans (Turn.of_below hs)
  replace hB_l := hB_l.below hs hB_l.lt
  clear hs F0
  clear hc_l; have hc_l := hB_l.cell
  have hc_r := hB_r.cell
  repeat (first|(with_reducible first|apply Xa|apply Xb|apply Xc|apply Xd)|((with_reducible apply Xk);(focus rfl);(focus (simp [go_sem,effAt,↓IntWalk.iteOmega, *];(try go_ints);with_reducible first|exact Xm|exact Xn));focus (simp only [Xo,Xp,Xq,Xr,Xs];rfl))|((with_reducible apply Xl);(focus rfl);focus (simp only [Xo,Xp,Xq,Xr,Xs];rfl))|(with_reducible first|apply Xe|apply Xf|apply Xg|apply Xh)|((with_reducible apply Xi);focus first|rfl|(simp [go_sem, *];done))|((with_reducible apply Xj);focus first|rfl|(simp [go_sem, *];done))|(simp only [Exit.then,Exit.inBlock,↓reduceIte,Nat.reduceEqDiff]))
  have hf_r := hB_r.frozen
  ((with_reducible apply Xt (fun w' => Blk w' _ _ _ ∧ w1.grownBy w' (some _))); (focus rfl); (focus (simp [go_sem, effAt, *]; exact ⟨rfl, (((((hB_r.set_ 0 _).set_ 1 _).set_ 2 _).set_ 3 _).set_ 4 _), (grown_set (grown_set (grown_set (grown_set (grown_set (World.grownBy.refl _ _))))))⟩)); (focus ((simp only [Xo,Xp,Xq,Xr,Xs];rfl))))
  clear hf_r hc_r hB_r
  intro w2 hs
  obtain ⟨hB_r, hs⟩ := hs
  simp only [Xq,Xr,Xs] at hB_r
  have Fw2 := Fw1.trans (Turn.of_grown hs (by first | exact .inl rfl | exact .inr (by omega)))
  replace hB_l := hB_l.grown hs (by intro hk; injection hk with hk; have := hB_l.lt; have := hB_r.lt; omega)
  clear hs Fw1
  clear hc_l; have hc_l := hB_l.cell
  have hc_r := hB_r.cell
  repeat (first|(with_reducible first|apply Xa|apply Xb|apply Xc|apply Xd)|((with_reducible apply Xk);(focus rfl);(focus (simp [go_sem,effAt,↓IntWalk.iteOmega, *];(try go_ints);with_reducible first|exact Xm|exact Xn));focus (simp only [Xo,Xp,Xq,Xr,Xs];rfl))|((with_reducible apply Xl);(focus rfl);focus (simp only [Xo,Xp,Xq,Xr,Xs];rfl))|(with_reducible first|apply Xe|apply Xf|apply Xg|apply Xh)|((with_reducible apply Xi);focus first|rfl|(simp [go_sem, *];done))|((with_reducible apply Xj);focus first|rfl|(simp [go_sem, *];done))|(simp only [Exit.then,Exit.inBlock,↓reduceIte,Nat.reduceEqDiff]))
  refine bodyPost_ret (v := (actV 0 false false 0 0)) (by simp [results, Try.results21, go_sem, *]) rfl ⟨rfl, hB_l, Turn.to_grown (by assumption)⟩
theorem hear_own2 (g : Nat) (s : Int) (ls : Bool) (tr mo : Int) (pf : Bool) (w : World) (hB_l : LB w g s ls tr mo) :
    Calls Try.prog 21 #[.pointer (some ⟨g, 0, none⟩), .int .u8 2, .bool pf, .bool true] w (Ret (actV 0 false false 0 0) fun w' => LB w' g s ls tr mo ∧ w.grownBy w' (some g)) := by
  have hS := fun w h => state_any g s ls tr mo w h
  unfold LB at *
  go_enter Try.func21, Try.ntmps21
  have F0 : Turn (fun i => i = g ∨ w.heap.size ≤ i) w w := Turn.refl _
  have hc_l := hB_l.cell
  repeat (first|(with_reducible first|apply Xa|apply Xb|apply Xc|apply Xd)|((with_reducible apply Xk);(focus rfl);(focus (simp [go_sem,effAt,↓IntWalk.iteOmega, *];(try go_ints);with_reducible first|exact Xm|exact Xn));focus (simp only [Xo,Xp,Xq,Xr,Xs];rfl))|((with_reducible apply Xl);(focus rfl);focus (simp only [Xo,Xp,Xq,Xr,Xs];rfl))|(with_reducible first|apply Xe|apply Xf|apply Xg|apply Xh)|((with_reducible apply Xi);focus first|rfl|(simp [go_sem, *];done))|((with_reducible apply Xj);focus first|rfl|(simp [go_sem, *];done))|(simp only [Exit.then,Exit.inBlock,↓reduceIte,Nat.reduceEqDiff]))
  have lt_l_r := hB_l.lt
  have le_r := F0.size
  ((with_reducible apply Xu); (focus rfl); (focus (simp [go_sem, effAt]; exact ⟨rfl, rfl⟩)); (focus ((simp only [Xo,Xp,Xq,Xr,Xs];rfl))))
  intro w1 hB_r hs
  have Fw1 := F0.trans (Turn.of_below hs)
  replace hB_l := hB_l.below hs hB_l.lt
  clear hs F0
  clear hc_l; have hc_l := hB_l.cell
  have hc_r := hB_r.cell
  repeat (first|(with_reducible first|apply Xa|apply Xb|apply Xc|apply Xd)|((with_reducible apply Xk);(focus rfl);(focus (simp [go_sem,effAt,↓IntWalk.iteOmega, *];(try go_ints);with_reducible first|exact Xm|exact Xn));focus (simp only [Xo,Xp,Xq,Xr,Xs];rfl))|((with_reducible apply Xl);(focus rfl);focus (simp only [Xo,Xp,Xq,Xr,Xs];rfl))|(with_reducible first|apply Xe|apply Xf|apply Xg|apply Xh)|((with_reducible apply Xi);focus first|rfl|(simp [go_sem, *];done))|((with_reducible apply Xj);focus first|rfl|(simp [go_sem, *];done))|(simp only [Exit.then,Exit.inBlock,↓reduceIte,Nat.reduceEqDiff]))
  have hf_r := hB_r.frozen
  ((with_reducible apply Xt (fun w' => Blk w' _ _ _ ∧ w1.grownBy w' (some _))); (focus rfl); (focus (simp [go_sem, effAt, *]; exact ⟨rfl, (((((hB_r.set_ 0 _).set_ 1 _).set_ 2 _).set_ 3 _).set_ 4 _), (grown_set (grown_set (grown_set (grown_set (grown_set (World.grownBy.refl _ _))))))⟩)); (focus ((simp only [Xo,Xp,Xq,Xr,Xs];rfl))))
  clear hf_r hc_r hB_r
  intro w2 hs
  obtain ⟨hB_r, hs⟩ := hs
  simp only [Xq,Xr,Xs] at hB_r
  have Fw2 := Fw1.trans (Turn.of_grown hs (by first | exact .inl rfl | exact .inr (by omega)))
  replace hB_l := hB_l.grown hs (by intro hk; injection hk with hk; have := hB_l.lt; have := hB_r.lt; omega)
  clear hs Fw1
  clear hc_l; have hc_l := hB_l.cell
  have hc_r := hB_r.cell
  repeat (first|(with_reducible first|apply Xa|apply Xb|apply Xc|apply Xd)|((with_reducible apply Xk);(focus rfl);(focus (simp [go_sem,effAt,↓IntWalk.iteOmega, *];(try go_ints);with_reducible first|exact Xm|exact Xn));focus (simp only [Xo,Xp,Xq,Xr,Xs];rfl))|((with_reducible apply Xl);(focus rfl);focus (simp only [Xo,Xp,Xq,Xr,Xs];rfl))|(with_reducible first|apply Xe|apply Xf|apply Xg|apply Xh)|((with_reducible apply Xi);focus first|rfl|(simp [go_sem, *];done))|((with_reducible apply Xj);focus first|rfl|(simp [go_sem, *];done))|(simp only [Exit.then,Exit.inBlock,↓reduceIte,Nat.reduceEqDiff]))
  refine bodyPost_ret (v := (actV 0 false false 0 0)) (by simp [results, Try.results21, go_sem, *]) rfl ⟨rfl, hB_l, Turn.to_grown (by assumption)⟩
theorem hear_r2n (g : Nat) (s : Int) (ls : Bool) (tr mo : Int) (w : World) (hB_l : LB w g s ls tr mo) :
    Calls Try.prog 21 #[.pointer (some ⟨g, 0, none⟩), .int .u8 2, .bool false, .bool false] w (Ret (actV 0 false false 0 0) fun w' => LB w' g s ls tr mo ∧ w.grownBy w' (some g)) := by
  have hS := fun w h => state_any g s ls tr mo w h
  unfold LB at *
  go_enter Try.func21, Try.ntmps21
  have F0 : Turn (fun i => i = g ∨ w.heap.size ≤ i) w w := Turn.refl _
  have hc_l := hB_l.cell
  repeat (first|(with_reducible first|apply Xa|apply Xb|apply Xc|apply Xd)|((with_reducible apply Xk);(focus rfl);(focus (simp [go_sem,effAt,↓IntWalk.iteOmega, *];(try go_ints);with_reducible first|exact Xm|exact Xn));focus (simp only [Xo,Xp,Xq,Xr,Xs];rfl))|((with_reducible apply Xl);(focus rfl);focus (simp only [Xo,Xp,Xq,Xr,Xs];rfl))|(with_reducible first|apply Xe|apply Xf|apply Xg|apply Xh)|((with_reducible apply Xi);focus first|rfl|(simp [go_sem, *];done))|((with_reducible apply Xj);focus first|rfl|(simp [go_sem, *];done))|(simp only [Exit.then,Exit.inBlock,↓reduceIte,Nat.reduceEqDiff]))
  have lt_l_r := hB_l.lt
  have le_r := F0.size
  ((with_reducible apply Xu); (focus rfl); (focus (simp [go_sem, effAt]; exact ⟨rfl, rfl⟩)); (focus ((simp only [Xo,Xp,Xq,Xr,Xs];rfl))))
  intro w1 hB_r hs
  have Fw1 := F0.trans (Turn.of_below hs)
  replace hB_l := hB_l.below hs hB_l.lt
  clear hs F0
  clear hc_l; have hc_l := hB_l.cell
  have hc_r := hB_r.cell
  repeat (first|(with_reducible first|apply Xa|apply Xb|apply Xc|apply Xd)|((with_reducible apply Xk);(focus rfl);(focus (simp [go_sem,effAt,↓IntWalk.iteOmega, *];(try go_ints);with_reducible first|exact Xm|exact Xn));focus (simp only [Xo,Xp,Xq,Xr,Xs];rfl))|((with_reducible apply Xl);(focus rfl);focus (simp only [Xo,Xp,Xq,Xr,Xs];rfl))|(with_reducible first|apply Xe|apply Xf|apply Xg|apply Xh)|((with_reducible apply Xi);focus first|rfl|(simp [go_sem, *];done))|((with_reducible apply Xj);focus first|rfl|(simp [go_sem, *];done))|(simp only [Exit.then,Exit.inBlock,↓reduceIte,Nat.reduceEqDiff]))
  have hf_r := hB_r.frozen
  ((with_reducible apply Xt (fun w' => Blk w' _ _ _ ∧ w1.grownBy w' (some _))); (focus rfl); (focus (simp [go_sem, effAt, *]; exact ⟨rfl, (((((hB_r.set_ 0 _).set_ 1 _).set_ 2 _).set_ 3 _).set_ 4 _), (grown_set (grown_set (grown_set (grown_set (grown_set (World.grownBy.refl _ _))))))⟩)); (focus ((simp only [Xo,Xp,Xq,Xr,Xs];rfl))))
  clear hf_r hc_r hB_r
  intro w2 hs
  obtain ⟨hB_r, hs⟩ := hs
  simp only [Xq,Xr,Xs] at hB_r
  have Fw2 := Fw1.trans (Turn.of_grown hs (by first | exact .inl rfl | exact .inr (by omega)))
  replace hB_l := hB_l.grown hs (by intro hk; injection hk with hk; have := hB_l.lt; have := hB_r.lt; omega)
  clear hs Fw1
  clear hc_l; have hc_l := hB_l.cell
  have hc_r := hB_r.cell
  repeat (first|(with_reducible first|apply Xa|apply Xb|apply Xc|apply Xd)|((with_reducible apply Xk);(focus rfl);(focus (simp [go_sem,effAt,↓IntWalk.iteOmega, *];(try go_ints);with_reducible first|exact Xm|exact Xn));focus (simp only [Xo,Xp,Xq,Xr,Xs];rfl))|((with_reducible apply Xl);(focus rfl);focus (simp only [Xo,Xp,Xq,Xr,Xs];rfl))|(with_reducible first|apply Xe|apply Xf|apply Xg|apply Xh)|((with_reducible apply Xi);focus first|rfl|(simp [go_sem, *];done))|((with_reducible apply Xj);focus first|rfl|(simp [go_sem, *];done))|(simp only [Exit.then,Exit.inBlock,↓reduceIte,Nat.reduceEqDiff]))
  refine bodyPost_ret (v := (actV 0 false false 0 0)) (by simp [results, Try.results21, go_sem, *]) rfl ⟨rfl, hB_l, Turn.to_grown (by assumption)⟩
theorem hear_r2p (g : Nat) (s : Int) (ls : Bool) (tr mo : Int) {s2 tr2 mo2 k1 t1 f1 : Int} {c1 p1 ls2 : Bool} (w : World) (hB_l : LB w g s ls tr mo) (hF : ∀ w, LB w g s ls tr mo → Calls Try.prog 28 #[.pointer (some ⟨g, 0, none⟩), .iface 67 (.agg #[.int .u8 2])] w (Ret (actV k1 c1 p1 t1 f1) fun w' => LB w' g s2 ls2 tr2 mo2 ∧ w.grownBy w' (some g))) :
    Calls Try.prog 21 #[.pointer (some ⟨g, 0, none⟩), .int .u8 2, .bool true, .bool false] w (Ret (actV k1 c1 p1 t1 f1) fun w' => LB w' g s2 ls2 tr2 mo2 ∧ w.grownBy w' (some g)) := by
  have hS := fun w h => state_any g s ls tr mo w h
  unfold LB at *
  go_enter Try.func21, Try.ntmps21
  have F0 : Turn (fun i => i = g ∨ w.heap.size ≤ i) w w := Turn.refl _
  have hc_l := hB_l.cell
  repeat (first|(with_reducible first|apply Xa|apply Xb|apply Xc|apply Xd)|((with_reducible apply Xk);(focus rfl);(focus (simp [go_sem,effAt,↓IntWalk.iteOmega, *];(try go_ints);with_reducible first|exact Xm|exact Xn));focus (simp only [Xo,Xp,Xq,Xr,Xs];rfl))|((with_reducible apply Xl);(focus rfl);focus (simp only [Xo,Xp,Xq,Xr,Xs];rfl))|(with_reducible first|apply Xe|apply Xf|apply Xg|apply Xh)|((with_reducible apply Xi);focus first|rfl|(simp [go_sem, *];done))|((with_reducible apply Xj);focus first|rfl|(simp [go_sem, *];done))|(simp only [Exit.then,Exit.inBlock,↓reduceIte,Nat.reduceEqDiff]))
  have lt_l_r := hB_l.lt
  have le_r := F0.size
  ((with_reducible apply Xu); (focus rfl); (focus (simp [go_sem, effAt]; exact ⟨rfl, rfl⟩)); (focus ((simp only [Xo,Xp,Xq,Xr,Xs];rfl))))
  intro w1 hB_r hs
  have Fw1 := F0.trans (Turn.of_below hs)
  replace hB_l := hB_l.below hs hB_l.lt
  clear hs F0
  clear hc_l; have hc_l := hB_l.cell
  have hc_r := hB_r.cell
  repeat (first|(with_reducible first|apply Xa|apply Xb|apply Xc|apply Xd)|((with_reducible apply Xk);(focus rfl);(focus (simp [go_sem,effAt,↓IntWalk.iteOmega, *];(try go_ints);with_reducible first|exact Xm|exact Xn));focus (simp only [Xo,Xp,Xq,Xr,Xs];rfl))|((with_reducible apply Xl);(focus rfl);focus (simp only [Xo,Xp,Xq,Xr,Xs];rfl))|(with_reducible first|apply Xe|apply Xf|apply Xg|apply Xh)|((with_reducible apply Xi);focus first|rfl|(simp [go_sem, *];done))|((with_reducible apply Xj);focus first|rfl|(simp [go_sem, *];done))|(simp only [Exit.then,Exit.inBlock,↓reduceIte,Nat.reduceEqDiff]))
  ((with_reducible apply Xt (fun w' => Blk w' _ _ _ ∧ w1.grownBy w' (some _))); (focus rfl); (focus (simp only [effAt]; simp [go_sem]; (with_reducible exact effUpon_enter (hF _ hB_l)))); (focus ((simp only [Xo,Xp,Xq,Xr,Xs];rfl))))
  clear hc_l hB_l
  intro w2 hs
  obtain ⟨hB_l, hs⟩ := hs
  have Fw2 := Fw1.trans (Turn.of_grown hs (by first | exact .inl rfl | exact .inr (by omega)))
  replace hB_r := hB_r.grown hs (by intro hk; injection hk with hk; have := hB_r.lt; have := hB_l.lt; omega)
  clear hs Fw1
  clear hc_r; have hc_r := hB_r.cell
  have hc_l := hB_l.cell
  repeat (first|(with_reducible first|apply Xa|apply Xb|apply Xc|apply Xd)|((with_reducible apply Xk);(focus rfl);(focus (simp [go_sem,effAt,↓IntWalk.iteOmega, *];(try go_ints);with_reducible first|exact Xm|exact Xn));focus (simp only [Xo,Xp,Xq,Xr,Xs];rfl))|((with_reducible apply Xl);(focus rfl);focus (simp only [Xo,Xp,Xq,Xr,Xs];rfl))|(with_reducible first|apply Xe|apply Xf|apply Xg|apply Xh)|((with_reducible apply Xi);focus first|rfl|(simp [go_sem, *];done))|((with_reducible apply Xj);focus first|rfl|(simp [go_sem, *];done))|(simp only [Exit.then,Exit.inBlock,↓reduceIte,Nat.reduceEqDiff]))
  have hf_r := hB_r.frozen
  ((with_reducible apply Xt (fun w' => Blk w' _ _ _ ∧ w2.grownBy w' (some _))); (focus rfl); (focus (simp [go_sem, effAt, *]; exact ⟨rfl, (((((hB_r.set_ 0 _).set_ 1 _).set_ 2 _).set_ 3 _).set_ 4 _), (grown_set (grown_set (grown_set (grown_set (grown_set (World.grownBy.refl _ _))))))⟩)); (focus ((simp only [Xo,Xp,Xq,Xr,Xs];rfl))))
  clear hf_r hc_r hB_r
  intro w3 hs
  obtain ⟨hB_r, hs⟩ := hs
  simp only [Xq,Xr,Xs] at hB_r
  have Fw3 := Fw2.trans (Turn.of_grown hs (by first | exact .inl rfl | exact .inr (by omega)))
  replace hB_l := hB_l.grown hs (by intro hk; injection hk with hk; have := hB_l.lt; have := hB_r.lt; omega)
  clear hs Fw2
  clear hc_l; have hc_l := hB_l.cell
  have hc_r := hB_r.cell
  repeat (first|(with_reducible first|apply Xa|apply Xb|apply Xc|apply Xd)|((with_reducible apply Xk);(focus rfl);(focus (simp [go_sem,effAt,↓IntWalk.iteOmega, *];(try go_ints);with_reducible first|exact Xm|exact Xn));focus (simp only [Xo,Xp,Xq,Xr,Xs];rfl))|((with_reducible apply Xl);(focus rfl);focus (simp only [Xo,Xp,Xq,Xr,Xs];rfl))|(with_reducible first|apply Xe|apply Xf|apply Xg|apply Xh)|((with_reducible apply Xi);focus first|rfl|(simp [go_sem, *];done))|((with_reducible apply Xj);focus first|rfl|(simp [go_sem, *];done))|(simp only [Exit.then,Exit.inBlock,↓reduceIte,Nat.reduceEqDiff]))
  refine bodyPost_ret (v := (actV k1 c1 p1 t1 f1)) (by simp [results, Try.results21, go_sem, *]) rfl ⟨rfl, hB_l, Turn.to_grown (by assumption)⟩
theorem hear_own3 (g : Nat) (s : Int) (ls : Bool) (tr mo : Int) (pf : Bool) (w : World) (hB_l : LB w g s ls tr mo) :
    Calls Try.prog 21 #[.pointer (some ⟨g, 0, none⟩), .int .u8 3, .bool pf, .bool true] w (Ret (actV 0 false false 0 0) fun w' => LB w' g s ls tr mo ∧ w.grownBy w' (some g)) := by
  have hS := fun w h => state_any g s ls tr mo w h
  unfold LB at *
  go_enter Try.func21, Try.ntmps21
  have F0 : Turn (fun i => i = g ∨ w.heap.size ≤ i) w w := Turn.refl _
  have hc_l := hB_l.cell
  repeat (first|(with_reducible first|apply Xa|apply Xb|apply Xc|apply Xd)|((with_reducible apply Xk);(focus rfl);(focus (simp [go_sem,effAt,↓IntWalk.iteOmega, *];(try go_ints);with_reducible first|exact Xm|exact Xn));focus (simp only [Xo,Xp,Xq,Xr,Xs];rfl))|((with_reducible apply Xl);(focus rfl);focus (simp only [Xo,Xp,Xq,Xr,Xs];rfl))|(with_reducible first|apply Xe|apply Xf|apply Xg|apply Xh)|((with_reducible apply Xi);focus first|rfl|(simp [go_sem, *];done))|((with_reducible apply Xj);focus first|rfl|(simp [go_sem, *];done))|(simp only [Exit.then,Exit.inBlock,↓reduceIte,Nat.reduceEqDiff]))
  have lt_l_r := hB_l.lt
  have le_r := F0.size
  ((with_reducible apply Xu); (focus rfl); (focus (simp [go_sem, effAt]; exact ⟨rfl, rfl⟩)); (focus ((simp only [Xo,Xp,Xq,Xr,Xs];rfl))))
  intro w1 hB_r hs
  have Fw1 := F0.trans (Turn.of_below hs)
  replace hB_l := hB_l.below hs hB_l.lt
  clear hs F0
  clear hc_l; have hc_l := hB_l.cell
  have hc_r := hB_r.cell
  repeat (first|(with_reducible first|apply Xa|apply Xb|apply Xc|apply Xd)|((with_reducible apply Xk);(focus rfl);(focus (simp [go_sem,effAt,↓IntWalk.iteOmega, *];(try go_ints);with_reducible first|exact Xm|exact Xn));focus (simp only [Xo,Xp,Xq,Xr,Xs];rfl))|((with_reducible apply Xl);(focus rfl);focus (simp only [Xo,Xp,Xq,Xr,Xs];rfl))|(with_reducible first|apply Xe|apply Xf|apply Xg|apply Xh)|((with_reducible apply Xi);focus first|rfl|(simp [go_sem, *];done))|((with_reducible apply Xj);focus first|rfl|(simp [go_sem, *];done))|(simp only [Exit.then,Exit.inBlock,↓reduceIte,Nat.reduceEqDiff]))
  have hf_r := hB_r.frozen
  ((with_reducible apply Xt (fun w' => Blk w' _ _ _ ∧ w1.grownBy w' (some _))); (focus rfl); (focus (simp [go_sem, effAt, *]; exact ⟨rfl, (((((hB_r.set_ 0 _).set_ 1 _).set_ 2 _).set_ 3 _).set_ 4 _), (grown_set (grown_set (grown_set (grown_set (grown_set (World.grownBy.refl _ _))))))⟩)); (focus ((simp only [Xo,Xp,Xq,Xr,Xs];rfl))))
  clear hf_r hc_r hB_r
  intro w2 hs
  obtain ⟨hB_r, hs⟩ := hs
  simp only [Xq,Xr,Xs] at hB_r
  have Fw2 := Fw1.trans (Turn.of_grown hs (by first | exact .inl rfl | exact .inr (by omega)))
  replace hB_l := hB_l.grown hs (by intro hk; injection hk with hk; have := hB_l.lt; have := hB_r.lt; omega)
  clear hs Fw1
  clear hc_l; have hc_l := hB_l.cell
  have hc_r := hB_r.cell
  repeat (first|(with_reducible first|apply Xa|apply Xb|apply Xc|apply Xd)|((with_reducible apply Xk);(focus rfl);(focus (simp [go_sem,effAt,↓IntWalk.iteOmega, *];(try go_ints);with_reducible first|exact Xm|exact Xn));focus (simp only [Xo,Xp,Xq,Xr,Xs];rfl))|((with_reducible apply Xl);(focus rfl);focus (simp only [Xo,Xp,Xq,Xr,Xs];rfl))|(with_reducible first|apply Xe|apply Xf|apply Xg|apply Xh)|((with_reducible apply Xi);focus first|rfl|(simp [go_sem, *];done))|((with_reducible apply Xj);focus first|rfl|(simp [go_sem, *];done))|(simp only [Exit.then,Exit.inBlock,↓reduceIte,Nat.reduceEqDiff]))
  refine bodyPost_ret (v := (actV 0 false false 0 0)) (by simp [results, Try.results21, go_sem, *]) rfl ⟨rfl, hB_l, Turn.to_grown (by assumption)⟩
theorem hear_r3n (g : Nat) (s : Int) (ls : Bool) (tr mo : Int) (w : World) (hB_l : LB w g s ls tr mo) (h3 : ¬ s = 3) :
    Calls Try.prog 21 #[.pointer (some ⟨g, 0, none⟩), .int .u8 3, .bool false, .bool false] w (Ret (actV 0 false false 0 0) fun w' => LB w' g s ls tr mo ∧ w.grownBy w' (some g)) := by
  have m3 : (s == 3) = false := by simpa using h3
  have hS := fun w h => state_any g s ls tr mo w h
  unfold LB at *
  go_enter Try.func21, Try.ntmps21
  have F0 : Turn (fun i => i = g ∨ w.heap.size ≤ i) w w := Turn.refl _
  have hc_l := hB_l.cell
  repeat (first|(with_reducible first|apply Xa|apply Xb|apply Xc|apply Xd)|((with_reducible apply Xk);(focus rfl);(focus (simp [go_sem,effAt,↓IntWalk.iteOmega, *];(try go_ints);with_reducible first|exact Xm|exact Xn));focus (simp only [Xo,Xp,Xq,Xr,Xs];rfl))|((with_reducible apply Xl);(focus rfl);focus (simp only [Xo,Xp,Xq,Xr,Xs];rfl))|(with_reducible first|apply Xe|apply Xf|apply Xg|apply Xh)|((with_reducible apply Xi);focus first|rfl|(simp [go_sem, *];done))|((with_reducible apply Xj);focus first|rfl|(simp [go_sem, *];done))|(simp only [Exit.then,Exit.inBlock,↓reduceIte,Nat.reduceEqDiff]))
  have lt_l_r := hB_l.lt
  have le_r := F0.size
  ((with_reducible apply Xu); (focus rfl); (focus (simp [go_sem, effAt]; exact ⟨rfl, rfl⟩)); (focus ((simp only [Xo,Xp,Xq,Xr,Xs];rfl))))
  intro w1 hB_r hs
  have Fw1 := F0.trans (Turn.of_below hs)
  replace hB_l := hB_l.below hs hB_l.lt
  clear hs F0
  clear hc_l; have hc_l := hB_l.cell
  have hc_r := hB_r.cell
  repeat (first|(with_reducible first|apply Xa|apply Xb|apply Xc|apply Xd)|((with_reducible apply Xk);(focus rfl);(focus (simp [go_sem,effAt,↓IntWalk.iteOmega, *];(try go_ints);with_reducible first|exact Xm|exact Xn));focus (simp only [Xo,Xp,Xq,Xr,Xs];rfl))|((with_reducible apply Xl);(focus rfl);focus (simp only [Xo,Xp,Xq,Xr,Xs];rfl))|(with_reducible first|apply Xe|apply Xf|apply Xg|apply Xh)|((with_reducible apply Xi);focus first|rfl|(simp [go_sem, *];done))|((with_reducible apply Xj);focus first|rfl|(simp [go_sem, *];done))|(simp only [Exit.then,Exit.inBlock,↓reduceIte,Nat.reduceEqDiff]))
  ((with_reducible apply Xt (Below w1.heap.size w1)); (focus rfl); (focus (simp only [effAt]; simp [go_sem]; (with_reducible exact effUpon_enter (hS _ hB_l)))); (focus ((simp only [Xo,Xp,Xq,Xr,Xs];rfl))))
  intro w2 hs
  have Fw2 := Fw1.trans (Turn.of_below hs)
  replace hB_l := hB_l.below hs hB_l.lt
  replace hB_r := hB_r.below hs hB_r.lt
  clear hs Fw1
  clear hc_l; have hc_l := hB_l.cell
  clear hc_r; have hc_r := hB_r.cell
  repeat (first|(with_reducible first|apply Xa|apply Xb|apply Xc|apply Xd)|((with_reducible apply Xk);(focus rfl);(focus (simp [go_sem,effAt,↓IntWalk.iteOmega, *];(try go_ints);with_reducible first|exact Xm|exact Xn));focus (simp only [Xo,Xp,Xq,Xr,Xs];rfl))|((with_reducible apply Xl);(focus rfl);focus (simp only [Xo,Xp,Xq,Xr,Xs];rfl))|(with_reducible first|apply Xe|apply Xf|apply Xg|apply Xh)|((with_reducible apply Xi);focus first|rfl|(simp [go_sem, *];done))|((with_reducible apply Xj);focus first|rfl|(simp [go_sem, *];done))|(simp only [Exit.then,Exit.inBlock,↓reduceIte,Nat.reduceEqDiff]))
  have hf_r := hB_r.frozen
  ((with_reducible apply Xt (fun w' => Blk w' _ _ _ ∧ w2.grownBy w' (some _))); (focus rfl); (focus (simp [go_sem, effAt, *]; exact ⟨rfl, (((((hB_r.set_ 0 _).set_ 1 _).set_ 2 _).set_ 3 _).set_ 4 _), (grown_set (grown_set (grown_set (grown_set (grown_set (World.grownBy.refl _ _))))))⟩)); (focus ((simp only [Xo,Xp,Xq,Xr,Xs];rfl))))
  clear hf_r hc_r hB_r
  intro w3 hs
  obtain ⟨hB_r, hs⟩ := hs
  simp only [Xq,Xr,Xs] at hB_r
  have Fw3 := Fw2.trans (Turn.of_grown hs (by first | exact .inl rfl | exact .inr (by omega)))
  replace hB_l := hB_l.grown hs (by intro hk; injection hk with hk; have := hB_l.lt; have := hB_r.lt; omega)
  clear hs Fw2
  clear hc_l; have hc_l := hB_l.cell
  have hc_r := hB_r.cell
  repeat (first|(with_reducible first|apply Xa|apply Xb|apply Xc|apply Xd)|((with_reducible apply Xk);(focus rfl);(focus (simp [go_sem,effAt,↓IntWalk.iteOmega, *];(try go_ints);with_reducible first|exact Xm|exact Xn));focus (simp only [Xo,Xp,Xq,Xr,Xs];rfl))|((with_reducible apply Xl);(focus rfl);focus (simp only [Xo,Xp,Xq,Xr,Xs];rfl))|(with_reducible first|apply Xe|apply Xf|apply Xg|apply Xh)|((with_reducible apply Xi);focus first|rfl|(simp [go_sem, *];done))|((with_reducible apply Xj);focus first|rfl|(simp [go_sem, *];done))|(simp only [Exit.then,Exit.inBlock,↓reduceIte,Nat.reduceEqDiff]))
  refine bodyPost_ret (v := (actV 0 false false 0 0)) (by simp [results, Try.results21, go_sem, *]) rfl ⟨rfl, hB_l, Turn.to_grown (by assumption)⟩
theorem hear_r3p (g : Nat) (s : Int) (ls : Bool) (tr mo : Int) {s2 tr2 mo2 k1 t1 f1 : Int} {c1 p1 ls2 : Bool} (w : World) (hB_l : LB w g s ls tr mo) (h3 : ¬ s = 3) (hF : ∀ w, LB w g s ls tr mo → Calls Try.prog 28 #[.pointer (some ⟨g, 0, none⟩), .iface 67 (.agg #[.int .u8 3])] w (Ret (actV k1 c1 p1 t1 f1) fun w' => LB w' g s2 ls2 tr2 mo2 ∧ w.grownBy w' (some g))) :
    Calls Try.prog 21 #[.pointer (some ⟨g, 0, none⟩), .int .u8 3, .bool true, .bool false] w (Ret (actV k1 c1 p1 t1 f1) fun w' => LB w' g s2 ls2 tr2 mo2 ∧ w.grownBy w' (some g)) := by
  have m3 : (s == 3) = false := by simpa using h3
  have hS := fun w h => state_any g s ls tr mo w h
  unfold LB at *
  go_enter Try.func21, Try.ntmps21
  have F0 : Turn (fun i => i = g ∨ w.heap.size ≤ i) w w := Turn.refl _
  have hc_l := hB_l.cell
  repeat (first|(with_reducible first|apply Xa|apply Xb|apply Xc|apply Xd)|((with_reducible apply Xk);(focus rfl);(focus (simp [go_sem,effAt,↓IntWalk.iteOmega, *];(try go_ints);with_reducible first|exact Xm|exact Xn));focus (simp only [Xo,Xp,Xq,Xr,Xs];rfl))|((with_reducible apply Xl);(focus rfl);focus (simp only [Xo,Xp,Xq,Xr,Xs];rfl))|(with_reducible first|apply Xe|apply Xf|apply Xg|apply Xh)|((with_reducible apply Xi);focus first|rfl|(simp [go_sem, *];done))|((with_reducible apply Xj);focus first|rfl|(simp [go_sem, *];done))|(simp only [Exit.then,Exit.inBlock,↓reduceIte,Nat.reduceEqDiff]))
  have lt_l_r := hB_l.lt
  have le_r := F0.size
  ((with_reducible apply Xu); (focus rfl); (focus (simp [go_sem, effAt]; exact ⟨rfl, rfl⟩)); (focus ((simp only [Xo,Xp,Xq,Xr,Xs];rfl))))
  intro w1 hB_r hs
  have Fw1 := F0.trans (Turn.of_below hs)
  replace hB_l := hB_l.below hs hB_l.lt
  clear hs F0
  clear hc_l; have hc_l := hB_l.cell
  have hc_r := hB_r.cell
  repeat (first|(with_reducible first|apply Xa|apply Xb|apply Xc|apply Xd)|((with_reducible apply Xk);(focus rfl);(focus (simp [go_sem,effAt,↓IntWalk.iteOmega, *];(try go_ints);with_reducible first|exact Xm|exact Xn));focus (simp only [Xo,Xp,Xq,Xr,Xs];rfl))|((with_reducible apply Xl);(focus rfl);focus (simp only [Xo,Xp,Xq,Xr,Xs];rfl))|(with_reducible first|apply Xe|apply Xf|apply Xg|apply Xh)|((with_reducible apply Xi);focus first|rfl|(simp [go_sem, *];done))|((with_reducible apply Xj);focus first|rfl|(simp [go_sem, *];done))|(simp only [Exit.then,Exit.inBlock,↓reduceIte,Nat.reduceEqDiff]))
  ((with_reducible apply Xt (Below w1.heap.size w1)); (focus rfl); (focus (simp only [effAt]; simp [go_sem]; (with_reducible exact effUpon_enter (hS _ hB_l)))); (focus ((simp only [Xo,Xp,Xq,Xr,Xs];rfl))))
  intro w2 hs
  have Fw2 := Fw1.trans (Turn.of_below hs)
  replace hB_l := hB_l.below hs hB_l.lt
  replace hB_r := hB_r.below hs hB_r.lt
  clear hs Fw1
  clear hc_l; have hc_l := hB_l.cell
  clear hc_r; have hc_r := hB_r.cell
  repeat (first|(with_reducible first|apply Xa|apply Xb|apply Xc|apply Xd)|((with_reducible apply Xk);(focus rfl);(focus (simp [go_sem,effAt,↓IntWalk.iteOmega, *];(try go_ints);with_reducible first|exact Xm|exact Xn));focus (simp only [Xo,Xp,Xq,Xr,Xs];rfl))|((with_reducible apply Xl);(focus rfl);focus (simp only [Xo,Xp,Xq,Xr,Xs];rfl))|(with_reducible first|apply Xe|apply Xf|apply Xg|apply Xh)|((with_reducible apply Xi);focus first|rfl|(simp [go_sem, *];done))|((with_reducible apply Xj);focus first|rfl|(simp [go_sem, *];done))|(simp only [Exit.then,Exit.inBlock,↓reduceIte,Nat.reduceEqDiff]))
  ((with_reducible apply Xt (fun w' => Blk w' _ _ _ ∧ w2.grownBy w' (some _))); (focus rfl); (focus (simp only [effAt]; simp [go_sem]; (with_reducible exact effUpon_enter (hF _ hB_l)))); (focus ((simp only [Xo,Xp,Xq,Xr,Xs];rfl))))
  clear hc_l hB_l
  intro w3 hs
  obtain ⟨hB_l, hs⟩ := hs
  have Fw3 := Fw2.trans (Turn.of_grown hs (by first | exact .inl rfl | exact .inr (by omega)))
  replace hB_r := hB_r.grown hs (by intro hk; injection hk with hk; have := hB_r.lt; have := hB_l.lt; omega)
  clear hs Fw2
  clear hc_r; have hc_r := hB_r.cell
  have hc_l := hB_l.cell
  repeat (first|(with_reducible first|apply Xa|apply Xb|apply Xc|apply Xd)|((with_reducible apply Xk);(focus rfl);(focus (simp [go_sem,effAt,↓IntWalk.iteOmega, *];(try go_ints);with_reducible first|exact Xm|exact Xn));focus (simp only [Xo,Xp,Xq,Xr,Xs];rfl))|((with_reducible apply Xl);(focus rfl);focus (simp only [Xo,Xp,Xq,Xr,Xs];rfl))|(with_reducible first|apply Xe|apply Xf|apply Xg|apply Xh)|((with_reducible apply Xi);focus first|rfl|(simp [go_sem, *];done))|((with_reducible apply Xj);focus first|rfl|(simp [go_sem, *];done))|(simp only [Exit.then,Exit.inBlock,↓reduceIte,Nat.reduceEqDiff]))
  have hf_r := hB_r.frozen
  ((with_reducible apply Xt (fun w' => Blk w' _ _ _ ∧ w3.grownBy w' (some _))); (focus rfl); (focus (simp [go_sem, effAt, *]; exact ⟨rfl, (((((hB_r.set_ 0 _).set_ 1 _).set_ 2 _).set_ 3 _).set_ 4 _), (grown_set (grown_set (grown_set (grown_set (grown_set (World.grownBy.refl _ _))))))⟩)); (focus ((simp only [Xo,Xp,Xq,Xr,Xs];rfl))))
  clear hf_r hc_r hB_r
  intro w4 hs
  obtain ⟨hB_r, hs⟩ := hs
  simp only [Xq,Xr,Xs] at hB_r
  have Fw4 := Fw3.trans (Turn.of_grown hs (by first | exact .inl rfl | exact .inr (by omega)))
  replace hB_l := hB_l.grown hs (by intro hk; injection hk with hk; have := hB_l.lt; have := hB_r.lt; omega)
  clear hs Fw3
  clear hc_l; have hc_l := hB_l.cell
  have hc_r := hB_r.cell
  repeat (first|(with_reducible first|apply Xa|apply Xb|apply Xc|apply Xd)|((with_reducible apply Xk);(focus rfl);(focus (simp [go_sem,effAt,↓IntWalk.iteOmega, *];(try go_ints);with_reducible first|exact Xm|exact Xn));focus (simp only [Xo,Xp,Xq,Xr,Xs];rfl))|((with_reducible apply Xl);(focus rfl);focus (simp only [Xo,Xp,Xq,Xr,Xs];rfl))|(with_reducible first|apply Xe|apply Xf|apply Xg|apply Xh)|((with_reducible apply Xi);focus first|rfl|(simp [go_sem, *];done))|((with_reducible apply Xj);focus first|rfl|(simp [go_sem, *];done))|(simp only [Exit.then,Exit.inBlock,↓reduceIte,Nat.reduceEqDiff]))
  refine bodyPost_ret (v := (actV k1 c1 p1 t1 f1)) (by simp [results, Try.results21, go_sem, *]) rfl ⟨rfl, hB_l, Turn.to_grown (by assumption)⟩
theorem hear_dm (g : Nat) (ls : Bool) (tr mo : Int) (pf : Bool) (w : World) (hB_l : LB w g 3 ls tr mo) :
    Calls Try.prog 21 #[.pointer (some ⟨g, 0, none⟩), .int .u8 3, .bool pf, .bool false] w (Ret (actV 0 false false 0 5) fun w' => LB w' g 1 ls tr mo ∧ w.grownBy w' (some g)) := by
  have hS := fun w h => state_any g 3 ls tr mo w h
  have hG := fun w h => goes_any g 3 1 ls tr mo 0 false false 0 0 5 w h
  unfold LB at *
  go_enter Try.func21, Try.ntmps21
  have F0 : Turn (fun i => i = g ∨ w.heap.size ≤ i) w w := Turn.refl _
  have hc_l := hB_l.cell
  repeat (first|(with_reducible first|apply Xa|apply Xb|apply Xc|apply Xd)|((with_reducible apply Xk);(focus rfl);(focus (simp [go_sem,effAt,↓IntWalk.iteOmega, *];(try go_ints);with_reducible first|exact Xm|exact Xn));focus (simp only [Xo,Xp,Xq,Xr,Xs];rfl))|((with_reducible apply Xl);(focus rfl);focus (simp only [Xo,Xp,Xq,Xr,Xs];rfl))|(with_reducible first|apply Xe|apply Xf|apply Xg|apply Xh)|((with_reducible apply Xi);focus first|rfl|(simp [go_sem, *];done))|((with_reducible apply Xj);focus first|rfl|(simp [go_sem, *];done))|(simp only [Exit.then,Exit.inBlock,↓reduceIte,Nat.reduceEqDiff]))
  have lt_l_r := hB_l.lt
  have le_r := F0.size
  ((with_reducible apply Xu); (focus rfl); (focus (simp [go_sem, effAt]; exact ⟨rfl, rfl⟩)); (focus ((simp only [Xo,Xp,Xq,Xr,Xs];rfl))))
  intro w1 hB_r hs
  have Fw1 := F0.trans (Turn.of_below hs)
  replace hB_l := hB_l.below hs hB_l.lt
  clear hs F0
  clear hc_l; have hc_l := hB_l.cell
  have hc_r := hB_r.cell
  repeat (first|(with_reducible first|apply Xa|apply Xb|apply Xc|apply Xd)|((with_reducible apply Xk);(focus rfl);(focus (simp [go_sem,effAt,↓IntWalk.iteOmega, *];(try go_ints);with_reducible first|exact Xm|exact Xn));focus (simp only [Xo,Xp,Xq,Xr,Xs];rfl))|((with_reducible apply Xl);(focus rfl);focus (simp only [Xo,Xp,Xq,Xr,Xs];rfl))|(with_reducible first|apply Xe|apply Xf|apply Xg|apply Xh)|((with_reducible apply Xi);focus first|rfl|(simp [go_sem, *];done))|((with_reducible apply Xj);focus first|rfl|(simp [go_sem, *];done))|(simp only [Exit.then,Exit.inBlock,↓reduceIte,Nat.reduceEqDiff]))
  ((with_reducible apply Xt (Below w1.heap.size w1)); (focus rfl); (focus (simp only [effAt]; simp [go_sem]; (with_reducible exact effUpon_enter (hS _ hB_l)))); (focus ((simp only [Xo,Xp,Xq,Xr,Xs];rfl))))
  intro w2 hs
  have Fw2 := Fw1.trans (Turn.of_below hs)
  replace hB_l := hB_l.below hs hB_l.lt
  replace hB_r := hB_r.below hs hB_r.lt
  clear hs Fw1
  clear hc_l; have hc_l := hB_l.cell
  clear hc_r; have hc_r := hB_r.cell
  repeat (first|(with_reducible first|apply Xa|apply Xb|apply Xc|apply Xd)|((with_reducible apply Xk);(focus rfl);(focus (simp [go_sem,effAt,↓IntWalk.iteOmega, *];(try go_ints);with_reducible first|exact Xm|exact Xn));focus (simp only [Xo,Xp,Xq,Xr,Xs];rfl))|((with_reducible apply Xl);(focus rfl);focus (simp only [Xo,Xp,Xq,Xr,Xs];rfl))|(with_reducible first|apply Xe|apply Xf|apply Xg|apply Xh)|((with_reducible apply Xi);focus first|rfl|(simp [go_sem, *];done))|((with_reducible apply Xj);focus first|rfl|(simp [go_sem, *];done))|(simp only [Exit.then,Exit.inBlock,↓reduceIte,Nat.reduceEqDiff]))
  ((with_reducible apply Xt (fun w' => Blk w' _ _ _ ∧ w2.grownBy w' (some _))); (focus rfl); (focus (simp only [effAt]; simp [go_sem]; (with_reducible exact effUpon_enter (hG _ hB_l)))); (focus ((simp only [Xo,Xp,Xq,Xr,Xs];rfl))))
  clear hc_l hB_l
  intro w3 hs
  obtain ⟨hB_l, hs⟩ := hs
  have Fw3 := Fw2.trans (Turn.of_grown hs (by first | exact .inl rfl | exact .inr (by omega)))
  replace hB_r := hB_r.grown hs (by intro hk; injection hk with hk; have := hB_r.lt; have := hB_l.lt; omega)
  clear hs Fw2
  clear hc_r; have hc_r := hB_r.cell
  have hc_l := hB_l.cell
  repeat (first|(with_reducible first|apply Xa|apply Xb|apply Xc|apply Xd)|((with_reducible apply Xk);(focus rfl);(focus (simp [go_sem,effAt,↓IntWalk.iteOmega, *];(try go_ints);with_reducible first|exact Xm|exact Xn));focus (simp only [Xo,Xp,Xq,Xr,Xs];rfl))|((with_reducible apply Xl);(focus rfl);focus (simp only [Xo,Xp,Xq,Xr,Xs];rfl))|(with_reducible first|apply Xe|apply Xf|apply Xg|apply Xh)|((with_reducible apply Xi);focus first|rfl|(simp [go_sem, *];done))|((with_reducible apply Xj);focus first|rfl|(simp [go_sem, *];done))|(simp only [Exit.then,Exit.inBlock,↓reduceIte,Nat.reduceEqDiff]))
  have hf_r := hB_r.frozen
  ((with_reducible apply Xt (fun w' => Blk w' _ _ _ ∧ w3.grownBy w' (some _))); (focus rfl); (focus (simp [go_sem, effAt, *]; exact ⟨rfl, (((((hB_r.set_ 0 _).set_ 1 _).set_ 2 _).set_ 3 _).set_ 4 _), (grown_set (grown_set (grown_set (grown_set (grown_set (World.grownBy.refl _ _))))))⟩)); (focus ((simp only [Xo,Xp,Xq,Xr,Xs];rfl))))
  clear hf_r hc_r hB_r
  intro w4 hs
  obtain ⟨hB_r, hs⟩ := hs
  simp only [Xq,Xr,Xs] at hB_r
  have Fw4 := Fw3.trans (Turn.of_grown hs (by first | exact .inl rfl | exact .inr (by omega)))
  replace hB_l := hB_l.grown hs (by intro hk; injection hk with hk; have := hB_l.lt; have := hB_r.lt; omega)
  clear hs Fw3
  clear hc_l; have hc_l := hB_l.cell
  have hc_r := hB_r.cell
  repeat (first|(with_reducible first|apply Xa|apply Xb|apply Xc|apply Xd)|((with_reducible apply Xk);(focus rfl);(focus (simp [go_sem,effAt,↓IntWalk.iteOmega, *];(try go_ints);with_reducible first|exact Xm|exact Xn));focus (simp only [Xo,Xp,Xq,Xr,Xs];rfl))|((with_reducible apply Xl);(focus rfl);focus (simp only [Xo,Xp,Xq,Xr,Xs];rfl))|(with_reducible first|apply Xe|apply Xf|apply Xg|apply Xh)|((with_reducible apply Xi);focus first|rfl|(simp [go_sem, *];done))|((with_reducible apply Xj);focus first|rfl|(simp [go_sem, *];done))|(simp only [Exit.then,Exit.inBlock,↓reduceIte,Nat.reduceEqDiff]))
  refine bodyPost_ret (v := actV 0 false false 0 5) (by simp [results, Try.results21, go_sem, *]) rfl ⟨rfl, hB_l, Turn.to_grown (by assumption)⟩
theorem hear_nil_low (k : Int) (pf cmd : Bool) (w : World) (h1 : k < 1) :
    Calls Try.prog 21 #[.pointer none, .int .u8 k, .bool pf, .bool cmd] w (Ret (actV 0 false false 0 0) (Below w.heap.size w)) := by
  have m2 : (k == 2) = false := by simp; omega
  have m3 : (k == 3) = false := by simp; omega
  go_enter Try.func21, Try.ntmps21
  have F0 : Below w.heap.size w w := Below.refl _ _
  repeat (first|(with_reducible first|apply Xa|apply Xb|apply Xc|apply Xd)|((with_reducible apply Xk);(focus rfl);(focus (simp [go_sem,effAt,↓IntWalk.iteOmega, *];(try go_ints);with_reducible first|exact Xm|exact Xn));focus (simp only [Xo,Xp,Xq,Xr,Xs];rfl))|((with_reducible apply Xl);(focus rfl);focus (simp only [Xo,Xp,Xq,Xr,Xs];rfl))|(with_reducible first|apply Xe|apply Xf|apply Xg|apply Xh)|((with_reducible apply Xi);focus first|rfl|(simp [go_sem, *];done))|((with_reducible apply Xj);focus first|rfl|(simp [go_sem, *];done))|(simp only [Exit.then,Exit.inBlock,↓reduceIte,Nat.reduceEqDiff]))
  ((with_reducible apply Xu); (focus rfl); (focus (simp [go_sem, effAt]; exact ⟨rfl, rfl⟩)); (focus ((simp only [Xo,Xp,Xq,Xr,Xs];rfl))))
  intro w1 hB_r hs
  have Fw1 := F0.trans (hs.mono F0.size)
  clear hs F0
  have hc_r := hB_r.cell
  repeat (first|(with_reducible first|apply Xa|apply Xb|apply Xc|apply Xd)|((with_reducible apply Xk);(focus rfl);(focus (simp [go_sem,effAt,↓IntWalk.iteOmega, *];(try go_ints);with_reducible first|exact Xm|exact Xn));focus (simp only [Xo,Xp,Xq,Xr,Xs];rfl))|((with_reducible apply Xl);(focus rfl);focus (simp only [Xo,Xp,Xq,Xr,Xs];rfl))|(with_reducible first|apply Xe|apply Xf|apply Xg|apply Xh)|((with_reducible apply Xi);focus first|rfl|(simp [go_sem, *];done))|((with_reducible apply Xj);focus first|rfl|(simp [go_sem, *];done))|(simp only [Exit.then,Exit.inBlock,↓reduceIte,Nat.reduceEqDiff]))
  have hf_r := hB_r.frozen
  ((with_reducible apply Xt (fun w' => Blk w' _ _ _ ∧ w1.grownBy w' (some _))); (focus rfl); (focus (simp [go_sem, effAt, *]; exact ⟨rfl, (((((hB_r.set_ 0 _).set_ 1 _).set_ 2 _).set_ 3 _).set_ 4 _), (grown_set (grown_set (grown_set (grown_set (grown_set (World.grownBy.refl _ _))))))⟩)); (focus ((simp only [Xo,Xp,Xq,Xr,Xs];rfl))))
  clear hf_r hc_r hB_r
  intro w2 hs
  obtain ⟨hB_r, hs⟩ := hs
  simp only [Xq,Xr,Xs] at hB_r
  have Fw2 := Fw1.grown hs Fw1.size (by intro k hk; first | (injection hk with hk; subst hk; first | exact Nat.le_refl _ | exact Fw1.size | omega) | omega)
  clear hs Fw1
  have hc_r := hB_r.cell
  repeat (first|(with_reducible first|apply Xa|apply Xb|apply Xc|apply Xd)|((with_reducible apply Xk);(focus rfl);(focus (simp [go_sem,effAt,↓IntWalk.iteOmega, *];(try go_ints);with_reducible first|exact Xm|exact Xn));focus (simp only [Xo,Xp,Xq,Xr,Xs];rfl))|((with_reducible apply Xl);(focus rfl);focus (simp only [Xo,Xp,Xq,Xr,Xs];rfl))|(with_reducible first|apply Xe|apply Xf|apply Xg|apply Xh)|((with_reducible apply Xi);focus first|rfl|(simp [go_sem, *];done))|((with_reducible apply Xj);focus first|rfl|(simp [go_sem, *];done))|(simp only [Exit.then,Exit.inBlock,↓reduceIte,Nat.reduceEqDiff]))
  refine bodyPost_ret (v := (actV 0 false false 0 0)) (by simp [results, Try.results21, go_sem, *]) rfl ⟨rfl, by assumption⟩
theorem hear_nil_up (k : Int) (pf cmd : Bool) (w : World) (h1 : ¬ k < 1) (h2 : 10 < k) :
    Calls Try.prog 21 #[.pointer none, .int .u8 k, .bool pf, .bool cmd] w (Ret (actV 0 false false 0 0) (Below w.heap.size w)) := by
  have m2 : (k == 2) = false := by simp; omega
  have m3 : (k == 3) = false := by simp; omega
  go_enter Try.func21, Try.ntmps21
  have F0 : Below w.heap.size w w := Below.refl _ _
  repeat (first|(with_reducible first|apply Xa|apply Xb|apply Xc|apply Xd)|((with_reducible apply Xk);(focus rfl);(focus (simp [go_sem,effAt,↓IntWalk.iteOmega, *];(try go_ints);with_reducible first|exact Xm|exact Xn));focus (simp only [Xo,Xp,Xq,Xr,Xs];rfl))|((with_reducible apply Xl);(focus rfl);focus (simp only [Xo,Xp,Xq,Xr,Xs];rfl))|(with_reducible first|apply Xe|apply Xf|apply Xg|apply Xh)|((with_reducible apply Xi);focus first|rfl|(simp [go_sem, *];done))|((with_reducible apply Xj);focus first|rfl|(simp [go_sem, *];done))|(simp only [Exit.then,Exit.inBlock,↓reduceIte,Nat.reduceEqDiff]))
  ((with_reducible apply Xu); (focus rfl); (focus (simp [go_sem, effAt]; exact ⟨rfl, rfl⟩)); (focus ((simp only [Xo,Xp,Xq,Xr,Xs];rfl))))
  intro w1 hB_r hs
  have Fw1 := F0.trans (hs.mono F0.size)
  clear hs F0
  have hc_r := hB_r.cell
  repeat (first|(with_reducible first|apply Xa|apply Xb|apply Xc|apply Xd)|((with_reducible apply Xk);(focus rfl);(focus (simp [go_sem,effAt,↓IntWalk.iteOmega, *];(try go_ints);with_reducible first|exact Xm|exact Xn));focus (simp only [Xo,Xp,Xq,Xr,Xs];rfl))|((with_reducible apply Xl);(focus rfl);focus (simp only [Xo,Xp,Xq,Xr,Xs];rfl))|(with_reducible first|apply Xe|apply Xf|apply Xg|apply Xh)|((with_reducible apply Xi);focus first|rfl|(simp [go_sem, *];done))|((with_reducible apply Xj);focus first|rfl|(simp [go_sem, *];done))|(simp only [Exit.then,Exit.inBlock,↓reduceIte,Nat.reduceEqDiff]))
  have hf_r := hB_r.frozen
  ((with_reducible apply Xt (fun w' => Blk w' _ _ _ ∧ w1.grownBy w' (some _))); (focus rfl); (focus (simp [go_sem, effAt, *]; exact ⟨rfl, (((((hB_r.set_ 0 _).set_ 1 _).set_ 2 _).set_ 3 _).set_ 4 _), (grown_set (grown_set (grown_set (grown_set (grown_set (World.grownBy.refl _ _))))))⟩)); (focus ((simp only [Xo,Xp,Xq,Xr,Xs];rfl))))
  clear hf_r hc_r hB_r
  intro w2 hs
  obtain ⟨hB_r, hs⟩ := hs
  simp only [Xq,Xr,Xs] at hB_r
  have Fw2 := Fw1.grown hs Fw1.size (by intro k hk; first | (injection hk with hk; subst hk; first | exact Nat.le_refl _ | exact Fw1.size | omega) | omega)
  clear hs Fw1
  have hc_r := hB_r.cell
  repeat (first|(with_reducible first|apply Xa|apply Xb|apply Xc|apply Xd)|((with_reducible apply Xk);(focus rfl);(focus (simp [go_sem,effAt,↓IntWalk.iteOmega, *];(try go_ints);with_reducible first|exact Xm|exact Xn));focus (simp only [Xo,Xp,Xq,Xr,Xs];rfl))|((with_reducible apply Xl);(focus rfl);focus (simp only [Xo,Xp,Xq,Xr,Xs];rfl))|(with_reducible first|apply Xe|apply Xf|apply Xg|apply Xh)|((with_reducible apply Xi);focus first|rfl|(simp [go_sem, *];done))|((with_reducible apply Xj);focus first|rfl|(simp [go_sem, *];done))|(simp only [Exit.then,Exit.inBlock,↓reduceIte,Nat.reduceEqDiff]))
  refine bodyPost_ret (v := (actV 0 false false 0 0)) (by simp [results, Try.results21, go_sem, *]) rfl ⟨rfl, by assumption⟩
theorem hear_nil_cmd (k : Int) (pf : Bool) (w : World) (h1 : ¬ k < 1) (h10 : ¬ 10 < k) (h2 : ¬ k = 2) (h3 : ¬ k = 3) (hF : ∀ w, Calls Try.prog 29 #[.pointer none, .int .u8 k, .bool pf] w (Ret (actV 0 false false 0 0) (Below w.heap.size w))) :
    Calls Try.prog 21 #[.pointer none, .int .u8 k, .bool pf, .bool true] w (Ret (actV 0 false false 0 0) (Below w.heap.size w)) := by
  have m2 : (k == 2) = false := by simpa using h2
  have m3 : (k == 3) = false := by simpa using h3
  go_enter Try.func21, Try.ntmps21
  have F0 : Below w.heap.size w w := Below.refl _ _
  repeat (first|(with_reducible first|apply Xa|apply Xb|apply Xc|apply Xd)|((with_reducible apply Xk);(focus rfl);(focus (simp [go_sem,effAt,↓IntWalk.iteOmega, *];(try go_ints);with_reducible first|exact Xm|exact Xn));focus (simp only [Xo,Xp,Xq,Xr,Xs];rfl))|((with_reducible apply Xl);(focus rfl);focus (simp only [Xo,Xp,Xq,Xr,Xs];rfl))|(with_reducible first|apply Xe|apply Xf|apply Xg|apply Xh)|((with_reducible apply Xi);focus first|rfl|(simp [go_sem, *];done))|((with_reducible apply Xj);focus first|rfl|(simp [go_sem, *];done))|(simp only [Exit.then,Exit.inBlock,↓reduceIte,Nat.reduceEqDiff]))
  ((with_reducible apply Xu); (focus rfl); (focus (simp [go_sem, effAt]; exact ⟨rfl, rfl⟩)); (focus ((simp only [Xo,Xp,Xq,Xr,Xs];rfl))))
  intro w1 hB_r hs
  have Fw1 := F0.trans (hs.mono F0.size)
  clear hs F0
  have hc_r := hB_r.cell
  repeat (first|(with_reducible first|apply Xa|apply Xb|apply Xc|apply Xd)|((with_reducible apply Xk);(focus rfl);(focus (simp [go_sem,effAt,↓IntWalk.iteOmega, *];(try go_ints);with_reducible first|exact Xm|exact Xn));focus (simp only [Xo,Xp,Xq,Xr,Xs];rfl))|((with_reducible apply Xl);(focus rfl);focus (simp only [Xo,Xp,Xq,Xr,Xs];rfl))|(with_reducible first|apply Xe|apply Xf|apply Xg|apply Xh)|((with_reducible apply Xi);focus first|rfl|(simp [go_sem, *];done))|((with_reducible apply Xj);focus first|rfl|(simp [go_sem, *];done))|(simp only [Exit.then,Exit.inBlock,↓reduceIte,Nat.reduceEqDiff]))
  ((with_reducible apply Xt (Below w1.heap.size w1)); (focus rfl); (focus (simp only [effAt]; simp [go_sem]; (with_reducible exact effUpon_enter (hF _)))); (focus ((simp only [Xo,Xp,Xq,Xr,Xs];rfl))))
  intro w2 hs
  have Fw2 := Fw1.trans (hs.mono Fw1.size)
  replace hB_r := hB_r.below hs hB_r.lt
  clear hs Fw1
  clear hc_r; have hc_r := hB_r.cell
  repeat (first|(with_reducible first|apply Xa|apply Xb|apply Xc|apply Xd)|((with_reducible apply Xk);(focus rfl);(focus (simp [go_sem,effAt,↓IntWalk.iteOmega, *];(try go_ints);with_reducible first|exact Xm|exact Xn));focus (simp only [Xo,Xp,Xq,Xr,Xs];rfl))|((with_reducible apply Xl);(focus rfl);focus (simp only [Xo,Xp,Xq,Xr,Xs];rfl))|(with_reducible first|apply Xe|apply Xf|apply Xg|apply Xh)|((with_reducible apply Xi);focus first|rfl|(simp [go_sem, *];done))|((with_reducible apply Xj);focus first|rfl|(simp [go_sem, *];done))|(simp only [Exit.then,Exit.inBlock,↓reduceIte,Nat.reduceEqDiff]))
  have hf_r := hB_r.frozen
  ((with_reducible apply Xt (fun w' => Blk w' _ _ _ ∧ w2.grownBy w' (some _))); (focus rfl); (focus (simp [go_sem, effAt, *]; exact ⟨rfl, (((((hB_r.set_ 0 _).set_ 1 _).set_ 2 _).set_ 3 _).set_ 4 _), (grown_set (grown_set (grown_set (grown_set (grown_set (World.grownBy.refl _ _))))))⟩)); (focus ((simp only [Xo,Xp,Xq,Xr,Xs];rfl))))
  clear hf_r hc_r hB_r
  intro w3 hs
  obtain ⟨hB_r, hs⟩ := hs
  simp only [Xq,Xr,Xs] at hB_r
  have Fw3 := Fw2.grown hs Fw2.size (by intro k hk; first | (injection hk with hk; subst hk; first | exact Nat.le_refl _ | exact Fw2.size | omega) | omega)
  clear hs Fw2
  have hc_r := hB_r.cell
  repeat (first|(with_reducible first|apply Xa|apply Xb|apply Xc|apply Xd)|((with_reducible apply Xk);(focus rfl);(focus (simp [go_sem,effAt,↓IntWalk.iteOmega, *];(try go_ints);with_reducible first|exact Xm|exact Xn));focus (simp only [Xo,Xp,Xq,Xr,Xs];rfl))|((with_reducible apply Xl);(focus rfl);focus (simp only [Xo,Xp,Xq,Xr,Xs];rfl))|(with_reducible first|apply Xe|apply Xf|apply Xg|apply Xh)|((with_reducible apply Xi);focus first|rfl|(simp [go_sem, *];done))|((with_reducible apply Xj);focus first|rfl|(simp [go_sem, *];done))|(simp only [Exit.then,Exit.inBlock,↓reduceIte,Nat.reduceEqDiff]))
  refine bodyPost_ret (v := (actV 0 false false 0 0)) (by simp [results, Try.results21, go_sem, *]) rfl ⟨rfl, by assumption⟩
theorem hear_nil_res (k : Int) (pf : Bool) (w : World) (h1 : ¬ k < 1) (h10 : ¬ 10 < k) (h2 : ¬ k = 2) (h3 : ¬ k = 3) :
    Calls Try.prog 21 #[.pointer none, .int .u8 k, .bool pf, .bool false] w (Ret (actV 0 false false 0 0) (Below w.heap.size w)) := by
  have m2 : (k == 2) = false := by simpa using h2
  have m3 : (k == 3) = false := by simpa using h3
  go_enter Try.func21, Try.ntmps21
  have F0 : Below w.heap.size w w := Below.refl _ _
  repeat (first|(with_reducible first|apply Xa|apply Xb|apply Xc|apply Xd)|((with_reducible apply Xk);(focus rfl);(focus (simp [go_sem,effAt,↓IntWalk.iteOmega, *];(try go_ints);with_reducible first|exact Xm|exact Xn));focus (simp only [Xo,Xp,Xq,Xr,Xs];rfl))|((with_reducible apply Xl);(focus rfl);focus (simp only [Xo,Xp,Xq,Xr,Xs];rfl))|(with_reducible first|apply Xe|apply Xf|apply Xg|apply Xh)|((with_reducible apply Xi);focus first|rfl|(simp [go_sem, *];done))|((with_reducible apply Xj);focus first|rfl|(simp [go_sem, *];done))|(simp only [Exit.then,Exit.inBlock,↓reduceIte,Nat.reduceEqDiff]))
  ((with_reducible apply Xu); (focus rfl); (focus (simp [go_sem, effAt]; exact ⟨rfl, rfl⟩)); (focus ((simp only [Xo,Xp,Xq,Xr,Xs];rfl))))
  intro w1 hB_r hs
  have Fw1 := F0.trans (hs.mono F0.size)
  clear hs F0
  have hc_r := hB_r.cell
  repeat (first|(with_reducible first|apply Xa|apply Xb|apply Xc|apply Xd)|((with_reducible apply Xk);(focus rfl);(focus (simp [go_sem,effAt,↓IntWalk.iteOmega, *];(try go_ints);with_reducible first|exact Xm|exact Xn));focus (simp only [Xo,Xp,Xq,Xr,Xs];rfl))|((with_reducible apply Xl);(focus rfl);focus (simp only [Xo,Xp,Xq,Xr,Xs];rfl))|(with_reducible first|apply Xe|apply Xf|apply Xg|apply Xh)|((with_reducible apply Xi);focus first|rfl|(simp [go_sem, *];done))|((with_reducible apply Xj);focus first|rfl|(simp [go_sem, *];done))|(simp only [Exit.then,Exit.inBlock,↓reduceIte,Nat.reduceEqDiff]))
  have hf_r := hB_r.frozen
  ((with_reducible apply Xt (fun w' => Blk w' _ _ _ ∧ w1.grownBy w' (some _))); (focus rfl); (focus (simp [go_sem, effAt, *]; exact ⟨rfl, (((((hB_r.set_ 0 _).set_ 1 _).set_ 2 _).set_ 3 _).set_ 4 _), (grown_set (grown_set (grown_set (grown_set (grown_set (World.grownBy.refl _ _))))))⟩)); (focus ((simp only [Xo,Xp,Xq,Xr,Xs];rfl))))
  clear hf_r hc_r hB_r
  intro w2 hs
  obtain ⟨hB_r, hs⟩ := hs
  simp only [Xq,Xr,Xs] at hB_r
  have Fw2 := Fw1.grown hs Fw1.size (by intro k hk; first | (injection hk with hk; subst hk; first | exact Nat.le_refl _ | exact Fw1.size | omega) | omega)
  clear hs Fw1
  have hc_r := hB_r.cell
  repeat (first|(with_reducible first|apply Xa|apply Xb|apply Xc|apply Xd)|((with_reducible apply Xk);(focus rfl);(focus (simp [go_sem,effAt,↓IntWalk.iteOmega, *];(try go_ints);with_reducible first|exact Xm|exact Xn));focus (simp only [Xo,Xp,Xq,Xr,Xs];rfl))|((with_reducible apply Xl);(focus rfl);focus (simp only [Xo,Xp,Xq,Xr,Xs];rfl))|(with_reducible first|apply Xe|apply Xf|apply Xg|apply Xh)|((with_reducible apply Xi);focus first|rfl|(simp [go_sem, *];done))|((with_reducible apply Xj);focus first|rfl|(simp [go_sem, *];done))|(simp only [Exit.then,Exit.inBlock,↓reduceIte,Nat.reduceEqDiff]))
  refine bodyPost_ret (v := (actV 0 false false 0 0)) (by simp [results, Try.results21, go_sem, *]) rfl ⟨rfl, by assumption⟩
theorem hear_nil_own2 (pf : Bool) (w : World) :
    Calls Try.prog 21 #[.pointer none, .int .u8 2, .bool pf, .bool true] w (Ret (actV 0 false false 0 0) (Below w.heap.size w)) := by
  go_enter Try.func21, Try.ntmps21
  have F0 : Below w.heap.size w w := Below.refl _ _
  repeat (first|(with_reducible first|apply Xa|apply Xb|apply Xc|apply Xd)|((with_reducible apply Xk);(focus rfl);(focus (simp [go_sem,effAt,↓IntWalk.iteOmega, *];(try go_ints);with_reducible first|exact Xm|exact Xn));focus (simp only [Xo,Xp,Xq,Xr,Xs];rfl))|((with_reducible apply Xl);(focus rfl);focus (simp only [Xo,Xp,Xq,Xr,Xs];rfl))|(with_reducible first|apply Xe|apply Xf|apply Xg|apply Xh)|((with_reducible apply Xi);focus first|rfl|(simp [go_sem, *];done))|((with_reducible apply Xj);focus first|rfl|(simp [go_sem, *];done))|(simp only [Exit.then,Exit.inBlock,↓reduceIte,Nat.reduceEqDiff]))
  ((with_reducible apply Xu); (focus rfl); (focus (simp [go_sem, effAt]; exact ⟨rfl, rfl⟩)); (focus ((simp only [Xo,Xp,Xq,Xr,Xs];rfl))))
  intro w1 hB_r hs
  have Fw1 := F0.trans (hs.mono F0.size)
  clear hs F0
  have hc_r := hB_r.cell
  repeat (first|(with_reducible first|apply Xa|apply Xb|apply Xc|apply Xd)|((with_reducible apply Xk);(focus rfl);(focus (simp [go_sem,effAt,↓IntWalk.iteOmega, *];(try go_ints);with_reducible first|exact Xm|exact Xn));focus (simp only [Xo,Xp,Xq,Xr,Xs];rfl))|((with_reducible apply Xl);(focus rfl);focus (simp only [Xo,Xp,Xq,Xr,Xs];rfl))|(with_reducible first|apply Xe|apply Xf|apply Xg|apply Xh)|((with_reducible apply Xi);focus first|rfl|(simp [go_sem, *];done))|((with_reducible apply Xj);focus first|rfl|(simp [go_sem, *];done))|(simp only [Exit.then,Exit.inBlock,↓reduceIte,Nat.reduceEqDiff]))
  have hf_r := hB_r.frozen
  ((with_reducible apply Xt (fun w' => Blk w' _ _ _ ∧ w1.grownBy w' (some _))); (focus rfl); (focus (simp [go_sem, effAt, *]; exact ⟨rfl, (((((hB_r.set_ 0 _).set_ 1 _).set_ 2 _).set_ 3 _).set_ 4 _), (grown_set (grown_set (grown_set (grown_set (grown_set (World.grownBy.refl _ _))))))⟩)); (focus ((simp only [Xo,Xp,Xq,Xr,Xs];rfl))))
  clear hf_r hc_r hB_r
  intro w2 hs
  obtain ⟨hB_r, hs⟩ := hs
  simp only [Xq,Xr,Xs] at hB_r
  have Fw2 := Fw1.grown hs Fw1.size (by intro k hk; first | (injection hk with hk; subst hk; first | exact Nat.le_refl _ | exact Fw1.size | omega) | omega)
  clear hs Fw1
  have hc_r := hB_r.cell
  repeat (first|(with_reducible first|apply Xa|apply Xb|apply Xc|apply Xd)|((with_reducible apply Xk);(focus rfl);(focus (simp [go_sem,effAt,↓IntWalk.iteOmega, *];(try go_ints);with_reducible first|exact Xm|exact Xn));focus (simp only [Xo,Xp,Xq,Xr,Xs];rfl))|((with_reducible apply Xl);(focus rfl);focus (simp only [Xo,Xp,Xq,Xr,Xs];rfl))|(with_reducible first|apply Xe|apply Xf|apply Xg|apply Xh)|((with_reducible apply Xi);focus first|rfl|(simp [go_sem, *];done))|((with_reducible apply Xj);focus first|rfl|(simp [go_sem, *];done))|(simp only [Exit.then,Exit.inBlock,↓reduceIte,Nat.reduceEqDiff]))
  refine bodyPost_ret (v := (actV 0 false false 0 0)) (by simp [results, Try.results21, go_sem, *]) rfl ⟨rfl, by assumption⟩
theorem hear_nil_r2n (w : World) :
    Calls Try.prog 21 #[.pointer none, .int .u8 2, .bool false, .bool false] w (Ret (actV 0 false false 0 0) (Below w.heap.size w)) := by
  go_enter Try.func21, Try.ntmps21
  have F0 : Below w.heap.size w w := Below.refl _ _
  repeat (first|(with_reducible first|apply Xa|apply Xb|apply Xc|apply Xd)|((with_reducible apply Xk);(focus rfl);(focus (simp [go_sem,effAt,↓IntWalk.iteOmega, *];(try go_ints);with_reducible first|exact Xm|exact Xn));focus (simp only [Xo,Xp,Xq,Xr,Xs];rfl))|((with_reducible apply Xl);(focus rfl);focus (simp only [Xo,Xp,Xq,Xr,Xs];rfl))|(with_reducible first|apply Xe|apply Xf|apply Xg|apply Xh)|((with_reducible apply Xi);focus first|rfl|(simp [go_sem, *];done))|((with_reducible apply Xj);focus first|rfl|(simp [go_sem, *];done))|(simp only [Exit.then,Exit.inBlock,↓reduceIte,Nat.reduceEqDiff]))
  ((with_reducible apply Xu); (focus rfl); (focus (simp [go_sem, effAt]; exact ⟨rfl, rfl⟩)); (focus ((simp only [Xo,Xp,Xq,Xr,Xs];rfl))))
  intro w1 hB_r hs
  have Fw1 := F0.trans (hs.mono F0.size)
  clear hs F0
  have hc_r := hB_r.cell
  repeat (first|(with_reducible first|apply Xa|apply Xb|apply Xc|apply Xd)|((with_reducible apply Xk);(focus rfl);(focus (simp [go_sem,effAt,↓IntWalk.iteOmega, *];(try go_ints);with_reducible first|exact Xm|exact Xn));focus (simp only [Xo,Xp,Xq,Xr,Xs];rfl))|((with_reducible apply Xl);(focus rfl);focus (simp only [Xo,Xp,Xq,Xr,Xs];rfl))|(with_reducible first|apply Xe|apply Xf|apply Xg|apply Xh)|((with_reducible apply Xi);focus first|rfl|(simp [go_sem, *];done))|((with_reducible apply Xj);focus first|rfl|(simp [go_sem, *];done))|(simp only [Exit.then,Exit.inBlock,↓reduceIte,Nat.reduceEqDiff]))
  have hf_r := hB_r.frozen
  ((with_reducible apply Xt (fun w' => Blk w' _ _ _ ∧ w1.grownBy w' (some _))); (focus rfl); (focus (simp [go_sem, effAt, *]; exact ⟨rfl, (((((hB_r.set_ 0 _).set_ 1 _).set_ 2 _).set_ 3 _).set_ 4 _), (grown_set (grown_set (grown_set (grown_set (grown_set (World.grownBy.refl _ _))))))⟩)); (focus ((simp only [Xo,Xp,Xq,Xr,Xs];rfl))))
  clear hf_r hc_r hB_r
  intro w2 hs
  obtain ⟨hB_r, hs⟩ := hs
  simp only [Xq,Xr,Xs] at hB_r
  have Fw2 := Fw1.grown hs Fw1.size (by intro k hk; first | (injection hk with hk; subst hk; first | exact Nat.le_refl _ | exact Fw1.size | omega) | omega)
  clear hs Fw1
  have hc_r := hB_r.cell
  repeat (first|(with_reducible first|apply Xa|apply Xb|apply Xc|apply Xd)|((with_reducible apply Xk);(focus rfl);(focus (simp [go_sem,effAt,↓IntWalk.iteOmega, *];(try go_ints);with_reducible first|exact Xm|exact Xn));focus (simp only [Xo,Xp,Xq,Xr,Xs];rfl))|((with_reducible apply Xl);(focus rfl);focus (simp only [Xo,Xp,Xq,Xr,Xs];rfl))|(with_reducible first|apply Xe|apply Xf|apply Xg|apply Xh)|((with_reducible apply Xi);focus first|rfl|(simp [go_sem, *];done))|((with_reducible apply Xj);focus first|rfl|(simp [go_sem, *];done))|(simp only [Exit.then,Exit.inBlock,↓reduceIte,Nat.reduceEqDiff]))
  refine bodyPost_ret (v := (actV 0 false false 0 0)) (by simp [results, Try.results21, go_sem, *]) rfl ⟨rfl, by assumption⟩
theorem hear_nil_r2p (w : World) :
    Calls Try.prog 21 #[.pointer none, .int .u8 2, .bool true, .bool false] w (Ret (actV 0 false false 0 0) (Below w.heap.size w)) := by
  go_enter Try.func21, Try.ntmps21
  have F0 : Below w.heap.size w w := Below.refl _ _
  repeat (first|(with_reducible first|apply Xa|apply Xb|apply Xc|apply Xd)|((with_reducible apply Xk);(focus rfl);(focus (simp [go_sem,effAt,↓IntWalk.iteOmega, *];(try go_ints);with_reducible first|exact Xm|exact Xn));focus (simp only [Xo,Xp,Xq,Xr,Xs];rfl))|((with_reducible apply Xl);(focus rfl);focus (simp only [Xo,Xp,Xq,Xr,Xs];rfl))|(with_reducible first|apply Xe|apply Xf|apply Xg|apply Xh)|((with_reducible apply Xi);focus first|rfl|(simp [go_sem, *];done))|((with_reducible apply Xj);focus first|rfl|(simp [go_sem, *];done))|(simp only [Exit.then,Exit.inBlock,↓reduceIte,Nat.reduceEqDiff]))
  ((with_reducible apply Xu); (focus rfl); (focus (simp [go_sem, effAt]; exact ⟨rfl, rfl⟩)); (focus ((simp only [Xo,Xp,Xq,Xr,Xs];rfl))))
  intro w1 hB_r hs
  have Fw1 := F0.trans (hs.mono F0.size)
  clear hs F0
  have hc_r := hB_r.cell
  repeat (first|(with_reducible first|apply Xa|apply Xb|apply Xc|apply Xd)|((with_reducible apply Xk);(focus rfl);(focus (simp [go_sem,effAt,↓IntWalk.iteOmega, *];(try go_ints);with_reducible first|exact Xm|exact Xn));focus (simp only [Xo,Xp,Xq,Xr,Xs];rfl))|((with_reducible apply Xl);(focus rfl);focus (simp only [Xo,Xp,Xq,Xr,Xs];rfl))|(with_reducible first|apply Xe|apply Xf|apply Xg|apply Xh)|((with_reducible apply Xi);focus first|rfl|(simp [go_sem, *];done))|((with_reducible apply Xj);focus first|rfl|(simp [go_sem, *];done))|(simp only [Exit.then,Exit.inBlock,↓reduceIte,Nat.reduceEqDiff]))
  ((with_reducible apply Xt (Below w1.heap.size w1)); (focus rfl); (focus (simp only [effAt]; simp [go_sem]; (with_reducible exact effUpon_enter (does_nil _ _)))); (focus ((simp only [Xo,Xp,Xq,Xr,Xs];rfl))))
  intro w2 hs
  have Fw2 := Fw1.trans (hs.mono Fw1.size)
  replace hB_r := hB_r.below hs hB_r.lt
  clear hs Fw1
  clear hc_r; have hc_r := hB_r.cell
  repeat (first|(with_reducible first|apply Xa|apply Xb|apply Xc|apply Xd)|((with_reducible apply Xk);(focus rfl);(focus (simp [go_sem,effAt,↓IntWalk.iteOmega, *];(try go_ints);with_reducible first|exact Xm|exact Xn));focus (simp only [Xo,Xp,Xq,Xr,Xs];rfl))|((with_reducible apply Xl);(focus rfl);focus (simp only [Xo,Xp,Xq,Xr,Xs];rfl))|(with_reducible first|apply Xe|apply Xf|apply Xg|apply Xh)|((with_reducible apply Xi);focus first|rfl|(simp [go_sem, *];done))|((with_reducible apply Xj);focus first|rfl|(simp [go_sem, *];done))|(simp only [Exit.then,Exit.inBlock,↓reduceIte,Nat.reduceEqDiff]))
  have hf_r := hB_r.frozen
  ((with_reducible apply Xt (fun w' => Blk w' _ _ _ ∧ w2.grownBy w' (some _))); (focus rfl); (focus (simp [go_sem, effAt, *]; exact ⟨rfl, (((((hB_r.set_ 0 _).set_ 1 _).set_ 2 _).set_ 3 _).set_ 4 _), (grown_set (grown_set (grown_set (grown_set (grown_set (World.grownBy.refl _ _))))))⟩)); (focus ((simp only [Xo,Xp,Xq,Xr,Xs];rfl))))
  clear hf_r hc_r hB_r
  intro w3 hs
  obtain ⟨hB_r, hs⟩ := hs
  simp only [Xq,Xr,Xs] at hB_r
  have Fw3 := Fw2.grown hs Fw2.size (by intro k hk; first | (injection hk with hk; subst hk; first | exact Nat.le_refl _ | exact Fw2.size | omega) | omega)
  clear hs Fw2
  have hc_r := hB_r.cell
  repeat (first|(with_reducible first|apply Xa|apply Xb|apply Xc|apply Xd)|((with_reducible apply Xk);(focus rfl);(focus (simp [go_sem,effAt,↓IntWalk.iteOmega, *];(try go_ints);with_reducible first|exact Xm|exact Xn));focus (simp only [Xo,Xp,Xq,Xr,Xs];rfl))|((with_reducible apply Xl);(focus rfl);focus (simp only [Xo,Xp,Xq,Xr,Xs];rfl))|(with_reducible first|apply Xe|apply Xf|apply Xg|apply Xh)|((with_reducible apply Xi);focus first|rfl|(simp [go_sem, *];done))|((with_reducible apply Xj);focus first|rfl|(simp [go_sem, *];done))|(simp only [Exit.then,Exit.inBlock,↓reduceIte,Nat.reduceEqDiff]))
  refine bodyPost_ret (v := (actV 0 false false 0 0)) (by simp [results, Try.results21, go_sem, *]) rfl ⟨rfl, by assumption⟩
theorem hear_nil_own3 (pf : Bool) (w : World) :
    Calls Try.prog 21 #[.pointer none, .int .u8 3, .bool pf, .bool true] w (Ret (actV 0 false false 0 0) (Below w.heap.size w)) := by
  go_enter Try.func21, Try.ntmps21
  have F0 : Below w.heap.size w w := Below.refl _ _
  repeat (first|(with_reducible first|apply Xa|apply Xb|apply Xc|apply Xd)|((with_reducible apply Xk);(focus rfl);(focus (simp [go_sem,effAt,↓IntWalk.iteOmega, *];(try go_ints);with_reducible first|exact Xm|exact Xn));focus (simp only [Xo,Xp,Xq,Xr,Xs];rfl))|((with_reducible apply Xl);(focus rfl);focus (simp only [Xo,Xp,Xq,Xr,Xs];rfl))|(with_reducible first|apply Xe|apply Xf|apply Xg|apply Xh)|((with_reducible apply Xi);focus first|rfl|(simp [go_sem, *];done))|((with_reducible apply Xj);focus first|rfl|(simp [go_sem, *];done))|(simp only [Exit.then,Exit.inBlock,↓reduceIte,Nat.reduceEqDiff]))
  ((with_reducible apply Xu); (focus rfl); (focus (simp [go_sem, effAt]; exact ⟨rfl, rfl⟩)); (focus ((simp only [Xo,Xp,Xq,Xr,Xs];rfl))))
  intro w1 hB_r hs
  have Fw1 := F0.trans (hs.mono F0.size)
  clear hs F0
  have hc_r := hB_r.cell
  repeat (first|(with_reducible first|apply Xa|apply Xb|apply Xc|apply Xd)|((with_reducible apply Xk);(focus rfl);(focus (simp [go_sem,effAt,↓IntWalk.iteOmega, *];(try go_ints);with_reducible first|exact Xm|exact Xn));focus (simp only [Xo,Xp,Xq,Xr,Xs];rfl))|((with_reducible apply Xl);(focus rfl);focus (simp only [Xo,Xp,Xq,Xr,Xs];rfl))|(with_reducible first|apply Xe|apply Xf|apply Xg|apply Xh)|((with_reducible apply Xi);focus first|rfl|(simp [go_sem, *];done))|((with_reducible apply Xj);focus first|rfl|(simp [go_sem, *];done))|(simp only [Exit.then,Exit.inBlock,↓reduceIte,Nat.reduceEqDiff]))
  have hf_r := hB_r.frozen
  ((with_reducible apply Xt (fun w' => Blk w' _ _ _ ∧ w1.grownBy w' (some _))); (focus rfl); (focus (simp [go_sem, effAt, *]; exact ⟨rfl, (((((hB_r.set_ 0 _).set_ 1 _).set_ 2 _).set_ 3 _).set_ 4 _), (grown_set (grown_set (grown_set (grown_set (grown_set (World.grownBy.refl _ _))))))⟩)); (focus ((simp only [Xo,Xp,Xq,Xr,Xs];rfl))))
  clear hf_r hc_r hB_r
  intro w2 hs
  obtain ⟨hB_r, hs⟩ := hs
  simp only [Xq,Xr,Xs] at hB_r
  have Fw2 := Fw1.grown hs Fw1.size (by intro k hk; first | (injection hk with hk; subst hk; first | exact Nat.le_refl _ | exact Fw1.size | omega) | omega)
  clear hs Fw1
  have hc_r := hB_r.cell
  repeat (first|(with_reducible first|apply Xa|apply Xb|apply Xc|apply Xd)|((with_reducible apply Xk);(focus rfl);(focus (simp [go_sem,effAt,↓IntWalk.iteOmega, *];(try go_ints);with_reducible first|exact Xm|exact Xn));focus (simp only [Xo,Xp,Xq,Xr,Xs];rfl))|((with_reducible apply Xl);(focus rfl);focus (simp only [Xo,Xp,Xq,Xr,Xs];rfl))|(with_reducible first|apply Xe|apply Xf|apply Xg|apply Xh)|((with_reducible apply Xi);focus first|rfl|(simp [go_sem, *];done))|((with_reducible apply Xj);focus first|rfl|(simp [go_sem, *];done))|(simp only [Exit.then,Exit.inBlock,↓reduceIte,Nat.reduceEqDiff]))
  refine bodyPost_ret (v := (actV 0 false false 0 0)) (by simp [results, Try.results21, go_sem, *]) rfl ⟨rfl, by assumption⟩
theorem hear_nil_r3n (w : World) :
    Calls Try.prog 21 #[.pointer none, .int .u8 3, .bool false, .bool false] w (Ret (actV 0 false false 0 0) (Below w.heap.size w)) := by
  go_enter Try.func21, Try.ntmps21
  have F0 : Below w.heap.size w w := Below.refl _ _
  repeat (first|(with_reducible first|apply Xa|apply Xb|apply Xc|apply Xd)|((with_reducible apply Xk);(focus rfl);(focus (simp [go_sem,effAt,↓IntWalk.iteOmega, *];(try go_ints);with_reducible first|exact Xm|exact Xn));focus (simp only [Xo,Xp,Xq,Xr,Xs];rfl))|((with_reducible apply Xl);(focus rfl);focus (simp only [Xo,Xp,Xq,Xr,Xs];rfl))|(with_reducible first|apply Xe|apply Xf|apply Xg|apply Xh)|((with_reducible apply Xi);focus first|rfl|(simp [go_sem, *];done))|((with_reducible apply Xj);focus first|rfl|(simp [go_sem, *];done))|(simp only [Exit.then,Exit.inBlock,↓reduceIte,Nat.reduceEqDiff]))
  ((with_reducible apply Xu); (focus rfl); (focus (simp [go_sem, effAt]; exact ⟨rfl, rfl⟩)); (focus ((simp only [Xo,Xp,Xq,Xr,Xs];rfl))))
  intro w1 hB_r hs
  have Fw1 := F0.trans (hs.mono F0.size)
  clear hs F0
  have hc_r := hB_r.cell
  repeat (first|(with_reducible first|apply Xa|apply Xb|apply Xc|apply Xd)|((with_reducible apply Xk);(focus rfl);(focus (simp [go_sem,effAt,↓IntWalk.iteOmega, *];(try go_ints);with_reducible first|exact Xm|exact Xn));focus (simp only [Xo,Xp,Xq,Xr,Xs];rfl))|((with_reducible apply Xl);(focus rfl);focus (simp only [Xo,Xp,Xq,Xr,Xs];rfl))|(with_reducible first|apply Xe|apply Xf|apply Xg|apply Xh)|((with_reducible apply Xi);focus first|rfl|(simp [go_sem, *];done))|((with_reducible apply Xj);focus first|rfl|(simp [go_sem, *];done))|(simp only [Exit.then,Exit.inBlock,↓reduceIte,Nat.reduceEqDiff]))
  ((with_reducible apply Xt (Below w1.heap.size w1)); (focus rfl); (focus (simp only [effAt]; simp [go_sem]; (with_reducible exact effUpon_enter (state_nil _)))); (focus ((simp only [Xo,Xp,Xq,Xr,Xs];rfl))))
  intro w2 hs
  have Fw2 := Fw1.trans (hs.mono Fw1.size)
  replace hB_r := hB_r.below hs hB_r.lt
  clear hs Fw1
  clear hc_r; have hc_r := hB_r.cell
  repeat (first|(with_reducible first|apply Xa|apply Xb|apply Xc|apply Xd)|((with_reducible apply Xk);(focus rfl);(focus (simp [go_sem,effAt,↓IntWalk.iteOmega, *];(try go_ints);with_reducible first|exact Xm|exact Xn));focus (simp only [Xo,Xp,Xq,Xr,Xs];rfl))|((with_reducible apply Xl);(focus rfl);focus (simp only [Xo,Xp,Xq,Xr,Xs];rfl))|(with_reducible first|apply Xe|apply Xf|apply Xg|apply Xh)|((with_reducible apply Xi);focus first|rfl|(simp [go_sem, *];done))|((with_reducible apply Xj);focus first|rfl|(simp [go_sem, *];done))|(simp only [Exit.then,Exit.inBlock,↓reduceIte,Nat.reduceEqDiff]))
  have hf_r := hB_r.frozen
  ((with_reducible apply Xt (fun w' => Blk w' _ _ _ ∧ w2.grownBy w' (some _))); (focus rfl); (focus (simp [go_sem, effAt, *]; exact ⟨rfl, (((((hB_r.set_ 0 _).set_ 1 _).set_ 2 _).set_ 3 _).set_ 4 _), (grown_set (grown_set (grown_set (grown_set (grown_set (World.grownBy.refl _ _))))))⟩)); (focus ((simp only [Xo,Xp,Xq,Xr,Xs];rfl))))
  clear hf_r hc_r hB_r
  intro w3 hs
  obtain ⟨hB_r, hs⟩ := hs
  simp only [Xq,Xr,Xs] at hB_r
  have Fw3 := Fw2.grown hs Fw2.size (by intro k hk; first | (injection hk with hk; subst hk; first | exact Nat.le_refl _ | exact Fw2.size | omega) | omega)
  clear hs Fw2
  have hc_r := hB_r.cell
  repeat (first|(with_reducible first|apply Xa|apply Xb|apply Xc|apply Xd)|((with_reducible apply Xk);(focus rfl);(focus (simp [go_sem,effAt,↓IntWalk.iteOmega, *];(try go_ints);with_reducible first|exact Xm|exact Xn));focus (simp only [Xo,Xp,Xq,Xr,Xs];rfl))|((with_reducible apply Xl);(focus rfl);focus (simp only [Xo,Xp,Xq,Xr,Xs];rfl))|(with_reducible first|apply Xe|apply Xf|apply Xg|apply Xh)|((with_reducible apply Xi);focus first|rfl|(simp [go_sem, *];done))|((with_reducible apply Xj);focus first|rfl|(simp [go_sem, *];done))|(simp only [Exit.then,Exit.inBlock,↓reduceIte,Nat.reduceEqDiff]))
  refine bodyPost_ret (v := (actV 0 false false 0 0)) (by simp [results, Try.results21, go_sem, *]) rfl ⟨rfl, by assumption⟩
theorem hear_nil_r3p (w : World) :
    Calls Try.prog 21 #[.pointer none, .int .u8 3, .bool true, .bool false] w (Ret (actV 0 false false 0 0) (Below w.heap.size w)) := by
  go_enter Try.func21, Try.ntmps21
  have F0 : Below w.heap.size w w := Below.refl _ _
  repeat (first|(with_reducible first|apply Xa|apply Xb|apply Xc|apply Xd)|((with_reducible apply Xk);(focus rfl);(focus (simp [go_sem,effAt,↓IntWalk.iteOmega, *];(try go_ints);with_reducible first|exact Xm|exact Xn));focus (simp only [Xo,Xp,Xq,Xr,Xs];rfl))|((with_reducible apply Xl);(focus rfl);focus (simp only [Xo,Xp,Xq,Xr,Xs];rfl))|(with_reducible first|apply Xe|apply Xf|apply Xg|apply Xh)|((with_reducible apply Xi);focus first|rfl|(simp [go_sem, *];done))|((with_reducible apply Xj);focus first|rfl|(simp [go_sem, *];done))|(simp only [Exit.then,Exit.inBlock,↓reduceIte,Nat.reduceEqDiff]))
  ((with_reducible apply Xu); (focus rfl); (focus (simp [go_sem, effAt]; exact ⟨rfl, rfl⟩)); (focus ((simp only [Xo,Xp,Xq,Xr,Xs];rfl))))
  intro w1 hB_r hs
  have Fw1 := F0.trans (hs.mono F0.size)
  clear hs F0
  have hc_r := hB_r.cell
  repeat (first|(with_reducible first|apply Xa|apply Xb|apply Xc|apply Xd)|((with_reducible apply Xk);(focus rfl);(focus (simp [go_sem,effAt,↓IntWalk.iteOmega, *];(try go_ints);with_reducible first|exact Xm|exact Xn));focus (simp only [Xo,Xp,Xq,Xr,Xs];rfl))|((with_reducible apply Xl);(focus rfl);focus (simp only [Xo,Xp,Xq,Xr,Xs];rfl))|(with_reducible first|apply Xe|apply Xf|apply Xg|apply Xh)|((with_reducible apply Xi);focus first|rfl|(simp [go_sem, *];done))|((with_reducible apply Xj);focus first|rfl|(simp [go_sem, *];done))|(simp only [Exit.then,Exit.inBlock,↓reduceIte,Nat.reduceEqDiff]))
  ((with_reducible apply Xt (Below w1.heap.size w1)); (focus rfl); (focus (simp only [effAt]; simp [go_sem]; (with_reducible exact effUpon_enter (state_nil _)))); (focus ((simp only [Xo,Xp,Xq,Xr,Xs];rfl))))
  intro w2 hs
  have Fw2 := Fw1.trans (hs.mono Fw1.size)
  replace hB_r := hB_r.below hs hB_r.lt
  clear hs Fw1
  clear hc_r; have hc_r := hB_r.cell
  repeat (first|(with_reducible first|apply Xa|apply Xb|apply Xc|apply Xd)|((with_reducible apply Xk);(focus rfl);(focus (simp [go_sem,effAt,↓IntWalk.iteOmega, *];(try go_ints);with_reducible first|exact Xm|exact Xn));focus (simp only [Xo,Xp,Xq,Xr,Xs];rfl))|((with_reducible apply Xl);(focus rfl);focus (simp only [Xo,Xp,Xq,Xr,Xs];rfl))|(with_reducible first|apply Xe|apply Xf|apply Xg|apply Xh)|((with_reducible apply Xi);focus first|rfl|(simp [go_sem, *];done))|((with_reducible apply Xj);focus first|rfl|(simp [go_sem, *];done))|(simp only [Exit.then,Exit.inBlock,↓reduceIte,Nat.reduceEqDiff]))
  ((with_reducible apply Xt (Below w2.heap.size w2)); (focus rfl); (focus (simp only [effAt]; simp [go_sem]; (with_reducible exact effUpon_enter (does_nil _ _)))); (focus ((simp only [Xo,Xp,Xq,Xr,Xs];rfl))))
  intro w3 hs
  have Fw3 := Fw2.trans (hs.mono Fw2.size)
  replace hB_r := hB_r.below hs hB_r.lt
  clear hs Fw2
  clear hc_r; have hc_r := hB_r.cell
  repeat (first|(with_reducible first|apply Xa|apply Xb|apply Xc|apply Xd)|((with_reducible apply Xk);(focus rfl);(focus (simp [go_sem,effAt,↓IntWalk.iteOmega, *];(try go_ints);with_reducible first|exact Xm|exact Xn));focus (simp only [Xo,Xp,Xq,Xr,Xs];rfl))|((with_reducible apply Xl);(focus rfl);focus (simp only [Xo,Xp,Xq,Xr,Xs];rfl))|(with_reducible first|apply Xe|apply Xf|apply Xg|apply Xh)|((with_reducible apply Xi);focus first|rfl|(simp [go_sem, *];done))|((with_reducible apply Xj);focus first|rfl|(simp [go_sem, *];done))|(simp only [Exit.then,Exit.inBlock,↓reduceIte,Nat.reduceEqDiff]))
  have hf_r := hB_r.frozen
  ((with_reducible apply Xt (fun w' => Blk w' _ _ _ ∧ w3.grownBy w' (some _))); (focus rfl); (focus (simp [go_sem, effAt, *]; exact ⟨rfl, (((((hB_r.set_ 0 _).set_ 1 _).set_ 2 _).set_ 3 _).set_ 4 _), (grown_set (grown_set (grown_set (grown_set (grown_set (World.grownBy.refl _ _))))))⟩)); (focus ((simp only [Xo,Xp,Xq,Xr,Xs];rfl))))
  clear hf_r hc_r hB_r
  intro w4 hs
  obtain ⟨hB_r, hs⟩ := hs
  simp only [Xq,Xr,Xs] at hB_r
  have Fw4 := Fw3.grown hs Fw3.size (by intro k hk; first | (injection hk with hk; subst hk; first | exact Nat.le_refl _ | exact Fw3.size | omega) | omega)
  clear hs Fw3
  have hc_r := hB_r.cell
  repeat (first|(with_reducible first|apply Xa|apply Xb|apply Xc|apply Xd)|((with_reducible apply Xk);(focus rfl);(focus (simp [go_sem,effAt,↓IntWalk.iteOmega, *];(try go_ints);with_reducible first|exact Xm|exact Xn));focus (simp only [Xo,Xp,Xq,Xr,Xs];rfl))|((with_reducible apply Xl);(focus rfl);focus (simp only [Xo,Xp,Xq,Xr,Xs];rfl))|(with_reducible first|apply Xe|apply Xf|apply Xg|apply Xh)|((with_reducible apply Xi);focus first|rfl|(simp [go_sem, *];done))|((with_reducible apply Xj);focus first|rfl|(simp [go_sem, *];done))|(simp only [Exit.then,Exit.inBlock,↓reduceIte,Nat.reduceEqDiff]))
  refine bodyPost_ret (v := (actV 0 false false 0 0)) (by simp [results, Try.results21, go_sem, *]) rfl ⟨rfl, by assumption⟩
