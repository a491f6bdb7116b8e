/- A link's block, its answers; the walks of State, Listen, New, says, goes, begins, again. -/
import Derived.Test.YtggpecddkbceoaaRows
import Derived.Test.YtggpecddkbceoaaBase
import Derived.Test.YtggpecddkbceoaaTn
set_option linter.unusedSimpArgs false
set_option linter.unusedVariables false
namespace Go.Proofs.Ytggpecddkbceoaa
open Go.RowKit Go.Eff
/-- a link's block -/
def LB (w : World) (g : Nat) (s : Int) (ls : Bool) (tr mo : Int) : Prop := Blk w g 57 #[.int .u8 s, .bool ls, .int .i64 tr, .int .i64 mo]
/-- an answer -/
abbrev actV (k : Int) (c p : Bool) (t f : Int) : Value := .agg #[.int .u8 k, .bool c, .bool p, .int .u8 t, .int .u8 f]
theorem state_nil (w : World) : Calls Try.prog 15 #[.pointer none] w (Ret (.int .u8 0) (Below w.heap.size w)) := by
  go_enter Try.func15, Try.ntmps15
  have F0 : Below w.heap.size w w := Below.refl _ _
  repeat (first|(with_reducible first|apply Xa|apply Xb|apply Xc|apply Xd)|((with_reducible apply Xk);(focus rfl);(focus (simp [go_sem,effAt,↓IntWalk.iteOmega, *];(try go_ints);with_reducible first|exact Xm|exact Xn));focus (simp only [Xo,Xp,Xq,Xr,Xs];rfl))|((with_reducible apply Xl);(focus rfl);focus (simp only [Xo,Xp,Xq,Xr,Xs];rfl))|(with_reducible first|apply Xe|apply Xf|apply Xg|apply Xh)|((with_reducible apply Xi);focus first|rfl|(simp [go_sem, *];done))|((with_reducible apply Xj);focus first|rfl|(simp [go_sem, *];done))|(simp only [Exit.then,Exit.inBlock,↓reduceIte,Nat.reduceEqDiff]))
  go_ret
  exact ⟨rfl, by assumption⟩
theorem state_any (g : Nat) (s : Int) (ls : Bool) (tr mo : Int) (w : World) (hB_l : LB w g s ls tr mo) : Calls Try.prog 15 #[.pointer (some ⟨g, 0, none⟩)] w (Ret (.int .u8 s) (Below w.heap.size w)) := by
  unfold LB at *
  go_enter Try.func15, Try.ntmps15
  have F0 : Below w.heap.size w w := Below.refl _ _
  have hc_l := hB_l.cell
  repeat (first|(with_reducible first|apply Xa|apply Xb|apply Xc|apply Xd)|((with_reducible apply Xk);(focus rfl);(focus (simp [go_sem,effAt,↓IntWalk.iteOmega, *];(try go_ints);with_reducible first|exact Xm|exact Xn));focus (simp only [Xo,Xp,Xq,Xr,Xs];rfl))|((with_reducible apply Xl);(focus rfl);focus (simp only [Xo,Xp,Xq,Xr,Xs];rfl))|(with_reducible first|apply Xe|apply Xf|apply Xg|apply Xh)|((with_reducible apply Xi);focus first|rfl|(simp [go_sem, *];done))|((with_reducible apply Xj);focus first|rfl|(simp [go_sem, *];done))|(simp only [Exit.then,Exit.inBlock,↓reduceIte,Nat.reduceEqDiff]))
  go_ret
  exact ⟨rfl, by assumption⟩
theorem says_any (k : Int) (w : World) : Calls Try.prog 40 #[.int .u8 k] w (Ret (actV k true true 1 0) (Below w.heap.size w)) := by
  go_enter Try.func40, Try.ntmps40
  have F0 : Below w.heap.size w w := Below.refl _ _
  repeat (first|(with_reducible first|apply Xa|apply Xb|apply Xc|apply Xd)|((with_reducible apply Xk);(focus rfl);(focus (simp [go_sem,effAt,↓IntWalk.iteOmega, *];(try go_ints);with_reducible first|exact Xm|exact Xn));focus (simp only [Xo,Xp,Xq,Xr,Xs];rfl))|((with_reducible apply Xl);(focus rfl);focus (simp only [Xo,Xp,Xq,Xr,Xs];rfl))|(with_reducible first|apply Xe|apply Xf|apply Xg|apply Xh)|((with_reducible apply Xi);focus first|rfl|(simp [go_sem, *];done))|((with_reducible apply Xj);focus first|rfl|(simp [go_sem, *];done))|(simp only [Exit.then,Exit.inBlock,↓reduceIte,Nat.reduceEqDiff]))
  ((with_reducible apply Xu); (focus rfl); (focus (simp [go_sem, effAt]; exact ⟨rfl, rfl⟩)); (focus ((simp only [Xo,Xp,Xq,Xr,Xs];rfl))))
  intro w1 hB_r hs
  have Fw1 := F0.trans (hs.mono F0.size)
  clear hs F0
  have hc_r := hB_r.cell
  repeat (first|(with_reducible first|apply Xa|apply Xb|apply Xc|apply Xd)|((with_reducible apply Xk);(focus rfl);(focus (simp [go_sem,effAt,↓IntWalk.iteOmega, *];(try go_ints);with_reducible first|exact Xm|exact Xn));focus (simp only [Xo,Xp,Xq,Xr,Xs];rfl))|((with_reducible apply Xl);(focus rfl);focus (simp only [Xo,Xp,Xq,Xr,Xs];rfl))|(with_reducible first|apply Xe|apply Xf|apply Xg|apply Xh)|((with_reducible apply Xi);focus first|rfl|(simp [go_sem, *];done))|((with_reducible apply Xj);focus first|rfl|(simp [go_sem, *];done))|(simp only [Exit.then,Exit.inBlock,↓reduceIte,Nat.reduceEqDiff]))
  have hf_r := hB_r.frozen
  ((with_reducible apply Xt (fun w' => Blk w' _ _ _ ∧ w1.grownBy w' (some _))); (focus rfl); (focus (simp [go_sem, effAt, *]; exact ⟨rfl, (((((hB_r.set_ 0 _).set_ 1 _).set_ 2 _).set_ 3 _).set_ 4 _), (grown_set (grown_set (grown_set (grown_set (grown_set (World.grownBy.refl _ _))))))⟩)); (focus ((simp only [Xo,Xp,Xq,Xr,Xs];rfl))))
  clear hf_r hc_r hB_r
  intro w2 hs
  obtain ⟨hB_r, hs⟩ := hs
  simp only [Xq,Xr,Xs] at hB_r
  have Fw2 := Fw1.grown hs Fw1.size (by intro k hk; first | (injection hk with hk; subst hk; first | exact Nat.le_refl _ | exact Fw1.size | omega) | omega)
  clear hs Fw1
  have hc_r := hB_r.cell
  repeat (first|(with_reducible first|apply Xa|apply Xb|apply Xc|apply Xd)|((with_reducible apply Xk);(focus rfl);(focus (simp [go_sem,effAt,↓IntWalk.iteOmega, *];(try go_ints);with_reducible first|exact Xm|exact Xn));focus (simp only [Xo,Xp,Xq,Xr,Xs];rfl))|((with_reducible apply Xl);(focus rfl);focus (simp only [Xo,Xp,Xq,Xr,Xs];rfl))|(with_reducible first|apply Xe|apply Xf|apply Xg|apply Xh)|((with_reducible apply Xi);focus first|rfl|(simp [go_sem, *];done))|((with_reducible apply Xj);focus first|rfl|(simp [go_sem, *];done))|(simp only [Exit.then,Exit.inBlock,↓reduceIte,Nat.reduceEqDiff]))
  refine bodyPost_ret (v := actV k true true 1 0) (by simp [results, Try.results40, go_sem, *]) rfl ⟨rfl, by assumption⟩
theorem goes_any (g : Nat) (s s' : Int) (ls : Bool) (tr mo k : Int) (c p : Bool) (t f f' : Int) (w : World) (hB_l : LB w g s ls tr mo) :
    Calls Try.prog 30 #[.pointer (some ⟨g, 0, none⟩), .int .u8 s', actV k c p t f, .int .u8 f'] w (Ret (actV k c p t f') fun w' => LB w' g s' ls tr mo ∧ w.grownBy w' (some g)) := by
  unfold LB at *
  go_enter Try.func30, Try.ntmps30
  have F0 : Turn (fun i => i = g ∨ w.heap.size ≤ i) w w := Turn.refl _
  have hc_l := hB_l.cell
  repeat (first|(with_reducible first|apply Xa|apply Xb|apply Xc|apply Xd)|((with_reducible apply Xk);(focus rfl);(focus (simp [go_sem,effAt,↓IntWalk.iteOmega, *];(try go_ints);with_reducible first|exact Xm|exact Xn));focus (simp only [Xo,Xp,Xq,Xr,Xs];rfl))|((with_reducible apply Xl);(focus rfl);focus (simp only [Xo,Xp,Xq,Xr,Xs];rfl))|(with_reducible first|apply Xe|apply Xf|apply Xg|apply Xh)|((with_reducible apply Xi);focus first|rfl|(simp [go_sem, *];done))|((with_reducible apply Xj);focus first|rfl|(simp [go_sem, *];done))|(simp only [Exit.then,Exit.inBlock,↓reduceIte,Nat.reduceEqDiff]))
  have lt_l_a := hB_l.lt
  have le_a := F0.size
  ((with_reducible apply Xu); (focus rfl); (focus (simp [go_sem, effAt]; exact ⟨rfl, rfl⟩)); (focus ((simp only [Xo,Xp,Xq,Xr,Xs];rfl))))
  intro w1 hB_a hs
  have Fw1 := F0.trans (Turn.of_below hs)
  replace hB_l := hB_l.below hs hB_l.lt
  clear hs F0
  clear hc_l; have hc_l := hB_l.cell
  have hc_a := hB_a.cell
  repeat (first|(with_reducible first|apply Xa|apply Xb|apply Xc|apply Xd)|((with_reducible apply Xk);(focus rfl);(focus (simp [go_sem,effAt,↓IntWalk.iteOmega, *];(try go_ints);with_reducible first|exact Xm|exact Xn));focus (simp only [Xo,Xp,Xq,Xr,Xs];rfl))|((with_reducible apply Xl);(focus rfl);focus (simp only [Xo,Xp,Xq,Xr,Xs];rfl))|(with_reducible first|apply Xe|apply Xf|apply Xg|apply Xh)|((with_reducible apply Xi);focus first|rfl|(simp [go_sem, *];done))|((with_reducible apply Xj);focus first|rfl|(simp [go_sem, *];done))|(simp only [Exit.then,Exit.inBlock,↓reduceIte,Nat.reduceEqDiff]))
  have lt_l_r := hB_l.lt
  have lt_a_r := hB_a.lt
  have le_r := Fw1.size
  ((with_reducible apply Xu); (focus rfl); (focus (simp [go_sem, effAt]; exact ⟨rfl, rfl⟩)); (focus ((simp only [Xo,Xp,Xq,Xr,Xs];rfl))))
  intro w2 hB_r hs
  have Fw2 := Fw1.trans (Turn.of_below hs)
  replace hB_l := hB_l.below hs hB_l.lt
  replace hB_a := hB_a.below hs hB_a.lt
  clear hs Fw1
  clear hc_l; have hc_l := hB_l.cell
  clear hc_a; have hc_a := hB_a.cell
  have hc_r := hB_r.cell
  repeat (first|(with_reducible first|apply Xa|apply Xb|apply Xc|apply Xd)|((with_reducible apply Xk);(focus rfl);(focus (simp [go_sem,effAt,↓IntWalk.iteOmega, *];(try go_ints);with_reducible first|exact Xm|exact Xn));focus (simp only [Xo,Xp,Xq,Xr,Xs];rfl))|((with_reducible apply Xl);(focus rfl);focus (simp only [Xo,Xp,Xq,Xr,Xs];rfl))|(with_reducible first|apply Xe|apply Xf|apply Xg|apply Xh)|((with_reducible apply Xi);focus first|rfl|(simp [go_sem, *];done))|((with_reducible apply Xj);focus first|rfl|(simp [go_sem, *];done))|(simp only [Exit.then,Exit.inBlock,↓reduceIte,Nat.reduceEqDiff]))
  have hf_l := hB_l.frozen
  ((with_reducible apply Xt (fun w' => Blk w' _ _ _ ∧ w2.grownBy w' (some _))); (focus rfl); (focus (simp [go_sem, effAt, *]; exact ⟨rfl, (hB_l.set_ 0 _), (grown_set (World.grownBy.refl _ _))⟩)); (focus ((simp only [Xo,Xp,Xq,Xr,Xs];rfl))))
  clear hf_l hc_l hB_l
  intro w3 hs
  obtain ⟨hB_l, hs⟩ := hs
  simp only [Xq,Xr,Xs] at hB_l
  have Fw3 := Fw2.trans (Turn.of_grown hs (by first | exact .inl rfl | exact .inr (by omega)))
  replace hB_a := hB_a.grown hs (by intro hk; injection hk with hk; have := hB_a.lt; have := hB_l.lt; omega)
  replace hB_r := hB_r.grown hs (by intro hk; injection hk with hk; have := hB_r.lt; have := hB_l.lt; omega)
  clear hs Fw2
  clear hc_a; have hc_a := hB_a.cell
  clear hc_r; have hc_r := hB_r.cell
  have hc_l := hB_l.cell
  repeat (first|(with_reducible first|apply Xa|apply Xb|apply Xc|apply Xd)|((with_reducible apply Xk);(focus rfl);(focus (simp [go_sem,effAt,↓IntWalk.iteOmega, *];(try go_ints);with_reducible first|exact Xm|exact Xn));focus (simp only [Xo,Xp,Xq,Xr,Xs];rfl))|((with_reducible apply Xl);(focus rfl);focus (simp only [Xo,Xp,Xq,Xr,Xs];rfl))|(with_reducible first|apply Xe|apply Xf|apply Xg|apply Xh)|((with_reducible apply Xi);focus first|rfl|(simp [go_sem, *];done))|((with_reducible apply Xj);focus first|rfl|(simp [go_sem, *];done))|(simp only [Exit.then,Exit.inBlock,↓reduceIte,Nat.reduceEqDiff]))
  have hf_a := hB_a.frozen
  ((with_reducible apply Xt (fun w' => Blk w' _ _ _ ∧ w3.grownBy w' (some _))); (focus rfl); (focus (simp [go_sem, effAt, *]; exact ⟨rfl, (hB_a.set_ 4 _), (grown_set (World.grownBy.refl _ _))⟩)); (focus ((simp only [Xo,Xp,Xq,Xr,Xs];rfl))))
  clear hf_a hc_a hB_a
  intro w4 hs
  obtain ⟨hB_a, hs⟩ := hs
  simp only [Xq,Xr,Xs] at hB_a
  have Fw4 := Fw3.trans (Turn.of_grown hs (by first | exact .inl rfl | exact .inr (by omega)))
  replace hB_l := hB_l.grown hs (by intro hk; injection hk with hk; have := hB_l.lt; have := hB_a.lt; omega)
  replace hB_r := hB_r.grown hs (by intro hk; injection hk with hk; have := hB_r.lt; have := hB_a.lt; omega)
  clear hs Fw3
  clear hc_l; have hc_l := hB_l.cell
  clear hc_r; have hc_r := hB_r.cell
  have hc_a := hB_a.cell
  repeat (first|(with_reducible first|apply Xa|apply Xb|apply Xc|apply Xd)|((with_reducible apply Xk);(focus rfl);(focus (simp [go_sem,effAt,↓IntWalk.iteOmega, *];(try go_ints);with_reducible first|exact Xm|exact Xn));focus (simp only [Xo,Xp,Xq,Xr,Xs];rfl))|((with_reducible apply Xl);(focus rfl);focus (simp only [Xo,Xp,Xq,Xr,Xs];rfl))|(with_reducible first|apply Xe|apply Xf|apply Xg|apply Xh)|((with_reducible apply Xi);focus first|rfl|(simp [go_sem, *];done))|((with_reducible apply Xj);focus first|rfl|(simp [go_sem, *];done))|(simp only [Exit.then,Exit.inBlock,↓reduceIte,Nat.reduceEqDiff]))
  have hf_r := hB_r.frozen
  ((with_reducible apply Xt (fun w' => Blk w' _ _ _ ∧ w4.grownBy w' (some _))); (focus rfl); (focus (simp [go_sem, effAt, *]; exact ⟨rfl, (((((hB_r.set_ 0 _).set_ 1 _).set_ 2 _).set_ 3 _).set_ 4 _), (grown_set (grown_set (grown_set (grown_set (grown_set (World.grownBy.refl _ _))))))⟩)); (focus ((simp only [Xo,Xp,Xq,Xr,Xs];rfl))))
  clear hf_r hc_r hB_r
  intro w5 hs
  obtain ⟨hB_r, hs⟩ := hs
  simp only [Xq,Xr,Xs] at hB_r
  have Fw5 := Fw4.trans (Turn.of_grown hs (by first | exact .inl rfl | exact .inr (by omega)))
  replace hB_l := hB_l.grown hs (by intro hk; injection hk with hk; have := hB_l.lt; have := hB_r.lt; omega)
  replace hB_a := hB_a.grown hs (by intro hk; injection hk with hk; have := hB_a.lt; have := hB_r.lt; omega)
  clear hs Fw4
  clear hc_l; have hc_l := hB_l.cell
  clear hc_a; have hc_a := hB_a.cell
  have hc_r := hB_r.cell
  repeat (first|(with_reducible first|apply Xa|apply Xb|apply Xc|apply Xd)|((with_reducible apply Xk);(focus rfl);(focus (simp [go_sem,effAt,↓IntWalk.iteOmega, *];(try go_ints);with_reducible first|exact Xm|exact Xn));focus (simp only [Xo,Xp,Xq,Xr,Xs];rfl))|((with_reducible apply Xl);(focus rfl);focus (simp only [Xo,Xp,Xq,Xr,Xs];rfl))|(with_reducible first|apply Xe|apply Xf|apply Xg|apply Xh)|((with_reducible apply Xi);focus first|rfl|(simp [go_sem, *];done))|((with_reducible apply Xj);focus first|rfl|(simp [go_sem, *];done))|(simp only [Exit.then,Exit.inBlock,↓reduceIte,Nat.reduceEqDiff]))
  refine bodyPost_ret (v := actV k c p t f') (by simp [results, Try.results30, go_sem, *]) rfl ⟨rfl, hB_l, Turn.to_grown (by assumption)⟩
theorem begins_any (g : Nat) (s s' : Int) (ls : Bool) (tr mo k : Int) (w : World) (hB_l : LB w g s ls tr mo) :
    Calls Try.prog 38 #[.pointer (some ⟨g, 0, none⟩), .int .u8 s', .int .u8 k] w (Ret (actV k true true 1 0) fun w' => LB w' g s' ls 0 mo ∧ w.grownBy w' (some g)) := by
  have hG := fun w h => goes_any g s s' ls 0 mo k true true 1 0 0 w h
  unfold LB at *
  go_enter Try.func38, Try.ntmps38
  have F0 : Turn (fun i => i = g ∨ w.heap.size ≤ i) w w := Turn.refl _
  have hc_l := hB_l.cell
  repeat (first|(with_reducible first|apply Xa|apply Xb|apply Xc|apply Xd)|((with_reducible apply Xk);(focus rfl);(focus (simp [go_sem,effAt,↓IntWalk.iteOmega, *];(try go_ints);with_reducible first|exact Xm|exact Xn));focus (simp only [Xo,Xp,Xq,Xr,Xs];rfl))|((with_reducible apply Xl);(focus rfl);focus (simp only [Xo,Xp,Xq,Xr,Xs];rfl))|(with_reducible first|apply Xe|apply Xf|apply Xg|apply Xh)|((with_reducible apply Xi);focus first|rfl|(simp [go_sem, *];done))|((with_reducible apply Xj);focus first|rfl|(simp [go_sem, *];done))|(simp only [Exit.then,Exit.inBlock,↓reduceIte,Nat.reduceEqDiff]))
  have lt_l_r := hB_l.lt
  have le_r := F0.size
  ((with_reducible apply Xu); (focus rfl); (focus (simp [go_sem, effAt]; exact ⟨rfl, rfl⟩)); (focus ((simp only [Xo,Xp,Xq,Xr,Xs];rfl))))
  intro w1 hB_r hs
  have Fw1 := F0.trans (Turn.of_below hs)
  replace hB_l := hB_l.below hs hB_l.lt
  clear hs F0
  clear hc_l; have hc_l := hB_l.cell
  have hc_r := hB_r.cell
  repeat (first|(with_reducible first|apply Xa|apply Xb|apply Xc|apply Xd)|((with_reducible apply Xk);(focus rfl);(focus (simp [go_sem,effAt,↓IntWalk.iteOmega, *];(try go_ints);with_reducible first|exact Xm|exact Xn));focus (simp only [Xo,Xp,Xq,Xr,Xs];rfl))|((with_reducible apply Xl);(focus rfl);focus (simp only [Xo,Xp,Xq,Xr,Xs];rfl))|(with_reducible first|apply Xe|apply Xf|apply Xg|apply Xh)|((with_reducible apply Xi);focus first|rfl|(simp [go_sem, *];done))|((with_reducible apply Xj);focus first|rfl|(simp [go_sem, *];done))|(simp only [Exit.then,Exit.inBlock,↓reduceIte,Nat.reduceEqDiff]))
  have hf_l := hB_l.frozen
  ((with_reducible apply Xt (fun w' => Blk w' _ _ _ ∧ w1.grownBy w' (some _))); (focus rfl); (focus (simp [go_sem, effAt, *]; exact ⟨rfl, (hB_l.set_ 2 _), (grown_set (World.grownBy.refl _ _))⟩)); (focus ((simp only [Xo,Xp,Xq,Xr,Xs];rfl))))
  clear hf_l hc_l hB_l
  intro w2 hs
  obtain ⟨hB_l, hs⟩ := hs
  simp only [Xq,Xr,Xs] at hB_l
  have Fw2 := Fw1.trans (Turn.of_grown hs (by first | exact .inl rfl | exact .inr (by omega)))
  replace hB_r := hB_r.grown hs (by intro hk; injection hk with hk; have := hB_r.lt; have := hB_l.lt; omega)
  clear hs Fw1
  clear hc_r; have hc_r := hB_r.cell
  have hc_l := hB_l.cell
  repeat (first|(with_reducible first|apply Xa|apply Xb|apply Xc|apply Xd)|((with_reducible apply Xk);(focus rfl);(focus (simp [go_sem,effAt,↓IntWalk.iteOmega, *];(try go_ints);with_reducible first|exact Xm|exact Xn));focus (simp only [Xo,Xp,Xq,Xr,Xs];rfl))|((with_reducible apply Xl);(focus rfl);focus (simp only [Xo,Xp,Xq,Xr,Xs];rfl))|(with_reducible first|apply Xe|apply Xf|apply Xg|apply Xh)|((with_reducible apply Xi);focus first|rfl|(simp [go_sem, *];done))|((with_reducible apply Xj);focus first|rfl|(simp [go_sem, *];done))|(simp only [Exit.then,Exit.inBlock,↓reduceIte,Nat.reduceEqDiff]))
  ((with_reducible apply Xt (Below w2.heap.size w2)); (focus rfl); (focus (simp only [effAt]; simp [go_sem]; (with_reducible exact effUpon_enter (says_any k _)))); (focus ((simp only [Xo,Xp,Xq,Xr,Xs];rfl))))
  intro w3 hs
  have Fw3 := Fw2.trans (Turn.of_below hs)
  replace hB_l := hB_l.below hs hB_l.lt
  replace hB_r := hB_r.below hs hB_r.lt
  clear hs Fw2
  clear hc_l; have hc_l := hB_l.cell
  clear hc_r; have hc_r := hB_r.cell
  repeat (first|(with_reducible first|apply Xa|apply Xb|apply Xc|apply Xd)|((with_reducible apply Xk);(focus rfl);(focus (simp [go_sem,effAt,↓IntWalk.iteOmega, *];(try go_ints);with_reducible first|exact Xm|exact Xn));focus (simp only [Xo,Xp,Xq,Xr,Xs];rfl))|((with_reducible apply Xl);(focus rfl);focus (simp only [Xo,Xp,Xq,Xr,Xs];rfl))|(with_reducible first|apply Xe|apply Xf|apply Xg|apply Xh)|((with_reducible apply Xi);focus first|rfl|(simp [go_sem, *];done))|((with_reducible apply Xj);focus first|rfl|(simp [go_sem, *];done))|(simp only [Exit.then,Exit.inBlock,↓reduceIte,Nat.reduceEqDiff]))
  ((with_reducible apply Xt (fun w' => Blk w' _ _ _ ∧ w3.grownBy w' (some _))); (focus rfl); (focus (simp only [effAt]; simp [go_sem]; (with_reducible exact effUpon_enter (hG _ hB_l)))); (focus ((simp only [Xo,Xp,Xq,Xr,Xs];rfl))))
  clear hc_l hB_l
  intro w4 hs
  obtain ⟨hB_l, hs⟩ := hs
  have Fw4 := Fw3.trans (Turn.of_grown hs (by first | exact .inl rfl | exact .inr (by omega)))
  replace hB_r := hB_r.grown hs (by intro hk; injection hk with hk; have := hB_r.lt; have := hB_l.lt; omega)
  clear hs Fw3
  clear hc_r; have hc_r := hB_r.cell
  have hc_l := hB_l.cell
  repeat (first|(with_reducible first|apply Xa|apply Xb|apply Xc|apply Xd)|((with_reducible apply Xk);(focus rfl);(focus (simp [go_sem,effAt,↓IntWalk.iteOmega, *];(try go_ints);with_reducible first|exact Xm|exact Xn));focus (simp only [Xo,Xp,Xq,Xr,Xs];rfl))|((with_reducible apply Xl);(focus rfl);focus (simp only [Xo,Xp,Xq,Xr,Xs];rfl))|(with_reducible first|apply Xe|apply Xf|apply Xg|apply Xh)|((with_reducible apply Xi);focus first|rfl|(simp [go_sem, *];done))|((with_reducible apply Xj);focus first|rfl|(simp [go_sem, *];done))|(simp only [Exit.then,Exit.inBlock,↓reduceIte,Nat.reduceEqDiff]))
  have hf_r := hB_r.frozen
  ((with_reducible apply Xt (fun w' => Blk w' _ _ _ ∧ w4.grownBy w' (some _))); (focus rfl); (focus (simp [go_sem, effAt, *]; exact ⟨rfl, (((((hB_r.set_ 0 _).set_ 1 _).set_ 2 _).set_ 3 _).set_ 4 _), (grown_set (grown_set (grown_set (grown_set (grown_set (World.grownBy.refl _ _))))))⟩)); (focus ((simp only [Xo,Xp,Xq,Xr,Xs];rfl))))
  clear hf_r hc_r hB_r
  intro w5 hs
  obtain ⟨hB_r, hs⟩ := hs
  simp only [Xq,Xr,Xs] at hB_r
  have Fw5 := Fw4.trans (Turn.of_grown hs (by first | exact .inl rfl | exact .inr (by omega)))
  replace hB_l := hB_l.grown hs (by intro hk; injection hk with hk; have := hB_l.lt; have := hB_r.lt; omega)
  clear hs Fw4
  clear hc_l; have hc_l := hB_l.cell
  have hc_r := hB_r.cell
  repeat (first|(with_reducible first|apply Xa|apply Xb|apply Xc|apply Xd)|((with_reducible apply Xk);(focus rfl);(focus (simp [go_sem,effAt,↓IntWalk.iteOmega, *];(try go_ints);with_reducible first|exact Xm|exact Xn));focus (simp only [Xo,Xp,Xq,Xr,Xs];rfl))|((with_reducible apply Xl);(focus rfl);focus (simp only [Xo,Xp,Xq,Xr,Xs];rfl))|(with_reducible first|apply Xe|apply Xf|apply Xg|apply Xh)|((with_reducible apply Xi);focus first|rfl|(simp [go_sem, *];done))|((with_reducible apply Xj);focus first|rfl|(simp [go_sem, *];done))|(simp only [Exit.then,Exit.inBlock,↓reduceIte,Nat.reduceEqDiff]))
  refine bodyPost_ret (v := actV k true true 1 0) (by simp [results, Try.results38, go_sem, *]) rfl ⟨rfl, hB_l, Turn.to_grown (by assumption)⟩
theorem again_more (g : Nat) (s : Int) (ls : Bool) (tr mo k : Int) (w : World) (hB_l : LB w g s ls tr mo) (h : tr < mo) (hb : 0 ≤ tr ∧ mo ≤ 255) :
    Calls Try.prog 39 #[.pointer (some ⟨g, 0, none⟩), .int .u8 k] w (Ret (actV k true true 1 0) fun w' => LB w' g s ls (tr + 1) mo ∧ w.grownBy w' (some g)) := by
  have h1 : ¬ mo ≤ tr := by omega
  unfold LB at *
  go_enter Try.func39, Try.ntmps39
  have F0 : Turn (fun i => i = g ∨ w.heap.size ≤ i) w w := Turn.refl _
  have hc_l := hB_l.cell
  repeat (first|(with_reducible first|apply Xa|apply Xb|apply Xc|apply Xd)|((with_reducible apply Xk);(focus rfl);(focus (simp [go_sem,effAt,↓IntWalk.iteOmega, *];(try go_ints);with_reducible first|exact Xm|exact Xn));focus (simp only [Xo,Xp,Xq,Xr,Xs];rfl))|((with_reducible apply Xl);(focus rfl);focus (simp only [Xo,Xp,Xq,Xr,Xs];rfl))|(with_reducible first|apply Xe|apply Xf|apply Xg|apply Xh)|((with_reducible apply Xi);focus first|rfl|(simp [go_sem, *];done))|((with_reducible apply Xj);focus first|rfl|(simp [go_sem, *];done))|(simp only [Exit.then,Exit.inBlock,↓reduceIte,Nat.reduceEqDiff]))
  have lt_l_r := hB_l.lt
  have le_r := F0.size
  ((with_reducible apply Xu); (focus rfl); (focus (simp [go_sem, effAt]; exact ⟨rfl, rfl⟩)); (focus ((simp only [Xo,Xp,Xq,Xr,Xs];rfl))))
  intro w1 hB_r hs
  have Fw1 := F0.trans (Turn.of_below hs)
  replace hB_l := hB_l.below hs hB_l.lt
  clear hs F0
  clear hc_l; have hc_l := hB_l.cell
  have hc_r := hB_r.cell
  repeat (first|(with_reducible first|apply Xa|apply Xb|apply Xc|apply Xd)|((with_reducible apply Xk);(focus rfl);(focus (simp [go_sem,effAt,↓IntWalk.iteOmega, *];(try go_ints);with_reducible first|exact Xm|exact Xn));focus (simp only [Xo,Xp,Xq,Xr,Xs];rfl))|((with_reducible apply Xl);(focus rfl);focus (simp only [Xo,Xp,Xq,Xr,Xs];rfl))|(with_reducible first|apply Xe|apply Xf|apply Xg|apply Xh)|((with_reducible apply Xi);focus first|rfl|(simp [go_sem, *];done))|((with_reducible apply Xj);focus first|rfl|(simp [go_sem, *];done))|(simp only [Exit.then,Exit.inBlock,↓reduceIte,Nat.reduceEqDiff]))
  refine wp_region_tail 8 (by kernel_rfl) (by kernel_rfl) ?_
  simp only [List.take_succ_cons, List.take_zero, List.drop_succ_cons, List.drop_zero]
  generalize hww2 : World.drew w1 = w2
  have hs : Below w1.heap.size w1 w2 := hww2 ▸ (Below.refl _ _).drew
  clear hww2
  have Fw2 := Fw1.trans (Turn.of_below hs)
  replace hB_l := hB_l.below hs hB_l.lt
  replace hB_r := hB_r.below hs hB_r.lt
  clear hs Fw1
  clear hc_l; have hc_l := hB_l.cell
  clear hc_r; have hc_r := hB_r.cell
  repeat (first | ((with_reducible apply still_q); (focus rfl); (focus (simp [go_sem, stAt, ↓IntWalk.iteOmega, *]; (try go_ints); (first | (with_reducible exact stUpon_val) | (with_reducible exact stUpon_skip)))); (focus ((simp only [Xo,Xp,Xq,Xr,Xs];rfl)))) | ((with_reducible apply still_s); (focus rfl); (focus ((simp only [Xo,Xp,Xq,Xr,Xs];rfl)))))
  with_reducible refine wpStill_nil ?_
  repeat (first|(with_reducible first|apply Xa|apply Xb|apply Xc|apply Xd)|((with_reducible apply Xk);(focus rfl);(focus (simp [go_sem,effAt,↓IntWalk.iteOmega, *];(try go_ints);with_reducible first|exact Xm|exact Xn));focus (simp only [Xo,Xp,Xq,Xr,Xs];rfl))|((with_reducible apply Xl);(focus rfl);focus (simp only [Xo,Xp,Xq,Xr,Xs];rfl))|(with_reducible first|apply Xe|apply Xf|apply Xg|apply Xh)|((with_reducible apply Xi);focus first|rfl|(simp [go_sem, *];done))|((with_reducible apply Xj);focus first|rfl|(simp [go_sem, *];done))|(simp only [Exit.then,Exit.inBlock,↓reduceIte,Nat.reduceEqDiff]))
  have hf_l := hB_l.frozen
  ((with_reducible apply Xt (fun w' => Blk w' _ _ _ ∧ w2.grownBy w' (some _))); (focus rfl); (focus (simp [go_sem, effAt, *]; exact ⟨rfl, (hB_l.set_ 2 _), (grown_set (World.grownBy.refl _ _))⟩)); (focus ((simp only [Xo,Xp,Xq,Xr,Xs];rfl))))
  clear hf_l hc_l hB_l
  intro w3 hs
  obtain ⟨hB_l, hs⟩ := hs
  simp only [Xq,Xr,Xs] at hB_l
  have Fw3 := Fw2.trans (Turn.of_grown hs (by first | exact .inl rfl | exact .inr (by omega)))
  replace hB_r := hB_r.grown hs (by intro hk; injection hk with hk; have := hB_r.lt; have := hB_l.lt; omega)
  clear hs Fw2
  clear hc_r; have hc_r := hB_r.cell
  have hc_l := hB_l.cell
  repeat (first|(with_reducible first|apply Xa|apply Xb|apply Xc|apply Xd)|((with_reducible apply Xk);(focus rfl);(focus (simp [go_sem,effAt,↓IntWalk.iteOmega, *];(try go_ints);with_reducible first|exact Xm|exact Xn));focus (simp only [Xo,Xp,Xq,Xr,Xs];rfl))|((with_reducible apply Xl);(focus rfl);focus (simp only [Xo,Xp,Xq,Xr,Xs];rfl))|(with_reducible first|apply Xe|apply Xf|apply Xg|apply Xh)|((with_reducible apply Xi);focus first|rfl|(simp [go_sem, *];done))|((with_reducible apply Xj);focus first|rfl|(simp [go_sem, *];done))|(simp only [Exit.then,Exit.inBlock,↓reduceIte,Nat.reduceEqDiff]))
  ((with_reducible apply Xt (Below w3.heap.size w3)); (focus rfl); (focus (simp only [effAt]; simp [go_sem]; (with_reducible exact effUpon_enter (says_any k _)))); (focus ((simp only [Xo,Xp,Xq,Xr,Xs];rfl))))
  intro w4 hs
  have Fw4 := Fw3.trans (Turn.of_below hs)
  replace hB_l := hB_l.below hs hB_l.lt
  replace hB_r := hB_r.below hs hB_r.lt
  clear hs Fw3
  clear hc_l; have hc_l := hB_l.cell
  clear hc_r; have hc_r := hB_r.cell
  repeat (first|(with_reducible first|apply Xa|apply Xb|apply Xc|apply Xd)|((with_reducible apply Xk);(focus rfl);(focus (simp [go_sem,effAt,↓IntWalk.iteOmega, *];(try go_ints);with_reducible first|exact Xm|exact Xn));focus (simp only [Xo,Xp,Xq,Xr,Xs];rfl))|((with_reducible apply Xl);(focus rfl);focus (simp only [Xo,Xp,Xq,Xr,Xs];rfl))|(with_reducible first|apply Xe|apply Xf|apply Xg|apply Xh)|((with_reducible apply Xi);focus first|rfl|(simp [go_sem, *];done))|((with_reducible apply Xj);focus first|rfl|(simp [go_sem, *];done))|(simp only [Exit.then,Exit.inBlock,↓reduceIte,Nat.reduceEqDiff]))
  have hf_r := hB_r.frozen
  ((with_reducible apply Xt (fun w' => Blk w' _ _ _ ∧ w4.grownBy w' (some _))); (focus rfl); (focus (simp [go_sem, effAt, *]; exact ⟨rfl, (((((hB_r.set_ 0 _).set_ 1 _).set_ 2 _).set_ 3 _).set_ 4 _), (grown_set (grown_set (grown_set (grown_set (grown_set (World.grownBy.refl _ _))))))⟩)); (focus ((simp only [Xo,Xp,Xq,Xr,Xs];rfl))))
  clear hf_r hc_r hB_r
  intro w5 hs
  obtain ⟨hB_r, hs⟩ := hs
  simp only [Xq,Xr,Xs] at hB_r
  have Fw5 := Fw4.trans (Turn.of_grown hs (by first | exact .inl rfl | exact .inr (by omega)))
  replace hB_l := hB_l.grown hs (by intro hk; injection hk with hk; have := hB_l.lt; have := hB_r.lt; omega)
  clear hs Fw4
  clear hc_l; have hc_l := hB_l.cell
  have hc_r := hB_r.cell
  repeat (first|(with_reducible first|apply Xa|apply Xb|apply Xc|apply Xd)|((with_reducible apply Xk);(focus rfl);(focus (simp [go_sem,effAt,↓IntWalk.iteOmega, *];(try go_ints);with_reducible first|exact Xm|exact Xn));focus (simp only [Xo,Xp,Xq,Xr,Xs];rfl))|((with_reducible apply Xl);(focus rfl);focus (simp only [Xo,Xp,Xq,Xr,Xs];rfl))|(with_reducible first|apply Xe|apply Xf|apply Xg|apply Xh)|((with_reducible apply Xi);focus first|rfl|(simp [go_sem, *];done))|((with_reducible apply Xj);focus first|rfl|(simp [go_sem, *];done))|(simp only [Exit.then,Exit.inBlock,↓reduceIte,Nat.reduceEqDiff]))
  refine bodyPost_ret (v := actV k true true 1 0) (by simp [results, Try.results39, go_sem, *]) rfl ⟨rfl, hB_l, Turn.to_grown (by assumption)⟩
theorem again_end (g : Nat) (s : Int) (ls : Bool) (tr mo k : Int) (w : World) (hB_l : LB w g s ls tr mo) (h : ¬ tr < mo) :
    Calls Try.prog 39 #[.pointer (some ⟨g, 0, none⟩), .int .u8 k] w (Ret (actV 0 false false 2 6) fun w' => LB w' g 5 ls tr mo ∧ w.grownBy w' (some g)) := by
  have h1 : mo ≤ tr := by omega
  have hG := fun w h => goes_any g s 5 ls tr mo 0 false false 2 0 6 w h
  unfold LB at *
  go_enter Try.func39, Try.ntmps39
  have F0 : Turn (fun i => i = g ∨ w.heap.size ≤ i) w w := Turn.refl _
  have hc_l := hB_l.cell
  repeat (first|(with_reducible first|apply Xa|apply Xb|apply Xc|apply Xd)|((with_reducible apply Xk);(focus rfl);(focus (simp [go_sem,effAt,↓IntWalk.iteOmega, *];(try go_ints);with_reducible first|exact Xm|exact Xn));focus (simp only [Xo,Xp,Xq,Xr,Xs];rfl))|((with_reducible apply Xl);(focus rfl);focus (simp only [Xo,Xp,Xq,Xr,Xs];rfl))|(with_reducible first|apply Xe|apply Xf|apply Xg|apply Xh)|((with_reducible apply Xi);focus first|rfl|(simp [go_sem, *];done))|((with_reducible apply Xj);focus first|rfl|(simp [go_sem, *];done))|(simp only [Exit.then,Exit.inBlock,↓reduceIte,Nat.reduceEqDiff]))
  have lt_l_r := hB_l.lt
  have le_r := F0.size
  ((with_reducible apply Xu); (focus rfl); (focus (simp [go_sem, effAt]; exact ⟨rfl, rfl⟩)); (focus ((simp only [Xo,Xp,Xq,Xr,Xs];rfl))))
  intro w1 hB_r hs
  have Fw1 := F0.trans (Turn.of_below hs)
  replace hB_l := hB_l.below hs hB_l.lt
  clear hs F0
  clear hc_l; have hc_l := hB_l.cell
  have hc_r := hB_r.cell
  repeat (first|(with_reducible first|apply Xa|apply Xb|apply Xc|apply Xd)|((with_reducible apply Xk);(focus rfl);(focus (simp [go_sem,effAt,↓IntWalk.iteOmega, *];(try go_ints);with_reducible first|exact Xm|exact Xn));focus (simp only [Xo,Xp,Xq,Xr,Xs];rfl))|((with_reducible apply Xl);(focus rfl);focus (simp only [Xo,Xp,Xq,Xr,Xs];rfl))|(with_reducible first|apply Xe|apply Xf|apply Xg|apply Xh)|((with_reducible apply Xi);focus first|rfl|(simp [go_sem, *];done))|((with_reducible apply Xj);focus first|rfl|(simp [go_sem, *];done))|(simp only [Exit.then,Exit.inBlock,↓reduceIte,Nat.reduceEqDiff]))
  refine wp_region_tail 8 (by kernel_rfl) (by kernel_rfl) ?_
  simp only [List.take_succ_cons, List.take_zero, List.drop_succ_cons, List.drop_zero]
  generalize hww2 : World.drew w1 = w2
  have hs : Below w1.heap.size w1 w2 := hww2 ▸ (Below.refl _ _).drew
  clear hww2
  have Fw2 := Fw1.trans (Turn.of_below hs)
  replace hB_l := hB_l.below hs hB_l.lt
  replace hB_r := hB_r.below hs hB_r.lt
  clear hs Fw1
  clear hc_l; have hc_l := hB_l.cell
  clear hc_r; have hc_r := hB_r.cell
  repeat (first | ((with_reducible apply still_q); (focus rfl); (focus (simp [go_sem, stAt, ↓IntWalk.iteOmega, *]; (try go_ints); (first | (with_reducible exact stUpon_val) | (with_reducible exact stUpon_skip)))); (focus ((simp only [Xo,Xp,Xq,Xr,Xs];rfl)))) | ((with_reducible apply still_s); (focus rfl); (focus ((simp only [Xo,Xp,Xq,Xr,Xs];rfl)))))
  with_reducible refine wpStill_nil ?_
  repeat (first|(with_reducible first|apply Xa|apply Xb|apply Xc|apply Xd)|((with_reducible apply Xk);(focus rfl);(focus (simp [go_sem,effAt,↓IntWalk.iteOmega, *];(try go_ints);with_reducible first|exact Xm|exact Xn));focus (simp only [Xo,Xp,Xq,Xr,Xs];rfl))|((with_reducible apply Xl);(focus rfl);focus (simp only [Xo,Xp,Xq,Xr,Xs];rfl))|(with_reducible first|apply Xe|apply Xf|apply Xg|apply Xh)|((with_reducible apply Xi);focus first|rfl|(simp [go_sem, *];done))|((with_reducible apply Xj);focus first|rfl|(simp [go_sem, *];done))|(simp only [Exit.then,Exit.inBlock,↓reduceIte,Nat.reduceEqDiff]))
  ((with_reducible apply Xt (fun w' => Blk w' _ _ _ ∧ w2.grownBy w' (some _))); (focus rfl); (focus (simp only [effAt]; simp [go_sem]; (with_reducible exact effUpon_enter (hG _ hB_l)))); (focus ((simp only [Xo,Xp,Xq,Xr,Xs];rfl))))
  clear hc_l hB_l
  intro w3 hs
  obtain ⟨hB_l, hs⟩ := hs
  have Fw3 := Fw2.trans (Turn.of_grown hs (by first | exact .inl rfl | exact .inr (by omega)))
  replace hB_r := hB_r.grown hs (by intro hk; injection hk with hk; have := hB_r.lt; have := hB_l.lt; omega)
  clear hs Fw2
  clear hc_r; have hc_r := hB_r.cell
  have hc_l := hB_l.cell
  repeat (first|(with_reducible first|apply Xa|apply Xb|apply Xc|apply Xd)|((with_reducible apply Xk);(focus rfl);(focus (simp [go_sem,effAt,↓IntWalk.iteOmega, *];(try go_ints);with_reducible first|exact Xm|exact Xn));focus (simp only [Xo,Xp,Xq,Xr,Xs];rfl))|((with_reducible apply Xl);(focus rfl);focus (simp only [Xo,Xp,Xq,Xr,Xs];rfl))|(with_reducible first|apply Xe|apply Xf|apply Xg|apply Xh)|((with_reducible apply Xi);focus first|rfl|(simp [go_sem, *];done))|((with_reducible apply Xj);focus first|rfl|(simp [go_sem, *];done))|(simp only [Exit.then,Exit.inBlock,↓reduceIte,Nat.reduceEqDiff]))
  have hf_r := hB_r.frozen
  ((with_reducible apply Xt (fun w' => Blk w' _ _ _ ∧ w3.grownBy w' (some _))); (focus rfl); (focus (simp [go_sem, effAt, *]; exact ⟨rfl, (((((hB_r.set_ 0 _).set_ 1 _).set_ 2 _).set_ 3 _).set_ 4 _), (grown_set (grown_set (grown_set (grown_set (grown_set (World.grownBy.refl _ _))))))⟩)); (focus ((simp only [Xo,Xp,Xq,Xr,Xs];rfl))))
  clear hf_r hc_r hB_r
  intro w4 hs
  obtain ⟨hB_r, hs⟩ := hs
  simp only [Xq,Xr,Xs] at hB_r
  have Fw4 := Fw3.trans (Turn.of_grown hs (by first | exact .inl rfl | exact .inr (by omega)))
  replace hB_l := hB_l.grown hs (by intro hk; injection hk with hk; have := hB_l.lt; have := hB_r.lt; omega)
  clear hs Fw3
  clear hc_l; have hc_l := hB_l.cell
  have hc_r := hB_r.cell
  repeat (first|(with_reducible first|apply Xa|apply Xb|apply Xc|apply Xd)|((with_reducible apply Xk);(focus rfl);(focus (simp [go_sem,effAt,↓IntWalk.iteOmega, *];(try go_ints);with_reducible first|exact Xm|exact Xn));focus (simp only [Xo,Xp,Xq,Xr,Xs];rfl))|((with_reducible apply Xl);(focus rfl);focus (simp only [Xo,Xp,Xq,Xr,Xs];rfl))|(with_reducible first|apply Xe|apply Xf|apply Xg|apply Xh)|((with_reducible apply Xi);focus first|rfl|(simp [go_sem, *];done))|((with_reducible apply Xj);focus first|rfl|(simp [go_sem, *];done))|(simp only [Exit.then,Exit.inBlock,↓reduceIte,Nat.reduceEqDiff]))
  refine bodyPost_ret (v := actV 0 false false 2 6) (by simp [results, Try.results39, go_sem, *]) rfl ⟨rfl, hB_l, Turn.to_grown (by assumption)⟩
