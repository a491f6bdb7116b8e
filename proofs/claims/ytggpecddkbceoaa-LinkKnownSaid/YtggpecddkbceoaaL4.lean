/- The walks of Pick, both New, the law's 'does', of a link and of none; the chapter's examples; LinkNone's walk. -/
import Derived.Test.YtggpecddkbceoaaL3b
import Derived.Lib.Hide
set_option linter.unusedSimpArgs false
set_option linter.unusedVariables false
namespace Go.Proofs.Ytggpecddkbceoaa
open Go.RowKit Go.Eff
abbrev Fit (x : Int) : Prop := -9223372036854775808 ≤ x ∧ x ≤ 9223372036854775807
theorem pick_any (i : Int) (n : Int) (hn : 1 ≤ n ∧ n ≤ 100000) (hi : Fit i) (w : World) : Calls Try.prog 23 #[.int .i64 i, .int .i64 n] w (Ret (.int .i64 (i % n)) (Below w.heap.size w)) := by
  have h1 : ¬ n ≤ 0 := by omega
  obtain ⟨hi1, hi2⟩ := hi
  have e : Int.tmod (Int.tmod i n + n) n = i % n := by
    rw [Int.tmod_eq_emod_of_nonneg (a := Int.tmod i n + n) (by have := Int.lt_tmod_of_pos i (b := n) (by omega); omega)]
    rw [Int.add_emod_right]
    have h3 := Int.mul_tdiv_add_tmod i n
    have h4 : i % n = (Int.tmod i n) % n := by
      conv => lhs; rw [← h3]
      rw [Int.add_comm, Int.add_mul_emod_self_left]
    exact h4.symm
  have hb := Int.lt_tmod_of_pos i (b := n) (by omega)
  have hb2 := Int.tmod_lt_of_pos i (b := n) (by omega)
  obtain ⟨m, hm⟩ : ∃ m, Int.tmod i n = m := ⟨_, rfl⟩
  rw [hm] at e hb hb2
  go_enter Try.func23, Try.ntmps23
  have F0 : Below w.heap.size w w := Below.refl _ _
  repeat (first|(with_reducible first|apply Xa|apply Xb|apply Xc|apply Xd)|((with_reducible apply Xk);(focus rfl);(focus (simp [go_sem,effAt,↓IntWalk.iteOmega, *];(try go_ints);with_reducible first|exact Xm|exact Xn));focus (simp only [Xo,Xp,Xq,Xr,Xs];rfl))|((with_reducible apply Xl);(focus rfl);focus (simp only [Xo,Xp,Xq,Xr,Xs];rfl))|(with_reducible first|apply Xe|apply Xf|apply Xg|apply Xh)|((with_reducible apply Xi);focus first|rfl|(simp [go_sem, *];done))|((with_reducible apply Xj);focus first|rfl|(simp [go_sem, *];done))|(simp only [Exit.then,Exit.inBlock,↓reduceIte,Nat.reduceEqDiff]))
  go_ret
  exact ⟨rfl, by assumption⟩
/-- N2, as it is brought to one -/
def mostOf (n : Int) : Int := max 0 (min 255 n)
theorem mostOf_bounds (n : Int) : 0 ≤ mostOf n ∧ mostOf n ≤ 255 := by unfold mostOf; omega
theorem mostOf_ref (n : Int) : min 255 (max n 0) = mostOf n := by unfold mostOf; omega
theorem new_any (n : Int) (w : World) : Calls Try.prog 10 #[.int .i64 n] w (Ret (.pointer (some ⟨w.heap.size, 0, none⟩)) fun w' => Blk w' w.heap.size 57 #[.int .u8 1, .bool false, .int .i64 0, .int .i64 (mostOf n)] ∧ Below w.heap.size w w') := by
  unfold mostOf
  go_enter Try.func10, Try.ntmps10
  have F0 : Below w.heap.size w w := Below.refl _ _
  repeat (first|(with_reducible first|apply Xa|apply Xb|apply Xc|apply Xd)|((with_reducible apply Xk);(focus rfl);(focus (simp [go_sem,effAt,↓IntWalk.iteOmega, *];(try go_ints);with_reducible first|exact Xm|exact Xn));focus (simp only [Xo,Xp,Xq,Xr,Xs];rfl))|((with_reducible apply Xl);(focus rfl);focus (simp only [Xo,Xp,Xq,Xr,Xs];rfl))|(with_reducible first|apply Xe|apply Xf|apply Xg|apply Xh)|((with_reducible apply Xi);focus first|rfl|(simp [go_sem, *];done))|((with_reducible apply Xj);focus first|rfl|(simp [go_sem, *];done))|(simp only [Exit.then,Exit.inBlock,↓reduceIte,Nat.reduceEqDiff]))
  ((with_reducible apply Xu); (focus rfl); (focus (simp [go_sem, effAt]; exact ⟨rfl, rfl⟩)); (focus ((simp only [Xo,Xp,Xq,Xr,Xs];rfl))))
  intro w1 hB_b hs
  have Fw1 := F0.trans (hs.mono F0.size)
  clear hs F0
  have hc_b := hB_b.cell
  repeat (first|(with_reducible first|apply Xa|apply Xb|apply Xc|apply Xd)|((with_reducible apply Xk);(focus rfl);(focus (simp [go_sem,effAt,↓IntWalk.iteOmega, *];(try go_ints);with_reducible first|exact Xm|exact Xn));focus (simp only [Xo,Xp,Xq,Xr,Xs];rfl))|((with_reducible apply Xl);(focus rfl);focus (simp only [Xo,Xp,Xq,Xr,Xs];rfl))|(with_reducible first|apply Xe|apply Xf|apply Xg|apply Xh)|((with_reducible apply Xi);focus first|rfl|(simp [go_sem, *];done))|((with_reducible apply Xj);focus first|rfl|(simp [go_sem, *];done))|(simp only [Exit.then,Exit.inBlock,↓reduceIte,Nat.reduceEqDiff]))
  go_ret
  exact ⟨rfl, hB_b, by assumption⟩
theorem rnew_any (n : Int) (w : World) : Calls Try.prog 11 #[.int .i64 n] w (Ret (.pointer (some ⟨w.heap.size, 0, none⟩)) fun w' => Blk w' w.heap.size 38 #[.int .u8 1, .bool false, .int .i64 (mostOf n), .int .i64 0] ∧ Below w.heap.size w w') := by
  have e := mostOf_ref n
  generalize mostOf n = m at *
  go_enter Try.func11, Try.ntmps11
  have F0 : Below w.heap.size w w := Below.refl _ _
  repeat (first|(with_reducible first|apply Xa|apply Xb|apply Xc|apply Xd)|((with_reducible apply Xk);(focus rfl);(focus (simp [go_sem,effAt,↓IntWalk.iteOmega, *];(try go_ints);with_reducible first|exact Xm|exact Xn));focus (simp only [Xo,Xp,Xq,Xr,Xs];rfl))|((with_reducible apply Xl);(focus rfl);focus (simp only [Xo,Xp,Xq,Xr,Xs];rfl))|(with_reducible first|apply Xe|apply Xf|apply Xg|apply Xh)|((with_reducible apply Xi);focus first|rfl|(simp [go_sem, *];done))|((with_reducible apply Xj);focus first|rfl|(simp [go_sem, *];done))|(simp only [Exit.then,Exit.inBlock,↓reduceIte,Nat.reduceEqDiff]))
  ((with_reducible apply Xu); (focus rfl); (focus (simp [go_sem, effAt]; exact ⟨rfl, rfl⟩)); (focus ((simp only [Xo,Xp,Xq,Xr,Xs];rfl))))
  intro w1 hB_b hs
  have Fw1 := F0.trans (hs.mono F0.size)
  clear hs F0
  have hc_b := hB_b.cell
  repeat (first|(with_reducible first|apply Xa|apply Xb|apply Xc|apply Xd)|((with_reducible apply Xk);(focus rfl);(focus (simp [go_sem,effAt,↓IntWalk.iteOmega, *];(try go_ints);with_reducible first|exact Xm|exact Xn));focus (simp only [Xo,Xp,Xq,Xr,Xs];rfl))|((with_reducible apply Xl);(focus rfl);focus (simp only [Xo,Xp,Xq,Xr,Xs];rfl))|(with_reducible first|apply Xe|apply Xf|apply Xg|apply Xh)|((with_reducible apply Xi);focus first|rfl|(simp [go_sem, *];done))|((with_reducible apply Xj);focus first|rfl|(simp [go_sem, *];done))|(simp only [Exit.then,Exit.inBlock,↓reduceIte,Nat.reduceEqDiff]))
  go_ret
  exact ⟨rfl, hB_b, by assumption⟩
theorem ldoes_0 (g : Nat) (s : Int) (ls : Bool) (tr mo : Int) (kd fr : Int) (pf cmd : Bool) {s2 tr2 mo2 k1 t1 f1 : Int} {c1 p1 ls2 : Bool} (w : World) (hB_l : LB w g s ls tr mo) (hk : Fit kd) (hm : kd % 6 = 0)
    (hF : ∀ w, LB w g s ls tr mo → Calls Try.prog 18 #[.pointer (some ⟨g, 0, none⟩)] w (Ret (actV k1 c1 p1 t1 f1) (fun w' => LB w' g s2 ls2 tr2 mo2 ∧ w.grownBy w' (some g)))) :
    Calls Try.prog 13 #[.pointer (some ⟨g, 0, none⟩), .agg #[.int .i64 kd, .int .u8 fr, .bool pf, .bool cmd]] w (Ret (actV k1 c1 p1 t1 f1) (fun w' => LB w' g s2 ls2 tr2 mo2 ∧ w.grownBy w' (some g))) := by
  have hPi := pick_any kd 6 (by omega) hk
  rw [hm] at hPi
  clear hm hk
  unfold LB at *
  go_enter Try.func13, Try.ntmps13
  have F0 : Turn (fun i => i = g ∨ w.heap.size ≤ i) w w := Turn.refl _
  have hc_l := hB_l.cell
  repeat (first|(with_reducible first|apply Xa|apply Xb|apply Xc|apply Xd)|((with_reducible apply Xk);(focus rfl);(focus (simp [go_sem,effAt,↓IntWalk.iteOmega, *];(try go_ints);with_reducible first|exact Xm|exact Xn));focus (simp only [Xo,Xp,Xq,Xr,Xs];rfl))|((with_reducible apply Xl);(focus rfl);focus (simp only [Xo,Xp,Xq,Xr,Xs];rfl))|(with_reducible first|apply Xe|apply Xf|apply Xg|apply Xh)|((with_reducible apply Xi);focus first|rfl|(simp [go_sem, *];done))|((with_reducible apply Xj);focus first|rfl|(simp [go_sem, *];done))|(simp only [Exit.then,Exit.inBlock,↓reduceIte,Nat.reduceEqDiff]))
  have lt_l_e := hB_l.lt
  have le_e := F0.size
  ((with_reducible apply Xu); (focus rfl); (focus (simp [go_sem, effAt]; exact ⟨rfl, rfl⟩)); (focus ((simp only [Xo,Xp,Xq,Xr,Xs];rfl))))
  intro w1 hB_e hs
  have Fw1 := F0.trans (Turn.of_below hs)
  replace hB_l := hB_l.below hs hB_l.lt
  clear hs F0
  clear hc_l; have hc_l := hB_l.cell
  have hc_e := hB_e.cell
  repeat (first|(with_reducible first|apply Xa|apply Xb|apply Xc|apply Xd)|((with_reducible apply Xk);(focus rfl);(focus (simp [go_sem,effAt,↓IntWalk.iteOmega, *];(try go_ints);with_reducible first|exact Xm|exact Xn));focus (simp only [Xo,Xp,Xq,Xr,Xs];rfl))|((with_reducible apply Xl);(focus rfl);focus (simp only [Xo,Xp,Xq,Xr,Xs];rfl))|(with_reducible first|apply Xe|apply Xf|apply Xg|apply Xh)|((with_reducible apply Xi);focus first|rfl|(simp [go_sem, *];done))|((with_reducible apply Xj);focus first|rfl|(simp [go_sem, *];done))|(simp only [Exit.then,Exit.inBlock,↓reduceIte,Nat.reduceEqDiff]))
  have lt_l_r := hB_l.lt
  have lt_e_r := hB_e.lt
  have le_r := Fw1.size
  ((with_reducible apply Xu); (focus rfl); (focus (simp [go_sem, effAt]; exact ⟨rfl, rfl⟩)); (focus ((simp only [Xo,Xp,Xq,Xr,Xs];rfl))))
  intro w2 hB_r hs
  have Fw2 := Fw1.trans (Turn.of_below hs)
  replace hB_l := hB_l.below hs hB_l.lt
  replace hB_e := hB_e.below hs hB_e.lt
  clear hs Fw1
  clear hc_l; have hc_l := hB_l.cell
  clear hc_e; have hc_e := hB_e.cell
  have hc_r := hB_r.cell
  repeat (first|(with_reducible first|apply Xa|apply Xb|apply Xc|apply Xd)|((with_reducible apply Xk);(focus rfl);(focus (simp [go_sem,effAt,↓IntWalk.iteOmega, *];(try go_ints);with_reducible first|exact Xm|exact Xn));focus (simp only [Xo,Xp,Xq,Xr,Xs];rfl))|((with_reducible apply Xl);(focus rfl);focus (simp only [Xo,Xp,Xq,Xr,Xs];rfl))|(with_reducible first|apply Xe|apply Xf|apply Xg|apply Xh)|((with_reducible apply Xi);focus first|rfl|(simp [go_sem, *];done))|((with_reducible apply Xj);focus first|rfl|(simp [go_sem, *];done))|(simp only [Exit.then,Exit.inBlock,↓reduceIte,Nat.reduceEqDiff]))
  ((with_reducible apply Xt (Below w2.heap.size w2)); (focus rfl); (focus (simp only [effAt]; simp [go_sem]; (with_reducible exact effUpon_enter (hPi _)))); (focus ((simp only [Xo,Xp,Xq,Xr,Xs];rfl))))
  intro w3 hs
  have Fw3 := Fw2.trans (Turn.of_below hs)
  replace hB_l := hB_l.below hs hB_l.lt
  replace hB_e := hB_e.below hs hB_e.lt
  replace hB_r := hB_r.below hs hB_r.lt
  clear hs Fw2
  clear hc_l; have hc_l := hB_l.cell
  clear hc_e; have hc_e := hB_e.cell
  clear hc_r; have hc_r := hB_r.cell
  repeat (first|(with_reducible first|apply Xa|apply Xb|apply Xc|apply Xd)|((with_reducible apply Xk);(focus rfl);(focus (simp [go_sem,effAt,↓IntWalk.iteOmega, *];(try go_ints);with_reducible first|exact Xm|exact Xn));focus (simp only [Xo,Xp,Xq,Xr,Xs];rfl))|((with_reducible apply Xl);(focus rfl);focus (simp only [Xo,Xp,Xq,Xr,Xs];rfl))|(with_reducible first|apply Xe|apply Xf|apply Xg|apply Xh)|((with_reducible apply Xi);focus first|rfl|(simp [go_sem, *];done))|((with_reducible apply Xj);focus first|rfl|(simp [go_sem, *];done))|(simp only [Exit.then,Exit.inBlock,↓reduceIte,Nat.reduceEqDiff]))
  ((with_reducible apply Xt (fun w' => Blk w' _ _ _ ∧ w3.grownBy w' (some _))); (focus rfl); (focus (simp only [effAt]; simp [go_sem]; (with_reducible exact effUpon_enter (hF _ hB_l)))); (focus ((simp only [Xo,Xp,Xq,Xr,Xs];rfl))))
  clear hc_l hB_l
  intro w4 hs
  obtain ⟨hB_l, hs⟩ := hs
  have Fw4 := Fw3.trans (Turn.of_grown hs (by first | exact .inl rfl | exact .inr (by omega)))
  replace hB_e := hB_e.grown hs (by intro hk; injection hk with hk; have := hB_e.lt; have := hB_l.lt; omega)
  replace hB_r := hB_r.grown hs (by intro hk; injection hk with hk; have := hB_r.lt; have := hB_l.lt; omega)
  clear hs Fw3
  clear hc_e; have hc_e := hB_e.cell
  clear hc_r; have hc_r := hB_r.cell
  have hc_l := hB_l.cell
  repeat (first|(with_reducible first|apply Xa|apply Xb|apply Xc|apply Xd)|((with_reducible apply Xk);(focus rfl);(focus (simp [go_sem,effAt,↓IntWalk.iteOmega, *];(try go_ints);with_reducible first|exact Xm|exact Xn));focus (simp only [Xo,Xp,Xq,Xr,Xs];rfl))|((with_reducible apply Xl);(focus rfl);focus (simp only [Xo,Xp,Xq,Xr,Xs];rfl))|(with_reducible first|apply Xe|apply Xf|apply Xg|apply Xh)|((with_reducible apply Xi);focus first|rfl|(simp [go_sem, *];done))|((with_reducible apply Xj);focus first|rfl|(simp [go_sem, *];done))|(simp only [Exit.then,Exit.inBlock,↓reduceIte,Nat.reduceEqDiff]))
  have hf_r := hB_r.frozen
  ((with_reducible apply Xt (fun w' => Blk w' _ _ _ ∧ w4.grownBy w' (some _))); (focus rfl); (focus (simp [go_sem, effAt, *]; exact ⟨rfl, (((((hB_r.set_ 0 _).set_ 1 _).set_ 2 _).set_ 3 _).set_ 4 _), (grown_set (grown_set (grown_set (grown_set (grown_set (World.grownBy.refl _ _))))))⟩)); (focus ((simp only [Xo,Xp,Xq,Xr,Xs];rfl))))
  clear hf_r hc_r hB_r
  intro w5 hs
  obtain ⟨hB_r, hs⟩ := hs
  simp only [Xq,Xr,Xs] at hB_r
  have Fw5 := Fw4.trans (Turn.of_grown hs (by first | exact .inl rfl | exact .inr (by omega)))
  replace hB_l := hB_l.grown hs (by intro hk; injection hk with hk; have := hB_l.lt; have := hB_r.lt; omega)
  replace hB_e := hB_e.grown hs (by intro hk; injection hk with hk; have := hB_e.lt; have := hB_r.lt; omega)
  clear hs Fw4
  clear hc_l; have hc_l := hB_l.cell
  clear hc_e; have hc_e := hB_e.cell
  have hc_r := hB_r.cell
  repeat (first|(with_reducible first|apply Xa|apply Xb|apply Xc|apply Xd)|((with_reducible apply Xk);(focus rfl);(focus (simp [go_sem,effAt,↓IntWalk.iteOmega, *];(try go_ints);with_reducible first|exact Xm|exact Xn));focus (simp only [Xo,Xp,Xq,Xr,Xs];rfl))|((with_reducible apply Xl);(focus rfl);focus (simp only [Xo,Xp,Xq,Xr,Xs];rfl))|(with_reducible first|apply Xe|apply Xf|apply Xg|apply Xh)|((with_reducible apply Xi);focus first|rfl|(simp [go_sem, *];done))|((with_reducible apply Xj);focus first|rfl|(simp [go_sem, *];done))|(simp only [Exit.then,Exit.inBlock,↓reduceIte,Nat.reduceEqDiff]))
  refine bodyPost_ret (v := (actV k1 c1 p1 t1 f1)) (by simp [results, Try.results13, go_sem, *]) rfl ⟨rfl, hB_l, Turn.to_grown (by assumption)⟩
theorem ldoes_nil_0 (kd fr : Int) (pf cmd : Bool) (w : World) (hk : Fit kd) (hm : kd % 6 = 0)
    (hF : ∀ w, Calls Try.prog 18 #[.pointer none] w (Ret (actV 0 false false 0 0) (Below w.heap.size w))) :
    Calls Try.prog 13 #[.pointer none, .agg #[.int .i64 kd, .int .u8 fr, .bool pf, .bool cmd]] w (Ret (actV 0 false false 0 0) (Below w.heap.size w)) := by
  have hPi := pick_any kd 6 (by omega) hk
  rw [hm] at hPi
  clear hm hk
  go_enter Try.func13, Try.ntmps13
  have F0 : Below w.heap.size w w := Below.refl _ _
  repeat (first|(with_reducible first|apply Xa|apply Xb|apply Xc|apply Xd)|((with_reducible apply Xk);(focus rfl);(focus (simp [go_sem,effAt,↓IntWalk.iteOmega, *];(try go_ints);with_reducible first|exact Xm|exact Xn));focus (simp only [Xo,Xp,Xq,Xr,Xs];rfl))|((with_reducible apply Xl);(focus rfl);focus (simp only [Xo,Xp,Xq,Xr,Xs];rfl))|(with_reducible first|apply Xe|apply Xf|apply Xg|apply Xh)|((with_reducible apply Xi);focus first|rfl|(simp [go_sem, *];done))|((with_reducible apply Xj);focus first|rfl|(simp [go_sem, *];done))|(simp only [Exit.then,Exit.inBlock,↓reduceIte,Nat.reduceEqDiff]))
  ((with_reducible apply Xu); (focus rfl); (focus (simp [go_sem, effAt]; exact ⟨rfl, rfl⟩)); (focus ((simp only [Xo,Xp,Xq,Xr,Xs];rfl))))
  intro w1 hB_e hs
  have Fw1 := F0.trans (hs.mono F0.size)
  clear hs F0
  have hc_e := hB_e.cell
  repeat (first|(with_reducible first|apply Xa|apply Xb|apply Xc|apply Xd)|((with_reducible apply Xk);(focus rfl);(focus (simp [go_sem,effAt,↓IntWalk.iteOmega, *];(try go_ints);with_reducible first|exact Xm|exact Xn));focus (simp only [Xo,Xp,Xq,Xr,Xs];rfl))|((with_reducible apply Xl);(focus rfl);focus (simp only [Xo,Xp,Xq,Xr,Xs];rfl))|(with_reducible first|apply Xe|apply Xf|apply Xg|apply Xh)|((with_reducible apply Xi);focus first|rfl|(simp [go_sem, *];done))|((with_reducible apply Xj);focus first|rfl|(simp [go_sem, *];done))|(simp only [Exit.then,Exit.inBlock,↓reduceIte,Nat.reduceEqDiff]))
  have lt_e_r := hB_e.lt
  ((with_reducible apply Xu); (focus rfl); (focus (simp [go_sem, effAt]; exact ⟨rfl, rfl⟩)); (focus ((simp only [Xo,Xp,Xq,Xr,Xs];rfl))))
  intro w2 hB_r hs
  have Fw2 := Fw1.trans (hs.mono Fw1.size)
  replace hB_e := hB_e.below hs hB_e.lt
  clear hs Fw1
  clear hc_e; have hc_e := hB_e.cell
  have hc_r := hB_r.cell
  repeat (first|(with_reducible first|apply Xa|apply Xb|apply Xc|apply Xd)|((with_reducible apply Xk);(focus rfl);(focus (simp [go_sem,effAt,↓IntWalk.iteOmega, *];(try go_ints);with_reducible first|exact Xm|exact Xn));focus (simp only [Xo,Xp,Xq,Xr,Xs];rfl))|((with_reducible apply Xl);(focus rfl);focus (simp only [Xo,Xp,Xq,Xr,Xs];rfl))|(with_reducible first|apply Xe|apply Xf|apply Xg|apply Xh)|((with_reducible apply Xi);focus first|rfl|(simp [go_sem, *];done))|((with_reducible apply Xj);focus first|rfl|(simp [go_sem, *];done))|(simp only [Exit.then,Exit.inBlock,↓reduceIte,Nat.reduceEqDiff]))
  ((with_reducible apply Xt (Below w2.heap.size w2)); (focus rfl); (focus (simp only [effAt]; simp [go_sem]; (with_reducible exact effUpon_enter (hPi _)))); (focus ((simp only [Xo,Xp,Xq,Xr,Xs];rfl))))
  intro w3 hs
  have Fw3 := Fw2.trans (hs.mono Fw2.size)
  replace hB_e := hB_e.below hs hB_e.lt
  replace hB_r := hB_r.below hs hB_r.lt
  clear hs Fw2
  clear hc_e; have hc_e := hB_e.cell
  clear hc_r; have hc_r := hB_r.cell
  repeat (first|(with_reducible first|apply Xa|apply Xb|apply Xc|apply Xd)|((with_reducible apply Xk);(focus rfl);(focus (simp [go_sem,effAt,↓IntWalk.iteOmega, *];(try go_ints);with_reducible first|exact Xm|exact Xn));focus (simp only [Xo,Xp,Xq,Xr,Xs];rfl))|((with_reducible apply Xl);(focus rfl);focus (simp only [Xo,Xp,Xq,Xr,Xs];rfl))|(with_reducible first|apply Xe|apply Xf|apply Xg|apply Xh)|((with_reducible apply Xi);focus first|rfl|(simp [go_sem, *];done))|((with_reducible apply Xj);focus first|rfl|(simp [go_sem, *];done))|(simp only [Exit.then,Exit.inBlock,↓reduceIte,Nat.reduceEqDiff]))
  ((with_reducible apply Xt (Below w3.heap.size w3)); (focus rfl); (focus (simp only [effAt]; simp [go_sem]; (with_reducible exact effUpon_enter (hF _)))); (focus ((simp only [Xo,Xp,Xq,Xr,Xs];rfl))))
  intro w4 hs
  have Fw4 := Fw3.trans (hs.mono Fw3.size)
  replace hB_e := hB_e.below hs hB_e.lt
  replace hB_r := hB_r.below hs hB_r.lt
  clear hs Fw3
  clear hc_e; have hc_e := hB_e.cell
  clear hc_r; have hc_r := hB_r.cell
  repeat (first|(with_reducible first|apply Xa|apply Xb|apply Xc|apply Xd)|((with_reducible apply Xk);(focus rfl);(focus (simp [go_sem,effAt,↓IntWalk.iteOmega, *];(try go_ints);with_reducible first|exact Xm|exact Xn));focus (simp only [Xo,Xp,Xq,Xr,Xs];rfl))|((with_reducible apply Xl);(focus rfl);focus (simp only [Xo,Xp,Xq,Xr,Xs];rfl))|(with_reducible first|apply Xe|apply Xf|apply Xg|apply Xh)|((with_reducible apply Xi);focus first|rfl|(simp [go_sem, *];done))|((with_reducible apply Xj);focus first|rfl|(simp [go_sem, *];done))|(simp only [Exit.then,Exit.inBlock,↓reduceIte,Nat.reduceEqDiff]))
  have hf_r := hB_r.frozen
  ((with_reducible apply Xt (fun w' => Blk w' _ _ _ ∧ w4.grownBy w' (some _))); (focus rfl); (focus (simp [go_sem, effAt, *]; exact ⟨rfl, (((((hB_r.set_ 0 _).set_ 1 _).set_ 2 _).set_ 3 _).set_ 4 _), (grown_set (grown_set (grown_set (grown_set (grown_set (World.grownBy.refl _ _))))))⟩)); (focus ((simp only [Xo,Xp,Xq,Xr,Xs];rfl))))
  clear hf_r hc_r hB_r
  intro w5 hs
  obtain ⟨hB_r, hs⟩ := hs
  simp only [Xq,Xr,Xs] at hB_r
  have Fw5 := Fw4.grown hs Fw4.size (by intro k hk; first | (injection hk with hk; subst hk; first | exact Nat.le_refl _ | exact Fw4.size | omega) | omega)
  replace hB_e := hB_e.grown hs (by intro hk; injection hk with hk; have := hB_e.lt; have := hB_r.lt; omega)
  clear hs Fw4
  clear hc_e; have hc_e := hB_e.cell
  have hc_r := hB_r.cell
  repeat (first|(with_reducible first|apply Xa|apply Xb|apply Xc|apply Xd)|((with_reducible apply Xk);(focus rfl);(focus (simp [go_sem,effAt,↓IntWalk.iteOmega, *];(try go_ints);with_reducible first|exact Xm|exact Xn));focus (simp only [Xo,Xp,Xq,Xr,Xs];rfl))|((with_reducible apply Xl);(focus rfl);focus (simp only [Xo,Xp,Xq,Xr,Xs];rfl))|(with_reducible first|apply Xe|apply Xf|apply Xg|apply Xh)|((with_reducible apply Xi);focus first|rfl|(simp [go_sem, *];done))|((with_reducible apply Xj);focus first|rfl|(simp [go_sem, *];done))|(simp only [Exit.then,Exit.inBlock,↓reduceIte,Nat.reduceEqDiff]))
  refine bodyPost_ret (v := (actV 0 false false 0 0)) (by simp [results, Try.results13, go_sem, *]) rfl ⟨rfl, by assumption⟩
theorem ldoes_1 (g : Nat) (s : Int) (ls : Bool) (tr mo : Int) (kd fr : Int) (pf cmd : Bool) {s2 tr2 mo2 k1 t1 f1 : Int} {c1 p1 ls2 : Bool} (w : World) (hB_l : LB w g s ls tr mo) (hk : Fit kd) (hm : kd % 6 = 1)
    (hF : ∀ w, LB w g s ls tr mo → Calls Try.prog 20 #[.pointer (some ⟨g, 0, none⟩)] w (Ret (actV k1 c1 p1 t1 f1) (fun w' => LB w' g s2 ls2 tr2 mo2 ∧ w.grownBy w' (some g)))) :
    Calls Try.prog 13 #[.pointer (some ⟨g, 0, none⟩), .agg #[.int .i64 kd, .int .u8 fr, .bool pf, .bool cmd]] w (Ret (actV k1 c1 p1 t1 f1) (fun w' => LB w' g s2 ls2 tr2 mo2 ∧ w.grownBy w' (some g))) := by
  have hPi := pick_any kd 6 (by omega) hk
  rw [hm] at hPi
  clear hm hk
  unfold LB at *
  go_enter Try.func13, Try.ntmps13
  have F0 : Turn (fun i => i = g ∨ w.heap.size ≤ i) w w := Turn.refl _
  have hc_l := hB_l.cell
  repeat (first|(with_reducible first|apply Xa|apply Xb|apply Xc|apply Xd)|((with_reducible apply Xk);(focus rfl);(focus (simp [go_sem,effAt,↓IntWalk.iteOmega, *];(try go_ints);with_reducible first|exact Xm|exact Xn));focus (simp only [Xo,Xp,Xq,Xr,Xs];rfl))|((with_reducible apply Xl);(focus rfl);focus (simp only [Xo,Xp,Xq,Xr,Xs];rfl))|(with_reducible first|apply Xe|apply Xf|apply Xg|apply Xh)|((with_reducible apply Xi);focus first|rfl|(simp [go_sem, *];done))|((with_reducible apply Xj);focus first|rfl|(simp [go_sem, *];done))|(simp only [Exit.then,Exit.inBlock,↓reduceIte,Nat.reduceEqDiff]))
  have lt_l_e := hB_l.lt
  have le_e := F0.size
  ((with_reducible apply Xu); (focus rfl); (focus (simp [go_sem, effAt]; exact ⟨rfl, rfl⟩)); (focus ((simp only [Xo,Xp,Xq,Xr,Xs];rfl))))
  intro w1 hB_e hs
  have Fw1 := F0.trans (Turn.of_below hs)
  replace hB_l := hB_l.below hs hB_l.lt
  clear hs F0
  clear hc_l; have hc_l := hB_l.cell
  have hc_e := hB_e.cell
  repeat (first|(with_reducible first|apply Xa|apply Xb|apply Xc|apply Xd)|((with_reducible apply Xk);(focus rfl);(focus (simp [go_sem,effAt,↓IntWalk.iteOmega, *];(try go_ints);with_reducible first|exact Xm|exact Xn));focus (simp only [Xo,Xp,Xq,Xr,Xs];rfl))|((with_reducible apply Xl);(focus rfl);focus (simp only [Xo,Xp,Xq,Xr,Xs];rfl))|(with_reducible first|apply Xe|apply Xf|apply Xg|apply Xh)|((with_reducible apply Xi);focus first|rfl|(simp [go_sem, *];done))|((with_reducible apply Xj);focus first|rfl|(simp [go_sem, *];done))|(simp only [Exit.then,Exit.inBlock,↓reduceIte,Nat.reduceEqDiff]))
  have lt_l_r := hB_l.lt
  have lt_e_r := hB_e.lt
  have le_r := Fw1.size
  ((with_reducible apply Xu); (focus rfl); (focus (simp [go_sem, effAt]; exact ⟨rfl, rfl⟩)); (focus ((simp only [Xo,Xp,Xq,Xr,Xs];rfl))))
  intro w2 hB_r hs
  have Fw2 := Fw1.trans (Turn.of_below hs)
  replace hB_l := hB_l.below hs hB_l.lt
  replace hB_e := hB_e.below hs hB_e.lt
  clear hs Fw1
  clear hc_l; have hc_l := hB_l.cell
  clear hc_e; have hc_e := hB_e.cell
  have hc_r := hB_r.cell
  repeat (first|(with_reducible first|apply Xa|apply Xb|apply Xc|apply Xd)|((with_reducible apply Xk);(focus rfl);(focus (simp [go_sem,effAt,↓IntWalk.iteOmega, *];(try go_ints);with_reducible first|exact Xm|exact Xn));focus (simp only [Xo,Xp,Xq,Xr,Xs];rfl))|((with_reducible apply Xl);(focus rfl);focus (simp only [Xo,Xp,Xq,Xr,Xs];rfl))|(with_reducible first|apply Xe|apply Xf|apply Xg|apply Xh)|((with_reducible apply Xi);focus first|rfl|(simp [go_sem, *];done))|((with_reducible apply Xj);focus first|rfl|(simp [go_sem, *];done))|(simp only [Exit.then,Exit.inBlock,↓reduceIte,Nat.reduceEqDiff]))
  ((with_reducible apply Xt (Below w2.heap.size w2)); (focus rfl); (focus (simp only [effAt]; simp [go_sem]; (with_reducible exact effUpon_enter (hPi _)))); (focus ((simp only [Xo,Xp,Xq,Xr,Xs];rfl))))
  intro w3 hs
  have Fw3 := Fw2.trans (Turn.of_below hs)
  replace hB_l := hB_l.below hs hB_l.lt
  replace hB_e := hB_e.below hs hB_e.lt
  replace hB_r := hB_r.below hs hB_r.lt
  clear hs Fw2
  clear hc_l; have hc_l := hB_l.cell
  clear hc_e; have hc_e := hB_e.cell
  clear hc_r; have hc_r := hB_r.cell
  repeat (first|(with_reducible first|apply Xa|apply Xb|apply Xc|apply Xd)|((with_reducible apply Xk);(focus rfl);(focus (simp [go_sem,effAt,↓IntWalk.iteOmega, *];(try go_ints);with_reducible first|exact Xm|exact Xn));focus (simp only [Xo,Xp,Xq,Xr,Xs];rfl))|((with_reducible apply Xl);(focus rfl);focus (simp only [Xo,Xp,Xq,Xr,Xs];rfl))|(with_reducible first|apply Xe|apply Xf|apply Xg|apply Xh)|((with_reducible apply Xi);focus first|rfl|(simp [go_sem, *];done))|((with_reducible apply Xj);focus first|rfl|(simp [go_sem, *];done))|(simp only [Exit.then,Exit.inBlock,↓reduceIte,Nat.reduceEqDiff]))
  ((with_reducible apply Xt (fun w' => Blk w' _ _ _ ∧ w3.grownBy w' (some _))); (focus rfl); (focus (simp only [effAt]; simp [go_sem]; (with_reducible exact effUpon_enter (hF _ hB_l)))); (focus ((simp only [Xo,Xp,Xq,Xr,Xs];rfl))))
  clear hc_l hB_l
  intro w4 hs
  obtain ⟨hB_l, hs⟩ := hs
  have Fw4 := Fw3.trans (Turn.of_grown hs (by first | exact .inl rfl | exact .inr (by omega)))
  replace hB_e := hB_e.grown hs (by intro hk; injection hk with hk; have := hB_e.lt; have := hB_l.lt; omega)
  replace hB_r := hB_r.grown hs (by intro hk; injection hk with hk; have := hB_r.lt; have := hB_l.lt; omega)
  clear hs Fw3
  clear hc_e; have hc_e := hB_e.cell
  clear hc_r; have hc_r := hB_r.cell
  have hc_l := hB_l.cell
  repeat (first|(with_reducible first|apply Xa|apply Xb|apply Xc|apply Xd)|((with_reducible apply Xk);(focus rfl);(focus (simp [go_sem,effAt,↓IntWalk.iteOmega, *];(try go_ints);with_reducible first|exact Xm|exact Xn));focus (simp only [Xo,Xp,Xq,Xr,Xs];rfl))|((with_reducible apply Xl);(focus rfl);focus (simp only [Xo,Xp,Xq,Xr,Xs];rfl))|(with_reducible first|apply Xe|apply Xf|apply Xg|apply Xh)|((with_reducible apply Xi);focus first|rfl|(simp [go_sem, *];done))|((with_reducible apply Xj);focus first|rfl|(simp [go_sem, *];done))|(simp only [Exit.then,Exit.inBlock,↓reduceIte,Nat.reduceEqDiff]))
  have hf_r := hB_r.frozen
  ((with_reducible apply Xt (fun w' => Blk w' _ _ _ ∧ w4.grownBy w' (some _))); (focus rfl); (focus (simp [go_sem, effAt, *]; exact ⟨rfl, (((((hB_r.set_ 0 _).set_ 1 _).set_ 2 _).set_ 3 _).set_ 4 _), (grown_set (grown_set (grown_set (grown_set (grown_set (World.grownBy.refl _ _))))))⟩)); (focus ((simp only [Xo,Xp,Xq,Xr,Xs];rfl))))
  clear hf_r hc_r hB_r
  intro w5 hs
  obtain ⟨hB_r, hs⟩ := hs
  simp only [Xq,Xr,Xs] at hB_r
  have Fw5 := Fw4.trans (Turn.of_grown hs (by first | exact .inl rfl | exact .inr (by omega)))
  replace hB_l := hB_l.grown hs (by intro hk; injection hk with hk; have := hB_l.lt; have := hB_r.lt; omega)
  replace hB_e := hB_e.grown hs (by intro hk; injection hk with hk; have := hB_e.lt; have := hB_r.lt; omega)
  clear hs Fw4
  clear hc_l; have hc_l := hB_l.cell
  clear hc_e; have hc_e := hB_e.cell
  have hc_r := hB_r.cell
  repeat (first|(with_reducible first|apply Xa|apply Xb|apply Xc|apply Xd)|((with_reducible apply Xk);(focus rfl);(focus (simp [go_sem,effAt,↓IntWalk.iteOmega, *];(try go_ints);with_reducible first|exact Xm|exact Xn));focus (simp only [Xo,Xp,Xq,Xr,Xs];rfl))|((with_reducible apply Xl);(focus rfl);focus (simp only [Xo,Xp,Xq,Xr,Xs];rfl))|(with_reducible first|apply Xe|apply Xf|apply Xg|apply Xh)|((with_reducible apply Xi);focus first|rfl|(simp [go_sem, *];done))|((with_reducible apply Xj);focus first|rfl|(simp [go_sem, *];done))|(simp only [Exit.then,Exit.inBlock,↓reduceIte,Nat.reduceEqDiff]))
  refine bodyPost_ret (v := (actV k1 c1 p1 t1 f1)) (by simp [results, Try.results13, go_sem, *]) rfl ⟨rfl, hB_l, Turn.to_grown (by assumption)⟩
theorem ldoes_nil_1 (kd fr : Int) (pf cmd : Bool) (w : World) (hk : Fit kd) (hm : kd % 6 = 1)
    (hF : ∀ w, Calls Try.prog 20 #[.pointer none] w (Ret (actV 0 false false 0 0) (Below w.heap.size w))) :
    Calls Try.prog 13 #[.pointer none, .agg #[.int .i64 kd, .int .u8 fr, .bool pf, .bool cmd]] w (Ret (actV 0 false false 0 0) (Below w.heap.size w)) := by
  have hPi := pick_any kd 6 (by omega) hk
  rw [hm] at hPi
  clear hm hk
  go_enter Try.func13, Try.ntmps13
  have F0 : Below w.heap.size w w := Below.refl _ _
  repeat (first|(with_reducible first|apply Xa|apply Xb|apply Xc|apply Xd)|((with_reducible apply Xk);(focus rfl);(focus (simp [go_sem,effAt,↓IntWalk.iteOmega, *];(try go_ints);with_reducible first|exact Xm|exact Xn));focus (simp only [Xo,Xp,Xq,Xr,Xs];rfl))|((with_reducible apply Xl);(focus rfl);focus (simp only [Xo,Xp,Xq,Xr,Xs];rfl))|(with_reducible first|apply Xe|apply Xf|apply Xg|apply Xh)|((with_reducible apply Xi);focus first|rfl|(simp [go_sem, *];done))|((with_reducible apply Xj);focus first|rfl|(simp [go_sem, *];done))|(simp only [Exit.then,Exit.inBlock,↓reduceIte,Nat.reduceEqDiff]))
  ((with_reducible apply Xu); (focus rfl); (focus (simp [go_sem, effAt]; exact ⟨rfl, rfl⟩)); (focus ((simp only [Xo,Xp,Xq,Xr,Xs];rfl))))
  intro w1 hB_e hs
  have Fw1 := F0.trans (hs.mono F0.size)
  clear hs F0
  have hc_e := hB_e.cell
  repeat (first|(with_reducible first|apply Xa|apply Xb|apply Xc|apply Xd)|((with_reducible apply Xk);(focus rfl);(focus (simp [go_sem,effAt,↓IntWalk.iteOmega, *];(try go_ints);with_reducible first|exact Xm|exact Xn));focus (simp only [Xo,Xp,Xq,Xr,Xs];rfl))|((with_reducible apply Xl);(focus rfl);focus (simp only [Xo,Xp,Xq,Xr,Xs];rfl))|(with_reducible first|apply Xe|apply Xf|apply Xg|apply Xh)|((with_reducible apply Xi);focus first|rfl|(simp [go_sem, *];done))|((with_reducible apply Xj);focus first|rfl|(simp [go_sem, *];done))|(simp only [Exit.then,Exit.inBlock,↓reduceIte,Nat.reduceEqDiff]))
  have lt_e_r := hB_e.lt
  ((with_reducible apply Xu); (focus rfl); (focus (simp [go_sem, effAt]; exact ⟨rfl, rfl⟩)); (focus ((simp only [Xo,Xp,Xq,Xr,Xs];rfl))))
  intro w2 hB_r hs
  have Fw2 := Fw1.trans (hs.mono Fw1.size)
  replace hB_e := hB_e.below hs hB_e.lt
  clear hs Fw1
  clear hc_e; have hc_e := hB_e.cell
  have hc_r := hB_r.cell
  repeat (first|(with_reducible first|apply Xa|apply Xb|apply Xc|apply Xd)|((with_reducible apply Xk);(focus rfl);(focus (simp [go_sem,effAt,↓IntWalk.iteOmega, *];(try go_ints);with_reducible first|exact Xm|exact Xn));focus (simp only [Xo,Xp,Xq,Xr,Xs];rfl))|((with_reducible apply Xl);(focus rfl);focus (simp only [Xo,Xp,Xq,Xr,Xs];rfl))|(with_reducible first|apply Xe|apply Xf|apply Xg|apply Xh)|((with_reducible apply Xi);focus first|rfl|(simp [go_sem, *];done))|((with_reducible apply Xj);focus first|rfl|(simp [go_sem, *];done))|(simp only [Exit.then,Exit.inBlock,↓reduceIte,Nat.reduceEqDiff]))
  ((with_reducible apply Xt (Below w2.heap.size w2)); (focus rfl); (focus (simp only [effAt]; simp [go_sem]; (with_reducible exact effUpon_enter (hPi _)))); (focus ((simp only [Xo,Xp,Xq,Xr,Xs];rfl))))
  intro w3 hs
  have Fw3 := Fw2.trans (hs.mono Fw2.size)
  replace hB_e := hB_e.below hs hB_e.lt
  replace hB_r := hB_r.below hs hB_r.lt
  clear hs Fw2
  clear hc_e; have hc_e := hB_e.cell
  clear hc_r; have hc_r := hB_r.cell
  repeat (first|(with_reducible first|apply Xa|apply Xb|apply Xc|apply Xd)|((with_reducible apply Xk);(focus rfl);(focus (simp [go_sem,effAt,↓IntWalk.iteOmega, *];(try go_ints);with_reducible first|exact Xm|exact Xn));focus (simp only [Xo,Xp,Xq,Xr,Xs];rfl))|((with_reducible apply Xl);(focus rfl);focus (simp only [Xo,Xp,Xq,Xr,Xs];rfl))|(with_reducible first|apply Xe|apply Xf|apply Xg|apply Xh)|((with_reducible apply Xi);focus first|rfl|(simp [go_sem, *];done))|((with_reducible apply Xj);focus first|rfl|(simp [go_sem, *];done))|(simp only [Exit.then,Exit.inBlock,↓reduceIte,Nat.reduceEqDiff]))
  ((with_reducible apply Xt (Below w3.heap.size w3)); (focus rfl); (focus (simp only [effAt]; simp [go_sem]; (with_reducible exact effUpon_enter (hF _)))); (focus ((simp only [Xo,Xp,Xq,Xr,Xs];rfl))))
  intro w4 hs
  have Fw4 := Fw3.trans (hs.mono Fw3.size)
  replace hB_e := hB_e.below hs hB_e.lt
  replace hB_r := hB_r.below hs hB_r.lt
  clear hs Fw3
  clear hc_e; have hc_e := hB_e.cell
  clear hc_r; have hc_r := hB_r.cell
  repeat (first|(with_reducible first|apply Xa|apply Xb|apply Xc|apply Xd)|((with_reducible apply Xk);(focus rfl);(focus (simp [go_sem,effAt,↓IntWalk.iteOmega, *];(try go_ints);with_reducible first|exact Xm|exact Xn));focus (simp only [Xo,Xp,Xq,Xr,Xs];rfl))|((with_reducible apply Xl);(focus rfl);focus (simp only [Xo,Xp,Xq,Xr,Xs];rfl))|(with_reducible first|apply Xe|apply Xf|apply Xg|apply Xh)|((with_reducible apply Xi);focus first|rfl|(simp [go_sem, *];done))|((with_reducible apply Xj);focus first|rfl|(simp [go_sem, *];done))|(simp only [Exit.then,Exit.inBlock,↓reduceIte,Nat.reduceEqDiff]))
  have hf_r := hB_r.frozen
  ((with_reducible apply Xt (fun w' => Blk w' _ _ _ ∧ w4.grownBy w' (some _))); (focus rfl); (focus (simp [go_sem, effAt, *]; exact ⟨rfl, (((((hB_r.set_ 0 _).set_ 1 _).set_ 2 _).set_ 3 _).set_ 4 _), (grown_set (grown_set (grown_set (grown_set (grown_set (World.grownBy.refl _ _))))))⟩)); (focus ((simp only [Xo,Xp,Xq,Xr,Xs];rfl))))
  clear hf_r hc_r hB_r
  intro w5 hs
  obtain ⟨hB_r, hs⟩ := hs
  simp only [Xq,Xr,Xs] at hB_r
  have Fw5 := Fw4.grown hs Fw4.size (by intro k hk; first | (injection hk with hk; subst hk; first | exact Nat.le_refl _ | exact Fw4.size | omega) | omega)
  replace hB_e := hB_e.grown hs (by intro hk; injection hk with hk; have := hB_e.lt; have := hB_r.lt; omega)
  clear hs Fw4
  clear hc_e; have hc_e := hB_e.cell
  have hc_r := hB_r.cell
  repeat (first|(with_reducible first|apply Xa|apply Xb|apply Xc|apply Xd)|((with_reducible apply Xk);(focus rfl);(focus (simp [go_sem,effAt,↓IntWalk.iteOmega, *];(try go_ints);with_reducible first|exact Xm|exact Xn));focus (simp only [Xo,Xp,Xq,Xr,Xs];rfl))|((with_reducible apply Xl);(focus rfl);focus (simp only [Xo,Xp,Xq,Xr,Xs];rfl))|(with_reducible first|apply Xe|apply Xf|apply Xg|apply Xh)|((with_reducible apply Xi);focus first|rfl|(simp [go_sem, *];done))|((with_reducible apply Xj);focus first|rfl|(simp [go_sem, *];done))|(simp only [Exit.then,Exit.inBlock,↓reduceIte,Nat.reduceEqDiff]))
  refine bodyPost_ret (v := (actV 0 false false 0 0)) (by simp [results, Try.results13, go_sem, *]) rfl ⟨rfl, by assumption⟩
theorem ldoes_2 (g : Nat) (s : Int) (ls : Bool) (tr mo : Int) (kd fr : Int) (pf cmd : Bool) {s2 tr2 mo2 k1 t1 f1 : Int} {c1 p1 ls2 : Bool} (w : World) (hB_l : LB w g s ls tr mo) (hk : Fit kd) (hm : kd % 6 = 2)
    (hF : ∀ w, LB w g s ls tr mo → Calls Try.prog 22 #[.pointer (some ⟨g, 0, none⟩)] w (Ret (actV k1 c1 p1 t1 f1) (fun w' => LB w' g s2 ls2 tr2 mo2 ∧ w.grownBy w' (some g)))) :
    Calls Try.prog 13 #[.pointer (some ⟨g, 0, none⟩), .agg #[.int .i64 kd, .int .u8 fr, .bool pf, .bool cmd]] w (Ret (actV k1 c1 p1 t1 f1) (fun w' => LB w' g s2 ls2 tr2 mo2 ∧ w.grownBy w' (some g))) := by
  have hPi := pick_any kd 6 (by omega) hk
  rw [hm] at hPi
  clear hm hk
  unfold LB at *
  go_enter Try.func13, Try.ntmps13
  have F0 : Turn (fun i => i = g ∨ w.heap.size ≤ i) w w := Turn.refl _
  have hc_l := hB_l.cell
  repeat (first|(with_reducible first|apply Xa|apply Xb|apply Xc|apply Xd)|((with_reducible apply Xk);(focus rfl);(focus (simp [go_sem,effAt,↓IntWalk.iteOmega, *];(try go_ints);with_reducible first|exact Xm|exact Xn));focus (simp only [Xo,Xp,Xq,Xr,Xs];rfl))|((with_reducible apply Xl);(focus rfl);focus (simp only [Xo,Xp,Xq,Xr,Xs];rfl))|(with_reducible first|apply Xe|apply Xf|apply Xg|apply Xh)|((with_reducible apply Xi);focus first|rfl|(simp [go_sem, *];done))|((with_reducible apply Xj);focus first|rfl|(simp [go_sem, *];done))|(simp only [Exit.then,Exit.inBlock,↓reduceIte,Nat.reduceEqDiff]))
  have lt_l_e := hB_l.lt
  have le_e := F0.size
  ((with_reducible apply Xu); (focus rfl); (focus (simp [go_sem, effAt]; exact ⟨rfl, rfl⟩)); (focus ((simp only [Xo,Xp,Xq,Xr,Xs];rfl))))
  intro w1 hB_e hs
  have Fw1 := F0.trans (Turn.of_below hs)
  replace hB_l := hB_l.below hs hB_l.lt
  clear hs F0
  clear hc_l; have hc_l := hB_l.cell
  have hc_e := hB_e.cell
  repeat (first|(with_reducible first|apply Xa|apply Xb|apply Xc|apply Xd)|((with_reducible apply Xk);(focus rfl);(focus (simp [go_sem,effAt,↓IntWalk.iteOmega, *];(try go_ints);with_reducible first|exact Xm|exact Xn));focus (simp only [Xo,Xp,Xq,Xr,Xs];rfl))|((with_reducible apply Xl);(focus rfl);focus (simp only [Xo,Xp,Xq,Xr,Xs];rfl))|(with_reducible first|apply Xe|apply Xf|apply Xg|apply Xh)|((with_reducible apply Xi);focus first|rfl|(simp [go_sem, *];done))|((with_reducible apply Xj);focus first|rfl|(simp [go_sem, *];done))|(simp only [Exit.then,Exit.inBlock,↓reduceIte,Nat.reduceEqDiff]))
  have lt_l_r := hB_l.lt
  have lt_e_r := hB_e.lt
  have le_r := Fw1.size
  ((with_reducible apply Xu); (focus rfl); (focus (simp [go_sem, effAt]; exact ⟨rfl, rfl⟩)); (focus ((simp only [Xo,Xp,Xq,Xr,Xs];rfl))))
  intro w2 hB_r hs
  have Fw2 := Fw1.trans (Turn.of_below hs)
  replace hB_l := hB_l.below hs hB_l.lt
  replace hB_e := hB_e.below hs hB_e.lt
  clear hs Fw1
  clear hc_l; have hc_l := hB_l.cell
  clear hc_e; have hc_e := hB_e.cell
  have hc_r := hB_r.cell
  repeat (first|(with_reducible first|apply Xa|apply Xb|apply Xc|apply Xd)|((with_reducible apply Xk);(focus rfl);(focus (simp [go_sem,effAt,↓IntWalk.iteOmega, *];(try go_ints);with_reducible first|exact Xm|exact Xn));focus (simp only [Xo,Xp,Xq,Xr,Xs];rfl))|((with_reducible apply Xl);(focus rfl);focus (simp only [Xo,Xp,Xq,Xr,Xs];rfl))|(with_reducible first|apply Xe|apply Xf|apply Xg|apply Xh)|((with_reducible apply Xi);focus first|rfl|(simp [go_sem, *];done))|((with_reducible apply Xj);focus first|rfl|(simp [go_sem, *];done))|(simp only [Exit.then,Exit.inBlock,↓reduceIte,Nat.reduceEqDiff]))
  ((with_reducible apply Xt (Below w2.heap.size w2)); (focus rfl); (focus (simp only [effAt]; simp [go_sem]; (with_reducible exact effUpon_enter (hPi _)))); (focus ((simp only [Xo,Xp,Xq,Xr,Xs];rfl))))
  intro w3 hs
  have Fw3 := Fw2.trans (Turn.of_below hs)
  replace hB_l := hB_l.below hs hB_l.lt
  replace hB_e := hB_e.below hs hB_e.lt
  replace hB_r := hB_r.below hs hB_r.lt
  clear hs Fw2
  clear hc_l; have hc_l := hB_l.cell
  clear hc_e; have hc_e := hB_e.cell
  clear hc_r; have hc_r := hB_r.cell
  repeat (first|(with_reducible first|apply Xa|apply Xb|apply Xc|apply Xd)|((with_reducible apply Xk);(focus rfl);(focus (simp [go_sem,effAt,↓IntWalk.iteOmega, *];(try go_ints);with_reducible first|exact Xm|exact Xn));focus (simp only [Xo,Xp,Xq,Xr,Xs];rfl))|((with_reducible apply Xl);(focus rfl);focus (simp only [Xo,Xp,Xq,Xr,Xs];rfl))|(with_reducible first|apply Xe|apply Xf|apply Xg|apply Xh)|((with_reducible apply Xi);focus first|rfl|(simp [go_sem, *];done))|((with_reducible apply Xj);focus first|rfl|(simp [go_sem, *];done))|(simp only [Exit.then,Exit.inBlock,↓reduceIte,Nat.reduceEqDiff]))
  ((with_reducible apply Xt (fun w' => Blk w' _ _ _ ∧ w3.grownBy w' (some _))); (focus rfl); (focus (simp only [effAt]; simp [go_sem]; (with_reducible exact effUpon_enter (hF _ hB_l)))); (focus ((simp only [Xo,Xp,Xq,Xr,Xs];rfl))))
  clear hc_l hB_l
  intro w4 hs
  obtain ⟨hB_l, hs⟩ := hs
  have Fw4 := Fw3.trans (Turn.of_grown hs (by first | exact .inl rfl | exact .inr (by omega)))
  replace hB_e := hB_e.grown hs (by intro hk; injection hk with hk; have := hB_e.lt; have := hB_l.lt; omega)
  replace hB_r := hB_r.grown hs (by intro hk; injection hk with hk; have := hB_r.lt; have := hB_l.lt; omega)
  clear hs Fw3
  clear hc_e; have hc_e := hB_e.cell
  clear hc_r; have hc_r := hB_r.cell
  have hc_l := hB_l.cell
  repeat (first|(with_reducible first|apply Xa|apply Xb|apply Xc|apply Xd)|((with_reducible apply Xk);(focus rfl);(focus (simp [go_sem,effAt,↓IntWalk.iteOmega, *];(try go_ints);with_reducible first|exact Xm|exact Xn));focus (simp only [Xo,Xp,Xq,Xr,Xs];rfl))|((with_reducible apply Xl);(focus rfl);focus (simp only [Xo,Xp,Xq,Xr,Xs];rfl))|(with_reducible first|apply Xe|apply Xf|apply Xg|apply Xh)|((with_reducible apply Xi);focus first|rfl|(simp [go_sem, *];done))|((with_reducible apply Xj);focus first|rfl|(simp [go_sem, *];done))|(simp only [Exit.then,Exit.inBlock,↓reduceIte,Nat.reduceEqDiff]))
  have hf_r := hB_r.frozen
  ((with_reducible apply Xt (fun w' => Blk w' _ _ _ ∧ w4.grownBy w' (some _))); (focus rfl); (focus (simp [go_sem, effAt, *]; exact ⟨rfl, (((((hB_r.set_ 0 _).set_ 1 _).set_ 2 _).set_ 3 _).set_ 4 _), (grown_set (grown_set (grown_set (grown_set (grown_set (World.grownBy.refl _ _))))))⟩)); (focus ((simp only [Xo,Xp,Xq,Xr,Xs];rfl))))
  clear hf_r hc_r hB_r
  intro w5 hs
  obtain ⟨hB_r, hs⟩ := hs
  simp only [Xq,Xr,Xs] at hB_r
  have Fw5 := Fw4.trans (Turn.of_grown hs (by first | exact .inl rfl | exact .inr (by omega)))
  replace hB_l := hB_l.grown hs (by intro hk; injection hk with hk; have := hB_l.lt; have := hB_r.lt; omega)
  replace hB_e := hB_e.grown hs (by intro hk; injection hk with hk; have := hB_e.lt; have := hB_r.lt; omega)
  clear hs Fw4
  clear hc_l; have hc_l := hB_l.cell
  clear hc_e; have hc_e := hB_e.cell
  have hc_r := hB_r.cell
  repeat (first|(with_reducible first|apply Xa|apply Xb|apply Xc|apply Xd)|((with_reducible apply Xk);(focus rfl);(focus (simp [go_sem,effAt,↓IntWalk.iteOmega, *];(try go_ints);with_reducible first|exact Xm|exact Xn));focus (simp only [Xo,Xp,Xq,Xr,Xs];rfl))|((with_reducible apply Xl);(focus rfl);focus (simp only [Xo,Xp,Xq,Xr,Xs];rfl))|(with_reducible first|apply Xe|apply Xf|apply Xg|apply Xh)|((with_reducible apply Xi);focus first|rfl|(simp [go_sem, *];done))|((with_reducible apply Xj);focus first|rfl|(simp [go_sem, *];done))|(simp only [Exit.then,Exit.inBlock,↓reduceIte,Nat.reduceEqDiff]))
  refine bodyPost_ret (v := (actV k1 c1 p1 t1 f1)) (by simp [results, Try.results13, go_sem, *]) rfl ⟨rfl, hB_l, Turn.to_grown (by assumption)⟩
theorem ldoes_nil_2 (kd fr : Int) (pf cmd : Bool) (w : World) (hk : Fit kd) (hm : kd % 6 = 2)
    (hF : ∀ w, Calls Try.prog 22 #[.pointer none] w (Ret (actV 0 false false 0 0) (Below w.heap.size w))) :
    Calls Try.prog 13 #[.pointer none, .agg #[.int .i64 kd, .int .u8 fr, .bool pf, .bool cmd]] w (Ret (actV 0 false false 0 0) (Below w.heap.size w)) := by
  have hPi := pick_any kd 6 (by omega) hk
  rw [hm] at hPi
  clear hm hk
  go_enter Try.func13, Try.ntmps13
  have F0 : Below w.heap.size w w := Below.refl _ _
  repeat (first|(with_reducible first|apply Xa|apply Xb|apply Xc|apply Xd)|((with_reducible apply Xk);(focus rfl);(focus (simp [go_sem,effAt,↓IntWalk.iteOmega, *];(try go_ints);with_reducible first|exact Xm|exact Xn));focus (simp only [Xo,Xp,Xq,Xr,Xs];rfl))|((with_reducible apply Xl);(focus rfl);focus (simp only [Xo,Xp,Xq,Xr,Xs];rfl))|(with_reducible first|apply Xe|apply Xf|apply Xg|apply Xh)|((with_reducible apply Xi);focus first|rfl|(simp [go_sem, *];done))|((with_reducible apply Xj);focus first|rfl|(simp [go_sem, *];done))|(simp only [Exit.then,Exit.inBlock,↓reduceIte,Nat.reduceEqDiff]))
  ((with_reducible apply Xu); (focus rfl); (focus (simp [go_sem, effAt]; exact ⟨rfl, rfl⟩)); (focus ((simp only [Xo,Xp,Xq,Xr,Xs];rfl))))
  intro w1 hB_e hs
  have Fw1 := F0.trans (hs.mono F0.size)
  clear hs F0
  have hc_e := hB_e.cell
  repeat (first|(with_reducible first|apply Xa|apply Xb|apply Xc|apply Xd)|((with_reducible apply Xk);(focus rfl);(focus (simp [go_sem,effAt,↓IntWalk.iteOmega, *];(try go_ints);with_reducible first|exact Xm|exact Xn));focus (simp only [Xo,Xp,Xq,Xr,Xs];rfl))|((with_reducible apply Xl);(focus rfl);focus (simp only [Xo,Xp,Xq,Xr,Xs];rfl))|(with_reducible first|apply Xe|apply Xf|apply Xg|apply Xh)|((with_reducible apply Xi);focus first|rfl|(simp [go_sem, *];done))|((with_reducible apply Xj);focus first|rfl|(simp [go_sem, *];done))|(simp only [Exit.then,Exit.inBlock,↓reduceIte,Nat.reduceEqDiff]))
  have lt_e_r := hB_e.lt
  ((with_reducible apply Xu); (focus rfl); (focus (simp [go_sem, effAt]; exact ⟨rfl, rfl⟩)); (focus ((simp only [Xo,Xp,Xq,Xr,Xs];rfl))))
  intro w2 hB_r hs
  have Fw2 := Fw1.trans (hs.mono Fw1.size)
  replace hB_e := hB_e.below hs hB_e.lt
  clear hs Fw1
  clear hc_e; have hc_e := hB_e.cell
  have hc_r := hB_r.cell
  repeat (first|(with_reducible first|apply Xa|apply Xb|apply Xc|apply Xd)|((with_reducible apply Xk);(focus rfl);(focus (simp [go_sem,effAt,↓IntWalk.iteOmega, *];(try go_ints);with_reducible first|exact Xm|exact Xn));focus (simp only [Xo,Xp,Xq,Xr,Xs];rfl))|((with_reducible apply Xl);(focus rfl);focus (simp only [Xo,Xp,Xq,Xr,Xs];rfl))|(with_reducible first|apply Xe|apply Xf|apply Xg|apply Xh)|((with_reducible apply Xi);focus first|rfl|(simp [go_sem, *];done))|((with_reducible apply Xj);focus first|rfl|(simp [go_sem, *];done))|(simp only [Exit.then,Exit.inBlock,↓reduceIte,Nat.reduceEqDiff]))
  ((with_reducible apply Xt (Below w2.heap.size w2)); (focus rfl); (focus (simp only [effAt]; simp [go_sem]; (with_reducible exact effUpon_enter (hPi _)))); (focus ((simp only [Xo,Xp,Xq,Xr,Xs];rfl))))
  intro w3 hs
  have Fw3 := Fw2.trans (hs.mono Fw2.size)
  replace hB_e := hB_e.below hs hB_e.lt
  replace hB_r := hB_r.below hs hB_r.lt
  clear hs Fw2
  clear hc_e; have hc_e := hB_e.cell
  clear hc_r; have hc_r := hB_r.cell
  repeat (first|(with_reducible first|apply Xa|apply Xb|apply Xc|apply Xd)|((with_reducible apply Xk);(focus rfl);(focus (simp [go_sem,effAt,↓IntWalk.iteOmega, *];(try go_ints);with_reducible first|exact Xm|exact Xn));focus (simp only [Xo,Xp,Xq,Xr,Xs];rfl))|((with_reducible apply Xl);(focus rfl);focus (simp only [Xo,Xp,Xq,Xr,Xs];rfl))|(with_reducible first|apply Xe|apply Xf|apply Xg|apply Xh)|((with_reducible apply Xi);focus first|rfl|(simp [go_sem, *];done))|((with_reducible apply Xj);focus first|rfl|(simp [go_sem, *];done))|(simp only [Exit.then,Exit.inBlock,↓reduceIte,Nat.reduceEqDiff]))
  ((with_reducible apply Xt (Below w3.heap.size w3)); (focus rfl); (focus (simp only [effAt]; simp [go_sem]; (with_reducible exact effUpon_enter (hF _)))); (focus ((simp only [Xo,Xp,Xq,Xr,Xs];rfl))))
  intro w4 hs
  have Fw4 := Fw3.trans (hs.mono Fw3.size)
  replace hB_e := hB_e.below hs hB_e.lt
  replace hB_r := hB_r.below hs hB_r.lt
  clear hs Fw3
  clear hc_e; have hc_e := hB_e.cell
  clear hc_r; have hc_r := hB_r.cell
  repeat (first|(with_reducible first|apply Xa|apply Xb|apply Xc|apply Xd)|((with_reducible apply Xk);(focus rfl);(focus (simp [go_sem,effAt,↓IntWalk.iteOmega, *];(try go_ints);with_reducible first|exact Xm|exact Xn));focus (simp only [Xo,Xp,Xq,Xr,Xs];rfl))|((with_reducible apply Xl);(focus rfl);focus (simp only [Xo,Xp,Xq,Xr,Xs];rfl))|(with_reducible first|apply Xe|apply Xf|apply Xg|apply Xh)|((with_reducible apply Xi);focus first|rfl|(simp [go_sem, *];done))|((with_reducible apply Xj);focus first|rfl|(simp [go_sem, *];done))|(simp only [Exit.then,Exit.inBlock,↓reduceIte,Nat.reduceEqDiff]))
  have hf_r := hB_r.frozen
  ((with_reducible apply Xt (fun w' => Blk w' _ _ _ ∧ w4.grownBy w' (some _))); (focus rfl); (focus (simp [go_sem, effAt, *]; exact ⟨rfl, (((((hB_r.set_ 0 _).set_ 1 _).set_ 2 _).set_ 3 _).set_ 4 _), (grown_set (grown_set (grown_set (grown_set (grown_set (World.grownBy.refl _ _))))))⟩)); (focus ((simp only [Xo,Xp,Xq,Xr,Xs];rfl))))
  clear hf_r hc_r hB_r
  intro w5 hs
  obtain ⟨hB_r, hs⟩ := hs
  simp only [Xq,Xr,Xs] at hB_r
  have Fw5 := Fw4.grown hs Fw4.size (by intro k hk; first | (injection hk with hk; subst hk; first | exact Nat.le_refl _ | exact Fw4.size | omega) | omega)
  replace hB_e := hB_e.grown hs (by intro hk; injection hk with hk; have := hB_e.lt; have := hB_r.lt; omega)
  clear hs Fw4
  clear hc_e; have hc_e := hB_e.cell
  have hc_r := hB_r.cell
  repeat (first|(with_reducible first|apply Xa|apply Xb|apply Xc|apply Xd)|((with_reducible apply Xk);(focus rfl);(focus (simp [go_sem,effAt,↓IntWalk.iteOmega, *];(try go_ints);with_reducible first|exact Xm|exact Xn));focus (simp only [Xo,Xp,Xq,Xr,Xs];rfl))|((with_reducible apply Xl);(focus rfl);focus (simp only [Xo,Xp,Xq,Xr,Xs];rfl))|(with_reducible first|apply Xe|apply Xf|apply Xg|apply Xh)|((with_reducible apply Xi);focus first|rfl|(simp [go_sem, *];done))|((with_reducible apply Xj);focus first|rfl|(simp [go_sem, *];done))|(simp only [Exit.then,Exit.inBlock,↓reduceIte,Nat.reduceEqDiff]))
  refine bodyPost_ret (v := (actV 0 false false 0 0)) (by simp [results, Try.results13, go_sem, *]) rfl ⟨rfl, by assumption⟩
theorem ldoes_3 (g : Nat) (s : Int) (ls : Bool) (tr mo : Int) (kd fr : Int) (pf cmd : Bool) {s2 tr2 mo2 k1 t1 f1 : Int} {c1 p1 ls2 : Bool} (w : World) (hB_l : LB w g s ls tr mo) (hk : Fit kd) (hm : kd % 6 = 3)
    (hF : ∀ w, LB w g s ls tr mo → Calls Try.prog 16 #[.pointer (some ⟨g, 0, none⟩), .bool pf] w (Ret (.tuple #[]) (fun w' => LB w' g s2 ls2 tr2 mo2 ∧ w.grownBy w' (some g)))) :
    Calls Try.prog 13 #[.pointer (some ⟨g, 0, none⟩), .agg #[.int .i64 kd, .int .u8 fr, .bool pf, .bool cmd]] w (Ret (actV 0 false false 0 0) (fun w' => LB w' g s2 ls2 tr2 mo2 ∧ w.grownBy w' (some g))) := by
  have hPi := pick_any kd 6 (by omega) hk
  rw [hm] at hPi
  clear hm hk
  unfold LB at *
  go_enter Try.func13, Try.ntmps13
  have F0 : Turn (fun i => i = g ∨ w.heap.size ≤ i) w w := Turn.refl _
  have hc_l := hB_l.cell
  repeat (first|(with_reducible first|apply Xa|apply Xb|apply Xc|apply Xd)|((with_reducible apply Xk);(focus rfl);(focus (simp [go_sem,effAt,↓IntWalk.iteOmega, *];(try go_ints);with_reducible first|exact Xm|exact Xn));focus (simp only [Xo,Xp,Xq,Xr,Xs];rfl))|((with_reducible apply Xl);(focus rfl);focus (simp only [Xo,Xp,Xq,Xr,Xs];rfl))|(with_reducible first|apply Xe|apply Xf|apply Xg|apply Xh)|((with_reducible apply Xi);focus first|rfl|(simp [go_sem, *];done))|((with_reducible apply Xj);focus first|rfl|(simp [go_sem, *];done))|(simp only [Exit.then,Exit.inBlock,↓reduceIte,Nat.reduceEqDiff]))
  have lt_l_e := hB_l.lt
  have le_e := F0.size
  ((with_reducible apply Xu); (focus rfl); (focus (simp [go_sem, effAt]; exact ⟨rfl, rfl⟩)); (focus ((simp only [Xo,Xp,Xq,Xr,Xs];rfl))))
  intro w1 hB_e hs
  have Fw1 := F0.trans (Turn.of_below hs)
  replace hB_l := hB_l.below hs hB_l.lt
  clear hs F0
  clear hc_l; have hc_l := hB_l.cell
  have hc_e := hB_e.cell
  repeat (first|(with_reducible first|apply Xa|apply Xb|apply Xc|apply Xd)|((with_reducible apply Xk);(focus rfl);(focus (simp [go_sem,effAt,↓IntWalk.iteOmega, *];(try go_ints);with_reducible first|exact Xm|exact Xn));focus (simp only [Xo,Xp,Xq,Xr,Xs];rfl))|((with_reducible apply Xl);(focus rfl);focus (simp only [Xo,Xp,Xq,Xr,Xs];rfl))|(with_reducible first|apply Xe|apply Xf|apply Xg|apply Xh)|((with_reducible apply Xi);focus first|rfl|(simp [go_sem, *];done))|((with_reducible apply Xj);focus first|rfl|(simp [go_sem, *];done))|(simp only [Exit.then,Exit.inBlock,↓reduceIte,Nat.reduceEqDiff]))
  have lt_l_r := hB_l.lt
  have lt_e_r := hB_e.lt
  have le_r := Fw1.size
  ((with_reducible apply Xu); (focus rfl); (focus (simp [go_sem, effAt]; exact ⟨rfl, rfl⟩)); (focus ((simp only [Xo,Xp,Xq,Xr,Xs];rfl))))
  intro w2 hB_r hs
  have Fw2 := Fw1.trans (Turn.of_below hs)
  replace hB_l := hB_l.below hs hB_l.lt
  replace hB_e := hB_e.below hs hB_e.lt
  clear hs Fw1
  clear hc_l; have hc_l := hB_l.cell
  clear hc_e; have hc_e := hB_e.cell
  have hc_r := hB_r.cell
  repeat (first|(with_reducible first|apply Xa|apply Xb|apply Xc|apply Xd)|((with_reducible apply Xk);(focus rfl);(focus (simp [go_sem,effAt,↓IntWalk.iteOmega, *];(try go_ints);with_reducible first|exact Xm|exact Xn));focus (simp only [Xo,Xp,Xq,Xr,Xs];rfl))|((with_reducible apply Xl);(focus rfl);focus (simp only [Xo,Xp,Xq,Xr,Xs];rfl))|(with_reducible first|apply Xe|apply Xf|apply Xg|apply Xh)|((with_reducible apply Xi);focus first|rfl|(simp [go_sem, *];done))|((with_reducible apply Xj);focus first|rfl|(simp [go_sem, *];done))|(simp only [Exit.then,Exit.inBlock,↓reduceIte,Nat.reduceEqDiff]))
  ((with_reducible apply Xt (Below w2.heap.size w2)); (focus rfl); (focus (simp only [effAt]; simp [go_sem]; (with_reducible exact effUpon_enter (hPi _)))); (focus ((simp only [Xo,Xp,Xq,Xr,Xs];rfl))))
  intro w3 hs
  have Fw3 := Fw2.trans (Turn.of_below hs)
  replace hB_l := hB_l.below hs hB_l.lt
  replace hB_e := hB_e.below hs hB_e.lt
  replace hB_r := hB_r.below hs hB_r.lt
  clear hs Fw2
  clear hc_l; have hc_l := hB_l.cell
  clear hc_e; have hc_e := hB_e.cell
  clear hc_r; have hc_r := hB_r.cell
  repeat (first|(with_reducible first|apply Xa|apply Xb|apply Xc|apply Xd)|((with_reducible apply Xk);(focus rfl);(focus (simp [go_sem,effAt,↓IntWalk.iteOmega, *];(try go_ints);with_reducible first|exact Xm|exact Xn));focus (simp only [Xo,Xp,Xq,Xr,Xs];rfl))|((with_reducible apply Xl);(focus rfl);focus (simp only [Xo,Xp,Xq,Xr,Xs];rfl))|(with_reducible first|apply Xe|apply Xf|apply Xg|apply Xh)|((with_reducible apply Xi);focus first|rfl|(simp [go_sem, *];done))|((with_reducible apply Xj);focus first|rfl|(simp [go_sem, *];done))|(simp only [Exit.then,Exit.inBlock,↓reduceIte,Nat.reduceEqDiff]))
  ((with_reducible apply Xt (fun w' => Blk w' _ _ _ ∧ w3.grownBy w' (some _))); (focus rfl); (focus (simp only [effAt]; simp [go_sem]; (with_reducible exact effUpon_enter (hF _ hB_l)))); (focus ((simp only [Xo,Xp,Xq,Xr,Xs];rfl))))
  clear hc_l hB_l
  intro w4 hs
  obtain ⟨hB_l, hs⟩ := hs
  have Fw4 := Fw3.trans (Turn.of_grown hs (by first | exact .inl rfl | exact .inr (by omega)))
  replace hB_e := hB_e.grown hs (by intro hk; injection hk with hk; have := hB_e.lt; have := hB_l.lt; omega)
  replace hB_r := hB_r.grown hs (by intro hk; injection hk with hk; have := hB_r.lt; have := hB_l.lt; omega)
  clear hs Fw3
  clear hc_e; have hc_e := hB_e.cell
  clear hc_r; have hc_r := hB_r.cell
  have hc_l := hB_l.cell
  repeat (first|(with_reducible first|apply Xa|apply Xb|apply Xc|apply Xd)|((with_reducible apply Xk);(focus rfl);(focus (simp [go_sem,effAt,↓IntWalk.iteOmega, *];(try go_ints);with_reducible first|exact Xm|exact Xn));focus (simp only [Xo,Xp,Xq,Xr,Xs];rfl))|((with_reducible apply Xl);(focus rfl);focus (simp only [Xo,Xp,Xq,Xr,Xs];rfl))|(with_reducible first|apply Xe|apply Xf|apply Xg|apply Xh)|((with_reducible apply Xi);focus first|rfl|(simp [go_sem, *];done))|((with_reducible apply Xj);focus first|rfl|(simp [go_sem, *];done))|(simp only [Exit.then,Exit.inBlock,↓reduceIte,Nat.reduceEqDiff]))
  have hf_r := hB_r.frozen
  ((with_reducible apply Xt (fun w' => Blk w' _ _ _ ∧ w4.grownBy w' (some _))); (focus rfl); (focus (simp [go_sem, effAt, *]; exact ⟨rfl, (((((hB_r.set_ 0 _).set_ 1 _).set_ 2 _).set_ 3 _).set_ 4 _), (grown_set (grown_set (grown_set (grown_set (grown_set (World.grownBy.refl _ _))))))⟩)); (focus ((simp only [Xo,Xp,Xq,Xr,Xs];rfl))))
  clear hf_r hc_r hB_r
  intro w5 hs
  obtain ⟨hB_r, hs⟩ := hs
  simp only [Xq,Xr,Xs] at hB_r
  have Fw5 := Fw4.trans (Turn.of_grown hs (by first | exact .inl rfl | exact .inr (by omega)))
  replace hB_l := hB_l.grown hs (by intro hk; injection hk with hk; have := hB_l.lt; have := hB_r.lt; omega)
  replace hB_e := hB_e.grown hs (by intro hk; injection hk with hk; have := hB_e.lt; have := hB_r.lt; omega)
  clear hs Fw4
  clear hc_l; have hc_l := hB_l.cell
  clear hc_e; have hc_e := hB_e.cell
  have hc_r := hB_r.cell
  repeat (first|(with_reducible first|apply Xa|apply Xb|apply Xc|apply Xd)|((with_reducible apply Xk);(focus rfl);(focus (simp [go_sem,effAt,↓IntWalk.iteOmega, *];(try go_ints);with_reducible first|exact Xm|exact Xn));focus (simp only [Xo,Xp,Xq,Xr,Xs];rfl))|((with_reducible apply Xl);(focus rfl);focus (simp only [Xo,Xp,Xq,Xr,Xs];rfl))|(with_reducible first|apply Xe|apply Xf|apply Xg|apply Xh)|((with_reducible apply Xi);focus first|rfl|(simp [go_sem, *];done))|((with_reducible apply Xj);focus first|rfl|(simp [go_sem, *];done))|(simp only [Exit.then,Exit.inBlock,↓reduceIte,Nat.reduceEqDiff]))
  refine bodyPost_ret (v := (actV 0 false false 0 0)) (by simp [results, Try.results13, go_sem, *]) rfl ⟨rfl, hB_l, Turn.to_grown (by assumption)⟩
theorem ldoes_nil_3 (kd fr : Int) (pf cmd : Bool) (w : World) (hk : Fit kd) (hm : kd % 6 = 3)
    (hF : ∀ w, Calls Try.prog 16 #[.pointer none, .bool pf] w (Ret (.tuple #[]) (Below w.heap.size w))) :
    Calls Try.prog 13 #[.pointer none, .agg #[.int .i64 kd, .int .u8 fr, .bool pf, .bool cmd]] w (Ret (actV 0 false false 0 0) (Below w.heap.size w)) := by
  have hPi := pick_any kd 6 (by omega) hk
  rw [hm] at hPi
  clear hm hk
  go_enter Try.func13, Try.ntmps13
  have F0 : Below w.heap.size w w := Below.refl _ _
  repeat (first|(with_reducible first|apply Xa|apply Xb|apply Xc|apply Xd)|((with_reducible apply Xk);(focus rfl);(focus (simp [go_sem,effAt,↓IntWalk.iteOmega, *];(try go_ints);with_reducible first|exact Xm|exact Xn));focus (simp only [Xo,Xp,Xq,Xr,Xs];rfl))|((with_reducible apply Xl);(focus rfl);focus (simp only [Xo,Xp,Xq,Xr,Xs];rfl))|(with_reducible first|apply Xe|apply Xf|apply Xg|apply Xh)|((with_reducible apply Xi);focus first|rfl|(simp [go_sem, *];done))|((with_reducible apply Xj);focus first|rfl|(simp [go_sem, *];done))|(simp only [Exit.then,Exit.inBlock,↓reduceIte,Nat.reduceEqDiff]))
  ((with_reducible apply Xu); (focus rfl); (focus (simp [go_sem, effAt]; exact ⟨rfl, rfl⟩)); (focus ((simp only [Xo,Xp,Xq,Xr,Xs];rfl))))
  intro w1 hB_e hs
  have Fw1 := F0.trans (hs.mono F0.size)
  clear hs F0
  have hc_e := hB_e.cell
  repeat (first|(with_reducible first|apply Xa|apply Xb|apply Xc|apply Xd)|((with_reducible apply Xk);(focus rfl);(focus (simp [go_sem,effAt,↓IntWalk.iteOmega, *];(try go_ints);with_reducible first|exact Xm|exact Xn));focus (simp only [Xo,Xp,Xq,Xr,Xs];rfl))|((with_reducible apply Xl);(focus rfl);focus (simp only [Xo,Xp,Xq,Xr,Xs];rfl))|(with_reducible first|apply Xe|apply Xf|apply Xg|apply Xh)|((with_reducible apply Xi);focus first|rfl|(simp [go_sem, *];done))|((with_reducible apply Xj);focus first|rfl|(simp [go_sem, *];done))|(simp only [Exit.then,Exit.inBlock,↓reduceIte,Nat.reduceEqDiff]))
  have lt_e_r := hB_e.lt
  ((with_reducible apply Xu); (focus rfl); (focus (simp [go_sem, effAt]; exact ⟨rfl, rfl⟩)); (focus ((simp only [Xo,Xp,Xq,Xr,Xs];rfl))))
  intro w2 hB_r hs
  have Fw2 := Fw1.trans (hs.mono Fw1.size)
  replace hB_e := hB_e.below hs hB_e.lt
  clear hs Fw1
  clear hc_e; have hc_e := hB_e.cell
  have hc_r := hB_r.cell
  repeat (first|(with_reducible first|apply Xa|apply Xb|apply Xc|apply Xd)|((with_reducible apply Xk);(focus rfl);(focus (simp [go_sem,effAt,↓IntWalk.iteOmega, *];(try go_ints);with_reducible first|exact Xm|exact Xn));focus (simp only [Xo,Xp,Xq,Xr,Xs];rfl))|((with_reducible apply Xl);(focus rfl);focus (simp only [Xo,Xp,Xq,Xr,Xs];rfl))|(with_reducible first|apply Xe|apply Xf|apply Xg|apply Xh)|((with_reducible apply Xi);focus first|rfl|(simp [go_sem, *];done))|((with_reducible apply Xj);focus first|rfl|(simp [go_sem, *];done))|(simp only [Exit.then,Exit.inBlock,↓reduceIte,Nat.reduceEqDiff]))
  ((with_reducible apply Xt (Below w2.heap.size w2)); (focus rfl); (focus (simp only [effAt]; simp [go_sem]; (with_reducible exact effUpon_enter (hPi _)))); (focus ((simp only [Xo,Xp,Xq,Xr,Xs];rfl))))
  intro w3 hs
  have Fw3 := Fw2.trans (hs.mono Fw2.size)
  replace hB_e := hB_e.below hs hB_e.lt
  replace hB_r := hB_r.below hs hB_r.lt
  clear hs Fw2
  clear hc_e; have hc_e := hB_e.cell
  clear hc_r; have hc_r := hB_r.cell
  repeat (first|(with_reducible first|apply Xa|apply Xb|apply Xc|apply Xd)|((with_reducible apply Xk);(focus rfl);(focus (simp [go_sem,effAt,↓IntWalk.iteOmega, *];(try go_ints);with_reducible first|exact Xm|exact Xn));focus (simp only [Xo,Xp,Xq,Xr,Xs];rfl))|((with_reducible apply Xl);(focus rfl);focus (simp only [Xo,Xp,Xq,Xr,Xs];rfl))|(with_reducible first|apply Xe|apply Xf|apply Xg|apply Xh)|((with_reducible apply Xi);focus first|rfl|(simp [go_sem, *];done))|((with_reducible apply Xj);focus first|rfl|(simp [go_sem, *];done))|(simp only [Exit.then,Exit.inBlock,↓reduceIte,Nat.reduceEqDiff]))
  ((with_reducible apply Xt (Below w3.heap.size w3)); (focus rfl); (focus (simp only [effAt]; simp [go_sem]; (with_reducible exact effUpon_enter (hF _)))); (focus ((simp only [Xo,Xp,Xq,Xr,Xs];rfl))))
  intro w4 hs
  have Fw4 := Fw3.trans (hs.mono Fw3.size)
  replace hB_e := hB_e.below hs hB_e.lt
  replace hB_r := hB_r.below hs hB_r.lt
  clear hs Fw3
  clear hc_e; have hc_e := hB_e.cell
  clear hc_r; have hc_r := hB_r.cell
  repeat (first|(with_reducible first|apply Xa|apply Xb|apply Xc|apply Xd)|((with_reducible apply Xk);(focus rfl);(focus (simp [go_sem,effAt,↓IntWalk.iteOmega, *];(try go_ints);with_reducible first|exact Xm|exact Xn));focus (simp only [Xo,Xp,Xq,Xr,Xs];rfl))|((with_reducible apply Xl);(focus rfl);focus (simp only [Xo,Xp,Xq,Xr,Xs];rfl))|(with_reducible first|apply Xe|apply Xf|apply Xg|apply Xh)|((with_reducible apply Xi);focus first|rfl|(simp [go_sem, *];done))|((with_reducible apply Xj);focus first|rfl|(simp [go_sem, *];done))|(simp only [Exit.then,Exit.inBlock,↓reduceIte,Nat.reduceEqDiff]))
  have hf_r := hB_r.frozen
  ((with_reducible apply Xt (fun w' => Blk w' _ _ _ ∧ w4.grownBy w' (some _))); (focus rfl); (focus (simp [go_sem, effAt, *]; exact ⟨rfl, (((((hB_r.set_ 0 _).set_ 1 _).set_ 2 _).set_ 3 _).set_ 4 _), (grown_set (grown_set (grown_set (grown_set (grown_set (World.grownBy.refl _ _))))))⟩)); (focus ((simp only [Xo,Xp,Xq,Xr,Xs];rfl))))
  clear hf_r hc_r hB_r
  intro w5 hs
  obtain ⟨hB_r, hs⟩ := hs
  simp only [Xq,Xr,Xs] at hB_r
  have Fw5 := Fw4.grown hs Fw4.size (by intro k hk; first | (injection hk with hk; subst hk; first | exact Nat.le_refl _ | exact Fw4.size | omega) | omega)
  replace hB_e := hB_e.grown hs (by intro hk; injection hk with hk; have := hB_e.lt; have := hB_r.lt; omega)
  clear hs Fw4
  clear hc_e; have hc_e := hB_e.cell
  have hc_r := hB_r.cell
  repeat (first|(with_reducible first|apply Xa|apply Xb|apply Xc|apply Xd)|((with_reducible apply Xk);(focus rfl);(focus (simp [go_sem,effAt,↓IntWalk.iteOmega, *];(try go_ints);with_reducible first|exact Xm|exact Xn));focus (simp only [Xo,Xp,Xq,Xr,Xs];rfl))|((with_reducible apply Xl);(focus rfl);focus (simp only [Xo,Xp,Xq,Xr,Xs];rfl))|(with_reducible first|apply Xe|apply Xf|apply Xg|apply Xh)|((with_reducible apply Xi);focus first|rfl|(simp [go_sem, *];done))|((with_reducible apply Xj);focus first|rfl|(simp [go_sem, *];done))|(simp only [Exit.then,Exit.inBlock,↓reduceIte,Nat.reduceEqDiff]))
  refine bodyPost_ret (v := (actV 0 false false 0 0)) (by simp [results, Try.results13, go_sem, *]) rfl ⟨rfl, by assumption⟩
theorem ldoes_4 (g : Nat) (s : Int) (ls : Bool) (tr mo : Int) (kd fr : Int) (pf cmd : Bool) {s2 tr2 mo2 k1 t1 f1 : Int} {c1 p1 ls2 : Bool} (w : World) (hB_l : LB w g s ls tr mo) (hk : Fit kd) (hm : kd % 6 = 4)
    (hF : ∀ w, LB w g s ls tr mo → Calls Try.prog 21 #[.pointer (some ⟨g, 0, none⟩), .int .u8 fr, .bool pf, .bool cmd] w (Ret (actV k1 c1 p1 t1 f1) (fun w' => LB w' g s2 ls2 tr2 mo2 ∧ w.grownBy w' (some g)))) :
    Calls Try.prog 13 #[.pointer (some ⟨g, 0, none⟩), .agg #[.int .i64 kd, .int .u8 fr, .bool pf, .bool cmd]] w (Ret (actV k1 c1 p1 t1 f1) (fun w' => LB w' g s2 ls2 tr2 mo2 ∧ w.grownBy w' (some g))) := by
  have hPi := pick_any kd 6 (by omega) hk
  rw [hm] at hPi
  clear hm hk
  unfold LB at *
  go_enter Try.func13, Try.ntmps13
  have F0 : Turn (fun i => i = g ∨ w.heap.size ≤ i) w w := Turn.refl _
  have hc_l := hB_l.cell
  repeat (first|(with_reducible first|apply Xa|apply Xb|apply Xc|apply Xd)|((with_reducible apply Xk);(focus rfl);(focus (simp [go_sem,effAt,↓IntWalk.iteOmega, *];(try go_ints);with_reducible first|exact Xm|exact Xn));focus (simp only [Xo,Xp,Xq,Xr,Xs];rfl))|((with_reducible apply Xl);(focus rfl);focus (simp only [Xo,Xp,Xq,Xr,Xs];rfl))|(with_reducible first|apply Xe|apply Xf|apply Xg|apply Xh)|((with_reducible apply Xi);focus first|rfl|(simp [go_sem, *];done))|((with_reducible apply Xj);focus first|rfl|(simp [go_sem, *];done))|(simp only [Exit.then,Exit.inBlock,↓reduceIte,Nat.reduceEqDiff]))
  have lt_l_e := hB_l.lt
  have le_e := F0.size
  ((with_reducible apply Xu); (focus rfl); (focus (simp [go_sem, effAt]; exact ⟨rfl, rfl⟩)); (focus ((simp only [Xo,Xp,Xq,Xr,Xs];rfl))))
  intro w1 hB_e hs
  have Fw1 := F0.trans (Turn.of_below hs)
  replace hB_l := hB_l.below hs hB_l.lt
  clear hs F0
  clear hc_l; have hc_l := hB_l.cell
  have hc_e := hB_e.cell
  repeat (first|(with_reducible first|apply Xa|apply Xb|apply Xc|apply Xd)|((with_reducible apply Xk);(focus rfl);(focus (simp [go_sem,effAt,↓IntWalk.iteOmega, *];(try go_ints);with_reducible first|exact Xm|exact Xn));focus (simp only [Xo,Xp,Xq,Xr,Xs];rfl))|((with_reducible apply Xl);(focus rfl);focus (simp only [Xo,Xp,Xq,Xr,Xs];rfl))|(with_reducible first|apply Xe|apply Xf|apply Xg|apply Xh)|((with_reducible apply Xi);focus first|rfl|(simp [go_sem, *];done))|((with_reducible apply Xj);focus first|rfl|(simp [go_sem, *];done))|(simp only [Exit.then,Exit.inBlock,↓reduceIte,Nat.reduceEqDiff]))
  have lt_l_r := hB_l.lt
  have lt_e_r := hB_e.lt
  have le_r := Fw1.size
  ((with_reducible apply Xu); (focus rfl); (focus (simp [go_sem, effAt]; exact ⟨rfl, rfl⟩)); (focus ((simp only [Xo,Xp,Xq,Xr,Xs];rfl))))
  intro w2 hB_r hs
  have Fw2 := Fw1.trans (Turn.of_below hs)
  replace hB_l := hB_l.below hs hB_l.lt
  replace hB_e := hB_e.below hs hB_e.lt
  clear hs Fw1
  clear hc_l; have hc_l := hB_l.cell
  clear hc_e; have hc_e := hB_e.cell
  have hc_r := hB_r.cell
  repeat (first|(with_reducible first|apply Xa|apply Xb|apply Xc|apply Xd)|((with_reducible apply Xk);(focus rfl);(focus (simp [go_sem,effAt,↓IntWalk.iteOmega, *];(try go_ints);with_reducible first|exact Xm|exact Xn));focus (simp only [Xo,Xp,Xq,Xr,Xs];rfl))|((with_reducible apply Xl);(focus rfl);focus (simp only [Xo,Xp,Xq,Xr,Xs];rfl))|(with_reducible first|apply Xe|apply Xf|apply Xg|apply Xh)|((with_reducible apply Xi);focus first|rfl|(simp [go_sem, *];done))|((with_reducible apply Xj);focus first|rfl|(simp [go_sem, *];done))|(simp only [Exit.then,Exit.inBlock,↓reduceIte,Nat.reduceEqDiff]))
  ((with_reducible apply Xt (Below w2.heap.size w2)); (focus rfl); (focus (simp only [effAt]; simp [go_sem]; (with_reducible exact effUpon_enter (hPi _)))); (focus ((simp only [Xo,Xp,Xq,Xr,Xs];rfl))))
  intro w3 hs
  have Fw3 := Fw2.trans (Turn.of_below hs)
  replace hB_l := hB_l.below hs hB_l.lt
  replace hB_e := hB_e.below hs hB_e.lt
  replace hB_r := hB_r.below hs hB_r.lt
  clear hs Fw2
  clear hc_l; have hc_l := hB_l.cell
  clear hc_e; have hc_e := hB_e.cell
  clear hc_r; have hc_r := hB_r.cell
  repeat (first|(with_reducible first|apply Xa|apply Xb|apply Xc|apply Xd)|((with_reducible apply Xk);(focus rfl);(focus (simp [go_sem,effAt,↓IntWalk.iteOmega, *];(try go_ints);with_reducible first|exact Xm|exact Xn));focus (simp only [Xo,Xp,Xq,Xr,Xs];rfl))|((with_reducible apply Xl);(focus rfl);focus (simp only [Xo,Xp,Xq,Xr,Xs];rfl))|(with_reducible first|apply Xe|apply Xf|apply Xg|apply Xh)|((with_reducible apply Xi);focus first|rfl|(simp [go_sem, *];done))|((with_reducible apply Xj);focus first|rfl|(simp [go_sem, *];done))|(simp only [Exit.then,Exit.inBlock,↓reduceIte,Nat.reduceEqDiff]))
  ((with_reducible apply Xt (fun w' => Blk w' _ _ _ ∧ w3.grownBy w' (some _))); (focus rfl); (focus (simp only [effAt]; simp [go_sem]; (with_reducible exact effUpon_enter (hF _ hB_l)))); (focus ((simp only [Xo,Xp,Xq,Xr,Xs];rfl))))
  clear hc_l hB_l
  intro w4 hs
  obtain ⟨hB_l, hs⟩ := hs
  have Fw4 := Fw3.trans (Turn.of_grown hs (by first | exact .inl rfl | exact .inr (by omega)))
  replace hB_e := hB_e.grown hs (by intro hk; injection hk with hk; have := hB_e.lt; have := hB_l.lt; omega)
  replace hB_r := hB_r.grown hs (by intro hk; injection hk with hk; have := hB_r.lt; have := hB_l.lt; omega)
  clear hs Fw3
  clear hc_e; have hc_e := hB_e.cell
  clear hc_r; have hc_r := hB_r.cell
  have hc_l := hB_l.cell
  repeat (first|(with_reducible first|apply Xa|apply Xb|apply Xc|apply Xd)|((with_reducible apply Xk);(focus rfl);(focus (simp [go_sem,effAt,↓IntWalk.iteOmega, *];(try go_ints);with_reducible first|exact Xm|exact Xn));focus (simp only [Xo,Xp,Xq,Xr,Xs];rfl))|((with_reducible apply Xl);(focus rfl);focus (simp only [Xo,Xp,Xq,Xr,Xs];rfl))|(with_reducible first|apply Xe|apply Xf|apply Xg|apply Xh)|((with_reducible apply Xi);focus first|rfl|(simp [go_sem, *];done))|((with_reducible apply Xj);focus first|rfl|(simp [go_sem, *];done))|(simp only [Exit.then,Exit.inBlock,↓reduceIte,Nat.reduceEqDiff]))
  have hf_r := hB_r.frozen
  ((with_reducible apply Xt (fun w' => Blk w' _ _ _ ∧ w4.grownBy w' (some _))); (focus rfl); (focus (simp [go_sem, effAt, *]; exact ⟨rfl, (((((hB_r.set_ 0 _).set_ 1 _).set_ 2 _).set_ 3 _).set_ 4 _), (grown_set (grown_set (grown_set (grown_set (grown_set (World.grownBy.refl _ _))))))⟩)); (focus ((simp only [Xo,Xp,Xq,Xr,Xs];rfl))))
  clear hf_r hc_r hB_r
  intro w5 hs
  obtain ⟨hB_r, hs⟩ := hs
  simp only [Xq,Xr,Xs] at hB_r
  have Fw5 := Fw4.trans (Turn.of_grown hs (by first | exact .inl rfl | exact .inr (by omega)))
  replace hB_l := hB_l.grown hs (by intro hk; injection hk with hk; have := hB_l.lt; have := hB_r.lt; omega)
  replace hB_e := hB_e.grown hs (by intro hk; injection hk with hk; have := hB_e.lt; have := hB_r.lt; omega)
  clear hs Fw4
  clear hc_l; have hc_l := hB_l.cell
  clear hc_e; have hc_e := hB_e.cell
  have hc_r := hB_r.cell
  repeat (first|(with_reducible first|apply Xa|apply Xb|apply Xc|apply Xd)|((with_reducible apply Xk);(focus rfl);(focus (simp [go_sem,effAt,↓IntWalk.iteOmega, *];(try go_ints);with_reducible first|exact Xm|exact Xn));focus (simp only [Xo,Xp,Xq,Xr,Xs];rfl))|((with_reducible apply Xl);(focus rfl);focus (simp only [Xo,Xp,Xq,Xr,Xs];rfl))|(with_reducible first|apply Xe|apply Xf|apply Xg|apply Xh)|((with_reducible apply Xi);focus first|rfl|(simp [go_sem, *];done))|((with_reducible apply Xj);focus first|rfl|(simp [go_sem, *];done))|(simp only [Exit.then,Exit.inBlock,↓reduceIte,Nat.reduceEqDiff]))
  refine bodyPost_ret (v := (actV k1 c1 p1 t1 f1)) (by simp [results, Try.results13, go_sem, *]) rfl ⟨rfl, hB_l, Turn.to_grown (by assumption)⟩
theorem ldoes_nil_4 (kd fr : Int) (pf cmd : Bool) (w : World) (hk : Fit kd) (hm : kd % 6 = 4)
    (hF : ∀ w, Calls Try.prog 21 #[.pointer none, .int .u8 fr, .bool pf, .bool cmd] w (Ret (actV 0 false false 0 0) (Below w.heap.size w))) :
    Calls Try.prog 13 #[.pointer none, .agg #[.int .i64 kd, .int .u8 fr, .bool pf, .bool cmd]] w (Ret (actV 0 false false 0 0) (Below w.heap.size w)) := by
  have hPi := pick_any kd 6 (by omega) hk
  rw [hm] at hPi
  clear hm hk
  go_enter Try.func13, Try.ntmps13
  have F0 : Below w.heap.size w w := Below.refl _ _
  repeat (first|(with_reducible first|apply Xa|apply Xb|apply Xc|apply Xd)|((with_reducible apply Xk);(focus rfl);(focus (simp [go_sem,effAt,↓IntWalk.iteOmega, *];(try go_ints);with_reducible first|exact Xm|exact Xn));focus (simp only [Xo,Xp,Xq,Xr,Xs];rfl))|((with_reducible apply Xl);(focus rfl);focus (simp only [Xo,Xp,Xq,Xr,Xs];rfl))|(with_reducible first|apply Xe|apply Xf|apply Xg|apply Xh)|((with_reducible apply Xi);focus first|rfl|(simp [go_sem, *];done))|((with_reducible apply Xj);focus first|rfl|(simp [go_sem, *];done))|(simp only [Exit.then,Exit.inBlock,↓reduceIte,Nat.reduceEqDiff]))
  ((with_reducible apply Xu); (focus rfl); (focus (simp [go_sem, effAt]; exact ⟨rfl, rfl⟩)); (focus ((simp only [Xo,Xp,Xq,Xr,Xs];rfl))))
  intro w1 hB_e hs
  have Fw1 := F0.trans (hs.mono F0.size)
  clear hs F0
  have hc_e := hB_e.cell
  repeat (first|(with_reducible first|apply Xa|apply Xb|apply Xc|apply Xd)|((with_reducible apply Xk);(focus rfl);(focus (simp [go_sem,effAt,↓IntWalk.iteOmega, *];(try go_ints);with_reducible first|exact Xm|exact Xn));focus (simp only [Xo,Xp,Xq,Xr,Xs];rfl))|((with_reducible apply Xl);(focus rfl);focus (simp only [Xo,Xp,Xq,Xr,Xs];rfl))|(with_reducible first|apply Xe|apply Xf|apply Xg|apply Xh)|((with_reducible apply Xi);focus first|rfl|(simp [go_sem, *];done))|((with_reducible apply Xj);focus first|rfl|(simp [go_sem, *];done))|(simp only [Exit.then,Exit.inBlock,↓reduceIte,Nat.reduceEqDiff]))
  have lt_e_r := hB_e.lt
  ((with_reducible apply Xu); (focus rfl); (focus (simp [go_sem, effAt]; exact ⟨rfl, rfl⟩)); (focus ((simp only [Xo,Xp,Xq,Xr,Xs];rfl))))
  intro w2 hB_r hs
  have Fw2 := Fw1.trans (hs.mono Fw1.size)
  replace hB_e := hB_e.below hs hB_e.lt
  clear hs Fw1
  clear hc_e; have hc_e := hB_e.cell
  have hc_r := hB_r.cell
  repeat (first|(with_reducible first|apply Xa|apply Xb|apply Xc|apply Xd)|((with_reducible apply Xk);(focus rfl);(focus (simp [go_sem,effAt,↓IntWalk.iteOmega, *];(try go_ints);with_reducible first|exact Xm|exact Xn));focus (simp only [Xo,Xp,Xq,Xr,Xs];rfl))|((with_reducible apply Xl);(focus rfl);focus (simp only [Xo,Xp,Xq,Xr,Xs];rfl))|(with_reducible first|apply Xe|apply Xf|apply Xg|apply Xh)|((with_reducible apply Xi);focus first|rfl|(simp [go_sem, *];done))|((with_reducible apply Xj);focus first|rfl|(simp [go_sem, *];done))|(simp only [Exit.then,Exit.inBlock,↓reduceIte,Nat.reduceEqDiff]))
  ((with_reducible apply Xt (Below w2.heap.size w2)); (focus rfl); (focus (simp only [effAt]; simp [go_sem]; (with_reducible exact effUpon_enter (hPi _)))); (focus ((simp only [Xo,Xp,Xq,Xr,Xs];rfl))))
  intro w3 hs
  have Fw3 := Fw2.trans (hs.mono Fw2.size)
  replace hB_e := hB_e.below hs hB_e.lt
  replace hB_r := hB_r.below hs hB_r.lt
  clear hs Fw2
  clear hc_e; have hc_e := hB_e.cell
  clear hc_r; have hc_r := hB_r.cell
  repeat (first|(with_reducible first|apply Xa|apply Xb|apply Xc|apply Xd)|((with_reducible apply Xk);(focus rfl);(focus (simp [go_sem,effAt,↓IntWalk.iteOmega, *];(try go_ints);with_reducible first|exact Xm|exact Xn));focus (simp only [Xo,Xp,Xq,Xr,Xs];rfl))|((with_reducible apply Xl);(focus rfl);focus (simp only [Xo,Xp,Xq,Xr,Xs];rfl))|(with_reducible first|apply Xe|apply Xf|apply Xg|apply Xh)|((with_reducible apply Xi);focus first|rfl|(simp [go_sem, *];done))|((with_reducible apply Xj);focus first|rfl|(simp [go_sem, *];done))|(simp only [Exit.then,Exit.inBlock,↓reduceIte,Nat.reduceEqDiff]))
  ((with_reducible apply Xt (Below w3.heap.size w3)); (focus rfl); (focus (simp only [effAt]; simp [go_sem]; (with_reducible exact effUpon_enter (hF _)))); (focus ((simp only [Xo,Xp,Xq,Xr,Xs];rfl))))
  intro w4 hs
  have Fw4 := Fw3.trans (hs.mono Fw3.size)
  replace hB_e := hB_e.below hs hB_e.lt
  replace hB_r := hB_r.below hs hB_r.lt
  clear hs Fw3
  clear hc_e; have hc_e := hB_e.cell
  clear hc_r; have hc_r := hB_r.cell
  repeat (first|(with_reducible first|apply Xa|apply Xb|apply Xc|apply Xd)|((with_reducible apply Xk);(focus rfl);(focus (simp [go_sem,effAt,↓IntWalk.iteOmega, *];(try go_ints);with_reducible first|exact Xm|exact Xn));focus (simp only [Xo,Xp,Xq,Xr,Xs];rfl))|((with_reducible apply Xl);(focus rfl);focus (simp only [Xo,Xp,Xq,Xr,Xs];rfl))|(with_reducible first|apply Xe|apply Xf|apply Xg|apply Xh)|((with_reducible apply Xi);focus first|rfl|(simp [go_sem, *];done))|((with_reducible apply Xj);focus first|rfl|(simp [go_sem, *];done))|(simp only [Exit.then,Exit.inBlock,↓reduceIte,Nat.reduceEqDiff]))
  have hf_r := hB_r.frozen
  ((with_reducible apply Xt (fun w' => Blk w' _ _ _ ∧ w4.grownBy w' (some _))); (focus rfl); (focus (simp [go_sem, effAt, *]; exact ⟨rfl, (((((hB_r.set_ 0 _).set_ 1 _).set_ 2 _).set_ 3 _).set_ 4 _), (grown_set (grown_set (grown_set (grown_set (grown_set (World.grownBy.refl _ _))))))⟩)); (focus ((simp only [Xo,Xp,Xq,Xr,Xs];rfl))))
  clear hf_r hc_r hB_r
  intro w5 hs
  obtain ⟨hB_r, hs⟩ := hs
  simp only [Xq,Xr,Xs] at hB_r
  have Fw5 := Fw4.grown hs Fw4.size (by intro k hk; first | (injection hk with hk; subst hk; first | exact Nat.le_refl _ | exact Fw4.size | omega) | omega)
  replace hB_e := hB_e.grown hs (by intro hk; injection hk with hk; have := hB_e.lt; have := hB_r.lt; omega)
  clear hs Fw4
  clear hc_e; have hc_e := hB_e.cell
  have hc_r := hB_r.cell
  repeat (first|(with_reducible first|apply Xa|apply Xb|apply Xc|apply Xd)|((with_reducible apply Xk);(focus rfl);(focus (simp [go_sem,effAt,↓IntWalk.iteOmega, *];(try go_ints);with_reducible first|exact Xm|exact Xn));focus (simp only [Xo,Xp,Xq,Xr,Xs];rfl))|((with_reducible apply Xl);(focus rfl);focus (simp only [Xo,Xp,Xq,Xr,Xs];rfl))|(with_reducible first|apply Xe|apply Xf|apply Xg|apply Xh)|((with_reducible apply Xi);focus first|rfl|(simp [go_sem, *];done))|((with_reducible apply Xj);focus first|rfl|(simp [go_sem, *];done))|(simp only [Exit.then,Exit.inBlock,↓reduceIte,Nat.reduceEqDiff]))
  refine bodyPost_ret (v := (actV 0 false false 0 0)) (by simp [results, Try.results13, go_sem, *]) rfl ⟨rfl, by assumption⟩
theorem ldoes_5 (g : Nat) (s : Int) (ls : Bool) (tr mo : Int) (kd fr : Int) (pf cmd : Bool) {s2 tr2 mo2 k1 t1 f1 : Int} {c1 p1 ls2 : Bool} (w : World) (hB_l : LB w g s ls tr mo) (hk : Fit kd) (hm : kd % 6 = 5)
    (hF : ∀ w, LB w g s ls tr mo → Calls Try.prog 21 #[.pointer (some ⟨g, 0, none⟩), .int .u8 fr, .bool pf, .bool cmd] w (Ret (actV k1 c1 p1 t1 f1) (fun w' => LB w' g s2 ls2 tr2 mo2 ∧ w.grownBy w' (some g)))) :
    Calls Try.prog 13 #[.pointer (some ⟨g, 0, none⟩), .agg #[.int .i64 kd, .int .u8 fr, .bool pf, .bool cmd]] w (Ret (actV k1 c1 p1 t1 f1) (fun w' => LB w' g s2 ls2 tr2 mo2 ∧ w.grownBy w' (some g))) := by
  have hPi := pick_any kd 6 (by omega) hk
  rw [hm] at hPi
  clear hm hk
  unfold LB at *
  go_enter Try.func13, Try.ntmps13
  have F0 : Turn (fun i => i = g ∨ w.heap.size ≤ i) w w := Turn.refl _
  have hc_l := hB_l.cell
  repeat (first|(with_reducible first|apply Xa|apply Xb|apply Xc|apply Xd)|((with_reducible apply Xk);(focus rfl);(focus (simp [go_sem,effAt,↓IntWalk.iteOmega, *];(try go_ints);with_reducible first|exact Xm|exact Xn));focus (simp only [Xo,Xp,Xq,Xr,Xs];rfl))|((with_reducible apply Xl);(focus rfl);focus (simp only [Xo,Xp,Xq,Xr,Xs];rfl))|(with_reducible first|apply Xe|apply Xf|apply Xg|apply Xh)|((with_reducible apply Xi);focus first|rfl|(simp [go_sem, *];done))|((with_reducible apply Xj);focus first|rfl|(simp [go_sem, *];done))|(simp only [Exit.then,Exit.inBlock,↓reduceIte,Nat.reduceEqDiff]))
  have lt_l_e := hB_l.lt
  have le_e := F0.size
  ((with_reducible apply Xu); (focus rfl); (focus (simp [go_sem, effAt]; exact ⟨rfl, rfl⟩)); (focus ((simp only [Xo,Xp,Xq,Xr,Xs];rfl))))
  intro w1 hB_e hs
  have Fw1 := F0.trans (Turn.of_below hs)
  replace hB_l := hB_l.below hs hB_l.lt
  clear hs F0
  clear hc_l; have hc_l := hB_l.cell
  have hc_e := hB_e.cell
  repeat (first|(with_reducible first|apply Xa|apply Xb|apply Xc|apply Xd)|((with_reducible apply Xk);(focus rfl);(focus (simp [go_sem,effAt,↓IntWalk.iteOmega, *];(try go_ints);with_reducible first|exact Xm|exact Xn));focus (simp only [Xo,Xp,Xq,Xr,Xs];rfl))|((with_reducible apply Xl);(focus rfl);focus (simp only [Xo,Xp,Xq,Xr,Xs];rfl))|(with_reducible first|apply Xe|apply Xf|apply Xg|apply Xh)|((with_reducible apply Xi);focus first|rfl|(simp [go_sem, *];done))|((with_reducible apply Xj);focus first|rfl|(simp [go_sem, *];done))|(simp only [Exit.then,Exit.inBlock,↓reduceIte,Nat.reduceEqDiff]))
  have lt_l_r := hB_l.lt
  have lt_e_r := hB_e.lt
  have le_r := Fw1.size
  ((with_reducible apply Xu); (focus rfl); (focus (simp [go_sem, effAt]; exact ⟨rfl, rfl⟩)); (focus ((simp only [Xo,Xp,Xq,Xr,Xs];rfl))))
  intro w2 hB_r hs
  have Fw2 := Fw1.trans (Turn.of_below hs)
  replace hB_l := hB_l.below hs hB_l.lt
  replace hB_e := hB_e.below hs hB_e.lt
  clear hs Fw1
  clear hc_l; have hc_l := hB_l.cell
  clear hc_e; have hc_e := hB_e.cell
  have hc_r := hB_r.cell
  repeat (first|(with_reducible first|apply Xa|apply Xb|apply Xc|apply Xd)|((with_reducible apply Xk);(focus rfl);(focus (simp [go_sem,effAt,↓IntWalk.iteOmega, *];(try go_ints);with_reducible first|exact Xm|exact Xn));focus (simp only [Xo,Xp,Xq,Xr,Xs];rfl))|((with_reducible apply Xl);(focus rfl);focus (simp only [Xo,Xp,Xq,Xr,Xs];rfl))|(with_reducible first|apply Xe|apply Xf|apply Xg|apply Xh)|((with_reducible apply Xi);focus first|rfl|(simp [go_sem, *];done))|((with_reducible apply Xj);focus first|rfl|(simp [go_sem, *];done))|(simp only [Exit.then,Exit.inBlock,↓reduceIte,Nat.reduceEqDiff]))
  ((with_reducible apply Xt (Below w2.heap.size w2)); (focus rfl); (focus (simp only [effAt]; simp [go_sem]; (with_reducible exact effUpon_enter (hPi _)))); (focus ((simp only [Xo,Xp,Xq,Xr,Xs];rfl))))
  intro w3 hs
  have Fw3 := Fw2.trans (Turn.of_below hs)
  replace hB_l := hB_l.below hs hB_l.lt
  replace hB_e := hB_e.below hs hB_e.lt
  replace hB_r := hB_r.below hs hB_r.lt
  clear hs Fw2
  clear hc_l; have hc_l := hB_l.cell
  clear hc_e; have hc_e := hB_e.cell
  clear hc_r; have hc_r := hB_r.cell
  repeat (first|(with_reducible first|apply Xa|apply Xb|apply Xc|apply Xd)|((with_reducible apply Xk);(focus rfl);(focus (simp [go_sem,effAt,↓IntWalk.iteOmega, *];(try go_ints);with_reducible first|exact Xm|exact Xn));focus (simp only [Xo,Xp,Xq,Xr,Xs];rfl))|((with_reducible apply Xl);(focus rfl);focus (simp only [Xo,Xp,Xq,Xr,Xs];rfl))|(with_reducible first|apply Xe|apply Xf|apply Xg|apply Xh)|((with_reducible apply Xi);focus first|rfl|(simp [go_sem, *];done))|((with_reducible apply Xj);focus first|rfl|(simp [go_sem, *];done))|(simp only [Exit.then,Exit.inBlock,↓reduceIte,Nat.reduceEqDiff]))
  ((with_reducible apply Xt (fun w' => Blk w' _ _ _ ∧ w3.grownBy w' (some _))); (focus rfl); (focus (simp only [effAt]; simp [go_sem]; (with_reducible exact effUpon_enter (hF _ hB_l)))); (focus ((simp only [Xo,Xp,Xq,Xr,Xs];rfl))))
  clear hc_l hB_l
  intro w4 hs
  obtain ⟨hB_l, hs⟩ := hs
  have Fw4 := Fw3.trans (Turn.of_grown hs (by first | exact .inl rfl | exact .inr (by omega)))
  replace hB_e := hB_e.grown hs (by intro hk; injection hk with hk; have := hB_e.lt; have := hB_l.lt; omega)
  replace hB_r := hB_r.grown hs (by intro hk; injection hk with hk; have := hB_r.lt; have := hB_l.lt; omega)
  clear hs Fw3
  clear hc_e; have hc_e := hB_e.cell
  clear hc_r; have hc_r := hB_r.cell
  have hc_l := hB_l.cell
  repeat (first|(with_reducible first|apply Xa|apply Xb|apply Xc|apply Xd)|((with_reducible apply Xk);(focus rfl);(focus (simp [go_sem,effAt,↓IntWalk.iteOmega, *];(try go_ints);with_reducible first|exact Xm|exact Xn));focus (simp only [Xo,Xp,Xq,Xr,Xs];rfl))|((with_reducible apply Xl);(focus rfl);focus (simp only [Xo,Xp,Xq,Xr,Xs];rfl))|(with_reducible first|apply Xe|apply Xf|apply Xg|apply Xh)|((with_reducible apply Xi);focus first|rfl|(simp [go_sem, *];done))|((with_reducible apply Xj);focus first|rfl|(simp [go_sem, *];done))|(simp only [Exit.then,Exit.inBlock,↓reduceIte,Nat.reduceEqDiff]))
  have hf_r := hB_r.frozen
  ((with_reducible apply Xt (fun w' => Blk w' _ _ _ ∧ w4.grownBy w' (some _))); (focus rfl); (focus (simp [go_sem, effAt, *]; exact ⟨rfl, (((((hB_r.set_ 0 _).set_ 1 _).set_ 2 _).set_ 3 _).set_ 4 _), (grown_set (grown_set (grown_set (grown_set (grown_set (World.grownBy.refl _ _))))))⟩)); (focus ((simp only [Xo,Xp,Xq,Xr,Xs];rfl))))
  clear hf_r hc_r hB_r
  intro w5 hs
  obtain ⟨hB_r, hs⟩ := hs
  simp only [Xq,Xr,Xs] at hB_r
  have Fw5 := Fw4.trans (Turn.of_grown hs (by first | exact .inl rfl | exact .inr (by omega)))
  replace hB_l := hB_l.grown hs (by intro hk; injection hk with hk; have := hB_l.lt; have := hB_r.lt; omega)
  replace hB_e := hB_e.grown hs (by intro hk; injection hk with hk; have := hB_e.lt; have := hB_r.lt; omega)
  clear hs Fw4
  clear hc_l; have hc_l := hB_l.cell
  clear hc_e; have hc_e := hB_e.cell
  have hc_r := hB_r.cell
  repeat (first|(with_reducible first|apply Xa|apply Xb|apply Xc|apply Xd)|((with_reducible apply Xk);(focus rfl);(focus (simp [go_sem,effAt,↓IntWalk.iteOmega, *];(try go_ints);with_reducible first|exact Xm|exact Xn));focus (simp only [Xo,Xp,Xq,Xr,Xs];rfl))|((with_reducible apply Xl);(focus rfl);focus (simp only [Xo,Xp,Xq,Xr,Xs];rfl))|(with_reducible first|apply Xe|apply Xf|apply Xg|apply Xh)|((with_reducible apply Xi);focus first|rfl|(simp [go_sem, *];done))|((with_reducible apply Xj);focus first|rfl|(simp [go_sem, *];done))|(simp only [Exit.then,Exit.inBlock,↓reduceIte,Nat.reduceEqDiff]))
  refine bodyPost_ret (v := (actV k1 c1 p1 t1 f1)) (by simp [results, Try.results13, go_sem, *]) rfl ⟨rfl, hB_l, Turn.to_grown (by assumption)⟩
theorem ldoes_nil_5 (kd fr : Int) (pf cmd : Bool) (w : World) (hk : Fit kd) (hm : kd % 6 = 5)
    (hF : ∀ w, Calls Try.prog 21 #[.pointer none, .int .u8 fr, .bool pf, .bool cmd] w (Ret (actV 0 false false 0 0) (Below w.heap.size w))) :
    Calls Try.prog 13 #[.pointer none, .agg #[.int .i64 kd, .int .u8 fr, .bool pf, .bool cmd]] w (Ret (actV 0 false false 0 0) (Below w.heap.size w)) := by
  have hPi := pick_any kd 6 (by omega) hk
  rw [hm] at hPi
  clear hm hk
  go_enter Try.func13, Try.ntmps13
  have F0 : Below w.heap.size w w := Below.refl _ _
  repeat (first|(with_reducible first|apply Xa|apply Xb|apply Xc|apply Xd)|((with_reducible apply Xk);(focus rfl);(focus (simp [go_sem,effAt,↓IntWalk.iteOmega, *];(try go_ints);with_reducible first|exact Xm|exact Xn));focus (simp only [Xo,Xp,Xq,Xr,Xs];rfl))|((with_reducible apply Xl);(focus rfl);focus (simp only [Xo,Xp,Xq,Xr,Xs];rfl))|(with_reducible first|apply Xe|apply Xf|apply Xg|apply Xh)|((with_reducible apply Xi);focus first|rfl|(simp [go_sem, *];done))|((with_reducible apply Xj);focus first|rfl|(simp [go_sem, *];done))|(simp only [Exit.then,Exit.inBlock,↓reduceIte,Nat.reduceEqDiff]))
  ((with_reducible apply Xu); (focus rfl); (focus (simp [go_sem, effAt]; exact ⟨rfl, rfl⟩)); (focus ((simp only [Xo,Xp,Xq,Xr,Xs];rfl))))
  intro w1 hB_e hs
  have Fw1 := F0.trans (hs.mono F0.size)
  clear hs F0
  have hc_e := hB_e.cell
  repeat (first|(with_reducible first|apply Xa|apply Xb|apply Xc|apply Xd)|((with_reducible apply Xk);(focus rfl);(focus (simp [go_sem,effAt,↓IntWalk.iteOmega, *];(try go_ints);with_reducible first|exact Xm|exact Xn));focus (simp only [Xo,Xp,Xq,Xr,Xs];rfl))|((with_reducible apply Xl);(focus rfl);focus (simp only [Xo,Xp,Xq,Xr,Xs];rfl))|(with_reducible first|apply Xe|apply Xf|apply Xg|apply Xh)|((with_reducible apply Xi);focus first|rfl|(simp [go_sem, *];done))|((with_reducible apply Xj);focus first|rfl|(simp [go_sem, *];done))|(simp only [Exit.then,Exit.inBlock,↓reduceIte,Nat.reduceEqDiff]))
  have lt_e_r := hB_e.lt
  ((with_reducible apply Xu); (focus rfl); (focus (simp [go_sem, effAt]; exact ⟨rfl, rfl⟩)); (focus ((simp only [Xo,Xp,Xq,Xr,Xs];rfl))))
  intro w2 hB_r hs
  have Fw2 := Fw1.trans (hs.mono Fw1.size)
  replace hB_e := hB_e.below hs hB_e.lt
  clear hs Fw1
  clear hc_e; have hc_e := hB_e.cell
  have hc_r := hB_r.cell
  repeat (first|(with_reducible first|apply Xa|apply Xb|apply Xc|apply Xd)|((with_reducible apply Xk);(focus rfl);(focus (simp [go_sem,effAt,↓IntWalk.iteOmega, *];(try go_ints);with_reducible first|exact Xm|exact Xn));focus (simp only [Xo,Xp,Xq,Xr,Xs];rfl))|((with_reducible apply Xl);(focus rfl);focus (simp only [Xo,Xp,Xq,Xr,Xs];rfl))|(with_reducible first|apply Xe|apply Xf|apply Xg|apply Xh)|((with_reducible apply Xi);focus first|rfl|(simp [go_sem, *];done))|((with_reducible apply Xj);focus first|rfl|(simp [go_sem, *];done))|(simp only [Exit.then,Exit.inBlock,↓reduceIte,Nat.reduceEqDiff]))
  ((with_reducible apply Xt (Below w2.heap.size w2)); (focus rfl); (focus (simp only [effAt]; simp [go_sem]; (with_reducible exact effUpon_enter (hPi _)))); (focus ((simp only [Xo,Xp,Xq,Xr,Xs];rfl))))
  intro w3 hs
  have Fw3 := Fw2.trans (hs.mono Fw2.size)
  replace hB_e := hB_e.below hs hB_e.lt
  replace hB_r := hB_r.below hs hB_r.lt
  clear hs Fw2
  clear hc_e; have hc_e := hB_e.cell
  clear hc_r; have hc_r := hB_r.cell
  repeat (first|(with_reducible first|apply Xa|apply Xb|apply Xc|apply Xd)|((with_reducible apply Xk);(focus rfl);(focus (simp [go_sem,effAt,↓IntWalk.iteOmega, *];(try go_ints);with_reducible first|exact Xm|exact Xn));focus (simp only [Xo,Xp,Xq,Xr,Xs];rfl))|((with_reducible apply Xl);(focus rfl);focus (simp only [Xo,Xp,Xq,Xr,Xs];rfl))|(with_reducible first|apply Xe|apply Xf|apply Xg|apply Xh)|((with_reducible apply Xi);focus first|rfl|(simp [go_sem, *];done))|((with_reducible apply Xj);focus first|rfl|(simp [go_sem, *];done))|(simp only [Exit.then,Exit.inBlock,↓reduceIte,Nat.reduceEqDiff]))
  ((with_reducible apply Xt (Below w3.heap.size w3)); (focus rfl); (focus (simp only [effAt]; simp [go_sem]; (with_reducible exact effUpon_enter (hF _)))); (focus ((simp only [Xo,Xp,Xq,Xr,Xs];rfl))))
  intro w4 hs
  have Fw4 := Fw3.trans (hs.mono Fw3.size)
  replace hB_e := hB_e.below hs hB_e.lt
  replace hB_r := hB_r.below hs hB_r.lt
  clear hs Fw3
  clear hc_e; have hc_e := hB_e.cell
  clear hc_r; have hc_r := hB_r.cell
  repeat (first|(with_reducible first|apply Xa|apply Xb|apply Xc|apply Xd)|((with_reducible apply Xk);(focus rfl);(focus (simp [go_sem,effAt,↓IntWalk.iteOmega, *];(try go_ints);with_reducible first|exact Xm|exact Xn));focus (simp only [Xo,Xp,Xq,Xr,Xs];rfl))|((with_reducible apply Xl);(focus rfl);focus (simp only [Xo,Xp,Xq,Xr,Xs];rfl))|(with_reducible first|apply Xe|apply Xf|apply Xg|apply Xh)|((with_reducible apply Xi);focus first|rfl|(simp [go_sem, *];done))|((with_reducible apply Xj);focus first|rfl|(simp [go_sem, *];done))|(simp only [Exit.then,Exit.inBlock,↓reduceIte,Nat.reduceEqDiff]))
  have hf_r := hB_r.frozen
  ((with_reducible apply Xt (fun w' => Blk w' _ _ _ ∧ w4.grownBy w' (some _))); (focus rfl); (focus (simp [go_sem, effAt, *]; exact ⟨rfl, (((((hB_r.set_ 0 _).set_ 1 _).set_ 2 _).set_ 3 _).set_ 4 _), (grown_set (grown_set (grown_set (grown_set (grown_set (World.grownBy.refl _ _))))))⟩)); (focus ((simp only [Xo,Xp,Xq,Xr,Xs];rfl))))
  clear hf_r hc_r hB_r
  intro w5 hs
  obtain ⟨hB_r, hs⟩ := hs
  simp only [Xq,Xr,Xs] at hB_r
  have Fw5 := Fw4.grown hs Fw4.size (by intro k hk; first | (injection hk with hk; subst hk; first | exact Nat.le_refl _ | exact Fw4.size | omega) | omega)
  replace hB_e := hB_e.grown hs (by intro hk; injection hk with hk; have := hB_e.lt; have := hB_r.lt; omega)
  clear hs Fw4
  clear hc_e; have hc_e := hB_e.cell
  have hc_r := hB_r.cell
  repeat (first|(with_reducible first|apply Xa|apply Xb|apply Xc|apply Xd)|((with_reducible apply Xk);(focus rfl);(focus (simp [go_sem,effAt,↓IntWalk.iteOmega, *];(try go_ints);with_reducible first|exact Xm|exact Xn));focus (simp only [Xo,Xp,Xq,Xr,Xs];rfl))|((with_reducible apply Xl);(focus rfl);focus (simp only [Xo,Xp,Xq,Xr,Xs];rfl))|(with_reducible first|apply Xe|apply Xf|apply Xg|apply Xh)|((with_reducible apply Xi);focus first|rfl|(simp [go_sem, *];done))|((with_reducible apply Xj);focus first|rfl|(simp [go_sem, *];done))|(simp only [Exit.then,Exit.inBlock,↓reduceIte,Nat.reduceEqDiff]))
  refine bodyPost_ret (v := (actV 0 false false 0 0)) (by simp [results, Try.results13, go_sem, *]) rfl ⟨rfl, by assumption⟩
theorem heard_nil_any (k : Int) (pf : Bool) (w : World) : Calls Try.prog 29 #[.pointer none, .int .u8 k, .bool pf] w (Ret (actV 0 false false 0 0) (Below w.heap.size w)) := by
  cases pf
  · by_cases h1 : k = 1
    · subst h1; exact heard_nil_1 w
    by_cases h4 : k = 4
    · subst h4; exact heard_nil_4 w
    exact heard_nil_o k w h1 h4
  · exact heard_nil_p k w
theorem hear_nil_any (k : Int) (pf cmd : Bool) (w : World) : Calls Try.prog 21 #[.pointer none, .int .u8 k, .bool pf, .bool cmd] w (Ret (actV 0 false false 0 0) (Below w.heap.size w)) := by
  by_cases h1 : k < 1
  · exact hear_nil_low k pf cmd w h1
  by_cases h10 : 10 < k
  · exact hear_nil_up k pf cmd w h1 h10
  by_cases h2 : k = 2
  · subst h2; cases cmd
    · cases pf
      · exact hear_nil_r2n w
      · exact hear_nil_r2p w
    · exact hear_nil_own2 pf w
  by_cases h3 : k = 3
  · subst h3; cases cmd
    · cases pf
      · exact hear_nil_r3n w
      · exact hear_nil_r3p w
    · exact hear_nil_own3 pf w
  cases cmd
  · exact hear_nil_res k pf w h1 h10 h2 h3
  · exact hear_nil_cmd k pf w h1 h10 h2 h3 (fun w => heard_nil_any k pf w)
theorem ldoes_nil (kd fr : Int) (pf cmd : Bool) (w : World) (hk : Fit kd) : Calls Try.prog 13 #[.pointer none, .agg #[.int .i64 kd, .int .u8 fr, .bool pf, .bool cmd]] w (Ret (actV 0 false false 0 0) (Below w.heap.size w)) := by
  rcases (by omega : kd % 6 = 0 ∨ kd % 6 = 1 ∨ kd % 6 = 2 ∨ kd % 6 = 3 ∨ kd % 6 = 4 ∨ kd % 6 = 5) with h | h | h | h | h | h
  · exact ldoes_nil_0 kd fr pf cmd w hk h (fun w => open_nil w)
  · exact ldoes_nil_1 kd fr pf cmd w hk h (fun w => close_nil w)
  · exact ldoes_nil_2 kd fr pf cmd w hk h (fun w => due_nil w)
  · exact ldoes_nil_3 kd fr pf cmd w hk h (fun w => listen_nil pf w)
  · exact ldoes_nil_4 kd fr pf cmd w hk h (fun w => hear_nil_any fr pf cmd w)
  · exact ldoes_nil_5 kd fr pf cmd w hk h (fun w => hear_nil_any fr pf cmd w)
set_option maxRecDepth 100000 in
set_option maxHeartbeats 4000000 in
theorem works_any (w : World) : Calls Try.prog 9 #[] w (Ret (.bool true) (Below w.heap.size w)) := by
  have hN := new_any 1
  rw [show mostOf 1 = 1 from rfl] at hN
  have hO : ∀ g w, LB w g 1 false 0 1 → Calls Try.prog 18 #[.pointer (some ⟨g, 0, none⟩)] w (Ret (actV 1 true true 1 0) fun w' => LB w' g 2 false 0 1 ∧ w.grownBy w' (some g)) :=
    fun g w h => open_any g 1 false 0 1 w h (fun w h => does_1 g false 0 1 _ w h (fun w h => down_opens g 1 false 0 1 w h))
  have hA : ∀ g w, LB w g 2 false 0 1 → Calls Try.prog 21 #[.pointer (some ⟨g, 0, none⟩), .int .u8 2, .bool true, .bool false] w (Ret (actV 0 false false 2 1) fun w' => LB w' g 3 false 0 1 ∧ w.grownBy w' (some g)) :=
    fun g w h => hear_r2p g 2 false 0 1 w h (fun w h => does_2 g false 0 1 _ w h (fun w h => opening_resp2 g 2 false 0 1 w h))
  have hD1 : ∀ g w, LB w g 2 false 0 1 → Calls Try.prog 22 #[.pointer (some ⟨g, 0, none⟩)] w (Ret (actV 1 true true 1 0) fun w' => LB w' g 2 false 1 1 ∧ w.grownBy w' (some g)) :=
    fun g w h => due_any g 2 false 0 1 w h (fun w h => does_2 g false 0 1 _ w h (fun w h => opening_dueM g 2 false 0 1 w h (by omega) (by omega)))
  have hD2 : ∀ g w, LB w g 2 false 1 1 → Calls Try.prog 22 #[.pointer (some ⟨g, 0, none⟩)] w (Ret (actV 0 false false 2 6) fun w' => LB w' g 5 false 1 1 ∧ w.grownBy w' (some g)) :=
    fun g w h => due_any g 2 false 1 1 w h (fun w h => does_2 g false 1 1 _ w h (fun w h => opening_dueE g 2 false 1 1 w h (by omega)))
  have hL : ∀ g w, LB w g 1 false 0 1 → Calls Try.prog 16 #[.pointer (some ⟨g, 0, none⟩), .bool true] w (Ret (.tuple #[]) fun w' => LB w' g 1 true 0 1 ∧ w.grownBy w' (some g)) :=
    fun g w h => listen_any g 1 false true 0 1 w h
  have hC1 : ∀ g w, LB w g 1 true 0 1 → Calls Try.prog 21 #[.pointer (some ⟨g, 0, none⟩), .int .u8 1, .bool true, .bool true] w (Ret (actV 2 false true 0 2) fun w' => LB w' g 3 true 0 1 ∧ w.grownBy w' (some g)) :=
    fun g w h => hear_cmd g 1 true 0 1 1 true w h (by omega) (by omega) (by omega) (by omega) (fun w h => heard_p g 1 true 0 1 1 w h (fun w h => does_1 g true 0 1 _ w h (fun w h => down_cmd1t g 1 true 0 1 3 w h rfl)))
  have hC2 : ∀ g w, LB w g 3 true 0 1 → Calls Try.prog 21 #[.pointer (some ⟨g, 0, none⟩), .int .u8 4, .bool false, .bool true] w (Ret (actV 2 false false 0 5) fun w' => LB w' g 1 true 0 1 ∧ w.grownBy w' (some g)) :=
    fun g w h => hear_cmd g 3 true 0 1 4 false w h (by omega) (by omega) (by omega) (by omega) (fun w h => heard_4 g 3 true 0 1 w h (fun w h => does_3 g true 0 1 _ w h (fun w h => up_cmd4 g 3 true 0 1 3 w h)))
  have hS := fun g s ls tr mo w h => state_any g s ls tr mo w h
  unfold LB at *
  go_enter Try.func9, Try.ntmps9
  have F0 : Below w.heap.size w w := Below.refl _ _
  repeat (first|(with_reducible first|apply Xa|apply Xb|apply Xc|apply Xd)|((with_reducible apply Xk);(focus rfl);(focus (simp [go_sem,effAt,↓IntWalk.iteOmega, *];(try go_ints);with_reducible first|exact Xm|exact Xn));focus (simp only [Xo,Xp,Xq,Xr,Xs];rfl))|((with_reducible apply Xl);(focus rfl);focus (simp only [Xo,Xp,Xq,Xr,Xs];rfl))|(with_reducible first|apply Xe|apply Xf|apply Xg|apply Xh)|((with_reducible apply Xi);focus first|rfl|(simp [go_sem, *];done))|((with_reducible apply Xj);focus first|rfl|(simp [go_sem, *];done))|(simp only [Exit.then,Exit.inBlock,↓reduceIte,Nat.reduceEqDiff]))
  have le_a := F0.size
  ((with_reducible apply Xt (fun w' => Blk w' w.heap.size _ _ ∧ Below w.heap.size w w')); (focus rfl); (focus (simp only [effAt]; simp [go_sem]; (with_reducible exact effUpon_enter (hN _)))); (focus ((simp only [Xo,Xp,Xq,Xr,Xs];rfl))))
  intro w1 hs
  obtain ⟨hB_a, hs⟩ := hs
  have Fw1 := F0.trans (hs.mono F0.size)
  clear hs F0
  have hc_a := hB_a.cell
  repeat (first|(with_reducible first|apply Xa|apply Xb|apply Xc|apply Xd)|((with_reducible apply Xk);(focus rfl);(focus (simp [go_sem,effAt,↓IntWalk.iteOmega, *];(try go_ints);with_reducible first|exact Xm|exact Xn));focus (simp only [Xo,Xp,Xq,Xr,Xs];rfl))|((with_reducible apply Xl);(focus rfl);focus (simp only [Xo,Xp,Xq,Xr,Xs];rfl))|(with_reducible first|apply Xe|apply Xf|apply Xg|apply Xh)|((with_reducible apply Xi);focus first|rfl|(simp [go_sem, *];done))|((with_reducible apply Xj);focus first|rfl|(simp [go_sem, *];done))|(simp only [Exit.then,Exit.inBlock,↓reduceIte,Nat.reduceEqDiff]))
  have lt_a_b := hB_a.lt
  have le_b := Fw1.size
  ((with_reducible apply Xt (fun w' => Blk w' w1.heap.size _ _ ∧ Below w1.heap.size w1 w')); (focus rfl); (focus (simp only [effAt]; simp [go_sem]; (with_reducible exact effUpon_enter (hN _)))); (focus ((simp only [Xo,Xp,Xq,Xr,Xs];rfl))))
  intro w2 hs
  obtain ⟨hB_b, hs⟩ := hs
  have Fw2 := Fw1.trans (hs.mono Fw1.size)
  replace hB_a := hB_a.below hs hB_a.lt
  clear hs Fw1
  clear hc_a; have hc_a := hB_a.cell
  have hc_b := hB_b.cell
  repeat (first|(with_reducible first|apply Xa|apply Xb|apply Xc|apply Xd)|((with_reducible apply Xk);(focus rfl);(focus (simp [go_sem,effAt,↓IntWalk.iteOmega, *];(try go_ints);with_reducible first|exact Xm|exact Xn));focus (simp only [Xo,Xp,Xq,Xr,Xs];rfl))|((with_reducible apply Xl);(focus rfl);focus (simp only [Xo,Xp,Xq,Xr,Xs];rfl))|(with_reducible first|apply Xe|apply Xf|apply Xg|apply Xh)|((with_reducible apply Xi);focus first|rfl|(simp [go_sem, *];done))|((with_reducible apply Xj);focus first|rfl|(simp [go_sem, *];done))|(simp only [Exit.then,Exit.inBlock,↓reduceIte,Nat.reduceEqDiff]))
  have lt_a_c := hB_a.lt
  have lt_b_c := hB_b.lt
  have le_c := Fw2.size
  ((with_reducible apply Xt (fun w' => Blk w' w2.heap.size _ _ ∧ Below w2.heap.size w2 w')); (focus rfl); (focus (simp only [effAt]; simp [go_sem]; (with_reducible exact effUpon_enter (hN _)))); (focus ((simp only [Xo,Xp,Xq,Xr,Xs];rfl))))
  intro w3 hs
  obtain ⟨hB_c, hs⟩ := hs
  have Fw3 := Fw2.trans (hs.mono Fw2.size)
  replace hB_a := hB_a.below hs hB_a.lt
  replace hB_b := hB_b.below hs hB_b.lt
  clear hs Fw2
  clear hc_a; have hc_a := hB_a.cell
  clear hc_b; have hc_b := hB_b.cell
  have hc_c := hB_c.cell
  clear hN
  repeat (first|(with_reducible first|apply Xa|apply Xb|apply Xc|apply Xd)|((with_reducible apply Xk);(focus rfl);(focus (simp [go_sem,effAt,↓IntWalk.iteOmega, *];(try go_ints);with_reducible first|exact Xm|exact Xn));focus (simp only [Xo,Xp,Xq,Xr,Xs];rfl))|((with_reducible apply Xl);(focus rfl);focus (simp only [Xo,Xp,Xq,Xr,Xs];rfl))|(with_reducible first|apply Xe|apply Xf|apply Xg|apply Xh)|((with_reducible apply Xi);focus first|rfl|(simp [go_sem, *];done))|((with_reducible apply Xj);focus first|rfl|(simp [go_sem, *];done))|(simp only [Exit.then,Exit.inBlock,↓reduceIte,Nat.reduceEqDiff]))
  ((with_reducible apply Xt (fun w' => Blk w' _ _ _ ∧ w3.grownBy w' (some _))); (focus rfl); (focus (simp only [effAt]; simp [go_sem]; (with_reducible exact effUpon_enter (hO _ _ hB_a)))); (focus ((simp only [Xo,Xp,Xq,Xr,Xs];rfl))))
  clear hc_a hB_a
  intro w4 hs
  obtain ⟨hB_a, hs⟩ := hs
  have Fw4 := Fw3.grown hs Fw3.size (by intro k hk; injection hk with hk; subst hk; first | exact Nat.le_refl _ | exact Fw3.size | omega)
  replace hB_b := hB_b.grown hs (by intro hk; injection hk with hk; have := hB_b.lt; have := hB_a.lt; omega)
  replace hB_c := hB_c.grown hs (by intro hk; injection hk with hk; have := hB_c.lt; have := hB_a.lt; omega)
  clear hs Fw3
  clear hc_b; have hc_b := hB_b.cell
  clear hc_c; have hc_c := hB_c.cell
  have hc_a := hB_a.cell
  repeat (first|(with_reducible first|apply Xa|apply Xb|apply Xc|apply Xd)|((with_reducible apply Xk);(focus rfl);(focus (simp [go_sem,effAt,↓IntWalk.iteOmega, *];(try go_ints);with_reducible first|exact Xm|exact Xn));focus (simp only [Xo,Xp,Xq,Xr,Xs];rfl))|((with_reducible apply Xl);(focus rfl);focus (simp only [Xo,Xp,Xq,Xr,Xs];rfl))|(with_reducible first|apply Xe|apply Xf|apply Xg|apply Xh)|((with_reducible apply Xi);focus first|rfl|(simp [go_sem, *];done))|((with_reducible apply Xj);focus first|rfl|(simp [go_sem, *];done))|(simp only [Exit.then,Exit.inBlock,↓reduceIte,Nat.reduceEqDiff]))
  ((with_reducible apply Xt (fun w' => Blk w' _ _ _ ∧ w4.grownBy w' (some _))); (focus rfl); (focus (simp only [effAt]; simp [go_sem]; (with_reducible exact effUpon_enter (hA _ _ hB_a)))); (focus ((simp only [Xo,Xp,Xq,Xr,Xs];rfl))))
  clear hc_a hB_a
  intro w5 hs
  obtain ⟨hB_a, hs⟩ := hs
  have Fw5 := Fw4.grown hs Fw4.size (by intro k hk; injection hk with hk; subst hk; first | exact Nat.le_refl _ | exact Fw4.size | omega)
  replace hB_b := hB_b.grown hs (by intro hk; injection hk with hk; have := hB_b.lt; have := hB_a.lt; omega)
  replace hB_c := hB_c.grown hs (by intro hk; injection hk with hk; have := hB_c.lt; have := hB_a.lt; omega)
  clear hs Fw4
  clear hc_b; have hc_b := hB_b.cell
  clear hc_c; have hc_c := hB_c.cell
  have hc_a := hB_a.cell
  clear hA
  repeat (first|(with_reducible first|apply Xa|apply Xb|apply Xc|apply Xd)|((with_reducible apply Xk);(focus rfl);(focus (simp [go_sem,effAt,↓IntWalk.iteOmega, *];(try go_ints);with_reducible first|exact Xm|exact Xn));focus (simp only [Xo,Xp,Xq,Xr,Xs];rfl))|((with_reducible apply Xl);(focus rfl);focus (simp only [Xo,Xp,Xq,Xr,Xs];rfl))|(with_reducible first|apply Xe|apply Xf|apply Xg|apply Xh)|((with_reducible apply Xi);focus first|rfl|(simp [go_sem, *];done))|((with_reducible apply Xj);focus first|rfl|(simp [go_sem, *];done))|(simp only [Exit.then,Exit.inBlock,↓reduceIte,Nat.reduceEqDiff]))
  have lt_a_p := hB_a.lt
  have lt_b_p := hB_b.lt
  have lt_c_p := hB_c.lt
  ((with_reducible apply Xu); (focus rfl); (focus (simp [go_sem, effAt]; exact ⟨rfl, rfl⟩)); (focus ((simp only [Xo,Xp,Xq,Xr,Xs];rfl))))
  intro w6 hB_p hs
  have Fw6 := Fw5.trans (hs.mono Fw5.size)
  replace hB_a := hB_a.below hs hB_a.lt
  replace hB_b := hB_b.below hs hB_b.lt
  replace hB_c := hB_c.below hs hB_c.lt
  clear hs Fw5
  clear hc_a; have hc_a := hB_a.cell
  clear hc_b; have hc_b := hB_b.cell
  clear hc_c; have hc_c := hB_c.cell
  have hc_p := hB_p.cell
  repeat (first|(with_reducible first|apply Xa|apply Xb|apply Xc|apply Xd)|((with_reducible apply Xk);(focus rfl);(focus (simp [go_sem,effAt,↓IntWalk.iteOmega, *];(try go_ints);with_reducible first|exact Xm|exact Xn));focus (simp only [Xo,Xp,Xq,Xr,Xs];rfl))|((with_reducible apply Xl);(focus rfl);focus (simp only [Xo,Xp,Xq,Xr,Xs];rfl))|(with_reducible first|apply Xe|apply Xf|apply Xg|apply Xh)|((with_reducible apply Xi);focus first|rfl|(simp [go_sem, *];done))|((with_reducible apply Xj);focus first|rfl|(simp [go_sem, *];done))|(simp only [Exit.then,Exit.inBlock,↓reduceIte,Nat.reduceEqDiff]))
  have lt_a_q := hB_a.lt
  have lt_b_q := hB_b.lt
  have lt_c_q := hB_c.lt
  have lt_p_q := hB_p.lt
  ((with_reducible apply Xu); (focus rfl); (focus (simp [go_sem, effAt]; exact ⟨rfl, rfl⟩)); (focus ((simp only [Xo,Xp,Xq,Xr,Xs];rfl))))
  intro w7 hB_q hs
  have Fw7 := Fw6.trans (hs.mono Fw6.size)
  replace hB_a := hB_a.below hs hB_a.lt
  replace hB_b := hB_b.below hs hB_b.lt
  replace hB_c := hB_c.below hs hB_c.lt
  replace hB_p := hB_p.below hs hB_p.lt
  clear hs Fw6
  clear hc_a; have hc_a := hB_a.cell
  clear hc_b; have hc_b := hB_b.cell
  clear hc_c; have hc_c := hB_c.cell
  clear hc_p; have hc_p := hB_p.cell
  have hc_q := hB_q.cell
  repeat (first|(with_reducible first|apply Xa|apply Xb|apply Xc|apply Xd)|((with_reducible apply Xk);(focus rfl);(focus (simp [go_sem,effAt,↓IntWalk.iteOmega, *];(try go_ints);with_reducible first|exact Xm|exact Xn));focus (simp only [Xo,Xp,Xq,Xr,Xs];rfl))|((with_reducible apply Xl);(focus rfl);focus (simp only [Xo,Xp,Xq,Xr,Xs];rfl))|(with_reducible first|apply Xe|apply Xf|apply Xg|apply Xh)|((with_reducible apply Xi);focus first|rfl|(simp [go_sem, *];done))|((with_reducible apply Xj);focus first|rfl|(simp [go_sem, *];done))|(simp only [Exit.then,Exit.inBlock,↓reduceIte,Nat.reduceEqDiff]))
  have hf_p := hB_p.frozen
  ((with_reducible apply Xt (fun w' => Blk w' _ _ _ ∧ w7.grownBy w' (some _))); (focus rfl); (focus (simp [go_sem, effAt, *]; exact ⟨rfl, (((((hB_p.set_ 0 _).set_ 1 _).set_ 2 _).set_ 3 _).set_ 4 _), (grown_set (grown_set (grown_set (grown_set (grown_set (World.grownBy.refl _ _))))))⟩)); (focus ((simp only [Xo,Xp,Xq,Xr,Xs];rfl))))
  clear hf_p hc_p hB_p
  intro w8 hs
  obtain ⟨hB_p, hs⟩ := hs
  simp only [Xq,Xr,Xs] at hB_p
  have Fw8 := Fw7.grown hs Fw7.size (by intro k hk; first | (injection hk with hk; subst hk; first | exact Nat.le_refl _ | exact Fw7.size | omega) | omega)
  replace hB_a := hB_a.grown hs (by intro hk; injection hk with hk; have := hB_a.lt; have := hB_p.lt; omega)
  replace hB_b := hB_b.grown hs (by intro hk; injection hk with hk; have := hB_b.lt; have := hB_p.lt; omega)
  replace hB_c := hB_c.grown hs (by intro hk; injection hk with hk; have := hB_c.lt; have := hB_p.lt; omega)
  replace hB_q := hB_q.grown hs (by intro hk; injection hk with hk; have := hB_q.lt; have := hB_p.lt; omega)
  clear hs Fw7
  clear hc_a; have hc_a := hB_a.cell
  clear hc_b; have hc_b := hB_b.cell
  clear hc_c; have hc_c := hB_c.cell
  clear hc_q; have hc_q := hB_q.cell
  have hc_p := hB_p.cell
  repeat (first|(with_reducible first|apply Xa|apply Xb|apply Xc|apply Xd)|((with_reducible apply Xk);(focus rfl);(focus (simp [go_sem,effAt,↓IntWalk.iteOmega, *];(try go_ints);with_reducible first|exact Xm|exact Xn));focus (simp only [Xo,Xp,Xq,Xr,Xs];rfl))|((with_reducible apply Xl);(focus rfl);focus (simp only [Xo,Xp,Xq,Xr,Xs];rfl))|(with_reducible first|apply Xe|apply Xf|apply Xg|apply Xh)|((with_reducible apply Xi);focus first|rfl|(simp [go_sem, *];done))|((with_reducible apply Xj);focus first|rfl|(simp [go_sem, *];done))|(simp only [Exit.then,Exit.inBlock,↓reduceIte,Nat.reduceEqDiff]))
  have hf_q := hB_q.frozen
  ((with_reducible apply Xt (fun w' => Blk w' _ _ _ ∧ w8.grownBy w' (some _))); (focus rfl); (focus (simp [go_sem, effAt, *]; exact ⟨rfl, (((((hB_q.set_ 0 _).set_ 1 _).set_ 2 _).set_ 3 _).set_ 4 _), (grown_set (grown_set (grown_set (grown_set (grown_set (World.grownBy.refl _ _))))))⟩)); (focus ((simp only [Xo,Xp,Xq,Xr,Xs];rfl))))
  clear hf_q hc_q hB_q
  intro w9 hs
  obtain ⟨hB_q, hs⟩ := hs
  simp only [Xq,Xr,Xs] at hB_q
  have Fw9 := Fw8.grown hs Fw8.size (by intro k hk; first | (injection hk with hk; subst hk; first | exact Nat.le_refl _ | exact Fw8.size | omega) | omega)
  replace hB_a := hB_a.grown hs (by intro hk; injection hk with hk; have := hB_a.lt; have := hB_q.lt; omega)
  replace hB_b := hB_b.grown hs (by intro hk; injection hk with hk; have := hB_b.lt; have := hB_q.lt; omega)
  replace hB_c := hB_c.grown hs (by intro hk; injection hk with hk; have := hB_c.lt; have := hB_q.lt; omega)
  replace hB_p := hB_p.grown hs (by intro hk; injection hk with hk; have := hB_p.lt; have := hB_q.lt; omega)
  clear hs Fw8
  clear hc_a; have hc_a := hB_a.cell
  clear hc_b; have hc_b := hB_b.cell
  clear hc_c; have hc_c := hB_c.cell
  clear hc_p; have hc_p := hB_p.cell
  have hc_q := hB_q.cell
  repeat (first|(with_reducible first|apply Xa|apply Xb|apply Xc|apply Xd)|((with_reducible apply Xk);(focus rfl);(focus (simp [go_sem,effAt,↓IntWalk.iteOmega, *];(try go_ints);with_reducible first|exact Xm|exact Xn));focus (simp only [Xo,Xp,Xq,Xr,Xs];rfl))|((with_reducible apply Xl);(focus rfl);focus (simp only [Xo,Xp,Xq,Xr,Xs];rfl))|(with_reducible first|apply Xe|apply Xf|apply Xg|apply Xh)|((with_reducible apply Xi);focus first|rfl|(simp [go_sem, *];done))|((with_reducible apply Xj);focus first|rfl|(simp [go_sem, *];done))|(simp only [Exit.then,Exit.inBlock,↓reduceIte,Nat.reduceEqDiff]))
  ((with_reducible apply Xt (fun w' => Blk w' _ _ _ ∧ w9.grownBy w' (some _))); (focus rfl); (focus (simp only [effAt]; simp [go_sem]; (with_reducible exact effUpon_enter (hO _ _ hB_b)))); (focus ((simp only [Xo,Xp,Xq,Xr,Xs];rfl))))
  clear hc_b hB_b
  intro w10 hs
  obtain ⟨hB_b, hs⟩ := hs
  have Fw10 := Fw9.grown hs Fw9.size (by intro k hk; injection hk with hk; subst hk; first | exact Nat.le_refl _ | exact Fw9.size | omega)
  replace hB_a := hB_a.grown hs (by intro hk; injection hk with hk; have := hB_a.lt; have := hB_b.lt; omega)
  replace hB_c := hB_c.grown hs (by intro hk; injection hk with hk; have := hB_c.lt; have := hB_b.lt; omega)
  replace hB_p := hB_p.grown hs (by intro hk; injection hk with hk; have := hB_p.lt; have := hB_b.lt; omega)
  replace hB_q := hB_q.grown hs (by intro hk; injection hk with hk; have := hB_q.lt; have := hB_b.lt; omega)
  clear hs Fw9
  clear hc_a; have hc_a := hB_a.cell
  clear hc_c; have hc_c := hB_c.cell
  clear hc_p; have hc_p := hB_p.cell
  clear hc_q; have hc_q := hB_q.cell
  have hc_b := hB_b.cell
  clear hO
  repeat (first|(with_reducible first|apply Xa|apply Xb|apply Xc|apply Xd)|((with_reducible apply Xk);(focus rfl);(focus (simp [go_sem,effAt,↓IntWalk.iteOmega, *];(try go_ints);with_reducible first|exact Xm|exact Xn));focus (simp only [Xo,Xp,Xq,Xr,Xs];rfl))|((with_reducible apply Xl);(focus rfl);focus (simp only [Xo,Xp,Xq,Xr,Xs];rfl))|(with_reducible first|apply Xe|apply Xf|apply Xg|apply Xh)|((with_reducible apply Xi);focus first|rfl|(simp [go_sem, *];done))|((with_reducible apply Xj);focus first|rfl|(simp [go_sem, *];done))|(simp only [Exit.then,Exit.inBlock,↓reduceIte,Nat.reduceEqDiff]))
  ((with_reducible apply Xt (fun w' => Blk w' _ _ _ ∧ w10.grownBy w' (some _))); (focus rfl); (focus (simp only [effAt]; simp [go_sem]; (with_reducible exact effUpon_enter (hD1 _ _ hB_b)))); (focus ((simp only [Xo,Xp,Xq,Xr,Xs];rfl))))
  clear hc_b hB_b
  intro w11 hs
  obtain ⟨hB_b, hs⟩ := hs
  have Fw11 := Fw10.grown hs Fw10.size (by intro k hk; injection hk with hk; subst hk; first | exact Nat.le_refl _ | exact Fw10.size | omega)
  replace hB_a := hB_a.grown hs (by intro hk; injection hk with hk; have := hB_a.lt; have := hB_b.lt; omega)
  replace hB_c := hB_c.grown hs (by intro hk; injection hk with hk; have := hB_c.lt; have := hB_b.lt; omega)
  replace hB_p := hB_p.grown hs (by intro hk; injection hk with hk; have := hB_p.lt; have := hB_b.lt; omega)
  replace hB_q := hB_q.grown hs (by intro hk; injection hk with hk; have := hB_q.lt; have := hB_b.lt; omega)
  clear hs Fw10
  clear hc_a; have hc_a := hB_a.cell
  clear hc_c; have hc_c := hB_c.cell
  clear hc_p; have hc_p := hB_p.cell
  clear hc_q; have hc_q := hB_q.cell
  have hc_b := hB_b.cell
  clear hD1
  repeat (first|(with_reducible first|apply Xa|apply Xb|apply Xc|apply Xd)|((with_reducible apply Xk);(focus rfl);(focus (simp [go_sem,effAt,↓IntWalk.iteOmega, *];(try go_ints);with_reducible first|exact Xm|exact Xn));focus (simp only [Xo,Xp,Xq,Xr,Xs];rfl))|((with_reducible apply Xl);(focus rfl);focus (simp only [Xo,Xp,Xq,Xr,Xs];rfl))|(with_reducible first|apply Xe|apply Xf|apply Xg|apply Xh)|((with_reducible apply Xi);focus first|rfl|(simp [go_sem, *];done))|((with_reducible apply Xj);focus first|rfl|(simp [go_sem, *];done))|(simp only [Exit.then,Exit.inBlock,↓reduceIte,Nat.reduceEqDiff]))
  ((with_reducible apply Xt (fun w' => Blk w' _ _ _ ∧ w11.grownBy w' (some _))); (focus rfl); (focus (simp only [effAt]; simp [go_sem]; (with_reducible exact effUpon_enter (hD2 _ _ hB_b)))); (focus ((simp only [Xo,Xp,Xq,Xr,Xs];rfl))))
  clear hc_b hB_b
  intro w12 hs
  obtain ⟨hB_b, hs⟩ := hs
  have Fw12 := Fw11.grown hs Fw11.size (by intro k hk; injection hk with hk; subst hk; first | exact Nat.le_refl _ | exact Fw11.size | omega)
  replace hB_a := hB_a.grown hs (by intro hk; injection hk with hk; have := hB_a.lt; have := hB_b.lt; omega)
  replace hB_c := hB_c.grown hs (by intro hk; injection hk with hk; have := hB_c.lt; have := hB_b.lt; omega)
  replace hB_p := hB_p.grown hs (by intro hk; injection hk with hk; have := hB_p.lt; have := hB_b.lt; omega)
  replace hB_q := hB_q.grown hs (by intro hk; injection hk with hk; have := hB_q.lt; have := hB_b.lt; omega)
  clear hs Fw11
  clear hc_a; have hc_a := hB_a.cell
  clear hc_c; have hc_c := hB_c.cell
  clear hc_p; have hc_p := hB_p.cell
  clear hc_q; have hc_q := hB_q.cell
  have hc_b := hB_b.cell
  clear hD2
  repeat (first|(with_reducible first|apply Xa|apply Xb|apply Xc|apply Xd)|((with_reducible apply Xk);(focus rfl);(focus (simp [go_sem,effAt,↓IntWalk.iteOmega, *];(try go_ints);with_reducible first|exact Xm|exact Xn));focus (simp only [Xo,Xp,Xq,Xr,Xs];rfl))|((with_reducible apply Xl);(focus rfl);focus (simp only [Xo,Xp,Xq,Xr,Xs];rfl))|(with_reducible first|apply Xe|apply Xf|apply Xg|apply Xh)|((with_reducible apply Xi);focus first|rfl|(simp [go_sem, *];done))|((with_reducible apply Xj);focus first|rfl|(simp [go_sem, *];done))|(simp only [Exit.then,Exit.inBlock,↓reduceIte,Nat.reduceEqDiff]))
  have lt_a_r := hB_a.lt
  have lt_b_r := hB_b.lt
  have lt_c_r := hB_c.lt
  have lt_p_r := hB_p.lt
  have lt_q_r := hB_q.lt
  ((with_reducible apply Xu); (focus rfl); (focus (simp [go_sem, effAt]; exact ⟨rfl, rfl⟩)); (focus ((simp only [Xo,Xp,Xq,Xr,Xs];rfl))))
  intro w13 hB_r hs
  have Fw13 := Fw12.trans (hs.mono Fw12.size)
  replace hB_a := hB_a.below hs hB_a.lt
  replace hB_b := hB_b.below hs hB_b.lt
  replace hB_c := hB_c.below hs hB_c.lt
  replace hB_p := hB_p.below hs hB_p.lt
  replace hB_q := hB_q.below hs hB_q.lt
  clear hs Fw12
  clear hc_a; have hc_a := hB_a.cell
  clear hc_b; have hc_b := hB_b.cell
  clear hc_c; have hc_c := hB_c.cell
  clear hc_p; have hc_p := hB_p.cell
  clear hc_q; have hc_q := hB_q.cell
  have hc_r := hB_r.cell
  repeat (first|(with_reducible first|apply Xa|apply Xb|apply Xc|apply Xd)|((with_reducible apply Xk);(focus rfl);(focus (simp [go_sem,effAt,↓IntWalk.iteOmega, *];(try go_ints);with_reducible first|exact Xm|exact Xn));focus (simp only [Xo,Xp,Xq,Xr,Xs];rfl))|((with_reducible apply Xl);(focus rfl);focus (simp only [Xo,Xp,Xq,Xr,Xs];rfl))|(with_reducible first|apply Xe|apply Xf|apply Xg|apply Xh)|((with_reducible apply Xi);focus first|rfl|(simp [go_sem, *];done))|((with_reducible apply Xj);focus first|rfl|(simp [go_sem, *];done))|(simp only [Exit.then,Exit.inBlock,↓reduceIte,Nat.reduceEqDiff]))
  have lt_a_s := hB_a.lt
  have lt_b_s := hB_b.lt
  have lt_c_s := hB_c.lt
  have lt_p_s := hB_p.lt
  have lt_q_s := hB_q.lt
  have lt_r_s := hB_r.lt
  ((with_reducible apply Xu); (focus rfl); (focus (simp [go_sem, effAt]; exact ⟨rfl, rfl⟩)); (focus ((simp only [Xo,Xp,Xq,Xr,Xs];rfl))))
  intro w14 hB_s hs
  have Fw14 := Fw13.trans (hs.mono Fw13.size)
  replace hB_a := hB_a.below hs hB_a.lt
  replace hB_b := hB_b.below hs hB_b.lt
  replace hB_c := hB_c.below hs hB_c.lt
  replace hB_p := hB_p.below hs hB_p.lt
  replace hB_q := hB_q.below hs hB_q.lt
  replace hB_r := hB_r.below hs hB_r.lt
  clear hs Fw13
  clear hc_a; have hc_a := hB_a.cell
  clear hc_b; have hc_b := hB_b.cell
  clear hc_c; have hc_c := hB_c.cell
  clear hc_p; have hc_p := hB_p.cell
  clear hc_q; have hc_q := hB_q.cell
  clear hc_r; have hc_r := hB_r.cell
  have hc_s := hB_s.cell
  repeat (first|(with_reducible first|apply Xa|apply Xb|apply Xc|apply Xd)|((with_reducible apply Xk);(focus rfl);(focus (simp [go_sem,effAt,↓IntWalk.iteOmega, *];(try go_ints);with_reducible first|exact Xm|exact Xn));focus (simp only [Xo,Xp,Xq,Xr,Xs];rfl))|((with_reducible apply Xl);(focus rfl);focus (simp only [Xo,Xp,Xq,Xr,Xs];rfl))|(with_reducible first|apply Xe|apply Xf|apply Xg|apply Xh)|((with_reducible apply Xi);focus first|rfl|(simp [go_sem, *];done))|((with_reducible apply Xj);focus first|rfl|(simp [go_sem, *];done))|(simp only [Exit.then,Exit.inBlock,↓reduceIte,Nat.reduceEqDiff]))
  have hf_r := hB_r.frozen
  ((with_reducible apply Xt (fun w' => Blk w' _ _ _ ∧ w14.grownBy w' (some _))); (focus rfl); (focus (simp [go_sem, effAt, *]; exact ⟨rfl, (((((hB_r.set_ 0 _).set_ 1 _).set_ 2 _).set_ 3 _).set_ 4 _), (grown_set (grown_set (grown_set (grown_set (grown_set (World.grownBy.refl _ _))))))⟩)); (focus ((simp only [Xo,Xp,Xq,Xr,Xs];rfl))))
  clear hf_r hc_r hB_r
  intro w15 hs
  obtain ⟨hB_r, hs⟩ := hs
  simp only [Xq,Xr,Xs] at hB_r
  have Fw15 := Fw14.grown hs Fw14.size (by intro k hk; first | (injection hk with hk; subst hk; first | exact Nat.le_refl _ | exact Fw14.size | omega) | omega)
  replace hB_a := hB_a.grown hs (by intro hk; injection hk with hk; have := hB_a.lt; have := hB_r.lt; omega)
  replace hB_b := hB_b.grown hs (by intro hk; injection hk with hk; have := hB_b.lt; have := hB_r.lt; omega)
  replace hB_c := hB_c.grown hs (by intro hk; injection hk with hk; have := hB_c.lt; have := hB_r.lt; omega)
  replace hB_p := hB_p.grown hs (by intro hk; injection hk with hk; have := hB_p.lt; have := hB_r.lt; omega)
  replace hB_q := hB_q.grown hs (by intro hk; injection hk with hk; have := hB_q.lt; have := hB_r.lt; omega)
  replace hB_s := hB_s.grown hs (by intro hk; injection hk with hk; have := hB_s.lt; have := hB_r.lt; omega)
  clear hs Fw14
  clear hc_a; have hc_a := hB_a.cell
  clear hc_b; have hc_b := hB_b.cell
  clear hc_c; have hc_c := hB_c.cell
  clear hc_p; have hc_p := hB_p.cell
  clear hc_q; have hc_q := hB_q.cell
  clear hc_s; have hc_s := hB_s.cell
  have hc_r := hB_r.cell
  repeat (first|(with_reducible first|apply Xa|apply Xb|apply Xc|apply Xd)|((with_reducible apply Xk);(focus rfl);(focus (simp [go_sem,effAt,↓IntWalk.iteOmega, *];(try go_ints);with_reducible first|exact Xm|exact Xn));focus (simp only [Xo,Xp,Xq,Xr,Xs];rfl))|((with_reducible apply Xl);(focus rfl);focus (simp only [Xo,Xp,Xq,Xr,Xs];rfl))|(with_reducible first|apply Xe|apply Xf|apply Xg|apply Xh)|((with_reducible apply Xi);focus first|rfl|(simp [go_sem, *];done))|((with_reducible apply Xj);focus first|rfl|(simp [go_sem, *];done))|(simp only [Exit.then,Exit.inBlock,↓reduceIte,Nat.reduceEqDiff]))
  have hf_s := hB_s.frozen
  ((with_reducible apply Xt (fun w' => Blk w' _ _ _ ∧ w15.grownBy w' (some _))); (focus rfl); (focus (simp [go_sem, effAt, *]; exact ⟨rfl, (((((hB_s.set_ 0 _).set_ 1 _).set_ 2 _).set_ 3 _).set_ 4 _), (grown_set (grown_set (grown_set (grown_set (grown_set (World.grownBy.refl _ _))))))⟩)); (focus ((simp only [Xo,Xp,Xq,Xr,Xs];rfl))))
  clear hf_s hc_s hB_s
  intro w16 hs
  obtain ⟨hB_s, hs⟩ := hs
  simp only [Xq,Xr,Xs] at hB_s
  have Fw16 := Fw15.grown hs Fw15.size (by intro k hk; first | (injection hk with hk; subst hk; first | exact Nat.le_refl _ | exact Fw15.size | omega) | omega)
  replace hB_a := hB_a.grown hs (by intro hk; injection hk with hk; have := hB_a.lt; have := hB_s.lt; omega)
  replace hB_b := hB_b.grown hs (by intro hk; injection hk with hk; have := hB_b.lt; have := hB_s.lt; omega)
  replace hB_c := hB_c.grown hs (by intro hk; injection hk with hk; have := hB_c.lt; have := hB_s.lt; omega)
  replace hB_p := hB_p.grown hs (by intro hk; injection hk with hk; have := hB_p.lt; have := hB_s.lt; omega)
  replace hB_q := hB_q.grown hs (by intro hk; injection hk with hk; have := hB_q.lt; have := hB_s.lt; omega)
  replace hB_r := hB_r.grown hs (by intro hk; injection hk with hk; have := hB_r.lt; have := hB_s.lt; omega)
  clear hs Fw15
  clear hc_a; have hc_a := hB_a.cell
  clear hc_b; have hc_b := hB_b.cell
  clear hc_c; have hc_c := hB_c.cell
  clear hc_p; have hc_p := hB_p.cell
  clear hc_q; have hc_q := hB_q.cell
  clear hc_r; have hc_r := hB_r.cell
  have hc_s := hB_s.cell
  repeat (first|(with_reducible first|apply Xa|apply Xb|apply Xc|apply Xd)|((with_reducible apply Xk);(focus rfl);(focus (simp [go_sem,effAt,↓IntWalk.iteOmega, *];(try go_ints);with_reducible first|exact Xm|exact Xn));focus (simp only [Xo,Xp,Xq,Xr,Xs];rfl))|((with_reducible apply Xl);(focus rfl);focus (simp only [Xo,Xp,Xq,Xr,Xs];rfl))|(with_reducible first|apply Xe|apply Xf|apply Xg|apply Xh)|((with_reducible apply Xi);focus first|rfl|(simp [go_sem, *];done))|((with_reducible apply Xj);focus first|rfl|(simp [go_sem, *];done))|(simp only [Exit.then,Exit.inBlock,↓reduceIte,Nat.reduceEqDiff]))
  ((with_reducible apply Xt (fun w' => Blk w' _ _ _ ∧ w16.grownBy w' (some _))); (focus rfl); (focus (simp only [effAt]; simp [go_sem]; (with_reducible exact effUpon_enter (hL _ _ hB_c)))); (focus ((simp only [Xo,Xp,Xq,Xr,Xs];rfl))))
  clear hc_c hB_c
  intro w17 hs
  obtain ⟨hB_c, hs⟩ := hs
  have Fw17 := Fw16.grown hs Fw16.size (by intro k hk; injection hk with hk; subst hk; first | exact Nat.le_refl _ | exact Fw16.size | omega)
  replace hB_a := hB_a.grown hs (by intro hk; injection hk with hk; have := hB_a.lt; have := hB_c.lt; omega)
  replace hB_b := hB_b.grown hs (by intro hk; injection hk with hk; have := hB_b.lt; have := hB_c.lt; omega)
  replace hB_p := hB_p.grown hs (by intro hk; injection hk with hk; have := hB_p.lt; have := hB_c.lt; omega)
  replace hB_q := hB_q.grown hs (by intro hk; injection hk with hk; have := hB_q.lt; have := hB_c.lt; omega)
  replace hB_r := hB_r.grown hs (by intro hk; injection hk with hk; have := hB_r.lt; have := hB_c.lt; omega)
  replace hB_s := hB_s.grown hs (by intro hk; injection hk with hk; have := hB_s.lt; have := hB_c.lt; omega)
  clear hs Fw16
  clear hc_a; have hc_a := hB_a.cell
  clear hc_b; have hc_b := hB_b.cell
  clear hc_p; have hc_p := hB_p.cell
  clear hc_q; have hc_q := hB_q.cell
  clear hc_r; have hc_r := hB_r.cell
  clear hc_s; have hc_s := hB_s.cell
  have hc_c := hB_c.cell
  clear hL
  repeat (first|(with_reducible first|apply Xa|apply Xb|apply Xc|apply Xd)|((with_reducible apply Xk);(focus rfl);(focus (simp [go_sem,effAt,↓IntWalk.iteOmega, *];(try go_ints);with_reducible first|exact Xm|exact Xn));focus (simp only [Xo,Xp,Xq,Xr,Xs];rfl))|((with_reducible apply Xl);(focus rfl);focus (simp only [Xo,Xp,Xq,Xr,Xs];rfl))|(with_reducible first|apply Xe|apply Xf|apply Xg|apply Xh)|((with_reducible apply Xi);focus first|rfl|(simp [go_sem, *];done))|((with_reducible apply Xj);focus first|rfl|(simp [go_sem, *];done))|(simp only [Exit.then,Exit.inBlock,↓reduceIte,Nat.reduceEqDiff]))
  ((with_reducible apply Xt (fun w' => Blk w' _ _ _ ∧ w17.grownBy w' (some _))); (focus rfl); (focus (simp only [effAt]; simp [go_sem]; (with_reducible exact effUpon_enter (hC1 _ _ hB_c)))); (focus ((simp only [Xo,Xp,Xq,Xr,Xs];rfl))))
  clear hc_c hB_c
  intro w18 hs
  obtain ⟨hB_c, hs⟩ := hs
  have Fw18 := Fw17.grown hs Fw17.size (by intro k hk; injection hk with hk; subst hk; first | exact Nat.le_refl _ | exact Fw17.size | omega)
  replace hB_a := hB_a.grown hs (by intro hk; injection hk with hk; have := hB_a.lt; have := hB_c.lt; omega)
  replace hB_b := hB_b.grown hs (by intro hk; injection hk with hk; have := hB_b.lt; have := hB_c.lt; omega)
  replace hB_p := hB_p.grown hs (by intro hk; injection hk with hk; have := hB_p.lt; have := hB_c.lt; omega)
  replace hB_q := hB_q.grown hs (by intro hk; injection hk with hk; have := hB_q.lt; have := hB_c.lt; omega)
  replace hB_r := hB_r.grown hs (by intro hk; injection hk with hk; have := hB_r.lt; have := hB_c.lt; omega)
  replace hB_s := hB_s.grown hs (by intro hk; injection hk with hk; have := hB_s.lt; have := hB_c.lt; omega)
  clear hs Fw17
  clear hc_a; have hc_a := hB_a.cell
  clear hc_b; have hc_b := hB_b.cell
  clear hc_p; have hc_p := hB_p.cell
  clear hc_q; have hc_q := hB_q.cell
  clear hc_r; have hc_r := hB_r.cell
  clear hc_s; have hc_s := hB_s.cell
  have hc_c := hB_c.cell
  clear hC1
  repeat (first|(with_reducible first|apply Xa|apply Xb|apply Xc|apply Xd)|((with_reducible apply Xk);(focus rfl);(focus (simp [go_sem,effAt,↓IntWalk.iteOmega, *];(try go_ints);with_reducible first|exact Xm|exact Xn));focus (simp only [Xo,Xp,Xq,Xr,Xs];rfl))|((with_reducible apply Xl);(focus rfl);focus (simp only [Xo,Xp,Xq,Xr,Xs];rfl))|(with_reducible first|apply Xe|apply Xf|apply Xg|apply Xh)|((with_reducible apply Xi);focus first|rfl|(simp [go_sem, *];done))|((with_reducible apply Xj);focus first|rfl|(simp [go_sem, *];done))|(simp only [Exit.then,Exit.inBlock,↓reduceIte,Nat.reduceEqDiff]))
  ((with_reducible apply Xt (fun w' => Blk w' _ _ _ ∧ w18.grownBy w' (some _))); (focus rfl); (focus (simp only [effAt]; simp [go_sem]; (with_reducible exact effUpon_enter (hC2 _ _ hB_c)))); (focus ((simp only [Xo,Xp,Xq,Xr,Xs];rfl))))
  clear hc_c hB_c
  intro w19 hs
  obtain ⟨hB_c, hs⟩ := hs
  have Fw19 := Fw18.grown hs Fw18.size (by intro k hk; injection hk with hk; subst hk; first | exact Nat.le_refl _ | exact Fw18.size | omega)
  replace hB_a := hB_a.grown hs (by intro hk; injection hk with hk; have := hB_a.lt; have := hB_c.lt; omega)
  replace hB_b := hB_b.grown hs (by intro hk; injection hk with hk; have := hB_b.lt; have := hB_c.lt; omega)
  replace hB_p := hB_p.grown hs (by intro hk; injection hk with hk; have := hB_p.lt; have := hB_c.lt; omega)
  replace hB_q := hB_q.grown hs (by intro hk; injection hk with hk; have := hB_q.lt; have := hB_c.lt; omega)
  replace hB_r := hB_r.grown hs (by intro hk; injection hk with hk; have := hB_r.lt; have := hB_c.lt; omega)
  replace hB_s := hB_s.grown hs (by intro hk; injection hk with hk; have := hB_s.lt; have := hB_c.lt; omega)
  clear hs Fw18
  clear hc_a; have hc_a := hB_a.cell
  clear hc_b; have hc_b := hB_b.cell
  clear hc_p; have hc_p := hB_p.cell
  clear hc_q; have hc_q := hB_q.cell
  clear hc_r; have hc_r := hB_r.cell
  clear hc_s; have hc_s := hB_s.cell
  have hc_c := hB_c.cell
  clear hC2
  repeat (first|(with_reducible first|apply Xa|apply Xb|apply Xc|apply Xd)|((with_reducible apply Xk);(focus rfl);(focus (simp [go_sem,effAt,↓IntWalk.iteOmega, *];(try go_ints);with_reducible first|exact Xm|exact Xn));focus (simp only [Xo,Xp,Xq,Xr,Xs];rfl))|((with_reducible apply Xl);(focus rfl);focus (simp only [Xo,Xp,Xq,Xr,Xs];rfl))|(with_reducible first|apply Xe|apply Xf|apply Xg|apply Xh)|((with_reducible apply Xi);focus first|rfl|(simp [go_sem, *];done))|((with_reducible apply Xj);focus first|rfl|(simp [go_sem, *];done))|(simp only [Exit.then,Exit.inBlock,↓reduceIte,Nat.reduceEqDiff]))
  have lt_a_t := hB_a.lt
  have lt_b_t := hB_b.lt
  have lt_c_t := hB_c.lt
  have lt_p_t := hB_p.lt
  have lt_q_t := hB_q.lt
  have lt_r_t := hB_r.lt
  have lt_s_t := hB_s.lt
  ((with_reducible apply Xu); (focus rfl); (focus (simp [go_sem, effAt]; exact ⟨rfl, rfl⟩)); (focus ((simp only [Xo,Xp,Xq,Xr,Xs];rfl))))
  intro w20 hB_t hs
  have Fw20 := Fw19.trans (hs.mono Fw19.size)
  replace hB_a := hB_a.below hs hB_a.lt
  replace hB_b := hB_b.below hs hB_b.lt
  replace hB_c := hB_c.below hs hB_c.lt
  replace hB_p := hB_p.below hs hB_p.lt
  replace hB_q := hB_q.below hs hB_q.lt
  replace hB_r := hB_r.below hs hB_r.lt
  replace hB_s := hB_s.below hs hB_s.lt
  clear hs Fw19
  clear hc_a; have hc_a := hB_a.cell
  clear hc_b; have hc_b := hB_b.cell
  clear hc_c; have hc_c := hB_c.cell
  clear hc_p; have hc_p := hB_p.cell
  clear hc_q; have hc_q := hB_q.cell
  clear hc_r; have hc_r := hB_r.cell
  clear hc_s; have hc_s := hB_s.cell
  have hc_t := hB_t.cell
  repeat (first|(with_reducible first|apply Xa|apply Xb|apply Xc|apply Xd)|((with_reducible apply Xk);(focus rfl);(focus (simp [go_sem,effAt,↓IntWalk.iteOmega, *];(try go_ints);with_reducible first|exact Xm|exact Xn));focus (simp only [Xo,Xp,Xq,Xr,Xs];rfl))|((with_reducible apply Xl);(focus rfl);focus (simp only [Xo,Xp,Xq,Xr,Xs];rfl))|(with_reducible first|apply Xe|apply Xf|apply Xg|apply Xh)|((with_reducible apply Xi);focus first|rfl|(simp [go_sem, *];done))|((with_reducible apply Xj);focus first|rfl|(simp [go_sem, *];done))|(simp only [Exit.then,Exit.inBlock,↓reduceIte,Nat.reduceEqDiff]))
  have lt_a_u := hB_a.lt
  have lt_b_u := hB_b.lt
  have lt_c_u := hB_c.lt
  have lt_p_u := hB_p.lt
  have lt_q_u := hB_q.lt
  have lt_r_u := hB_r.lt
  have lt_s_u := hB_s.lt
  have lt_t_u := hB_t.lt
  ((with_reducible apply Xu); (focus rfl); (focus (simp [go_sem, effAt]; exact ⟨rfl, rfl⟩)); (focus ((simp only [Xo,Xp,Xq,Xr,Xs];rfl))))
  intro w21 hB_u hs
  have Fw21 := Fw20.trans (hs.mono Fw20.size)
  replace hB_a := hB_a.below hs hB_a.lt
  replace hB_b := hB_b.below hs hB_b.lt
  replace hB_c := hB_c.below hs hB_c.lt
  replace hB_p := hB_p.below hs hB_p.lt
  replace hB_q := hB_q.below hs hB_q.lt
  replace hB_r := hB_r.below hs hB_r.lt
  replace hB_s := hB_s.below hs hB_s.lt
  replace hB_t := hB_t.below hs hB_t.lt
  clear hs Fw20
  clear hc_a; have hc_a := hB_a.cell
  clear hc_b; have hc_b := hB_b.cell
  clear hc_c; have hc_c := hB_c.cell
  clear hc_p; have hc_p := hB_p.cell
  clear hc_q; have hc_q := hB_q.cell
  clear hc_r; have hc_r := hB_r.cell
  clear hc_s; have hc_s := hB_s.cell
  clear hc_t; have hc_t := hB_t.cell
  have hc_u := hB_u.cell
  repeat (first|(with_reducible first|apply Xa|apply Xb|apply Xc|apply Xd)|((with_reducible apply Xk);(focus rfl);(focus (simp [go_sem,effAt,↓IntWalk.iteOmega, *];(try go_ints);with_reducible first|exact Xm|exact Xn));focus (simp only [Xo,Xp,Xq,Xr,Xs];rfl))|((with_reducible apply Xl);(focus rfl);focus (simp only [Xo,Xp,Xq,Xr,Xs];rfl))|(with_reducible first|apply Xe|apply Xf|apply Xg|apply Xh)|((with_reducible apply Xi);focus first|rfl|(simp [go_sem, *];done))|((with_reducible apply Xj);focus first|rfl|(simp [go_sem, *];done))|(simp only [Exit.then,Exit.inBlock,↓reduceIte,Nat.reduceEqDiff]))
  have hf_t := hB_t.frozen
  ((with_reducible apply Xt (fun w' => Blk w' _ _ _ ∧ w21.grownBy w' (some _))); (focus rfl); (focus (simp [go_sem, effAt, *]; exact ⟨rfl, (((((hB_t.set_ 0 _).set_ 1 _).set_ 2 _).set_ 3 _).set_ 4 _), (grown_set (grown_set (grown_set (grown_set (grown_set (World.grownBy.refl _ _))))))⟩)); (focus ((simp only [Xo,Xp,Xq,Xr,Xs];rfl))))
  clear hf_t hc_t hB_t
  intro w22 hs
  obtain ⟨hB_t, hs⟩ := hs
  simp only [Xq,Xr,Xs] at hB_t
  have Fw22 := Fw21.grown hs Fw21.size (by intro k hk; first | (injection hk with hk; subst hk; first | exact Nat.le_refl _ | exact Fw21.size | omega) | omega)
  replace hB_a := hB_a.grown hs (by intro hk; injection hk with hk; have := hB_a.lt; have := hB_t.lt; omega)
  replace hB_b := hB_b.grown hs (by intro hk; injection hk with hk; have := hB_b.lt; have := hB_t.lt; omega)
  replace hB_c := hB_c.grown hs (by intro hk; injection hk with hk; have := hB_c.lt; have := hB_t.lt; omega)
  replace hB_p := hB_p.grown hs (by intro hk; injection hk with hk; have := hB_p.lt; have := hB_t.lt; omega)
  replace hB_q := hB_q.grown hs (by intro hk; injection hk with hk; have := hB_q.lt; have := hB_t.lt; omega)
  replace hB_r := hB_r.grown hs (by intro hk; injection hk with hk; have := hB_r.lt; have := hB_t.lt; omega)
  replace hB_s := hB_s.grown hs (by intro hk; injection hk with hk; have := hB_s.lt; have := hB_t.lt; omega)
  replace hB_u := hB_u.grown hs (by intro hk; injection hk with hk; have := hB_u.lt; have := hB_t.lt; omega)
  clear hs Fw21
  clear hc_a; have hc_a := hB_a.cell
  clear hc_b; have hc_b := hB_b.cell
  clear hc_c; have hc_c := hB_c.cell
  clear hc_p; have hc_p := hB_p.cell
  clear hc_q; have hc_q := hB_q.cell
  clear hc_r; have hc_r := hB_r.cell
  clear hc_s; have hc_s := hB_s.cell
  clear hc_u; have hc_u := hB_u.cell
  have hc_t := hB_t.cell
  repeat (first|(with_reducible first|apply Xa|apply Xb|apply Xc|apply Xd)|((with_reducible apply Xk);(focus rfl);(focus (simp [go_sem,effAt,↓IntWalk.iteOmega, *];(try go_ints);with_reducible first|exact Xm|exact Xn));focus (simp only [Xo,Xp,Xq,Xr,Xs];rfl))|((with_reducible apply Xl);(focus rfl);focus (simp only [Xo,Xp,Xq,Xr,Xs];rfl))|(with_reducible first|apply Xe|apply Xf|apply Xg|apply Xh)|((with_reducible apply Xi);focus first|rfl|(simp [go_sem, *];done))|((with_reducible apply Xj);focus first|rfl|(simp [go_sem, *];done))|(simp only [Exit.then,Exit.inBlock,↓reduceIte,Nat.reduceEqDiff]))
  have hf_u := hB_u.frozen
  ((with_reducible apply Xt (fun w' => Blk w' _ _ _ ∧ w22.grownBy w' (some _))); (focus rfl); (focus (simp [go_sem, effAt, *]; exact ⟨rfl, (((((hB_u.set_ 0 _).set_ 1 _).set_ 2 _).set_ 3 _).set_ 4 _), (grown_set (grown_set (grown_set (grown_set (grown_set (World.grownBy.refl _ _))))))⟩)); (focus ((simp only [Xo,Xp,Xq,Xr,Xs];rfl))))
  clear hf_u hc_u hB_u
  intro w23 hs
  obtain ⟨hB_u, hs⟩ := hs
  simp only [Xq,Xr,Xs] at hB_u
  have Fw23 := Fw22.grown hs Fw22.size (by intro k hk; first | (injection hk with hk; subst hk; first | exact Nat.le_refl _ | exact Fw22.size | omega) | omega)
  replace hB_a := hB_a.grown hs (by intro hk; injection hk with hk; have := hB_a.lt; have := hB_u.lt; omega)
  replace hB_b := hB_b.grown hs (by intro hk; injection hk with hk; have := hB_b.lt; have := hB_u.lt; omega)
  replace hB_c := hB_c.grown hs (by intro hk; injection hk with hk; have := hB_c.lt; have := hB_u.lt; omega)
  replace hB_p := hB_p.grown hs (by intro hk; injection hk with hk; have := hB_p.lt; have := hB_u.lt; omega)
  replace hB_q := hB_q.grown hs (by intro hk; injection hk with hk; have := hB_q.lt; have := hB_u.lt; omega)
  replace hB_r := hB_r.grown hs (by intro hk; injection hk with hk; have := hB_r.lt; have := hB_u.lt; omega)
  replace hB_s := hB_s.grown hs (by intro hk; injection hk with hk; have := hB_s.lt; have := hB_u.lt; omega)
  replace hB_t := hB_t.grown hs (by intro hk; injection hk with hk; have := hB_t.lt; have := hB_u.lt; omega)
  clear hs Fw22
  clear hc_a; have hc_a := hB_a.cell
  clear hc_b; have hc_b := hB_b.cell
  clear hc_c; have hc_c := hB_c.cell
  clear hc_p; have hc_p := hB_p.cell
  clear hc_q; have hc_q := hB_q.cell
  clear hc_r; have hc_r := hB_r.cell
  clear hc_s; have hc_s := hB_s.cell
  clear hc_t; have hc_t := hB_t.cell
  have hc_u := hB_u.cell
  repeat (first|(with_reducible first|apply Xa|apply Xb|apply Xc|apply Xd)|((with_reducible apply Xk);(focus rfl);(focus (simp [go_sem,effAt,↓IntWalk.iteOmega, *];(try go_ints);with_reducible first|exact Xm|exact Xn));focus (simp only [Xo,Xp,Xq,Xr,Xs];rfl))|((with_reducible apply Xl);(focus rfl);focus (simp only [Xo,Xp,Xq,Xr,Xs];rfl))|(with_reducible first|apply Xe|apply Xf|apply Xg|apply Xh)|((with_reducible apply Xi);focus first|rfl|(simp [go_sem, *];done))|((with_reducible apply Xj);focus first|rfl|(simp [go_sem, *];done))|(simp only [Exit.then,Exit.inBlock,↓reduceIte,Nat.reduceEqDiff]))
  have lt_a_v := hB_a.lt
  have lt_b_v := hB_b.lt
  have lt_c_v := hB_c.lt
  have lt_p_v := hB_p.lt
  have lt_q_v := hB_q.lt
  have lt_r_v := hB_r.lt
  have lt_s_v := hB_s.lt
  have lt_t_v := hB_t.lt
  have lt_u_v := hB_u.lt
  ((with_reducible apply Xu); (focus rfl); (focus (simp [go_sem, effAt]; exact ⟨rfl, rfl⟩)); (focus ((simp only [Xo,Xp,Xq,Xr,Xs];rfl))))
  intro w24 hB_v hs
  have Fw24 := Fw23.trans (hs.mono Fw23.size)
  replace hB_a := hB_a.below hs hB_a.lt
  replace hB_b := hB_b.below hs hB_b.lt
  replace hB_c := hB_c.below hs hB_c.lt
  replace hB_p := hB_p.below hs hB_p.lt
  replace hB_q := hB_q.below hs hB_q.lt
  replace hB_r := hB_r.below hs hB_r.lt
  replace hB_s := hB_s.below hs hB_s.lt
  replace hB_t := hB_t.below hs hB_t.lt
  replace hB_u := hB_u.below hs hB_u.lt
  clear hs Fw23
  clear hc_a; have hc_a := hB_a.cell
  clear hc_b; have hc_b := hB_b.cell
  clear hc_c; have hc_c := hB_c.cell
  clear hc_p; have hc_p := hB_p.cell
  clear hc_q; have hc_q := hB_q.cell
  clear hc_r; have hc_r := hB_r.cell
  clear hc_s; have hc_s := hB_s.cell
  clear hc_t; have hc_t := hB_t.cell
  clear hc_u; have hc_u := hB_u.cell
  have hc_v := hB_v.cell
  repeat (first|(with_reducible first|apply Xa|apply Xb|apply Xc|apply Xd)|((with_reducible apply Xk);(focus rfl);(focus (simp [go_sem,effAt,↓IntWalk.iteOmega, *];(try go_ints);with_reducible first|exact Xm|exact Xn));focus (simp only [Xo,Xp,Xq,Xr,Xs];rfl))|((with_reducible apply Xl);(focus rfl);focus (simp only [Xo,Xp,Xq,Xr,Xs];rfl))|(with_reducible first|apply Xe|apply Xf|apply Xg|apply Xh)|((with_reducible apply Xi);focus first|rfl|(simp [go_sem, *];done))|((with_reducible apply Xj);focus first|rfl|(simp [go_sem, *];done))|(simp only [Exit.then,Exit.inBlock,↓reduceIte,Nat.reduceEqDiff]))
  have hf_v := hB_v.frozen
  ((with_reducible apply Xt (fun w' => Blk w' _ _ _ ∧ w24.grownBy w' (some _))); (focus rfl); (focus (simp [go_sem, effAt, *]; exact ⟨rfl, (((((hB_v.set_ 0 _).set_ 1 _).set_ 2 _).set_ 3 _).set_ 4 _), (grown_set (grown_set (grown_set (grown_set (grown_set (World.grownBy.refl _ _))))))⟩)); (focus ((simp only [Xo,Xp,Xq,Xr,Xs];rfl))))
  clear hf_v hc_v hB_v
  intro w25 hs
  obtain ⟨hB_v, hs⟩ := hs
  simp only [Xq,Xr,Xs] at hB_v
  have Fw25 := Fw24.grown hs Fw24.size (by intro k hk; first | (injection hk with hk; subst hk; first | exact Nat.le_refl _ | exact Fw24.size | omega) | omega)
  replace hB_a := hB_a.grown hs (by intro hk; injection hk with hk; have := hB_a.lt; have := hB_v.lt; omega)
  replace hB_b := hB_b.grown hs (by intro hk; injection hk with hk; have := hB_b.lt; have := hB_v.lt; omega)
  replace hB_c := hB_c.grown hs (by intro hk; injection hk with hk; have := hB_c.lt; have := hB_v.lt; omega)
  replace hB_p := hB_p.grown hs (by intro hk; injection hk with hk; have := hB_p.lt; have := hB_v.lt; omega)
  replace hB_q := hB_q.grown hs (by intro hk; injection hk with hk; have := hB_q.lt; have := hB_v.lt; omega)
  replace hB_r := hB_r.grown hs (by intro hk; injection hk with hk; have := hB_r.lt; have := hB_v.lt; omega)
  replace hB_s := hB_s.grown hs (by intro hk; injection hk with hk; have := hB_s.lt; have := hB_v.lt; omega)
  replace hB_t := hB_t.grown hs (by intro hk; injection hk with hk; have := hB_t.lt; have := hB_v.lt; omega)
  replace hB_u := hB_u.grown hs (by intro hk; injection hk with hk; have := hB_u.lt; have := hB_v.lt; omega)
  clear hs Fw24
  clear hc_a; have hc_a := hB_a.cell
  clear hc_b; have hc_b := hB_b.cell
  clear hc_c; have hc_c := hB_c.cell
  clear hc_p; have hc_p := hB_p.cell
  clear hc_q; have hc_q := hB_q.cell
  clear hc_r; have hc_r := hB_r.cell
  clear hc_s; have hc_s := hB_s.cell
  clear hc_t; have hc_t := hB_t.cell
  clear hc_u; have hc_u := hB_u.cell
  have hc_v := hB_v.cell
  repeat (first|(with_reducible first|apply Xa|apply Xb|apply Xc|apply Xd)|((with_reducible apply Xk);(focus rfl);(focus (simp [go_sem,effAt,↓IntWalk.iteOmega, *];(try go_ints);with_reducible first|exact Xm|exact Xn));focus (simp only [Xo,Xp,Xq,Xr,Xs];rfl))|((with_reducible apply Xl);(focus rfl);focus (simp only [Xo,Xp,Xq,Xr,Xs];rfl))|(with_reducible first|apply Xe|apply Xf|apply Xg|apply Xh)|((with_reducible apply Xi);focus first|rfl|(simp [go_sem, *];done))|((with_reducible apply Xj);focus first|rfl|(simp [go_sem, *];done))|(simp only [Exit.then,Exit.inBlock,↓reduceIte,Nat.reduceEqDiff]))
  ((with_reducible apply Xt (Below w25.heap.size w25)); (focus rfl); (focus (simp only [effAt]; simp [go_sem]; (with_reducible exact effUpon_enter (hS _ _ _ _ _ _ hB_a)))); (focus ((simp only [Xo,Xp,Xq,Xr,Xs];rfl))))
  intro w26 hs
  have Fw26 := Fw25.trans (hs.mono Fw25.size)
  replace hB_a := hB_a.below hs hB_a.lt
  replace hB_b := hB_b.below hs hB_b.lt
  replace hB_c := hB_c.below hs hB_c.lt
  replace hB_p := hB_p.below hs hB_p.lt
  replace hB_q := hB_q.below hs hB_q.lt
  replace hB_r := hB_r.below hs hB_r.lt
  replace hB_s := hB_s.below hs hB_s.lt
  replace hB_t := hB_t.below hs hB_t.lt
  replace hB_u := hB_u.below hs hB_u.lt
  replace hB_v := hB_v.below hs hB_v.lt
  clear hs Fw25
  clear hc_a; have hc_a := hB_a.cell
  clear hc_b; have hc_b := hB_b.cell
  clear hc_c; have hc_c := hB_c.cell
  clear hc_p; have hc_p := hB_p.cell
  clear hc_q; have hc_q := hB_q.cell
  clear hc_r; have hc_r := hB_r.cell
  clear hc_s; have hc_s := hB_s.cell
  clear hc_t; have hc_t := hB_t.cell
  clear hc_u; have hc_u := hB_u.cell
  clear hc_v; have hc_v := hB_v.cell
  repeat (first|(with_reducible first|apply Xa|apply Xb|apply Xc|apply Xd)|((with_reducible apply Xk);(focus rfl);(focus (simp [go_sem,effAt,↓IntWalk.iteOmega, *];(try go_ints);with_reducible first|exact Xm|exact Xn));focus (simp only [Xo,Xp,Xq,Xr,Xs];rfl))|((with_reducible apply Xl);(focus rfl);focus (simp only [Xo,Xp,Xq,Xr,Xs];rfl))|(with_reducible first|apply Xe|apply Xf|apply Xg|apply Xh)|((with_reducible apply Xi);focus first|rfl|(simp [go_sem, *];done))|((with_reducible apply Xj);focus first|rfl|(simp [go_sem, *];done))|(simp only [Exit.then,Exit.inBlock,↓reduceIte,Nat.reduceEqDiff]))
  ((with_reducible apply Xt (Below w26.heap.size w26)); (focus rfl); (focus (simp only [effAt]; simp [go_sem]; (with_reducible exact effUpon_enter (hS _ _ _ _ _ _ hB_b)))); (focus ((simp only [Xo,Xp,Xq,Xr,Xs];rfl))))
  intro w27 hs
  have Fw27 := Fw26.trans (hs.mono Fw26.size)
  replace hB_a := hB_a.below hs hB_a.lt
  replace hB_b := hB_b.below hs hB_b.lt
  replace hB_c := hB_c.below hs hB_c.lt
  replace hB_p := hB_p.below hs hB_p.lt
  replace hB_q := hB_q.below hs hB_q.lt
  replace hB_r := hB_r.below hs hB_r.lt
  replace hB_s := hB_s.below hs hB_s.lt
  replace hB_t := hB_t.below hs hB_t.lt
  replace hB_u := hB_u.below hs hB_u.lt
  replace hB_v := hB_v.below hs hB_v.lt
  clear hs Fw26
  clear hc_a; have hc_a := hB_a.cell
  clear hc_b; have hc_b := hB_b.cell
  clear hc_c; have hc_c := hB_c.cell
  clear hc_p; have hc_p := hB_p.cell
  clear hc_q; have hc_q := hB_q.cell
  clear hc_r; have hc_r := hB_r.cell
  clear hc_s; have hc_s := hB_s.cell
  clear hc_t; have hc_t := hB_t.cell
  clear hc_u; have hc_u := hB_u.cell
  clear hc_v; have hc_v := hB_v.cell
  repeat (first|(with_reducible first|apply Xa|apply Xb|apply Xc|apply Xd)|((with_reducible apply Xk);(focus rfl);(focus (simp [go_sem,effAt,↓IntWalk.iteOmega, *];(try go_ints);with_reducible first|exact Xm|exact Xn));focus (simp only [Xo,Xp,Xq,Xr,Xs];rfl))|((with_reducible apply Xl);(focus rfl);focus (simp only [Xo,Xp,Xq,Xr,Xs];rfl))|(with_reducible first|apply Xe|apply Xf|apply Xg|apply Xh)|((with_reducible apply Xi);focus first|rfl|(simp [go_sem, *];done))|((with_reducible apply Xj);focus first|rfl|(simp [go_sem, *];done))|(simp only [Exit.then,Exit.inBlock,↓reduceIte,Nat.reduceEqDiff]))
  ((with_reducible apply Xt (Below w27.heap.size w27)); (focus rfl); (focus (simp only [effAt]; simp [go_sem]; (with_reducible exact effUpon_enter (hS _ _ _ _ _ _ hB_c)))); (focus ((simp only [Xo,Xp,Xq,Xr,Xs];rfl))))
  intro w28 hs
  have Fw28 := Fw27.trans (hs.mono Fw27.size)
  replace hB_a := hB_a.below hs hB_a.lt
  replace hB_b := hB_b.below hs hB_b.lt
  replace hB_c := hB_c.below hs hB_c.lt
  replace hB_p := hB_p.below hs hB_p.lt
  replace hB_q := hB_q.below hs hB_q.lt
  replace hB_r := hB_r.below hs hB_r.lt
  replace hB_s := hB_s.below hs hB_s.lt
  replace hB_t := hB_t.below hs hB_t.lt
  replace hB_u := hB_u.below hs hB_u.lt
  replace hB_v := hB_v.below hs hB_v.lt
  clear hs Fw27
  clear hc_a; have hc_a := hB_a.cell
  clear hc_b; have hc_b := hB_b.cell
  clear hc_c; have hc_c := hB_c.cell
  clear hc_p; have hc_p := hB_p.cell
  clear hc_q; have hc_q := hB_q.cell
  clear hc_r; have hc_r := hB_r.cell
  clear hc_s; have hc_s := hB_s.cell
  clear hc_t; have hc_t := hB_t.cell
  clear hc_u; have hc_u := hB_u.cell
  clear hc_v; have hc_v := hB_v.cell
  repeat (first|(with_reducible first|apply Xa|apply Xb|apply Xc|apply Xd)|((with_reducible apply Xk);(focus rfl);(focus (simp [go_sem,effAt,↓IntWalk.iteOmega, *];(try go_ints);with_reducible first|exact Xm|exact Xn));focus (simp only [Xo,Xp,Xq,Xr,Xs];rfl))|((with_reducible apply Xl);(focus rfl);focus (simp only [Xo,Xp,Xq,Xr,Xs];rfl))|(with_reducible first|apply Xe|apply Xf|apply Xg|apply Xh)|((with_reducible apply Xi);focus first|rfl|(simp [go_sem, *];done))|((with_reducible apply Xj);focus first|rfl|(simp [go_sem, *];done))|(simp only [Exit.then,Exit.inBlock,↓reduceIte,Nat.reduceEqDiff]))
  go_ret
  exact ⟨rfl, by assumption⟩
theorem none_any (kd fr : Int) (pf cmd : Bool) (w : World) (hk : Fit kd) : Calls Try.prog 7 #[.agg #[.int .i64 kd, .int .u8 fr, .bool pf, .bool cmd]] w (Ret (.bool true) (Below w.heap.size w)) := by
  have hD := fun w => ldoes_nil kd fr pf cmd w hk
  go_enter Try.func7, Try.ntmps7
  have F0 : Below w.heap.size w w := Below.refl _ _
  repeat (first|(with_reducible first|apply Xa|apply Xb|apply Xc|apply Xd)|((with_reducible apply Xk);(focus rfl);(focus (simp [go_sem,effAt,↓IntWalk.iteOmega, *];(try go_ints);with_reducible first|exact Xm|exact Xn));focus (simp only [Xo,Xp,Xq,Xr,Xs];rfl))|((with_reducible apply Xl);(focus rfl);focus (simp only [Xo,Xp,Xq,Xr,Xs];rfl))|(with_reducible first|apply Xe|apply Xf|apply Xg|apply Xh)|((with_reducible apply Xi);focus first|rfl|(simp [go_sem, *];done))|((with_reducible apply Xj);focus first|rfl|(simp [go_sem, *];done))|(simp only [Exit.then,Exit.inBlock,↓reduceIte,Nat.reduceEqDiff]))
  ((with_reducible apply Xu); (focus rfl); (focus (simp [go_sem, effAt]; exact ⟨rfl, rfl⟩)); (focus ((simp only [Xo,Xp,Xq,Xr,Xs];rfl))))
  intro w1 hB_e hs
  have Fw1 := F0.trans (hs.mono F0.size)
  clear hs F0
  have hc_e := hB_e.cell
  repeat (first|(with_reducible first|apply Xa|apply Xb|apply Xc|apply Xd)|((with_reducible apply Xk);(focus rfl);(focus (simp [go_sem,effAt,↓IntWalk.iteOmega, *];(try go_ints);with_reducible first|exact Xm|exact Xn));focus (simp only [Xo,Xp,Xq,Xr,Xs];rfl))|((with_reducible apply Xl);(focus rfl);focus (simp only [Xo,Xp,Xq,Xr,Xs];rfl))|(with_reducible first|apply Xe|apply Xf|apply Xg|apply Xh)|((with_reducible apply Xi);focus first|rfl|(simp [go_sem, *];done))|((with_reducible apply Xj);focus first|rfl|(simp [go_sem, *];done))|(simp only [Exit.then,Exit.inBlock,↓reduceIte,Nat.reduceEqDiff]))
  ((with_reducible apply Xt (Below w1.heap.size w1)); (focus rfl); (focus (simp only [effAt]; simp [go_sem]; (with_reducible exact effUpon_enter (hD _)))); (focus ((simp only [Xo,Xp,Xq,Xr,Xs];rfl))))
  intro w2 hs
  have Fw2 := Fw1.trans (hs.mono Fw1.size)
  replace hB_e := hB_e.below hs hB_e.lt
  clear hs Fw1
  clear hc_e; have hc_e := hB_e.cell
  clear hD
  repeat (first|(with_reducible first|apply Xa|apply Xb|apply Xc|apply Xd)|((with_reducible apply Xk);(focus rfl);(focus (simp [go_sem,effAt,↓IntWalk.iteOmega, *];(try go_ints);with_reducible first|exact Xm|exact Xn));focus (simp only [Xo,Xp,Xq,Xr,Xs];rfl))|((with_reducible apply Xl);(focus rfl);focus (simp only [Xo,Xp,Xq,Xr,Xs];rfl))|(with_reducible first|apply Xe|apply Xf|apply Xg|apply Xh)|((with_reducible apply Xi);focus first|rfl|(simp [go_sem, *];done))|((with_reducible apply Xj);focus first|rfl|(simp [go_sem, *];done))|(simp only [Exit.then,Exit.inBlock,↓reduceIte,Nat.reduceEqDiff]))
  ((with_reducible apply Xt (Below w2.heap.size w2)); (focus rfl); (focus (simp only [effAt]; simp [go_sem]; (with_reducible exact effUpon_enter (state_nil _)))); (focus ((simp only [Xo,Xp,Xq,Xr,Xs];rfl))))
  intro w3 hs
  have Fw3 := Fw2.trans (hs.mono Fw2.size)
  replace hB_e := hB_e.below hs hB_e.lt
  clear hs Fw2
  clear hc_e; have hc_e := hB_e.cell
  repeat (first|(with_reducible first|apply Xa|apply Xb|apply Xc|apply Xd)|((with_reducible apply Xk);(focus rfl);(focus (simp [go_sem,effAt,↓IntWalk.iteOmega, *];(try go_ints);with_reducible first|exact Xm|exact Xn));focus (simp only [Xo,Xp,Xq,Xr,Xs];rfl))|((with_reducible apply Xl);(focus rfl);focus (simp only [Xo,Xp,Xq,Xr,Xs];rfl))|(with_reducible first|apply Xe|apply Xf|apply Xg|apply Xh)|((with_reducible apply Xi);focus first|rfl|(simp [go_sem, *];done))|((with_reducible apply Xj);focus first|rfl|(simp [go_sem, *];done))|(simp only [Exit.then,Exit.inBlock,↓reduceIte,Nat.reduceEqDiff]))
  ((with_reducible apply Xt (Below w3.heap.size w3)); (focus rfl); (focus (simp only [effAt]; simp [go_sem]; (with_reducible exact effUpon_enter (works_any _)))); (focus ((simp only [Xo,Xp,Xq,Xr,Xs];rfl))))
  intro w4 hs
  have Fw4 := Fw3.trans (hs.mono Fw3.size)
  replace hB_e := hB_e.below hs hB_e.lt
  clear hs Fw3
  clear hc_e; have hc_e := hB_e.cell
  repeat (first|(with_reducible first|apply Xa|apply Xb|apply Xc|apply Xd)|((with_reducible apply Xk);(focus rfl);(focus (simp [go_sem,effAt,↓IntWalk.iteOmega, *];(try go_ints);with_reducible first|exact Xm|exact Xn));focus (simp only [Xo,Xp,Xq,Xr,Xs];rfl))|((with_reducible apply Xl);(focus rfl);focus (simp only [Xo,Xp,Xq,Xr,Xs];rfl))|(with_reducible first|apply Xe|apply Xf|apply Xg|apply Xh)|((with_reducible apply Xi);focus first|rfl|(simp [go_sem, *];done))|((with_reducible apply Xj);focus first|rfl|(simp [go_sem, *];done))|(simp only [Exit.then,Exit.inBlock,↓reduceIte,Nat.reduceEqDiff]))
  go_ret
  exact ⟨rfl, by assumption⟩
