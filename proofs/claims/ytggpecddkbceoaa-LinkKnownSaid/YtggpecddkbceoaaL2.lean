/- What an event does in each state: the walks of down, opening, up, closing. -/
import Derived.Test.YtggpecddkbceoaaL1
set_option linter.unusedSimpArgs false
set_option linter.unusedVariables false
namespace Go.Proofs.Ytggpecddkbceoaa
open Go.RowKit Go.Eff
theorem as_62_62 (v : Value) (w : World) : (Instr.typeAssert (.iface 62 v) 73 62 true).run Try.prog w = .ok (.tuple #[v, .bool true]) w := by kernel_rfl
theorem as_62_63 (v : Value) (w : World) : (Instr.typeAssert (.iface 62 v) 73 63 true).run Try.prog w = .ok (.tuple #[.agg #[], .bool false]) w := by kernel_rfl
theorem as_62_68 (v : Value) (w : World) : (Instr.typeAssert (.iface 62 v) 73 68 true).run Try.prog w = .ok (.tuple #[.agg #[], .bool false]) w := by kernel_rfl
theorem as_62_67 (v : Value) (w : World) : (Instr.typeAssert (.iface 62 v) 73 67 true).run Try.prog w = .ok (.tuple #[.agg #[.int .u8 0], .bool false]) w := by kernel_rfl
theorem as_62_75 (v : Value) (w : World) : (Instr.typeAssert (.iface 62 v) 73 75 true).run Try.prog w = .ok (.tuple #[.agg #[.int .u8 0, .int .u8 0], .bool false]) w := by kernel_rfl
theorem as_63_62 (v : Value) (w : World) : (Instr.typeAssert (.iface 63 v) 73 62 true).run Try.prog w = .ok (.tuple #[.agg #[], .bool false]) w := by kernel_rfl
theorem as_63_63 (v : Value) (w : World) : (Instr.typeAssert (.iface 63 v) 73 63 true).run Try.prog w = .ok (.tuple #[v, .bool true]) w := by kernel_rfl
theorem as_63_68 (v : Value) (w : World) : (Instr.typeAssert (.iface 63 v) 73 68 true).run Try.prog w = .ok (.tuple #[.agg #[], .bool false]) w := by kernel_rfl
theorem as_63_67 (v : Value) (w : World) : (Instr.typeAssert (.iface 63 v) 73 67 true).run Try.prog w = .ok (.tuple #[.agg #[.int .u8 0], .bool false]) w := by kernel_rfl
theorem as_63_75 (v : Value) (w : World) : (Instr.typeAssert (.iface 63 v) 73 75 true).run Try.prog w = .ok (.tuple #[.agg #[.int .u8 0, .int .u8 0], .bool false]) w := by kernel_rfl
theorem as_68_62 (v : Value) (w : World) : (Instr.typeAssert (.iface 68 v) 73 62 true).run Try.prog w = .ok (.tuple #[.agg #[], .bool false]) w := by kernel_rfl
theorem as_68_63 (v : Value) (w : World) : (Instr.typeAssert (.iface 68 v) 73 63 true).run Try.prog w = .ok (.tuple #[.agg #[], .bool false]) w := by kernel_rfl
theorem as_68_68 (v : Value) (w : World) : (Instr.typeAssert (.iface 68 v) 73 68 true).run Try.prog w = .ok (.tuple #[v, .bool true]) w := by kernel_rfl
theorem as_68_67 (v : Value) (w : World) : (Instr.typeAssert (.iface 68 v) 73 67 true).run Try.prog w = .ok (.tuple #[.agg #[.int .u8 0], .bool false]) w := by kernel_rfl
theorem as_68_75 (v : Value) (w : World) : (Instr.typeAssert (.iface 68 v) 73 75 true).run Try.prog w = .ok (.tuple #[.agg #[.int .u8 0, .int .u8 0], .bool false]) w := by kernel_rfl
theorem as_67_62 (v : Value) (w : World) : (Instr.typeAssert (.iface 67 v) 73 62 true).run Try.prog w = .ok (.tuple #[.agg #[], .bool false]) w := by kernel_rfl
theorem as_67_63 (v : Value) (w : World) : (Instr.typeAssert (.iface 67 v) 73 63 true).run Try.prog w = .ok (.tuple #[.agg #[], .bool false]) w := by kernel_rfl
theorem as_67_68 (v : Value) (w : World) : (Instr.typeAssert (.iface 67 v) 73 68 true).run Try.prog w = .ok (.tuple #[.agg #[], .bool false]) w := by kernel_rfl
theorem as_67_67 (v : Value) (w : World) : (Instr.typeAssert (.iface 67 v) 73 67 true).run Try.prog w = .ok (.tuple #[v, .bool true]) w := by kernel_rfl
theorem as_67_75 (v : Value) (w : World) : (Instr.typeAssert (.iface 67 v) 73 75 true).run Try.prog w = .ok (.tuple #[.agg #[.int .u8 0, .int .u8 0], .bool false]) w := by kernel_rfl
theorem as_75_62 (v : Value) (w : World) : (Instr.typeAssert (.iface 75 v) 73 62 true).run Try.prog w = .ok (.tuple #[.agg #[], .bool false]) w := by kernel_rfl
theorem as_75_63 (v : Value) (w : World) : (Instr.typeAssert (.iface 75 v) 73 63 true).run Try.prog w = .ok (.tuple #[.agg #[], .bool false]) w := by kernel_rfl
theorem as_75_68 (v : Value) (w : World) : (Instr.typeAssert (.iface 75 v) 73 68 true).run Try.prog w = .ok (.tuple #[.agg #[], .bool false]) w := by kernel_rfl
theorem as_75_67 (v : Value) (w : World) : (Instr.typeAssert (.iface 75 v) 73 67 true).run Try.prog w = .ok (.tuple #[.agg #[.int .u8 0], .bool false]) w := by kernel_rfl
theorem as_75_75 (v : Value) (w : World) : (Instr.typeAssert (.iface 75 v) 73 75 true).run Try.prog w = .ok (.tuple #[v, .bool true]) w := by kernel_rfl
theorem down_opens (g : Nat) (s : Int) (ls : Bool) (tr mo : Int) (w : World) (hB_l : LB w g s ls tr mo) :
    Calls Try.prog 34 #[.pointer (some ⟨g, 0, none⟩), .iface 62 (.agg #[])] w (Ret (actV 1 true true 1 0) fun w' => LB w' g 2 ls 0 mo ∧ w.grownBy w' (some g)) := by
  have ha_opens := as_62_62 (.agg #[])
  have ha_cmd := as_62_75 (.agg #[])
  have hG := fun w h => begins_any g s 2 ls tr mo 1 w h
  unfold LB at *
  go_enter Try.func34, Try.ntmps34
  have F0 : Turn (fun i => i = g ∨ w.heap.size ≤ i) w w := Turn.refl _
  have hc_l := hB_l.cell
  repeat (first|(with_reducible first|apply Xa|apply Xb|apply Xc|apply Xd)|((with_reducible apply Xk);(focus rfl);(focus (simp [go_sem,effAt,↓IntWalk.iteOmega, *];(try go_ints);with_reducible first|exact Xm|exact Xn));focus (simp only [Xo,Xp,Xq,Xr,Xs];rfl))|((with_reducible apply Xl);(focus rfl);focus (simp only [Xo,Xp,Xq,Xr,Xs];rfl))|(with_reducible first|apply Xe|apply Xf|apply Xg|apply Xh)|((with_reducible apply Xi);focus first|rfl|(simp [go_sem, *];done))|((with_reducible apply Xj);focus first|rfl|(simp [go_sem, *];done))|(simp only [Exit.then,Exit.inBlock,↓reduceIte,Nat.reduceEqDiff]))
  have lt_l_r := hB_l.lt
  have le_r := F0.size
  ((with_reducible apply Xu); (focus rfl); (focus (simp [go_sem, effAt]; exact ⟨rfl, rfl⟩)); (focus ((simp only [Xo,Xp,Xq,Xr,Xs];rfl))))
  intro w1 hB_r hs
  have Fw1 := F0.trans (Turn.of_below hs)
  replace hB_l := hB_l.below hs hB_l.lt
  clear hs F0
  clear hc_l; have hc_l := hB_l.cell
  have hc_r := hB_r.cell
  repeat (first|(with_reducible first|apply Xa|apply Xb|apply Xc|apply Xd)|((with_reducible apply Xk);(focus rfl);(focus (simp [go_sem,effAt,↓IntWalk.iteOmega, *];(try go_ints);with_reducible first|exact Xm|exact Xn));focus (simp only [Xo,Xp,Xq,Xr,Xs];rfl))|((with_reducible apply Xl);(focus rfl);focus (simp only [Xo,Xp,Xq,Xr,Xs];rfl))|(with_reducible first|apply Xe|apply Xf|apply Xg|apply Xh)|((with_reducible apply Xi);focus first|rfl|(simp [go_sem, *];done))|((with_reducible apply Xj);focus first|rfl|(simp [go_sem, *];done))|(simp only [Exit.then,Exit.inBlock,↓reduceIte,Nat.reduceEqDiff]))
  have lt_l_e := hB_l.lt
  have lt_r_e := hB_r.lt
  have le_e := Fw1.size
  ((with_reducible apply Xu); (focus rfl); (focus (simp [go_sem, effAt]; exact ⟨rfl, rfl⟩)); (focus ((simp only [Xo,Xp,Xq,Xr,Xs];rfl))))
  intro w2 hB_e hs
  have Fw2 := Fw1.trans (Turn.of_below hs)
  replace hB_l := hB_l.below hs hB_l.lt
  replace hB_r := hB_r.below hs hB_r.lt
  clear hs Fw1
  clear hc_l; have hc_l := hB_l.cell
  clear hc_r; have hc_r := hB_r.cell
  have hc_e := hB_e.cell
  repeat (first|(with_reducible first|apply Xa|apply Xb|apply Xc|apply Xd)|((with_reducible apply Xk);(focus rfl);(focus (simp [go_sem,effAt,↓IntWalk.iteOmega, *];(try go_ints);with_reducible first|exact Xm|exact Xn));focus (simp only [Xo,Xp,Xq,Xr,Xs];rfl))|((with_reducible apply Xl);(focus rfl);focus (simp only [Xo,Xp,Xq,Xr,Xs];rfl))|(with_reducible first|apply Xe|apply Xf|apply Xg|apply Xh)|((with_reducible apply Xi);focus first|rfl|(simp [go_sem, *];done))|((with_reducible apply Xj);focus first|rfl|(simp [go_sem, *];done))|(simp only [Exit.then,Exit.inBlock,↓reduceIte,Nat.reduceEqDiff]))
  ((with_reducible apply Xt (fun w' => Blk w' _ _ _ ∧ w2.grownBy w' (some _))); (focus rfl); (focus (simp only [effAt]; simp [go_sem]; (with_reducible exact effUpon_enter (hG _ hB_l)))); (focus ((simp only [Xo,Xp,Xq,Xr,Xs];rfl))))
  clear hc_l hB_l
  intro w3 hs
  obtain ⟨hB_l, hs⟩ := hs
  have Fw3 := Fw2.trans (Turn.of_grown hs (by first | exact .inl rfl | exact .inr (by omega)))
  replace hB_r := hB_r.grown hs (by intro hk; injection hk with hk; have := hB_r.lt; have := hB_l.lt; omega)
  replace hB_e := hB_e.grown hs (by intro hk; injection hk with hk; have := hB_e.lt; have := hB_l.lt; omega)
  clear hs Fw2
  clear hc_r; have hc_r := hB_r.cell
  clear hc_e; have hc_e := hB_e.cell
  have hc_l := hB_l.cell
  repeat (first|(with_reducible first|apply Xa|apply Xb|apply Xc|apply Xd)|((with_reducible apply Xk);(focus rfl);(focus (simp [go_sem,effAt,↓IntWalk.iteOmega, *];(try go_ints);with_reducible first|exact Xm|exact Xn));focus (simp only [Xo,Xp,Xq,Xr,Xs];rfl))|((with_reducible apply Xl);(focus rfl);focus (simp only [Xo,Xp,Xq,Xr,Xs];rfl))|(with_reducible first|apply Xe|apply Xf|apply Xg|apply Xh)|((with_reducible apply Xi);focus first|rfl|(simp [go_sem, *];done))|((with_reducible apply Xj);focus first|rfl|(simp [go_sem, *];done))|(simp only [Exit.then,Exit.inBlock,↓reduceIte,Nat.reduceEqDiff]))
  have hf_r := hB_r.frozen
  ((with_reducible apply Xt (fun w' => Blk w' _ _ _ ∧ w3.grownBy w' (some _))); (focus rfl); (focus (simp [go_sem, effAt, *]; exact ⟨rfl, (((((hB_r.set_ 0 _).set_ 1 _).set_ 2 _).set_ 3 _).set_ 4 _), (grown_set (grown_set (grown_set (grown_set (grown_set (World.grownBy.refl _ _))))))⟩)); (focus ((simp only [Xo,Xp,Xq,Xr,Xs];rfl))))
  clear hf_r hc_r hB_r
  intro w4 hs
  obtain ⟨hB_r, hs⟩ := hs
  simp only [Xq,Xr,Xs] at hB_r
  have Fw4 := Fw3.trans (Turn.of_grown hs (by first | exact .inl rfl | exact .inr (by omega)))
  replace hB_l := hB_l.grown hs (by intro hk; injection hk with hk; have := hB_l.lt; have := hB_r.lt; omega)
  replace hB_e := hB_e.grown hs (by intro hk; injection hk with hk; have := hB_e.lt; have := hB_r.lt; omega)
  clear hs Fw3
  clear hc_l; have hc_l := hB_l.cell
  clear hc_e; have hc_e := hB_e.cell
  have hc_r := hB_r.cell
  repeat (first|(with_reducible first|apply Xa|apply Xb|apply Xc|apply Xd)|((with_reducible apply Xk);(focus rfl);(focus (simp [go_sem,effAt,↓IntWalk.iteOmega, *];(try go_ints);with_reducible first|exact Xm|exact Xn));focus (simp only [Xo,Xp,Xq,Xr,Xs];rfl))|((with_reducible apply Xl);(focus rfl);focus (simp only [Xo,Xp,Xq,Xr,Xs];rfl))|(with_reducible first|apply Xe|apply Xf|apply Xg|apply Xh)|((with_reducible apply Xi);focus first|rfl|(simp [go_sem, *];done))|((with_reducible apply Xj);focus first|rfl|(simp [go_sem, *];done))|(simp only [Exit.then,Exit.inBlock,↓reduceIte,Nat.reduceEqDiff]))
  refine bodyPost_ret (v := (actV 1 true true 1 0)) (by simp [results, Try.results34, go_sem, *]) rfl ⟨rfl, hB_l, Turn.to_grown (by assumption)⟩
theorem down_closes (g : Nat) (s : Int) (ls : Bool) (tr mo : Int) (w : World) (hB_l : LB w g s ls tr mo) :
    Calls Try.prog 34 #[.pointer (some ⟨g, 0, none⟩), .iface 63 (.agg #[])] w (Ret (actV 0 false false 0 0) fun w' => LB w' g s ls tr mo ∧ w.grownBy w' (some g)) := by
  have ha_opens := as_63_62 (.agg #[])
  have ha_cmd := as_63_75 (.agg #[])
  unfold LB at *
  go_enter Try.func34, Try.ntmps34
  have F0 : Turn (fun i => i = g ∨ w.heap.size ≤ i) w w := Turn.refl _
  have hc_l := hB_l.cell
  repeat (first|(with_reducible first|apply Xa|apply Xb|apply Xc|apply Xd)|((with_reducible apply Xk);(focus rfl);(focus (simp [go_sem,effAt,↓IntWalk.iteOmega, *];(try go_ints);with_reducible first|exact Xm|exact Xn));focus (simp only [Xo,Xp,Xq,Xr,Xs];rfl))|((with_reducible apply Xl);(focus rfl);focus (simp only [Xo,Xp,Xq,Xr,Xs];rfl))|(with_reducible first|apply Xe|apply Xf|apply Xg|apply Xh)|((with_reducible apply Xi);focus first|rfl|(simp [go_sem, *];done))|((with_reducible apply Xj);focus first|rfl|(simp [go_sem, *];done))|(simp only [Exit.then,Exit.inBlock,↓reduceIte,Nat.reduceEqDiff]))
  have lt_l_r := hB_l.lt
  have le_r := F0.size
  ((with_reducible apply Xu); (focus rfl); (focus (simp [go_sem, effAt]; exact ⟨rfl, rfl⟩)); (focus ((simp only [Xo,Xp,Xq,Xr,Xs];rfl))))
  intro w1 hB_r hs
  have Fw1 := F0.trans (Turn.of_below hs)
  replace hB_l := hB_l.below hs hB_l.lt
  clear hs F0
  clear hc_l; have hc_l := hB_l.cell
  have hc_r := hB_r.cell
  repeat (first|(with_reducible first|apply Xa|apply Xb|apply Xc|apply Xd)|((with_reducible apply Xk);(focus rfl);(focus (simp [go_sem,effAt,↓IntWalk.iteOmega, *];(try go_ints);with_reducible first|exact Xm|exact Xn));focus (simp only [Xo,Xp,Xq,Xr,Xs];rfl))|((with_reducible apply Xl);(focus rfl);focus (simp only [Xo,Xp,Xq,Xr,Xs];rfl))|(with_reducible first|apply Xe|apply Xf|apply Xg|apply Xh)|((with_reducible apply Xi);focus first|rfl|(simp [go_sem, *];done))|((with_reducible apply Xj);focus first|rfl|(simp [go_sem, *];done))|(simp only [Exit.then,Exit.inBlock,↓reduceIte,Nat.reduceEqDiff]))
  have hf_r := hB_r.frozen
  ((with_reducible apply Xt (fun w' => Blk w' _ _ _ ∧ w1.grownBy w' (some _))); (focus rfl); (focus (simp [go_sem, effAt, *]; exact ⟨rfl, (((((hB_r.set_ 0 _).set_ 1 _).set_ 2 _).set_ 3 _).set_ 4 _), (grown_set (grown_set (grown_set (grown_set (grown_set (World.grownBy.refl _ _))))))⟩)); (focus ((simp only [Xo,Xp,Xq,Xr,Xs];rfl))))
  clear hf_r hc_r hB_r
  intro w2 hs
  obtain ⟨hB_r, hs⟩ := hs
  simp only [Xq,Xr,Xs] at hB_r
  have Fw2 := Fw1.trans (Turn.of_grown hs (by first | exact .inl rfl | exact .inr (by omega)))
  replace hB_l := hB_l.grown hs (by intro hk; injection hk with hk; have := hB_l.lt; have := hB_r.lt; omega)
  clear hs Fw1
  clear hc_l; have hc_l := hB_l.cell
  have hc_r := hB_r.cell
  repeat (first|(with_reducible first|apply Xa|apply Xb|apply Xc|apply Xd)|((with_reducible apply Xk);(focus rfl);(focus (simp [go_sem,effAt,↓IntWalk.iteOmega, *];(try go_ints);with_reducible first|exact Xm|exact Xn));focus (simp only [Xo,Xp,Xq,Xr,Xs];rfl))|((with_reducible apply Xl);(focus rfl);focus (simp only [Xo,Xp,Xq,Xr,Xs];rfl))|(with_reducible first|apply Xe|apply Xf|apply Xg|apply Xh)|((with_reducible apply Xi);focus first|rfl|(simp [go_sem, *];done))|((with_reducible apply Xj);focus first|rfl|(simp [go_sem, *];done))|(simp only [Exit.then,Exit.inBlock,↓reduceIte,Nat.reduceEqDiff]))
  refine bodyPost_ret (v := (actV 0 false false 0 0)) (by simp [results, Try.results34, go_sem, *]) rfl ⟨rfl, hB_l, Turn.to_grown (by assumption)⟩
theorem down_due (g : Nat) (s : Int) (ls : Bool) (tr mo : Int) (w : World) (hB_l : LB w g s ls tr mo) :
    Calls Try.prog 34 #[.pointer (some ⟨g, 0, none⟩), .iface 68 (.agg #[])] w (Ret (actV 0 false false 0 0) fun w' => LB w' g s ls tr mo ∧ w.grownBy w' (some g)) := by
  have ha_opens := as_68_62 (.agg #[])
  have ha_cmd := as_68_75 (.agg #[])
  unfold LB at *
  go_enter Try.func34, Try.ntmps34
  have F0 : Turn (fun i => i = g ∨ w.heap.size ≤ i) w w := Turn.refl _
  have hc_l := hB_l.cell
  repeat (first|(with_reducible first|apply Xa|apply Xb|apply Xc|apply Xd)|((with_reducible apply Xk);(focus rfl);(focus (simp [go_sem,effAt,↓IntWalk.iteOmega, *];(try go_ints);with_reducible first|exact Xm|exact Xn));focus (simp only [Xo,Xp,Xq,Xr,Xs];rfl))|((with_reducible apply Xl);(focus rfl);focus (simp only [Xo,Xp,Xq,Xr,Xs];rfl))|(with_reducible first|apply Xe|apply Xf|apply Xg|apply Xh)|((with_reducible apply Xi);focus first|rfl|(simp [go_sem, *];done))|((with_reducible apply Xj);focus first|rfl|(simp [go_sem, *];done))|(simp only [Exit.then,Exit.inBlock,↓reduceIte,Nat.reduceEqDiff]))
  have lt_l_r := hB_l.lt
  have le_r := F0.size
  ((with_reducible apply Xu); (focus rfl); (focus (simp [go_sem, effAt]; exact ⟨rfl, rfl⟩)); (focus ((simp only [Xo,Xp,Xq,Xr,Xs];rfl))))
  intro w1 hB_r hs
  have Fw1 := F0.trans (Turn.of_below hs)
  replace hB_l := hB_l.below hs hB_l.lt
  clear hs F0
  clear hc_l; have hc_l := hB_l.cell
  have hc_r := hB_r.cell
  repeat (first|(with_reducible first|apply Xa|apply Xb|apply Xc|apply Xd)|((with_reducible apply Xk);(focus rfl);(focus (simp [go_sem,effAt,↓IntWalk.iteOmega, *];(try go_ints);with_reducible first|exact Xm|exact Xn));focus (simp only [Xo,Xp,Xq,Xr,Xs];rfl))|((with_reducible apply Xl);(focus rfl);focus (simp only [Xo,Xp,Xq,Xr,Xs];rfl))|(with_reducible first|apply Xe|apply Xf|apply Xg|apply Xh)|((with_reducible apply Xi);focus first|rfl|(simp [go_sem, *];done))|((with_reducible apply Xj);focus first|rfl|(simp [go_sem, *];done))|(simp only [Exit.then,Exit.inBlock,↓reduceIte,Nat.reduceEqDiff]))
  have hf_r := hB_r.frozen
  ((with_reducible apply Xt (fun w' => Blk w' _ _ _ ∧ w1.grownBy w' (some _))); (focus rfl); (focus (simp [go_sem, effAt, *]; exact ⟨rfl, (((((hB_r.set_ 0 _).set_ 1 _).set_ 2 _).set_ 3 _).set_ 4 _), (grown_set (grown_set (grown_set (grown_set (grown_set (World.grownBy.refl _ _))))))⟩)); (focus ((simp only [Xo,Xp,Xq,Xr,Xs];rfl))))
  clear hf_r hc_r hB_r
  intro w2 hs
  obtain ⟨hB_r, hs⟩ := hs
  simp only [Xq,Xr,Xs] at hB_r
  have Fw2 := Fw1.trans (Turn.of_grown hs (by first | exact .inl rfl | exact .inr (by omega)))
  replace hB_l := hB_l.grown hs (by intro hk; injection hk with hk; have := hB_l.lt; have := hB_r.lt; omega)
  clear hs Fw1
  clear hc_l; have hc_l := hB_l.cell
  have hc_r := hB_r.cell
  repeat (first|(with_reducible first|apply Xa|apply Xb|apply Xc|apply Xd)|((with_reducible apply Xk);(focus rfl);(focus (simp [go_sem,effAt,↓IntWalk.iteOmega, *];(try go_ints);with_reducible first|exact Xm|exact Xn));focus (simp only [Xo,Xp,Xq,Xr,Xs];rfl))|((with_reducible apply Xl);(focus rfl);focus (simp only [Xo,Xp,Xq,Xr,Xs];rfl))|(with_reducible first|apply Xe|apply Xf|apply Xg|apply Xh)|((with_reducible apply Xi);focus first|rfl|(simp [go_sem, *];done))|((with_reducible apply Xj);focus first|rfl|(simp [go_sem, *];done))|(simp only [Exit.then,Exit.inBlock,↓reduceIte,Nat.reduceEqDiff]))
  refine bodyPost_ret (v := (actV 0 false false 0 0)) (by simp [results, Try.results34, go_sem, *]) rfl ⟨rfl, hB_l, Turn.to_grown (by assumption)⟩
theorem down_resp (g : Nat) (s : Int) (ls : Bool) (tr mo : Int) (k : Int) (w : World) (hB_l : LB w g s ls tr mo) :
    Calls Try.prog 34 #[.pointer (some ⟨g, 0, none⟩), .iface 67 (.agg #[.int .u8 k])] w (Ret (actV 0 false false 0 0) fun w' => LB w' g s ls tr mo ∧ w.grownBy w' (some g)) := by
  have ha_opens := as_67_62 (.agg #[.int .u8 k])
  have ha_cmd := as_67_75 (.agg #[.int .u8 k])
  unfold LB at *
  go_enter Try.func34, Try.ntmps34
  have F0 : Turn (fun i => i = g ∨ w.heap.size ≤ i) w w := Turn.refl _
  have hc_l := hB_l.cell
  repeat (first|(with_reducible first|apply Xa|apply Xb|apply Xc|apply Xd)|((with_reducible apply Xk);(focus rfl);(focus (simp [go_sem,effAt,↓IntWalk.iteOmega, *];(try go_ints);with_reducible first|exact Xm|exact Xn));focus (simp only [Xo,Xp,Xq,Xr,Xs];rfl))|((with_reducible apply Xl);(focus rfl);focus (simp only [Xo,Xp,Xq,Xr,Xs];rfl))|(with_reducible first|apply Xe|apply Xf|apply Xg|apply Xh)|((with_reducible apply Xi);focus first|rfl|(simp [go_sem, *];done))|((with_reducible apply Xj);focus first|rfl|(simp [go_sem, *];done))|(simp only [Exit.then,Exit.inBlock,↓reduceIte,Nat.reduceEqDiff]))
  have lt_l_r := hB_l.lt
  have le_r := F0.size
  ((with_reducible apply Xu); (focus rfl); (focus (simp [go_sem, effAt]; exact ⟨rfl, rfl⟩)); (focus ((simp only [Xo,Xp,Xq,Xr,Xs];rfl))))
  intro w1 hB_r hs
  have Fw1 := F0.trans (Turn.of_below hs)
  replace hB_l := hB_l.below hs hB_l.lt
  clear hs F0
  clear hc_l; have hc_l := hB_l.cell
  have hc_r := hB_r.cell
  repeat (first|(with_reducible first|apply Xa|apply Xb|apply Xc|apply Xd)|((with_reducible apply Xk);(focus rfl);(focus (simp [go_sem,effAt,↓IntWalk.iteOmega, *];(try go_ints);with_reducible first|exact Xm|exact Xn));focus (simp only [Xo,Xp,Xq,Xr,Xs];rfl))|((with_reducible apply Xl);(focus rfl);focus (simp only [Xo,Xp,Xq,Xr,Xs];rfl))|(with_reducible first|apply Xe|apply Xf|apply Xg|apply Xh)|((with_reducible apply Xi);focus first|rfl|(simp [go_sem, *];done))|((with_reducible apply Xj);focus first|rfl|(simp [go_sem, *];done))|(simp only [Exit.then,Exit.inBlock,↓reduceIte,Nat.reduceEqDiff]))
  have hf_r := hB_r.frozen
  ((with_reducible apply Xt (fun w' => Blk w' _ _ _ ∧ w1.grownBy w' (some _))); (focus rfl); (focus (simp [go_sem, effAt, *]; exact ⟨rfl, (((((hB_r.set_ 0 _).set_ 1 _).set_ 2 _).set_ 3 _).set_ 4 _), (grown_set (grown_set (grown_set (grown_set (grown_set (World.grownBy.refl _ _))))))⟩)); (focus ((simp only [Xo,Xp,Xq,Xr,Xs];rfl))))
  clear hf_r hc_r hB_r
  intro w2 hs
  obtain ⟨hB_r, hs⟩ := hs
  simp only [Xq,Xr,Xs] at hB_r
  have Fw2 := Fw1.trans (Turn.of_grown hs (by first | exact .inl rfl | exact .inr (by omega)))
  replace hB_l := hB_l.grown hs (by intro hk; injection hk with hk; have := hB_l.lt; have := hB_r.lt; omega)
  clear hs Fw1
  clear hc_l; have hc_l := hB_l.cell
  have hc_r := hB_r.cell
  repeat (first|(with_reducible first|apply Xa|apply Xb|apply Xc|apply Xd)|((with_reducible apply Xk);(focus rfl);(focus (simp [go_sem,effAt,↓IntWalk.iteOmega, *];(try go_ints);with_reducible first|exact Xm|exact Xn));focus (simp only [Xo,Xp,Xq,Xr,Xs];rfl))|((with_reducible apply Xl);(focus rfl);focus (simp only [Xo,Xp,Xq,Xr,Xs];rfl))|(with_reducible first|apply Xe|apply Xf|apply Xg|apply Xh)|((with_reducible apply Xi);focus first|rfl|(simp [go_sem, *];done))|((with_reducible apply Xj);focus first|rfl|(simp [go_sem, *];done))|(simp only [Exit.then,Exit.inBlock,↓reduceIte,Nat.reduceEqDiff]))
  refine bodyPost_ret (v := (actV 0 false false 0 0)) (by simp [results, Try.results34, go_sem, *]) rfl ⟨rfl, hB_l, Turn.to_grown (by assumption)⟩
theorem down_cmd1t (g : Nat) (s : Int) (ls : Bool) (tr mo : Int) (a : Int) (w : World) (hB_l : LB w g s ls tr mo) (hls : ls = true) :
    Calls Try.prog 34 #[.pointer (some ⟨g, 0, none⟩), .iface 75 (.agg #[.int .u8 1, .int .u8 a])] w (Ret (actV 2 false false 0 2) fun w' => LB w' g 3 ls tr mo ∧ w.grownBy w' (some g)) := by
  have ha_opens := as_75_62 (.agg #[.int .u8 1, .int .u8 a])
  have ha_cmd := as_75_75 (.agg #[.int .u8 1, .int .u8 a])
  have hG := fun w h => goes_any g s 3 ls tr mo 2 false false 0 0 2 w h
  unfold LB at *
  go_enter Try.func34, Try.ntmps34
  have F0 : Turn (fun i => i = g ∨ w.heap.size ≤ i) w w := Turn.refl _
  have hc_l := hB_l.cell
  repeat (first|(with_reducible first|apply Xa|apply Xb|apply Xc|apply Xd)|((with_reducible apply Xk);(focus rfl);(focus (simp [go_sem,effAt,↓IntWalk.iteOmega, *];(try go_ints);with_reducible first|exact Xm|exact Xn));focus (simp only [Xo,Xp,Xq,Xr,Xs];rfl))|((with_reducible apply Xl);(focus rfl);focus (simp only [Xo,Xp,Xq,Xr,Xs];rfl))|(with_reducible first|apply Xe|apply Xf|apply Xg|apply Xh)|((with_reducible apply Xi);focus first|rfl|(simp [go_sem, *];done))|((with_reducible apply Xj);focus first|rfl|(simp [go_sem, *];done))|(simp only [Exit.then,Exit.inBlock,↓reduceIte,Nat.reduceEqDiff]))
  have lt_l_r := hB_l.lt
  have le_r := F0.size
  ((with_reducible apply Xu); (focus rfl); (focus (simp [go_sem, effAt]; exact ⟨rfl, rfl⟩)); (focus ((simp only [Xo,Xp,Xq,Xr,Xs];rfl))))
  intro w1 hB_r hs
  have Fw1 := F0.trans (Turn.of_below hs)
  replace hB_l := hB_l.below hs hB_l.lt
  clear hs F0
  clear hc_l; have hc_l := hB_l.cell
  have hc_r := hB_r.cell
  repeat (first|(with_reducible first|apply Xa|apply Xb|apply Xc|apply Xd)|((with_reducible apply Xk);(focus rfl);(focus (simp [go_sem,effAt,↓IntWalk.iteOmega, *];(try go_ints);with_reducible first|exact Xm|exact Xn));focus (simp only [Xo,Xp,Xq,Xr,Xs];rfl))|((with_reducible apply Xl);(focus rfl);focus (simp only [Xo,Xp,Xq,Xr,Xs];rfl))|(with_reducible first|apply Xe|apply Xf|apply Xg|apply Xh)|((with_reducible apply Xi);focus first|rfl|(simp [go_sem, *];done))|((with_reducible apply Xj);focus first|rfl|(simp [go_sem, *];done))|(simp only [Exit.then,Exit.inBlock,↓reduceIte,Nat.reduceEqDiff]))
  have lt_l_e := hB_l.lt
  have lt_r_e := hB_r.lt
  have le_e := Fw1.size
  ((with_reducible apply Xu); (focus rfl); (focus (simp [go_sem, effAt]; exact ⟨rfl, rfl⟩)); (focus ((simp only [Xo,Xp,Xq,Xr,Xs];rfl))))
  intro w2 hB_e hs
  have Fw2 := Fw1.trans (Turn.of_below hs)
  replace hB_l := hB_l.below hs hB_l.lt
  replace hB_r := hB_r.below hs hB_r.lt
  clear hs Fw1
  clear hc_l; have hc_l := hB_l.cell
  clear hc_r; have hc_r := hB_r.cell
  have hc_e := hB_e.cell
  repeat (first|(with_reducible first|apply Xa|apply Xb|apply Xc|apply Xd)|((with_reducible apply Xk);(focus rfl);(focus (simp [go_sem,effAt,↓IntWalk.iteOmega, *];(try go_ints);with_reducible first|exact Xm|exact Xn));focus (simp only [Xo,Xp,Xq,Xr,Xs];rfl))|((with_reducible apply Xl);(focus rfl);focus (simp only [Xo,Xp,Xq,Xr,Xs];rfl))|(with_reducible first|apply Xe|apply Xf|apply Xg|apply Xh)|((with_reducible apply Xi);focus first|rfl|(simp [go_sem, *];done))|((with_reducible apply Xj);focus first|rfl|(simp [go_sem, *];done))|(simp only [Exit.then,Exit.inBlock,↓reduceIte,Nat.reduceEqDiff]))
  have hf_e := hB_e.frozen
  ((with_reducible apply Xt (fun w' => Blk w' _ _ _ ∧ w2.grownBy w' (some _))); (focus rfl); (focus (simp [go_sem, effAt, *]; exact ⟨rfl, ((hB_e.set_ 0 _).set_ 1 _), (grown_set (grown_set (World.grownBy.refl _ _)))⟩)); (focus ((simp only [Xo,Xp,Xq,Xr,Xs];rfl))))
  clear hf_e hc_e hB_e
  intro w3 hs
  obtain ⟨hB_e, hs⟩ := hs
  simp only [Xq,Xr,Xs] at hB_e
  have Fw3 := Fw2.trans (Turn.of_grown hs (by first | exact .inl rfl | exact .inr (by omega)))
  replace hB_l := hB_l.grown hs (by intro hk; injection hk with hk; have := hB_l.lt; have := hB_e.lt; omega)
  replace hB_r := hB_r.grown hs (by intro hk; injection hk with hk; have := hB_r.lt; have := hB_e.lt; omega)
  clear hs Fw2
  clear hc_l; have hc_l := hB_l.cell
  clear hc_r; have hc_r := hB_r.cell
  have hc_e := hB_e.cell
  repeat (first|(with_reducible first|apply Xa|apply Xb|apply Xc|apply Xd)|((with_reducible apply Xk);(focus rfl);(focus (simp [go_sem,effAt,↓IntWalk.iteOmega, *];(try go_ints);with_reducible first|exact Xm|exact Xn));focus (simp only [Xo,Xp,Xq,Xr,Xs];rfl))|((with_reducible apply Xl);(focus rfl);focus (simp only [Xo,Xp,Xq,Xr,Xs];rfl))|(with_reducible first|apply Xe|apply Xf|apply Xg|apply Xh)|((with_reducible apply Xi);focus first|rfl|(simp [go_sem, *];done))|((with_reducible apply Xj);focus first|rfl|(simp [go_sem, *];done))|(simp only [Exit.then,Exit.inBlock,↓reduceIte,Nat.reduceEqDiff]))
  ((with_reducible apply Xt (fun w' => Blk w' _ _ _ ∧ w3.grownBy w' (some _))); (focus rfl); (focus (simp only [effAt]; simp [go_sem]; (with_reducible exact effUpon_enter (hG _ hB_l)))); (focus ((simp only [Xo,Xp,Xq,Xr,Xs];rfl))))
  clear hc_l hB_l
  intro w4 hs
  obtain ⟨hB_l, hs⟩ := hs
  have Fw4 := Fw3.trans (Turn.of_grown hs (by first | exact .inl rfl | exact .inr (by omega)))
  replace hB_r := hB_r.grown hs (by intro hk; injection hk with hk; have := hB_r.lt; have := hB_l.lt; omega)
  replace hB_e := hB_e.grown hs (by intro hk; injection hk with hk; have := hB_e.lt; have := hB_l.lt; omega)
  clear hs Fw3
  clear hc_r; have hc_r := hB_r.cell
  clear hc_e; have hc_e := hB_e.cell
  have hc_l := hB_l.cell
  repeat (first|(with_reducible first|apply Xa|apply Xb|apply Xc|apply Xd)|((with_reducible apply Xk);(focus rfl);(focus (simp [go_sem,effAt,↓IntWalk.iteOmega, *];(try go_ints);with_reducible first|exact Xm|exact Xn));focus (simp only [Xo,Xp,Xq,Xr,Xs];rfl))|((with_reducible apply Xl);(focus rfl);focus (simp only [Xo,Xp,Xq,Xr,Xs];rfl))|(with_reducible first|apply Xe|apply Xf|apply Xg|apply Xh)|((with_reducible apply Xi);focus first|rfl|(simp [go_sem, *];done))|((with_reducible apply Xj);focus first|rfl|(simp [go_sem, *];done))|(simp only [Exit.then,Exit.inBlock,↓reduceIte,Nat.reduceEqDiff]))
  have hf_r := hB_r.frozen
  ((with_reducible apply Xt (fun w' => Blk w' _ _ _ ∧ w4.grownBy w' (some _))); (focus rfl); (focus (simp [go_sem, effAt, *]; exact ⟨rfl, (((((hB_r.set_ 0 _).set_ 1 _).set_ 2 _).set_ 3 _).set_ 4 _), (grown_set (grown_set (grown_set (grown_set (grown_set (World.grownBy.refl _ _))))))⟩)); (focus ((simp only [Xo,Xp,Xq,Xr,Xs];rfl))))
  clear hf_r hc_r hB_r
  intro w5 hs
  obtain ⟨hB_r, hs⟩ := hs
  simp only [Xq,Xr,Xs] at hB_r
  have Fw5 := Fw4.trans (Turn.of_grown hs (by first | exact .inl rfl | exact .inr (by omega)))
  replace hB_l := hB_l.grown hs (by intro hk; injection hk with hk; have := hB_l.lt; have := hB_r.lt; omega)
  replace hB_e := hB_e.grown hs (by intro hk; injection hk with hk; have := hB_e.lt; have := hB_r.lt; omega)
  clear hs Fw4
  clear hc_l; have hc_l := hB_l.cell
  clear hc_e; have hc_e := hB_e.cell
  have hc_r := hB_r.cell
  repeat (first|(with_reducible first|apply Xa|apply Xb|apply Xc|apply Xd)|((with_reducible apply Xk);(focus rfl);(focus (simp [go_sem,effAt,↓IntWalk.iteOmega, *];(try go_ints);with_reducible first|exact Xm|exact Xn));focus (simp only [Xo,Xp,Xq,Xr,Xs];rfl))|((with_reducible apply Xl);(focus rfl);focus (simp only [Xo,Xp,Xq,Xr,Xs];rfl))|(with_reducible first|apply Xe|apply Xf|apply Xg|apply Xh)|((with_reducible apply Xi);focus first|rfl|(simp [go_sem, *];done))|((with_reducible apply Xj);focus first|rfl|(simp [go_sem, *];done))|(simp only [Exit.then,Exit.inBlock,↓reduceIte,Nat.reduceEqDiff]))
  refine bodyPost_ret (v := (actV 2 false false 0 2)) (by simp [results, Try.results34, go_sem, *]) rfl ⟨rfl, hB_l, Turn.to_grown (by assumption)⟩
theorem down_cmd1f (g : Nat) (s : Int) (ls : Bool) (tr mo : Int) (a : Int) (w : World) (hB_l : LB w g s ls tr mo) (hls : ls = false) :
    Calls Try.prog 34 #[.pointer (some ⟨g, 0, none⟩), .iface 75 (.agg #[.int .u8 1, .int .u8 a])] w (Ret (actV a false false 0 0) fun w' => LB w' g s ls tr mo ∧ w.grownBy w' (some g)) := by
  have ha_opens := as_75_62 (.agg #[.int .u8 1, .int .u8 a])
  have ha_cmd := as_75_75 (.agg #[.int .u8 1, .int .u8 a])
  unfold LB at *
  go_enter Try.func34, Try.ntmps34
  have F0 : Turn (fun i => i = g ∨ w.heap.size ≤ i) w w := Turn.refl _
  have hc_l := hB_l.cell
  repeat (first|(with_reducible first|apply Xa|apply Xb|apply Xc|apply Xd)|((with_reducible apply Xk);(focus rfl);(focus (simp [go_sem,effAt,↓IntWalk.iteOmega, *];(try go_ints);with_reducible first|exact Xm|exact Xn));focus (simp only [Xo,Xp,Xq,Xr,Xs];rfl))|((with_reducible apply Xl);(focus rfl);focus (simp only [Xo,Xp,Xq,Xr,Xs];rfl))|(with_reducible first|apply Xe|apply Xf|apply Xg|apply Xh)|((with_reducible apply Xi);focus first|rfl|(simp [go_sem, *];done))|((with_reducible apply Xj);focus first|rfl|(simp [go_sem, *];done))|(simp only [Exit.then,Exit.inBlock,↓reduceIte,Nat.reduceEqDiff]))
  have lt_l_r := hB_l.lt
  have le_r := F0.size
  ((with_reducible apply Xu); (focus rfl); (focus (simp [go_sem, effAt]; exact ⟨rfl, rfl⟩)); (focus ((simp only [Xo,Xp,Xq,Xr,Xs];rfl))))
  intro w1 hB_r hs
  have Fw1 := F0.trans (Turn.of_below hs)
  replace hB_l := hB_l.below hs hB_l.lt
  clear hs F0
  clear hc_l; have hc_l := hB_l.cell
  have hc_r := hB_r.cell
  repeat (first|(with_reducible first|apply Xa|apply Xb|apply Xc|apply Xd)|((with_reducible apply Xk);(focus rfl);(focus (simp [go_sem,effAt,↓IntWalk.iteOmega, *];(try go_ints);with_reducible first|exact Xm|exact Xn));focus (simp only [Xo,Xp,Xq,Xr,Xs];rfl))|((with_reducible apply Xl);(focus rfl);focus (simp only [Xo,Xp,Xq,Xr,Xs];rfl))|(with_reducible first|apply Xe|apply Xf|apply Xg|apply Xh)|((with_reducible apply Xi);focus first|rfl|(simp [go_sem, *];done))|((with_reducible apply Xj);focus first|rfl|(simp [go_sem, *];done))|(simp only [Exit.then,Exit.inBlock,↓reduceIte,Nat.reduceEqDiff]))
  have lt_l_e := hB_l.lt
  have lt_r_e := hB_r.lt
  have le_e := Fw1.size
  ((with_reducible apply Xu); (focus rfl); (focus (simp [go_sem, effAt]; exact ⟨rfl, rfl⟩)); (focus ((simp only [Xo,Xp,Xq,Xr,Xs];rfl))))
  intro w2 hB_e hs
  have Fw2 := Fw1.trans (Turn.of_below hs)
  replace hB_l := hB_l.below hs hB_l.lt
  replace hB_r := hB_r.below hs hB_r.lt
  clear hs Fw1
  clear hc_l; have hc_l := hB_l.cell
  clear hc_r; have hc_r := hB_r.cell
  have hc_e := hB_e.cell
  repeat (first|(with_reducible first|apply Xa|apply Xb|apply Xc|apply Xd)|((with_reducible apply Xk);(focus rfl);(focus (simp [go_sem,effAt,↓IntWalk.iteOmega, *];(try go_ints);with_reducible first|exact Xm|exact Xn));focus (simp only [Xo,Xp,Xq,Xr,Xs];rfl))|((with_reducible apply Xl);(focus rfl);focus (simp only [Xo,Xp,Xq,Xr,Xs];rfl))|(with_reducible first|apply Xe|apply Xf|apply Xg|apply Xh)|((with_reducible apply Xi);focus first|rfl|(simp [go_sem, *];done))|((with_reducible apply Xj);focus first|rfl|(simp [go_sem, *];done))|(simp only [Exit.then,Exit.inBlock,↓reduceIte,Nat.reduceEqDiff]))
  have hf_e := hB_e.frozen
  ((with_reducible apply Xt (fun w' => Blk w' _ _ _ ∧ w2.grownBy w' (some _))); (focus rfl); (focus (simp [go_sem, effAt, *]; exact ⟨rfl, ((hB_e.set_ 0 _).set_ 1 _), (grown_set (grown_set (World.grownBy.refl _ _)))⟩)); (focus ((simp only [Xo,Xp,Xq,Xr,Xs];rfl))))
  clear hf_e hc_e hB_e
  intro w3 hs
  obtain ⟨hB_e, hs⟩ := hs
  simp only [Xq,Xr,Xs] at hB_e
  have Fw3 := Fw2.trans (Turn.of_grown hs (by first | exact .inl rfl | exact .inr (by omega)))
  replace hB_l := hB_l.grown hs (by intro hk; injection hk with hk; have := hB_l.lt; have := hB_e.lt; omega)
  replace hB_r := hB_r.grown hs (by intro hk; injection hk with hk; have := hB_r.lt; have := hB_e.lt; omega)
  clear hs Fw2
  clear hc_l; have hc_l := hB_l.cell
  clear hc_r; have hc_r := hB_r.cell
  have hc_e := hB_e.cell
  repeat (first|(with_reducible first|apply Xa|apply Xb|apply Xc|apply Xd)|((with_reducible apply Xk);(focus rfl);(focus (simp [go_sem,effAt,↓IntWalk.iteOmega, *];(try go_ints);with_reducible first|exact Xm|exact Xn));focus (simp only [Xo,Xp,Xq,Xr,Xs];rfl))|((with_reducible apply Xl);(focus rfl);focus (simp only [Xo,Xp,Xq,Xr,Xs];rfl))|(with_reducible first|apply Xe|apply Xf|apply Xg|apply Xh)|((with_reducible apply Xi);focus first|rfl|(simp [go_sem, *];done))|((with_reducible apply Xj);focus first|rfl|(simp [go_sem, *];done))|(simp only [Exit.then,Exit.inBlock,↓reduceIte,Nat.reduceEqDiff]))
  have hf_r := hB_r.frozen
  ((with_reducible apply Xt (fun w' => Blk w' _ _ _ ∧ w3.grownBy w' (some _))); (focus rfl); (focus (simp [go_sem, effAt, *]; exact ⟨rfl, (((((hB_r.set_ 0 _).set_ 1 _).set_ 2 _).set_ 3 _).set_ 4 _), (grown_set (grown_set (grown_set (grown_set (grown_set (World.grownBy.refl _ _))))))⟩)); (focus ((simp only [Xo,Xp,Xq,Xr,Xs];rfl))))
  clear hf_r hc_r hB_r
  intro w4 hs
  obtain ⟨hB_r, hs⟩ := hs
  simp only [Xq,Xr,Xs] at hB_r
  have Fw4 := Fw3.trans (Turn.of_grown hs (by first | exact .inl rfl | exact .inr (by omega)))
  replace hB_l := hB_l.grown hs (by intro hk; injection hk with hk; have := hB_l.lt; have := hB_r.lt; omega)
  replace hB_e := hB_e.grown hs (by intro hk; injection hk with hk; have := hB_e.lt; have := hB_r.lt; omega)
  clear hs Fw3
  clear hc_l; have hc_l := hB_l.cell
  clear hc_e; have hc_e := hB_e.cell
  have hc_r := hB_r.cell
  repeat (first|(with_reducible first|apply Xa|apply Xb|apply Xc|apply Xd)|((with_reducible apply Xk);(focus rfl);(focus (simp [go_sem,effAt,↓IntWalk.iteOmega, *];(try go_ints);with_reducible first|exact Xm|exact Xn));focus (simp only [Xo,Xp,Xq,Xr,Xs];rfl))|((with_reducible apply Xl);(focus rfl);focus (simp only [Xo,Xp,Xq,Xr,Xs];rfl))|(with_reducible first|apply Xe|apply Xf|apply Xg|apply Xh)|((with_reducible apply Xi);focus first|rfl|(simp [go_sem, *];done))|((with_reducible apply Xj);focus first|rfl|(simp [go_sem, *];done))|(simp only [Exit.then,Exit.inBlock,↓reduceIte,Nat.reduceEqDiff]))
  refine bodyPost_ret (v := (actV a false false 0 0)) (by simp [results, Try.results34, go_sem, *]) rfl ⟨rfl, hB_l, Turn.to_grown (by assumption)⟩
theorem down_cmdo (g : Nat) (s : Int) (ls : Bool) (tr mo : Int) (k a : Int) (w : World) (hB_l : LB w g s ls tr mo) (h1 : ¬ k = 1) :
    Calls Try.prog 34 #[.pointer (some ⟨g, 0, none⟩), .iface 75 (.agg #[.int .u8 k, .int .u8 a])] w (Ret (actV a false false 0 0) fun w' => LB w' g s ls tr mo ∧ w.grownBy w' (some g)) := by
  have ha_opens := as_75_62 (.agg #[.int .u8 k, .int .u8 a])
  have ha_cmd := as_75_75 (.agg #[.int .u8 k, .int .u8 a])
  have n1 : (k == 1) = false := by simpa using h1
  unfold LB at *
  go_enter Try.func34, Try.ntmps34
  have F0 : Turn (fun i => i = g ∨ w.heap.size ≤ i) w w := Turn.refl _
  have hc_l := hB_l.cell
  repeat (first|(with_reducible first|apply Xa|apply Xb|apply Xc|apply Xd)|((with_reducible apply Xk);(focus rfl);(focus (simp [go_sem,effAt,↓IntWalk.iteOmega, *];(try go_ints);with_reducible first|exact Xm|exact Xn));focus (simp only [Xo,Xp,Xq,Xr,Xs];rfl))|((with_reducible apply Xl);(focus rfl);focus (simp only [Xo,Xp,Xq,Xr,Xs];rfl))|(with_reducible first|apply Xe|apply Xf|apply Xg|apply Xh)|((with_reducible apply Xi);focus first|rfl|(simp [go_sem, *];done))|((with_reducible apply Xj);focus first|rfl|(simp [go_sem, *];done))|(simp only [Exit.then,Exit.inBlock,↓reduceIte,Nat.reduceEqDiff]))
  have lt_l_r := hB_l.lt
  have le_r := F0.size
  ((with_reducible apply Xu); (focus rfl); (focus (simp [go_sem, effAt]; exact ⟨rfl, rfl⟩)); (focus ((simp only [Xo,Xp,Xq,Xr,Xs];rfl))))
  intro w1 hB_r hs
  have Fw1 := F0.trans (Turn.of_below hs)
  replace hB_l := hB_l.below hs hB_l.lt
  clear hs F0
  clear hc_l; have hc_l := hB_l.cell
  have hc_r := hB_r.cell
  repeat (first|(with_reducible first|apply Xa|apply Xb|apply Xc|apply Xd)|((with_reducible apply Xk);(focus rfl);(focus (simp [go_sem,effAt,↓IntWalk.iteOmega, *];(try go_ints);with_reducible first|exact Xm|exact Xn));focus (simp only [Xo,Xp,Xq,Xr,Xs];rfl))|((with_reducible apply Xl);(focus rfl);focus (simp only [Xo,Xp,Xq,Xr,Xs];rfl))|(with_reducible first|apply Xe|apply Xf|apply Xg|apply Xh)|((with_reducible apply Xi);focus first|rfl|(simp [go_sem, *];done))|((with_reducible apply Xj);focus first|rfl|(simp [go_sem, *];done))|(simp only [Exit.then,Exit.inBlock,↓reduceIte,Nat.reduceEqDiff]))
  have lt_l_e := hB_l.lt
  have lt_r_e := hB_r.lt
  have le_e := Fw1.size
  ((with_reducible apply Xu); (focus rfl); (focus (simp [go_sem, effAt]; exact ⟨rfl, rfl⟩)); (focus ((simp only [Xo,Xp,Xq,Xr,Xs];rfl))))
  intro w2 hB_e hs
  have Fw2 := Fw1.trans (Turn.of_below hs)
  replace hB_l := hB_l.below hs hB_l.lt
  replace hB_r := hB_r.below hs hB_r.lt
  clear hs Fw1
  clear hc_l; have hc_l := hB_l.cell
  clear hc_r; have hc_r := hB_r.cell
  have hc_e := hB_e.cell
  repeat (first|(with_reducible first|apply Xa|apply Xb|apply Xc|apply Xd)|((with_reducible apply Xk);(focus rfl);(focus (simp [go_sem,effAt,↓IntWalk.iteOmega, *];(try go_ints);with_reducible first|exact Xm|exact Xn));focus (simp only [Xo,Xp,Xq,Xr,Xs];rfl))|((with_reducible apply Xl);(focus rfl);focus (simp only [Xo,Xp,Xq,Xr,Xs];rfl))|(with_reducible first|apply Xe|apply Xf|apply Xg|apply Xh)|((with_reducible apply Xi);focus first|rfl|(simp [go_sem, *];done))|((with_reducible apply Xj);focus first|rfl|(simp [go_sem, *];done))|(simp only [Exit.then,Exit.inBlock,↓reduceIte,Nat.reduceEqDiff]))
  have hf_e := hB_e.frozen
  ((with_reducible apply Xt (fun w' => Blk w' _ _ _ ∧ w2.grownBy w' (some _))); (focus rfl); (focus (simp [go_sem, effAt, *]; exact ⟨rfl, ((hB_e.set_ 0 _).set_ 1 _), (grown_set (grown_set (World.grownBy.refl _ _)))⟩)); (focus ((simp only [Xo,Xp,Xq,Xr,Xs];rfl))))
  clear hf_e hc_e hB_e
  intro w3 hs
  obtain ⟨hB_e, hs⟩ := hs
  simp only [Xq,Xr,Xs] at hB_e
  have Fw3 := Fw2.trans (Turn.of_grown hs (by first | exact .inl rfl | exact .inr (by omega)))
  replace hB_l := hB_l.grown hs (by intro hk; injection hk with hk; have := hB_l.lt; have := hB_e.lt; omega)
  replace hB_r := hB_r.grown hs (by intro hk; injection hk with hk; have := hB_r.lt; have := hB_e.lt; omega)
  clear hs Fw2
  clear hc_l; have hc_l := hB_l.cell
  clear hc_r; have hc_r := hB_r.cell
  have hc_e := hB_e.cell
  repeat (first|(with_reducible first|apply Xa|apply Xb|apply Xc|apply Xd)|((with_reducible apply Xk);(focus rfl);(focus (simp [go_sem,effAt,↓IntWalk.iteOmega, *];(try go_ints);with_reducible first|exact Xm|exact Xn));focus (simp only [Xo,Xp,Xq,Xr,Xs];rfl))|((with_reducible apply Xl);(focus rfl);focus (simp only [Xo,Xp,Xq,Xr,Xs];rfl))|(with_reducible first|apply Xe|apply Xf|apply Xg|apply Xh)|((with_reducible apply Xi);focus first|rfl|(simp [go_sem, *];done))|((with_reducible apply Xj);focus first|rfl|(simp [go_sem, *];done))|(simp only [Exit.then,Exit.inBlock,↓reduceIte,Nat.reduceEqDiff]))
  have hf_r := hB_r.frozen
  ((with_reducible apply Xt (fun w' => Blk w' _ _ _ ∧ w3.grownBy w' (some _))); (focus rfl); (focus (simp [go_sem, effAt, *]; exact ⟨rfl, (((((hB_r.set_ 0 _).set_ 1 _).set_ 2 _).set_ 3 _).set_ 4 _), (grown_set (grown_set (grown_set (grown_set (grown_set (World.grownBy.refl _ _))))))⟩)); (focus ((simp only [Xo,Xp,Xq,Xr,Xs];rfl))))
  clear hf_r hc_r hB_r
  intro w4 hs
  obtain ⟨hB_r, hs⟩ := hs
  simp only [Xq,Xr,Xs] at hB_r
  have Fw4 := Fw3.trans (Turn.of_grown hs (by first | exact .inl rfl | exact .inr (by omega)))
  replace hB_l := hB_l.grown hs (by intro hk; injection hk with hk; have := hB_l.lt; have := hB_r.lt; omega)
  replace hB_e := hB_e.grown hs (by intro hk; injection hk with hk; have := hB_e.lt; have := hB_r.lt; omega)
  clear hs Fw3
  clear hc_l; have hc_l := hB_l.cell
  clear hc_e; have hc_e := hB_e.cell
  have hc_r := hB_r.cell
  repeat (first|(with_reducible first|apply Xa|apply Xb|apply Xc|apply Xd)|((with_reducible apply Xk);(focus rfl);(focus (simp [go_sem,effAt,↓IntWalk.iteOmega, *];(try go_ints);with_reducible first|exact Xm|exact Xn));focus (simp only [Xo,Xp,Xq,Xr,Xs];rfl))|((with_reducible apply Xl);(focus rfl);focus (simp only [Xo,Xp,Xq,Xr,Xs];rfl))|(with_reducible first|apply Xe|apply Xf|apply Xg|apply Xh)|((with_reducible apply Xi);focus first|rfl|(simp [go_sem, *];done))|((with_reducible apply Xj);focus first|rfl|(simp [go_sem, *];done))|(simp only [Exit.then,Exit.inBlock,↓reduceIte,Nat.reduceEqDiff]))
  refine bodyPost_ret (v := (actV a false false 0 0)) (by simp [results, Try.results34, go_sem, *]) rfl ⟨rfl, hB_l, Turn.to_grown (by assumption)⟩
theorem opening_closes (g : Nat) (s : Int) (ls : Bool) (tr mo : Int) (w : World) (hB_l : LB w g s ls tr mo) :
    Calls Try.prog 35 #[.pointer (some ⟨g, 0, none⟩), .iface 63 (.agg #[])] w (Ret (actV 4 true true 1 0) fun w' => LB w' g 4 ls 0 mo ∧ w.grownBy w' (some g)) := by
  have ha_closes := as_63_63 (.agg #[])
  have ha_due := as_63_68 (.agg #[])
  have ha_resp := as_63_67 (.agg #[])
  have ha_cmd := as_63_75 (.agg #[])
  have hG := fun w h => begins_any g s 4 ls tr mo 4 w h
  unfold LB at *
  go_enter Try.func35, Try.ntmps35
  have F0 : Turn (fun i => i = g ∨ w.heap.size ≤ i) w w := Turn.refl _
  have hc_l := hB_l.cell
  repeat (first|(with_reducible first|apply Xa|apply Xb|apply Xc|apply Xd)|((with_reducible apply Xk);(focus rfl);(focus (simp [go_sem,effAt,↓IntWalk.iteOmega, *];(try go_ints);with_reducible first|exact Xm|exact Xn));focus (simp only [Xo,Xp,Xq,Xr,Xs];rfl))|((with_reducible apply Xl);(focus rfl);focus (simp only [Xo,Xp,Xq,Xr,Xs];rfl))|(with_reducible first|apply Xe|apply Xf|apply Xg|apply Xh)|((with_reducible apply Xi);focus first|rfl|(simp [go_sem, *];done))|((with_reducible apply Xj);focus first|rfl|(simp [go_sem, *];done))|(simp only [Exit.then,Exit.inBlock,↓reduceIte,Nat.reduceEqDiff]))
  have lt_l_r := hB_l.lt
  have le_r := F0.size
  ((with_reducible apply Xu); (focus rfl); (focus (simp [go_sem, effAt]; exact ⟨rfl, rfl⟩)); (focus ((simp only [Xo,Xp,Xq,Xr,Xs];rfl))))
  intro w1 hB_r hs
  have Fw1 := F0.trans (Turn.of_below hs)
  replace hB_l := hB_l.below hs hB_l.lt
  clear hs F0
  clear hc_l; have hc_l := hB_l.cell
  have hc_r := hB_r.cell
  repeat (first|(with_reducible first|apply Xa|apply Xb|apply Xc|apply Xd)|((with_reducible apply Xk);(focus rfl);(focus (simp [go_sem,effAt,↓IntWalk.iteOmega, *];(try go_ints);with_reducible first|exact Xm|exact Xn));focus (simp only [Xo,Xp,Xq,Xr,Xs];rfl))|((with_reducible apply Xl);(focus rfl);focus (simp only [Xo,Xp,Xq,Xr,Xs];rfl))|(with_reducible first|apply Xe|apply Xf|apply Xg|apply Xh)|((with_reducible apply Xi);focus first|rfl|(simp [go_sem, *];done))|((with_reducible apply Xj);focus first|rfl|(simp [go_sem, *];done))|(simp only [Exit.then,Exit.inBlock,↓reduceIte,Nat.reduceEqDiff]))
  have lt_l_e := hB_l.lt
  have lt_r_e := hB_r.lt
  have le_e := Fw1.size
  ((with_reducible apply Xu); (focus rfl); (focus (simp [go_sem, effAt]; exact ⟨rfl, rfl⟩)); (focus ((simp only [Xo,Xp,Xq,Xr,Xs];rfl))))
  intro w2 hB_e hs
  have Fw2 := Fw1.trans (Turn.of_below hs)
  replace hB_l := hB_l.below hs hB_l.lt
  replace hB_r := hB_r.below hs hB_r.lt
  clear hs Fw1
  clear hc_l; have hc_l := hB_l.cell
  clear hc_r; have hc_r := hB_r.cell
  have hc_e := hB_e.cell
  repeat (first|(with_reducible first|apply Xa|apply Xb|apply Xc|apply Xd)|((with_reducible apply Xk);(focus rfl);(focus (simp [go_sem,effAt,↓IntWalk.iteOmega, *];(try go_ints);with_reducible first|exact Xm|exact Xn));focus (simp only [Xo,Xp,Xq,Xr,Xs];rfl))|((with_reducible apply Xl);(focus rfl);focus (simp only [Xo,Xp,Xq,Xr,Xs];rfl))|(with_reducible first|apply Xe|apply Xf|apply Xg|apply Xh)|((with_reducible apply Xi);focus first|rfl|(simp [go_sem, *];done))|((with_reducible apply Xj);focus first|rfl|(simp [go_sem, *];done))|(simp only [Exit.then,Exit.inBlock,↓reduceIte,Nat.reduceEqDiff]))
  ((with_reducible apply Xt (fun w' => Blk w' _ _ _ ∧ w2.grownBy w' (some _))); (focus rfl); (focus (simp only [effAt]; simp [go_sem]; (with_reducible exact effUpon_enter (hG _ hB_l)))); (focus ((simp only [Xo,Xp,Xq,Xr,Xs];rfl))))
  clear hc_l hB_l
  intro w3 hs
  obtain ⟨hB_l, hs⟩ := hs
  have Fw3 := Fw2.trans (Turn.of_grown hs (by first | exact .inl rfl | exact .inr (by omega)))
  replace hB_r := hB_r.grown hs (by intro hk; injection hk with hk; have := hB_r.lt; have := hB_l.lt; omega)
  replace hB_e := hB_e.grown hs (by intro hk; injection hk with hk; have := hB_e.lt; have := hB_l.lt; omega)
  clear hs Fw2
  clear hc_r; have hc_r := hB_r.cell
  clear hc_e; have hc_e := hB_e.cell
  have hc_l := hB_l.cell
  repeat (first|(with_reducible first|apply Xa|apply Xb|apply Xc|apply Xd)|((with_reducible apply Xk);(focus rfl);(focus (simp [go_sem,effAt,↓IntWalk.iteOmega, *];(try go_ints);with_reducible first|exact Xm|exact Xn));focus (simp only [Xo,Xp,Xq,Xr,Xs];rfl))|((with_reducible apply Xl);(focus rfl);focus (simp only [Xo,Xp,Xq,Xr,Xs];rfl))|(with_reducible first|apply Xe|apply Xf|apply Xg|apply Xh)|((with_reducible apply Xi);focus first|rfl|(simp [go_sem, *];done))|((with_reducible apply Xj);focus first|rfl|(simp [go_sem, *];done))|(simp only [Exit.then,Exit.inBlock,↓reduceIte,Nat.reduceEqDiff]))
  have hf_r := hB_r.frozen
  ((with_reducible apply Xt (fun w' => Blk w' _ _ _ ∧ w3.grownBy w' (some _))); (focus rfl); (focus (simp [go_sem, effAt, *]; exact ⟨rfl, (((((hB_r.set_ 0 _).set_ 1 _).set_ 2 _).set_ 3 _).set_ 4 _), (grown_set (grown_set (grown_set (grown_set (grown_set (World.grownBy.refl _ _))))))⟩)); (focus ((simp only [Xo,Xp,Xq,Xr,Xs];rfl))))
  clear hf_r hc_r hB_r
  intro w4 hs
  obtain ⟨hB_r, hs⟩ := hs
  simp only [Xq,Xr,Xs] at hB_r
  have Fw4 := Fw3.trans (Turn.of_grown hs (by first | exact .inl rfl | exact .inr (by omega)))
  replace hB_l := hB_l.grown hs (by intro hk; injection hk with hk; have := hB_l.lt; have := hB_r.lt; omega)
  replace hB_e := hB_e.grown hs (by intro hk; injection hk with hk; have := hB_e.lt; have := hB_r.lt; omega)
  clear hs Fw3
  clear hc_l; have hc_l := hB_l.cell
  clear hc_e; have hc_e := hB_e.cell
  have hc_r := hB_r.cell
  repeat (first|(with_reducible first|apply Xa|apply Xb|apply Xc|apply Xd)|((with_reducible apply Xk);(focus rfl);(focus (simp [go_sem,effAt,↓IntWalk.iteOmega, *];(try go_ints);with_reducible first|exact Xm|exact Xn));focus (simp only [Xo,Xp,Xq,Xr,Xs];rfl))|((with_reducible apply Xl);(focus rfl);focus (simp only [Xo,Xp,Xq,Xr,Xs];rfl))|(with_reducible first|apply Xe|apply Xf|apply Xg|apply Xh)|((with_reducible apply Xi);focus first|rfl|(simp [go_sem, *];done))|((with_reducible apply Xj);focus first|rfl|(simp [go_sem, *];done))|(simp only [Exit.then,Exit.inBlock,↓reduceIte,Nat.reduceEqDiff]))
  refine bodyPost_ret (v := (actV 4 true true 1 0)) (by simp [results, Try.results35, go_sem, *]) rfl ⟨rfl, hB_l, Turn.to_grown (by assumption)⟩
theorem opening_dueM (g : Nat) (s : Int) (ls : Bool) (tr mo : Int) (w : World) (hB_l : LB w g s ls tr mo) (h : tr < mo) (hb : 0 ≤ tr ∧ mo ≤ 255) :
    Calls Try.prog 35 #[.pointer (some ⟨g, 0, none⟩), .iface 68 (.agg #[])] w (Ret (actV 1 true true 1 0) fun w' => LB w' g s ls (tr + 1) mo ∧ w.grownBy w' (some g)) := by
  have ha_closes := as_68_63 (.agg #[])
  have ha_due := as_68_68 (.agg #[])
  have ha_resp := as_68_67 (.agg #[])
  have ha_cmd := as_68_75 (.agg #[])
  have hG := fun w h' => again_more g s ls tr mo 1 w h' h hb
  unfold LB at *
  go_enter Try.func35, Try.ntmps35
  have F0 : Turn (fun i => i = g ∨ w.heap.size ≤ i) w w := Turn.refl _
  have hc_l := hB_l.cell
  repeat (first|(with_reducible first|apply Xa|apply Xb|apply Xc|apply Xd)|((with_reducible apply Xk);(focus rfl);(focus (simp [go_sem,effAt,↓IntWalk.iteOmega, *];(try go_ints);with_reducible first|exact Xm|exact Xn));focus (simp only [Xo,Xp,Xq,Xr,Xs];rfl))|((with_reducible apply Xl);(focus rfl);focus (simp only [Xo,Xp,Xq,Xr,Xs];rfl))|(with_reducible first|apply Xe|apply Xf|apply Xg|apply Xh)|((with_reducible apply Xi);focus first|rfl|(simp [go_sem, *];done))|((with_reducible apply Xj);focus first|rfl|(simp [go_sem, *];done))|(simp only [Exit.then,Exit.inBlock,↓reduceIte,Nat.reduceEqDiff]))
  have lt_l_r := hB_l.lt
  have le_r := F0.size
  ((with_reducible apply Xu); (focus rfl); (focus (simp [go_sem, effAt]; exact ⟨rfl, rfl⟩)); (focus ((simp only [Xo,Xp,Xq,Xr,Xs];rfl))))
  intro w1 hB_r hs
  have Fw1 := F0.trans (Turn.of_below hs)
  replace hB_l := hB_l.below hs hB_l.lt
  clear hs F0
  clear hc_l; have hc_l := hB_l.cell
  have hc_r := hB_r.cell
  repeat (first|(with_reducible first|apply Xa|apply Xb|apply Xc|apply Xd)|((with_reducible apply Xk);(focus rfl);(focus (simp [go_sem,effAt,↓IntWalk.iteOmega, *];(try go_ints);with_reducible first|exact Xm|exact Xn));focus (simp only [Xo,Xp,Xq,Xr,Xs];rfl))|((with_reducible apply Xl);(focus rfl);focus (simp only [Xo,Xp,Xq,Xr,Xs];rfl))|(with_reducible first|apply Xe|apply Xf|apply Xg|apply Xh)|((with_reducible apply Xi);focus first|rfl|(simp [go_sem, *];done))|((with_reducible apply Xj);focus first|rfl|(simp [go_sem, *];done))|(simp only [Exit.then,Exit.inBlock,↓reduceIte,Nat.reduceEqDiff]))
  have lt_l_e := hB_l.lt
  have lt_r_e := hB_r.lt
  have le_e := Fw1.size
  ((with_reducible apply Xu); (focus rfl); (focus (simp [go_sem, effAt]; exact ⟨rfl, rfl⟩)); (focus ((simp only [Xo,Xp,Xq,Xr,Xs];rfl))))
  intro w2 hB_e hs
  have Fw2 := Fw1.trans (Turn.of_below hs)
  replace hB_l := hB_l.below hs hB_l.lt
  replace hB_r := hB_r.below hs hB_r.lt
  clear hs Fw1
  clear hc_l; have hc_l := hB_l.cell
  clear hc_r; have hc_r := hB_r.cell
  have hc_e := hB_e.cell
  repeat (first|(with_reducible first|apply Xa|apply Xb|apply Xc|apply Xd)|((with_reducible apply Xk);(focus rfl);(focus (simp [go_sem,effAt,↓IntWalk.iteOmega, *];(try go_ints);with_reducible first|exact Xm|exact Xn));focus (simp only [Xo,Xp,Xq,Xr,Xs];rfl))|((with_reducible apply Xl);(focus rfl);focus (simp only [Xo,Xp,Xq,Xr,Xs];rfl))|(with_reducible first|apply Xe|apply Xf|apply Xg|apply Xh)|((with_reducible apply Xi);focus first|rfl|(simp [go_sem, *];done))|((with_reducible apply Xj);focus first|rfl|(simp [go_sem, *];done))|(simp only [Exit.then,Exit.inBlock,↓reduceIte,Nat.reduceEqDiff]))
  ((with_reducible apply Xt (fun w' => Blk w' _ _ _ ∧ w2.grownBy w' (some _))); (focus rfl); (focus (simp only [effAt]; simp [go_sem]; (with_reducible exact effUpon_enter (hG _ hB_l)))); (focus ((simp only [Xo,Xp,Xq,Xr,Xs];rfl))))
  clear hc_l hB_l
  intro w3 hs
  obtain ⟨hB_l, hs⟩ := hs
  have Fw3 := Fw2.trans (Turn.of_grown hs (by first | exact .inl rfl | exact .inr (by omega)))
  replace hB_r := hB_r.grown hs (by intro hk; injection hk with hk; have := hB_r.lt; have := hB_l.lt; omega)
  replace hB_e := hB_e.grown hs (by intro hk; injection hk with hk; have := hB_e.lt; have := hB_l.lt; omega)
  clear hs Fw2
  clear hc_r; have hc_r := hB_r.cell
  clear hc_e; have hc_e := hB_e.cell
  have hc_l := hB_l.cell
  repeat (first|(with_reducible first|apply Xa|apply Xb|apply Xc|apply Xd)|((with_reducible apply Xk);(focus rfl);(focus (simp [go_sem,effAt,↓IntWalk.iteOmega, *];(try go_ints);with_reducible first|exact Xm|exact Xn));focus (simp only [Xo,Xp,Xq,Xr,Xs];rfl))|((with_reducible apply Xl);(focus rfl);focus (simp only [Xo,Xp,Xq,Xr,Xs];rfl))|(with_reducible first|apply Xe|apply Xf|apply Xg|apply Xh)|((with_reducible apply Xi);focus first|rfl|(simp [go_sem, *];done))|((with_reducible apply Xj);focus first|rfl|(simp [go_sem, *];done))|(simp only [Exit.then,Exit.inBlock,↓reduceIte,Nat.reduceEqDiff]))
  have hf_r := hB_r.frozen
  ((with_reducible apply Xt (fun w' => Blk w' _ _ _ ∧ w3.grownBy w' (some _))); (focus rfl); (focus (simp [go_sem, effAt, *]; exact ⟨rfl, (((((hB_r.set_ 0 _).set_ 1 _).set_ 2 _).set_ 3 _).set_ 4 _), (grown_set (grown_set (grown_set (grown_set (grown_set (World.grownBy.refl _ _))))))⟩)); (focus ((simp only [Xo,Xp,Xq,Xr,Xs];rfl))))
  clear hf_r hc_r hB_r
  intro w4 hs
  obtain ⟨hB_r, hs⟩ := hs
  simp only [Xq,Xr,Xs] at hB_r
  have Fw4 := Fw3.trans (Turn.of_grown hs (by first | exact .inl rfl | exact .inr (by omega)))
  replace hB_l := hB_l.grown hs (by intro hk; injection hk with hk; have := hB_l.lt; have := hB_r.lt; omega)
  replace hB_e := hB_e.grown hs (by intro hk; injection hk with hk; have := hB_e.lt; have := hB_r.lt; omega)
  clear hs Fw3
  clear hc_l; have hc_l := hB_l.cell
  clear hc_e; have hc_e := hB_e.cell
  have hc_r := hB_r.cell
  repeat (first|(with_reducible first|apply Xa|apply Xb|apply Xc|apply Xd)|((with_reducible apply Xk);(focus rfl);(focus (simp [go_sem,effAt,↓IntWalk.iteOmega, *];(try go_ints);with_reducible first|exact Xm|exact Xn));focus (simp only [Xo,Xp,Xq,Xr,Xs];rfl))|((with_reducible apply Xl);(focus rfl);focus (simp only [Xo,Xp,Xq,Xr,Xs];rfl))|(with_reducible first|apply Xe|apply Xf|apply Xg|apply Xh)|((with_reducible apply Xi);focus first|rfl|(simp [go_sem, *];done))|((with_reducible apply Xj);focus first|rfl|(simp [go_sem, *];done))|(simp only [Exit.then,Exit.inBlock,↓reduceIte,Nat.reduceEqDiff]))
  refine bodyPost_ret (v := (actV 1 true true 1 0)) (by simp [results, Try.results35, go_sem, *]) rfl ⟨rfl, hB_l, Turn.to_grown (by assumption)⟩
theorem opening_dueE (g : Nat) (s : Int) (ls : Bool) (tr mo : Int) (w : World) (hB_l : LB w g s ls tr mo) (h : ¬ tr < mo) :
    Calls Try.prog 35 #[.pointer (some ⟨g, 0, none⟩), .iface 68 (.agg #[])] w (Ret (actV 0 false false 2 6) fun w' => LB w' g 5 ls tr mo ∧ w.grownBy w' (some g)) := by
  have ha_closes := as_68_63 (.agg #[])
  have ha_due := as_68_68 (.agg #[])
  have ha_resp := as_68_67 (.agg #[])
  have ha_cmd := as_68_75 (.agg #[])
  have hG := fun w h' => again_end g s ls tr mo 1 w h' h
  unfold LB at *
  go_enter Try.func35, Try.ntmps35
  have F0 : Turn (fun i => i = g ∨ w.heap.size ≤ i) w w := Turn.refl _
  have hc_l := hB_l.cell
  repeat (first|(with_reducible first|apply Xa|apply Xb|apply Xc|apply Xd)|((with_reducible apply Xk);(focus rfl);(focus (simp [go_sem,effAt,↓IntWalk.iteOmega, *];(try go_ints);with_reducible first|exact Xm|exact Xn));focus (simp only [Xo,Xp,Xq,Xr,Xs];rfl))|((with_reducible apply Xl);(focus rfl);focus (simp only [Xo,Xp,Xq,Xr,Xs];rfl))|(with_reducible first|apply Xe|apply Xf|apply Xg|apply Xh)|((with_reducible apply Xi);focus first|rfl|(simp [go_sem, *];done))|((with_reducible apply Xj);focus first|rfl|(simp [go_sem, *];done))|(simp only [Exit.then,Exit.inBlock,↓reduceIte,Nat.reduceEqDiff]))
  have lt_l_r := hB_l.lt
  have le_r := F0.size
  ((with_reducible apply Xu); (focus rfl); (focus (simp [go_sem, effAt]; exact ⟨rfl, rfl⟩)); (focus ((simp only [Xo,Xp,Xq,Xr,Xs];rfl))))
  intro w1 hB_r hs
  have Fw1 := F0.trans (Turn.of_below hs)
  replace hB_l := hB_l.below hs hB_l.lt
  clear hs F0
  clear hc_l; have hc_l := hB_l.cell
  have hc_r := hB_r.cell
  repeat (first|(with_reducible first|apply Xa|apply Xb|apply Xc|apply Xd)|((with_reducible apply Xk);(focus rfl);(focus (simp [go_sem,effAt,↓IntWalk.iteOmega, *];(try go_ints);with_reducible first|exact Xm|exact Xn));focus (simp only [Xo,Xp,Xq,Xr,Xs];rfl))|((with_reducible apply Xl);(focus rfl);focus (simp only [Xo,Xp,Xq,Xr,Xs];rfl))|(with_reducible first|apply Xe|apply Xf|apply Xg|apply Xh)|((with_reducible apply Xi);focus first|rfl|(simp [go_sem, *];done))|((with_reducible apply Xj);focus first|rfl|(simp [go_sem, *];done))|(simp only [Exit.then,Exit.inBlock,↓reduceIte,Nat.reduceEqDiff]))
  have lt_l_e := hB_l.lt
  have lt_r_e := hB_r.lt
  have le_e := Fw1.size
  ((with_reducible apply Xu); (focus rfl); (focus (simp [go_sem, effAt]; exact ⟨rfl, rfl⟩)); (focus ((simp only [Xo,Xp,Xq,Xr,Xs];rfl))))
  intro w2 hB_e hs
  have Fw2 := Fw1.trans (Turn.of_below hs)
  replace hB_l := hB_l.below hs hB_l.lt
  replace hB_r := hB_r.below hs hB_r.lt
  clear hs Fw1
  clear hc_l; have hc_l := hB_l.cell
  clear hc_r; have hc_r := hB_r.cell
  have hc_e := hB_e.cell
  repeat (first|(with_reducible first|apply Xa|apply Xb|apply Xc|apply Xd)|((with_reducible apply Xk);(focus rfl);(focus (simp [go_sem,effAt,↓IntWalk.iteOmega, *];(try go_ints);with_reducible first|exact Xm|exact Xn));focus (simp only [Xo,Xp,Xq,Xr,Xs];rfl))|((with_reducible apply Xl);(focus rfl);focus (simp only [Xo,Xp,Xq,Xr,Xs];rfl))|(with_reducible first|apply Xe|apply Xf|apply Xg|apply Xh)|((with_reducible apply Xi);focus first|rfl|(simp [go_sem, *];done))|((with_reducible apply Xj);focus first|rfl|(simp [go_sem, *];done))|(simp only [Exit.then,Exit.inBlock,↓reduceIte,Nat.reduceEqDiff]))
  ((with_reducible apply Xt (fun w' => Blk w' _ _ _ ∧ w2.grownBy w' (some _))); (focus rfl); (focus (simp only [effAt]; simp [go_sem]; (with_reducible exact effUpon_enter (hG _ hB_l)))); (focus ((simp only [Xo,Xp,Xq,Xr,Xs];rfl))))
  clear hc_l hB_l
  intro w3 hs
  obtain ⟨hB_l, hs⟩ := hs
  have Fw3 := Fw2.trans (Turn.of_grown hs (by first | exact .inl rfl | exact .inr (by omega)))
  replace hB_r := hB_r.grown hs (by intro hk; injection hk with hk; have := hB_r.lt; have := hB_l.lt; omega)
  replace hB_e := hB_e.grown hs (by intro hk; injection hk with hk; have := hB_e.lt; have := hB_l.lt; omega)
  clear hs Fw2
  clear hc_r; have hc_r := hB_r.cell
  clear hc_e; have hc_e := hB_e.cell
  have hc_l := hB_l.cell
  repeat (first|(with_reducible first|apply Xa|apply Xb|apply Xc|apply Xd)|((with_reducible apply Xk);(focus rfl);(focus (simp [go_sem,effAt,↓IntWalk.iteOmega, *];(try go_ints);with_reducible first|exact Xm|exact Xn));focus (simp only [Xo,Xp,Xq,Xr,Xs];rfl))|((with_reducible apply Xl);(focus rfl);focus (simp only [Xo,Xp,Xq,Xr,Xs];rfl))|(with_reducible first|apply Xe|apply Xf|apply Xg|apply Xh)|((with_reducible apply Xi);focus first|rfl|(simp [go_sem, *];done))|((with_reducible apply Xj);focus first|rfl|(simp [go_sem, *];done))|(simp only [Exit.then,Exit.inBlock,↓reduceIte,Nat.reduceEqDiff]))
  have hf_r := hB_r.frozen
  ((with_reducible apply Xt (fun w' => Blk w' _ _ _ ∧ w3.grownBy w' (some _))); (focus rfl); (focus (simp [go_sem, effAt, *]; exact ⟨rfl, (((((hB_r.set_ 0 _).set_ 1 _).set_ 2 _).set_ 3 _).set_ 4 _), (grown_set (grown_set (grown_set (grown_set (grown_set (World.grownBy.refl _ _))))))⟩)); (focus ((simp only [Xo,Xp,Xq,Xr,Xs];rfl))))
  clear hf_r hc_r hB_r
  intro w4 hs
  obtain ⟨hB_r, hs⟩ := hs
  simp only [Xq,Xr,Xs] at hB_r
  have Fw4 := Fw3.trans (Turn.of_grown hs (by first | exact .inl rfl | exact .inr (by omega)))
  replace hB_l := hB_l.grown hs (by intro hk; injection hk with hk; have := hB_l.lt; have := hB_r.lt; omega)
  replace hB_e := hB_e.grown hs (by intro hk; injection hk with hk; have := hB_e.lt; have := hB_r.lt; omega)
  clear hs Fw3
  clear hc_l; have hc_l := hB_l.cell
  clear hc_e; have hc_e := hB_e.cell
  have hc_r := hB_r.cell
  repeat (first|(with_reducible first|apply Xa|apply Xb|apply Xc|apply Xd)|((with_reducible apply Xk);(focus rfl);(focus (simp [go_sem,effAt,↓IntWalk.iteOmega, *];(try go_ints);with_reducible first|exact Xm|exact Xn));focus (simp only [Xo,Xp,Xq,Xr,Xs];rfl))|((with_reducible apply Xl);(focus rfl);focus (simp only [Xo,Xp,Xq,Xr,Xs];rfl))|(with_reducible first|apply Xe|apply Xf|apply Xg|apply Xh)|((with_reducible apply Xi);focus first|rfl|(simp [go_sem, *];done))|((with_reducible apply Xj);focus first|rfl|(simp [go_sem, *];done))|(simp only [Exit.then,Exit.inBlock,↓reduceIte,Nat.reduceEqDiff]))
  refine bodyPost_ret (v := (actV 0 false false 2 6)) (by simp [results, Try.results35, go_sem, *]) rfl ⟨rfl, hB_l, Turn.to_grown (by assumption)⟩
theorem opening_resp2 (g : Nat) (s : Int) (ls : Bool) (tr mo : Int) (w : World) (hB_l : LB w g s ls tr mo) :
    Calls Try.prog 35 #[.pointer (some ⟨g, 0, none⟩), .iface 67 (.agg #[.int .u8 2])] w (Ret (actV 0 false false 2 1) fun w' => LB w' g 3 ls tr mo ∧ w.grownBy w' (some g)) := by
  have ha_closes := as_67_63 (.agg #[.int .u8 2])
  have ha_due := as_67_68 (.agg #[.int .u8 2])
  have ha_resp := as_67_67 (.agg #[.int .u8 2])
  have ha_cmd := as_67_75 (.agg #[.int .u8 2])
  have hG := fun w h => goes_any g s 3 ls tr mo 0 false false 2 0 1 w h
  unfold LB at *
  go_enter Try.func35, Try.ntmps35
  have F0 : Turn (fun i => i = g ∨ w.heap.size ≤ i) w w := Turn.refl _
  have hc_l := hB_l.cell
  repeat (first|(with_reducible first|apply Xa|apply Xb|apply Xc|apply Xd)|((with_reducible apply Xk);(focus rfl);(focus (simp [go_sem,effAt,↓IntWalk.iteOmega, *];(try go_ints);with_reducible first|exact Xm|exact Xn));focus (simp only [Xo,Xp,Xq,Xr,Xs];rfl))|((with_reducible apply Xl);(focus rfl);focus (simp only [Xo,Xp,Xq,Xr,Xs];rfl))|(with_reducible first|apply Xe|apply Xf|apply Xg|apply Xh)|((with_reducible apply Xi);focus first|rfl|(simp [go_sem, *];done))|((with_reducible apply Xj);focus first|rfl|(simp [go_sem, *];done))|(simp only [Exit.then,Exit.inBlock,↓reduceIte,Nat.reduceEqDiff]))
  have lt_l_r := hB_l.lt
  have le_r := F0.size
  ((with_reducible apply Xu); (focus rfl); (focus (simp [go_sem, effAt]; exact ⟨rfl, rfl⟩)); (focus ((simp only [Xo,Xp,Xq,Xr,Xs];rfl))))
  intro w1 hB_r hs
  have Fw1 := F0.trans (Turn.of_below hs)
  replace hB_l := hB_l.below hs hB_l.lt
  clear hs F0
  clear hc_l; have hc_l := hB_l.cell
  have hc_r := hB_r.cell
  repeat (first|(with_reducible first|apply Xa|apply Xb|apply Xc|apply Xd)|((with_reducible apply Xk);(focus rfl);(focus (simp [go_sem,effAt,↓IntWalk.iteOmega, *];(try go_ints);with_reducible first|exact Xm|exact Xn));focus (simp only [Xo,Xp,Xq,Xr,Xs];rfl))|((with_reducible apply Xl);(focus rfl);focus (simp only [Xo,Xp,Xq,Xr,Xs];rfl))|(with_reducible first|apply Xe|apply Xf|apply Xg|apply Xh)|((with_reducible apply Xi);focus first|rfl|(simp [go_sem, *];done))|((with_reducible apply Xj);focus first|rfl|(simp [go_sem, *];done))|(simp only [Exit.then,Exit.inBlock,↓reduceIte,Nat.reduceEqDiff]))
  have lt_l_e := hB_l.lt
  have lt_r_e := hB_r.lt
  have le_e := Fw1.size
  ((with_reducible apply Xu); (focus rfl); (focus (simp [go_sem, effAt]; exact ⟨rfl, rfl⟩)); (focus ((simp only [Xo,Xp,Xq,Xr,Xs];rfl))))
  intro w2 hB_e hs
  have Fw2 := Fw1.trans (Turn.of_below hs)
  replace hB_l := hB_l.below hs hB_l.lt
  replace hB_r := hB_r.below hs hB_r.lt
  clear hs Fw1
  clear hc_l; have hc_l := hB_l.cell
  clear hc_r; have hc_r := hB_r.cell
  have hc_e := hB_e.cell
  repeat (first|(with_reducible first|apply Xa|apply Xb|apply Xc|apply Xd)|((with_reducible apply Xk);(focus rfl);(focus (simp [go_sem,effAt,↓IntWalk.iteOmega, *];(try go_ints);with_reducible first|exact Xm|exact Xn));focus (simp only [Xo,Xp,Xq,Xr,Xs];rfl))|((with_reducible apply Xl);(focus rfl);focus (simp only [Xo,Xp,Xq,Xr,Xs];rfl))|(with_reducible first|apply Xe|apply Xf|apply Xg|apply Xh)|((with_reducible apply Xi);focus first|rfl|(simp [go_sem, *];done))|((with_reducible apply Xj);focus first|rfl|(simp [go_sem, *];done))|(simp only [Exit.then,Exit.inBlock,↓reduceIte,Nat.reduceEqDiff]))
  have hf_e := hB_e.frozen
  ((with_reducible apply Xt (fun w' => Blk w' _ _ _ ∧ w2.grownBy w' (some _))); (focus rfl); (focus (simp [go_sem, effAt, *]; exact ⟨rfl, (hB_e.set_ 0 _), (grown_set (World.grownBy.refl _ _))⟩)); (focus ((simp only [Xo,Xp,Xq,Xr,Xs];rfl))))
  clear hf_e hc_e hB_e
  intro w3 hs
  obtain ⟨hB_e, hs⟩ := hs
  simp only [Xq,Xr,Xs] at hB_e
  have Fw3 := Fw2.trans (Turn.of_grown hs (by first | exact .inl rfl | exact .inr (by omega)))
  replace hB_l := hB_l.grown hs (by intro hk; injection hk with hk; have := hB_l.lt; have := hB_e.lt; omega)
  replace hB_r := hB_r.grown hs (by intro hk; injection hk with hk; have := hB_r.lt; have := hB_e.lt; omega)
  clear hs Fw2
  clear hc_l; have hc_l := hB_l.cell
  clear hc_r; have hc_r := hB_r.cell
  have hc_e := hB_e.cell
  repeat (first|(with_reducible first|apply Xa|apply Xb|apply Xc|apply Xd)|((with_reducible apply Xk);(focus rfl);(focus (simp [go_sem,effAt,↓IntWalk.iteOmega, *];(try go_ints);with_reducible first|exact Xm|exact Xn));focus (simp only [Xo,Xp,Xq,Xr,Xs];rfl))|((with_reducible apply Xl);(focus rfl);focus (simp only [Xo,Xp,Xq,Xr,Xs];rfl))|(with_reducible first|apply Xe|apply Xf|apply Xg|apply Xh)|((with_reducible apply Xi);focus first|rfl|(simp [go_sem, *];done))|((with_reducible apply Xj);focus first|rfl|(simp [go_sem, *];done))|(simp only [Exit.then,Exit.inBlock,↓reduceIte,Nat.reduceEqDiff]))
  ((with_reducible apply Xt (fun w' => Blk w' _ _ _ ∧ w3.grownBy w' (some _))); (focus rfl); (focus (simp only [effAt]; simp [go_sem]; (with_reducible exact effUpon_enter (hG _ hB_l)))); (focus ((simp only [Xo,Xp,Xq,Xr,Xs];rfl))))
  clear hc_l hB_l
  intro w4 hs
  obtain ⟨hB_l, hs⟩ := hs
  have Fw4 := Fw3.trans (Turn.of_grown hs (by first | exact .inl rfl | exact .inr (by omega)))
  replace hB_r := hB_r.grown hs (by intro hk; injection hk with hk; have := hB_r.lt; have := hB_l.lt; omega)
  replace hB_e := hB_e.grown hs (by intro hk; injection hk with hk; have := hB_e.lt; have := hB_l.lt; omega)
  clear hs Fw3
  clear hc_r; have hc_r := hB_r.cell
  clear hc_e; have hc_e := hB_e.cell
  have hc_l := hB_l.cell
  repeat (first|(with_reducible first|apply Xa|apply Xb|apply Xc|apply Xd)|((with_reducible apply Xk);(focus rfl);(focus (simp [go_sem,effAt,↓IntWalk.iteOmega, *];(try go_ints);with_reducible first|exact Xm|exact Xn));focus (simp only [Xo,Xp,Xq,Xr,Xs];rfl))|((with_reducible apply Xl);(focus rfl);focus (simp only [Xo,Xp,Xq,Xr,Xs];rfl))|(with_reducible first|apply Xe|apply Xf|apply Xg|apply Xh)|((with_reducible apply Xi);focus first|rfl|(simp [go_sem, *];done))|((with_reducible apply Xj);focus first|rfl|(simp [go_sem, *];done))|(simp only [Exit.then,Exit.inBlock,↓reduceIte,Nat.reduceEqDiff]))
  have hf_r := hB_r.frozen
  ((with_reducible apply Xt (fun w' => Blk w' _ _ _ ∧ w4.grownBy w' (some _))); (focus rfl); (focus (simp [go_sem, effAt, *]; exact ⟨rfl, (((((hB_r.set_ 0 _).set_ 1 _).set_ 2 _).set_ 3 _).set_ 4 _), (grown_set (grown_set (grown_set (grown_set (grown_set (World.grownBy.refl _ _))))))⟩)); (focus ((simp only [Xo,Xp,Xq,Xr,Xs];rfl))))
  clear hf_r hc_r hB_r
  intro w5 hs
  obtain ⟨hB_r, hs⟩ := hs
  simp only [Xq,Xr,Xs] at hB_r
  have Fw5 := Fw4.trans (Turn.of_grown hs (by first | exact .inl rfl | exact .inr (by omega)))
  replace hB_l := hB_l.grown hs (by intro hk; injection hk with hk; have := hB_l.lt; have := hB_r.lt; omega)
  replace hB_e := hB_e.grown hs (by intro hk; injection hk with hk; have := hB_e.lt; have := hB_r.lt; omega)
  clear hs Fw4
  clear hc_l; have hc_l := hB_l.cell
  clear hc_e; have hc_e := hB_e.cell
  have hc_r := hB_r.cell
  repeat (first|(with_reducible first|apply Xa|apply Xb|apply Xc|apply Xd)|((with_reducible apply Xk);(focus rfl);(focus (simp [go_sem,effAt,↓IntWalk.iteOmega, *];(try go_ints);with_reducible first|exact Xm|exact Xn));focus (simp only [Xo,Xp,Xq,Xr,Xs];rfl))|((with_reducible apply Xl);(focus rfl);focus (simp only [Xo,Xp,Xq,Xr,Xs];rfl))|(with_reducible first|apply Xe|apply Xf|apply Xg|apply Xh)|((with_reducible apply Xi);focus first|rfl|(simp [go_sem, *];done))|((with_reducible apply Xj);focus first|rfl|(simp [go_sem, *];done))|(simp only [Exit.then,Exit.inBlock,↓reduceIte,Nat.reduceEqDiff]))
  refine bodyPost_ret (v := (actV 0 false false 2 1)) (by simp [results, Try.results35, go_sem, *]) rfl ⟨rfl, hB_l, Turn.to_grown (by assumption)⟩
theorem opening_respo (g : Nat) (s : Int) (ls : Bool) (tr mo : Int) (k : Int) (w : World) (hB_l : LB w g s ls tr mo) (h2 : ¬ k = 2) :
    Calls Try.prog 35 #[.pointer (some ⟨g, 0, none⟩), .iface 67 (.agg #[.int .u8 k])] w (Ret (actV 0 false false 2 4) fun w' => LB w' g 1 ls tr mo ∧ w.grownBy w' (some g)) := by
  have ha_closes := as_67_63 (.agg #[.int .u8 k])
  have ha_due := as_67_68 (.agg #[.int .u8 k])
  have ha_resp := as_67_67 (.agg #[.int .u8 k])
  have ha_cmd := as_67_75 (.agg #[.int .u8 k])
  have n2 : (k == 2) = false := by simpa using h2
  have hG := fun w h => goes_any g s 1 ls tr mo 0 false false 2 0 4 w h
  unfold LB at *
  go_enter Try.func35, Try.ntmps35
  have F0 : Turn (fun i => i = g ∨ w.heap.size ≤ i) w w := Turn.refl _
  have hc_l := hB_l.cell
  repeat (first|(with_reducible first|apply Xa|apply Xb|apply Xc|apply Xd)|((with_reducible apply Xk);(focus rfl);(focus (simp [go_sem,effAt,↓IntWalk.iteOmega, *];(try go_ints);with_reducible first|exact Xm|exact Xn));focus (simp only [Xo,Xp,Xq,Xr,Xs];rfl))|((with_reducible apply Xl);(focus rfl);focus (simp only [Xo,Xp,Xq,Xr,Xs];rfl))|(with_reducible first|apply Xe|apply Xf|apply Xg|apply Xh)|((with_reducible apply Xi);focus first|rfl|(simp [go_sem, *];done))|((with_reducible apply Xj);focus first|rfl|(simp [go_sem, *];done))|(simp only [Exit.then,Exit.inBlock,↓reduceIte,Nat.reduceEqDiff]))
  have lt_l_r := hB_l.lt
  have le_r := F0.size
  ((with_reducible apply Xu); (focus rfl); (focus (simp [go_sem, effAt]; exact ⟨rfl, rfl⟩)); (focus ((simp only [Xo,Xp,Xq,Xr,Xs];rfl))))
  intro w1 hB_r hs
  have Fw1 := F0.trans (Turn.of_below hs)
  replace hB_l := hB_l.below hs hB_l.lt
  clear hs F0
  clear hc_l; have hc_l := hB_l.cell
  have hc_r := hB_r.cell
  repeat (first|(with_reducible first|apply Xa|apply Xb|apply Xc|apply Xd)|((with_reducible apply Xk);(focus rfl);(focus (simp [go_sem,effAt,↓IntWalk.iteOmega, *];(try go_ints);with_reducible first|exact Xm|exact Xn));focus (simp only [Xo,Xp,Xq,Xr,Xs];rfl))|((with_reducible apply Xl);(focus rfl);focus (simp only [Xo,Xp,Xq,Xr,Xs];rfl))|(with_reducible first|apply Xe|apply Xf|apply Xg|apply Xh)|((with_reducible apply Xi);focus first|rfl|(simp [go_sem, *];done))|((with_reducible apply Xj);focus first|rfl|(simp [go_sem, *];done))|(simp only [Exit.then,Exit.inBlock,↓reduceIte,Nat.reduceEqDiff]))
  have lt_l_e := hB_l.lt
  have lt_r_e := hB_r.lt
  have le_e := Fw1.size
  ((with_reducible apply Xu); (focus rfl); (focus (simp [go_sem, effAt]; exact ⟨rfl, rfl⟩)); (focus ((simp only [Xo,Xp,Xq,Xr,Xs];rfl))))
  intro w2 hB_e hs
  have Fw2 := Fw1.trans (Turn.of_below hs)
  replace hB_l := hB_l.below hs hB_l.lt
  replace hB_r := hB_r.below hs hB_r.lt
  clear hs Fw1
  clear hc_l; have hc_l := hB_l.cell
  clear hc_r; have hc_r := hB_r.cell
  have hc_e := hB_e.cell
  repeat (first|(with_reducible first|apply Xa|apply Xb|apply Xc|apply Xd)|((with_reducible apply Xk);(focus rfl);(focus (simp [go_sem,effAt,↓IntWalk.iteOmega, *];(try go_ints);with_reducible first|exact Xm|exact Xn));focus (simp only [Xo,Xp,Xq,Xr,Xs];rfl))|((with_reducible apply Xl);(focus rfl);focus (simp only [Xo,Xp,Xq,Xr,Xs];rfl))|(with_reducible first|apply Xe|apply Xf|apply Xg|apply Xh)|((with_reducible apply Xi);focus first|rfl|(simp [go_sem, *];done))|((with_reducible apply Xj);focus first|rfl|(simp [go_sem, *];done))|(simp only [Exit.then,Exit.inBlock,↓reduceIte,Nat.reduceEqDiff]))
  have hf_e := hB_e.frozen
  ((with_reducible apply Xt (fun w' => Blk w' _ _ _ ∧ w2.grownBy w' (some _))); (focus rfl); (focus (simp [go_sem, effAt, *]; exact ⟨rfl, (hB_e.set_ 0 _), (grown_set (World.grownBy.refl _ _))⟩)); (focus ((simp only [Xo,Xp,Xq,Xr,Xs];rfl))))
  clear hf_e hc_e hB_e
  intro w3 hs
  obtain ⟨hB_e, hs⟩ := hs
  simp only [Xq,Xr,Xs] at hB_e
  have Fw3 := Fw2.trans (Turn.of_grown hs (by first | exact .inl rfl | exact .inr (by omega)))
  replace hB_l := hB_l.grown hs (by intro hk; injection hk with hk; have := hB_l.lt; have := hB_e.lt; omega)
  replace hB_r := hB_r.grown hs (by intro hk; injection hk with hk; have := hB_r.lt; have := hB_e.lt; omega)
  clear hs Fw2
  clear hc_l; have hc_l := hB_l.cell
  clear hc_r; have hc_r := hB_r.cell
  have hc_e := hB_e.cell
  repeat (first|(with_reducible first|apply Xa|apply Xb|apply Xc|apply Xd)|((with_reducible apply Xk);(focus rfl);(focus (simp [go_sem,effAt,↓IntWalk.iteOmega, *];(try go_ints);with_reducible first|exact Xm|exact Xn));focus (simp only [Xo,Xp,Xq,Xr,Xs];rfl))|((with_reducible apply Xl);(focus rfl);focus (simp only [Xo,Xp,Xq,Xr,Xs];rfl))|(with_reducible first|apply Xe|apply Xf|apply Xg|apply Xh)|((with_reducible apply Xi);focus first|rfl|(simp [go_sem, *];done))|((with_reducible apply Xj);focus first|rfl|(simp [go_sem, *];done))|(simp only [Exit.then,Exit.inBlock,↓reduceIte,Nat.reduceEqDiff]))
  ((with_reducible apply Xt (fun w' => Blk w' _ _ _ ∧ w3.grownBy w' (some _))); (focus rfl); (focus (simp only [effAt]; simp [go_sem]; (with_reducible exact effUpon_enter (hG _ hB_l)))); (focus ((simp only [Xo,Xp,Xq,Xr,Xs];rfl))))
  clear hc_l hB_l
  intro w4 hs
  obtain ⟨hB_l, hs⟩ := hs
  have Fw4 := Fw3.trans (Turn.of_grown hs (by first | exact .inl rfl | exact .inr (by omega)))
  replace hB_r := hB_r.grown hs (by intro hk; injection hk with hk; have := hB_r.lt; have := hB_l.lt; omega)
  replace hB_e := hB_e.grown hs (by intro hk; injection hk with hk; have := hB_e.lt; have := hB_l.lt; omega)
  clear hs Fw3
  clear hc_r; have hc_r := hB_r.cell
  clear hc_e; have hc_e := hB_e.cell
  have hc_l := hB_l.cell
  repeat (first|(with_reducible first|apply Xa|apply Xb|apply Xc|apply Xd)|((with_reducible apply Xk);(focus rfl);(focus (simp [go_sem,effAt,↓IntWalk.iteOmega, *];(try go_ints);with_reducible first|exact Xm|exact Xn));focus (simp only [Xo,Xp,Xq,Xr,Xs];rfl))|((with_reducible apply Xl);(focus rfl);focus (simp only [Xo,Xp,Xq,Xr,Xs];rfl))|(with_reducible first|apply Xe|apply Xf|apply Xg|apply Xh)|((with_reducible apply Xi);focus first|rfl|(simp [go_sem, *];done))|((with_reducible apply Xj);focus first|rfl|(simp [go_sem, *];done))|(simp only [Exit.then,Exit.inBlock,↓reduceIte,Nat.reduceEqDiff]))
  have hf_r := hB_r.frozen
  ((with_reducible apply Xt (fun w' => Blk w' _ _ _ ∧ w4.grownBy w' (some _))); (focus rfl); (focus (simp [go_sem, effAt, *]; exact ⟨rfl, (((((hB_r.set_ 0 _).set_ 1 _).set_ 2 _).set_ 3 _).set_ 4 _), (grown_set (grown_set (grown_set (grown_set (grown_set (World.grownBy.refl _ _))))))⟩)); (focus ((simp only [Xo,Xp,Xq,Xr,Xs];rfl))))
  clear hf_r hc_r hB_r
  intro w5 hs
  obtain ⟨hB_r, hs⟩ := hs
  simp only [Xq,Xr,Xs] at hB_r
  have Fw5 := Fw4.trans (Turn.of_grown hs (by first | exact .inl rfl | exact .inr (by omega)))
  replace hB_l := hB_l.grown hs (by intro hk; injection hk with hk; have := hB_l.lt; have := hB_r.lt; omega)
  replace hB_e := hB_e.grown hs (by intro hk; injection hk with hk; have := hB_e.lt; have := hB_r.lt; omega)
  clear hs Fw4
  clear hc_l; have hc_l := hB_l.cell
  clear hc_e; have hc_e := hB_e.cell
  have hc_r := hB_r.cell
  repeat (first|(with_reducible first|apply Xa|apply Xb|apply Xc|apply Xd)|((with_reducible apply Xk);(focus rfl);(focus (simp [go_sem,effAt,↓IntWalk.iteOmega, *];(try go_ints);with_reducible first|exact Xm|exact Xn));focus (simp only [Xo,Xp,Xq,Xr,Xs];rfl))|((with_reducible apply Xl);(focus rfl);focus (simp only [Xo,Xp,Xq,Xr,Xs];rfl))|(with_reducible first|apply Xe|apply Xf|apply Xg|apply Xh)|((with_reducible apply Xi);focus first|rfl|(simp [go_sem, *];done))|((with_reducible apply Xj);focus first|rfl|(simp [go_sem, *];done))|(simp only [Exit.then,Exit.inBlock,↓reduceIte,Nat.reduceEqDiff]))
  refine bodyPost_ret (v := (actV 0 false false 2 4)) (by simp [results, Try.results35, go_sem, *]) rfl ⟨rfl, hB_l, Turn.to_grown (by assumption)⟩
theorem opening_cmd1 (g : Nat) (s : Int) (ls : Bool) (tr mo : Int) (a : Int) (w : World) (hB_l : LB w g s ls tr mo) :
    Calls Try.prog 35 #[.pointer (some ⟨g, 0, none⟩), .iface 75 (.agg #[.int .u8 1, .int .u8 a])] w (Ret (actV 2 false false 0 0) fun w' => LB w' g s ls tr mo ∧ w.grownBy w' (some g)) := by
  have ha_closes := as_75_63 (.agg #[.int .u8 1, .int .u8 a])
  have ha_due := as_75_68 (.agg #[.int .u8 1, .int .u8 a])
  have ha_resp := as_75_67 (.agg #[.int .u8 1, .int .u8 a])
  have ha_cmd := as_75_75 (.agg #[.int .u8 1, .int .u8 a])
  unfold LB at *
  go_enter Try.func35, Try.ntmps35
  have F0 : Turn (fun i => i = g ∨ w.heap.size ≤ i) w w := Turn.refl _
  have hc_l := hB_l.cell
  repeat (first|(with_reducible first|apply Xa|apply Xb|apply Xc|apply Xd)|((with_reducible apply Xk);(focus rfl);(focus (simp [go_sem,effAt,↓IntWalk.iteOmega, *];(try go_ints);with_reducible first|exact Xm|exact Xn));focus (simp only [Xo,Xp,Xq,Xr,Xs];rfl))|((with_reducible apply Xl);(focus rfl);focus (simp only [Xo,Xp,Xq,Xr,Xs];rfl))|(with_reducible first|apply Xe|apply Xf|apply Xg|apply Xh)|((with_reducible apply Xi);focus first|rfl|(simp [go_sem, *];done))|((with_reducible apply Xj);focus first|rfl|(simp [go_sem, *];done))|(simp only [Exit.then,Exit.inBlock,↓reduceIte,Nat.reduceEqDiff]))
  have lt_l_r := hB_l.lt
  have le_r := F0.size
  ((with_reducible apply Xu); (focus rfl); (focus (simp [go_sem, effAt]; exact ⟨rfl, rfl⟩)); (focus ((simp only [Xo,Xp,Xq,Xr,Xs];rfl))))
  intro w1 hB_r hs
  have Fw1 := F0.trans (Turn.of_below hs)
  replace hB_l := hB_l.below hs hB_l.lt
  clear hs F0
  clear hc_l; have hc_l := hB_l.cell
  have hc_r := hB_r.cell
  repeat (first|(with_reducible first|apply Xa|apply Xb|apply Xc|apply Xd)|((with_reducible apply Xk);(focus rfl);(focus (simp [go_sem,effAt,↓IntWalk.iteOmega, *];(try go_ints);with_reducible first|exact Xm|exact Xn));focus (simp only [Xo,Xp,Xq,Xr,Xs];rfl))|((with_reducible apply Xl);(focus rfl);focus (simp only [Xo,Xp,Xq,Xr,Xs];rfl))|(with_reducible first|apply Xe|apply Xf|apply Xg|apply Xh)|((with_reducible apply Xi);focus first|rfl|(simp [go_sem, *];done))|((with_reducible apply Xj);focus first|rfl|(simp [go_sem, *];done))|(simp only [Exit.then,Exit.inBlock,↓reduceIte,Nat.reduceEqDiff]))
  have lt_l_e := hB_l.lt
  have lt_r_e := hB_r.lt
  have le_e := Fw1.size
  ((with_reducible apply Xu); (focus rfl); (focus (simp [go_sem, effAt]; exact ⟨rfl, rfl⟩)); (focus ((simp only [Xo,Xp,Xq,Xr,Xs];rfl))))
  intro w2 hB_e hs
  have Fw2 := Fw1.trans (Turn.of_below hs)
  replace hB_l := hB_l.below hs hB_l.lt
  replace hB_r := hB_r.below hs hB_r.lt
  clear hs Fw1
  clear hc_l; have hc_l := hB_l.cell
  clear hc_r; have hc_r := hB_r.cell
  have hc_e := hB_e.cell
  repeat (first|(with_reducible first|apply Xa|apply Xb|apply Xc|apply Xd)|((with_reducible apply Xk);(focus rfl);(focus (simp [go_sem,effAt,↓IntWalk.iteOmega, *];(try go_ints);with_reducible first|exact Xm|exact Xn));focus (simp only [Xo,Xp,Xq,Xr,Xs];rfl))|((with_reducible apply Xl);(focus rfl);focus (simp only [Xo,Xp,Xq,Xr,Xs];rfl))|(with_reducible first|apply Xe|apply Xf|apply Xg|apply Xh)|((with_reducible apply Xi);focus first|rfl|(simp [go_sem, *];done))|((with_reducible apply Xj);focus first|rfl|(simp [go_sem, *];done))|(simp only [Exit.then,Exit.inBlock,↓reduceIte,Nat.reduceEqDiff]))
  have hf_e := hB_e.frozen
  ((with_reducible apply Xt (fun w' => Blk w' _ _ _ ∧ w2.grownBy w' (some _))); (focus rfl); (focus (simp [go_sem, effAt, *]; exact ⟨rfl, ((hB_e.set_ 0 _).set_ 1 _), (grown_set (grown_set (World.grownBy.refl _ _)))⟩)); (focus ((simp only [Xo,Xp,Xq,Xr,Xs];rfl))))
  clear hf_e hc_e hB_e
  intro w3 hs
  obtain ⟨hB_e, hs⟩ := hs
  simp only [Xq,Xr,Xs] at hB_e
  have Fw3 := Fw2.trans (Turn.of_grown hs (by first | exact .inl rfl | exact .inr (by omega)))
  replace hB_l := hB_l.grown hs (by intro hk; injection hk with hk; have := hB_l.lt; have := hB_e.lt; omega)
  replace hB_r := hB_r.grown hs (by intro hk; injection hk with hk; have := hB_r.lt; have := hB_e.lt; omega)
  clear hs Fw2
  clear hc_l; have hc_l := hB_l.cell
  clear hc_r; have hc_r := hB_r.cell
  have hc_e := hB_e.cell
  repeat (first|(with_reducible first|apply Xa|apply Xb|apply Xc|apply Xd)|((with_reducible apply Xk);(focus rfl);(focus (simp [go_sem,effAt,↓IntWalk.iteOmega, *];(try go_ints);with_reducible first|exact Xm|exact Xn));focus (simp only [Xo,Xp,Xq,Xr,Xs];rfl))|((with_reducible apply Xl);(focus rfl);focus (simp only [Xo,Xp,Xq,Xr,Xs];rfl))|(with_reducible first|apply Xe|apply Xf|apply Xg|apply Xh)|((with_reducible apply Xi);focus first|rfl|(simp [go_sem, *];done))|((with_reducible apply Xj);focus first|rfl|(simp [go_sem, *];done))|(simp only [Exit.then,Exit.inBlock,↓reduceIte,Nat.reduceEqDiff]))
  have hf_r := hB_r.frozen
  ((with_reducible apply Xt (fun w' => Blk w' _ _ _ ∧ w3.grownBy w' (some _))); (focus rfl); (focus (simp [go_sem, effAt, *]; exact ⟨rfl, (((((hB_r.set_ 0 _).set_ 1 _).set_ 2 _).set_ 3 _).set_ 4 _), (grown_set (grown_set (grown_set (grown_set (grown_set (World.grownBy.refl _ _))))))⟩)); (focus ((simp only [Xo,Xp,Xq,Xr,Xs];rfl))))
  clear hf_r hc_r hB_r
  intro w4 hs
  obtain ⟨hB_r, hs⟩ := hs
  simp only [Xq,Xr,Xs] at hB_r
  have Fw4 := Fw3.trans (Turn.of_grown hs (by first | exact .inl rfl | exact .inr (by omega)))
  replace hB_l := hB_l.grown hs (by intro hk; injection hk with hk; have := hB_l.lt; have := hB_r.lt; omega)
  replace hB_e := hB_e.grown hs (by intro hk; injection hk with hk; have := hB_e.lt; have := hB_r.lt; omega)
  clear hs Fw3
  clear hc_l; have hc_l := hB_l.cell
  clear hc_e; have hc_e := hB_e.cell
  have hc_r := hB_r.cell
  repeat (first|(with_reducible first|apply Xa|apply Xb|apply Xc|apply Xd)|((with_reducible apply Xk);(focus rfl);(focus (simp [go_sem,effAt,↓IntWalk.iteOmega, *];(try go_ints);with_reducible first|exact Xm|exact Xn));focus (simp only [Xo,Xp,Xq,Xr,Xs];rfl))|((with_reducible apply Xl);(focus rfl);focus (simp only [Xo,Xp,Xq,Xr,Xs];rfl))|(with_reducible first|apply Xe|apply Xf|apply Xg|apply Xh)|((with_reducible apply Xi);focus first|rfl|(simp [go_sem, *];done))|((with_reducible apply Xj);focus first|rfl|(simp [go_sem, *];done))|(simp only [Exit.then,Exit.inBlock,↓reduceIte,Nat.reduceEqDiff]))
  refine bodyPost_ret (v := (actV 2 false false 0 0)) (by simp [results, Try.results35, go_sem, *]) rfl ⟨rfl, hB_l, Turn.to_grown (by assumption)⟩
theorem opening_cmd4 (g : Nat) (s : Int) (ls : Bool) (tr mo : Int) (a : Int) (w : World) (hB_l : LB w g s ls tr mo) :
    Calls Try.prog 35 #[.pointer (some ⟨g, 0, none⟩), .iface 75 (.agg #[.int .u8 4, .int .u8 a])] w (Ret (actV 3 false false 2 4) fun w' => LB w' g 1 ls tr mo ∧ w.grownBy w' (some g)) := by
  have ha_closes := as_75_63 (.agg #[.int .u8 4, .int .u8 a])
  have ha_due := as_75_68 (.agg #[.int .u8 4, .int .u8 a])
  have ha_resp := as_75_67 (.agg #[.int .u8 4, .int .u8 a])
  have ha_cmd := as_75_75 (.agg #[.int .u8 4, .int .u8 a])
  have hG := fun w h => goes_any g s 1 ls tr mo 3 false false 2 0 4 w h
  unfold LB at *
  go_enter Try.func35, Try.ntmps35
  have F0 : Turn (fun i => i = g ∨ w.heap.size ≤ i) w w := Turn.refl _
  have hc_l := hB_l.cell
  repeat (first|(with_reducible first|apply Xa|apply Xb|apply Xc|apply Xd)|((with_reducible apply Xk);(focus rfl);(focus (simp [go_sem,effAt,↓IntWalk.iteOmega, *];(try go_ints);with_reducible first|exact Xm|exact Xn));focus (simp only [Xo,Xp,Xq,Xr,Xs];rfl))|((with_reducible apply Xl);(focus rfl);focus (simp only [Xo,Xp,Xq,Xr,Xs];rfl))|(with_reducible first|apply Xe|apply Xf|apply Xg|apply Xh)|((with_reducible apply Xi);focus first|rfl|(simp [go_sem, *];done))|((with_reducible apply Xj);focus first|rfl|(simp [go_sem, *];done))|(simp only [Exit.then,Exit.inBlock,↓reduceIte,Nat.reduceEqDiff]))
  have lt_l_r := hB_l.lt
  have le_r := F0.size
  ((with_reducible apply Xu); (focus rfl); (focus (simp [go_sem, effAt]; exact ⟨rfl, rfl⟩)); (focus ((simp only [Xo,Xp,Xq,Xr,Xs];rfl))))
  intro w1 hB_r hs
  have Fw1 := F0.trans (Turn.of_below hs)
  replace hB_l := hB_l.below hs hB_l.lt
  clear hs F0
  clear hc_l; have hc_l := hB_l.cell
  have hc_r := hB_r.cell
  repeat (first|(with_reducible first|apply Xa|apply Xb|apply Xc|apply Xd)|((with_reducible apply Xk);(focus rfl);(focus (simp [go_sem,effAt,↓IntWalk.iteOmega, *];(try go_ints);with_reducible first|exact Xm|exact Xn));focus (simp only [Xo,Xp,Xq,Xr,Xs];rfl))|((with_reducible apply Xl);(focus rfl);focus (simp only [Xo,Xp,Xq,Xr,Xs];rfl))|(with_reducible first|apply Xe|apply Xf|apply Xg|apply Xh)|((with_reducible apply Xi);focus first|rfl|(simp [go_sem, *];done))|((with_reducible apply Xj);focus first|rfl|(simp [go_sem, *];done))|(simp only [Exit.then,Exit.inBlock,↓reduceIte,Nat.reduceEqDiff]))
  have lt_l_e := hB_l.lt
  have lt_r_e := hB_r.lt
  have le_e := Fw1.size
  ((with_reducible apply Xu); (focus rfl); (focus (simp [go_sem, effAt]; exact ⟨rfl, rfl⟩)); (focus ((simp only [Xo,Xp,Xq,Xr,Xs];rfl))))
  intro w2 hB_e hs
  have Fw2 := Fw1.trans (Turn.of_below hs)
  replace hB_l := hB_l.below hs hB_l.lt
  replace hB_r := hB_r.below hs hB_r.lt
  clear hs Fw1
  clear hc_l; have hc_l := hB_l.cell
  clear hc_r; have hc_r := hB_r.cell
  have hc_e := hB_e.cell
  repeat (first|(with_reducible first|apply Xa|apply Xb|apply Xc|apply Xd)|((with_reducible apply Xk);(focus rfl);(focus (simp [go_sem,effAt,↓IntWalk.iteOmega, *];(try go_ints);with_reducible first|exact Xm|exact Xn));focus (simp only [Xo,Xp,Xq,Xr,Xs];rfl))|((with_reducible apply Xl);(focus rfl);focus (simp only [Xo,Xp,Xq,Xr,Xs];rfl))|(with_reducible first|apply Xe|apply Xf|apply Xg|apply Xh)|((with_reducible apply Xi);focus first|rfl|(simp [go_sem, *];done))|((with_reducible apply Xj);focus first|rfl|(simp [go_sem, *];done))|(simp only [Exit.then,Exit.inBlock,↓reduceIte,Nat.reduceEqDiff]))
  have hf_e := hB_e.frozen
  ((with_reducible apply Xt (fun w' => Blk w' _ _ _ ∧ w2.grownBy w' (some _))); (focus rfl); (focus (simp [go_sem, effAt, *]; exact ⟨rfl, ((hB_e.set_ 0 _).set_ 1 _), (grown_set (grown_set (World.grownBy.refl _ _)))⟩)); (focus ((simp only [Xo,Xp,Xq,Xr,Xs];rfl))))
  clear hf_e hc_e hB_e
  intro w3 hs
  obtain ⟨hB_e, hs⟩ := hs
  simp only [Xq,Xr,Xs] at hB_e
  have Fw3 := Fw2.trans (Turn.of_grown hs (by first | exact .inl rfl | exact .inr (by omega)))
  replace hB_l := hB_l.grown hs (by intro hk; injection hk with hk; have := hB_l.lt; have := hB_e.lt; omega)
  replace hB_r := hB_r.grown hs (by intro hk; injection hk with hk; have := hB_r.lt; have := hB_e.lt; omega)
  clear hs Fw2
  clear hc_l; have hc_l := hB_l.cell
  clear hc_r; have hc_r := hB_r.cell
  have hc_e := hB_e.cell
  repeat (first|(with_reducible first|apply Xa|apply Xb|apply Xc|apply Xd)|((with_reducible apply Xk);(focus rfl);(focus (simp [go_sem,effAt,↓IntWalk.iteOmega, *];(try go_ints);with_reducible first|exact Xm|exact Xn));focus (simp only [Xo,Xp,Xq,Xr,Xs];rfl))|((with_reducible apply Xl);(focus rfl);focus (simp only [Xo,Xp,Xq,Xr,Xs];rfl))|(with_reducible first|apply Xe|apply Xf|apply Xg|apply Xh)|((with_reducible apply Xi);focus first|rfl|(simp [go_sem, *];done))|((with_reducible apply Xj);focus first|rfl|(simp [go_sem, *];done))|(simp only [Exit.then,Exit.inBlock,↓reduceIte,Nat.reduceEqDiff]))
  ((with_reducible apply Xt (fun w' => Blk w' _ _ _ ∧ w3.grownBy w' (some _))); (focus rfl); (focus (simp only [effAt]; simp [go_sem]; (with_reducible exact effUpon_enter (hG _ hB_l)))); (focus ((simp only [Xo,Xp,Xq,Xr,Xs];rfl))))
  clear hc_l hB_l
  intro w4 hs
  obtain ⟨hB_l, hs⟩ := hs
  have Fw4 := Fw3.trans (Turn.of_grown hs (by first | exact .inl rfl | exact .inr (by omega)))
  replace hB_r := hB_r.grown hs (by intro hk; injection hk with hk; have := hB_r.lt; have := hB_l.lt; omega)
  replace hB_e := hB_e.grown hs (by intro hk; injection hk with hk; have := hB_e.lt; have := hB_l.lt; omega)
  clear hs Fw3
  clear hc_r; have hc_r := hB_r.cell
  clear hc_e; have hc_e := hB_e.cell
  have hc_l := hB_l.cell
  repeat (first|(with_reducible first|apply Xa|apply Xb|apply Xc|apply Xd)|((with_reducible apply Xk);(focus rfl);(focus (simp [go_sem,effAt,↓IntWalk.iteOmega, *];(try go_ints);with_reducible first|exact Xm|exact Xn));focus (simp only [Xo,Xp,Xq,Xr,Xs];rfl))|((with_reducible apply Xl);(focus rfl);focus (simp only [Xo,Xp,Xq,Xr,Xs];rfl))|(with_reducible first|apply Xe|apply Xf|apply Xg|apply Xh)|((with_reducible apply Xi);focus first|rfl|(simp [go_sem, *];done))|((with_reducible apply Xj);focus first|rfl|(simp [go_sem, *];done))|(simp only [Exit.then,Exit.inBlock,↓reduceIte,Nat.reduceEqDiff]))
  have hf_r := hB_r.frozen
  ((with_reducible apply Xt (fun w' => Blk w' _ _ _ ∧ w4.grownBy w' (some _))); (focus rfl); (focus (simp [go_sem, effAt, *]; exact ⟨rfl, (((((hB_r.set_ 0 _).set_ 1 _).set_ 2 _).set_ 3 _).set_ 4 _), (grown_set (grown_set (grown_set (grown_set (grown_set (World.grownBy.refl _ _))))))⟩)); (focus ((simp only [Xo,Xp,Xq,Xr,Xs];rfl))))
  clear hf_r hc_r hB_r
  intro w5 hs
  obtain ⟨hB_r, hs⟩ := hs
  simp only [Xq,Xr,Xs] at hB_r
  have Fw5 := Fw4.trans (Turn.of_grown hs (by first | exact .inl rfl | exact .inr (by omega)))
  replace hB_l := hB_l.grown hs (by intro hk; injection hk with hk; have := hB_l.lt; have := hB_r.lt; omega)
  replace hB_e := hB_e.grown hs (by intro hk; injection hk with hk; have := hB_e.lt; have := hB_r.lt; omega)
  clear hs Fw4
  clear hc_l; have hc_l := hB_l.cell
  clear hc_e; have hc_e := hB_e.cell
  have hc_r := hB_r.cell
  repeat (first|(with_reducible first|apply Xa|apply Xb|apply Xc|apply Xd)|((with_reducible apply Xk);(focus rfl);(focus (simp [go_sem,effAt,↓IntWalk.iteOmega, *];(try go_ints);with_reducible first|exact Xm|exact Xn));focus (simp only [Xo,Xp,Xq,Xr,Xs];rfl))|((with_reducible apply Xl);(focus rfl);focus (simp only [Xo,Xp,Xq,Xr,Xs];rfl))|(with_reducible first|apply Xe|apply Xf|apply Xg|apply Xh)|((with_reducible apply Xi);focus first|rfl|(simp [go_sem, *];done))|((with_reducible apply Xj);focus first|rfl|(simp [go_sem, *];done))|(simp only [Exit.then,Exit.inBlock,↓reduceIte,Nat.reduceEqDiff]))
  refine bodyPost_ret (v := (actV 3 false false 2 4)) (by simp [results, Try.results35, go_sem, *]) rfl ⟨rfl, hB_l, Turn.to_grown (by assumption)⟩
theorem opening_cmdo (g : Nat) (s : Int) (ls : Bool) (tr mo : Int) (k a : Int) (w : World) (hB_l : LB w g s ls tr mo) (h1 : ¬ k = 1) (h4 : ¬ k = 4) :
    Calls Try.prog 35 #[.pointer (some ⟨g, 0, none⟩), .iface 75 (.agg #[.int .u8 k, .int .u8 a])] w (Ret (actV 0 false false 0 0) fun w' => LB w' g s ls tr mo ∧ w.grownBy w' (some g)) := by
  have ha_closes := as_75_63 (.agg #[.int .u8 k, .int .u8 a])
  have ha_due := as_75_68 (.agg #[.int .u8 k, .int .u8 a])
  have ha_resp := as_75_67 (.agg #[.int .u8 k, .int .u8 a])
  have ha_cmd := as_75_75 (.agg #[.int .u8 k, .int .u8 a])
  have n1 : (k == 1) = false := by simpa using h1
  have n4 : (k == 4) = false := by simpa using h4
  unfold LB at *
  go_enter Try.func35, Try.ntmps35
  have F0 : Turn (fun i => i = g ∨ w.heap.size ≤ i) w w := Turn.refl _
  have hc_l := hB_l.cell
  repeat (first|(with_reducible first|apply Xa|apply Xb|apply Xc|apply Xd)|((with_reducible apply Xk);(focus rfl);(focus (simp [go_sem,effAt,↓IntWalk.iteOmega, *];(try go_ints);with_reducible first|exact Xm|exact Xn));focus (simp only [Xo,Xp,Xq,Xr,Xs];rfl))|((with_reducible apply Xl);(focus rfl);focus (simp only [Xo,Xp,Xq,Xr,Xs];rfl))|(with_reducible first|apply Xe|apply Xf|apply Xg|apply Xh)|((with_reducible apply Xi);focus first|rfl|(simp [go_sem, *];done))|((with_reducible apply Xj);focus first|rfl|(simp [go_sem, *];done))|(simp only [Exit.then,Exit.inBlock,↓reduceIte,Nat.reduceEqDiff]))
  have lt_l_r := hB_l.lt
  have le_r := F0.size
  ((with_reducible apply Xu); (focus rfl); (focus (simp [go_sem, effAt]; exact ⟨rfl, rfl⟩)); (focus ((simp only [Xo,Xp,Xq,Xr,Xs];rfl))))
  intro w1 hB_r hs
  have Fw1 := F0.trans (Turn.of_below hs)
  replace hB_l := hB_l.below hs hB_l.lt
  clear hs F0
  clear hc_l; have hc_l := hB_l.cell
  have hc_r := hB_r.cell
  repeat (first|(with_reducible first|apply Xa|apply Xb|apply Xc|apply Xd)|((with_reducible apply Xk);(focus rfl);(focus (simp [go_sem,effAt,↓IntWalk.iteOmega, *];(try go_ints);with_reducible first|exact Xm|exact Xn));focus (simp only [Xo,Xp,Xq,Xr,Xs];rfl))|((with_reducible apply Xl);(focus rfl);focus (simp only [Xo,Xp,Xq,Xr,Xs];rfl))|(with_reducible first|apply Xe|apply Xf|apply Xg|apply Xh)|((with_reducible apply Xi);focus first|rfl|(simp [go_sem, *];done))|((with_reducible apply Xj);focus first|rfl|(simp [go_sem, *];done))|(simp only [Exit.then,Exit.inBlock,↓reduceIte,Nat.reduceEqDiff]))
  have lt_l_e := hB_l.lt
  have lt_r_e := hB_r.lt
  have le_e := Fw1.size
  ((with_reducible apply Xu); (focus rfl); (focus (simp [go_sem, effAt]; exact ⟨rfl, rfl⟩)); (focus ((simp only [Xo,Xp,Xq,Xr,Xs];rfl))))
  intro w2 hB_e hs
  have Fw2 := Fw1.trans (Turn.of_below hs)
  replace hB_l := hB_l.below hs hB_l.lt
  replace hB_r := hB_r.below hs hB_r.lt
  clear hs Fw1
  clear hc_l; have hc_l := hB_l.cell
  clear hc_r; have hc_r := hB_r.cell
  have hc_e := hB_e.cell
  repeat (first|(with_reducible first|apply Xa|apply Xb|apply Xc|apply Xd)|((with_reducible apply Xk);(focus rfl);(focus (simp [go_sem,effAt,↓IntWalk.iteOmega, *];(try go_ints);with_reducible first|exact Xm|exact Xn));focus (simp only [Xo,Xp,Xq,Xr,Xs];rfl))|((with_reducible apply Xl);(focus rfl);focus (simp only [Xo,Xp,Xq,Xr,Xs];rfl))|(with_reducible first|apply Xe|apply Xf|apply Xg|apply Xh)|((with_reducible apply Xi);focus first|rfl|(simp [go_sem, *];done))|((with_reducible apply Xj);focus first|rfl|(simp [go_sem, *];done))|(simp only [Exit.then,Exit.inBlock,↓reduceIte,Nat.reduceEqDiff]))
  have hf_e := hB_e.frozen
  ((with_reducible apply Xt (fun w' => Blk w' _ _ _ ∧ w2.grownBy w' (some _))); (focus rfl); (focus (simp [go_sem, effAt, *]; exact ⟨rfl, ((hB_e.set_ 0 _).set_ 1 _), (grown_set (grown_set (World.grownBy.refl _ _)))⟩)); (focus ((simp only [Xo,Xp,Xq,Xr,Xs];rfl))))
  clear hf_e hc_e hB_e
  intro w3 hs
  obtain ⟨hB_e, hs⟩ := hs
  simp only [Xq,Xr,Xs] at hB_e
  have Fw3 := Fw2.trans (Turn.of_grown hs (by first | exact .inl rfl | exact .inr (by omega)))
  replace hB_l := hB_l.grown hs (by intro hk; injection hk with hk; have := hB_l.lt; have := hB_e.lt; omega)
  replace hB_r := hB_r.grown hs (by intro hk; injection hk with hk; have := hB_r.lt; have := hB_e.lt; omega)
  clear hs Fw2
  clear hc_l; have hc_l := hB_l.cell
  clear hc_r; have hc_r := hB_r.cell
  have hc_e := hB_e.cell
  repeat (first|(with_reducible first|apply Xa|apply Xb|apply Xc|apply Xd)|((with_reducible apply Xk);(focus rfl);(focus (simp [go_sem,effAt,↓IntWalk.iteOmega, *];(try go_ints);with_reducible first|exact Xm|exact Xn));focus (simp only [Xo,Xp,Xq,Xr,Xs];rfl))|((with_reducible apply Xl);(focus rfl);focus (simp only [Xo,Xp,Xq,Xr,Xs];rfl))|(with_reducible first|apply Xe|apply Xf|apply Xg|apply Xh)|((with_reducible apply Xi);focus first|rfl|(simp [go_sem, *];done))|((with_reducible apply Xj);focus first|rfl|(simp [go_sem, *];done))|(simp only [Exit.then,Exit.inBlock,↓reduceIte,Nat.reduceEqDiff]))
  have hf_r := hB_r.frozen
  ((with_reducible apply Xt (fun w' => Blk w' _ _ _ ∧ w3.grownBy w' (some _))); (focus rfl); (focus (simp [go_sem, effAt, *]; exact ⟨rfl, (((((hB_r.set_ 0 _).set_ 1 _).set_ 2 _).set_ 3 _).set_ 4 _), (grown_set (grown_set (grown_set (grown_set (grown_set (World.grownBy.refl _ _))))))⟩)); (focus ((simp only [Xo,Xp,Xq,Xr,Xs];rfl))))
  clear hf_r hc_r hB_r
  intro w4 hs
  obtain ⟨hB_r, hs⟩ := hs
  simp only [Xq,Xr,Xs] at hB_r
  have Fw4 := Fw3.trans (Turn.of_grown hs (by first | exact .inl rfl | exact .inr (by omega)))
  replace hB_l := hB_l.grown hs (by intro hk; injection hk with hk; have := hB_l.lt; have := hB_r.lt; omega)
  replace hB_e := hB_e.grown hs (by intro hk; injection hk with hk; have := hB_e.lt; have := hB_r.lt; omega)
  clear hs Fw3
  clear hc_l; have hc_l := hB_l.cell
  clear hc_e; have hc_e := hB_e.cell
  have hc_r := hB_r.cell
  repeat (first|(with_reducible first|apply Xa|apply Xb|apply Xc|apply Xd)|((with_reducible apply Xk);(focus rfl);(focus (simp [go_sem,effAt,↓IntWalk.iteOmega, *];(try go_ints);with_reducible first|exact Xm|exact Xn));focus (simp only [Xo,Xp,Xq,Xr,Xs];rfl))|((with_reducible apply Xl);(focus rfl);focus (simp only [Xo,Xp,Xq,Xr,Xs];rfl))|(with_reducible first|apply Xe|apply Xf|apply Xg|apply Xh)|((with_reducible apply Xi);focus first|rfl|(simp [go_sem, *];done))|((with_reducible apply Xj);focus first|rfl|(simp [go_sem, *];done))|(simp only [Exit.then,Exit.inBlock,↓reduceIte,Nat.reduceEqDiff]))
  refine bodyPost_ret (v := (actV 0 false false 0 0)) (by simp [results, Try.results35, go_sem, *]) rfl ⟨rfl, hB_l, Turn.to_grown (by assumption)⟩
theorem opening_opens (g : Nat) (s : Int) (ls : Bool) (tr mo : Int) (w : World) (hB_l : LB w g s ls tr mo) :
    Calls Try.prog 35 #[.pointer (some ⟨g, 0, none⟩), .iface 62 (.agg #[])] w (Ret (actV 0 false false 0 0) fun w' => LB w' g s ls tr mo ∧ w.grownBy w' (some g)) := by
  have ha_closes := as_62_63 (.agg #[])
  have ha_due := as_62_68 (.agg #[])
  have ha_resp := as_62_67 (.agg #[])
  have ha_cmd := as_62_75 (.agg #[])
  unfold LB at *
  go_enter Try.func35, Try.ntmps35
  have F0 : Turn (fun i => i = g ∨ w.heap.size ≤ i) w w := Turn.refl _
  have hc_l := hB_l.cell
  repeat (first|(with_reducible first|apply Xa|apply Xb|apply Xc|apply Xd)|((with_reducible apply Xk);(focus rfl);(focus (simp [go_sem,effAt,↓IntWalk.iteOmega, *];(try go_ints);with_reducible first|exact Xm|exact Xn));focus (simp only [Xo,Xp,Xq,Xr,Xs];rfl))|((with_reducible apply Xl);(focus rfl);focus (simp only [Xo,Xp,Xq,Xr,Xs];rfl))|(with_reducible first|apply Xe|apply Xf|apply Xg|apply Xh)|((with_reducible apply Xi);focus first|rfl|(simp [go_sem, *];done))|((with_reducible apply Xj);focus first|rfl|(simp [go_sem, *];done))|(simp only [Exit.then,Exit.inBlock,↓reduceIte,Nat.reduceEqDiff]))
  have lt_l_r := hB_l.lt
  have le_r := F0.size
  ((with_reducible apply Xu); (focus rfl); (focus (simp [go_sem, effAt]; exact ⟨rfl, rfl⟩)); (focus ((simp only [Xo,Xp,Xq,Xr,Xs];rfl))))
  intro w1 hB_r hs
  have Fw1 := F0.trans (Turn.of_below hs)
  replace hB_l := hB_l.below hs hB_l.lt
  clear hs F0
  clear hc_l; have hc_l := hB_l.cell
  have hc_r := hB_r.cell
  repeat (first|(with_reducible first|apply Xa|apply Xb|apply Xc|apply Xd)|((with_reducible apply Xk);(focus rfl);(focus (simp [go_sem,effAt,↓IntWalk.iteOmega, *];(try go_ints);with_reducible first|exact Xm|exact Xn));focus (simp only [Xo,Xp,Xq,Xr,Xs];rfl))|((with_reducible apply Xl);(focus rfl);focus (simp only [Xo,Xp,Xq,Xr,Xs];rfl))|(with_reducible first|apply Xe|apply Xf|apply Xg|apply Xh)|((with_reducible apply Xi);focus first|rfl|(simp [go_sem, *];done))|((with_reducible apply Xj);focus first|rfl|(simp [go_sem, *];done))|(simp only [Exit.then,Exit.inBlock,↓reduceIte,Nat.reduceEqDiff]))
  have hf_r := hB_r.frozen
  ((with_reducible apply Xt (fun w' => Blk w' _ _ _ ∧ w1.grownBy w' (some _))); (focus rfl); (focus (simp [go_sem, effAt, *]; exact ⟨rfl, (((((hB_r.set_ 0 _).set_ 1 _).set_ 2 _).set_ 3 _).set_ 4 _), (grown_set (grown_set (grown_set (grown_set (grown_set (World.grownBy.refl _ _))))))⟩)); (focus ((simp only [Xo,Xp,Xq,Xr,Xs];rfl))))
  clear hf_r hc_r hB_r
  intro w2 hs
  obtain ⟨hB_r, hs⟩ := hs
  simp only [Xq,Xr,Xs] at hB_r
  have Fw2 := Fw1.trans (Turn.of_grown hs (by first | exact .inl rfl | exact .inr (by omega)))
  replace hB_l := hB_l.grown hs (by intro hk; injection hk with hk; have := hB_l.lt; have := hB_r.lt; omega)
  clear hs Fw1
  clear hc_l; have hc_l := hB_l.cell
  have hc_r := hB_r.cell
  repeat (first|(with_reducible first|apply Xa|apply Xb|apply Xc|apply Xd)|((with_reducible apply Xk);(focus rfl);(focus (simp [go_sem,effAt,↓IntWalk.iteOmega, *];(try go_ints);with_reducible first|exact Xm|exact Xn));focus (simp only [Xo,Xp,Xq,Xr,Xs];rfl))|((with_reducible apply Xl);(focus rfl);focus (simp only [Xo,Xp,Xq,Xr,Xs];rfl))|(with_reducible first|apply Xe|apply Xf|apply Xg|apply Xh)|((with_reducible apply Xi);focus first|rfl|(simp [go_sem, *];done))|((with_reducible apply Xj);focus first|rfl|(simp [go_sem, *];done))|(simp only [Exit.then,Exit.inBlock,↓reduceIte,Nat.reduceEqDiff]))
  refine bodyPost_ret (v := (actV 0 false false 0 0)) (by simp [results, Try.results35, go_sem, *]) rfl ⟨rfl, hB_l, Turn.to_grown (by assumption)⟩
theorem up_closes (g : Nat) (s : Int) (ls : Bool) (tr mo : Int) (w : World) (hB_l : LB w g s ls tr mo) :
    Calls Try.prog 36 #[.pointer (some ⟨g, 0, none⟩), .iface 63 (.agg #[])] w (Ret (actV 4 true true 1 0) fun w' => LB w' g 4 ls 0 mo ∧ w.grownBy w' (some g)) := by
  have ha_closes := as_63_63 (.agg #[])
  have ha_cmd := as_63_75 (.agg #[])
  have hG := fun w h => begins_any g s 4 ls tr mo 4 w h
  unfold LB at *
  go_enter Try.func36, Try.ntmps36
  have F0 : Turn (fun i => i = g ∨ w.heap.size ≤ i) w w := Turn.refl _
  have hc_l := hB_l.cell
  repeat (first|(with_reducible first|apply Xa|apply Xb|apply Xc|apply Xd)|((with_reducible apply Xk);(focus rfl);(focus (simp [go_sem,effAt,↓IntWalk.iteOmega, *];(try go_ints);with_reducible first|exact Xm|exact Xn));focus (simp only [Xo,Xp,Xq,Xr,Xs];rfl))|((with_reducible apply Xl);(focus rfl);focus (simp only [Xo,Xp,Xq,Xr,Xs];rfl))|(with_reducible first|apply Xe|apply Xf|apply Xg|apply Xh)|((with_reducible apply Xi);focus first|rfl|(simp [go_sem, *];done))|((with_reducible apply Xj);focus first|rfl|(simp [go_sem, *];done))|(simp only [Exit.then,Exit.inBlock,↓reduceIte,Nat.reduceEqDiff]))
  have lt_l_r := hB_l.lt
  have le_r := F0.size
  ((with_reducible apply Xu); (focus rfl); (focus (simp [go_sem, effAt]; exact ⟨rfl, rfl⟩)); (focus ((simp only [Xo,Xp,Xq,Xr,Xs];rfl))))
  intro w1 hB_r hs
  have Fw1 := F0.trans (Turn.of_below hs)
  replace hB_l := hB_l.below hs hB_l.lt
  clear hs F0
  clear hc_l; have hc_l := hB_l.cell
  have hc_r := hB_r.cell
  repeat (first|(with_reducible first|apply Xa|apply Xb|apply Xc|apply Xd)|((with_reducible apply Xk);(focus rfl);(focus (simp [go_sem,effAt,↓IntWalk.iteOmega, *];(try go_ints);with_reducible first|exact Xm|exact Xn));focus (simp only [Xo,Xp,Xq,Xr,Xs];rfl))|((with_reducible apply Xl);(focus rfl);focus (simp only [Xo,Xp,Xq,Xr,Xs];rfl))|(with_reducible first|apply Xe|apply Xf|apply Xg|apply Xh)|((with_reducible apply Xi);focus first|rfl|(simp [go_sem, *];done))|((with_reducible apply Xj);focus first|rfl|(simp [go_sem, *];done))|(simp only [Exit.then,Exit.inBlock,↓reduceIte,Nat.reduceEqDiff]))
  have lt_l_e := hB_l.lt
  have lt_r_e := hB_r.lt
  have le_e := Fw1.size
  ((with_reducible apply Xu); (focus rfl); (focus (simp [go_sem, effAt]; exact ⟨rfl, rfl⟩)); (focus ((simp only [Xo,Xp,Xq,Xr,Xs];rfl))))
  intro w2 hB_e hs
  have Fw2 := Fw1.trans (Turn.of_below hs)
  replace hB_l := hB_l.below hs hB_l.lt
  replace hB_r := hB_r.below hs hB_r.lt
  clear hs Fw1
  clear hc_l; have hc_l := hB_l.cell
  clear hc_r; have hc_r := hB_r.cell
  have hc_e := hB_e.cell
  repeat (first|(with_reducible first|apply Xa|apply Xb|apply Xc|apply Xd)|((with_reducible apply Xk);(focus rfl);(focus (simp [go_sem,effAt,↓IntWalk.iteOmega, *];(try go_ints);with_reducible first|exact Xm|exact Xn));focus (simp only [Xo,Xp,Xq,Xr,Xs];rfl))|((with_reducible apply Xl);(focus rfl);focus (simp only [Xo,Xp,Xq,Xr,Xs];rfl))|(with_reducible first|apply Xe|apply Xf|apply Xg|apply Xh)|((with_reducible apply Xi);focus first|rfl|(simp [go_sem, *];done))|((with_reducible apply Xj);focus first|rfl|(simp [go_sem, *];done))|(simp only [Exit.then,Exit.inBlock,↓reduceIte,Nat.reduceEqDiff]))
  ((with_reducible apply Xt (fun w' => Blk w' _ _ _ ∧ w2.grownBy w' (some _))); (focus rfl); (focus (simp only [effAt]; simp [go_sem]; (with_reducible exact effUpon_enter (hG _ hB_l)))); (focus ((simp only [Xo,Xp,Xq,Xr,Xs];rfl))))
  clear hc_l hB_l
  intro w3 hs
  obtain ⟨hB_l, hs⟩ := hs
  have Fw3 := Fw2.trans (Turn.of_grown hs (by first | exact .inl rfl | exact .inr (by omega)))
  replace hB_r := hB_r.grown hs (by intro hk; injection hk with hk; have := hB_r.lt; have := hB_l.lt; omega)
  replace hB_e := hB_e.grown hs (by intro hk; injection hk with hk; have := hB_e.lt; have := hB_l.lt; omega)
  clear hs Fw2
  clear hc_r; have hc_r := hB_r.cell
  clear hc_e; have hc_e := hB_e.cell
  have hc_l := hB_l.cell
  repeat (first|(with_reducible first|apply Xa|apply Xb|apply Xc|apply Xd)|((with_reducible apply Xk);(focus rfl);(focus (simp [go_sem,effAt,↓IntWalk.iteOmega, *];(try go_ints);with_reducible first|exact Xm|exact Xn));focus (simp only [Xo,Xp,Xq,Xr,Xs];rfl))|((with_reducible apply Xl);(focus rfl);focus (simp only [Xo,Xp,Xq,Xr,Xs];rfl))|(with_reducible first|apply Xe|apply Xf|apply Xg|apply Xh)|((with_reducible apply Xi);focus first|rfl|(simp [go_sem, *];done))|((with_reducible apply Xj);focus first|rfl|(simp [go_sem, *];done))|(simp only [Exit.then,Exit.inBlock,↓reduceIte,Nat.reduceEqDiff]))
  have hf_r := hB_r.frozen
  ((with_reducible apply Xt (fun w' => Blk w' _ _ _ ∧ w3.grownBy w' (some _))); (focus rfl); (focus (simp [go_sem, effAt, *]; exact ⟨rfl, (((((hB_r.set_ 0 _).set_ 1 _).set_ 2 _).set_ 3 _).set_ 4 _), (grown_set (grown_set (grown_set (grown_set (grown_set (World.grownBy.refl _ _))))))⟩)); (focus ((simp only [Xo,Xp,Xq,Xr,Xs];rfl))))
  clear hf_r hc_r hB_r
  intro w4 hs
  obtain ⟨hB_r, hs⟩ := hs
  simp only [Xq,Xr,Xs] at hB_r
  have Fw4 := Fw3.trans (Turn.of_grown hs (by first | exact .inl rfl | exact .inr (by omega)))
  replace hB_l := hB_l.grown hs (by intro hk; injection hk with hk; have := hB_l.lt; have := hB_r.lt; omega)
  replace hB_e := hB_e.grown hs (by intro hk; injection hk with hk; have := hB_e.lt; have := hB_r.lt; omega)
  clear hs Fw3
  clear hc_l; have hc_l := hB_l.cell
  clear hc_e; have hc_e := hB_e.cell
  have hc_r := hB_r.cell
  repeat (first|(with_reducible first|apply Xa|apply Xb|apply Xc|apply Xd)|((with_reducible apply Xk);(focus rfl);(focus (simp [go_sem,effAt,↓IntWalk.iteOmega, *];(try go_ints);with_reducible first|exact Xm|exact Xn));focus (simp only [Xo,Xp,Xq,Xr,Xs];rfl))|((with_reducible apply Xl);(focus rfl);focus (simp only [Xo,Xp,Xq,Xr,Xs];rfl))|(with_reducible first|apply Xe|apply Xf|apply Xg|apply Xh)|((with_reducible apply Xi);focus first|rfl|(simp [go_sem, *];done))|((with_reducible apply Xj);focus first|rfl|(simp [go_sem, *];done))|(simp only [Exit.then,Exit.inBlock,↓reduceIte,Nat.reduceEqDiff]))
  refine bodyPost_ret (v := (actV 4 true true 1 0)) (by simp [results, Try.results36, go_sem, *]) rfl ⟨rfl, hB_l, Turn.to_grown (by assumption)⟩
theorem up_cmd1 (g : Nat) (s : Int) (ls : Bool) (tr mo : Int) (a : Int) (w : World) (hB_l : LB w g s ls tr mo) :
    Calls Try.prog 36 #[.pointer (some ⟨g, 0, none⟩), .iface 75 (.agg #[.int .u8 1, .int .u8 a])] w (Ret (actV 2 false false 0 3) fun w' => LB w' g s ls tr mo ∧ w.grownBy w' (some g)) := by
  have ha_closes := as_75_63 (.agg #[.int .u8 1, .int .u8 a])
  have ha_cmd := as_75_75 (.agg #[.int .u8 1, .int .u8 a])
  unfold LB at *
  go_enter Try.func36, Try.ntmps36
  have F0 : Turn (fun i => i = g ∨ w.heap.size ≤ i) w w := Turn.refl _
  have hc_l := hB_l.cell
  repeat (first|(with_reducible first|apply Xa|apply Xb|apply Xc|apply Xd)|((with_reducible apply Xk);(focus rfl);(focus (simp [go_sem,effAt,↓IntWalk.iteOmega, *];(try go_ints);with_reducible first|exact Xm|exact Xn));focus (simp only [Xo,Xp,Xq,Xr,Xs];rfl))|((with_reducible apply Xl);(focus rfl);focus (simp only [Xo,Xp,Xq,Xr,Xs];rfl))|(with_reducible first|apply Xe|apply Xf|apply Xg|apply Xh)|((with_reducible apply Xi);focus first|rfl|(simp [go_sem, *];done))|((with_reducible apply Xj);focus first|rfl|(simp [go_sem, *];done))|(simp only [Exit.then,Exit.inBlock,↓reduceIte,Nat.reduceEqDiff]))
  have lt_l_r := hB_l.lt
  have le_r := F0.size
  ((with_reducible apply Xu); (focus rfl); (focus (simp [go_sem, effAt]; exact ⟨rfl, rfl⟩)); (focus ((simp only [Xo,Xp,Xq,Xr,Xs];rfl))))
  intro w1 hB_r hs
  have Fw1 := F0.trans (Turn.of_below hs)
  replace hB_l := hB_l.below hs hB_l.lt
  clear hs F0
  clear hc_l; have hc_l := hB_l.cell
  have hc_r := hB_r.cell
  repeat (first|(with_reducible first|apply Xa|apply Xb|apply Xc|apply Xd)|((with_reducible apply Xk);(focus rfl);(focus (simp [go_sem,effAt,↓IntWalk.iteOmega, *];(try go_ints);with_reducible first|exact Xm|exact Xn));focus (simp only [Xo,Xp,Xq,Xr,Xs];rfl))|((with_reducible apply Xl);(focus rfl);focus (simp only [Xo,Xp,Xq,Xr,Xs];rfl))|(with_reducible first|apply Xe|apply Xf|apply Xg|apply Xh)|((with_reducible apply Xi);focus first|rfl|(simp [go_sem, *];done))|((with_reducible apply Xj);focus first|rfl|(simp [go_sem, *];done))|(simp only [Exit.then,Exit.inBlock,↓reduceIte,Nat.reduceEqDiff]))
  have lt_l_e := hB_l.lt
  have lt_r_e := hB_r.lt
  have le_e := Fw1.size
  ((with_reducible apply Xu); (focus rfl); (focus (simp [go_sem, effAt]; exact ⟨rfl, rfl⟩)); (focus ((simp only [Xo,Xp,Xq,Xr,Xs];rfl))))
  intro w2 hB_e hs
  have Fw2 := Fw1.trans (Turn.of_below hs)
  replace hB_l := hB_l.below hs hB_l.lt
  replace hB_r := hB_r.below hs hB_r.lt
  clear hs Fw1
  clear hc_l; have hc_l := hB_l.cell
  clear hc_r; have hc_r := hB_r.cell
  have hc_e := hB_e.cell
  repeat (first|(with_reducible first|apply Xa|apply Xb|apply Xc|apply Xd)|((with_reducible apply Xk);(focus rfl);(focus (simp [go_sem,effAt,↓IntWalk.iteOmega, *];(try go_ints);with_reducible first|exact Xm|exact Xn));focus (simp only [Xo,Xp,Xq,Xr,Xs];rfl))|((with_reducible apply Xl);(focus rfl);focus (simp only [Xo,Xp,Xq,Xr,Xs];rfl))|(with_reducible first|apply Xe|apply Xf|apply Xg|apply Xh)|((with_reducible apply Xi);focus first|rfl|(simp [go_sem, *];done))|((with_reducible apply Xj);focus first|rfl|(simp [go_sem, *];done))|(simp only [Exit.then,Exit.inBlock,↓reduceIte,Nat.reduceEqDiff]))
  have hf_e := hB_e.frozen
  ((with_reducible apply Xt (fun w' => Blk w' _ _ _ ∧ w2.grownBy w' (some _))); (focus rfl); (focus (simp [go_sem, effAt, *]; exact ⟨rfl, ((hB_e.set_ 0 _).set_ 1 _), (grown_set (grown_set (World.grownBy.refl _ _)))⟩)); (focus ((simp only [Xo,Xp,Xq,Xr,Xs];rfl))))
  clear hf_e hc_e hB_e
  intro w3 hs
  obtain ⟨hB_e, hs⟩ := hs
  simp only [Xq,Xr,Xs] at hB_e
  have Fw3 := Fw2.trans (Turn.of_grown hs (by first | exact .inl rfl | exact .inr (by omega)))
  replace hB_l := hB_l.grown hs (by intro hk; injection hk with hk; have := hB_l.lt; have := hB_e.lt; omega)
  replace hB_r := hB_r.grown hs (by intro hk; injection hk with hk; have := hB_r.lt; have := hB_e.lt; omega)
  clear hs Fw2
  clear hc_l; have hc_l := hB_l.cell
  clear hc_r; have hc_r := hB_r.cell
  have hc_e := hB_e.cell
  repeat (first|(with_reducible first|apply Xa|apply Xb|apply Xc|apply Xd)|((with_reducible apply Xk);(focus rfl);(focus (simp [go_sem,effAt,↓IntWalk.iteOmega, *];(try go_ints);with_reducible first|exact Xm|exact Xn));focus (simp only [Xo,Xp,Xq,Xr,Xs];rfl))|((with_reducible apply Xl);(focus rfl);focus (simp only [Xo,Xp,Xq,Xr,Xs];rfl))|(with_reducible first|apply Xe|apply Xf|apply Xg|apply Xh)|((with_reducible apply Xi);focus first|rfl|(simp [go_sem, *];done))|((with_reducible apply Xj);focus first|rfl|(simp [go_sem, *];done))|(simp only [Exit.then,Exit.inBlock,↓reduceIte,Nat.reduceEqDiff]))
  have hf_r := hB_r.frozen
  ((with_reducible apply Xt (fun w' => Blk w' _ _ _ ∧ w3.grownBy w' (some _))); (focus rfl); (focus (simp [go_sem, effAt, *]; exact ⟨rfl, (((((hB_r.set_ 0 _).set_ 1 _).set_ 2 _).set_ 3 _).set_ 4 _), (grown_set (grown_set (grown_set (grown_set (grown_set (World.grownBy.refl _ _))))))⟩)); (focus ((simp only [Xo,Xp,Xq,Xr,Xs];rfl))))
  clear hf_r hc_r hB_r
  intro w4 hs
  obtain ⟨hB_r, hs⟩ := hs
  simp only [Xq,Xr,Xs] at hB_r
  have Fw4 := Fw3.trans (Turn.of_grown hs (by first | exact .inl rfl | exact .inr (by omega)))
  replace hB_l := hB_l.grown hs (by intro hk; injection hk with hk; have := hB_l.lt; have := hB_r.lt; omega)
  replace hB_e := hB_e.grown hs (by intro hk; injection hk with hk; have := hB_e.lt; have := hB_r.lt; omega)
  clear hs Fw3
  clear hc_l; have hc_l := hB_l.cell
  clear hc_e; have hc_e := hB_e.cell
  have hc_r := hB_r.cell
  repeat (first|(with_reducible first|apply Xa|apply Xb|apply Xc|apply Xd)|((with_reducible apply Xk);(focus rfl);(focus (simp [go_sem,effAt,↓IntWalk.iteOmega, *];(try go_ints);with_reducible first|exact Xm|exact Xn));focus (simp only [Xo,Xp,Xq,Xr,Xs];rfl))|((with_reducible apply Xl);(focus rfl);focus (simp only [Xo,Xp,Xq,Xr,Xs];rfl))|(with_reducible first|apply Xe|apply Xf|apply Xg|apply Xh)|((with_reducible apply Xi);focus first|rfl|(simp [go_sem, *];done))|((with_reducible apply Xj);focus first|rfl|(simp [go_sem, *];done))|(simp only [Exit.then,Exit.inBlock,↓reduceIte,Nat.reduceEqDiff]))
  refine bodyPost_ret (v := (actV 2 false false 0 3)) (by simp [results, Try.results36, go_sem, *]) rfl ⟨rfl, hB_l, Turn.to_grown (by assumption)⟩
theorem up_cmd4 (g : Nat) (s : Int) (ls : Bool) (tr mo : Int) (a : Int) (w : World) (hB_l : LB w g s ls tr mo) :
    Calls Try.prog 36 #[.pointer (some ⟨g, 0, none⟩), .iface 75 (.agg #[.int .u8 4, .int .u8 a])] w (Ret (actV 2 false false 0 5) fun w' => LB w' g 1 ls tr mo ∧ w.grownBy w' (some g)) := by
  have ha_closes := as_75_63 (.agg #[.int .u8 4, .int .u8 a])
  have ha_cmd := as_75_75 (.agg #[.int .u8 4, .int .u8 a])
  have hG := fun w h => goes_any g s 1 ls tr mo 2 false false 0 0 5 w h
  unfold LB at *
  go_enter Try.func36, Try.ntmps36
  have F0 : Turn (fun i => i = g ∨ w.heap.size ≤ i) w w := Turn.refl _
  have hc_l := hB_l.cell
  repeat (first|(with_reducible first|apply Xa|apply Xb|apply Xc|apply Xd)|((with_reducible apply Xk);(focus rfl);(focus (simp [go_sem,effAt,↓IntWalk.iteOmega, *];(try go_ints);with_reducible first|exact Xm|exact Xn));focus (simp only [Xo,Xp,Xq,Xr,Xs];rfl))|((with_reducible apply Xl);(focus rfl);focus (simp only [Xo,Xp,Xq,Xr,Xs];rfl))|(with_reducible first|apply Xe|apply Xf|apply Xg|apply Xh)|((with_reducible apply Xi);focus first|rfl|(simp [go_sem, *];done))|((with_reducible apply Xj);focus first|rfl|(simp [go_sem, *];done))|(simp only [Exit.then,Exit.inBlock,↓reduceIte,Nat.reduceEqDiff]))
  have lt_l_r := hB_l.lt
  have le_r := F0.size
  ((with_reducible apply Xu); (focus rfl); (focus (simp [go_sem, effAt]; exact ⟨rfl, rfl⟩)); (focus ((simp only [Xo,Xp,Xq,Xr,Xs];rfl))))
  intro w1 hB_r hs
  have Fw1 := F0.trans (Turn.of_below hs)
  replace hB_l := hB_l.below hs hB_l.lt
  clear hs F0
  clear hc_l; have hc_l := hB_l.cell
  have hc_r := hB_r.cell
  repeat (first|(with_reducible first|apply Xa|apply Xb|apply Xc|apply Xd)|((with_reducible apply Xk);(focus rfl);(focus (simp [go_sem,effAt,↓IntWalk.iteOmega, *];(try go_ints);with_reducible first|exact Xm|exact Xn));focus (simp only [Xo,Xp,Xq,Xr,Xs];rfl))|((with_reducible apply Xl);(focus rfl);focus (simp only [Xo,Xp,Xq,Xr,Xs];rfl))|(with_reducible first|apply Xe|apply Xf|apply Xg|apply Xh)|((with_reducible apply Xi);focus first|rfl|(simp [go_sem, *];done))|((with_reducible apply Xj);focus first|rfl|(simp [go_sem, *];done))|(simp only [Exit.then,Exit.inBlock,↓reduceIte,Nat.reduceEqDiff]))
  have lt_l_e := hB_l.lt
  have lt_r_e := hB_r.lt
  have le_e := Fw1.size
  ((with_reducible apply Xu); (focus rfl); (focus (simp [go_sem, effAt]; exact ⟨rfl, rfl⟩)); (focus ((simp only [Xo,Xp,Xq,Xr,Xs];rfl))))
  intro w2 hB_e hs
  have Fw2 := Fw1.trans (Turn.of_below hs)
  replace hB_l := hB_l.below hs hB_l.lt
  replace hB_r := hB_r.below hs hB_r.lt
  clear hs Fw1
  clear hc_l; have hc_l := hB_l.cell
  clear hc_r; have hc_r := hB_r.cell
  have hc_e := hB_e.cell
  repeat (first|(with_reducible first|apply Xa|apply Xb|apply Xc|apply Xd)|((with_reducible apply Xk);(focus rfl);(focus (simp [go_sem,effAt,↓IntWalk.iteOmega, *];(try go_ints);with_reducible first|exact Xm|exact Xn));focus (simp only [Xo,Xp,Xq,Xr,Xs];rfl))|((with_reducible apply Xl);(focus rfl);focus (simp only [Xo,Xp,Xq,Xr,Xs];rfl))|(with_reducible first|apply Xe|apply Xf|apply Xg|apply Xh)|((with_reducible apply Xi);focus first|rfl|(simp [go_sem, *];done))|((with_reducible apply Xj);focus first|rfl|(simp [go_sem, *];done))|(simp only [Exit.then,Exit.inBlock,↓reduceIte,Nat.reduceEqDiff]))
  have hf_e := hB_e.frozen
  ((with_reducible apply Xt (fun w' => Blk w' _ _ _ ∧ w2.grownBy w' (some _))); (focus rfl); (focus (simp [go_sem, effAt, *]; exact ⟨rfl, ((hB_e.set_ 0 _).set_ 1 _), (grown_set (grown_set (World.grownBy.refl _ _)))⟩)); (focus ((simp only [Xo,Xp,Xq,Xr,Xs];rfl))))
  clear hf_e hc_e hB_e
  intro w3 hs
  obtain ⟨hB_e, hs⟩ := hs
  simp only [Xq,Xr,Xs] at hB_e
  have Fw3 := Fw2.trans (Turn.of_grown hs (by first | exact .inl rfl | exact .inr (by omega)))
  replace hB_l := hB_l.grown hs (by intro hk; injection hk with hk; have := hB_l.lt; have := hB_e.lt; omega)
  replace hB_r := hB_r.grown hs (by intro hk; injection hk with hk; have := hB_r.lt; have := hB_e.lt; omega)
  clear hs Fw2
  clear hc_l; have hc_l := hB_l.cell
  clear hc_r; have hc_r := hB_r.cell
  have hc_e := hB_e.cell
  repeat (first|(with_reducible first|apply Xa|apply Xb|apply Xc|apply Xd)|((with_reducible apply Xk);(focus rfl);(focus (simp [go_sem,effAt,↓IntWalk.iteOmega, *];(try go_ints);with_reducible first|exact Xm|exact Xn));focus (simp only [Xo,Xp,Xq,Xr,Xs];rfl))|((with_reducible apply Xl);(focus rfl);focus (simp only [Xo,Xp,Xq,Xr,Xs];rfl))|(with_reducible first|apply Xe|apply Xf|apply Xg|apply Xh)|((with_reducible apply Xi);focus first|rfl|(simp [go_sem, *];done))|((with_reducible apply Xj);focus first|rfl|(simp [go_sem, *];done))|(simp only [Exit.then,Exit.inBlock,↓reduceIte,Nat.reduceEqDiff]))
  ((with_reducible apply Xt (fun w' => Blk w' _ _ _ ∧ w3.grownBy w' (some _))); (focus rfl); (focus (simp only [effAt]; simp [go_sem]; (with_reducible exact effUpon_enter (hG _ hB_l)))); (focus ((simp only [Xo,Xp,Xq,Xr,Xs];rfl))))
  clear hc_l hB_l
  intro w4 hs
  obtain ⟨hB_l, hs⟩ := hs
  have Fw4 := Fw3.trans (Turn.of_grown hs (by first | exact .inl rfl | exact .inr (by omega)))
  replace hB_r := hB_r.grown hs (by intro hk; injection hk with hk; have := hB_r.lt; have := hB_l.lt; omega)
  replace hB_e := hB_e.grown hs (by intro hk; injection hk with hk; have := hB_e.lt; have := hB_l.lt; omega)
  clear hs Fw3
  clear hc_r; have hc_r := hB_r.cell
  clear hc_e; have hc_e := hB_e.cell
  have hc_l := hB_l.cell
  repeat (first|(with_reducible first|apply Xa|apply Xb|apply Xc|apply Xd)|((with_reducible apply Xk);(focus rfl);(focus (simp [go_sem,effAt,↓IntWalk.iteOmega, *];(try go_ints);with_reducible first|exact Xm|exact Xn));focus (simp only [Xo,Xp,Xq,Xr,Xs];rfl))|((with_reducible apply Xl);(focus rfl);focus (simp only [Xo,Xp,Xq,Xr,Xs];rfl))|(with_reducible first|apply Xe|apply Xf|apply Xg|apply Xh)|((with_reducible apply Xi);focus first|rfl|(simp [go_sem, *];done))|((with_reducible apply Xj);focus first|rfl|(simp [go_sem, *];done))|(simp only [Exit.then,Exit.inBlock,↓reduceIte,Nat.reduceEqDiff]))
  have hf_r := hB_r.frozen
  ((with_reducible apply Xt (fun w' => Blk w' _ _ _ ∧ w4.grownBy w' (some _))); (focus rfl); (focus (simp [go_sem, effAt, *]; exact ⟨rfl, (((((hB_r.set_ 0 _).set_ 1 _).set_ 2 _).set_ 3 _).set_ 4 _), (grown_set (grown_set (grown_set (grown_set (grown_set (World.grownBy.refl _ _))))))⟩)); (focus ((simp only [Xo,Xp,Xq,Xr,Xs];rfl))))
  clear hf_r hc_r hB_r
  intro w5 hs
  obtain ⟨hB_r, hs⟩ := hs
  simp only [Xq,Xr,Xs] at hB_r
  have Fw5 := Fw4.trans (Turn.of_grown hs (by first | exact .inl rfl | exact .inr (by omega)))
  replace hB_l := hB_l.grown hs (by intro hk; injection hk with hk; have := hB_l.lt; have := hB_r.lt; omega)
  replace hB_e := hB_e.grown hs (by intro hk; injection hk with hk; have := hB_e.lt; have := hB_r.lt; omega)
  clear hs Fw4
  clear hc_l; have hc_l := hB_l.cell
  clear hc_e; have hc_e := hB_e.cell
  have hc_r := hB_r.cell
  repeat (first|(with_reducible first|apply Xa|apply Xb|apply Xc|apply Xd)|((with_reducible apply Xk);(focus rfl);(focus (simp [go_sem,effAt,↓IntWalk.iteOmega, *];(try go_ints);with_reducible first|exact Xm|exact Xn));focus (simp only [Xo,Xp,Xq,Xr,Xs];rfl))|((with_reducible apply Xl);(focus rfl);focus (simp only [Xo,Xp,Xq,Xr,Xs];rfl))|(with_reducible first|apply Xe|apply Xf|apply Xg|apply Xh)|((with_reducible apply Xi);focus first|rfl|(simp [go_sem, *];done))|((with_reducible apply Xj);focus first|rfl|(simp [go_sem, *];done))|(simp only [Exit.then,Exit.inBlock,↓reduceIte,Nat.reduceEqDiff]))
  refine bodyPost_ret (v := (actV 2 false false 0 5)) (by simp [results, Try.results36, go_sem, *]) rfl ⟨rfl, hB_l, Turn.to_grown (by assumption)⟩
theorem up_cmdo (g : Nat) (s : Int) (ls : Bool) (tr mo : Int) (k a : Int) (w : World) (hB_l : LB w g s ls tr mo) (h1 : ¬ k = 1) (h4 : ¬ k = 4) :
    Calls Try.prog 36 #[.pointer (some ⟨g, 0, none⟩), .iface 75 (.agg #[.int .u8 k, .int .u8 a])] w (Ret (actV 0 false false 0 0) fun w' => LB w' g s ls tr mo ∧ w.grownBy w' (some g)) := by
  have ha_closes := as_75_63 (.agg #[.int .u8 k, .int .u8 a])
  have ha_cmd := as_75_75 (.agg #[.int .u8 k, .int .u8 a])
  have n1 : (k == 1) = false := by simpa using h1
  have n4 : (k == 4) = false := by simpa using h4
  unfold LB at *
  go_enter Try.func36, Try.ntmps36
  have F0 : Turn (fun i => i = g ∨ w.heap.size ≤ i) w w := Turn.refl _
  have hc_l := hB_l.cell
  repeat (first|(with_reducible first|apply Xa|apply Xb|apply Xc|apply Xd)|((with_reducible apply Xk);(focus rfl);(focus (simp [go_sem,effAt,↓IntWalk.iteOmega, *];(try go_ints);with_reducible first|exact Xm|exact Xn));focus (simp only [Xo,Xp,Xq,Xr,Xs];rfl))|((with_reducible apply Xl);(focus rfl);focus (simp only [Xo,Xp,Xq,Xr,Xs];rfl))|(with_reducible first|apply Xe|apply Xf|apply Xg|apply Xh)|((with_reducible apply Xi);focus first|rfl|(simp [go_sem, *];done))|((with_reducible apply Xj);focus first|rfl|(simp [go_sem, *];done))|(simp only [Exit.then,Exit.inBlock,↓reduceIte,Nat.reduceEqDiff]))
  have lt_l_r := hB_l.lt
  have le_r := F0.size
  ((with_reducible apply Xu); (focus rfl); (focus (simp [go_sem, effAt]; exact ⟨rfl, rfl⟩)); (focus ((simp only [Xo,Xp,Xq,Xr,Xs];rfl))))
  intro w1 hB_r hs
  have Fw1 := F0.trans (Turn.of_below hs)
  replace hB_l := hB_l.below hs hB_l.lt
  clear hs F0
  clear hc_l; have hc_l := hB_l.cell
  have hc_r := hB_r.cell
  repeat (first|(with_reducible first|apply Xa|apply Xb|apply Xc|apply Xd)|((with_reducible apply Xk);(focus rfl);(focus (simp [go_sem,effAt,↓IntWalk.iteOmega, *];(try go_ints);with_reducible first|exact Xm|exact Xn));focus (simp only [Xo,Xp,Xq,Xr,Xs];rfl))|((with_reducible apply Xl);(focus rfl);focus (simp only [Xo,Xp,Xq,Xr,Xs];rfl))|(with_reducible first|apply Xe|apply Xf|apply Xg|apply Xh)|((with_reducible apply Xi);focus first|rfl|(simp [go_sem, *];done))|((with_reducible apply Xj);focus first|rfl|(simp [go_sem, *];done))|(simp only [Exit.then,Exit.inBlock,↓reduceIte,Nat.reduceEqDiff]))
  have lt_l_e := hB_l.lt
  have lt_r_e := hB_r.lt
  have le_e := Fw1.size
  ((with_reducible apply Xu); (focus rfl); (focus (simp [go_sem, effAt]; exact ⟨rfl, rfl⟩)); (focus ((simp only [Xo,Xp,Xq,Xr,Xs];rfl))))
  intro w2 hB_e hs
  have Fw2 := Fw1.trans (Turn.of_below hs)
  replace hB_l := hB_l.below hs hB_l.lt
  replace hB_r := hB_r.below hs hB_r.lt
  clear hs Fw1
  clear hc_l; have hc_l := hB_l.cell
  clear hc_r; have hc_r := hB_r.cell
  have hc_e := hB_e.cell
  repeat (first|(with_reducible first|apply Xa|apply Xb|apply Xc|apply Xd)|((with_reducible apply Xk);(focus rfl);(focus (simp [go_sem,effAt,↓IntWalk.iteOmega, *];(try go_ints);with_reducible first|exact Xm|exact Xn));focus (simp only [Xo,Xp,Xq,Xr,Xs];rfl))|((with_reducible apply Xl);(focus rfl);focus (simp only [Xo,Xp,Xq,Xr,Xs];rfl))|(with_reducible first|apply Xe|apply Xf|apply Xg|apply Xh)|((with_reducible apply Xi);focus first|rfl|(simp [go_sem, *];done))|((with_reducible apply Xj);focus first|rfl|(simp [go_sem, *];done))|(simp only [Exit.then,Exit.inBlock,↓reduceIte,Nat.reduceEqDiff]))
  have hf_e := hB_e.frozen
  ((with_reducible apply Xt (fun w' => Blk w' _ _ _ ∧ w2.grownBy w' (some _))); (focus rfl); (focus (simp [go_sem, effAt, *]; exact ⟨rfl, ((hB_e.set_ 0 _).set_ 1 _), (grown_set (grown_set (World.grownBy.refl _ _)))⟩)); (focus ((simp only [Xo,Xp,Xq,Xr,Xs];rfl))))
  clear hf_e hc_e hB_e
  intro w3 hs
  obtain ⟨hB_e, hs⟩ := hs
  simp only [Xq,Xr,Xs] at hB_e
  have Fw3 := Fw2.trans (Turn.of_grown hs (by first | exact .inl rfl | exact .inr (by omega)))
  replace hB_l := hB_l.grown hs (by intro hk; injection hk with hk; have := hB_l.lt; have := hB_e.lt; omega)
  replace hB_r := hB_r.grown hs (by intro hk; injection hk with hk; have := hB_r.lt; have := hB_e.lt; omega)
  clear hs Fw2
  clear hc_l; have hc_l := hB_l.cell
  clear hc_r; have hc_r := hB_r.cell
  have hc_e := hB_e.cell
  repeat (first|(with_reducible first|apply Xa|apply Xb|apply Xc|apply Xd)|((with_reducible apply Xk);(focus rfl);(focus (simp [go_sem,effAt,↓IntWalk.iteOmega, *];(try go_ints);with_reducible first|exact Xm|exact Xn));focus (simp only [Xo,Xp,Xq,Xr,Xs];rfl))|((with_reducible apply Xl);(focus rfl);focus (simp only [Xo,Xp,Xq,Xr,Xs];rfl))|(with_reducible first|apply Xe|apply Xf|apply Xg|apply Xh)|((with_reducible apply Xi);focus first|rfl|(simp [go_sem, *];done))|((with_reducible apply Xj);focus first|rfl|(simp [go_sem, *];done))|(simp only [Exit.then,Exit.inBlock,↓reduceIte,Nat.reduceEqDiff]))
  have hf_r := hB_r.frozen
  ((with_reducible apply Xt (fun w' => Blk w' _ _ _ ∧ w3.grownBy w' (some _))); (focus rfl); (focus (simp [go_sem, effAt, *]; exact ⟨rfl, (((((hB_r.set_ 0 _).set_ 1 _).set_ 2 _).set_ 3 _).set_ 4 _), (grown_set (grown_set (grown_set (grown_set (grown_set (World.grownBy.refl _ _))))))⟩)); (focus ((simp only [Xo,Xp,Xq,Xr,Xs];rfl))))
  clear hf_r hc_r hB_r
  intro w4 hs
  obtain ⟨hB_r, hs⟩ := hs
  simp only [Xq,Xr,Xs] at hB_r
  have Fw4 := Fw3.trans (Turn.of_grown hs (by first | exact .inl rfl | exact .inr (by omega)))
  replace hB_l := hB_l.grown hs (by intro hk; injection hk with hk; have := hB_l.lt; have := hB_r.lt; omega)
  replace hB_e := hB_e.grown hs (by intro hk; injection hk with hk; have := hB_e.lt; have := hB_r.lt; omega)
  clear hs Fw3
  clear hc_l; have hc_l := hB_l.cell
  clear hc_e; have hc_e := hB_e.cell
  have hc_r := hB_r.cell
  repeat (first|(with_reducible first|apply Xa|apply Xb|apply Xc|apply Xd)|((with_reducible apply Xk);(focus rfl);(focus (simp [go_sem,effAt,↓IntWalk.iteOmega, *];(try go_ints);with_reducible first|exact Xm|exact Xn));focus (simp only [Xo,Xp,Xq,Xr,Xs];rfl))|((with_reducible apply Xl);(focus rfl);focus (simp only [Xo,Xp,Xq,Xr,Xs];rfl))|(with_reducible first|apply Xe|apply Xf|apply Xg|apply Xh)|((with_reducible apply Xi);focus first|rfl|(simp [go_sem, *];done))|((with_reducible apply Xj);focus first|rfl|(simp [go_sem, *];done))|(simp only [Exit.then,Exit.inBlock,↓reduceIte,Nat.reduceEqDiff]))
  refine bodyPost_ret (v := (actV 0 false false 0 0)) (by simp [results, Try.results36, go_sem, *]) rfl ⟨rfl, hB_l, Turn.to_grown (by assumption)⟩
theorem up_opens (g : Nat) (s : Int) (ls : Bool) (tr mo : Int) (w : World) (hB_l : LB w g s ls tr mo) :
    Calls Try.prog 36 #[.pointer (some ⟨g, 0, none⟩), .iface 62 (.agg #[])] w (Ret (actV 0 false false 0 0) fun w' => LB w' g s ls tr mo ∧ w.grownBy w' (some g)) := by
  have ha_closes := as_62_63 (.agg #[])
  have ha_cmd := as_62_75 (.agg #[])
  unfold LB at *
  go_enter Try.func36, Try.ntmps36
  have F0 : Turn (fun i => i = g ∨ w.heap.size ≤ i) w w := Turn.refl _
  have hc_l := hB_l.cell
  repeat (first|(with_reducible first|apply Xa|apply Xb|apply Xc|apply Xd)|((with_reducible apply Xk);(focus rfl);(focus (simp [go_sem,effAt,↓IntWalk.iteOmega, *];(try go_ints);with_reducible first|exact Xm|exact Xn));focus (simp only [Xo,Xp,Xq,Xr,Xs];rfl))|((with_reducible apply Xl);(focus rfl);focus (simp only [Xo,Xp,Xq,Xr,Xs];rfl))|(with_reducible first|apply Xe|apply Xf|apply Xg|apply Xh)|((with_reducible apply Xi);focus first|rfl|(simp [go_sem, *];done))|((with_reducible apply Xj);focus first|rfl|(simp [go_sem, *];done))|(simp only [Exit.then,Exit.inBlock,↓reduceIte,Nat.reduceEqDiff]))
  have lt_l_r := hB_l.lt
  have le_r := F0.size
  ((with_reducible apply Xu); (focus rfl); (focus (simp [go_sem, effAt]; exact ⟨rfl, rfl⟩)); (focus ((simp only [Xo,Xp,Xq,Xr,Xs];rfl))))
  intro w1 hB_r hs
  have Fw1 := F0.trans (Turn.of_below hs)
  replace hB_l := hB_l.below hs hB_l.lt
  clear hs F0
  clear hc_l; have hc_l := hB_l.cell
  have hc_r := hB_r.cell
  repeat (first|(with_reducible first|apply Xa|apply Xb|apply Xc|apply Xd)|((with_reducible apply Xk);(focus rfl);(focus (simp [go_sem,effAt,↓IntWalk.iteOmega, *];(try go_ints);with_reducible first|exact Xm|exact Xn));focus (simp only [Xo,Xp,Xq,Xr,Xs];rfl))|((with_reducible apply Xl);(focus rfl);focus (simp only [Xo,Xp,Xq,Xr,Xs];rfl))|(with_reducible first|apply Xe|apply Xf|apply Xg|apply Xh)|((with_reducible apply Xi);focus first|rfl|(simp [go_sem, *];done))|((with_reducible apply Xj);focus first|rfl|(simp [go_sem, *];done))|(simp only [Exit.then,Exit.inBlock,↓reduceIte,Nat.reduceEqDiff]))
  have hf_r := hB_r.frozen
  ((with_reducible apply Xt (fun w' => Blk w' _ _ _ ∧ w1.grownBy w' (some _))); (focus rfl); (focus (simp [go_sem, effAt, *]; exact ⟨rfl, (((((hB_r.set_ 0 _).set_ 1 _).set_ 2 _).set_ 3 _).set_ 4 _), (grown_set (grown_set (grown_set (grown_set (grown_set (World.grownBy.refl _ _))))))⟩)); (focus ((simp only [Xo,Xp,Xq,Xr,Xs];rfl))))
  clear hf_r hc_r hB_r
  intro w2 hs
  obtain ⟨hB_r, hs⟩ := hs
  simp only [Xq,Xr,Xs] at hB_r
  have Fw2 := Fw1.trans (Turn.of_grown hs (by first | exact .inl rfl | exact .inr (by omega)))
  replace hB_l := hB_l.grown hs (by intro hk; injection hk with hk; have := hB_l.lt; have := hB_r.lt; omega)
  clear hs Fw1
  clear hc_l; have hc_l := hB_l.cell
  have hc_r := hB_r.cell
  repeat (first|(with_reducible first|apply Xa|apply Xb|apply Xc|apply Xd)|((with_reducible apply Xk);(focus rfl);(focus (simp [go_sem,effAt,↓IntWalk.iteOmega, *];(try go_ints);with_reducible first|exact Xm|exact Xn));focus (simp only [Xo,Xp,Xq,Xr,Xs];rfl))|((with_reducible apply Xl);(focus rfl);focus (simp only [Xo,Xp,Xq,Xr,Xs];rfl))|(with_reducible first|apply Xe|apply Xf|apply Xg|apply Xh)|((with_reducible apply Xi);focus first|rfl|(simp [go_sem, *];done))|((with_reducible apply Xj);focus first|rfl|(simp [go_sem, *];done))|(simp only [Exit.then,Exit.inBlock,↓reduceIte,Nat.reduceEqDiff]))
  refine bodyPost_ret (v := (actV 0 false false 0 0)) (by simp [results, Try.results36, go_sem, *]) rfl ⟨rfl, hB_l, Turn.to_grown (by assumption)⟩
theorem up_due (g : Nat) (s : Int) (ls : Bool) (tr mo : Int) (w : World) (hB_l : LB w g s ls tr mo) :
    Calls Try.prog 36 #[.pointer (some ⟨g, 0, none⟩), .iface 68 (.agg #[])] w (Ret (actV 0 false false 0 0) fun w' => LB w' g s ls tr mo ∧ w.grownBy w' (some g)) := by
  have ha_closes := as_68_63 (.agg #[])
  have ha_cmd := as_68_75 (.agg #[])
  unfold LB at *
  go_enter Try.func36, Try.ntmps36
  have F0 : Turn (fun i => i = g ∨ w.heap.size ≤ i) w w := Turn.refl _
  have hc_l := hB_l.cell
  repeat (first|(with_reducible first|apply Xa|apply Xb|apply Xc|apply Xd)|((with_reducible apply Xk);(focus rfl);(focus (simp [go_sem,effAt,↓IntWalk.iteOmega, *];(try go_ints);with_reducible first|exact Xm|exact Xn));focus (simp only [Xo,Xp,Xq,Xr,Xs];rfl))|((with_reducible apply Xl);(focus rfl);focus (simp only [Xo,Xp,Xq,Xr,Xs];rfl))|(with_reducible first|apply Xe|apply Xf|apply Xg|apply Xh)|((with_reducible apply Xi);focus first|rfl|(simp [go_sem, *];done))|((with_reducible apply Xj);focus first|rfl|(simp [go_sem, *];done))|(simp only [Exit.then,Exit.inBlock,↓reduceIte,Nat.reduceEqDiff]))
  have lt_l_r := hB_l.lt
  have le_r := F0.size
  ((with_reducible apply Xu); (focus rfl); (focus (simp [go_sem, effAt]; exact ⟨rfl, rfl⟩)); (focus ((simp only [Xo,Xp,Xq,Xr,Xs];rfl))))
  intro w1 hB_r hs
  have Fw1 := F0.trans (Turn.of_below hs)
  replace hB_l := hB_l.below hs hB_l.lt
  clear hs F0
  clear hc_l; have hc_l := hB_l.cell
  have hc_r := hB_r.cell
  repeat (first|(with_reducible first|apply Xa|apply Xb|apply Xc|apply Xd)|((with_reducible apply Xk);(focus rfl);(focus (simp [go_sem,effAt,↓IntWalk.iteOmega, *];(try go_ints);with_reducible first|exact Xm|exact Xn));focus (simp only [Xo,Xp,Xq,Xr,Xs];rfl))|((with_reducible apply Xl);(focus rfl);focus (simp only [Xo,Xp,Xq,Xr,Xs];rfl))|(with_reducible first|apply Xe|apply Xf|apply Xg|apply Xh)|((with_reducible apply Xi);focus first|rfl|(simp [go_sem, *];done))|((with_reducible apply Xj);focus first|rfl|(simp [go_sem, *];done))|(simp only [Exit.then,Exit.inBlock,↓reduceIte,Nat.reduceEqDiff]))
  have hf_r := hB_r.frozen
  ((with_reducible apply Xt (fun w' => Blk w' _ _ _ ∧ w1.grownBy w' (some _))); (focus rfl); (focus (simp [go_sem, effAt, *]; exact ⟨rfl, (((((hB_r.set_ 0 _).set_ 1 _).set_ 2 _).set_ 3 _).set_ 4 _), (grown_set (grown_set (grown_set (grown_set (grown_set (World.grownBy.refl _ _))))))⟩)); (focus ((simp only [Xo,Xp,Xq,Xr,Xs];rfl))))
  clear hf_r hc_r hB_r
  intro w2 hs
  obtain ⟨hB_r, hs⟩ := hs
  simp only [Xq,Xr,Xs] at hB_r
  have Fw2 := Fw1.trans (Turn.of_grown hs (by first | exact .inl rfl | exact .inr (by omega)))
  replace hB_l := hB_l.grown hs (by intro hk; injection hk with hk; have := hB_l.lt; have := hB_r.lt; omega)
  clear hs Fw1
  clear hc_l; have hc_l := hB_l.cell
  have hc_r := hB_r.cell
  repeat (first|(with_reducible first|apply Xa|apply Xb|apply Xc|apply Xd)|((with_reducible apply Xk);(focus rfl);(focus (simp [go_sem,effAt,↓IntWalk.iteOmega, *];(try go_ints);with_reducible first|exact Xm|exact Xn));focus (simp only [Xo,Xp,Xq,Xr,Xs];rfl))|((with_reducible apply Xl);(focus rfl);focus (simp only [Xo,Xp,Xq,Xr,Xs];rfl))|(with_reducible first|apply Xe|apply Xf|apply Xg|apply Xh)|((with_reducible apply Xi);focus first|rfl|(simp [go_sem, *];done))|((with_reducible apply Xj);focus first|rfl|(simp [go_sem, *];done))|(simp only [Exit.then,Exit.inBlock,↓reduceIte,Nat.reduceEqDiff]))
  refine bodyPost_ret (v := (actV 0 false false 0 0)) (by simp [results, Try.results36, go_sem, *]) rfl ⟨rfl, hB_l, Turn.to_grown (by assumption)⟩
theorem up_resp (g : Nat) (s : Int) (ls : Bool) (tr mo : Int) (k : Int) (w : World) (hB_l : LB w g s ls tr mo) :
    Calls Try.prog 36 #[.pointer (some ⟨g, 0, none⟩), .iface 67 (.agg #[.int .u8 k])] w (Ret (actV 0 false false 0 0) fun w' => LB w' g s ls tr mo ∧ w.grownBy w' (some g)) := by
  have ha_closes := as_67_63 (.agg #[.int .u8 k])
  have ha_cmd := as_67_75 (.agg #[.int .u8 k])
  unfold LB at *
  go_enter Try.func36, Try.ntmps36
  have F0 : Turn (fun i => i = g ∨ w.heap.size ≤ i) w w := Turn.refl _
  have hc_l := hB_l.cell
  repeat (first|(with_reducible first|apply Xa|apply Xb|apply Xc|apply Xd)|((with_reducible apply Xk);(focus rfl);(focus (simp [go_sem,effAt,↓IntWalk.iteOmega, *];(try go_ints);with_reducible first|exact Xm|exact Xn));focus (simp only [Xo,Xp,Xq,Xr,Xs];rfl))|((with_reducible apply Xl);(focus rfl);focus (simp only [Xo,Xp,Xq,Xr,Xs];rfl))|(with_reducible first|apply Xe|apply Xf|apply Xg|apply Xh)|((with_reducible apply Xi);focus first|rfl|(simp [go_sem, *];done))|((with_reducible apply Xj);focus first|rfl|(simp [go_sem, *];done))|(simp only [Exit.then,Exit.inBlock,↓reduceIte,Nat.reduceEqDiff]))
  have lt_l_r := hB_l.lt
  have le_r := F0.size
  ((with_reducible apply Xu); (focus rfl); (focus (simp [go_sem, effAt]; exact ⟨rfl, rfl⟩)); (focus ((simp only [Xo,Xp,Xq,Xr,Xs];rfl))))
  intro w1 hB_r hs
  have Fw1 := F0.trans (Turn.of_below hs)
  replace hB_l := hB_l.below hs hB_l.lt
  clear hs F0
  clear hc_l; have hc_l := hB_l.cell
  have hc_r := hB_r.cell
  repeat (first|(with_reducible first|apply Xa|apply Xb|apply Xc|apply Xd)|((with_reducible apply Xk);(focus rfl);(focus (simp [go_sem,effAt,↓IntWalk.iteOmega, *];(try go_ints);with_reducible first|exact Xm|exact Xn));focus (simp only [Xo,Xp,Xq,Xr,Xs];rfl))|((with_reducible apply Xl);(focus rfl);focus (simp only [Xo,Xp,Xq,Xr,Xs];rfl))|(with_reducible first|apply Xe|apply Xf|apply Xg|apply Xh)|((with_reducible apply Xi);focus first|rfl|(simp [go_sem, *];done))|((with_reducible apply Xj);focus first|rfl|(simp [go_sem, *];done))|(simp only [Exit.then,Exit.inBlock,↓reduceIte,Nat.reduceEqDiff]))
  have hf_r := hB_r.frozen
  ((with_reducible apply Xt (fun w' => Blk w' _ _ _ ∧ w1.grownBy w' (some _))); (focus rfl); (focus (simp [go_sem, effAt, *]; exact ⟨rfl, (((((hB_r.set_ 0 _).set_ 1 _).set_ 2 _).set_ 3 _).set_ 4 _), (grown_set (grown_set (grown_set (grown_set (grown_set (World.grownBy.refl _ _))))))⟩)); (focus ((simp only [Xo,Xp,Xq,Xr,Xs];rfl))))
  clear hf_r hc_r hB_r
  intro w2 hs
  obtain ⟨hB_r, hs⟩ := hs
  simp only [Xq,Xr,Xs] at hB_r
  have Fw2 := Fw1.trans (Turn.of_grown hs (by first | exact .inl rfl | exact .inr (by omega)))
  replace hB_l := hB_l.grown hs (by intro hk; injection hk with hk; have := hB_l.lt; have := hB_r.lt; omega)
  clear hs Fw1
  clear hc_l; have hc_l := hB_l.cell
  have hc_r := hB_r.cell
  repeat (first|(with_reducible first|apply Xa|apply Xb|apply Xc|apply Xd)|((with_reducible apply Xk);(focus rfl);(focus (simp [go_sem,effAt,↓IntWalk.iteOmega, *];(try go_ints);with_reducible first|exact Xm|exact Xn));focus (simp only [Xo,Xp,Xq,Xr,Xs];rfl))|((with_reducible apply Xl);(focus rfl);focus (simp only [Xo,Xp,Xq,Xr,Xs];rfl))|(with_reducible first|apply Xe|apply Xf|apply Xg|apply Xh)|((with_reducible apply Xi);focus first|rfl|(simp [go_sem, *];done))|((with_reducible apply Xj);focus first|rfl|(simp [go_sem, *];done))|(simp only [Exit.then,Exit.inBlock,↓reduceIte,Nat.reduceEqDiff]))
  refine bodyPost_ret (v := (actV 0 false false 0 0)) (by simp [results, Try.results36, go_sem, *]) rfl ⟨rfl, hB_l, Turn.to_grown (by assumption)⟩
theorem closing_dueM (g : Nat) (s : Int) (ls : Bool) (tr mo : Int) (w : World) (hB_l : LB w g s ls tr mo) (h : tr < mo) (hb : 0 ≤ tr ∧ mo ≤ 255) :
    Calls Try.prog 37 #[.pointer (some ⟨g, 0, none⟩), .iface 68 (.agg #[])] w (Ret (actV 4 true true 1 0) fun w' => LB w' g s ls (tr + 1) mo ∧ w.grownBy w' (some g)) := by
  have ha_due := as_68_68 (.agg #[])
  have ha_resp := as_68_67 (.agg #[])
  have ha_cmd := as_68_75 (.agg #[])
  have hG := fun w h' => again_more g s ls tr mo 4 w h' h hb
  unfold LB at *
  go_enter Try.func37, Try.ntmps37
  have F0 : Turn (fun i => i = g ∨ w.heap.size ≤ i) w w := Turn.refl _
  have hc_l := hB_l.cell
  repeat (first|(with_reducible first|apply Xa|apply Xb|apply Xc|apply Xd)|((with_reducible apply Xk);(focus rfl);(focus (simp [go_sem,effAt,↓IntWalk.iteOmega, *];(try go_ints);with_reducible first|exact Xm|exact Xn));focus (simp only [Xo,Xp,Xq,Xr,Xs];rfl))|((with_reducible apply Xl);(focus rfl);focus (simp only [Xo,Xp,Xq,Xr,Xs];rfl))|(with_reducible first|apply Xe|apply Xf|apply Xg|apply Xh)|((with_reducible apply Xi);focus first|rfl|(simp [go_sem, *];done))|((with_reducible apply Xj);focus first|rfl|(simp [go_sem, *];done))|(simp only [Exit.then,Exit.inBlock,↓reduceIte,Nat.reduceEqDiff]))
  have lt_l_r := hB_l.lt
  have le_r := F0.size
  ((with_reducible apply Xu); (focus rfl); (focus (simp [go_sem, effAt]; exact ⟨rfl, rfl⟩)); (focus ((simp only [Xo,Xp,Xq,Xr,Xs];rfl))))
  intro w1 hB_r hs
  have Fw1 := F0.trans (Turn.of_below hs)
  replace hB_l := hB_l.below hs hB_l.lt
  clear hs F0
  clear hc_l; have hc_l := hB_l.cell
  have hc_r := hB_r.cell
  repeat (first|(with_reducible first|apply Xa|apply Xb|apply Xc|apply Xd)|((with_reducible apply Xk);(focus rfl);(focus (simp [go_sem,effAt,↓IntWalk.iteOmega, *];(try go_ints);with_reducible first|exact Xm|exact Xn));focus (simp only [Xo,Xp,Xq,Xr,Xs];rfl))|((with_reducible apply Xl);(focus rfl);focus (simp only [Xo,Xp,Xq,Xr,Xs];rfl))|(with_reducible first|apply Xe|apply Xf|apply Xg|apply Xh)|((with_reducible apply Xi);focus first|rfl|(simp [go_sem, *];done))|((with_reducible apply Xj);focus first|rfl|(simp [go_sem, *];done))|(simp only [Exit.then,Exit.inBlock,↓reduceIte,Nat.reduceEqDiff]))
  have lt_l_e := hB_l.lt
  have lt_r_e := hB_r.lt
  have le_e := Fw1.size
  ((with_reducible apply Xu); (focus rfl); (focus (simp [go_sem, effAt]; exact ⟨rfl, rfl⟩)); (focus ((simp only [Xo,Xp,Xq,Xr,Xs];rfl))))
  intro w2 hB_e hs
  have Fw2 := Fw1.trans (Turn.of_below hs)
  replace hB_l := hB_l.below hs hB_l.lt
  replace hB_r := hB_r.below hs hB_r.lt
  clear hs Fw1
  clear hc_l; have hc_l := hB_l.cell
  clear hc_r; have hc_r := hB_r.cell
  have hc_e := hB_e.cell
  repeat (first|(with_reducible first|apply Xa|apply Xb|apply Xc|apply Xd)|((with_reducible apply Xk);(focus rfl);(focus (simp [go_sem,effAt,↓IntWalk.iteOmega, *];(try go_ints);with_reducible first|exact Xm|exact Xn));focus (simp only [Xo,Xp,Xq,Xr,Xs];rfl))|((with_reducible apply Xl);(focus rfl);focus (simp only [Xo,Xp,Xq,Xr,Xs];rfl))|(with_reducible first|apply Xe|apply Xf|apply Xg|apply Xh)|((with_reducible apply Xi);focus first|rfl|(simp [go_sem, *];done))|((with_reducible apply Xj);focus first|rfl|(simp [go_sem, *];done))|(simp only [Exit.then,Exit.inBlock,↓reduceIte,Nat.reduceEqDiff]))
  ((with_reducible apply Xt (fun w' => Blk w' _ _ _ ∧ w2.grownBy w' (some _))); (focus rfl); (focus (simp only [effAt]; simp [go_sem]; (with_reducible exact effUpon_enter (hG _ hB_l)))); (focus ((simp only [Xo,Xp,Xq,Xr,Xs];rfl))))
  clear hc_l hB_l
  intro w3 hs
  obtain ⟨hB_l, hs⟩ := hs
  have Fw3 := Fw2.trans (Turn.of_grown hs (by first | exact .inl rfl | exact .inr (by omega)))
  replace hB_r := hB_r.grown hs (by intro hk; injection hk with hk; have := hB_r.lt; have := hB_l.lt; omega)
  replace hB_e := hB_e.grown hs (by intro hk; injection hk with hk; have := hB_e.lt; have := hB_l.lt; omega)
  clear hs Fw2
  clear hc_r; have hc_r := hB_r.cell
  clear hc_e; have hc_e := hB_e.cell
  have hc_l := hB_l.cell
  repeat (first|(with_reducible first|apply Xa|apply Xb|apply Xc|apply Xd)|((with_reducible apply Xk);(focus rfl);(focus (simp [go_sem,effAt,↓IntWalk.iteOmega, *];(try go_ints);with_reducible first|exact Xm|exact Xn));focus (simp only [Xo,Xp,Xq,Xr,Xs];rfl))|((with_reducible apply Xl);(focus rfl);focus (simp only [Xo,Xp,Xq,Xr,Xs];rfl))|(with_reducible first|apply Xe|apply Xf|apply Xg|apply Xh)|((with_reducible apply Xi);focus first|rfl|(simp [go_sem, *];done))|((with_reducible apply Xj);focus first|rfl|(simp [go_sem, *];done))|(simp only [Exit.then,Exit.inBlock,↓reduceIte,Nat.reduceEqDiff]))
  have hf_r := hB_r.frozen
  ((with_reducible apply Xt (fun w' => Blk w' _ _ _ ∧ w3.grownBy w' (some _))); (focus rfl); (focus (simp [go_sem, effAt, *]; exact ⟨rfl, (((((hB_r.set_ 0 _).set_ 1 _).set_ 2 _).set_ 3 _).set_ 4 _), (grown_set (grown_set (grown_set (grown_set (grown_set (World.grownBy.refl _ _))))))⟩)); (focus ((simp only [Xo,Xp,Xq,Xr,Xs];rfl))))
  clear hf_r hc_r hB_r
  intro w4 hs
  obtain ⟨hB_r, hs⟩ := hs
  simp only [Xq,Xr,Xs] at hB_r
  have Fw4 := Fw3.trans (Turn.of_grown hs (by first | exact .inl rfl | exact .inr (by omega)))
  replace hB_l := hB_l.grown hs (by intro hk; injection hk with hk; have := hB_l.lt; have := hB_r.lt; omega)
  replace hB_e := hB_e.grown hs (by intro hk; injection hk with hk; have := hB_e.lt; have := hB_r.lt; omega)
  clear hs Fw3
  clear hc_l; have hc_l := hB_l.cell
  clear hc_e; have hc_e := hB_e.cell
  have hc_r := hB_r.cell
  repeat (first|(with_reducible first|apply Xa|apply Xb|apply Xc|apply Xd)|((with_reducible apply Xk);(focus rfl);(focus (simp [go_sem,effAt,↓IntWalk.iteOmega, *];(try go_ints);with_reducible first|exact Xm|exact Xn));focus (simp only [Xo,Xp,Xq,Xr,Xs];rfl))|((with_reducible apply Xl);(focus rfl);focus (simp only [Xo,Xp,Xq,Xr,Xs];rfl))|(with_reducible first|apply Xe|apply Xf|apply Xg|apply Xh)|((with_reducible apply Xi);focus first|rfl|(simp [go_sem, *];done))|((with_reducible apply Xj);focus first|rfl|(simp [go_sem, *];done))|(simp only [Exit.then,Exit.inBlock,↓reduceIte,Nat.reduceEqDiff]))
  refine bodyPost_ret (v := (actV 4 true true 1 0)) (by simp [results, Try.results37, go_sem, *]) rfl ⟨rfl, hB_l, Turn.to_grown (by assumption)⟩
theorem closing_dueE (g : Nat) (s : Int) (ls : Bool) (tr mo : Int) (w : World) (hB_l : LB w g s ls tr mo) (h : ¬ tr < mo) :
    Calls Try.prog 37 #[.pointer (some ⟨g, 0, none⟩), .iface 68 (.agg #[])] w (Ret (actV 0 false false 2 6) fun w' => LB w' g 5 ls tr mo ∧ w.grownBy w' (some g)) := by
  have ha_due := as_68_68 (.agg #[])
  have ha_resp := as_68_67 (.agg #[])
  have ha_cmd := as_68_75 (.agg #[])
  have hG := fun w h' => again_end g s ls tr mo 4 w h' h
  unfold LB at *
  go_enter Try.func37, Try.ntmps37
  have F0 : Turn (fun i => i = g ∨ w.heap.size ≤ i) w w := Turn.refl _
  have hc_l := hB_l.cell
  repeat (first|(with_reducible first|apply Xa|apply Xb|apply Xc|apply Xd)|((with_reducible apply Xk);(focus rfl);(focus (simp [go_sem,effAt,↓IntWalk.iteOmega, *];(try go_ints);with_reducible first|exact Xm|exact Xn));focus (simp only [Xo,Xp,Xq,Xr,Xs];rfl))|((with_reducible apply Xl);(focus rfl);focus (simp only [Xo,Xp,Xq,Xr,Xs];rfl))|(with_reducible first|apply Xe|apply Xf|apply Xg|apply Xh)|((with_reducible apply Xi);focus first|rfl|(simp [go_sem, *];done))|((with_reducible apply Xj);focus first|rfl|(simp [go_sem, *];done))|(simp only [Exit.then,Exit.inBlock,↓reduceIte,Nat.reduceEqDiff]))
  have lt_l_r := hB_l.lt
  have le_r := F0.size
  ((with_reducible apply Xu); (focus rfl); (focus (simp [go_sem, effAt]; exact ⟨rfl, rfl⟩)); (focus ((simp only [Xo,Xp,Xq,Xr,Xs];rfl))))
  intro w1 hB_r hs
  have Fw1 := F0.trans (Turn.of_below hs)
  replace hB_l := hB_l.below hs hB_l.lt
  clear hs F0
  clear hc_l; have hc_l := hB_l.cell
  have hc_r := hB_r.cell
  repeat (first|(with_reducible first|apply Xa|apply Xb|apply Xc|apply Xd)|((with_reducible apply Xk);(focus rfl);(focus (simp [go_sem,effAt,↓IntWalk.iteOmega, *];(try go_ints);with_reducible first|exact Xm|exact Xn));focus (simp only [Xo,Xp,Xq,Xr,Xs];rfl))|((with_reducible apply Xl);(focus rfl);focus (simp only [Xo,Xp,Xq,Xr,Xs];rfl))|(with_reducible first|apply Xe|apply Xf|apply Xg|apply Xh)|((with_reducible apply Xi);focus first|rfl|(simp [go_sem, *];done))|((with_reducible apply Xj);focus first|rfl|(simp [go_sem, *];done))|(simp only [Exit.then,Exit.inBlock,↓reduceIte,Nat.reduceEqDiff]))
  have lt_l_e := hB_l.lt
  have lt_r_e := hB_r.lt
  have le_e := Fw1.size
  ((with_reducible apply Xu); (focus rfl); (focus (simp [go_sem, effAt]; exact ⟨rfl, rfl⟩)); (focus ((simp only [Xo,Xp,Xq,Xr,Xs];rfl))))
  intro w2 hB_e hs
  have Fw2 := Fw1.trans (Turn.of_below hs)
  replace hB_l := hB_l.below hs hB_l.lt
  replace hB_r := hB_r.below hs hB_r.lt
  clear hs Fw1
  clear hc_l; have hc_l := hB_l.cell
  clear hc_r; have hc_r := hB_r.cell
  have hc_e := hB_e.cell
  repeat (first|(with_reducible first|apply Xa|apply Xb|apply Xc|apply Xd)|((with_reducible apply Xk);(focus rfl);(focus (simp [go_sem,effAt,↓IntWalk.iteOmega, *];(try go_ints);with_reducible first|exact Xm|exact Xn));focus (simp only [Xo,Xp,Xq,Xr,Xs];rfl))|((with_reducible apply Xl);(focus rfl);focus (simp only [Xo,Xp,Xq,Xr,Xs];rfl))|(with_reducible first|apply Xe|apply Xf|apply Xg|apply Xh)|((with_reducible apply Xi);focus first|rfl|(simp [go_sem, *];done))|((with_reducible apply Xj);focus first|rfl|(simp [go_sem, *];done))|(simp only [Exit.then,Exit.inBlock,↓reduceIte,Nat.reduceEqDiff]))
  ((with_reducible apply Xt (fun w' => Blk w' _ _ _ ∧ w2.grownBy w' (some _))); (focus rfl); (focus (simp only [effAt]; simp [go_sem]; (with_reducible exact effUpon_enter (hG _ hB_l)))); (focus ((simp only [Xo,Xp,Xq,Xr,Xs];rfl))))
  clear hc_l hB_l
  intro w3 hs
  obtain ⟨hB_l, hs⟩ := hs
  have Fw3 := Fw2.trans (Turn.of_grown hs (by first | exact .inl rfl | exact .inr (by omega)))
  replace hB_r := hB_r.grown hs (by intro hk; injection hk with hk; have := hB_r.lt; have := hB_l.lt; omega)
  replace hB_e := hB_e.grown hs (by intro hk; injection hk with hk; have := hB_e.lt; have := hB_l.lt; omega)
  clear hs Fw2
  clear hc_r; have hc_r := hB_r.cell
  clear hc_e; have hc_e := hB_e.cell
  have hc_l := hB_l.cell
  repeat (first|(with_reducible first|apply Xa|apply Xb|apply Xc|apply Xd)|((with_reducible apply Xk);(focus rfl);(focus (simp [go_sem,effAt,↓IntWalk.iteOmega, *];(try go_ints);with_reducible first|exact Xm|exact Xn));focus (simp only [Xo,Xp,Xq,Xr,Xs];rfl))|((with_reducible apply Xl);(focus rfl);focus (simp only [Xo,Xp,Xq,Xr,Xs];rfl))|(with_reducible first|apply Xe|apply Xf|apply Xg|apply Xh)|((with_reducible apply Xi);focus first|rfl|(simp [go_sem, *];done))|((with_reducible apply Xj);focus first|rfl|(simp [go_sem, *];done))|(simp only [Exit.then,Exit.inBlock,↓reduceIte,Nat.reduceEqDiff]))
  have hf_r := hB_r.frozen
  ((with_reducible apply Xt (fun w' => Blk w' _ _ _ ∧ w3.grownBy w' (some _))); (focus rfl); (focus (simp [go_sem, effAt, *]; exact ⟨rfl, (((((hB_r.set_ 0 _).set_ 1 _).set_ 2 _).set_ 3 _).set_ 4 _), (grown_set (grown_set (grown_set (grown_set (grown_set (World.grownBy.refl _ _))))))⟩)); (focus ((simp only [Xo,Xp,Xq,Xr,Xs];rfl))))
  clear hf_r hc_r hB_r
  intro w4 hs
  obtain ⟨hB_r, hs⟩ := hs
  simp only [Xq,Xr,Xs] at hB_r
  have Fw4 := Fw3.trans (Turn.of_grown hs (by first | exact .inl rfl | exact .inr (by omega)))
  replace hB_l := hB_l.grown hs (by intro hk; injection hk with hk; have := hB_l.lt; have := hB_r.lt; omega)
  replace hB_e := hB_e.grown hs (by intro hk; injection hk with hk; have := hB_e.lt; have := hB_r.lt; omega)
  clear hs Fw3
  clear hc_l; have hc_l := hB_l.cell
  clear hc_e; have hc_e := hB_e.cell
  have hc_r := hB_r.cell
  repeat (first|(with_reducible first|apply Xa|apply Xb|apply Xc|apply Xd)|((with_reducible apply Xk);(focus rfl);(focus (simp [go_sem,effAt,↓IntWalk.iteOmega, *];(try go_ints);with_reducible first|exact Xm|exact Xn));focus (simp only [Xo,Xp,Xq,Xr,Xs];rfl))|((with_reducible apply Xl);(focus rfl);focus (simp only [Xo,Xp,Xq,Xr,Xs];rfl))|(with_reducible first|apply Xe|apply Xf|apply Xg|apply Xh)|((with_reducible apply Xi);focus first|rfl|(simp [go_sem, *];done))|((with_reducible apply Xj);focus first|rfl|(simp [go_sem, *];done))|(simp only [Exit.then,Exit.inBlock,↓reduceIte,Nat.reduceEqDiff]))
  refine bodyPost_ret (v := (actV 0 false false 2 6)) (by simp [results, Try.results37, go_sem, *]) rfl ⟨rfl, hB_l, Turn.to_grown (by assumption)⟩
theorem closing_resp (g : Nat) (s : Int) (ls : Bool) (tr mo : Int) (k : Int) (w : World) (hB_l : LB w g s ls tr mo) :
    Calls Try.prog 37 #[.pointer (some ⟨g, 0, none⟩), .iface 67 (.agg #[.int .u8 k])] w (Ret (actV 0 false false 2 5) fun w' => LB w' g 1 ls tr mo ∧ w.grownBy w' (some g)) := by
  have ha_due := as_67_68 (.agg #[.int .u8 k])
  have ha_resp := as_67_67 (.agg #[.int .u8 k])
  have ha_cmd := as_67_75 (.agg #[.int .u8 k])
  have hG := fun w h => goes_any g s 1 ls tr mo 0 false false 2 0 5 w h
  unfold LB at *
  go_enter Try.func37, Try.ntmps37
  have F0 : Turn (fun i => i = g ∨ w.heap.size ≤ i) w w := Turn.refl _
  have hc_l := hB_l.cell
  repeat (first|(with_reducible first|apply Xa|apply Xb|apply Xc|apply Xd)|((with_reducible apply Xk);(focus rfl);(focus (simp [go_sem,effAt,↓IntWalk.iteOmega, *];(try go_ints);with_reducible first|exact Xm|exact Xn));focus (simp only [Xo,Xp,Xq,Xr,Xs];rfl))|((with_reducible apply Xl);(focus rfl);focus (simp only [Xo,Xp,Xq,Xr,Xs];rfl))|(with_reducible first|apply Xe|apply Xf|apply Xg|apply Xh)|((with_reducible apply Xi);focus first|rfl|(simp [go_sem, *];done))|((with_reducible apply Xj);focus first|rfl|(simp [go_sem, *];done))|(simp only [Exit.then,Exit.inBlock,↓reduceIte,Nat.reduceEqDiff]))
  have lt_l_r := hB_l.lt
  have le_r := F0.size
  ((with_reducible apply Xu); (focus rfl); (focus (simp [go_sem, effAt]; exact ⟨rfl, rfl⟩)); (focus ((simp only [Xo,Xp,Xq,Xr,Xs];rfl))))
  intro w1 hB_r hs
  have Fw1 := F0.trans (Turn.of_below hs)
  replace hB_l := hB_l.below hs hB_l.lt
  clear hs F0
  clear hc_l; have hc_l := hB_l.cell
  have hc_r := hB_r.cell
  repeat (first|(with_reducible first|apply Xa|apply Xb|apply Xc|apply Xd)|((with_reducible apply Xk);(focus rfl);(focus (simp [go_sem,effAt,↓IntWalk.iteOmega, *];(try go_ints);with_reducible first|exact Xm|exact Xn));focus (simp only [Xo,Xp,Xq,Xr,Xs];rfl))|((with_reducible apply Xl);(focus rfl);focus (simp only [Xo,Xp,Xq,Xr,Xs];rfl))|(with_reducible first|apply Xe|apply Xf|apply Xg|apply Xh)|((with_reducible apply Xi);focus first|rfl|(simp [go_sem, *];done))|((with_reducible apply Xj);focus first|rfl|(simp [go_sem, *];done))|(simp only [Exit.then,Exit.inBlock,↓reduceIte,Nat.reduceEqDiff]))
  have lt_l_e := hB_l.lt
  have lt_r_e := hB_r.lt
  have le_e := Fw1.size
  ((with_reducible apply Xu); (focus rfl); (focus (simp [go_sem, effAt]; exact ⟨rfl, rfl⟩)); (focus ((simp only [Xo,Xp,Xq,Xr,Xs];rfl))))
  intro w2 hB_e hs
  have Fw2 := Fw1.trans (Turn.of_below hs)
  replace hB_l := hB_l.below hs hB_l.lt
  replace hB_r := hB_r.below hs hB_r.lt
  clear hs Fw1
  clear hc_l; have hc_l := hB_l.cell
  clear hc_r; have hc_r := hB_r.cell
  have hc_e := hB_e.cell
  repeat (first|(with_reducible first|apply Xa|apply Xb|apply Xc|apply Xd)|((with_reducible apply Xk);(focus rfl);(focus (simp [go_sem,effAt,↓IntWalk.iteOmega, *];(try go_ints);with_reducible first|exact Xm|exact Xn));focus (simp only [Xo,Xp,Xq,Xr,Xs];rfl))|((with_reducible apply Xl);(focus rfl);focus (simp only [Xo,Xp,Xq,Xr,Xs];rfl))|(with_reducible first|apply Xe|apply Xf|apply Xg|apply Xh)|((with_reducible apply Xi);focus first|rfl|(simp [go_sem, *];done))|((with_reducible apply Xj);focus first|rfl|(simp [go_sem, *];done))|(simp only [Exit.then,Exit.inBlock,↓reduceIte,Nat.reduceEqDiff]))
  have hf_e := hB_e.frozen
  ((with_reducible apply Xt (fun w' => Blk w' _ _ _ ∧ w2.grownBy w' (some _))); (focus rfl); (focus (simp [go_sem, effAt, *]; exact ⟨rfl, (hB_e.set_ 0 _), (grown_set (World.grownBy.refl _ _))⟩)); (focus ((simp only [Xo,Xp,Xq,Xr,Xs];rfl))))
  clear hf_e hc_e hB_e
  intro w3 hs
  obtain ⟨hB_e, hs⟩ := hs
  simp only [Xq,Xr,Xs] at hB_e
  have Fw3 := Fw2.trans (Turn.of_grown hs (by first | exact .inl rfl | exact .inr (by omega)))
  replace hB_l := hB_l.grown hs (by intro hk; injection hk with hk; have := hB_l.lt; have := hB_e.lt; omega)
  replace hB_r := hB_r.grown hs (by intro hk; injection hk with hk; have := hB_r.lt; have := hB_e.lt; omega)
  clear hs Fw2
  clear hc_l; have hc_l := hB_l.cell
  clear hc_r; have hc_r := hB_r.cell
  have hc_e := hB_e.cell
  repeat (first|(with_reducible first|apply Xa|apply Xb|apply Xc|apply Xd)|((with_reducible apply Xk);(focus rfl);(focus (simp [go_sem,effAt,↓IntWalk.iteOmega, *];(try go_ints);with_reducible first|exact Xm|exact Xn));focus (simp only [Xo,Xp,Xq,Xr,Xs];rfl))|((with_reducible apply Xl);(focus rfl);focus (simp only [Xo,Xp,Xq,Xr,Xs];rfl))|(with_reducible first|apply Xe|apply Xf|apply Xg|apply Xh)|((with_reducible apply Xi);focus first|rfl|(simp [go_sem, *];done))|((with_reducible apply Xj);focus first|rfl|(simp [go_sem, *];done))|(simp only [Exit.then,Exit.inBlock,↓reduceIte,Nat.reduceEqDiff]))
  ((with_reducible apply Xt (fun w' => Blk w' _ _ _ ∧ w3.grownBy w' (some _))); (focus rfl); (focus (simp only [effAt]; simp [go_sem]; (with_reducible exact effUpon_enter (hG _ hB_l)))); (focus ((simp only [Xo,Xp,Xq,Xr,Xs];rfl))))
  clear hc_l hB_l
  intro w4 hs
  obtain ⟨hB_l, hs⟩ := hs
  have Fw4 := Fw3.trans (Turn.of_grown hs (by first | exact .inl rfl | exact .inr (by omega)))
  replace hB_r := hB_r.grown hs (by intro hk; injection hk with hk; have := hB_r.lt; have := hB_l.lt; omega)
  replace hB_e := hB_e.grown hs (by intro hk; injection hk with hk; have := hB_e.lt; have := hB_l.lt; omega)
  clear hs Fw3
  clear hc_r; have hc_r := hB_r.cell
  clear hc_e; have hc_e := hB_e.cell
  have hc_l := hB_l.cell
  repeat (first|(with_reducible first|apply Xa|apply Xb|apply Xc|apply Xd)|((with_reducible apply Xk);(focus rfl);(focus (simp [go_sem,effAt,↓IntWalk.iteOmega, *];(try go_ints);with_reducible first|exact Xm|exact Xn));focus (simp only [Xo,Xp,Xq,Xr,Xs];rfl))|((with_reducible apply Xl);(focus rfl);focus (simp only [Xo,Xp,Xq,Xr,Xs];rfl))|(with_reducible first|apply Xe|apply Xf|apply Xg|apply Xh)|((with_reducible apply Xi);focus first|rfl|(simp [go_sem, *];done))|((with_reducible apply Xj);focus first|rfl|(simp [go_sem, *];done))|(simp only [Exit.then,Exit.inBlock,↓reduceIte,Nat.reduceEqDiff]))
  have hf_r := hB_r.frozen
  ((with_reducible apply Xt (fun w' => Blk w' _ _ _ ∧ w4.grownBy w' (some _))); (focus rfl); (focus (simp [go_sem, effAt, *]; exact ⟨rfl, (((((hB_r.set_ 0 _).set_ 1 _).set_ 2 _).set_ 3 _).set_ 4 _), (grown_set (grown_set (grown_set (grown_set (grown_set (World.grownBy.refl _ _))))))⟩)); (focus ((simp only [Xo,Xp,Xq,Xr,Xs];rfl))))
  clear hf_r hc_r hB_r
  intro w5 hs
  obtain ⟨hB_r, hs⟩ := hs
  simp only [Xq,Xr,Xs] at hB_r
  have Fw5 := Fw4.trans (Turn.of_grown hs (by first | exact .inl rfl | exact .inr (by omega)))
  replace hB_l := hB_l.grown hs (by intro hk; injection hk with hk; have := hB_l.lt; have := hB_r.lt; omega)
  replace hB_e := hB_e.grown hs (by intro hk; injection hk with hk; have := hB_e.lt; have := hB_r.lt; omega)
  clear hs Fw4
  clear hc_l; have hc_l := hB_l.cell
  clear hc_e; have hc_e := hB_e.cell
  have hc_r := hB_r.cell
  repeat (first|(with_reducible first|apply Xa|apply Xb|apply Xc|apply Xd)|((with_reducible apply Xk);(focus rfl);(focus (simp [go_sem,effAt,↓IntWalk.iteOmega, *];(try go_ints);with_reducible first|exact Xm|exact Xn));focus (simp only [Xo,Xp,Xq,Xr,Xs];rfl))|((with_reducible apply Xl);(focus rfl);focus (simp only [Xo,Xp,Xq,Xr,Xs];rfl))|(with_reducible first|apply Xe|apply Xf|apply Xg|apply Xh)|((with_reducible apply Xi);focus first|rfl|(simp [go_sem, *];done))|((with_reducible apply Xj);focus first|rfl|(simp [go_sem, *];done))|(simp only [Exit.then,Exit.inBlock,↓reduceIte,Nat.reduceEqDiff]))
  refine bodyPost_ret (v := (actV 0 false false 2 5)) (by simp [results, Try.results37, go_sem, *]) rfl ⟨rfl, hB_l, Turn.to_grown (by assumption)⟩
theorem closing_cmd1 (g : Nat) (s : Int) (ls : Bool) (tr mo : Int) (a : Int) (w : World) (hB_l : LB w g s ls tr mo) :
    Calls Try.prog 37 #[.pointer (some ⟨g, 0, none⟩), .iface 75 (.agg #[.int .u8 1, .int .u8 a])] w (Ret (actV 3 false false 0 0) fun w' => LB w' g s ls tr mo ∧ w.grownBy w' (some g)) := by
  have ha_due := as_75_68 (.agg #[.int .u8 1, .int .u8 a])
  have ha_resp := as_75_67 (.agg #[.int .u8 1, .int .u8 a])
  have ha_cmd := as_75_75 (.agg #[.int .u8 1, .int .u8 a])
  unfold LB at *
  go_enter Try.func37, Try.ntmps37
  have F0 : Turn (fun i => i = g ∨ w.heap.size ≤ i) w w := Turn.refl _
  have hc_l := hB_l.cell
  repeat (first|(with_reducible first|apply Xa|apply Xb|apply Xc|apply Xd)|((with_reducible apply Xk);(focus rfl);(focus (simp [go_sem,effAt,↓IntWalk.iteOmega, *];(try go_ints);with_reducible first|exact Xm|exact Xn));focus (simp only [Xo,Xp,Xq,Xr,Xs];rfl))|((with_reducible apply Xl);(focus rfl);focus (simp only [Xo,Xp,Xq,Xr,Xs];rfl))|(with_reducible first|apply Xe|apply Xf|apply Xg|apply Xh)|((with_reducible apply Xi);focus first|rfl|(simp [go_sem, *];done))|((with_reducible apply Xj);focus first|rfl|(simp [go_sem, *];done))|(simp only [Exit.then,Exit.inBlock,↓reduceIte,Nat.reduceEqDiff]))
  have lt_l_r := hB_l.lt
  have le_r := F0.size
  ((with_reducible apply Xu); (focus rfl); (focus (simp [go_sem, effAt]; exact ⟨rfl, rfl⟩)); (focus ((simp only [Xo,Xp,Xq,Xr,Xs];rfl))))
  intro w1 hB_r hs
  have Fw1 := F0.trans (Turn.of_below hs)
  replace hB_l := hB_l.below hs hB_l.lt
  clear hs F0
  clear hc_l; have hc_l := hB_l.cell
  have hc_r := hB_r.cell
  repeat (first|(with_reducible first|apply Xa|apply Xb|apply Xc|apply Xd)|((with_reducible apply Xk);(focus rfl);(focus (simp [go_sem,effAt,↓IntWalk.iteOmega, *];(try go_ints);with_reducible first|exact Xm|exact Xn));focus (simp only [Xo,Xp,Xq,Xr,Xs];rfl))|((with_reducible apply Xl);(focus rfl);focus (simp only [Xo,Xp,Xq,Xr,Xs];rfl))|(with_reducible first|apply Xe|apply Xf|apply Xg|apply Xh)|((with_reducible apply Xi);focus first|rfl|(simp [go_sem, *];done))|((with_reducible apply Xj);focus first|rfl|(simp [go_sem, *];done))|(simp only [Exit.then,Exit.inBlock,↓reduceIte,Nat.reduceEqDiff]))
  have lt_l_e := hB_l.lt
  have lt_r_e := hB_r.lt
  have le_e := Fw1.size
  ((with_reducible apply Xu); (focus rfl); (focus (simp [go_sem, effAt]; exact ⟨rfl, rfl⟩)); (focus ((simp only [Xo,Xp,Xq,Xr,Xs];rfl))))
  intro w2 hB_e hs
  have Fw2 := Fw1.trans (Turn.of_below hs)
  replace hB_l := hB_l.below hs hB_l.lt
  replace hB_r := hB_r.below hs hB_r.lt
  clear hs Fw1
  clear hc_l; have hc_l := hB_l.cell
  clear hc_r; have hc_r := hB_r.cell
  have hc_e := hB_e.cell
  repeat (first|(with_reducible first|apply Xa|apply Xb|apply Xc|apply Xd)|((with_reducible apply Xk);(focus rfl);(focus (simp [go_sem,effAt,↓IntWalk.iteOmega, *];(try go_ints);with_reducible first|exact Xm|exact Xn));focus (simp only [Xo,Xp,Xq,Xr,Xs];rfl))|((with_reducible apply Xl);(focus rfl);focus (simp only [Xo,Xp,Xq,Xr,Xs];rfl))|(with_reducible first|apply Xe|apply Xf|apply Xg|apply Xh)|((with_reducible apply Xi);focus first|rfl|(simp [go_sem, *];done))|((with_reducible apply Xj);focus first|rfl|(simp [go_sem, *];done))|(simp only [Exit.then,Exit.inBlock,↓reduceIte,Nat.reduceEqDiff]))
  have hf_e := hB_e.frozen
  ((with_reducible apply Xt (fun w' => Blk w' _ _ _ ∧ w2.grownBy w' (some _))); (focus rfl); (focus (simp [go_sem, effAt, *]; exact ⟨rfl, ((hB_e.set_ 0 _).set_ 1 _), (grown_set (grown_set (World.grownBy.refl _ _)))⟩)); (focus ((simp only [Xo,Xp,Xq,Xr,Xs];rfl))))
  clear hf_e hc_e hB_e
  intro w3 hs
  obtain ⟨hB_e, hs⟩ := hs
  simp only [Xq,Xr,Xs] at hB_e
  have Fw3 := Fw2.trans (Turn.of_grown hs (by first | exact .inl rfl | exact .inr (by omega)))
  replace hB_l := hB_l.grown hs (by intro hk; injection hk with hk; have := hB_l.lt; have := hB_e.lt; omega)
  replace hB_r := hB_r.grown hs (by intro hk; injection hk with hk; have := hB_r.lt; have := hB_e.lt; omega)
  clear hs Fw2
  clear hc_l; have hc_l := hB_l.cell
  clear hc_r; have hc_r := hB_r.cell
  have hc_e := hB_e.cell
  repeat (first|(with_reducible first|apply Xa|apply Xb|apply Xc|apply Xd)|((with_reducible apply Xk);(focus rfl);(focus (simp [go_sem,effAt,↓IntWalk.iteOmega, *];(try go_ints);with_reducible first|exact Xm|exact Xn));focus (simp only [Xo,Xp,Xq,Xr,Xs];rfl))|((with_reducible apply Xl);(focus rfl);focus (simp only [Xo,Xp,Xq,Xr,Xs];rfl))|(with_reducible first|apply Xe|apply Xf|apply Xg|apply Xh)|((with_reducible apply Xi);focus first|rfl|(simp [go_sem, *];done))|((with_reducible apply Xj);focus first|rfl|(simp [go_sem, *];done))|(simp only [Exit.then,Exit.inBlock,↓reduceIte,Nat.reduceEqDiff]))
  have hf_r := hB_r.frozen
  ((with_reducible apply Xt (fun w' => Blk w' _ _ _ ∧ w3.grownBy w' (some _))); (focus rfl); (focus (simp [go_sem, effAt, *]; exact ⟨rfl, (((((hB_r.set_ 0 _).set_ 1 _).set_ 2 _).set_ 3 _).set_ 4 _), (grown_set (grown_set (grown_set (grown_set (grown_set (World.grownBy.refl _ _))))))⟩)); (focus ((simp only [Xo,Xp,Xq,Xr,Xs];rfl))))
  clear hf_r hc_r hB_r
  intro w4 hs
  obtain ⟨hB_r, hs⟩ := hs
  simp only [Xq,Xr,Xs] at hB_r
  have Fw4 := Fw3.trans (Turn.of_grown hs (by first | exact .inl rfl | exact .inr (by omega)))
  replace hB_l := hB_l.grown hs (by intro hk; injection hk with hk; have := hB_l.lt; have := hB_r.lt; omega)
  replace hB_e := hB_e.grown hs (by intro hk; injection hk with hk; have := hB_e.lt; have := hB_r.lt; omega)
  clear hs Fw3
  clear hc_l; have hc_l := hB_l.cell
  clear hc_e; have hc_e := hB_e.cell
  have hc_r := hB_r.cell
  repeat (first|(with_reducible first|apply Xa|apply Xb|apply Xc|apply Xd)|((with_reducible apply Xk);(focus rfl);(focus (simp [go_sem,effAt,↓IntWalk.iteOmega, *];(try go_ints);with_reducible first|exact Xm|exact Xn));focus (simp only [Xo,Xp,Xq,Xr,Xs];rfl))|((with_reducible apply Xl);(focus rfl);focus (simp only [Xo,Xp,Xq,Xr,Xs];rfl))|(with_reducible first|apply Xe|apply Xf|apply Xg|apply Xh)|((with_reducible apply Xi);focus first|rfl|(simp [go_sem, *];done))|((with_reducible apply Xj);focus first|rfl|(simp [go_sem, *];done))|(simp only [Exit.then,Exit.inBlock,↓reduceIte,Nat.reduceEqDiff]))
  refine bodyPost_ret (v := (actV 3 false false 0 0)) (by simp [results, Try.results37, go_sem, *]) rfl ⟨rfl, hB_l, Turn.to_grown (by assumption)⟩
theorem closing_cmd4 (g : Nat) (s : Int) (ls : Bool) (tr mo : Int) (a : Int) (w : World) (hB_l : LB w g s ls tr mo) :
    Calls Try.prog 37 #[.pointer (some ⟨g, 0, none⟩), .iface 75 (.agg #[.int .u8 4, .int .u8 a])] w (Ret (actV 2 false false 0 0) fun w' => LB w' g s ls tr mo ∧ w.grownBy w' (some g)) := by
  have ha_due := as_75_68 (.agg #[.int .u8 4, .int .u8 a])
  have ha_resp := as_75_67 (.agg #[.int .u8 4, .int .u8 a])
  have ha_cmd := as_75_75 (.agg #[.int .u8 4, .int .u8 a])
  unfold LB at *
  go_enter Try.func37, Try.ntmps37
  have F0 : Turn (fun i => i = g ∨ w.heap.size ≤ i) w w := Turn.refl _
  have hc_l := hB_l.cell
  repeat (first|(with_reducible first|apply Xa|apply Xb|apply Xc|apply Xd)|((with_reducible apply Xk);(focus rfl);(focus (simp [go_sem,effAt,↓IntWalk.iteOmega, *];(try go_ints);with_reducible first|exact Xm|exact Xn));focus (simp only [Xo,Xp,Xq,Xr,Xs];rfl))|((with_reducible apply Xl);(focus rfl);focus (simp only [Xo,Xp,Xq,Xr,Xs];rfl))|(with_reducible first|apply Xe|apply Xf|apply Xg|apply Xh)|((with_reducible apply Xi);focus first|rfl|(simp [go_sem, *];done))|((with_reducible apply Xj);focus first|rfl|(simp [go_sem, *];done))|(simp only [Exit.then,Exit.inBlock,↓reduceIte,Nat.reduceEqDiff]))
  have lt_l_r := hB_l.lt
  have le_r := F0.size
  ((with_reducible apply Xu); (focus rfl); (focus (simp [go_sem, effAt]; exact ⟨rfl, rfl⟩)); (focus ((simp only [Xo,Xp,Xq,Xr,Xs];rfl))))
  intro w1 hB_r hs
  have Fw1 := F0.trans (Turn.of_below hs)
  replace hB_l := hB_l.below hs hB_l.lt
  clear hs F0
  clear hc_l; have hc_l := hB_l.cell
  have hc_r := hB_r.cell
  repeat (first|(with_reducible first|apply Xa|apply Xb|apply Xc|apply Xd)|((with_reducible apply Xk);(focus rfl);(focus (simp [go_sem,effAt,↓IntWalk.iteOmega, *];(try go_ints);with_reducible first|exact Xm|exact Xn));focus (simp only [Xo,Xp,Xq,Xr,Xs];rfl))|((with_reducible apply Xl);(focus rfl);focus (simp only [Xo,Xp,Xq,Xr,Xs];rfl))|(with_reducible first|apply Xe|apply Xf|apply Xg|apply Xh)|((with_reducible apply Xi);focus first|rfl|(simp [go_sem, *];done))|((with_reducible apply Xj);focus first|rfl|(simp [go_sem, *];done))|(simp only [Exit.then,Exit.inBlock,↓reduceIte,Nat.reduceEqDiff]))
  have lt_l_e := hB_l.lt
  have lt_r_e := hB_r.lt
  have le_e := Fw1.size
  ((with_reducible apply Xu); (focus rfl); (focus (simp [go_sem, effAt]; exact ⟨rfl, rfl⟩)); (focus ((simp only [Xo,Xp,Xq,Xr,Xs];rfl))))
  intro w2 hB_e hs
  have Fw2 := Fw1.trans (Turn.of_below hs)
  replace hB_l := hB_l.below hs hB_l.lt
  replace hB_r := hB_r.below hs hB_r.lt
  clear hs Fw1
  clear hc_l; have hc_l := hB_l.cell
  clear hc_r; have hc_r := hB_r.cell
  have hc_e := hB_e.cell
  repeat (first|(with_reducible first|apply Xa|apply Xb|apply Xc|apply Xd)|((with_reducible apply Xk);(focus rfl);(focus (simp [go_sem,effAt,↓IntWalk.iteOmega, *];(try go_ints);with_reducible first|exact Xm|exact Xn));focus (simp only [Xo,Xp,Xq,Xr,Xs];rfl))|((with_reducible apply Xl);(focus rfl);focus (simp only [Xo,Xp,Xq,Xr,Xs];rfl))|(with_reducible first|apply Xe|apply Xf|apply Xg|apply Xh)|((with_reducible apply Xi);focus first|rfl|(simp [go_sem, *];done))|((with_reducible apply Xj);focus first|rfl|(simp [go_sem, *];done))|(simp only [Exit.then,Exit.inBlock,↓reduceIte,Nat.reduceEqDiff]))
  have hf_e := hB_e.frozen
  ((with_reducible apply Xt (fun w' => Blk w' _ _ _ ∧ w2.grownBy w' (some _))); (focus rfl); (focus (simp [go_sem, effAt, *]; exact ⟨rfl, ((hB_e.set_ 0 _).set_ 1 _), (grown_set (grown_set (World.grownBy.refl _ _)))⟩)); (focus ((simp only [Xo,Xp,Xq,Xr,Xs];rfl))))
  clear hf_e hc_e hB_e
  intro w3 hs
  obtain ⟨hB_e, hs⟩ := hs
  simp only [Xq,Xr,Xs] at hB_e
  have Fw3 := Fw2.trans (Turn.of_grown hs (by first | exact .inl rfl | exact .inr (by omega)))
  replace hB_l := hB_l.grown hs (by intro hk; injection hk with hk; have := hB_l.lt; have := hB_e.lt; omega)
  replace hB_r := hB_r.grown hs (by intro hk; injection hk with hk; have := hB_r.lt; have := hB_e.lt; omega)
  clear hs Fw2
  clear hc_l; have hc_l := hB_l.cell
  clear hc_r; have hc_r := hB_r.cell
  have hc_e := hB_e.cell
  repeat (first|(with_reducible first|apply Xa|apply Xb|apply Xc|apply Xd)|((with_reducible apply Xk);(focus rfl);(focus (simp [go_sem,effAt,↓IntWalk.iteOmega, *];(try go_ints);with_reducible first|exact Xm|exact Xn));focus (simp only [Xo,Xp,Xq,Xr,Xs];rfl))|((with_reducible apply Xl);(focus rfl);focus (simp only [Xo,Xp,Xq,Xr,Xs];rfl))|(with_reducible first|apply Xe|apply Xf|apply Xg|apply Xh)|((with_reducible apply Xi);focus first|rfl|(simp [go_sem, *];done))|((with_reducible apply Xj);focus first|rfl|(simp [go_sem, *];done))|(simp only [Exit.then,Exit.inBlock,↓reduceIte,Nat.reduceEqDiff]))
  have hf_r := hB_r.frozen
  ((with_reducible apply Xt (fun w' => Blk w' _ _ _ ∧ w3.grownBy w' (some _))); (focus rfl); (focus (simp [go_sem, effAt, *]; exact ⟨rfl, (((((hB_r.set_ 0 _).set_ 1 _).set_ 2 _).set_ 3 _).set_ 4 _), (grown_set (grown_set (grown_set (grown_set (grown_set (World.grownBy.refl _ _))))))⟩)); (focus ((simp only [Xo,Xp,Xq,Xr,Xs];rfl))))
  clear hf_r hc_r hB_r
  intro w4 hs
  obtain ⟨hB_r, hs⟩ := hs
  simp only [Xq,Xr,Xs] at hB_r
  have Fw4 := Fw3.trans (Turn.of_grown hs (by first | exact .inl rfl | exact .inr (by omega)))
  replace hB_l := hB_l.grown hs (by intro hk; injection hk with hk; have := hB_l.lt; have := hB_r.lt; omega)
  replace hB_e := hB_e.grown hs (by intro hk; injection hk with hk; have := hB_e.lt; have := hB_r.lt; omega)
  clear hs Fw3
  clear hc_l; have hc_l := hB_l.cell
  clear hc_e; have hc_e := hB_e.cell
  have hc_r := hB_r.cell
  repeat (first|(with_reducible first|apply Xa|apply Xb|apply Xc|apply Xd)|((with_reducible apply Xk);(focus rfl);(focus (simp [go_sem,effAt,↓IntWalk.iteOmega, *];(try go_ints);with_reducible first|exact Xm|exact Xn));focus (simp only [Xo,Xp,Xq,Xr,Xs];rfl))|((with_reducible apply Xl);(focus rfl);focus (simp only [Xo,Xp,Xq,Xr,Xs];rfl))|(with_reducible first|apply Xe|apply Xf|apply Xg|apply Xh)|((with_reducible apply Xi);focus first|rfl|(simp [go_sem, *];done))|((with_reducible apply Xj);focus first|rfl|(simp [go_sem, *];done))|(simp only [Exit.then,Exit.inBlock,↓reduceIte,Nat.reduceEqDiff]))
  refine bodyPost_ret (v := (actV 2 false false 0 0)) (by simp [results, Try.results37, go_sem, *]) rfl ⟨rfl, hB_l, Turn.to_grown (by assumption)⟩
theorem closing_cmdo (g : Nat) (s : Int) (ls : Bool) (tr mo : Int) (k a : Int) (w : World) (hB_l : LB w g s ls tr mo) (h1 : ¬ k = 1) (h4 : ¬ k = 4) :
    Calls Try.prog 37 #[.pointer (some ⟨g, 0, none⟩), .iface 75 (.agg #[.int .u8 k, .int .u8 a])] w (Ret (actV 0 false false 0 0) fun w' => LB w' g s ls tr mo ∧ w.grownBy w' (some g)) := by
  have ha_due := as_75_68 (.agg #[.int .u8 k, .int .u8 a])
  have ha_resp := as_75_67 (.agg #[.int .u8 k, .int .u8 a])
  have ha_cmd := as_75_75 (.agg #[.int .u8 k, .int .u8 a])
  have n1 : (k == 1) = false := by simpa using h1
  have n4 : (k == 4) = false := by simpa using h4
  unfold LB at *
  go_enter Try.func37, Try.ntmps37
  have F0 : Turn (fun i => i = g ∨ w.heap.size ≤ i) w w := Turn.refl _
  have hc_l := hB_l.cell
  repeat (first|(with_reducible first|apply Xa|apply Xb|apply Xc|apply Xd)|((with_reducible apply Xk);(focus rfl);(focus (simp [go_sem,effAt,↓IntWalk.iteOmega, *];(try go_ints);with_reducible first|exact Xm|exact Xn));focus (simp only [Xo,Xp,Xq,Xr,Xs];rfl))|((with_reducible apply Xl);(focus rfl);focus (simp only [Xo,Xp,Xq,Xr,Xs];rfl))|(with_reducible first|apply Xe|apply Xf|apply Xg|apply Xh)|((with_reducible apply Xi);focus first|rfl|(simp [go_sem, *];done))|((with_reducible apply Xj);focus first|rfl|(simp [go_sem, *];done))|(simp only [Exit.then,Exit.inBlock,↓reduceIte,Nat.reduceEqDiff]))
  have lt_l_r := hB_l.lt
  have le_r := F0.size
  ((with_reducible apply Xu); (focus rfl); (focus (simp [go_sem, effAt]; exact ⟨rfl, rfl⟩)); (focus ((simp only [Xo,Xp,Xq,Xr,Xs];rfl))))
  intro w1 hB_r hs
  have Fw1 := F0.trans (Turn.of_below hs)
  replace hB_l := hB_l.below hs hB_l.lt
  clear hs F0
  clear hc_l; have hc_l := hB_l.cell
  have hc_r := hB_r.cell
  repeat (first|(with_reducible first|apply Xa|apply Xb|apply Xc|apply Xd)|((with_reducible apply Xk);(focus rfl);(focus (simp [go_sem,effAt,↓IntWalk.iteOmega, *];(try go_ints);with_reducible first|exact Xm|exact Xn));focus (simp only [Xo,Xp,Xq,Xr,Xs];rfl))|((with_reducible apply Xl);(focus rfl);focus (simp only [Xo,Xp,Xq,Xr,Xs];rfl))|(with_reducible first|apply Xe|apply Xf|apply Xg|apply Xh)|((with_reducible apply Xi);focus first|rfl|(simp [go_sem, *];done))|((with_reducible apply Xj);focus first|rfl|(simp [go_sem, *];done))|(simp only [Exit.then,Exit.inBlock,↓reduceIte,Nat.reduceEqDiff]))
  have lt_l_e := hB_l.lt
  have lt_r_e := hB_r.lt
  have le_e := Fw1.size
  ((with_reducible apply Xu); (focus rfl); (focus (simp [go_sem, effAt]; exact ⟨rfl, rfl⟩)); (focus ((simp only [Xo,Xp,Xq,Xr,Xs];rfl))))
  intro w2 hB_e hs
  have Fw2 := Fw1.trans (Turn.of_below hs)
  replace hB_l := hB_l.below hs hB_l.lt
  replace hB_r := hB_r.below hs hB_r.lt
  clear hs Fw1
  clear hc_l; have hc_l := hB_l.cell
  clear hc_r; have hc_r := hB_r.cell
  have hc_e := hB_e.cell
  repeat (first|(with_reducible first|apply Xa|apply Xb|apply Xc|apply Xd)|((with_reducible apply Xk);(focus rfl);(focus (simp [go_sem,effAt,↓IntWalk.iteOmega, *];(try go_ints);with_reducible first|exact Xm|exact Xn));focus (simp only [Xo,Xp,Xq,Xr,Xs];rfl))|((with_reducible apply Xl);(focus rfl);focus (simp only [Xo,Xp,Xq,Xr,Xs];rfl))|(with_reducible first|apply Xe|apply Xf|apply Xg|apply Xh)|((with_reducible apply Xi);focus first|rfl|(simp [go_sem, *];done))|((with_reducible apply Xj);focus first|rfl|(simp [go_sem, *];done))|(simp only [Exit.then,Exit.inBlock,↓reduceIte,Nat.reduceEqDiff]))
  have hf_e := hB_e.frozen
  ((with_reducible apply Xt (fun w' => Blk w' _ _ _ ∧ w2.grownBy w' (some _))); (focus rfl); (focus (simp [go_sem, effAt, *]; exact ⟨rfl, ((hB_e.set_ 0 _).set_ 1 _), (grown_set (grown_set (World.grownBy.refl _ _)))⟩)); (focus ((simp only [Xo,Xp,Xq,Xr,Xs];rfl))))
  clear hf_e hc_e hB_e
  intro w3 hs
  obtain ⟨hB_e, hs⟩ := hs
  simp only [Xq,Xr,Xs] at hB_e
  have Fw3 := Fw2.trans (Turn.of_grown hs (by first | exact .inl rfl | exact .inr (by omega)))
  replace hB_l := hB_l.grown hs (by intro hk; injection hk with hk; have := hB_l.lt; have := hB_e.lt; omega)
  replace hB_r := hB_r.grown hs (by intro hk; injection hk with hk; have := hB_r.lt; have := hB_e.lt; omega)
  clear hs Fw2
  clear hc_l; have hc_l := hB_l.cell
  clear hc_r; have hc_r := hB_r.cell
  have hc_e := hB_e.cell
  repeat (first|(with_reducible first|apply Xa|apply Xb|apply Xc|apply Xd)|((with_reducible apply Xk);(focus rfl);(focus (simp [go_sem,effAt,↓IntWalk.iteOmega, *];(try go_ints);with_reducible first|exact Xm|exact Xn));focus (simp only [Xo,Xp,Xq,Xr,Xs];rfl))|((with_reducible apply Xl);(focus rfl);focus (simp only [Xo,Xp,Xq,Xr,Xs];rfl))|(with_reducible first|apply Xe|apply Xf|apply Xg|apply Xh)|((with_reducible apply Xi);focus first|rfl|(simp [go_sem, *];done))|((with_reducible apply Xj);focus first|rfl|(simp [go_sem, *];done))|(simp only [Exit.then,Exit.inBlock,↓reduceIte,Nat.reduceEqDiff]))
  have hf_r := hB_r.frozen
  ((with_reducible apply Xt (fun w' => Blk w' _ _ _ ∧ w3.grownBy w' (some _))); (focus rfl); (focus (simp [go_sem, effAt, *]; exact ⟨rfl, (((((hB_r.set_ 0 _).set_ 1 _).set_ 2 _).set_ 3 _).set_ 4 _), (grown_set (grown_set (grown_set (grown_set (grown_set (World.grownBy.refl _ _))))))⟩)); (focus ((simp only [Xo,Xp,Xq,Xr,Xs];rfl))))
  clear hf_r hc_r hB_r
  intro w4 hs
  obtain ⟨hB_r, hs⟩ := hs
  simp only [Xq,Xr,Xs] at hB_r
  have Fw4 := Fw3.trans (Turn.of_grown hs (by first | exact .inl rfl | exact .inr (by omega)))
  replace hB_l := hB_l.grown hs (by intro hk; injection hk with hk; have := hB_l.lt; have := hB_r.lt; omega)
  replace hB_e := hB_e.grown hs (by intro hk; injection hk with hk; have := hB_e.lt; have := hB_r.lt; omega)
  clear hs Fw3
  clear hc_l; have hc_l := hB_l.cell
  clear hc_e; have hc_e := hB_e.cell
  have hc_r := hB_r.cell
  repeat (first|(with_reducible first|apply Xa|apply Xb|apply Xc|apply Xd)|((with_reducible apply Xk);(focus rfl);(focus (simp [go_sem,effAt,↓IntWalk.iteOmega, *];(try go_ints);with_reducible first|exact Xm|exact Xn));focus (simp only [Xo,Xp,Xq,Xr,Xs];rfl))|((with_reducible apply Xl);(focus rfl);focus (simp only [Xo,Xp,Xq,Xr,Xs];rfl))|(with_reducible first|apply Xe|apply Xf|apply Xg|apply Xh)|((with_reducible apply Xi);focus first|rfl|(simp [go_sem, *];done))|((with_reducible apply Xj);focus first|rfl|(simp [go_sem, *];done))|(simp only [Exit.then,Exit.inBlock,↓reduceIte,Nat.reduceEqDiff]))
  refine bodyPost_ret (v := (actV 0 false false 0 0)) (by simp [results, Try.results37, go_sem, *]) rfl ⟨rfl, hB_l, Turn.to_grown (by assumption)⟩
theorem closing_opens (g : Nat) (s : Int) (ls : Bool) (tr mo : Int) (w : World) (hB_l : LB w g s ls tr mo) :
    Calls Try.prog 37 #[.pointer (some ⟨g, 0, none⟩), .iface 62 (.agg #[])] w (Ret (actV 0 false false 0 0) fun w' => LB w' g s ls tr mo ∧ w.grownBy w' (some g)) := by
  have ha_due := as_62_68 (.agg #[])
  have ha_resp := as_62_67 (.agg #[])
  have ha_cmd := as_62_75 (.agg #[])
  unfold LB at *
  go_enter Try.func37, Try.ntmps37
  have F0 : Turn (fun i => i = g ∨ w.heap.size ≤ i) w w := Turn.refl _
  have hc_l := hB_l.cell
  repeat (first|(with_reducible first|apply Xa|apply Xb|apply Xc|apply Xd)|((with_reducible apply Xk);(focus rfl);(focus (simp [go_sem,effAt,↓IntWalk.iteOmega, *];(try go_ints);with_reducible first|exact Xm|exact Xn));focus (simp only [Xo,Xp,Xq,Xr,Xs];rfl))|((with_reducible apply Xl);(focus rfl);focus (simp only [Xo,Xp,Xq,Xr,Xs];rfl))|(with_reducible first|apply Xe|apply Xf|apply Xg|apply Xh)|((with_reducible apply Xi);focus first|rfl|(simp [go_sem, *];done))|((with_reducible apply Xj);focus first|rfl|(simp [go_sem, *];done))|(simp only [Exit.then,Exit.inBlock,↓reduceIte,Nat.reduceEqDiff]))
  have lt_l_r := hB_l.lt
  have le_r := F0.size
  ((with_reducible apply Xu); (focus rfl); (focus (simp [go_sem, effAt]; exact ⟨rfl, rfl⟩)); (focus ((simp only [Xo,Xp,Xq,Xr,Xs];rfl))))
  intro w1 hB_r hs
  have Fw1 := F0.trans (Turn.of_below hs)
  replace hB_l := hB_l.below hs hB_l.lt
  clear hs F0
  clear hc_l; have hc_l := hB_l.cell
  have hc_r := hB_r.cell
  repeat (first|(with_reducible first|apply Xa|apply Xb|apply Xc|apply Xd)|((with_reducible apply Xk);(focus rfl);(focus (simp [go_sem,effAt,↓IntWalk.iteOmega, *];(try go_ints);with_reducible first|exact Xm|exact Xn));focus (simp only [Xo,Xp,Xq,Xr,Xs];rfl))|((with_reducible apply Xl);(focus rfl);focus (simp only [Xo,Xp,Xq,Xr,Xs];rfl))|(with_reducible first|apply Xe|apply Xf|apply Xg|apply Xh)|((with_reducible apply Xi);focus first|rfl|(simp [go_sem, *];done))|((with_reducible apply Xj);focus first|rfl|(simp [go_sem, *];done))|(simp only [Exit.then,Exit.inBlock,↓reduceIte,Nat.reduceEqDiff]))
  have hf_r := hB_r.frozen
  ((with_reducible apply Xt (fun w' => Blk w' _ _ _ ∧ w1.grownBy w' (some _))); (focus rfl); (focus (simp [go_sem, effAt, *]; exact ⟨rfl, (((((hB_r.set_ 0 _).set_ 1 _).set_ 2 _).set_ 3 _).set_ 4 _), (grown_set (grown_set (grown_set (grown_set (grown_set (World.grownBy.refl _ _))))))⟩)); (focus ((simp only [Xo,Xp,Xq,Xr,Xs];rfl))))
  clear hf_r hc_r hB_r
  intro w2 hs
  obtain ⟨hB_r, hs⟩ := hs
  simp only [Xq,Xr,Xs] at hB_r
  have Fw2 := Fw1.trans (Turn.of_grown hs (by first | exact .inl rfl | exact .inr (by omega)))
  replace hB_l := hB_l.grown hs (by intro hk; injection hk with hk; have := hB_l.lt; have := hB_r.lt; omega)
  clear hs Fw1
  clear hc_l; have hc_l := hB_l.cell
  have hc_r := hB_r.cell
  repeat (first|(with_reducible first|apply Xa|apply Xb|apply Xc|apply Xd)|((with_reducible apply Xk);(focus rfl);(focus (simp [go_sem,effAt,↓IntWalk.iteOmega, *];(try go_ints);with_reducible first|exact Xm|exact Xn));focus (simp only [Xo,Xp,Xq,Xr,Xs];rfl))|((with_reducible apply Xl);(focus rfl);focus (simp only [Xo,Xp,Xq,Xr,Xs];rfl))|(with_reducible first|apply Xe|apply Xf|apply Xg|apply Xh)|((with_reducible apply Xi);focus first|rfl|(simp [go_sem, *];done))|((with_reducible apply Xj);focus first|rfl|(simp [go_sem, *];done))|(simp only [Exit.then,Exit.inBlock,↓reduceIte,Nat.reduceEqDiff]))
  refine bodyPost_ret (v := (actV 0 false false 0 0)) (by simp [results, Try.results37, go_sem, *]) rfl ⟨rfl, hB_l, Turn.to_grown (by assumption)⟩
theorem closing_closes (g : Nat) (s : Int) (ls : Bool) (tr mo : Int) (w : World) (hB_l : LB w g s ls tr mo) :
    Calls Try.prog 37 #[.pointer (some ⟨g, 0, none⟩), .iface 63 (.agg #[])] w (Ret (actV 0 false false 0 0) fun w' => LB w' g s ls tr mo ∧ w.grownBy w' (some g)) := by
  have ha_due := as_63_68 (.agg #[])
  have ha_resp := as_63_67 (.agg #[])
  have ha_cmd := as_63_75 (.agg #[])
  unfold LB at *
  go_enter Try.func37, Try.ntmps37
  have F0 : Turn (fun i => i = g ∨ w.heap.size ≤ i) w w := Turn.refl _
  have hc_l := hB_l.cell
  repeat (first|(with_reducible first|apply Xa|apply Xb|apply Xc|apply Xd)|((with_reducible apply Xk);(focus rfl);(focus (simp [go_sem,effAt,↓IntWalk.iteOmega, *];(try go_ints);with_reducible first|exact Xm|exact Xn));focus (simp only [Xo,Xp,Xq,Xr,Xs];rfl))|((with_reducible apply Xl);(focus rfl);focus (simp only [Xo,Xp,Xq,Xr,Xs];rfl))|(with_reducible first|apply Xe|apply Xf|apply Xg|apply Xh)|((with_reducible apply Xi);focus first|rfl|(simp [go_sem, *];done))|((with_reducible apply Xj);focus first|rfl|(simp [go_sem, *];done))|(simp only [Exit.then,Exit.inBlock,↓reduceIte,Nat.reduceEqDiff]))
  have lt_l_r := hB_l.lt
  have le_r := F0.size
  ((with_reducible apply Xu); (focus rfl); (focus (simp [go_sem, effAt]; exact ⟨rfl, rfl⟩)); (focus ((simp only [Xo,Xp,Xq,Xr,Xs];rfl))))
  intro w1 hB_r hs
  have Fw1 := F0.trans (Turn.of_below hs)
  replace hB_l := hB_l.below hs hB_l.lt
  clear hs F0
  clear hc_l; have hc_l := hB_l.cell
  have hc_r := hB_r.cell
  repeat (first|(with_reducible first|apply Xa|apply Xb|apply Xc|apply Xd)|((with_reducible apply Xk);(focus rfl);(focus (simp [go_sem,effAt,↓IntWalk.iteOmega, *];(try go_ints);with_reducible first|exact Xm|exact Xn));focus (simp only [Xo,Xp,Xq,Xr,Xs];rfl))|((with_reducible apply Xl);(focus rfl);focus (simp only [Xo,Xp,Xq,Xr,Xs];rfl))|(with_reducible first|apply Xe|apply Xf|apply Xg|apply Xh)|((with_reducible apply Xi);focus first|rfl|(simp [go_sem, *];done))|((with_reducible apply Xj);focus first|rfl|(simp [go_sem, *];done))|(simp only [Exit.then,Exit.inBlock,↓reduceIte,Nat.reduceEqDiff]))
  have hf_r := hB_r.frozen
  ((with_reducible apply Xt (fun w' => Blk w' _ _ _ ∧ w1.grownBy w' (some _))); (focus rfl); (focus (simp [go_sem, effAt, *]; exact ⟨rfl, (((((hB_r.set_ 0 _).set_ 1 _).set_ 2 _).set_ 3 _).set_ 4 _), (grown_set (grown_set (grown_set (grown_set (grown_set (World.grownBy.refl _ _))))))⟩)); (focus ((simp only [Xo,Xp,Xq,Xr,Xs];rfl))))
  clear hf_r hc_r hB_r
  intro w2 hs
  obtain ⟨hB_r, hs⟩ := hs
  simp only [Xq,Xr,Xs] at hB_r
  have Fw2 := Fw1.trans (Turn.of_grown hs (by first | exact .inl rfl | exact .inr (by omega)))
  replace hB_l := hB_l.grown hs (by intro hk; injection hk with hk; have := hB_l.lt; have := hB_r.lt; omega)
  clear hs Fw1
  clear hc_l; have hc_l := hB_l.cell
  have hc_r := hB_r.cell
  repeat (first|(with_reducible first|apply Xa|apply Xb|apply Xc|apply Xd)|((with_reducible apply Xk);(focus rfl);(focus (simp [go_sem,effAt,↓IntWalk.iteOmega, *];(try go_ints);with_reducible first|exact Xm|exact Xn));focus (simp only [Xo,Xp,Xq,Xr,Xs];rfl))|((with_reducible apply Xl);(focus rfl);focus (simp only [Xo,Xp,Xq,Xr,Xs];rfl))|(with_reducible first|apply Xe|apply Xf|apply Xg|apply Xh)|((with_reducible apply Xi);focus first|rfl|(simp [go_sem, *];done))|((with_reducible apply Xj);focus first|rfl|(simp [go_sem, *];done))|(simp only [Exit.then,Exit.inBlock,↓reduceIte,Nat.reduceEqDiff]))
  refine bodyPost_ret (v := (actV 0 false false 0 0)) (by simp [results, Try.results37, go_sem, *]) rfl ⟨rfl, hB_l, Turn.to_grown (by assumption)⟩
