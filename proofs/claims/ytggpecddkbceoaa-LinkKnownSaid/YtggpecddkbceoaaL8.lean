/- The walk of LinkPlays. -/
import Derived.Test.YtggpecddkbceoaaL7
import Derived.Test.YtggpecddkbceoaaKf
import Derived.Test.YtggpecddkbceoaaOv
import Derived.Test.YtggpecddkbceoaaLa
set_option linter.unusedSimpArgs false
set_option linter.unusedVariables false
namespace Go.Proofs.Ytggpecddkbceoaa
open Go.RowKit Go.Eff
attribute [local irreducible] Go.wpList Go.wpAnyH Go.wpOp
theorem is_any (k : Int) (c p : Bool) (t f : Int) (w : World) : Calls Try.prog 12 #[actV k c p t f, actV k c p t f] w (Ret (.bool true) (Below w.heap.size w)) := by
  go_enter Try.func12, Try.ntmps12
  have F0 : Below w.heap.size w w := Below.refl _ _
  repeat (first|(with_reducible apply Xa)|((with_reducible apply region_k);intro KK kk)|(with_reducible apply Xc)|((with_reducible apply seq_k);intro KK kk)|((with_reducible apply Xk);(focus first|exact wanted_none rfl|exact wanted_yes rfl rfl rfl);(focus (simp [go_sem,effAt,↓IntWalk.iteOmega, *];(try go_ints);with_reducible first|exact Xm|exact Xn));focus (first|(apply put_some rfl;focus (conv=>lhs;dsimp only [Xr,Xs])<;>rfl)|exact put_none rfl))|((with_reducible apply Xl);(focus first|exact wanted_no rfl rfl rfl|exact wanted_undef rfl rfl rfl);focus (first|(apply put_some rfl;focus (conv=>lhs;dsimp only [Xr,Xs])<;>rfl)|exact put_none rfl))|(with_reducible first|apply Xe|apply Xf|apply Xg|apply Xh)|((with_reducible apply Xi);focus first|rfl|(simp [go_sem, *];done))|((with_reducible apply Xj);focus first|rfl|(simp [go_sem, *];done))|(simp only [Exit.then,Exit.inBlock,↓reduceIte,Nat.reduceEqDiff])|((with_reducible apply kf_out);focus assumption))
  ((with_reducible apply Xu); (focus rfl); (focus (simp [go_sem, effAt]; exact ⟨rfl, rfl⟩)); (focus ((first|(apply put_some rfl;focus (conv=>lhs;dsimp only [Xr,Xs])<;>rfl)|exact put_none rfl))))
  intro w1 hB_a hs
  have Fw1 := F0.trans (hs.mono F0.size)
  clear hs F0
  have hc_a := hB_a.cell
  repeat (first|(with_reducible apply Xa)|((with_reducible apply region_k);intro KK kk)|(with_reducible apply Xc)|((with_reducible apply seq_k);intro KK kk)|((with_reducible apply Xk);(focus first|exact wanted_none rfl|exact wanted_yes rfl rfl rfl);(focus (simp [go_sem,effAt,↓IntWalk.iteOmega, *];(try go_ints);with_reducible first|exact Xm|exact Xn));focus (first|(apply put_some rfl;focus (conv=>lhs;dsimp only [Xr,Xs])<;>rfl)|exact put_none rfl))|((with_reducible apply Xl);(focus first|exact wanted_no rfl rfl rfl|exact wanted_undef rfl rfl rfl);focus (first|(apply put_some rfl;focus (conv=>lhs;dsimp only [Xr,Xs])<;>rfl)|exact put_none rfl))|(with_reducible first|apply Xe|apply Xf|apply Xg|apply Xh)|((with_reducible apply Xi);focus first|rfl|(simp [go_sem, *];done))|((with_reducible apply Xj);focus first|rfl|(simp [go_sem, *];done))|(simp only [Exit.then,Exit.inBlock,↓reduceIte,Nat.reduceEqDiff])|((with_reducible apply kf_out);focus assumption))
  have lt_a_b := hB_a.lt
  ((with_reducible apply Xu); (focus rfl); (focus (simp [go_sem, effAt]; exact ⟨rfl, rfl⟩)); (focus ((first|(apply put_some rfl;focus (conv=>lhs;dsimp only [Xr,Xs])<;>rfl)|exact put_none rfl))))
  intro w2 hB_b hs
  have Fw2 := Fw1.trans (hs.mono Fw1.size)
  replace hB_a := hB_a.below hs hB_a.lt
  clear hs Fw1
  clear hc_a; have hc_a := hB_a.cell
  have hc_b := hB_b.cell
  repeat (first|(with_reducible apply Xa)|((with_reducible apply region_k);intro KK kk)|(with_reducible apply Xc)|((with_reducible apply seq_k);intro KK kk)|((with_reducible apply Xk);(focus first|exact wanted_none rfl|exact wanted_yes rfl rfl rfl);(focus (simp [go_sem,effAt,↓IntWalk.iteOmega, *];(try go_ints);with_reducible first|exact Xm|exact Xn));focus (first|(apply put_some rfl;focus (conv=>lhs;dsimp only [Xr,Xs])<;>rfl)|exact put_none rfl))|((with_reducible apply Xl);(focus first|exact wanted_no rfl rfl rfl|exact wanted_undef rfl rfl rfl);focus (first|(apply put_some rfl;focus (conv=>lhs;dsimp only [Xr,Xs])<;>rfl)|exact put_none rfl))|(with_reducible first|apply Xe|apply Xf|apply Xg|apply Xh)|((with_reducible apply Xi);focus first|rfl|(simp [go_sem, *];done))|((with_reducible apply Xj);focus first|rfl|(simp [go_sem, *];done))|(simp only [Exit.then,Exit.inBlock,↓reduceIte,Nat.reduceEqDiff])|((with_reducible apply kf_out);focus assumption))
  go_ret
  exact ⟨rfl, by assumption⟩
/-- what is known between the calls: a link and the document's, of the same fields -/
def Two (w0 : World) (g h : Nat) (l l' : LS) (w : World) : Prop := LL w g l ∧ RL w h l' ∧ Below w0.heap.size w0 w
section
variable {v : Value} {w0 w w' w1 : World} {g h : Nat} {l l' l'' : LS} {f : FuncId} {args : Array Value}
theorem RL.lt (h : RL w g l) : g < w.heap.size := Blk.lt h
theorem Two.x (hw : Two w0 g h l l' w) : LL w g l := hw.1
theorem Two.y (hw : Two w0 g h l l' w) : RL w h l' := hw.2.1
theorem Two.rB (hw : Two w0 g h l l' w) : Blk w h 38 #[.int .u8 l'.s, .bool l'.ls, .int .i64 l'.mo, .int .i64 l'.tr] := hw.2.1
theorem Two.o (hw : Two w0 g h l l' w) : Below w0.heap.size w0 w := hw.2.2
theorem Two.drew (hw : Two w0 g h l l' w) : Two w0 g h l l' w.drew := ⟨Blk.drew hw.1, Blk.drew hw.2.1, hw.2.2.drew⟩
theorem Two.below (hw : Two w0 g h l l' w) (hb : Below w.heap.size w w') : Two w0 g h l l' w' := ⟨Blk.below hw.1 hb (Blk.lt hw.1), Blk.below hw.2.1 hb (Blk.lt hw.2.1), hw.2.2.trans (hb.mono hw.2.2.size)⟩
theorem two_l (hw : Two w0 g h l l' w1) (h0 : w0.heap.size ≤ g ∧ g < h) (hc : Calls Try.prog f args w1 (Ret v fun w' => LL w' g l'' ∧ w1.grownBy w' (some g))) : Calls Try.prog f args w1 (Ret v (Two w0 g h l'' l')) :=
  hc.mono fun e w' ⟨he, h1, h2⟩ => ⟨he, h1, Blk.grown hw.2.1 h2 (by intro e; injection e with e; omega), hw.2.2.grown h2 hw.2.2.size (by intro j hj; injection hj with hj; omega)⟩
theorem two_r (hw : Two w0 g h l l' w1) (h0 : w0.heap.size ≤ g ∧ g < h) (hc : Calls Try.prog f args w1 (Ret v fun w' => RL w' h l'' ∧ w1.grownBy w' (some h))) : Calls Try.prog f args w1 (Ret v (Two w0 g h l l'')) :=
  hc.mono fun e w' ⟨he, h1, h2⟩ => ⟨he, Blk.grown hw.1 h2 (by intro e; injection e with e; omega), h1, hw.2.2.grown h2 hw.2.2.size (by intro j hj; injection hj with hj; omega)⟩
theorem two_read (hw : Two w0 g h l l' w1) (hc : Calls Try.prog f args w1 (Ret v (Below w1.heap.size w1))) : Calls Try.prog f args w1 (Ret v (Two w0 g h l l')) :=
  hc.mono fun e w' ⟨he, h1⟩ => ⟨he, hw.below h1⟩
end
set_option maxRecDepth 100000 in
set_option maxHeartbeats 4000000 in
theorem plays_any (n2 : Int) (v : Value) (l : List Cll) (w : World) (h : Arg w v l) : Calls Try.prog 3 #[.int .i64 n2, v] w (Ret (.bool true) (Below w.heap.size w)) := by
  obtain ⟨p, cap, rfl, hmax, hc⟩ := h
  obtain ⟨n, hn'⟩ : ∃ n, l.length = n := ⟨_, rfl⟩
  rw [hn'] at hmax ⊢
  have HC := Lib.hid hc
  clear hc
  by_cases hf : (300 : Int) < (n : Int)
  case pos =>
    go_enter Try.func3, Try.ntmps3
    have F0 : Below w.heap.size w w := Below.refl _ _
    repeat (first|(with_reducible apply Xa)|((with_reducible apply region_k);intro KK kk)|(with_reducible apply Xc)|((with_reducible apply seq_k);intro KK kk)|((with_reducible apply Xk);(focus first|exact wanted_none rfl|exact wanted_yes rfl rfl rfl);(focus (simp [go_sem,effAt,↓IntWalk.iteOmega, *];(try go_ints);with_reducible first|exact Xm|exact Xn));focus (first|(apply put_some rfl;focus (conv=>lhs;dsimp only [Xr,Xs])<;>rfl)|exact put_none rfl))|((with_reducible apply Xl);(focus first|exact wanted_no rfl rfl rfl|exact wanted_undef rfl rfl rfl);focus (first|(apply put_some rfl;focus (conv=>lhs;dsimp only [Xr,Xs])<;>rfl)|exact put_none rfl))|(with_reducible first|apply Xe|apply Xf|apply Xg|apply Xh)|((with_reducible apply Xi);focus first|rfl|(simp [go_sem, *];done))|((with_reducible apply Xj);focus first|rfl|(simp [go_sem, *];done))|(simp only [Exit.then,Exit.inBlock,↓reduceIte,Nat.reduceEqDiff])|((with_reducible apply kf_out);focus assumption))
    ((with_reducible apply Xt (Below w.heap.size w)); (focus rfl); (focus (simp only [effAt]; simp [go_sem]; (with_reducible exact effUpon_enter (works_any _)))); (focus ((first|(apply put_some rfl;focus (conv=>lhs;dsimp only [Xr,Xs])<;>rfl)|exact put_none rfl))))
    intro w1 hs
    have Fw1 := F0.trans (hs.mono F0.size)
    clear hs F0
    repeat (first|(with_reducible apply Xa)|((with_reducible apply region_k);intro KK kk)|(with_reducible apply Xc)|((with_reducible apply seq_k);intro KK kk)|((with_reducible apply Xk);(focus first|exact wanted_none rfl|exact wanted_yes rfl rfl rfl);(focus (simp [go_sem,effAt,↓IntWalk.iteOmega, *];(try go_ints);with_reducible first|exact Xm|exact Xn));focus (first|(apply put_some rfl;focus (conv=>lhs;dsimp only [Xr,Xs])<;>rfl)|exact put_none rfl))|((with_reducible apply Xl);(focus first|exact wanted_no rfl rfl rfl|exact wanted_undef rfl rfl rfl);focus (first|(apply put_some rfl;focus (conv=>lhs;dsimp only [Xr,Xs])<;>rfl)|exact put_none rfl))|(with_reducible first|apply Xe|apply Xf|apply Xg|apply Xh)|((with_reducible apply Xi);focus first|rfl|(simp [go_sem, *];done))|((with_reducible apply Xj);focus first|rfl|(simp [go_sem, *];done))|(simp only [Exit.then,Exit.inBlock,↓reduceIte,Nat.reduceEqDiff])|((with_reducible apply kf_out);focus assumption))
    go_ret
    exact ⟨rfl, by assumption⟩
  have hN1 := new_any n2
  have hN2 := rnew_any n2
  have hgood := good_new n2
  generalize mostOf n2 = mo at *
  go_enter Try.func3, Try.ntmps3
  have F0 : Below w.heap.size w w := Below.refl _ _
  repeat (first|(with_reducible apply Xa)|((with_reducible apply region_k);intro KK kk)|(with_reducible apply Xc)|((with_reducible apply seq_k);intro KK kk)|((with_reducible apply Xk);(focus first|exact wanted_none rfl|exact wanted_yes rfl rfl rfl);(focus (simp [go_sem,effAt,↓IntWalk.iteOmega, *];(try go_ints);with_reducible first|exact Xm|exact Xn));focus (first|(apply put_some rfl;focus (conv=>lhs;dsimp only [Xr,Xs])<;>rfl)|exact put_none rfl))|((with_reducible apply Xl);(focus first|exact wanted_no rfl rfl rfl|exact wanted_undef rfl rfl rfl);focus (first|(apply put_some rfl;focus (conv=>lhs;dsimp only [Xr,Xs])<;>rfl)|exact put_none rfl))|(with_reducible first|apply Xe|apply Xf|apply Xg|apply Xh)|((with_reducible apply Xi);focus first|rfl|(simp [go_sem, *];done))|((with_reducible apply Xj);focus first|rfl|(simp [go_sem, *];done))|(simp only [Exit.then,Exit.inBlock,↓reduceIte,Nat.reduceEqDiff])|((with_reducible apply kf_out);focus assumption))
  with_reducible apply Xt (fun w' => Blk w' w.heap.size 57 #[.int .u8 1, .bool false, .int .i64 0, .int .i64 mo] ∧ Below w.heap.size w w')
  focus rfl
  focus (simp only [effAt]; simp [go_sem]; (with_reducible exact effUpon_enter (hN1 _)))
  (first|(apply put_some rfl;focus (conv=>lhs;dsimp only [Xr,Xs])<;>rfl)|exact put_none rfl)
  rintro x1 ⟨hP1, hF1⟩
  repeat (first|(with_reducible apply Xa)|((with_reducible apply region_k);intro KK kk)|(with_reducible apply Xc)|((with_reducible apply seq_k);intro KK kk)|((with_reducible apply Xk);(focus first|exact wanted_none rfl|exact wanted_yes rfl rfl rfl);(focus (simp [go_sem,effAt,↓IntWalk.iteOmega, *];(try go_ints);with_reducible first|exact Xm|exact Xn));focus (first|(apply put_some rfl;focus (conv=>lhs;dsimp only [Xr,Xs])<;>rfl)|exact put_none rfl))|((with_reducible apply Xl);(focus first|exact wanted_no rfl rfl rfl|exact wanted_undef rfl rfl rfl);focus (first|(apply put_some rfl;focus (conv=>lhs;dsimp only [Xr,Xs])<;>rfl)|exact put_none rfl))|(with_reducible first|apply Xe|apply Xf|apply Xg|apply Xh)|((with_reducible apply Xi);focus first|rfl|(simp [go_sem, *];done))|((with_reducible apply Xj);focus first|rfl|(simp [go_sem, *];done))|(simp only [Exit.then,Exit.inBlock,↓reduceIte,Nat.reduceEqDiff])|((with_reducible apply kf_out);focus assumption))
  with_reducible apply Xt (fun w' => Blk w' x1.heap.size 38 #[.int .u8 1, .bool false, .int .i64 mo, .int .i64 0] ∧ Below x1.heap.size x1 w')
  focus rfl
  focus (simp only [effAt]; simp [go_sem]; (with_reducible exact effUpon_enter (hN2 _)))
  (first|(apply put_some rfl;focus (conv=>lhs;dsimp only [Xr,Xs])<;>rfl)|exact put_none rfl)
  rintro x2 ⟨hP2, hF2⟩
  repeat (first|(with_reducible apply Xa)|((with_reducible apply region_k);intro KK kk)|(with_reducible apply Xc)|((with_reducible apply seq_k);intro KK kk)|((with_reducible apply Xk);(focus first|exact wanted_none rfl|exact wanted_yes rfl rfl rfl);(focus (simp [go_sem,effAt,↓IntWalk.iteOmega, *];(try go_ints);with_reducible first|exact Xm|exact Xn));focus (first|(apply put_some rfl;focus (conv=>lhs;dsimp only [Xr,Xs])<;>rfl)|exact put_none rfl))|((with_reducible apply Xl);(focus first|exact wanted_no rfl rfl rfl|exact wanted_undef rfl rfl rfl);focus (first|(apply put_some rfl;focus (conv=>lhs;dsimp only [Xr,Xs])<;>rfl)|exact put_none rfl))|(with_reducible first|apply Xe|apply Xf|apply Xg|apply Xh)|((with_reducible apply Xi);focus first|rfl|(simp [go_sem, *];done))|((with_reducible apply Xj);focus first|rfl|(simp [go_sem, *];done))|(simp only [Exit.then,Exit.inBlock,↓reduceIte,Nat.reduceEqDiff])|((with_reducible apply kf_out);focus assumption))
  obtain ⟨g, k, h0, hT, e1, e2⟩ : ∃ g k, (w.heap.size ≤ g ∧ g < k) ∧ Two w g k ⟨1, false, 0, mo⟩ ⟨1, false, 0, mo⟩ x2 ∧ g = w.heap.size ∧ k = x1.heap.size :=
    ⟨_, _, ⟨Nat.le_refl _, Blk.lt hP1⟩, ⟨Blk.below hP1 hF2 (Blk.lt hP1), hP2, hF1.trans (hF2.mono hF1.size)⟩, rfl, rfl⟩
  rw [← e1, ← e2]
  have E1 := Lib.hid e1
  clear e1 e2 hP1 hP2 hF1 hF2 F0 hN1 hN2
  go_loopg [7] n (fun q v7 wr => ∃ (i : Nat) (x : LS), v7 = .int .i64 (i : Int) ∧ i + q = n ∧ Good x ∧ Two w g k x x wr)
  case atStart => exact ⟨0, _, rfl, by omega, hgood, hT⟩
  case round =>
    rename_i J K hJ hK
    clear hT hgood
    obtain ⟨i, x, rfl, hi, hgood, hT⟩ := hrel
    by_cases hlt : i < n
    case neg =>
      have hS9 := fun w' (hT : Two w g k x x w') => state_any g x.s x.ls x.tr x.mo w' hT.x
      have hB_r := hT.rB
      have Fwr : Below wr.heap.size wr wr := Below.refl _ _
      have hc_r := hB_r.cell
      repeat (first|(with_reducible apply Xa)|((with_reducible apply region_k);intro KK kk)|(with_reducible apply Xc)|((with_reducible apply seq_k);intro KK kk)|((with_reducible apply Xk);(focus first|exact wanted_none rfl|exact wanted_yes rfl rfl rfl);(focus (simp [go_sem,effAt,↓IntWalk.iteOmega, *];(try go_ints);with_reducible first|exact Xm|exact Xn));focus (first|(apply put_some rfl;focus (conv=>lhs;dsimp only [Xr,Xs])<;>rfl)|exact put_none rfl))|((with_reducible apply Xl);(focus first|exact wanted_no rfl rfl rfl|exact wanted_undef rfl rfl rfl);focus (first|(apply put_some rfl;focus (conv=>lhs;dsimp only [Xr,Xs])<;>rfl)|exact put_none rfl))|(with_reducible first|apply Xe|apply Xf|apply Xg|apply Xh)|((with_reducible apply Xi);focus first|rfl|(simp [go_sem, *];done))|((with_reducible apply Xj);focus first|rfl|(simp [go_sem, *];done))|(simp only [Exit.then,Exit.inBlock,↓reduceIte,Nat.reduceEqDiff])|((with_reducible apply kf_out);focus assumption))
      refine wp_region_pure (E := fun i => [1, 8].contains i) (by kernel_rfl) (by kernel_rfl) ?_
      repeat (first | ((with_reducible apply lex_q); (focus (first | exact wanted_none rfl | exact wanted_yes rfl rfl rfl)); (focus rfl); (focus (intro w' hS; have hc_r := (hB_r.below hS hB_r.lt).cell; simp [go_sem, effAt, ↓IntWalk.iteOmega, *]; (try go_ints); (with_reducible first|exact Xm|exact Xn))); (focus ((first|(apply put_some rfl;focus (conv=>lhs;dsimp only [Xr,Xs])<;>rfl)|exact put_none rfl)))) | ((with_reducible apply lex_s); (focus (first | exact wanted_no rfl rfl rfl | exact wanted_undef rfl rfl rfl)); (focus ((first|(apply put_some rfl;focus (conv=>lhs;dsimp only [Xr,Xs])<;>rfl)|exact put_none rfl)))))
      ((with_reducible apply lex_e (Below wr.heap.size wr)); (focus rfl); (focus rfl); (focus (intro w' hS; simp only [effAt]; simp [go_sem]; (with_reducible exact eff_call hS (hS9 _ (hT.below hS))))); (focus (exact fun _ h => h)); (focus ((first|(apply put_some rfl;focus (conv=>lhs;dsimp only [Xr,Xs])<;>rfl)|exact put_none rfl))))
      repeat (first | ((with_reducible apply lex_q); (focus (first | exact wanted_none rfl | exact wanted_yes rfl rfl rfl)); (focus rfl); (focus (intro w' hS; have hc_r := (hB_r.below hS hB_r.lt).cell; simp [go_sem, effAt, ↓IntWalk.iteOmega, *]; (try go_ints); (with_reducible first|exact Xm|exact Xn))); (focus ((first|(apply put_some rfl;focus (conv=>lhs;dsimp only [Xr,Xs])<;>rfl)|exact put_none rfl)))) | ((with_reducible apply lex_s); (focus (first | exact wanted_no rfl rfl rfl | exact wanted_undef rfl rfl rfl)); (focus ((first|(apply put_some rfl;focus (conv=>lhs;dsimp only [Xr,Xs])<;>rfl)|exact put_none rfl)))))
      ((with_reducible apply lex_e (Below wr.heap.size wr)); (focus rfl); (focus rfl); (focus (intro w' hS; simp only [effAt]; simp [go_sem]; (with_reducible exact eff_call hS (works_any _)))); (focus (exact fun _ h => h)); (focus ((first|(apply put_some rfl;focus (conv=>lhs;dsimp only [Xr,Xs])<;>rfl)|exact put_none rfl))))
      repeat (first | ((with_reducible apply lex_q); (focus (first | exact wanted_none rfl | exact wanted_yes rfl rfl rfl)); (focus rfl); (focus (intro w' hS; have hc_r := (hB_r.below hS hB_r.lt).cell; simp [go_sem, effAt, ↓IntWalk.iteOmega, *]; (try go_ints); (with_reducible first|exact Xm|exact Xn))); (focus ((first|(apply put_some rfl;focus (conv=>lhs;dsimp only [Xr,Xs])<;>rfl)|exact put_none rfl)))) | ((with_reducible apply lex_s); (focus (first | exact wanted_no rfl rfl rfl | exact wanted_undef rfl rfl rfl)); (focus ((first|(apply put_some rfl;focus (conv=>lhs;dsimp only [Xr,Xs])<;>rfl)|exact put_none rfl)))))
      with_reducible apply lex_nil
      intro w2 hs
      have Fw2 := Fwr.trans (hs.mono Fwr.size)
      replace hB_r := hB_r.below hs hB_r.lt
      clear hs Fwr
      clear hc_r; have hc_r := hB_r.cell
      repeat (first|(with_reducible apply Xa)|((with_reducible apply region_k);intro KK kk)|(with_reducible apply Xc)|((with_reducible apply seq_k);intro KK kk)|((with_reducible apply Xk);(focus first|exact wanted_none rfl|exact wanted_yes rfl rfl rfl);(focus (simp [go_sem,effAt,↓IntWalk.iteOmega, *];(try go_ints);with_reducible first|exact Xm|exact Xn));focus (first|(apply put_some rfl;focus (conv=>lhs;dsimp only [Xr,Xs])<;>rfl)|exact put_none rfl))|((with_reducible apply Xl);(focus first|exact wanted_no rfl rfl rfl|exact wanted_undef rfl rfl rfl);focus (first|(apply put_some rfl;focus (conv=>lhs;dsimp only [Xr,Xs])<;>rfl)|exact put_none rfl))|(with_reducible first|apply Xe|apply Xf|apply Xg|apply Xh)|((with_reducible apply Xi);focus first|rfl|(simp [go_sem, *];done))|((with_reducible apply Xj);focus first|rfl|(simp [go_sem, *];done))|(simp only [Exit.then,Exit.inBlock,↓reduceIte,Nat.reduceEqDiff])|((with_reducible apply kf_out);focus assumption))
      rw [E1.out]
      go_ret
      exact ⟨rfl, hT.o.trans (Below.mono (by assumption) hT.o.size)⟩
    case pos =>
      obtain ⟨c, hce⟩ : ∃ c, l[i]? = some c := ⟨_, List.getElem?_eq_getElem (by omega)⟩
      obtain ⟨a, ga, o, rfl, hao, ha, c0, c1, c2, c3, hk0⟩ := HC.out i c hce
      clear hce
      obtain ⟨kd, fr, pf, cmd⟩ := c
      dsimp only at c0 c1 c2 c3 hk0
      have hD1 := fun w1 (hT : Two w g k x x w1) => two_l hT h0 (ldo_any g x hgood kd fr pf cmd hk0 w1 hT.x)
      have hD2 := fun w1 (hT : Two w g k (doF x (kd % 6) fr pf cmd).2 x w1) => two_r hT h0 (rdo_any k x hgood kd fr pf cmd hk0 w1 hT.y)
      have hgood2 := good_do hgood (kd % 6) fr pf cmd
      generalize doF x (kd % 6) fr pf cmd = y at hD1 hD2 hgood2
      obtain ⟨⟨k1, cc1, p1, t1, f1⟩, x2⟩ := y
      dsimp only at hD1 hD2 hgood2
      clear hgood hk0
      obtain ⟨s2, ls2, tr2, mo2⟩ := x2
      have hI := fun w1 (hT : Two w g k ⟨s2, ls2, tr2, mo2⟩ ⟨s2, ls2, tr2, mo2⟩ w1) => two_read hT (is_any k1 cc1 p1 t1 f1 w1)
      have hSt := fun w1 (hT : Two w g k ⟨s2, ls2, tr2, mo2⟩ ⟨s2, ls2, tr2, mo2⟩ w1) => two_read hT (state_any g s2 ls2 tr2 mo2 w1 hT.x)
      have hPRE : ∀ w', Below w.heap.size w w' → w'.cell? ⟨ga, o, none⟩ = some (.int .i64 kd) ∧ w'.cell? ⟨ga, o + 1, none⟩ = some (.int .u8 fr) ∧ w'.cell? ⟨ga, o + 2, none⟩ = some (.bool pf) ∧ w'.cell? ⟨ga, o + 3, none⟩ = some (.bool cmd) :=
        fun w' hS => ⟨(hS.cell (p := ⟨ga, o, none⟩) ha).trans c0, (hS.cell (p := ⟨ga, o + 1, none⟩) ha).trans c1, (hS.cell (p := ⟨ga, o + 2, none⟩) ha).trans c2, (hS.cell (p := ⟨ga, o + 3, none⟩) ha).trans c3⟩
      have HP := Lib.hid hPRE
      clear hPRE c0 c1 c2 c3
      repeat (first|(with_reducible apply Xa)|((with_reducible apply region_k);intro KK kk)|(with_reducible apply Xc)|((with_reducible apply seq_k);intro KK kk)|((with_reducible apply Xk);(focus first|exact wanted_none rfl|exact wanted_yes rfl rfl rfl);(focus (simp [go_sem,effAt,↓IntWalk.iteOmega, *];(try go_ints);with_reducible first|exact Xm|exact Xn));focus (first|(apply put_some rfl;focus (conv=>lhs;dsimp only [Xr,Xs])<;>rfl)|exact put_none rfl))|((with_reducible apply Xl);(focus first|exact wanted_no rfl rfl rfl|exact wanted_undef rfl rfl rfl);focus (first|(apply put_some rfl;focus (conv=>lhs;dsimp only [Xr,Xs])<;>rfl)|exact put_none rfl))|(with_reducible first|apply Xe|apply Xf|apply Xg|apply Xh)|((with_reducible apply Xi);focus first|rfl|(simp [go_sem, *];done))|((with_reducible apply Xj);focus first|rfl|(simp [go_sem, *];done))|(simp only [Exit.then,Exit.inBlock,↓reduceIte,Nat.reduceEqDiff])|((with_reducible apply kf_out);focus assumption))
      refine drawn_region 23 (Below w.heap.size w) (by kernel_rfl) (by kernel_rfl) ?_
      have hT0 := hT.drew
      clear hT
      generalize wr.drew = u0 at hT0 ⊢
      (with_reducible apply drawn_v 0)
      (focus rfl)
      (focus kernel_rfl)
      (focus kernel_rfl)
      (focus kernel_rfl)
      (focus exact fun _ _ _ h => h)
      (focus (first | exact wanted_none rfl | exact wanted_yes rfl rfl rfl))
      (focus (intro w' hS; obtain ⟨c0, c1, c2, c3⟩ := HP.out _ hS; simp [go_sem, valAt, ↓IntWalk.iteOmega, *]; (try go_ints); (with_reducible exact valUpon_val)))
      (focus exact hT0.o)
      (focus (first|(apply put_some rfl;focus (conv=>lhs;dsimp only [Xr,Xs])<;>rfl)|exact put_none rfl))
      (with_reducible apply drawn_v 1)
      (focus rfl)
      (focus kernel_rfl)
      (focus kernel_rfl)
      (focus kernel_rfl)
      (focus exact fun _ _ _ h => h)
      (focus (first | exact wanted_none rfl | exact wanted_yes rfl rfl rfl))
      (focus (intro w' hS; obtain ⟨c0, c1, c2, c3⟩ := HP.out _ hS; simp [go_sem, valAt, ↓IntWalk.iteOmega, *]; (try go_ints); (with_reducible exact valUpon_val)))
      (focus exact hT0.o)
      (focus (first|(apply put_some rfl;focus (conv=>lhs;dsimp only [Xr,Xs])<;>rfl)|exact put_none rfl))
      (with_reducible apply drawn_v 2)
      (focus rfl)
      (focus kernel_rfl)
      (focus kernel_rfl)
      (focus kernel_rfl)
      (focus exact fun _ _ _ h => h)
      (focus (first | exact wanted_none rfl | exact wanted_yes rfl rfl rfl))
      (focus (intro w' hS; obtain ⟨c0, c1, c2, c3⟩ := HP.out _ hS; simp [go_sem, valAt, ↓IntWalk.iteOmega, *]; (try go_ints); (with_reducible exact valUpon_val)))
      (focus exact hT0.o)
      (focus (first|(apply put_some rfl;focus (conv=>lhs;dsimp only [Xr,Xs])<;>rfl)|exact put_none rfl))
      (with_reducible apply drawn_v 3)
      (focus rfl)
      (focus kernel_rfl)
      (focus kernel_rfl)
      (focus kernel_rfl)
      (focus exact fun _ _ _ h => h)
      (focus (first | exact wanted_none rfl | exact wanted_yes rfl rfl rfl))
      (focus (intro w' hS; obtain ⟨c0, c1, c2, c3⟩ := HP.out _ hS; simp [go_sem, valAt, ↓IntWalk.iteOmega, *]; (try go_ints); (with_reducible exact valUpon_val)))
      (focus exact hT0.o)
      (focus (first|(apply put_some rfl;focus (conv=>lhs;dsimp only [Xr,Xs])<;>rfl)|exact put_none rfl))
      (with_reducible apply drawn_v 4)
      (focus rfl)
      (focus kernel_rfl)
      (focus kernel_rfl)
      (focus kernel_rfl)
      (focus exact fun _ _ _ h => h)
      (focus (first | exact wanted_none rfl | exact wanted_yes rfl rfl rfl))
      (focus (intro w' hS; obtain ⟨c0, c1, c2, c3⟩ := HP.out _ hS; simp [go_sem, valAt, ↓IntWalk.iteOmega, *]; (try go_ints); (with_reducible exact valUpon_val)))
      (focus exact hT0.o)
      (focus (first|(apply put_some rfl;focus (conv=>lhs;dsimp only [Xr,Xs])<;>rfl)|exact put_none rfl))
      (with_reducible apply drawn_v 6)
      (focus rfl)
      (focus kernel_rfl)
      (focus kernel_rfl)
      (focus kernel_rfl)
      (focus exact fun _ _ _ h => h)
      (focus (first | exact wanted_none rfl | exact wanted_yes rfl rfl rfl))
      (focus (intro w' hS; obtain ⟨c0, c1, c2, c3⟩ := HP.out _ hS; simp [go_sem, valAt, ↓IntWalk.iteOmega, *]; (try go_ints); (with_reducible exact valUpon_val)))
      (focus exact hT0.o)
      (focus (first|(apply put_some rfl;focus (conv=>lhs;dsimp only [Xr,Xs])<;>rfl)|exact put_none rfl))
      (with_reducible apply drawn_v 7)
      (focus rfl)
      (focus kernel_rfl)
      (focus kernel_rfl)
      (focus kernel_rfl)
      (focus exact fun _ _ _ h => h)
      (focus (first | exact wanted_none rfl | exact wanted_yes rfl rfl rfl))
      (focus (intro w' hS; obtain ⟨c0, c1, c2, c3⟩ := HP.out _ hS; simp [go_sem, valAt, ↓IntWalk.iteOmega, *]; (try go_ints); (with_reducible exact valUpon_val)))
      (focus exact hT0.o)
      (focus (first|(apply put_some rfl;focus (conv=>lhs;dsimp only [Xr,Xs])<;>rfl)|exact put_none rfl))
      (with_reducible apply drawn_v 8)
      (focus rfl)
      (focus kernel_rfl)
      (focus kernel_rfl)
      (focus kernel_rfl)
      (focus exact fun _ _ _ h => h)
      (focus (first | exact wanted_none rfl | exact wanted_yes rfl rfl rfl))
      (focus (intro w' hS; obtain ⟨c0, c1, c2, c3⟩ := HP.out _ hS; simp [go_sem, valAt, ↓IntWalk.iteOmega, *]; (try go_ints); (with_reducible exact valUpon_val)))
      (focus exact hT0.o)
      (focus (first|(apply put_some rfl;focus (conv=>lhs;dsimp only [Xr,Xs])<;>rfl)|exact put_none rfl))
      (with_reducible apply drawn_v 9)
      (focus rfl)
      (focus kernel_rfl)
      (focus kernel_rfl)
      (focus kernel_rfl)
      (focus exact fun _ _ _ h => h)
      (focus (first | exact wanted_none rfl | exact wanted_yes rfl rfl rfl))
      (focus (intro w' hS; obtain ⟨c0, c1, c2, c3⟩ := HP.out _ hS; simp [go_sem, valAt, ↓IntWalk.iteOmega, *]; (try go_ints); (with_reducible exact valUpon_val)))
      (focus exact hT0.o)
      (focus (first|(apply put_some rfl;focus (conv=>lhs;dsimp only [Xr,Xs])<;>rfl)|exact put_none rfl))
      (with_reducible apply drawn_v 10)
      (focus rfl)
      (focus kernel_rfl)
      (focus kernel_rfl)
      (focus kernel_rfl)
      (focus exact fun _ _ _ h => h)
      (focus (first | exact wanted_none rfl | exact wanted_yes rfl rfl rfl))
      (focus (intro w' hS; obtain ⟨c0, c1, c2, c3⟩ := HP.out _ hS; simp [go_sem, valAt, ↓IntWalk.iteOmega, *]; (try go_ints); (with_reducible exact valUpon_val)))
      (focus exact hT0.o)
      (focus (first|(apply put_some rfl;focus (conv=>lhs;dsimp only [Xr,Xs])<;>rfl)|exact put_none rfl))
      refine wpAnyH_all (rs := [5]) (by kernel_rfl) (by simp) ?_
      refine List.forall_mem_cons.2 ⟨?_, by intro _ h; cases h⟩
      (with_reducible apply drawn_e (Two w g k ⟨s2, ls2, tr2, mo2⟩ x))
      (focus rfl)
      (focus (first | exact wanted_none rfl | exact wanted_yes rfl rfl rfl))
      (focus (simp only [effAt]; simp [go_sem]; (with_reducible exact effUpon_enter (hD1 _ hT0))))
      (focus (first|(apply put_some rfl;focus (conv=>lhs;dsimp only [Xr,Xs])<;>rfl)|exact put_none rfl))
      (focus exact fun w' h => h.2.2)
      intro u1 hT1
      clear hT0 hD1
      refine wpAnyH_all (rs := [11]) (by kernel_rfl) (by simp) ?_
      refine List.forall_mem_cons.2 ⟨?_, by intro _ h; cases h⟩
      (with_reducible apply drawn_e (Two w g k ⟨s2, ls2, tr2, mo2⟩ ⟨s2, ls2, tr2, mo2⟩))
      (focus rfl)
      (focus (first | exact wanted_none rfl | exact wanted_yes rfl rfl rfl))
      (focus (simp only [effAt]; simp [go_sem]; (with_reducible exact effUpon_enter (hD2 _ hT1))))
      (focus (first|(apply put_some rfl;focus (conv=>lhs;dsimp only [Xr,Xs])<;>rfl)|exact put_none rfl))
      (focus exact fun w' h => h.2.2)
      intro u2 hT2
      clear hT1 hD2
      refine wpAnyH_all (rs := [12]) (by kernel_rfl) (by simp) ?_
      refine List.forall_mem_cons.2 ⟨?_, by intro _ h; cases h⟩
      (with_reducible apply drawn_e (Two w g k ⟨s2, ls2, tr2, mo2⟩ ⟨s2, ls2, tr2, mo2⟩))
      (focus rfl)
      (focus (first | exact wanted_none rfl | exact wanted_yes rfl rfl rfl))
      (focus (simp only [effAt]; simp [go_sem]; (with_reducible exact effUpon_enter (hI _ hT2))))
      (focus (first|(apply put_some rfl;focus (conv=>lhs;dsimp only [Xr,Xs])<;>rfl)|exact put_none rfl))
      (focus exact fun w' h => h.2.2)
      intro u3 hT3
      clear hT2 hI
      (with_reducible apply drawn_v 13)
      (focus rfl)
      (focus kernel_rfl)
      (focus kernel_rfl)
      (focus kernel_rfl)
      (focus exact fun _ _ _ h => h)
      (focus (first | exact wanted_none rfl | exact wanted_yes rfl rfl rfl))
      (focus (intro w' hS; simp [go_sem, valAt, ↓IntWalk.iteOmega, *]; (try go_ints); (with_reducible exact valUpon_val)))
      (focus exact hT3.o)
      (focus (first|(apply put_some rfl;focus (conv=>lhs;dsimp only [Xr,Xs])<;>rfl)|exact put_none rfl))
      (with_reducible apply drawn_v 14)
      (focus rfl)
      (focus kernel_rfl)
      (focus kernel_rfl)
      (focus kernel_rfl)
      (focus exact fun _ _ _ h => h)
      (focus (first | exact wanted_none rfl | exact wanted_yes rfl rfl rfl))
      (focus (intro w' hS; simp [go_sem, valAt, ↓IntWalk.iteOmega, *]; (try go_ints); (with_reducible exact valUpon_val)))
      (focus exact hT3.o)
      (focus (first|(apply put_some rfl;focus (conv=>lhs;dsimp only [Xr,Xs])<;>rfl)|exact put_none rfl))
      (with_reducible apply drawn_v 15)
      (focus rfl)
      (focus kernel_rfl)
      (focus kernel_rfl)
      (focus kernel_rfl)
      (focus exact fun _ _ _ h => h)
      (focus (first | exact wanted_none rfl | exact wanted_yes rfl rfl rfl))
      (focus (intro w' hS; simp [go_sem, valAt, ↓IntWalk.iteOmega, *]; (try go_ints); (with_reducible exact valUpon_val)))
      (focus exact hT3.o)
      (focus (first|(apply put_some rfl;focus (conv=>lhs;dsimp only [Xr,Xs])<;>rfl)|exact put_none rfl))
      (with_reducible apply drawn_v 17)
      (focus rfl)
      (focus kernel_rfl)
      (focus kernel_rfl)
      (focus kernel_rfl)
      (focus exact fun _ _ _ h => h)
      (focus (first | exact wanted_none rfl | exact wanted_yes rfl rfl rfl))
      (focus (intro w' hS; simp [go_sem, valAt, ↓IntWalk.iteOmega, *]; (try go_ints); (with_reducible exact valUpon_val)))
      (focus exact hT3.o)
      (focus (first|(apply put_some rfl;focus (conv=>lhs;dsimp only [Xr,Xs])<;>rfl)|exact put_none rfl))
      (with_reducible apply drawn_v 18)
      (focus rfl)
      (focus kernel_rfl)
      (focus kernel_rfl)
      (focus kernel_rfl)
      (focus exact fun _ _ _ h => h)
      (focus (first | exact wanted_none rfl | exact wanted_yes rfl rfl rfl))
      (focus (intro w' hS; simp [go_sem, valAt, ↓IntWalk.iteOmega, *]; (try go_ints); (with_reducible exact valUpon_val)))
      (focus exact hT3.o)
      (focus (first|(apply put_some rfl;focus (conv=>lhs;dsimp only [Xr,Xs])<;>rfl)|exact put_none rfl))
      (with_reducible apply drawn_v 19)
      (focus rfl)
      (focus kernel_rfl)
      (focus kernel_rfl)
      (focus kernel_rfl)
      (focus exact fun _ _ _ h => h)
      (focus (first | exact wanted_none rfl | exact wanted_yes rfl rfl rfl))
      (focus (intro w' hS; simp [go_sem, valAt, ↓IntWalk.iteOmega, *]; (try go_ints); (with_reducible exact valUpon_val)))
      (focus exact hT3.o)
      (focus (first|(apply put_some rfl;focus (conv=>lhs;dsimp only [Xr,Xs])<;>rfl)|exact put_none rfl))
      refine wpAnyH_all (rs := [16, 20]) (by kernel_rfl) (by simp) ?_
      refine List.forall_mem_cons.2 ⟨?_, List.forall_mem_cons.2 ⟨?_, by intro _ h; cases h⟩⟩
      · (with_reducible apply drawn_e (Two w g k ⟨s2, ls2, tr2, mo2⟩ ⟨s2, ls2, tr2, mo2⟩))
        (focus rfl)
        (focus (first | exact wanted_none rfl | exact wanted_yes rfl rfl rfl))
        (focus (simp only [effAt]; simp [go_sem]; (with_reducible exact effUpon_enter (hSt _ hT3))))
        (focus (first|(apply put_some rfl;focus (conv=>lhs;dsimp only [Xr,Xs])<;>rfl)|exact put_none rfl))
        (focus exact fun w' h => h.2.2)
        intro u4 hT4
        refine wpAnyH_all (rs := [20]) (by kernel_rfl) (by simp) ?_
        refine List.forall_mem_cons.2 ⟨?_, by intro _ h; cases h⟩
        (with_reducible apply drawn_e (· = u4))
        (focus rfl)
        (focus (first | exact wanted_none rfl | exact wanted_yes rfl rfl rfl))
        (focus (have hB_r := hT4.rB; dsimp only at hB_r; have hc_r := hB_r.cell; simp [go_sem, effAt, *]; (with_reducible exact effUpon_val)))
        (focus (first|(apply put_some rfl;focus (conv=>lhs;dsimp only [Xr,Xs])<;>rfl)|exact put_none rfl))
        (focus exact fun w' h => h ▸ hT4.o)
        rintro _ rfl
        (with_reducible apply drawn_v 21)
        (focus rfl)
        (focus kernel_rfl)
        (focus kernel_rfl)
        (focus kernel_rfl)
        (focus exact fun _ _ _ h => h)
        (focus (first | exact wanted_none rfl | exact wanted_yes rfl rfl rfl))
        (focus (intro w' hS; simp [go_sem, valAt, ↓IntWalk.iteOmega, *]; (try go_ints); (with_reducible exact valUpon_val)))
        (focus exact hT4.o)
        (focus (first|(apply put_some rfl;focus (conv=>lhs;dsimp only [Xr,Xs])<;>rfl)|exact put_none rfl))
        (with_reducible apply drawn_v 22)
        (focus rfl)
        (focus kernel_rfl)
        (focus kernel_rfl)
        (focus kernel_rfl)
        (focus exact fun _ _ _ h => h)
        (focus (first | exact wanted_none rfl | exact wanted_yes rfl rfl rfl))
        (focus (intro w' hS; simp [go_sem, valAt, ↓IntWalk.iteOmega, *]; (try go_ints); (with_reducible exact valUpon_val)))
        (focus exact hT4.o)
        (focus (first|(apply put_some rfl;focus (conv=>lhs;dsimp only [Xr,Xs])<;>rfl)|exact put_none rfl))
        (with_reducible apply drawn_done)
        (focus kernel_rfl)
        repeat (first|(with_reducible apply Xa)|((with_reducible apply region_k);intro KK kk)|(with_reducible apply Xc)|((with_reducible apply seq_k);intro KK kk)|((with_reducible apply Xk);(focus first|exact wanted_none rfl|exact wanted_yes rfl rfl rfl);(focus (simp [go_sem,effAt,↓IntWalk.iteOmega, *];(try go_ints);with_reducible first|exact Xm|exact Xn));focus (first|(apply put_some rfl;focus (conv=>lhs;dsimp only [Xr,Xs])<;>rfl)|exact put_none rfl))|((with_reducible apply Xl);(focus first|exact wanted_no rfl rfl rfl|exact wanted_undef rfl rfl rfl);focus (first|(apply put_some rfl;focus (conv=>lhs;dsimp only [Xr,Xs])<;>rfl)|exact put_none rfl))|(with_reducible first|apply Xe|apply Xf|apply Xg|apply Xh)|((with_reducible apply Xi);focus first|rfl|(simp [go_sem, *];done))|((with_reducible apply Xj);focus first|rfl|(simp [go_sem, *];done))|(simp only [Exit.then,Exit.inBlock,↓reduceIte,Nat.reduceEqDiff])|((with_reducible apply kf_out);focus assumption))
        refine hK _ _ (Handed.intro (gk - 1) ?measure (hJ _ _ _ ?_))
        rotate_left
        (repeat apply Exists.intro)
        refine ⟨?rel, rfl⟩
        case rel => exact ⟨i + 1, _, by go_num, by omega, hgood2, hT4⟩
        case measure => omega
      · (with_reducible apply drawn_e (· = u3))
        (focus rfl)
        (focus (first | exact wanted_none rfl | exact wanted_yes rfl rfl rfl))
        (focus (have hB_r := hT3.rB; dsimp only at hB_r; have hc_r := hB_r.cell; simp [go_sem, effAt, *]; (with_reducible exact effUpon_val)))
        (focus (first|(apply put_some rfl;focus (conv=>lhs;dsimp only [Xr,Xs])<;>rfl)|exact put_none rfl))
        (focus exact fun w' h => h ▸ hT3.o)
        rintro _ rfl
        refine wpAnyH_all (rs := [16]) (by kernel_rfl) (by simp) ?_
        refine List.forall_mem_cons.2 ⟨?_, by intro _ h; cases h⟩
        (with_reducible apply drawn_e (Two w g k ⟨s2, ls2, tr2, mo2⟩ ⟨s2, ls2, tr2, mo2⟩))
        (focus rfl)
        (focus (first | exact wanted_none rfl | exact wanted_yes rfl rfl rfl))
        (focus (simp only [effAt]; simp [go_sem]; (with_reducible exact effUpon_enter (hSt _ hT3))))
        (focus (first|(apply put_some rfl;focus (conv=>lhs;dsimp only [Xr,Xs])<;>rfl)|exact put_none rfl))
        (focus exact fun w' h => h.2.2)
        intro u4 hT4
        (with_reducible apply drawn_v 21)
        (focus rfl)
        (focus kernel_rfl)
        (focus kernel_rfl)
        (focus kernel_rfl)
        (focus exact fun _ _ _ h => h)
        (focus (first | exact wanted_none rfl | exact wanted_yes rfl rfl rfl))
        (focus (intro w' hS; simp [go_sem, valAt, ↓IntWalk.iteOmega, *]; (try go_ints); (with_reducible exact valUpon_val)))
        (focus exact hT4.o)
        (focus (first|(apply put_some rfl;focus (conv=>lhs;dsimp only [Xr,Xs])<;>rfl)|exact put_none rfl))
        (with_reducible apply drawn_v 22)
        (focus rfl)
        (focus kernel_rfl)
        (focus kernel_rfl)
        (focus kernel_rfl)
        (focus exact fun _ _ _ h => h)
        (focus (first | exact wanted_none rfl | exact wanted_yes rfl rfl rfl))
        (focus (intro w' hS; simp [go_sem, valAt, ↓IntWalk.iteOmega, *]; (try go_ints); (with_reducible exact valUpon_val)))
        (focus exact hT4.o)
        (focus (first|(apply put_some rfl;focus (conv=>lhs;dsimp only [Xr,Xs])<;>rfl)|exact put_none rfl))
        (with_reducible apply drawn_done)
        (focus kernel_rfl)
        repeat (first|(with_reducible apply Xa)|((with_reducible apply region_k);intro KK kk)|(with_reducible apply Xc)|((with_reducible apply seq_k);intro KK kk)|((with_reducible apply Xk);(focus first|exact wanted_none rfl|exact wanted_yes rfl rfl rfl);(focus (simp [go_sem,effAt,↓IntWalk.iteOmega, *];(try go_ints);with_reducible first|exact Xm|exact Xn));focus (first|(apply put_some rfl;focus (conv=>lhs;dsimp only [Xr,Xs])<;>rfl)|exact put_none rfl))|((with_reducible apply Xl);(focus first|exact wanted_no rfl rfl rfl|exact wanted_undef rfl rfl rfl);focus (first|(apply put_some rfl;focus (conv=>lhs;dsimp only [Xr,Xs])<;>rfl)|exact put_none rfl))|(with_reducible first|apply Xe|apply Xf|apply Xg|apply Xh)|((with_reducible apply Xi);focus first|rfl|(simp [go_sem, *];done))|((with_reducible apply Xj);focus first|rfl|(simp [go_sem, *];done))|(simp only [Exit.then,Exit.inBlock,↓reduceIte,Nat.reduceEqDiff])|((with_reducible apply kf_out);focus assumption))
        refine hK _ _ (Handed.intro (gk - 1) ?measure (hJ _ _ _ ?_))
        rotate_left
        (repeat apply Exists.intro)
        refine ⟨?rel, rfl⟩
        case rel => exact ⟨i + 1, _, by go_num, by omega, hgood2, hT4⟩
        case measure => omega
end Go.Proofs.Ytggpecddkbceoaa

