/- What a link says, and when: the plain law; the walk of LinkSays. -/
import Derived.Test.YtggpecddkbceoaaLa
import Derived.Test.YtggpecddkbceoaaKf
import Derived.Deep.DeepCutAuto
import Derived.Deep.CutRange
set_option linter.unusedSimpArgs false
set_option linter.unusedVariables false
namespace Go.Proofs.Ytggpecddkbceoaa
open Go.RowKit Go.Eff
attribute [local irreducible] Go.wpList
/-- what may be said when m was done (a frame with cmd, pf) -/
def Says (m : Int) (cmd pf : Bool) (a : AT) : Prop :=
  (a.1 = 0 → a.2.1 = false ∧ a.2.2.1 = false ∧ ¬ a.2.2.2.1 = 1) ∧ (¬ a.1 = 0 → a.2.1 = true → m < 3 ∧ a.2.2.2.1 = 1) ∧ (¬ a.1 = 0 → a.2.1 = false → 4 ≤ m ∧ cmd = true ∧ a.2.2.1 = pf ∧ ¬ a.2.2.2.1 = 1)
theorem says_none (m : Int) (cmd pf : Bool) (t f : Int) (ht : ¬ t = 1) : Says m cmd pf (0, false, false, t, f) := ⟨fun _ => ⟨rfl, rfl, ht⟩, fun h => absurd rfl h, fun h => absurd rfl h⟩
theorem says_cmd (m k : Int) (cmd pf : Bool) (hk : ¬ k = 0) (hm : m < 3) : Says m cmd pf (k, true, true, 1, 0) := ⟨fun h => absurd h hk, fun _ _ => ⟨hm, rfl⟩, fun _ h => by cases h⟩
theorem says_resp (m k t f : Int) (pf : Bool) (hm : 4 ≤ m) (ht : ¬ t = 1) : Says m true pf (k, false, pf && k != 0, t, f) := by
  refine ⟨fun h => ⟨rfl, ?_, ht⟩, fun _ h => (by cases h), fun h _ => ⟨hm, rfl, ?_, ht⟩⟩
  · show (pf && k != 0) = false
    have h' : k = 0 := h
    subst h'; simp
  · show (pf && k != 0) = pf
    have h' : (k != 0) = true := by simpa using h
    rw [h', Bool.and_true]
theorem says_own {m : Int} (cmd pf : Bool) (hm : m < 3) {l : LS} {e : Ev} (he : e = .opens ∨ e = .closes ∨ e = .due) : Says m cmd pf (evF l e).1 := by
  unfold evF openingF upF closingF downF beginF againF goF
  rcases he with rfl | rfl | rfl <;> dsimp only <;> repeat' split
  all_goals first | exact says_cmd _ _ _ _ (by omega) hm | exact says_none _ _ _ _ _ (by omega)
theorem says_r (m : Int) (cmd pf : Bool) (l : LS) (k : Int) : Says m cmd pf (evF l (.resp k)).1 := by
  unfold evF openingF upF closingF downF beginF againF goF
  dsimp only
  repeat' split
  all_goals exact says_none _ _ _ _ _ (by omega)
/-- a command heard: no command back, and its timer is not begun -/
theorem cmd_shape (l : LS) (k a : Int) : (evF l (.cmd k a)).1.2.1 = false ∧ ¬ (evF l (.cmd k a)).1.2.2.2.1 = 1 := by
  unfold evF openingF upF closingF downF beginF againF goF
  dsimp only
  repeat' split
  all_goals first | exact ⟨rfl, by show ¬ (0 : Int) = 1; decide⟩ | exact ⟨rfl, by show ¬ (2 : Int) = 1; decide⟩
theorem says_heard {m : Int} (hm : 4 ≤ m) (l : LS) (k : Int) (pf : Bool) : Says m true pf (heardF l k pf).1 := by
  have h := cmd_shape l k (ansOf k pf)
  unfold heardF bitF
  generalize evF l (.cmd k (ansOf k pf)) = y at h ⊢
  obtain ⟨⟨k1, c1, p1, t1, f1⟩, x2⟩ := y
  dsimp only at h ⊢
  obtain ⟨rfl, ht⟩ := h
  exact says_resp m k1 t1 f1 pf hm ht
theorem says_hear {m : Int} (hm : 4 ≤ m) (l : LS) (k : Int) (pf cmd : Bool) : Says m cmd pf (hearF l k pf cmd).1 := by
  unfold hearF
  repeat' split
  all_goals first | exact says_none _ _ _ _ _ (by omega) | exact says_r _ _ _ _ _ | skip
  all_goals
    rename_i hc
    subst hc
    exact says_heard hm l k pf
theorem says_do (l : LS) (m k : Int) (pf cmd : Bool) (hm : 0 ≤ m) : Says m cmd pf (doF l m k pf cmd).1 := by
  unfold doF
  split
  · exact says_own _ _ (by omega) (.inl rfl)
  split
  · exact says_own _ _ (by omega) (.inr (.inl rfl))
  split
  · exact says_own _ _ (by omega) (.inr (.inr rfl))
  split
  · exact says_none _ _ _ _ _ (by omega)
  · exact says_hear (by omega) l k pf cmd
/-- one that is Up stays so -/
theorem stays (l : LS) (m k : Int) (pf cmd : Bool) (hs : l.s = 3) (hm : 3 < m) (h1 : ¬ k = 1) (h4 : ¬ k = 4) (h3 : ¬ k = 3) : (doF l m k pf cmd).1 = N0 ∧ (doF l m k pf cmd).2.s = 3 := by
  obtain ⟨s, ls, tr, mo⟩ := l
  dsimp only at hs
  subst hs
  unfold doF
  rw [if_neg (by omega), if_neg (by omega), if_neg (by omega), if_neg (by omega)]
  unfold hearF heardF bitF evF upF goF
  repeat' split
  all_goals first | exact ⟨rfl, rfl⟩ | (exfalso; omega) | simp_all
/-- what is known between the calls -/
def One (w0 : World) (g : Nat) (l : LS) (w : World) : Prop := LL w g l ∧ Below w0.heap.size w0 w
section
variable {v : Value} {w0 w w' w1 : World} {g : Nat} {l l' : LS} {f : FuncId} {args : Array Value}
theorem One.x (hw : One w0 g l w) : LL w g l := hw.1
theorem One.b (hw : One w0 g l w) : Blk w g 57 #[.int .u8 l.s, .bool l.ls, .int .i64 l.tr, .int .i64 l.mo] := hw.1
theorem One.o (hw : One w0 g l w) : Below w0.heap.size w0 w := hw.2
theorem one_l (hw : One w0 g l w1) (h0 : w0.heap.size ≤ g) (hc : Calls Try.prog f args w1 (Ret v fun w' => LL w' g l' ∧ w1.grownBy w' (some g))) : Calls Try.prog f args w1 (Ret v (One w0 g l')) :=
  hc.mono fun e w' ⟨he, h1, h2⟩ => ⟨he, h1, hw.2.grown h2 hw.2.size (by intro j hj; injection hj with hj; omega)⟩
theorem one_read (hw : One w0 g l w1) (hc : Calls Try.prog f args w1 (Ret v (Below w1.heap.size w1))) : Calls Try.prog f args w1 (Ret v (One w0 g l)) :=
  hc.mono fun e w' ⟨he, h1⟩ => ⟨he, Blk.below hw.1 h1 (Blk.lt hw.1), hw.2.trans (h1.mono hw.2.size)⟩
end
set_option maxRecDepth 100000 in
set_option maxHeartbeats 8000000 in
theorem linksays_any (n2 : Int) (v : Value) (l : List Cll) (w : World) (h : Arg w v l) : Calls Try.prog 6 #[.int .i64 n2, v] w (Ret (.bool true) (Below w.heap.size w)) := by
  obtain ⟨p, cap, rfl, hmax, hc⟩ := h
  obtain ⟨n, hn'⟩ : ∃ n, l.length = n := ⟨_, rfl⟩
  rw [hn'] at hmax ⊢
  have HC := Lib.hid hc
  clear hc
  by_cases hf : (200 : Int) < (n : Int)
  case pos =>
    go_enter Try.func6, Try.ntmps6
    have F0 : Below w.heap.size w w := Below.refl _ _
    repeat (first|(with_reducible apply Xa)|((with_reducible apply region_k);intro KK kk)|(with_reducible apply Xc)|((with_reducible apply seq_k);intro KK kk)|((with_reducible apply Xk);(focus first|exact wanted_none rfl|exact wanted_yes rfl rfl rfl);(focus (simp [go_sem,effAt,↓IntWalk.iteOmega, *];(try go_ints);with_reducible first|exact Xm|exact Xn));focus (first|(apply put_some rfl;focus (conv=>lhs;dsimp only [Xr,Xs])<;>rfl)|exact put_none rfl))|((with_reducible apply Xl);(focus first|exact wanted_no rfl rfl rfl|exact wanted_undef rfl rfl rfl);focus (first|(apply put_some rfl;focus (conv=>lhs;dsimp only [Xr,Xs])<;>rfl)|exact put_none rfl))|(with_reducible first|apply Xe|apply Xf|apply Xg|apply Xh)|((with_reducible apply Xi);focus first|rfl|(simp [go_sem, *];done))|((with_reducible apply Xj);focus first|rfl|(simp [go_sem, *];done))|(simp only [Exit.then,Exit.inBlock,↓reduceIte,Nat.reduceEqDiff])|((with_reducible apply kf_out);focus assumption))
    ((with_reducible apply Xt (Below w.heap.size w)); (focus rfl); (focus (simp only [effAt]; simp [go_sem]; (with_reducible exact effUpon_enter (works_any _)))); (focus ((first|(apply put_some rfl;focus (conv=>lhs;dsimp only [Xr,Xs])<;>rfl)|exact put_none rfl))))
    intro w1 hs
    have Fw1 := F0.trans (hs.mono F0.size)
    clear hs F0
    repeat (first|(with_reducible apply Xa)|((with_reducible apply region_k);intro KK kk)|(with_reducible apply Xc)|((with_reducible apply seq_k);intro KK kk)|((with_reducible apply Xk);(focus first|exact wanted_none rfl|exact wanted_yes rfl rfl rfl);(focus (simp [go_sem,effAt,↓IntWalk.iteOmega, *];(try go_ints);with_reducible first|exact Xm|exact Xn));focus (first|(apply put_some rfl;focus (conv=>lhs;dsimp only [Xr,Xs])<;>rfl)|exact put_none rfl))|((with_reducible apply Xl);(focus first|exact wanted_no rfl rfl rfl|exact wanted_undef rfl rfl rfl);focus (first|(apply put_some rfl;focus (conv=>lhs;dsimp only [Xr,Xs])<;>rfl)|exact put_none rfl))|(with_reducible first|apply Xe|apply Xf|apply Xg|apply Xh)|((with_reducible apply Xi);focus first|rfl|(simp [go_sem, *];done))|((with_reducible apply Xj);focus first|rfl|(simp [go_sem, *];done))|(simp only [Exit.then,Exit.inBlock,↓reduceIte,Nat.reduceEqDiff])|((with_reducible apply kf_out);focus assumption))
    go_ret
    exact ⟨rfl, by assumption⟩
  have hN1 := new_any n2
  have hgood := good_new n2
  generalize mostOf n2 = mo at *
  obtain ⟨g, hg⟩ : ∃ g, w.heap.size = g := ⟨_, rfl⟩
  have h0 : w.heap.size ≤ g := by omega
  have E1 := Lib.hid hg
  have hN : Calls Try.prog 10 #[.int .i64 n2] w (Ret (.pointer (some ⟨g, 0, none⟩)) (One w g ⟨1, false, 0, mo⟩)) := by
    have h := hN1 w
    rw [hg] at h
    exact h.mono fun e w' ⟨he, h1, h2⟩ => ⟨he, h1, by rw [hg]; exact h2⟩
  clear hg hN1
  go_enter Try.func6, Try.ntmps6
  have F0 : Below w.heap.size w w := Below.refl _ _
  repeat (first|(with_reducible apply Xa)|((with_reducible apply region_k);intro KK kk)|(with_reducible apply Xc)|((with_reducible apply seq_k);intro KK kk)|((with_reducible apply Xk);(focus first|exact wanted_none rfl|exact wanted_yes rfl rfl rfl);(focus (simp [go_sem,effAt,↓IntWalk.iteOmega, *];(try go_ints);with_reducible first|exact Xm|exact Xn));focus (first|(apply put_some rfl;focus (conv=>lhs;dsimp only [Xr,Xs])<;>rfl)|exact put_none rfl))|((with_reducible apply Xl);(focus first|exact wanted_no rfl rfl rfl|exact wanted_undef rfl rfl rfl);focus (first|(apply put_some rfl;focus (conv=>lhs;dsimp only [Xr,Xs])<;>rfl)|exact put_none rfl))|(with_reducible first|apply Xe|apply Xf|apply Xg|apply Xh)|((with_reducible apply Xi);focus first|rfl|(simp [go_sem, *];done))|((with_reducible apply Xj);focus first|rfl|(simp [go_sem, *];done))|(simp only [Exit.then,Exit.inBlock,↓reduceIte,Nat.reduceEqDiff])|((with_reducible apply kf_out);focus assumption))
  with_reducible apply Xt (One w g ⟨1, false, 0, mo⟩)
  focus rfl
  focus (simp only [effAt]; simp [go_sem]; (with_reducible exact effUpon_enter hN))
  (first|(apply put_some rfl;focus (conv=>lhs;dsimp only [Xr,Xs])<;>rfl)|exact put_none rfl)
  rintro x1 hT
  clear F0 hN
  repeat (first|(with_reducible apply Xa)|((with_reducible apply region_k);intro KK kk)|(with_reducible apply Xc)|((with_reducible apply seq_k);intro KK kk)|((with_reducible apply Xk);(focus first|exact wanted_none rfl|exact wanted_yes rfl rfl rfl);(focus (simp [go_sem,effAt,↓IntWalk.iteOmega, *];(try go_ints);with_reducible first|exact Xm|exact Xn));focus (first|(apply put_some rfl;focus (conv=>lhs;dsimp only [Xr,Xs])<;>rfl)|exact put_none rfl))|((with_reducible apply Xl);(focus first|exact wanted_no rfl rfl rfl|exact wanted_undef rfl rfl rfl);focus (first|(apply put_some rfl;focus (conv=>lhs;dsimp only [Xr,Xs])<;>rfl)|exact put_none rfl))|(with_reducible first|apply Xe|apply Xf|apply Xg|apply Xh)|((with_reducible apply Xi);focus first|rfl|(simp [go_sem, *];done))|((with_reducible apply Xj);focus first|rfl|(simp [go_sem, *];done))|(simp only [Exit.then,Exit.inBlock,↓reduceIte,Nat.reduceEqDiff])|((with_reducible apply kf_out);focus assumption))
  go_loopg [6] n (fun q v6 wr => ∃ (i : Nat) (x : LS), v6 = .int .i64 (i : Int) ∧ i + q = n ∧ Good x ∧ One w g x wr)
  case atStart => exact ⟨0, _, rfl, by omega, hgood, hT⟩
  case round =>
    rename_i J K hJ hK
    clear hT hgood
    obtain ⟨i, x, rfl, hi, hgood, hT⟩ := hrel
    by_cases hlt : i < n
    case neg =>
      have Fwr : Below wr.heap.size wr wr := Below.refl _ _
      repeat (first|(with_reducible apply Xa)|((with_reducible apply region_k);intro KK kk)|(with_reducible apply Xc)|((with_reducible apply seq_k);intro KK kk)|((with_reducible apply Xk);(focus first|exact wanted_none rfl|exact wanted_yes rfl rfl rfl);(focus (simp [go_sem,effAt,↓IntWalk.iteOmega, *];(try go_ints);with_reducible first|exact Xm|exact Xn));focus (first|(apply put_some rfl;focus (conv=>lhs;dsimp only [Xr,Xs])<;>rfl)|exact put_none rfl))|((with_reducible apply Xl);(focus first|exact wanted_no rfl rfl rfl|exact wanted_undef rfl rfl rfl);focus (first|(apply put_some rfl;focus (conv=>lhs;dsimp only [Xr,Xs])<;>rfl)|exact put_none rfl))|(with_reducible first|apply Xe|apply Xf|apply Xg|apply Xh)|((with_reducible apply Xi);focus first|rfl|(simp [go_sem, *];done))|((with_reducible apply Xj);focus first|rfl|(simp [go_sem, *];done))|(simp only [Exit.then,Exit.inBlock,↓reduceIte,Nat.reduceEqDiff])|((with_reducible apply kf_out);focus assumption))
      ((with_reducible apply Xt (Below wr.heap.size wr)); (focus rfl); (focus (simp only [effAt]; simp [go_sem]; (with_reducible exact effUpon_enter (works_any _)))); (focus ((first|(apply put_some rfl;focus (conv=>lhs;dsimp only [Xr,Xs])<;>rfl)|exact put_none rfl))))
      intro w2 hs
      have Fw2 := Fwr.trans (hs.mono Fwr.size)
      clear hs Fwr
      repeat (first|(with_reducible apply Xa)|((with_reducible apply region_k);intro KK kk)|(with_reducible apply Xc)|((with_reducible apply seq_k);intro KK kk)|((with_reducible apply Xk);(focus first|exact wanted_none rfl|exact wanted_yes rfl rfl rfl);(focus (simp [go_sem,effAt,↓IntWalk.iteOmega, *];(try go_ints);with_reducible first|exact Xm|exact Xn));focus (first|(apply put_some rfl;focus (conv=>lhs;dsimp only [Xr,Xs])<;>rfl)|exact put_none rfl))|((with_reducible apply Xl);(focus first|exact wanted_no rfl rfl rfl|exact wanted_undef rfl rfl rfl);focus (first|(apply put_some rfl;focus (conv=>lhs;dsimp only [Xr,Xs])<;>rfl)|exact put_none rfl))|(with_reducible first|apply Xe|apply Xf|apply Xg|apply Xh)|((with_reducible apply Xi);focus first|rfl|(simp [go_sem, *];done))|((with_reducible apply Xj);focus first|rfl|(simp [go_sem, *];done))|(simp only [Exit.then,Exit.inBlock,↓reduceIte,Nat.reduceEqDiff])|((with_reducible apply kf_out);focus assumption))
      go_ret
      exact ⟨rfl, hT.o.trans (Below.mono (by assumption) hT.o.size)⟩
    case pos =>
      obtain ⟨c, hce⟩ : ∃ c, l[i]? = some c := ⟨_, List.getElem?_eq_getElem (by omega)⟩
      obtain ⟨a, ga, o, rfl, hao, ha, c0, c1, c2, c3, hk0⟩ := HC.out i c hce
      clear hce
      obtain ⟨kd, fr, pf, cmd⟩ := c
      dsimp only at c0 c1 c2 c3 hk0
      have C0 := Lib.hid c0
      have C1 := Lib.hid c1
      have C2 := Lib.hid c2
      have C3 := Lib.hid c3
      clear c0 c1 c2 c3
      obtain ⟨m, hm⟩ : ∃ m, kd % 6 = m := ⟨_, rfl⟩
      have hm6 : 0 ≤ m ∧ m < 6 := by omega
      have hPi := pick_any kd 6 (by omega) hk0
      have hD := fun w1 (hT : One w g x w1) => one_l hT h0 (ldo_any g x hgood kd fr pf cmd hk0 w1 hT.x)
      have hSt0 := fun w1 (hT : One w g x w1) => one_read hT (state_any g x.s x.ls x.tr x.mo w1 hT.x)
      have hgood2 := good_do hgood (kd % 6) fr pf cmd
      have hsay := says_do x (kd % 6) fr pf cmd (by omega)
      have hstay := stays x (kd % 6) fr pf cmd
      rw [hm] at hPi hD hgood2 hsay hstay
      clear hm hk0 hgood
      generalize doF x m fr pf cmd = y at hD hgood2 hsay hstay
      obtain ⟨⟨k1, cc1, p1, t1, f1⟩, x2⟩ := y
      dsimp only at hD hgood2 hsay hstay
      obtain ⟨s2, ls2, tr2, mo2⟩ := x2
      obtain ⟨s, ls, tr, mo0⟩ := x
      dsimp only at hSt0 hstay hsay
      obtain ⟨hy1, hy2, hy3⟩ := hsay
      dsimp only at hy1 hy2 hy3
      have HST := Lib.hid hstay
      have HY1 := Lib.hid hy1
      have HY2 := Lib.hid hy2
      have HY3 := Lib.hid hy3
      have hSt2 := fun w1 h => state_any g s2 ls2 tr2 mo2 w1 h
      unfold LB at hSt2
      clear hstay hy1 hy2 hy3
      repeat (first|(with_reducible apply Xa)|((with_reducible apply region_k);intro KK kk)|(with_reducible apply Xc)|((with_reducible apply seq_k);intro KK kk)|((with_reducible apply Xk);(focus first|exact wanted_none rfl|exact wanted_yes rfl rfl rfl);(focus (simp [go_sem,effAt,↓IntWalk.iteOmega, *];(try go_ints);with_reducible first|exact Xm|exact Xn));focus (first|(apply put_some rfl;focus (conv=>lhs;dsimp only [Xr,Xs])<;>rfl)|exact put_none rfl))|((with_reducible apply Xl);(focus first|exact wanted_no rfl rfl rfl|exact wanted_undef rfl rfl rfl);focus (first|(apply put_some rfl;focus (conv=>lhs;dsimp only [Xr,Xs])<;>rfl)|exact put_none rfl))|(with_reducible first|apply Xe|apply Xf|apply Xg|apply Xh)|((with_reducible apply Xi);focus first|rfl|(simp [go_sem, *];done))|((with_reducible apply Xj);focus first|rfl|(simp [go_sem, *];done))|(simp only [Exit.then,Exit.inBlock,↓reduceIte,Nat.reduceEqDiff])|((with_reducible apply kf_out);focus assumption))
      with_reducible apply Xt (One w g ⟨s, ls, tr, mo0⟩)
      focus rfl
      focus (simp only [effAt]; simp [go_sem]; (with_reducible exact effUpon_enter (hSt0 _ hT)))
      (first|(apply put_some rfl;focus (conv=>lhs;dsimp only [Xr,Xs])<;>rfl)|exact put_none rfl)
      rintro x3 hT3
      clear hSt0 hT
      have c0 := (hT3.o.cell (p := ⟨ga, o, none⟩) ha).trans C0.out
      have c1 := (hT3.o.cell (p := ⟨ga, o + 1, none⟩) ha).trans C1.out
      have c2 := (hT3.o.cell (p := ⟨ga, o + 2, none⟩) ha).trans C2.out
      have c3 := (hT3.o.cell (p := ⟨ga, o + 3, none⟩) ha).trans C3.out
      repeat (first|(with_reducible apply Xa)|((with_reducible apply region_k);intro KK kk)|(with_reducible apply Xc)|((with_reducible apply seq_k);intro KK kk)|((with_reducible apply Xk);(focus first|exact wanted_none rfl|exact wanted_yes rfl rfl rfl);(focus (simp [go_sem,effAt,↓IntWalk.iteOmega, *];(try go_ints);with_reducible first|exact Xm|exact Xn));focus (first|(apply put_some rfl;focus (conv=>lhs;dsimp only [Xr,Xs])<;>rfl)|exact put_none rfl))|((with_reducible apply Xl);(focus first|exact wanted_no rfl rfl rfl|exact wanted_undef rfl rfl rfl);focus (first|(apply put_some rfl;focus (conv=>lhs;dsimp only [Xr,Xs])<;>rfl)|exact put_none rfl))|(with_reducible first|apply Xe|apply Xf|apply Xg|apply Xh)|((with_reducible apply Xi);focus first|rfl|(simp [go_sem, *];done))|((with_reducible apply Xj);focus first|rfl|(simp [go_sem, *];done))|(simp only [Exit.then,Exit.inBlock,↓reduceIte,Nat.reduceEqDiff])|((with_reducible apply kf_out);focus assumption))
      with_reducible apply Xt (One w g ⟨s2, ls2, tr2, mo2⟩)
      focus rfl
      focus (simp only [effAt]; simp [go_sem]; (with_reducible exact effUpon_enter (hD _ hT3)))
      (first|(apply put_some rfl;focus (conv=>lhs;dsimp only [Xr,Xs])<;>rfl)|exact put_none rfl)
      rintro x4 hT4
      clear hT3 hD c0 c1 c2 c3
      have D0 := Lib.hid ((hT4.o.cell (p := ⟨ga, o, none⟩) ha).trans C0.out)
      have D1 := Lib.hid ((hT4.o.cell (p := ⟨ga, o + 1, none⟩) ha).trans C1.out)
      have D2 := Lib.hid ((hT4.o.cell (p := ⟨ga, o + 2, none⟩) ha).trans C2.out)
      have D3 := Lib.hid ((hT4.o.cell (p := ⟨ga, o + 3, none⟩) ha).trans C3.out)
      have hgx : ga < x4.heap.size := Nat.lt_of_lt_of_le ha hT4.o.size
      have hB_l := hT4.b
      dsimp only at hB_l
      have hO4 := hT4.o
      clear hT4 C0 C1 C2 C3
      have Fx4 : Below x4.heap.size x4 x4 := Below.refl _ _
      have hc_l := hB_l.cell
      have d0 := D0.out
      have d1 := D1.out
      have d2 := D2.out
      have d3 := D3.out
      repeat (first|(with_reducible apply Xa)|((with_reducible apply region_k);intro KK kk)|(with_reducible apply Xc)|((with_reducible apply seq_k);intro KK kk)|((with_reducible apply Xk);(focus first|exact wanted_none rfl|exact wanted_yes rfl rfl rfl);(focus (simp [go_sem,effAt,↓IntWalk.iteOmega, *];(try go_ints);with_reducible first|exact Xm|exact Xn));focus (first|(apply put_some rfl;focus (conv=>lhs;dsimp only [Xr,Xs])<;>rfl)|exact put_none rfl))|((with_reducible apply Xl);(focus first|exact wanted_no rfl rfl rfl|exact wanted_undef rfl rfl rfl);focus (first|(apply put_some rfl;focus (conv=>lhs;dsimp only [Xr,Xs])<;>rfl)|exact put_none rfl))|(with_reducible first|apply Xe|apply Xf|apply Xg|apply Xh)|((with_reducible apply Xi);focus first|rfl|(simp [go_sem, *];done))|((with_reducible apply Xj);focus first|rfl|(simp [go_sem, *];done))|(simp only [Exit.then,Exit.inBlock,↓reduceIte,Nat.reduceEqDiff])|((with_reducible apply kf_out);focus assumption))
      have lt_l_a := hB_l.lt
      ((with_reducible apply Xu); (focus rfl); (focus (simp [go_sem, effAt]; exact ⟨rfl, rfl⟩)); (focus ((first|(apply put_some rfl;focus (conv=>lhs;dsimp only [Xr,Xs])<;>rfl)|exact put_none rfl))))
      intro w3 hB_a hs
      have Fw3 := Fx4.trans (hs.mono Fx4.size)
      replace hB_l := hB_l.below hs hB_l.lt
      clear hs Fx4
      clear hc_l; have hc_l := hB_l.cell
      clear d0; have d0 := (Fw3.cell (p := ⟨ga, o, none⟩) hgx).trans D0.out
      clear d1; have d1 := (Fw3.cell (p := ⟨ga, o + 1, none⟩) hgx).trans D1.out
      clear d2; have d2 := (Fw3.cell (p := ⟨ga, o + 2, none⟩) hgx).trans D2.out
      clear d3; have d3 := (Fw3.cell (p := ⟨ga, o + 3, none⟩) hgx).trans D3.out
      have hc_a := hB_a.cell
      repeat (first|(with_reducible apply Xa)|((with_reducible apply region_k);intro KK kk)|(with_reducible apply Xc)|((with_reducible apply seq_k);intro KK kk)|((with_reducible apply Xk);(focus first|exact wanted_none rfl|exact wanted_yes rfl rfl rfl);(focus (simp [go_sem,effAt,↓IntWalk.iteOmega, *];(try go_ints);with_reducible first|exact Xm|exact Xn));focus (first|(apply put_some rfl;focus (conv=>lhs;dsimp only [Xr,Xs])<;>rfl)|exact put_none rfl))|((with_reducible apply Xl);(focus first|exact wanted_no rfl rfl rfl|exact wanted_undef rfl rfl rfl);focus (first|(apply put_some rfl;focus (conv=>lhs;dsimp only [Xr,Xs])<;>rfl)|exact put_none rfl))|(with_reducible first|apply Xe|apply Xf|apply Xg|apply Xh)|((with_reducible apply Xi);focus first|rfl|(simp [go_sem, *];done))|((with_reducible apply Xj);focus first|rfl|(simp [go_sem, *];done))|(simp only [Exit.then,Exit.inBlock,↓reduceIte,Nat.reduceEqDiff])|((with_reducible apply kf_out);focus assumption))
      have hf_a := hB_a.frozen
      ((with_reducible apply Xt (fun w' => Blk w' _ _ _ ∧ w3.grownBy w' (some _))); (focus rfl); (focus (simp [go_sem, effAt, *]; exact ⟨rfl, (((((hB_a.set_ 0 _).set_ 1 _).set_ 2 _).set_ 3 _).set_ 4 _), (grown_set (grown_set (grown_set (grown_set (grown_set (World.grownBy.refl _ _))))))⟩)); (focus ((first|(apply put_some rfl;focus (conv=>lhs;dsimp only [Xr,Xs])<;>rfl)|exact put_none rfl))))
      clear hf_a hc_a hB_a
      intro w4 hs
      obtain ⟨hB_a, hs⟩ := hs
      simp only [Xq,Xr,Xs] at hB_a
      have Fw4 := Fw3.grown hs Fw3.size (by intro k hk; first | (injection hk with hk; subst hk; first | exact Nat.le_refl _ | exact Fw3.size | omega) | omega)
      replace hB_l := hB_l.grown hs (by intro hk; injection hk with hk; have := hB_l.lt; have := hB_a.lt; omega)
      clear hs Fw3
      clear hc_l; have hc_l := hB_l.cell
      have hc_a := hB_a.cell
      clear d0; have d0 := (Fw4.cell (p := ⟨ga, o, none⟩) hgx).trans D0.out
      clear d1; have d1 := (Fw4.cell (p := ⟨ga, o + 1, none⟩) hgx).trans D1.out
      clear d2; have d2 := (Fw4.cell (p := ⟨ga, o + 2, none⟩) hgx).trans D2.out
      clear d3; have d3 := (Fw4.cell (p := ⟨ga, o + 3, none⟩) hgx).trans D3.out
      repeat (first|(with_reducible apply Xa)|((with_reducible apply region_k);intro KK kk)|(with_reducible apply Xc)|((with_reducible apply seq_k);intro KK kk)|((with_reducible apply Xk);(focus first|exact wanted_none rfl|exact wanted_yes rfl rfl rfl);(focus (simp [go_sem,effAt,↓IntWalk.iteOmega, *];(try go_ints);with_reducible first|exact Xm|exact Xn));focus (first|(apply put_some rfl;focus (conv=>lhs;dsimp only [Xr,Xs])<;>rfl)|exact put_none rfl))|((with_reducible apply Xl);(focus first|exact wanted_no rfl rfl rfl|exact wanted_undef rfl rfl rfl);focus (first|(apply put_some rfl;focus (conv=>lhs;dsimp only [Xr,Xs])<;>rfl)|exact put_none rfl))|(with_reducible first|apply Xe|apply Xf|apply Xg|apply Xh)|((with_reducible apply Xi);focus first|rfl|(simp [go_sem, *];done))|((with_reducible apply Xj);focus first|rfl|(simp [go_sem, *];done))|(simp only [Exit.then,Exit.inBlock,↓reduceIte,Nat.reduceEqDiff])|((with_reducible apply kf_out);focus assumption))
      ((with_reducible apply Xt (Below w4.heap.size w4)); (focus rfl); (focus (simp only [effAt]; simp [go_sem]; (with_reducible exact effUpon_enter (hPi _)))); (focus ((first|(apply put_some rfl;focus (conv=>lhs;dsimp only [Xr,Xs])<;>rfl)|exact put_none rfl))))
      intro w5 hs
      have Fw5 := Fw4.trans (hs.mono Fw4.size)
      replace hB_l := hB_l.below hs hB_l.lt
      replace hB_a := hB_a.below hs hB_a.lt
      clear hs Fw4
      clear hc_l; have hc_l := hB_l.cell
      clear hc_a; have hc_a := hB_a.cell
      clear d0; have d0 := (Fw5.cell (p := ⟨ga, o, none⟩) hgx).trans D0.out
      clear d1; have d1 := (Fw5.cell (p := ⟨ga, o + 1, none⟩) hgx).trans D1.out
      clear d2; have d2 := (Fw5.cell (p := ⟨ga, o + 2, none⟩) hgx).trans D2.out
      clear d3; have d3 := (Fw5.cell (p := ⟨ga, o + 3, none⟩) hgx).trans D3.out
      clear hPi
      repeat (first | ((with_reducible apply seq_q); (focus (first | exact wanted_none rfl | exact wanted_yes rfl rfl rfl)); (focus (simp [go_sem, effAt, ↓IntWalk.iteOmega, *]; (try go_ints); (with_reducible first|exact Xm|exact Xn))); (focus ((first|(apply put_some rfl;focus (conv=>lhs;dsimp only [Xr,Xs])<;>rfl)|exact put_none rfl)))) | ((with_reducible apply seq_s); (focus (first | exact wanted_no rfl rfl rfl | exact wanted_undef rfl rfl rfl)); (focus ((first|(apply put_some rfl;focus (conv=>lhs;dsimp only [Xr,Xs])<;>rfl)|exact put_none rfl)))))
      with_reducible apply wpList_nil
      (simp only [Exit.then, Exit.inBlock, ↓reduceIte, Nat.reduceEqDiff])
      (with_reducible apply kf_out); (focus assumption)
      (with_reducible apply seq_k); intro KK kk
      go_cut [] from 16 to 146 (fun wx => Blk wx g 57 #[.int .u8 s2, .bool ls2, .int .i64 tr2, .int .i64 mo2] ∧ Blk wx x4.heap.size 30 #[.int .u8 k1, .bool cc1, .bool p1, .int .u8 t1, .int .u8 f1] ∧ Below x4.heap.size x4 wx)
      case first =>
        rename_i hJJ hKK
        have hJJ := Lib.hid hJJ
        have hKK := Lib.hid hKK
        by_cases hk : k1 = 0
        case pos =>
          subst hk
          obtain ⟨rfl, rfl, ht1⟩ := HY1.out rfl
          have e1 : (t1 == 1) = false := by simpa using ht1
          clear ht1
          repeat (first|(with_reducible apply Xa)|((with_reducible apply region_k);intro KK kk)|(with_reducible apply Xc)|((with_reducible apply seq_k);intro KK kk)|((with_reducible apply Xk);(focus first|exact wanted_none rfl|exact wanted_yes rfl rfl rfl);(focus (simp [go_sem,effAt,↓IntWalk.iteOmega, *];(try go_ints);with_reducible first|exact Xm|exact Xn));focus (first|(apply put_some rfl;focus (conv=>lhs;dsimp only [Xr,Xs])<;>rfl)|exact put_none rfl))|((with_reducible apply Xl);(focus first|exact wanted_no rfl rfl rfl|exact wanted_undef rfl rfl rfl);focus (first|(apply put_some rfl;focus (conv=>lhs;dsimp only [Xr,Xs])<;>rfl)|exact put_none rfl))|(with_reducible first|apply Xe|apply Xf|apply Xg|apply Xh)|((with_reducible apply Xi);focus first|rfl|(simp [go_sem, *];done))|((with_reducible apply Xj);focus first|rfl|(simp [go_sem, *];done))|(simp only [Exit.then,Exit.inBlock,↓reduceIte,Nat.reduceEqDiff])|((with_reducible apply kf_out);focus assumption))
          refine wp_region_pure (E := fun i => [].contains i) (by kernel_rfl) (by kernel_rfl) ?_
          repeat (first | ((with_reducible apply lex_q); (focus (first | exact wanted_none rfl | exact wanted_yes rfl rfl rfl)); (focus rfl); (focus (intro w' hS; have hc_l := (hB_l.below hS hB_l.lt).cell; have hc_a := (hB_a.below hS hB_a.lt).cell; have d0 := (hS.cell (p := ⟨ga, o, none⟩) (Nat.lt_of_lt_of_le hgx Fw5.size)).trans d0; have d1 := (hS.cell (p := ⟨ga, o + 1, none⟩) (Nat.lt_of_lt_of_le hgx Fw5.size)).trans d1; have d2 := (hS.cell (p := ⟨ga, o + 2, none⟩) (Nat.lt_of_lt_of_le hgx Fw5.size)).trans d2; have d3 := (hS.cell (p := ⟨ga, o + 3, none⟩) (Nat.lt_of_lt_of_le hgx Fw5.size)).trans d3; simp [go_sem, effAt, ↓IntWalk.iteOmega, *]; (try go_ints); (with_reducible first|exact Xm|exact Xn))); (focus ((first|(apply put_some rfl;focus (conv=>lhs;dsimp only [Xr,Xs])<;>rfl)|exact put_none rfl)))) | ((with_reducible apply lex_s); (focus (first | exact wanted_no rfl rfl rfl | exact wanted_undef rfl rfl rfl)); (focus ((first|(apply put_some rfl;focus (conv=>lhs;dsimp only [Xr,Xs])<;>rfl)|exact put_none rfl)))))
          with_reducible apply lex_nil
          intro w6 hs
          have Fw6 := Fw5.trans (hs.mono Fw5.size)
          replace hB_l := hB_l.below hs hB_l.lt
          replace hB_a := hB_a.below hs hB_a.lt
          clear hs Fw5
          clear hc_l; have hc_l := hB_l.cell
          clear hc_a; have hc_a := hB_a.cell
          clear d0; have d0 := (Fw6.cell (p := ⟨ga, o, none⟩) hgx).trans D0.out
          clear d1; have d1 := (Fw6.cell (p := ⟨ga, o + 1, none⟩) hgx).trans D1.out
          clear d2; have d2 := (Fw6.cell (p := ⟨ga, o + 2, none⟩) hgx).trans D2.out
          clear d3; have d3 := (Fw6.cell (p := ⟨ga, o + 3, none⟩) hgx).trans D3.out
          repeat (first|(with_reducible apply Xa)|((with_reducible apply region_k);intro KK kk)|(with_reducible apply Xc)|((with_reducible apply seq_k);intro KK kk)|((with_reducible apply Xk);(focus first|exact wanted_none rfl|exact wanted_yes rfl rfl rfl);(focus (simp [go_sem,effAt,↓IntWalk.iteOmega, *];(try go_ints);with_reducible first|exact Xm|exact Xn));focus (first|(apply put_some rfl;focus (conv=>lhs;dsimp only [Xr,Xs])<;>rfl)|exact put_none rfl))|((with_reducible apply Xl);(focus first|exact wanted_no rfl rfl rfl|exact wanted_undef rfl rfl rfl);focus (first|(apply put_some rfl;focus (conv=>lhs;dsimp only [Xr,Xs])<;>rfl)|exact put_none rfl))|(with_reducible first|apply Xe|apply Xf|apply Xg|apply Xh)|((with_reducible apply Xi);focus first|rfl|(simp [go_sem, *];done))|((with_reducible apply Xj);focus first|rfl|(simp [go_sem, *];done))|(simp only [Exit.then,Exit.inBlock,↓reduceIte,Nat.reduceEqDiff])|((with_reducible apply kf_out);focus assumption))
          refine hKK.out _ _ (Met.intro (hJJ.out _ _ ?_))
          (repeat apply Exists.intro)
          refine ⟨?rel, rfl⟩
          case rel => exact ⟨hB_l, hB_a, by assumption⟩
        case neg =>
          have e0 : (k1 == 0) = false := by simpa using hk
          have e9 : (k1 != 0) = true := by simpa using hk
          cases cc1
          case true =>
            obtain ⟨hm3, ht1⟩ := HY2.out hk rfl
            subst ht1
            have h5' : m < 4 := by omega
            repeat (first|(with_reducible apply Xa)|((with_reducible apply region_k);intro KK kk)|(with_reducible apply Xc)|((with_reducible apply seq_k);intro KK kk)|((with_reducible apply Xk);(focus first|exact wanted_none rfl|exact wanted_yes rfl rfl rfl);(focus (simp [go_sem,effAt,↓IntWalk.iteOmega, *];(try go_ints);with_reducible first|exact Xm|exact Xn));focus (first|(apply put_some rfl;focus (conv=>lhs;dsimp only [Xr,Xs])<;>rfl)|exact put_none rfl))|((with_reducible apply Xl);(focus first|exact wanted_no rfl rfl rfl|exact wanted_undef rfl rfl rfl);focus (first|(apply put_some rfl;focus (conv=>lhs;dsimp only [Xr,Xs])<;>rfl)|exact put_none rfl))|(with_reducible first|apply Xe|apply Xf|apply Xg|apply Xh)|((with_reducible apply Xi);focus first|rfl|(simp [go_sem, *];done))|((with_reducible apply Xj);focus first|rfl|(simp [go_sem, *];done))|(simp only [Exit.then,Exit.inBlock,↓reduceIte,Nat.reduceEqDiff])|((with_reducible apply kf_out);focus assumption))
            refine wp_region_pure (E := fun i => [].contains i) (by kernel_rfl) (by kernel_rfl) ?_
            repeat (first | ((with_reducible apply lex_q); (focus (first | exact wanted_none rfl | exact wanted_yes rfl rfl rfl)); (focus rfl); (focus (intro w' hS; have hc_l := (hB_l.below hS hB_l.lt).cell; have hc_a := (hB_a.below hS hB_a.lt).cell; have d0 := (hS.cell (p := ⟨ga, o, none⟩) (Nat.lt_of_lt_of_le hgx Fw5.size)).trans d0; have d1 := (hS.cell (p := ⟨ga, o + 1, none⟩) (Nat.lt_of_lt_of_le hgx Fw5.size)).trans d1; have d2 := (hS.cell (p := ⟨ga, o + 2, none⟩) (Nat.lt_of_lt_of_le hgx Fw5.size)).trans d2; have d3 := (hS.cell (p := ⟨ga, o + 3, none⟩) (Nat.lt_of_lt_of_le hgx Fw5.size)).trans d3; simp [go_sem, effAt, ↓IntWalk.iteOmega, *]; (try go_ints); (with_reducible first|exact Xm|exact Xn))); (focus ((first|(apply put_some rfl;focus (conv=>lhs;dsimp only [Xr,Xs])<;>rfl)|exact put_none rfl)))) | ((with_reducible apply lex_s); (focus (first | exact wanted_no rfl rfl rfl | exact wanted_undef rfl rfl rfl)); (focus ((first|(apply put_some rfl;focus (conv=>lhs;dsimp only [Xr,Xs])<;>rfl)|exact put_none rfl)))))
            with_reducible apply lex_nil
            intro w7 hs
            have Fw7 := Fw5.trans (hs.mono Fw5.size)
            replace hB_l := hB_l.below hs hB_l.lt
            replace hB_a := hB_a.below hs hB_a.lt
            clear hs Fw5
            clear hc_l; have hc_l := hB_l.cell
            clear hc_a; have hc_a := hB_a.cell
            clear d0; have d0 := (Fw7.cell (p := ⟨ga, o, none⟩) hgx).trans D0.out
            clear d1; have d1 := (Fw7.cell (p := ⟨ga, o + 1, none⟩) hgx).trans D1.out
            clear d2; have d2 := (Fw7.cell (p := ⟨ga, o + 2, none⟩) hgx).trans D2.out
            clear d3; have d3 := (Fw7.cell (p := ⟨ga, o + 3, none⟩) hgx).trans D3.out
            repeat (first|(with_reducible apply Xa)|((with_reducible apply region_k);intro KK kk)|(with_reducible apply Xc)|((with_reducible apply seq_k);intro KK kk)|((with_reducible apply Xk);(focus first|exact wanted_none rfl|exact wanted_yes rfl rfl rfl);(focus (simp [go_sem,effAt,↓IntWalk.iteOmega, *];(try go_ints);with_reducible first|exact Xm|exact Xn));focus (first|(apply put_some rfl;focus (conv=>lhs;dsimp only [Xr,Xs])<;>rfl)|exact put_none rfl))|((with_reducible apply Xl);(focus first|exact wanted_no rfl rfl rfl|exact wanted_undef rfl rfl rfl);focus (first|(apply put_some rfl;focus (conv=>lhs;dsimp only [Xr,Xs])<;>rfl)|exact put_none rfl))|(with_reducible first|apply Xe|apply Xf|apply Xg|apply Xh)|((with_reducible apply Xi);focus first|rfl|(simp [go_sem, *];done))|((with_reducible apply Xj);focus first|rfl|(simp [go_sem, *];done))|(simp only [Exit.then,Exit.inBlock,↓reduceIte,Nat.reduceEqDiff])|((with_reducible apply kf_out);focus assumption))
            refine hKK.out _ _ (Met.intro (hJJ.out _ _ ?_))
            (repeat apply Exists.intro)
            refine ⟨?rel, rfl⟩
            case rel => exact ⟨hB_l, hB_a, by assumption⟩
          case false =>
            obtain ⟨hm4, rfl, rfl, ht1⟩ := HY3.out hk rfl
            have e1 : (t1 == 1) = false := by simpa using ht1
            clear ht1
            have h4' : ¬ m < 3 := by omega
            have h5' : ¬ m < 4 := by omega
            repeat (first|(with_reducible apply Xa)|((with_reducible apply region_k);intro KK kk)|(with_reducible apply Xc)|((with_reducible apply seq_k);intro KK kk)|((with_reducible apply Xk);(focus first|exact wanted_none rfl|exact wanted_yes rfl rfl rfl);(focus (simp [go_sem,effAt,↓IntWalk.iteOmega, *];(try go_ints);with_reducible first|exact Xm|exact Xn));focus (first|(apply put_some rfl;focus (conv=>lhs;dsimp only [Xr,Xs])<;>rfl)|exact put_none rfl))|((with_reducible apply Xl);(focus first|exact wanted_no rfl rfl rfl|exact wanted_undef rfl rfl rfl);focus (first|(apply put_some rfl;focus (conv=>lhs;dsimp only [Xr,Xs])<;>rfl)|exact put_none rfl))|(with_reducible first|apply Xe|apply Xf|apply Xg|apply Xh)|((with_reducible apply Xi);focus first|rfl|(simp [go_sem, *];done))|((with_reducible apply Xj);focus first|rfl|(simp [go_sem, *];done))|(simp only [Exit.then,Exit.inBlock,↓reduceIte,Nat.reduceEqDiff])|((with_reducible apply kf_out);focus assumption))
            refine wp_region_pure (E := fun i => [].contains i) (by kernel_rfl) (by kernel_rfl) ?_
            repeat (first | ((with_reducible apply lex_q); (focus (first | exact wanted_none rfl | exact wanted_yes rfl rfl rfl)); (focus rfl); (focus (intro w' hS; have hc_l := (hB_l.below hS hB_l.lt).cell; have hc_a := (hB_a.below hS hB_a.lt).cell; have d0 := (hS.cell (p := ⟨ga, o, none⟩) (Nat.lt_of_lt_of_le hgx Fw5.size)).trans d0; have d1 := (hS.cell (p := ⟨ga, o + 1, none⟩) (Nat.lt_of_lt_of_le hgx Fw5.size)).trans d1; have d2 := (hS.cell (p := ⟨ga, o + 2, none⟩) (Nat.lt_of_lt_of_le hgx Fw5.size)).trans d2; have d3 := (hS.cell (p := ⟨ga, o + 3, none⟩) (Nat.lt_of_lt_of_le hgx Fw5.size)).trans d3; simp [go_sem, effAt, ↓IntWalk.iteOmega, *]; (try go_ints); (with_reducible first|exact Xm|exact Xn))); (focus ((first|(apply put_some rfl;focus (conv=>lhs;dsimp only [Xr,Xs])<;>rfl)|exact put_none rfl)))) | ((with_reducible apply lex_s); (focus (first | exact wanted_no rfl rfl rfl | exact wanted_undef rfl rfl rfl)); (focus ((first|(apply put_some rfl;focus (conv=>lhs;dsimp only [Xr,Xs])<;>rfl)|exact put_none rfl)))))
            with_reducible apply lex_nil
            intro w8 hs
            have Fw8 := Fw5.trans (hs.mono Fw5.size)
            replace hB_l := hB_l.below hs hB_l.lt
            replace hB_a := hB_a.below hs hB_a.lt
            clear hs Fw5
            clear hc_l; have hc_l := hB_l.cell
            clear hc_a; have hc_a := hB_a.cell
            clear d0; have d0 := (Fw8.cell (p := ⟨ga, o, none⟩) hgx).trans D0.out
            clear d1; have d1 := (Fw8.cell (p := ⟨ga, o + 1, none⟩) hgx).trans D1.out
            clear d2; have d2 := (Fw8.cell (p := ⟨ga, o + 2, none⟩) hgx).trans D2.out
            clear d3; have d3 := (Fw8.cell (p := ⟨ga, o + 3, none⟩) hgx).trans D3.out
            repeat (first|(with_reducible apply Xa)|((with_reducible apply region_k);intro KK kk)|(with_reducible apply Xc)|((with_reducible apply seq_k);intro KK kk)|((with_reducible apply Xk);(focus first|exact wanted_none rfl|exact wanted_yes rfl rfl rfl);(focus (simp [go_sem,effAt,↓IntWalk.iteOmega, *];(try go_ints);with_reducible first|exact Xm|exact Xn));focus (first|(apply put_some rfl;focus (conv=>lhs;dsimp only [Xr,Xs])<;>rfl)|exact put_none rfl))|((with_reducible apply Xl);(focus first|exact wanted_no rfl rfl rfl|exact wanted_undef rfl rfl rfl);focus (first|(apply put_some rfl;focus (conv=>lhs;dsimp only [Xr,Xs])<;>rfl)|exact put_none rfl))|(with_reducible first|apply Xe|apply Xf|apply Xg|apply Xh)|((with_reducible apply Xi);focus first|rfl|(simp [go_sem, *];done))|((with_reducible apply Xj);focus first|rfl|(simp [go_sem, *];done))|(simp only [Exit.then,Exit.inBlock,↓reduceIte,Nat.reduceEqDiff])|((with_reducible apply kf_out);focus assumption))
            refine hKK.out _ _ (Met.intro (hJJ.out _ _ ?_))
            (repeat apply Exists.intro)
            refine ⟨?rel, rfl⟩
            case rel => exact ⟨hB_l, hB_a, by assumption⟩
      case rest =>
        clear hB_l hB_a
        obtain ⟨hB_l, hB_a, Fwc⟩ := hcut
        skip
        have hc_l := hB_l.cell
        have hc_a := hB_a.cell
        have d0 := D0.out
        have d1 := D1.out
        have d2 := D2.out
        have d3 := D3.out
        clear d0 d1 d2 d3
        have d0 := (Fwc.cell (p := ⟨ga, o, none⟩) hgx).trans D0.out
        have d1 := (Fwc.cell (p := ⟨ga, o + 1, none⟩) hgx).trans D1.out
        have d2 := (Fwc.cell (p := ⟨ga, o + 2, none⟩) hgx).trans D2.out
        have d3 := (Fwc.cell (p := ⟨ga, o + 3, none⟩) hgx).trans D3.out
        (with_reducible apply kf_out); (focus assumption)
        (with_reducible apply seq_k); intro KK kk
        go_cut [] from 16 to 146 (fun wx => Blk wx g 57 #[.int .u8 s2, .bool ls2, .int .i64 tr2, .int .i64 mo2] ∧ Blk wx x4.heap.size 30 #[.int .u8 k1, .bool cc1, .bool p1, .int .u8 t1, .int .u8 f1] ∧ Below x4.heap.size x4 wx)
        case first =>
          rename_i hJJ hKK
          have hJJ := Lib.hid hJJ
          have hKK := Lib.hid hKK
          by_cases hs : s = 3
          case neg =>
            have e2 : (s == 3) = false := by simpa using hs
            repeat (first|(with_reducible apply Xa)|((with_reducible apply region_k);intro KK kk)|(with_reducible apply Xc)|((with_reducible apply seq_k);intro KK kk)|((with_reducible apply Xk);(focus first|exact wanted_none rfl|exact wanted_yes rfl rfl rfl);(focus (simp [go_sem,effAt,↓IntWalk.iteOmega, *];(try go_ints);with_reducible first|exact Xm|exact Xn));focus (first|(apply put_some rfl;focus (conv=>lhs;dsimp only [Xr,Xs])<;>rfl)|exact put_none rfl))|((with_reducible apply Xl);(focus first|exact wanted_no rfl rfl rfl|exact wanted_undef rfl rfl rfl);focus (first|(apply put_some rfl;focus (conv=>lhs;dsimp only [Xr,Xs])<;>rfl)|exact put_none rfl))|(with_reducible first|apply Xe|apply Xf|apply Xg|apply Xh)|((with_reducible apply Xi);focus first|rfl|(simp [go_sem, *];done))|((with_reducible apply Xj);focus first|rfl|(simp [go_sem, *];done))|(simp only [Exit.then,Exit.inBlock,↓reduceIte,Nat.reduceEqDiff])|((with_reducible apply kf_out);focus assumption))
            refine hKK.out _ _ (Met.intro (hJJ.out _ _ ?_))
            (repeat apply Exists.intro)
            refine ⟨?rel, rfl⟩
            case rel => exact ⟨hB_l, hB_a, by assumption⟩
          case pos =>
            subst hs
            by_cases h3 : 3 < m
            case neg =>
              repeat (first|(with_reducible apply Xa)|((with_reducible apply region_k);intro KK kk)|(with_reducible apply Xc)|((with_reducible apply seq_k);intro KK kk)|((with_reducible apply Xk);(focus first|exact wanted_none rfl|exact wanted_yes rfl rfl rfl);(focus (simp [go_sem,effAt,↓IntWalk.iteOmega, *];(try go_ints);with_reducible first|exact Xm|exact Xn));focus (first|(apply put_some rfl;focus (conv=>lhs;dsimp only [Xr,Xs])<;>rfl)|exact put_none rfl))|((with_reducible apply Xl);(focus first|exact wanted_no rfl rfl rfl|exact wanted_undef rfl rfl rfl);focus (first|(apply put_some rfl;focus (conv=>lhs;dsimp only [Xr,Xs])<;>rfl)|exact put_none rfl))|(with_reducible first|apply Xe|apply Xf|apply Xg|apply Xh)|((with_reducible apply Xi);focus first|rfl|(simp [go_sem, *];done))|((with_reducible apply Xj);focus first|rfl|(simp [go_sem, *];done))|(simp only [Exit.then,Exit.inBlock,↓reduceIte,Nat.reduceEqDiff])|((with_reducible apply kf_out);focus assumption))
              refine hKK.out _ _ (Met.intro (hJJ.out _ _ ?_))
              (repeat apply Exists.intro)
              refine ⟨?rel, rfl⟩
              case rel => exact ⟨hB_l, hB_a, by assumption⟩
            case pos =>
              by_cases hf1 : fr = 1
              case pos =>
                subst hf1
                repeat (first|(with_reducible apply Xa)|((with_reducible apply region_k);intro KK kk)|(with_reducible apply Xc)|((with_reducible apply seq_k);intro KK kk)|((with_reducible apply Xk);(focus first|exact wanted_none rfl|exact wanted_yes rfl rfl rfl);(focus (simp [go_sem,effAt,↓IntWalk.iteOmega, *];(try go_ints);with_reducible first|exact Xm|exact Xn));focus (first|(apply put_some rfl;focus (conv=>lhs;dsimp only [Xr,Xs])<;>rfl)|exact put_none rfl))|((with_reducible apply Xl);(focus first|exact wanted_no rfl rfl rfl|exact wanted_undef rfl rfl rfl);focus (first|(apply put_some rfl;focus (conv=>lhs;dsimp only [Xr,Xs])<;>rfl)|exact put_none rfl))|(with_reducible first|apply Xe|apply Xf|apply Xg|apply Xh)|((with_reducible apply Xi);focus first|rfl|(simp [go_sem, *];done))|((with_reducible apply Xj);focus first|rfl|(simp [go_sem, *];done))|(simp only [Exit.then,Exit.inBlock,↓reduceIte,Nat.reduceEqDiff])|((with_reducible apply kf_out);focus assumption))
                refine hKK.out _ _ (Met.intro (hJJ.out _ _ ?_))
                (repeat apply Exists.intro)
                refine ⟨?rel, rfl⟩
                case rel => exact ⟨hB_l, hB_a, by assumption⟩
              case neg =>
                have g1 : (fr == 1) = false := by simpa using hf1
                have gg1 : (fr != 1) = true := by simpa using hf1
                by_cases hf4 : fr = 4
                case pos =>
                  subst hf4
                  repeat (first|(with_reducible apply Xa)|((with_reducible apply region_k);intro KK kk)|(with_reducible apply Xc)|((with_reducible apply seq_k);intro KK kk)|((with_reducible apply Xk);(focus first|exact wanted_none rfl|exact wanted_yes rfl rfl rfl);(focus (simp [go_sem,effAt,↓IntWalk.iteOmega, *];(try go_ints);with_reducible first|exact Xm|exact Xn));focus (first|(apply put_some rfl;focus (conv=>lhs;dsimp only [Xr,Xs])<;>rfl)|exact put_none rfl))|((with_reducible apply Xl);(focus first|exact wanted_no rfl rfl rfl|exact wanted_undef rfl rfl rfl);focus (first|(apply put_some rfl;focus (conv=>lhs;dsimp only [Xr,Xs])<;>rfl)|exact put_none rfl))|(with_reducible first|apply Xe|apply Xf|apply Xg|apply Xh)|((with_reducible apply Xi);focus first|rfl|(simp [go_sem, *];done))|((with_reducible apply Xj);focus first|rfl|(simp [go_sem, *];done))|(simp only [Exit.then,Exit.inBlock,↓reduceIte,Nat.reduceEqDiff])|((with_reducible apply kf_out);focus assumption))
                  refine hKK.out _ _ (Met.intro (hJJ.out _ _ ?_))
                  (repeat apply Exists.intro)
                  refine ⟨?rel, rfl⟩
                  case rel => exact ⟨hB_l, hB_a, by assumption⟩
                case neg =>
                  have g4 : (fr == 4) = false := by simpa using hf4
                  have gg4 : (fr != 4) = true := by simpa using hf4
                  by_cases hf3 : fr = 3
                  case pos =>
                    subst hf3
                    repeat (first|(with_reducible apply Xa)|((with_reducible apply region_k);intro KK kk)|(with_reducible apply Xc)|((with_reducible apply seq_k);intro KK kk)|((with_reducible apply Xk);(focus first|exact wanted_none rfl|exact wanted_yes rfl rfl rfl);(focus (simp [go_sem,effAt,↓IntWalk.iteOmega, *];(try go_ints);with_reducible first|exact Xm|exact Xn));focus (first|(apply put_some rfl;focus (conv=>lhs;dsimp only [Xr,Xs])<;>rfl)|exact put_none rfl))|((with_reducible apply Xl);(focus first|exact wanted_no rfl rfl rfl|exact wanted_undef rfl rfl rfl);focus (first|(apply put_some rfl;focus (conv=>lhs;dsimp only [Xr,Xs])<;>rfl)|exact put_none rfl))|(with_reducible first|apply Xe|apply Xf|apply Xg|apply Xh)|((with_reducible apply Xi);focus first|rfl|(simp [go_sem, *];done))|((with_reducible apply Xj);focus first|rfl|(simp [go_sem, *];done))|(simp only [Exit.then,Exit.inBlock,↓reduceIte,Nat.reduceEqDiff])|((with_reducible apply kf_out);focus assumption))
                    refine hKK.out _ _ (Met.intro (hJJ.out _ _ ?_))
                    (repeat apply Exists.intro)
                    refine ⟨?rel, rfl⟩
                    case rel => exact ⟨hB_l, hB_a, by assumption⟩
                  case neg =>
                    have g3 : (fr == 3) = false := by simpa using hf3
                    have gg3 : (fr != 3) = true := by simpa using hf3
                    obtain ⟨hN, hs2⟩ := HST.out rfl h3 hf1 hf4 hf3
                    injection hN with hk0 hN
                    injection hN with hc0 hN
                    injection hN with hp0 hN
                    injection hN with ht0 hf0
                    have hs2' : s2 = 3 := hs2
                    clear hs2
                    subst hk0 hc0 hp0 ht0 hf0 hs2'
                    repeat (first|(with_reducible apply Xa)|((with_reducible apply region_k);intro KK kk)|(with_reducible apply Xc)|((with_reducible apply seq_k);intro KK kk)|((with_reducible apply Xk);(focus first|exact wanted_none rfl|exact wanted_yes rfl rfl rfl);(focus (simp [go_sem,effAt,↓IntWalk.iteOmega, *];(try go_ints);with_reducible first|exact Xm|exact Xn));focus (first|(apply put_some rfl;focus (conv=>lhs;dsimp only [Xr,Xs])<;>rfl)|exact put_none rfl))|((with_reducible apply Xl);(focus first|exact wanted_no rfl rfl rfl|exact wanted_undef rfl rfl rfl);focus (first|(apply put_some rfl;focus (conv=>lhs;dsimp only [Xr,Xs])<;>rfl)|exact put_none rfl))|(with_reducible first|apply Xe|apply Xf|apply Xg|apply Xh)|((with_reducible apply Xi);focus first|rfl|(simp [go_sem, *];done))|((with_reducible apply Xj);focus first|rfl|(simp [go_sem, *];done))|(simp only [Exit.then,Exit.inBlock,↓reduceIte,Nat.reduceEqDiff])|((with_reducible apply kf_out);focus assumption))
                    ((with_reducible apply Xt (Below wc.heap.size wc)); (focus rfl); (focus (simp only [effAt]; simp [go_sem]; (with_reducible exact effUpon_enter (hSt2 _ hB_l)))); (focus ((first|(apply put_some rfl;focus (conv=>lhs;dsimp only [Xr,Xs])<;>rfl)|exact put_none rfl))))
                    intro w9 hs
                    have Fw9 := Fwc.trans (hs.mono Fwc.size)
                    replace hB_l := hB_l.below hs hB_l.lt
                    replace hB_a := hB_a.below hs hB_a.lt
                    clear hs Fwc
                    clear hc_l; have hc_l := hB_l.cell
                    clear hc_a; have hc_a := hB_a.cell
                    clear d0; have d0 := (Fw9.cell (p := ⟨ga, o, none⟩) hgx).trans D0.out
                    clear d1; have d1 := (Fw9.cell (p := ⟨ga, o + 1, none⟩) hgx).trans D1.out
                    clear d2; have d2 := (Fw9.cell (p := ⟨ga, o + 2, none⟩) hgx).trans D2.out
                    clear d3; have d3 := (Fw9.cell (p := ⟨ga, o + 3, none⟩) hgx).trans D3.out
                    repeat (first|(with_reducible apply Xa)|((with_reducible apply region_k);intro KK kk)|(with_reducible apply Xc)|((with_reducible apply seq_k);intro KK kk)|((with_reducible apply Xk);(focus first|exact wanted_none rfl|exact wanted_yes rfl rfl rfl);(focus (simp [go_sem,effAt,↓IntWalk.iteOmega, *];(try go_ints);with_reducible first|exact Xm|exact Xn));focus (first|(apply put_some rfl;focus (conv=>lhs;dsimp only [Xr,Xs])<;>rfl)|exact put_none rfl))|((with_reducible apply Xl);(focus first|exact wanted_no rfl rfl rfl|exact wanted_undef rfl rfl rfl);focus (first|(apply put_some rfl;focus (conv=>lhs;dsimp only [Xr,Xs])<;>rfl)|exact put_none rfl))|(with_reducible first|apply Xe|apply Xf|apply Xg|apply Xh)|((with_reducible apply Xi);focus first|rfl|(simp [go_sem, *];done))|((with_reducible apply Xj);focus first|rfl|(simp [go_sem, *];done))|(simp only [Exit.then,Exit.inBlock,↓reduceIte,Nat.reduceEqDiff])|((with_reducible apply kf_out);focus assumption))
                    refine hKK.out _ _ (Met.intro (hJJ.out _ _ ?_))
                    (repeat apply Exists.intro)
                    refine ⟨?rel, rfl⟩
                    case rel => exact ⟨hB_l, hB_a, by assumption⟩
        case rest =>
          clear hB_l hB_a
          obtain ⟨hB_l, hB_a, Fwc⟩ := hcut
          skip
          have hc_l := hB_l.cell
          have hc_a := hB_a.cell
          have d0 := D0.out
          have d1 := D1.out
          have d2 := D2.out
          have d3 := D3.out
          clear d0 d1 d2 d3
          have d0 := (Fwc.cell (p := ⟨ga, o, none⟩) hgx).trans D0.out
          have d1 := (Fwc.cell (p := ⟨ga, o + 1, none⟩) hgx).trans D1.out
          have d2 := (Fwc.cell (p := ⟨ga, o + 2, none⟩) hgx).trans D2.out
          have d3 := (Fwc.cell (p := ⟨ga, o + 3, none⟩) hgx).trans D3.out
          by_cases hk : k1 = 0
          case pos =>
            subst hk
            obtain ⟨rfl, rfl, ht1⟩ := HY1.out rfl
            have e1 : (t1 == 1) = false := by simpa using ht1
            clear ht1
            repeat (first|(with_reducible apply Xa)|((with_reducible apply region_k);intro KK kk)|(with_reducible apply Xc)|((with_reducible apply seq_k);intro KK kk)|((with_reducible apply Xk);(focus first|exact wanted_none rfl|exact wanted_yes rfl rfl rfl);(focus (simp [go_sem,effAt,↓IntWalk.iteOmega, *];(try go_ints);with_reducible first|exact Xm|exact Xn));focus (first|(apply put_some rfl;focus (conv=>lhs;dsimp only [Xr,Xs])<;>rfl)|exact put_none rfl))|((with_reducible apply Xl);(focus first|exact wanted_no rfl rfl rfl|exact wanted_undef rfl rfl rfl);focus (first|(apply put_some rfl;focus (conv=>lhs;dsimp only [Xr,Xs])<;>rfl)|exact put_none rfl))|(with_reducible first|apply Xe|apply Xf|apply Xg|apply Xh)|((with_reducible apply Xi);focus first|rfl|(simp [go_sem, *];done))|((with_reducible apply Xj);focus first|rfl|(simp [go_sem, *];done))|(simp only [Exit.then,Exit.inBlock,↓reduceIte,Nat.reduceEqDiff])|((with_reducible apply kf_out);focus assumption))
            refine hK _ _ (Handed.intro (gk - 1) ?measure (hJ _ _ _ ?_))
            rotate_left
            (repeat apply Exists.intro)
            refine ⟨?rel, rfl⟩
            case rel => exact ⟨i + 1, _, by go_num, by omega, hgood2, hB_l, hO4.trans (Below.mono (by assumption) hO4.size)⟩
            case measure => omega
          case neg =>
            have e0 : (k1 == 0) = false := by simpa using hk
            have e9 : (k1 != 0) = true := by simpa using hk
            cases cc1
            case true =>
              obtain ⟨hm3, ht1⟩ := HY2.out hk rfl
              subst ht1
              have h5' : m < 4 := by omega
              repeat (first|(with_reducible apply Xa)|((with_reducible apply region_k);intro KK kk)|(with_reducible apply Xc)|((with_reducible apply seq_k);intro KK kk)|((with_reducible apply Xk);(focus first|exact wanted_none rfl|exact wanted_yes rfl rfl rfl);(focus (simp [go_sem,effAt,↓IntWalk.iteOmega, *];(try go_ints);with_reducible first|exact Xm|exact Xn));focus (first|(apply put_some rfl;focus (conv=>lhs;dsimp only [Xr,Xs])<;>rfl)|exact put_none rfl))|((with_reducible apply Xl);(focus first|exact wanted_no rfl rfl rfl|exact wanted_undef rfl rfl rfl);focus (first|(apply put_some rfl;focus (conv=>lhs;dsimp only [Xr,Xs])<;>rfl)|exact put_none rfl))|(with_reducible first|apply Xe|apply Xf|apply Xg|apply Xh)|((with_reducible apply Xi);focus first|rfl|(simp [go_sem, *];done))|((with_reducible apply Xj);focus first|rfl|(simp [go_sem, *];done))|(simp only [Exit.then,Exit.inBlock,↓reduceIte,Nat.reduceEqDiff])|((with_reducible apply kf_out);focus assumption))
              refine hK _ _ (Handed.intro (gk - 1) ?measure (hJ _ _ _ ?_))
              rotate_left
              (repeat apply Exists.intro)
              refine ⟨?rel, rfl⟩
              case rel => exact ⟨i + 1, _, by go_num, by omega, hgood2, hB_l, hO4.trans (Below.mono (by assumption) hO4.size)⟩
              case measure => omega
            case false =>
              obtain ⟨hm4, rfl, rfl, ht1⟩ := HY3.out hk rfl
              have e1 : (t1 == 1) = false := by simpa using ht1
              clear ht1
              have h4' : ¬ m < 3 := by omega
              have h5' : ¬ m < 4 := by omega
              repeat (first|(with_reducible apply Xa)|((with_reducible apply region_k);intro KK kk)|(with_reducible apply Xc)|((with_reducible apply seq_k);intro KK kk)|((with_reducible apply Xk);(focus first|exact wanted_none rfl|exact wanted_yes rfl rfl rfl);(focus (simp [go_sem,effAt,↓IntWalk.iteOmega, *];(try go_ints);with_reducible first|exact Xm|exact Xn));focus (first|(apply put_some rfl;focus (conv=>lhs;dsimp only [Xr,Xs])<;>rfl)|exact put_none rfl))|((with_reducible apply Xl);(focus first|exact wanted_no rfl rfl rfl|exact wanted_undef rfl rfl rfl);focus (first|(apply put_some rfl;focus (conv=>lhs;dsimp only [Xr,Xs])<;>rfl)|exact put_none rfl))|(with_reducible first|apply Xe|apply Xf|apply Xg|apply Xh)|((with_reducible apply Xi);focus first|rfl|(simp [go_sem, *];done))|((with_reducible apply Xj);focus first|rfl|(simp [go_sem, *];done))|(simp only [Exit.then,Exit.inBlock,↓reduceIte,Nat.reduceEqDiff])|((with_reducible apply kf_out);focus assumption))
              refine hK _ _ (Handed.intro (gk - 1) ?measure (hJ _ _ _ ?_))
              rotate_left
              (repeat apply Exists.intro)
              refine ⟨?rel, rfl⟩
              case rel => exact ⟨i + 1, _, by go_num, by omega, hgood2, hB_l, hO4.trans (Below.mono (by assumption) hO4.size)⟩
              case measure => omega
end Go.Proofs.Ytggpecddkbceoaa
