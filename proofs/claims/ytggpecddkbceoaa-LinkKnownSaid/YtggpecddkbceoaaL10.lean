/- The walk of LinkGives. -/
import Derived.Test.YtggpecddkbceoaaL4
import Derived.Deep.LoopGhost
import Derived.Lib.Hide
set_option linter.unusedSimpArgs false
set_option linter.unusedVariables false
namespace Go.Proofs.Ytggpecddkbceoaa
open Go.RowKit Go.Eff
set_option maxRecDepth 100000 in
set_option maxHeartbeats 4000000 in
theorem gives_false (n2 : Int) (w : World) : Calls Try.prog 5 #[.int .i64 n2, .bool false] w (Ret (.bool true) (Below w.heap.size w)) := by
  have hmb := mostOf_bounds n2
  have hN := new_any n2
  have hR := rnew_any n2
  obtain ⟨M, hM⟩ : ∃ M : Nat, mostOf n2 = (M : Int) := ⟨(mostOf n2).toNat, by omega⟩
  rw [hM] at hN hR hmb
  clear hM
  have hMb : M ≤ 255 := by omega
  have e1 : (1 : Int) + (M : Int) = (M : Int) + 1 := by omega
  have hO : ∀ g w, LB w g 1 false 0 M → Calls Try.prog 18 #[.pointer (some ⟨g, 0, none⟩)] w (Ret (actV 1 true true 1 0) fun w' => LB w' g 2 false 0 M ∧ w.grownBy w' (some g)) :=
    fun g w h => open_any g 1 false 0 M w h (fun w h => does_1 g false 0 M _ w h (fun w h => down_opens g 1 false 0 M w h))
  have hO5 : ∀ g w, LB w g 5 false M M → Calls Try.prog 18 #[.pointer (some ⟨g, 0, none⟩)] w (Ret (actV 1 true true 1 0) fun w' => LB w' g 2 false 0 M ∧ w.grownBy w' (some g)) :=
    fun g w h => open_any g 5 false M M w h (fun w h => does_5 g false M M _ w h (fun w h => down_opens g 5 false M M w h))
  have hD5 : ∀ g w, LB w g 5 false M M → Calls Try.prog 22 #[.pointer (some ⟨g, 0, none⟩)] w (Ret (actV 0 false false 0 0) fun w' => LB w' g 5 false M M ∧ w.grownBy w' (some g)) :=
    fun g w h => due_any g 5 false M M w h (fun w h => does_5 g false M M _ w h (fun w h => down_due g 5 false M M w h))
  have hU : ∀ g w, LB w g 2 false 0 M → Calls Try.prog 21 #[.pointer (some ⟨g, 0, none⟩), .int .u8 2, .bool true, .bool false] w (Ret (actV 0 false false 2 1) fun w' => LB w' g 3 false 0 M ∧ w.grownBy w' (some g)) :=
    fun g w h => hear_r2p g 2 false 0 M w h (fun w h => does_2 g false 0 M _ w h (fun w h => opening_resp2 g 2 false 0 M w h))
  have hC : ∀ g w, LB w g 3 false 0 M → Calls Try.prog 20 #[.pointer (some ⟨g, 0, none⟩)] w (Ret (actV 4 true true 1 0) fun w' => LB w' g 4 false 0 M ∧ w.grownBy w' (some g)) :=
    fun g w h => close_any g 3 false 0 M w h (fun w h => does_3 g false 0 M _ w h (fun w h => up_closes g 3 false 0 M w h))
  have hS := fun g s ls tr mo w h => state_any g s ls tr mo w h
  have hMo : ∀ (i : Nat) g w, i < M → LB w g 2 false i M → Calls Try.prog 22 #[.pointer (some ⟨g, 0, none⟩)] w (Ret (actV 1 true true 1 0) fun w' => LB w' g 2 false ((i : Int) + 1) M ∧ w.grownBy w' (some g)) :=
    fun i g w hi h => due_any g 2 false i M w h (fun w h => does_2 g false i M _ w h (fun w h => opening_dueM g 2 false i M w h (by omega) (by omega)))
  have hEn : ∀ g w, LB w g 2 false M M → Calls Try.prog 22 #[.pointer (some ⟨g, 0, none⟩)] w (Ret (actV 0 false false 2 6) fun w' => LB w' g 5 false M M ∧ w.grownBy w' (some g)) :=
    fun g w h => due_any g 2 false M M w h (fun w h => does_2 g false M M _ w h (fun w h => opening_dueE g 2 false M M w h (by omega)))
  unfold LB at *
  have HO5 := Lib.hid hO5
  have HD5 := Lib.hid hD5
  have HMo := Lib.hid hMo
  have HEn := Lib.hid hEn
  have HR := Lib.hid hR
  have HS := Lib.hid hS
  clear hmb hO5 hD5 hMo hEn hR hS
  go_enter Try.func5, Try.ntmps5
  have F0 : Below w.heap.size w w := Below.refl _ _
  repeat (first|(with_reducible first|apply Xa|apply Xb|apply Xc|apply Xd)|((with_reducible apply Xk);(focus rfl);(focus (simp [go_sem,effAt,↓IntWalk.iteOmega, *];(try go_ints);with_reducible first|exact Xm|exact Xn));focus (simp only [Xo,Xp,Xq,Xr,Xs];rfl))|((with_reducible apply Xl);(focus rfl);focus (simp only [Xo,Xp,Xq,Xr,Xs];rfl))|(with_reducible first|apply Xe|apply Xf|apply Xg|apply Xh)|((with_reducible apply Xi);focus first|rfl|(simp [go_sem, *];done))|((with_reducible apply Xj);focus first|rfl|(simp [go_sem, *];done))|(simp only [Exit.then,Exit.inBlock,↓reduceIte,Nat.reduceEqDiff]))
  have le_l := F0.size
  ((with_reducible apply Xt (fun w' => Blk w' w.heap.size _ _ ∧ Below w.heap.size w w')); (focus rfl); (focus (simp only [effAt]; simp [go_sem]; (with_reducible exact effUpon_enter (hN _)))); (focus ((simp only [Xo,Xp,Xq,Xr,Xs];rfl))))
  intro w1 hs
  obtain ⟨hB_l, hs⟩ := hs
  have Fw1 := F0.trans (hs.mono F0.size)
  clear hs F0
  have hc_l := hB_l.cell
  clear hN
  repeat (first|(with_reducible first|apply Xa|apply Xb|apply Xc|apply Xd)|((with_reducible apply Xk);(focus rfl);(focus (simp [go_sem,effAt,↓IntWalk.iteOmega, *];(try go_ints);with_reducible first|exact Xm|exact Xn));focus (simp only [Xo,Xp,Xq,Xr,Xs];rfl))|((with_reducible apply Xl);(focus rfl);focus (simp only [Xo,Xp,Xq,Xr,Xs];rfl))|(with_reducible first|apply Xe|apply Xf|apply Xg|apply Xh)|((with_reducible apply Xi);focus first|rfl|(simp [go_sem, *];done))|((with_reducible apply Xj);focus first|rfl|(simp [go_sem, *];done))|(simp only [Exit.then,Exit.inBlock,↓reduceIte,Nat.reduceEqDiff]))
  ((with_reducible apply Xt (fun w' => Blk w' _ _ _ ∧ w1.grownBy w' (some _))); (focus rfl); (focus (simp only [effAt]; simp [go_sem]; (with_reducible exact effUpon_enter (hO _ _ hB_l)))); (focus ((simp only [Xo,Xp,Xq,Xr,Xs];rfl))))
  clear hc_l hB_l
  intro w2 hs
  obtain ⟨hB_l, hs⟩ := hs
  have Fw2 := Fw1.grown hs Fw1.size (by intro k hk; injection hk with hk; subst hk; first | exact Nat.le_refl _ | exact Fw1.size | omega)
  clear hs Fw1
  have hc_l := hB_l.cell
  clear hO
  repeat (first|(with_reducible first|apply Xa|apply Xb|apply Xc|apply Xd)|((with_reducible apply Xk);(focus rfl);(focus (simp [go_sem,effAt,↓IntWalk.iteOmega, *];(try go_ints);with_reducible first|exact Xm|exact Xn));focus (simp only [Xo,Xp,Xq,Xr,Xs];rfl))|((with_reducible apply Xl);(focus rfl);focus (simp only [Xo,Xp,Xq,Xr,Xs];rfl))|(with_reducible first|apply Xe|apply Xf|apply Xg|apply Xh)|((with_reducible apply Xi);focus first|rfl|(simp [go_sem, *];done))|((with_reducible apply Xj);focus first|rfl|(simp [go_sem, *];done))|(simp only [Exit.then,Exit.inBlock,↓reduceIte,Nat.reduceEqDiff]))
  have lt_l_a := hB_l.lt
  ((with_reducible apply Xu); (focus rfl); (focus (simp [go_sem, effAt]; exact ⟨rfl, rfl⟩)); (focus ((simp only [Xo,Xp,Xq,Xr,Xs];rfl))))
  intro w3 hB_a hs
  have Fw3 := Fw2.trans (hs.mono Fw2.size)
  replace hB_l := hB_l.below hs hB_l.lt
  clear hs Fw2
  clear hc_l; have hc_l := hB_l.cell
  have hc_a := hB_a.cell
  repeat (first|(with_reducible first|apply Xa|apply Xb|apply Xc|apply Xd)|((with_reducible apply Xk);(focus rfl);(focus (simp [go_sem,effAt,↓IntWalk.iteOmega, *];(try go_ints);with_reducible first|exact Xm|exact Xn));focus (simp only [Xo,Xp,Xq,Xr,Xs];rfl))|((with_reducible apply Xl);(focus rfl);focus (simp only [Xo,Xp,Xq,Xr,Xs];rfl))|(with_reducible first|apply Xe|apply Xf|apply Xg|apply Xh)|((with_reducible apply Xi);focus first|rfl|(simp [go_sem, *];done))|((with_reducible apply Xj);focus first|rfl|(simp [go_sem, *];done))|(simp only [Exit.then,Exit.inBlock,↓reduceIte,Nat.reduceEqDiff]))
  have hf_a := hB_a.frozen
  ((with_reducible apply Xt (fun w' => Blk w' _ _ _ ∧ w3.grownBy w' (some _))); (focus rfl); (focus (simp [go_sem, effAt, *]; exact ⟨rfl, (((((hB_a.set_ 0 _).set_ 1 _).set_ 2 _).set_ 3 _).set_ 4 _), (grown_set (grown_set (grown_set (grown_set (grown_set (World.grownBy.refl _ _))))))⟩)); (focus ((simp only [Xo,Xp,Xq,Xr,Xs];rfl))))
  clear hf_a hc_a hB_a
  intro w4 hs
  obtain ⟨hB_a, hs⟩ := hs
  simp only [Xq,Xr,Xs] at hB_a
  have Fw4 := Fw3.grown hs Fw3.size (by intro k hk; first | (injection hk with hk; subst hk; first | exact Nat.le_refl _ | exact Fw3.size | omega) | omega)
  replace hB_l := hB_l.grown hs (by intro hk; injection hk with hk; have := hB_l.lt; have := hB_a.lt; omega)
  clear hs Fw3
  clear hc_l; have hc_l := hB_l.cell
  have hc_a := hB_a.cell
  repeat (first|(with_reducible first|apply Xa|apply Xb|apply Xc|apply Xd)|((with_reducible apply Xk);(focus rfl);(focus (simp [go_sem,effAt,↓IntWalk.iteOmega, *];(try go_ints);with_reducible first|exact Xm|exact Xn));focus (simp only [Xo,Xp,Xq,Xr,Xs];rfl))|((with_reducible apply Xl);(focus rfl);focus (simp only [Xo,Xp,Xq,Xr,Xs];rfl))|(with_reducible first|apply Xe|apply Xf|apply Xg|apply Xh)|((with_reducible apply Xi);focus first|rfl|(simp [go_sem, *];done))|((with_reducible apply Xj);focus first|rfl|(simp [go_sem, *];done))|(simp only [Exit.then,Exit.inBlock,↓reduceIte,Nat.reduceEqDiff]))
  clear hU hC hc_a hc_l
  obtain ⟨ab, hab⟩ : ∃ ab, w2.heap.size = ab := ⟨_, rfl⟩
  rw [hab] at hB_a lt_l_a ⊢
  go_loopg [8, 9] (M + 1) (fun q v8 v9 wr => ∃ i : Nat, v9 = .int .i64 (i : Int) ∧ v8 = .int .i64 (i : Int) ∧ i + q = M + 1 ∧ ((i ≤ M ∧ Blk wr w.heap.size 57 #[.int .u8 2, .bool false, .int .i64 (i : Int), .int .i64 (M : Int)] ∧ Blk wr ab 30 #[.int .u8 1, .bool true, .bool true, .int .u8 1, .int .u8 0]) ∨ (i = M + 1 ∧ Blk wr w.heap.size 57 #[.int .u8 5, .bool false, .int .i64 (M : Int), .int .i64 (M : Int)] ∧ Blk wr ab 30 #[.int .u8 0, .bool false, .bool false, .int .u8 2, .int .u8 6])) ∧ Below w.heap.size w wr)
  case atStart => exact ⟨0, rfl, rfl, by omega, .inl ⟨by omega, hB_l, hB_a⟩, Fw4⟩
  case round =>
    rename_i J K hJ hK
    clear hB_l hB_a Fw4
    obtain ⟨i, rfl, rfl, hi, hc, hF⟩ := hrel
    rcases hc with ⟨hiM, hB_l, hB_a⟩ | ⟨rfl, hB_l, hB_a⟩
    · have h300 : (i : Int) < 300 := by omega
      have hib : (i : Int) ≤ 255 := by omega
      by_cases hlt : i < M
      · have hD := HMo.out i _ _ hlt hB_l
        skip
        have hc_l := hB_l.cell
        have hc_a := hB_a.cell
        repeat (first|(with_reducible first|apply Xa|apply Xb|apply Xc|apply Xd)|((with_reducible apply Xk);(focus rfl);(focus (simp [go_sem,effAt,↓IntWalk.iteOmega, *];(try go_ints);with_reducible first|exact Xm|exact Xn));focus (simp only [Xo,Xp,Xq,Xr,Xs];rfl))|((with_reducible apply Xl);(focus rfl);focus (simp only [Xo,Xp,Xq,Xr,Xs];rfl))|(with_reducible first|apply Xe|apply Xf|apply Xg|apply Xh)|((with_reducible apply Xi);focus first|rfl|(simp [go_sem, *];done))|((with_reducible apply Xj);focus first|rfl|(simp [go_sem, *];done))|(simp only [Exit.then,Exit.inBlock,↓reduceIte,Nat.reduceEqDiff]))
        ((with_reducible apply Xt (fun w' => Blk w' _ _ _ ∧ wr.grownBy w' (some _))); (focus rfl); (focus (simp only [effAt]; simp [go_sem]; (with_reducible exact effUpon_enter (hD)))); (focus ((simp only [Xo,Xp,Xq,Xr,Xs];rfl))))
        clear hc_l hB_l
        intro w5 hs
        obtain ⟨hB_l, hs⟩ := hs
        have Fw5 := hF.grown hs hF.size (by intro k hk; injection hk with hk; subst hk; first | exact Nat.le_refl _ | exact hF.size | omega)
        replace hB_a := hB_a.grown hs (by intro hk; injection hk with hk; have := hB_a.lt; have := hB_l.lt; omega)
        clear hs hF
        clear hc_a; have hc_a := hB_a.cell
        have hc_l := hB_l.cell
        clear hD
        repeat (first|(with_reducible first|apply Xa|apply Xb|apply Xc|apply Xd)|((with_reducible apply Xk);(focus rfl);(focus (simp [go_sem,effAt,↓IntWalk.iteOmega, *];(try go_ints);with_reducible first|exact Xm|exact Xn));focus (simp only [Xo,Xp,Xq,Xr,Xs];rfl))|((with_reducible apply Xl);(focus rfl);focus (simp only [Xo,Xp,Xq,Xr,Xs];rfl))|(with_reducible first|apply Xe|apply Xf|apply Xg|apply Xh)|((with_reducible apply Xi);focus first|rfl|(simp [go_sem, *];done))|((with_reducible apply Xj);focus first|rfl|(simp [go_sem, *];done))|(simp only [Exit.then,Exit.inBlock,↓reduceIte,Nat.reduceEqDiff]))
        have hf_a := hB_a.frozen
        ((with_reducible apply Xt (fun w' => Blk w' _ _ _ ∧ w5.grownBy w' (some _))); (focus rfl); (focus (simp [go_sem, effAt, *]; exact ⟨rfl, (((((hB_a.set_ 0 _).set_ 1 _).set_ 2 _).set_ 3 _).set_ 4 _), (grown_set (grown_set (grown_set (grown_set (grown_set (World.grownBy.refl _ _))))))⟩)); (focus ((simp only [Xo,Xp,Xq,Xr,Xs];rfl))))
        clear hf_a hc_a hB_a
        intro w6 hs
        obtain ⟨hB_a, hs⟩ := hs
        simp only [Xq,Xr,Xs] at hB_a
        have Fw6 := Fw5.grown hs Fw5.size (by intro k hk; first | (injection hk with hk; subst hk; first | exact Nat.le_refl _ | exact Fw5.size | omega) | omega)
        replace hB_l := hB_l.grown hs (by intro hk; injection hk with hk; have := hB_l.lt; have := hB_a.lt; omega)
        clear hs Fw5
        clear hc_l; have hc_l := hB_l.cell
        have hc_a := hB_a.cell
        repeat (first|(with_reducible first|apply Xa|apply Xb|apply Xc|apply Xd)|((with_reducible apply Xk);(focus rfl);(focus (simp [go_sem,effAt,↓IntWalk.iteOmega, *];(try go_ints);with_reducible first|exact Xm|exact Xn));focus (simp only [Xo,Xp,Xq,Xr,Xs];rfl))|((with_reducible apply Xl);(focus rfl);focus (simp only [Xo,Xp,Xq,Xr,Xs];rfl))|(with_reducible first|apply Xe|apply Xf|apply Xg|apply Xh)|((with_reducible apply Xi);focus first|rfl|(simp [go_sem, *];done))|((with_reducible apply Xj);focus first|rfl|(simp [go_sem, *];done))|(simp only [Exit.then,Exit.inBlock,↓reduceIte,Nat.reduceEqDiff]))
        refine hK _ _ (Handed.intro (gk - 1) ?measure (hJ _ _ _ ?_))
        rotate_left
        (repeat apply Exists.intro)
        refine ⟨?rel, rfl⟩
        case rel => exact ⟨i + 1, by go_num, by go_num, by omega, .inl ⟨by omega, by rw [Int.natCast_add]; exact hB_l, hB_a⟩, by assumption⟩
        case measure => omega
      · obtain rfl : i = M := by omega
        have hD := HEn.out _ _ hB_l
        skip
        have hc_l := hB_l.cell
        have hc_a := hB_a.cell
        repeat (first|(with_reducible first|apply Xa|apply Xb|apply Xc|apply Xd)|((with_reducible apply Xk);(focus rfl);(focus (simp [go_sem,effAt,↓IntWalk.iteOmega, *];(try go_ints);with_reducible first|exact Xm|exact Xn));focus (simp only [Xo,Xp,Xq,Xr,Xs];rfl))|((with_reducible apply Xl);(focus rfl);focus (simp only [Xo,Xp,Xq,Xr,Xs];rfl))|(with_reducible first|apply Xe|apply Xf|apply Xg|apply Xh)|((with_reducible apply Xi);focus first|rfl|(simp [go_sem, *];done))|((with_reducible apply Xj);focus first|rfl|(simp [go_sem, *];done))|(simp only [Exit.then,Exit.inBlock,↓reduceIte,Nat.reduceEqDiff]))
        ((with_reducible apply Xt (fun w' => Blk w' _ _ _ ∧ wr.grownBy w' (some _))); (focus rfl); (focus (simp only [effAt]; simp [go_sem]; (with_reducible exact effUpon_enter (hD)))); (focus ((simp only [Xo,Xp,Xq,Xr,Xs];rfl))))
        clear hc_l hB_l
        intro w7 hs
        obtain ⟨hB_l, hs⟩ := hs
        have Fw7 := hF.grown hs hF.size (by intro k hk; injection hk with hk; subst hk; first | exact Nat.le_refl _ | exact hF.size | omega)
        replace hB_a := hB_a.grown hs (by intro hk; injection hk with hk; have := hB_a.lt; have := hB_l.lt; omega)
        clear hs hF
        clear hc_a; have hc_a := hB_a.cell
        have hc_l := hB_l.cell
        clear hD
        repeat (first|(with_reducible first|apply Xa|apply Xb|apply Xc|apply Xd)|((with_reducible apply Xk);(focus rfl);(focus (simp [go_sem,effAt,↓IntWalk.iteOmega, *];(try go_ints);with_reducible first|exact Xm|exact Xn));focus (simp only [Xo,Xp,Xq,Xr,Xs];rfl))|((with_reducible apply Xl);(focus rfl);focus (simp only [Xo,Xp,Xq,Xr,Xs];rfl))|(with_reducible first|apply Xe|apply Xf|apply Xg|apply Xh)|((with_reducible apply Xi);focus first|rfl|(simp [go_sem, *];done))|((with_reducible apply Xj);focus first|rfl|(simp [go_sem, *];done))|(simp only [Exit.then,Exit.inBlock,↓reduceIte,Nat.reduceEqDiff]))
        have hf_a := hB_a.frozen
        ((with_reducible apply Xt (fun w' => Blk w' _ _ _ ∧ w7.grownBy w' (some _))); (focus rfl); (focus (simp [go_sem, effAt, *]; exact ⟨rfl, (((((hB_a.set_ 0 _).set_ 1 _).set_ 2 _).set_ 3 _).set_ 4 _), (grown_set (grown_set (grown_set (grown_set (grown_set (World.grownBy.refl _ _))))))⟩)); (focus ((simp only [Xo,Xp,Xq,Xr,Xs];rfl))))
        clear hf_a hc_a hB_a
        intro w8 hs
        obtain ⟨hB_a, hs⟩ := hs
        simp only [Xq,Xr,Xs] at hB_a
        have Fw8 := Fw7.grown hs Fw7.size (by intro k hk; first | (injection hk with hk; subst hk; first | exact Nat.le_refl _ | exact Fw7.size | omega) | omega)
        replace hB_l := hB_l.grown hs (by intro hk; injection hk with hk; have := hB_l.lt; have := hB_a.lt; omega)
        clear hs Fw7
        clear hc_l; have hc_l := hB_l.cell
        have hc_a := hB_a.cell
        repeat (first|(with_reducible first|apply Xa|apply Xb|apply Xc|apply Xd)|((with_reducible apply Xk);(focus rfl);(focus (simp [go_sem,effAt,↓IntWalk.iteOmega, *];(try go_ints);with_reducible first|exact Xm|exact Xn));focus (simp only [Xo,Xp,Xq,Xr,Xs];rfl))|((with_reducible apply Xl);(focus rfl);focus (simp only [Xo,Xp,Xq,Xr,Xs];rfl))|(with_reducible first|apply Xe|apply Xf|apply Xg|apply Xh)|((with_reducible apply Xi);focus first|rfl|(simp [go_sem, *];done))|((with_reducible apply Xj);focus first|rfl|(simp [go_sem, *];done))|(simp only [Exit.then,Exit.inBlock,↓reduceIte,Nat.reduceEqDiff]))
        refine hK _ _ (Handed.intro (gk - 1) ?measure (hJ _ _ _ ?_))
        rotate_left
        (repeat apply Exists.intro)
        refine ⟨?rel, rfl⟩
        case rel => exact ⟨i + 1, by go_num, by go_num, by omega, .inr ⟨rfl, hB_l, hB_a⟩, by assumption⟩
        case measure => omega
    · have h300 : ((M : Int) + 1) < 300 := by omega
      have hR := HR.out
      have hS := HS.out
      have hfd : ∀ w, (Instr.field 30 (actV 1 true true 1 0) 0).run Try.prog w = .ok (.int .u8 1) w := fun w => by kernel_rfl
      have hD5 := HD5.out
      have hO5 := HO5.out
      skip
      have hc_l := hB_l.cell
      have hc_a := hB_a.cell
      repeat (first|(with_reducible first|apply Xa|apply Xb|apply Xc|apply Xd)|((with_reducible apply Xk);(focus rfl);(focus (simp [go_sem,effAt,↓IntWalk.iteOmega, *];(try go_ints);with_reducible first|exact Xm|exact Xn));focus (simp only [Xo,Xp,Xq,Xr,Xs];rfl))|((with_reducible apply Xl);(focus rfl);focus (simp only [Xo,Xp,Xq,Xr,Xs];rfl))|(with_reducible first|apply Xe|apply Xf|apply Xg|apply Xh)|((with_reducible apply Xi);focus first|rfl|(simp [go_sem, *];done))|((with_reducible apply Xj);focus first|rfl|(simp [go_sem, *];done))|(simp only [Exit.then,Exit.inBlock,↓reduceIte,Nat.reduceEqDiff]))
      have lt_l_r := hB_l.lt
      have lt_a_r := hB_a.lt
      have le_r := hF.size
      ((with_reducible apply Xt (fun w' => Blk w' wr.heap.size _ _ ∧ Below wr.heap.size wr w')); (focus rfl); (focus (simp only [effAt]; simp [go_sem]; (with_reducible exact effUpon_enter (hR _)))); (focus ((simp only [Xo,Xp,Xq,Xr,Xs];rfl))))
      intro w9 hs
      obtain ⟨hB_r, hs⟩ := hs
      have Fw9 := hF.trans (hs.mono hF.size)
      replace hB_l := hB_l.below hs hB_l.lt
      replace hB_a := hB_a.below hs hB_a.lt
      clear hs hF
      clear hc_l; have hc_l := hB_l.cell
      clear hc_a; have hc_a := hB_a.cell
      have hc_r := hB_r.cell
      clear hR
      repeat (first|(with_reducible first|apply Xa|apply Xb|apply Xc|apply Xd)|((with_reducible apply Xk);(focus rfl);(focus (simp [go_sem,effAt,↓IntWalk.iteOmega, *];(try go_ints);with_reducible first|exact Xm|exact Xn));focus (simp only [Xo,Xp,Xq,Xr,Xs];rfl))|((with_reducible apply Xl);(focus rfl);focus (simp only [Xo,Xp,Xq,Xr,Xs];rfl))|(with_reducible first|apply Xe|apply Xf|apply Xg|apply Xh)|((with_reducible apply Xi);focus first|rfl|(simp [go_sem, *];done))|((with_reducible apply Xj);focus first|rfl|(simp [go_sem, *];done))|(simp only [Exit.then,Exit.inBlock,↓reduceIte,Nat.reduceEqDiff]))
      ((with_reducible apply Xt (Below w9.heap.size w9)); (focus rfl); (focus (simp only [effAt]; simp [go_sem]; (with_reducible exact effUpon_enter (hS _ _ _ _ _ _ hB_l)))); (focus ((simp only [Xo,Xp,Xq,Xr,Xs];rfl))))
      intro w10 hs
      have Fw10 := Fw9.trans (hs.mono Fw9.size)
      replace hB_l := hB_l.below hs hB_l.lt
      replace hB_a := hB_a.below hs hB_a.lt
      replace hB_r := hB_r.below hs hB_r.lt
      clear hs Fw9
      clear hc_l; have hc_l := hB_l.cell
      clear hc_a; have hc_a := hB_a.cell
      clear hc_r; have hc_r := hB_r.cell
      repeat (first|(with_reducible first|apply Xa|apply Xb|apply Xc|apply Xd)|((with_reducible apply Xk);(focus rfl);(focus (simp [go_sem,effAt,↓IntWalk.iteOmega, *];(try go_ints);with_reducible first|exact Xm|exact Xn));focus (simp only [Xo,Xp,Xq,Xr,Xs];rfl))|((with_reducible apply Xl);(focus rfl);focus (simp only [Xo,Xp,Xq,Xr,Xs];rfl))|(with_reducible first|apply Xe|apply Xf|apply Xg|apply Xh)|((with_reducible apply Xi);focus first|rfl|(simp [go_sem, *];done))|((with_reducible apply Xj);focus first|rfl|(simp [go_sem, *];done))|(simp only [Exit.then,Exit.inBlock,↓reduceIte,Nat.reduceEqDiff]))
      ((with_reducible apply Xt (fun w' => Blk w' _ _ _ ∧ w10.grownBy w' (some _))); (focus rfl); (focus (simp only [effAt]; simp [go_sem]; (with_reducible exact effUpon_enter (hD5 _ _ hB_l)))); (focus ((simp only [Xo,Xp,Xq,Xr,Xs];rfl))))
      clear hc_l hB_l
      intro w11 hs
      obtain ⟨hB_l, hs⟩ := hs
      have Fw11 := Fw10.grown hs Fw10.size (by intro k hk; injection hk with hk; subst hk; first | exact Nat.le_refl _ | exact Fw10.size | omega)
      replace hB_a := hB_a.grown hs (by intro hk; injection hk with hk; have := hB_a.lt; have := hB_l.lt; omega)
      replace hB_r := hB_r.grown hs (by intro hk; injection hk with hk; have := hB_r.lt; have := hB_l.lt; omega)
      clear hs Fw10
      clear hc_a; have hc_a := hB_a.cell
      clear hc_r; have hc_r := hB_r.cell
      have hc_l := hB_l.cell
      clear hD5
      repeat (first|(with_reducible first|apply Xa|apply Xb|apply Xc|apply Xd)|((with_reducible apply Xk);(focus rfl);(focus (simp [go_sem,effAt,↓IntWalk.iteOmega, *];(try go_ints);with_reducible first|exact Xm|exact Xn));focus (simp only [Xo,Xp,Xq,Xr,Xs];rfl))|((with_reducible apply Xl);(focus rfl);focus (simp only [Xo,Xp,Xq,Xr,Xs];rfl))|(with_reducible first|apply Xe|apply Xf|apply Xg|apply Xh)|((with_reducible apply Xi);focus first|rfl|(simp [go_sem, *];done))|((with_reducible apply Xj);focus first|rfl|(simp [go_sem, *];done))|(simp only [Exit.then,Exit.inBlock,↓reduceIte,Nat.reduceEqDiff]))
      ((with_reducible apply Xt (fun w' => Blk w' _ _ _ ∧ w11.grownBy w' (some _))); (focus rfl); (focus (simp only [effAt]; simp [go_sem]; (with_reducible exact effUpon_enter (hO5 _ _ hB_l)))); (focus ((simp only [Xo,Xp,Xq,Xr,Xs];rfl))))
      clear hc_l hB_l
      intro w12 hs
      obtain ⟨hB_l, hs⟩ := hs
      have Fw12 := Fw11.grown hs Fw11.size (by intro k hk; injection hk with hk; subst hk; first | exact Nat.le_refl _ | exact Fw11.size | omega)
      replace hB_a := hB_a.grown hs (by intro hk; injection hk with hk; have := hB_a.lt; have := hB_l.lt; omega)
      replace hB_r := hB_r.grown hs (by intro hk; injection hk with hk; have := hB_r.lt; have := hB_l.lt; omega)
      clear hs Fw11
      clear hc_a; have hc_a := hB_a.cell
      clear hc_r; have hc_r := hB_r.cell
      have hc_l := hB_l.cell
      clear hO5
      repeat (first|(with_reducible first|apply Xa|apply Xb|apply Xc|apply Xd)|((with_reducible apply Xk);(focus rfl);(focus (simp [go_sem,effAt,↓IntWalk.iteOmega, *];(try go_ints);with_reducible first|exact Xm|exact Xn));focus (simp only [Xo,Xp,Xq,Xr,Xs];rfl))|((with_reducible apply Xl);(focus rfl);focus (simp only [Xo,Xp,Xq,Xr,Xs];rfl))|(with_reducible first|apply Xe|apply Xf|apply Xg|apply Xh)|((with_reducible apply Xi);focus first|rfl|(simp [go_sem, *];done))|((with_reducible apply Xj);focus first|rfl|(simp [go_sem, *];done))|(simp only [Exit.then,Exit.inBlock,↓reduceIte,Nat.reduceEqDiff]))
      ((with_reducible apply Xt (Below w12.heap.size w12)); (focus rfl); (focus (simp only [effAt]; simp [go_sem]; (with_reducible exact effUpon_enter (hS _ _ _ _ _ _ hB_l)))); (focus ((simp only [Xo,Xp,Xq,Xr,Xs];rfl))))
      intro w13 hs
      have Fw13 := Fw12.trans (hs.mono Fw12.size)
      replace hB_l := hB_l.below hs hB_l.lt
      replace hB_a := hB_a.below hs hB_a.lt
      replace hB_r := hB_r.below hs hB_r.lt
      clear hs Fw12
      clear hc_l; have hc_l := hB_l.cell
      clear hc_a; have hc_a := hB_a.cell
      clear hc_r; have hc_r := hB_r.cell
      clear hS
      repeat (first|(with_reducible first|apply Xa|apply Xb|apply Xc|apply Xd)|((with_reducible apply Xk);(focus rfl);(focus (simp [go_sem,effAt,↓IntWalk.iteOmega, *];(try go_ints);with_reducible first|exact Xm|exact Xn));focus (simp only [Xo,Xp,Xq,Xr,Xs];rfl))|((with_reducible apply Xl);(focus rfl);focus (simp only [Xo,Xp,Xq,Xr,Xs];rfl))|(with_reducible first|apply Xe|apply Xf|apply Xg|apply Xh)|((with_reducible apply Xi);focus first|rfl|(simp [go_sem, *];done))|((with_reducible apply Xj);focus first|rfl|(simp [go_sem, *];done))|(simp only [Exit.then,Exit.inBlock,↓reduceIte,Nat.reduceEqDiff]))
      ((with_reducible apply Xt (Below w13.heap.size w13)); (focus rfl); (focus (simp only [effAt]; simp [go_sem]; (with_reducible exact effUpon_enter (works_any _)))); (focus ((simp only [Xo,Xp,Xq,Xr,Xs];rfl))))
      intro w14 hs
      have Fw14 := Fw13.trans (hs.mono Fw13.size)
      replace hB_l := hB_l.below hs hB_l.lt
      replace hB_a := hB_a.below hs hB_a.lt
      replace hB_r := hB_r.below hs hB_r.lt
      clear hs Fw13
      clear hc_l; have hc_l := hB_l.cell
      clear hc_a; have hc_a := hB_a.cell
      clear hc_r; have hc_r := hB_r.cell
      repeat (first|(with_reducible first|apply Xa|apply Xb|apply Xc|apply Xd)|((with_reducible apply Xk);(focus rfl);(focus (simp [go_sem,effAt,↓IntWalk.iteOmega, *];(try go_ints);with_reducible first|exact Xm|exact Xn));focus (simp only [Xo,Xp,Xq,Xr,Xs];rfl))|((with_reducible apply Xl);(focus rfl);focus (simp only [Xo,Xp,Xq,Xr,Xs];rfl))|(with_reducible first|apply Xe|apply Xf|apply Xg|apply Xh)|((with_reducible apply Xi);focus first|rfl|(simp [go_sem, *];done))|((with_reducible apply Xj);focus first|rfl|(simp [go_sem, *];done))|(simp only [Exit.then,Exit.inBlock,↓reduceIte,Nat.reduceEqDiff]))
      go_ret
      exact ⟨rfl, by assumption⟩
set_option maxRecDepth 100000 in
set_option maxHeartbeats 4000000 in
theorem gives_true (n2 : Int) (w : World) : Calls Try.prog 5 #[.int .i64 n2, .bool true] w (Ret (.bool true) (Below w.heap.size w)) := by
  have hmb := mostOf_bounds n2
  have hN := new_any n2
  have hR := rnew_any n2
  obtain ⟨M, hM⟩ : ∃ M : Nat, mostOf n2 = (M : Int) := ⟨(mostOf n2).toNat, by omega⟩
  rw [hM] at hN hR hmb
  clear hM
  have hMb : M ≤ 255 := by omega
  have e1 : (1 : Int) + (M : Int) = (M : Int) + 1 := by omega
  have hO : ∀ g w, LB w g 1 false 0 M → Calls Try.prog 18 #[.pointer (some ⟨g, 0, none⟩)] w (Ret (actV 1 true true 1 0) fun w' => LB w' g 2 false 0 M ∧ w.grownBy w' (some g)) :=
    fun g w h => open_any g 1 false 0 M w h (fun w h => does_1 g false 0 M _ w h (fun w h => down_opens g 1 false 0 M w h))
  have hO5 : ∀ g w, LB w g 5 false M M → Calls Try.prog 18 #[.pointer (some ⟨g, 0, none⟩)] w (Ret (actV 1 true true 1 0) fun w' => LB w' g 2 false 0 M ∧ w.grownBy w' (some g)) :=
    fun g w h => open_any g 5 false M M w h (fun w h => does_5 g false M M _ w h (fun w h => down_opens g 5 false M M w h))
  have hD5 : ∀ g w, LB w g 5 false M M → Calls Try.prog 22 #[.pointer (some ⟨g, 0, none⟩)] w (Ret (actV 0 false false 0 0) fun w' => LB w' g 5 false M M ∧ w.grownBy w' (some g)) :=
    fun g w h => due_any g 5 false M M w h (fun w h => does_5 g false M M _ w h (fun w h => down_due g 5 false M M w h))
  have hU : ∀ g w, LB w g 2 false 0 M → Calls Try.prog 21 #[.pointer (some ⟨g, 0, none⟩), .int .u8 2, .bool true, .bool false] w (Ret (actV 0 false false 2 1) fun w' => LB w' g 3 false 0 M ∧ w.grownBy w' (some g)) :=
    fun g w h => hear_r2p g 2 false 0 M w h (fun w h => does_2 g false 0 M _ w h (fun w h => opening_resp2 g 2 false 0 M w h))
  have hC : ∀ g w, LB w g 3 false 0 M → Calls Try.prog 20 #[.pointer (some ⟨g, 0, none⟩)] w (Ret (actV 4 true true 1 0) fun w' => LB w' g 4 false 0 M ∧ w.grownBy w' (some g)) :=
    fun g w h => close_any g 3 false 0 M w h (fun w h => does_3 g false 0 M _ w h (fun w h => up_closes g 3 false 0 M w h))
  have hS := fun g s ls tr mo w h => state_any g s ls tr mo w h
  have hMo : ∀ (i : Nat) g w, i < M → LB w g 4 false i M → Calls Try.prog 22 #[.pointer (some ⟨g, 0, none⟩)] w (Ret (actV 4 true true 1 0) fun w' => LB w' g 4 false ((i : Int) + 1) M ∧ w.grownBy w' (some g)) :=
    fun i g w hi h => due_any g 4 false i M w h (fun w h => does_4 g false i M _ w h (fun w h => closing_dueM g 4 false i M w h (by omega) (by omega)))
  have hEn : ∀ g w, LB w g 4 false M M → Calls Try.prog 22 #[.pointer (some ⟨g, 0, none⟩)] w (Ret (actV 0 false false 2 6) fun w' => LB w' g 5 false M M ∧ w.grownBy w' (some g)) :=
    fun g w h => due_any g 4 false M M w h (fun w h => does_4 g false M M _ w h (fun w h => closing_dueE g 4 false M M w h (by omega)))
  unfold LB at *
  have HO5 := Lib.hid hO5
  have HD5 := Lib.hid hD5
  have HMo := Lib.hid hMo
  have HEn := Lib.hid hEn
  have HR := Lib.hid hR
  have HS := Lib.hid hS
  clear hmb hO5 hD5 hMo hEn hR hS
  go_enter Try.func5, Try.ntmps5
  have F0 : Below w.heap.size w w := Below.refl _ _
  repeat (first|(with_reducible first|apply Xa|apply Xb|apply Xc|apply Xd)|((with_reducible apply Xk);(focus rfl);(focus (simp [go_sem,effAt,↓IntWalk.iteOmega, *];(try go_ints);with_reducible first|exact Xm|exact Xn));focus (simp only [Xo,Xp,Xq,Xr,Xs];rfl))|((with_reducible apply Xl);(focus rfl);focus (simp only [Xo,Xp,Xq,Xr,Xs];rfl))|(with_reducible first|apply Xe|apply Xf|apply Xg|apply Xh)|((with_reducible apply Xi);focus first|rfl|(simp [go_sem, *];done))|((with_reducible apply Xj);focus first|rfl|(simp [go_sem, *];done))|(simp only [Exit.then,Exit.inBlock,↓reduceIte,Nat.reduceEqDiff]))
  have le_l := F0.size
  ((with_reducible apply Xt (fun w' => Blk w' w.heap.size _ _ ∧ Below w.heap.size w w')); (focus rfl); (focus (simp only [effAt]; simp [go_sem]; (with_reducible exact effUpon_enter (hN _)))); (focus ((simp only [Xo,Xp,Xq,Xr,Xs];rfl))))
  intro w1 hs
  obtain ⟨hB_l, hs⟩ := hs
  have Fw1 := F0.trans (hs.mono F0.size)
  clear hs F0
  have hc_l := hB_l.cell
  clear hN
  repeat (first|(with_reducible first|apply Xa|apply Xb|apply Xc|apply Xd)|((with_reducible apply Xk);(focus rfl);(focus (simp [go_sem,effAt,↓IntWalk.iteOmega, *];(try go_ints);with_reducible first|exact Xm|exact Xn));focus (simp only [Xo,Xp,Xq,Xr,Xs];rfl))|((with_reducible apply Xl);(focus rfl);focus (simp only [Xo,Xp,Xq,Xr,Xs];rfl))|(with_reducible first|apply Xe|apply Xf|apply Xg|apply Xh)|((with_reducible apply Xi);focus first|rfl|(simp [go_sem, *];done))|((with_reducible apply Xj);focus first|rfl|(simp [go_sem, *];done))|(simp only [Exit.then,Exit.inBlock,↓reduceIte,Nat.reduceEqDiff]))
  ((with_reducible apply Xt (fun w' => Blk w' _ _ _ ∧ w1.grownBy w' (some _))); (focus rfl); (focus (simp only [effAt]; simp [go_sem]; (with_reducible exact effUpon_enter (hO _ _ hB_l)))); (focus ((simp only [Xo,Xp,Xq,Xr,Xs];rfl))))
  clear hc_l hB_l
  intro w2 hs
  obtain ⟨hB_l, hs⟩ := hs
  have Fw2 := Fw1.grown hs Fw1.size (by intro k hk; injection hk with hk; subst hk; first | exact Nat.le_refl _ | exact Fw1.size | omega)
  clear hs Fw1
  have hc_l := hB_l.cell
  clear hO
  repeat (first|(with_reducible first|apply Xa|apply Xb|apply Xc|apply Xd)|((with_reducible apply Xk);(focus rfl);(focus (simp [go_sem,effAt,↓IntWalk.iteOmega, *];(try go_ints);with_reducible first|exact Xm|exact Xn));focus (simp only [Xo,Xp,Xq,Xr,Xs];rfl))|((with_reducible apply Xl);(focus rfl);focus (simp only [Xo,Xp,Xq,Xr,Xs];rfl))|(with_reducible first|apply Xe|apply Xf|apply Xg|apply Xh)|((with_reducible apply Xi);focus first|rfl|(simp [go_sem, *];done))|((with_reducible apply Xj);focus first|rfl|(simp [go_sem, *];done))|(simp only [Exit.then,Exit.inBlock,↓reduceIte,Nat.reduceEqDiff]))
  have lt_l_a := hB_l.lt
  ((with_reducible apply Xu); (focus rfl); (focus (simp [go_sem, effAt]; exact ⟨rfl, rfl⟩)); (focus ((simp only [Xo,Xp,Xq,Xr,Xs];rfl))))
  intro w3 hB_a hs
  have Fw3 := Fw2.trans (hs.mono Fw2.size)
  replace hB_l := hB_l.below hs hB_l.lt
  clear hs Fw2
  clear hc_l; have hc_l := hB_l.cell
  have hc_a := hB_a.cell
  repeat (first|(with_reducible first|apply Xa|apply Xb|apply Xc|apply Xd)|((with_reducible apply Xk);(focus rfl);(focus (simp [go_sem,effAt,↓IntWalk.iteOmega, *];(try go_ints);with_reducible first|exact Xm|exact Xn));focus (simp only [Xo,Xp,Xq,Xr,Xs];rfl))|((with_reducible apply Xl);(focus rfl);focus (simp only [Xo,Xp,Xq,Xr,Xs];rfl))|(with_reducible first|apply Xe|apply Xf|apply Xg|apply Xh)|((with_reducible apply Xi);focus first|rfl|(simp [go_sem, *];done))|((with_reducible apply Xj);focus first|rfl|(simp [go_sem, *];done))|(simp only [Exit.then,Exit.inBlock,↓reduceIte,Nat.reduceEqDiff]))
  have hf_a := hB_a.frozen
  ((with_reducible apply Xt (fun w' => Blk w' _ _ _ ∧ w3.grownBy w' (some _))); (focus rfl); (focus (simp [go_sem, effAt, *]; exact ⟨rfl, (((((hB_a.set_ 0 _).set_ 1 _).set_ 2 _).set_ 3 _).set_ 4 _), (grown_set (grown_set (grown_set (grown_set (grown_set (World.grownBy.refl _ _))))))⟩)); (focus ((simp only [Xo,Xp,Xq,Xr,Xs];rfl))))
  clear hf_a hc_a hB_a
  intro w4 hs
  obtain ⟨hB_a, hs⟩ := hs
  simp only [Xq,Xr,Xs] at hB_a
  have Fw4 := Fw3.grown hs Fw3.size (by intro k hk; first | (injection hk with hk; subst hk; first | exact Nat.le_refl _ | exact Fw3.size | omega) | omega)
  replace hB_l := hB_l.grown hs (by intro hk; injection hk with hk; have := hB_l.lt; have := hB_a.lt; omega)
  clear hs Fw3
  clear hc_l; have hc_l := hB_l.cell
  have hc_a := hB_a.cell
  repeat (first|(with_reducible first|apply Xa|apply Xb|apply Xc|apply Xd)|((with_reducible apply Xk);(focus rfl);(focus (simp [go_sem,effAt,↓IntWalk.iteOmega, *];(try go_ints);with_reducible first|exact Xm|exact Xn));focus (simp only [Xo,Xp,Xq,Xr,Xs];rfl))|((with_reducible apply Xl);(focus rfl);focus (simp only [Xo,Xp,Xq,Xr,Xs];rfl))|(with_reducible first|apply Xe|apply Xf|apply Xg|apply Xh)|((with_reducible apply Xi);focus first|rfl|(simp [go_sem, *];done))|((with_reducible apply Xj);focus first|rfl|(simp [go_sem, *];done))|(simp only [Exit.then,Exit.inBlock,↓reduceIte,Nat.reduceEqDiff]))
  ((with_reducible apply Xt (fun w' => Blk w' _ _ _ ∧ w4.grownBy w' (some _))); (focus rfl); (focus (simp only [effAt]; simp [go_sem]; (with_reducible exact effUpon_enter (hU _ _ hB_l)))); (focus ((simp only [Xo,Xp,Xq,Xr,Xs];rfl))))
  clear hc_l hB_l
  intro w5 hs
  obtain ⟨hB_l, hs⟩ := hs
  have Fw5 := Fw4.grown hs Fw4.size (by intro k hk; injection hk with hk; subst hk; first | exact Nat.le_refl _ | exact Fw4.size | omega)
  replace hB_a := hB_a.grown hs (by intro hk; injection hk with hk; have := hB_a.lt; have := hB_l.lt; omega)
  clear hs Fw4
  clear hc_a; have hc_a := hB_a.cell
  have hc_l := hB_l.cell
  repeat (first|(with_reducible first|apply Xa|apply Xb|apply Xc|apply Xd)|((with_reducible apply Xk);(focus rfl);(focus (simp [go_sem,effAt,↓IntWalk.iteOmega, *];(try go_ints);with_reducible first|exact Xm|exact Xn));focus (simp only [Xo,Xp,Xq,Xr,Xs];rfl))|((with_reducible apply Xl);(focus rfl);focus (simp only [Xo,Xp,Xq,Xr,Xs];rfl))|(with_reducible first|apply Xe|apply Xf|apply Xg|apply Xh)|((with_reducible apply Xi);focus first|rfl|(simp [go_sem, *];done))|((with_reducible apply Xj);focus first|rfl|(simp [go_sem, *];done))|(simp only [Exit.then,Exit.inBlock,↓reduceIte,Nat.reduceEqDiff]))
  ((with_reducible apply Xt (fun w' => Blk w' _ _ _ ∧ w5.grownBy w' (some _))); (focus rfl); (focus (simp only [effAt]; simp [go_sem]; (with_reducible exact effUpon_enter (hC _ _ hB_l)))); (focus ((simp only [Xo,Xp,Xq,Xr,Xs];rfl))))
  clear hc_l hB_l
  intro w6 hs
  obtain ⟨hB_l, hs⟩ := hs
  have Fw6 := Fw5.grown hs Fw5.size (by intro k hk; injection hk with hk; subst hk; first | exact Nat.le_refl _ | exact Fw5.size | omega)
  replace hB_a := hB_a.grown hs (by intro hk; injection hk with hk; have := hB_a.lt; have := hB_l.lt; omega)
  clear hs Fw5
  clear hc_a; have hc_a := hB_a.cell
  have hc_l := hB_l.cell
  repeat (first|(with_reducible first|apply Xa|apply Xb|apply Xc|apply Xd)|((with_reducible apply Xk);(focus rfl);(focus (simp [go_sem,effAt,↓IntWalk.iteOmega, *];(try go_ints);with_reducible first|exact Xm|exact Xn));focus (simp only [Xo,Xp,Xq,Xr,Xs];rfl))|((with_reducible apply Xl);(focus rfl);focus (simp only [Xo,Xp,Xq,Xr,Xs];rfl))|(with_reducible first|apply Xe|apply Xf|apply Xg|apply Xh)|((with_reducible apply Xi);focus first|rfl|(simp [go_sem, *];done))|((with_reducible apply Xj);focus first|rfl|(simp [go_sem, *];done))|(simp only [Exit.then,Exit.inBlock,↓reduceIte,Nat.reduceEqDiff]))
  have hf_a := hB_a.frozen
  ((with_reducible apply Xt (fun w' => Blk w' _ _ _ ∧ w6.grownBy w' (some _))); (focus rfl); (focus (simp [go_sem, effAt, *]; exact ⟨rfl, (((((hB_a.set_ 0 _).set_ 1 _).set_ 2 _).set_ 3 _).set_ 4 _), (grown_set (grown_set (grown_set (grown_set (grown_set (World.grownBy.refl _ _))))))⟩)); (focus ((simp only [Xo,Xp,Xq,Xr,Xs];rfl))))
  clear hf_a hc_a hB_a
  intro w7 hs
  obtain ⟨hB_a, hs⟩ := hs
  simp only [Xq,Xr,Xs] at hB_a
  have Fw7 := Fw6.grown hs Fw6.size (by intro k hk; first | (injection hk with hk; subst hk; first | exact Nat.le_refl _ | exact Fw6.size | omega) | omega)
  replace hB_l := hB_l.grown hs (by intro hk; injection hk with hk; have := hB_l.lt; have := hB_a.lt; omega)
  clear hs Fw6
  clear hc_l; have hc_l := hB_l.cell
  have hc_a := hB_a.cell
  repeat (first|(with_reducible first|apply Xa|apply Xb|apply Xc|apply Xd)|((with_reducible apply Xk);(focus rfl);(focus (simp [go_sem,effAt,↓IntWalk.iteOmega, *];(try go_ints);with_reducible first|exact Xm|exact Xn));focus (simp only [Xo,Xp,Xq,Xr,Xs];rfl))|((with_reducible apply Xl);(focus rfl);focus (simp only [Xo,Xp,Xq,Xr,Xs];rfl))|(with_reducible first|apply Xe|apply Xf|apply Xg|apply Xh)|((with_reducible apply Xi);focus first|rfl|(simp [go_sem, *];done))|((with_reducible apply Xj);focus first|rfl|(simp [go_sem, *];done))|(simp only [Exit.then,Exit.inBlock,↓reduceIte,Nat.reduceEqDiff]))
  clear hU hC hc_a hc_l
  obtain ⟨ab, hab⟩ : ∃ ab, w2.heap.size = ab := ⟨_, rfl⟩
  rw [hab] at hB_a lt_l_a ⊢
  go_loopg [8, 9] (M + 1) (fun q v8 v9 wr => ∃ i : Nat, v9 = .int .i64 (i : Int) ∧ v8 = .int .i64 (i : Int) ∧ i + q = M + 1 ∧ ((i ≤ M ∧ Blk wr w.heap.size 57 #[.int .u8 4, .bool false, .int .i64 (i : Int), .int .i64 (M : Int)] ∧ Blk wr ab 30 #[.int .u8 4, .bool true, .bool true, .int .u8 1, .int .u8 0]) ∨ (i = M + 1 ∧ Blk wr w.heap.size 57 #[.int .u8 5, .bool false, .int .i64 (M : Int), .int .i64 (M : Int)] ∧ Blk wr ab 30 #[.int .u8 0, .bool false, .bool false, .int .u8 2, .int .u8 6])) ∧ Below w.heap.size w wr)
  case atStart => exact ⟨0, rfl, rfl, by omega, .inl ⟨by omega, hB_l, hB_a⟩, Fw7⟩
  case round =>
    rename_i J K hJ hK
    clear hB_l hB_a Fw7
    obtain ⟨i, rfl, rfl, hi, hc, hF⟩ := hrel
    rcases hc with ⟨hiM, hB_l, hB_a⟩ | ⟨rfl, hB_l, hB_a⟩
    · have h300 : (i : Int) < 300 := by omega
      have hib : (i : Int) ≤ 255 := by omega
      by_cases hlt : i < M
      · have hD := HMo.out i _ _ hlt hB_l
        skip
        have hc_l := hB_l.cell
        have hc_a := hB_a.cell
        repeat (first|(with_reducible first|apply Xa|apply Xb|apply Xc|apply Xd)|((with_reducible apply Xk);(focus rfl);(focus (simp [go_sem,effAt,↓IntWalk.iteOmega, *];(try go_ints);with_reducible first|exact Xm|exact Xn));focus (simp only [Xo,Xp,Xq,Xr,Xs];rfl))|((with_reducible apply Xl);(focus rfl);focus (simp only [Xo,Xp,Xq,Xr,Xs];rfl))|(with_reducible first|apply Xe|apply Xf|apply Xg|apply Xh)|((with_reducible apply Xi);focus first|rfl|(simp [go_sem, *];done))|((with_reducible apply Xj);focus first|rfl|(simp [go_sem, *];done))|(simp only [Exit.then,Exit.inBlock,↓reduceIte,Nat.reduceEqDiff]))
        ((with_reducible apply Xt (fun w' => Blk w' _ _ _ ∧ wr.grownBy w' (some _))); (focus rfl); (focus (simp only [effAt]; simp [go_sem]; (with_reducible exact effUpon_enter (hD)))); (focus ((simp only [Xo,Xp,Xq,Xr,Xs];rfl))))
        clear hc_l hB_l
        intro w8 hs
        obtain ⟨hB_l, hs⟩ := hs
        have Fw8 := hF.grown hs hF.size (by intro k hk; injection hk with hk; subst hk; first | exact Nat.le_refl _ | exact hF.size | omega)
        replace hB_a := hB_a.grown hs (by intro hk; injection hk with hk; have := hB_a.lt; have := hB_l.lt; omega)
        clear hs hF
        clear hc_a; have hc_a := hB_a.cell
        have hc_l := hB_l.cell
        clear hD
        repeat (first|(with_reducible first|apply Xa|apply Xb|apply Xc|apply Xd)|((with_reducible apply Xk);(focus rfl);(focus (simp [go_sem,effAt,↓IntWalk.iteOmega, *];(try go_ints);with_reducible first|exact Xm|exact Xn));focus (simp only [Xo,Xp,Xq,Xr,Xs];rfl))|((with_reducible apply Xl);(focus rfl);focus (simp only [Xo,Xp,Xq,Xr,Xs];rfl))|(with_reducible first|apply Xe|apply Xf|apply Xg|apply Xh)|((with_reducible apply Xi);focus first|rfl|(simp [go_sem, *];done))|((with_reducible apply Xj);focus first|rfl|(simp [go_sem, *];done))|(simp only [Exit.then,Exit.inBlock,↓reduceIte,Nat.reduceEqDiff]))
        have hf_a := hB_a.frozen
        ((with_reducible apply Xt (fun w' => Blk w' _ _ _ ∧ w8.grownBy w' (some _))); (focus rfl); (focus (simp [go_sem, effAt, *]; exact ⟨rfl, (((((hB_a.set_ 0 _).set_ 1 _).set_ 2 _).set_ 3 _).set_ 4 _), (grown_set (grown_set (grown_set (grown_set (grown_set (World.grownBy.refl _ _))))))⟩)); (focus ((simp only [Xo,Xp,Xq,Xr,Xs];rfl))))
        clear hf_a hc_a hB_a
        intro w9 hs
        obtain ⟨hB_a, hs⟩ := hs
        simp only [Xq,Xr,Xs] at hB_a
        have Fw9 := Fw8.grown hs Fw8.size (by intro k hk; first | (injection hk with hk; subst hk; first | exact Nat.le_refl _ | exact Fw8.size | omega) | omega)
        replace hB_l := hB_l.grown hs (by intro hk; injection hk with hk; have := hB_l.lt; have := hB_a.lt; omega)
        clear hs Fw8
        clear hc_l; have hc_l := hB_l.cell
        have hc_a := hB_a.cell
        repeat (first|(with_reducible first|apply Xa|apply Xb|apply Xc|apply Xd)|((with_reducible apply Xk);(focus rfl);(focus (simp [go_sem,effAt,↓IntWalk.iteOmega, *];(try go_ints);with_reducible first|exact Xm|exact Xn));focus (simp only [Xo,Xp,Xq,Xr,Xs];rfl))|((with_reducible apply Xl);(focus rfl);focus (simp only [Xo,Xp,Xq,Xr,Xs];rfl))|(with_reducible first|apply Xe|apply Xf|apply Xg|apply Xh)|((with_reducible apply Xi);focus first|rfl|(simp [go_sem, *];done))|((with_reducible apply Xj);focus first|rfl|(simp [go_sem, *];done))|(simp only [Exit.then,Exit.inBlock,↓reduceIte,Nat.reduceEqDiff]))
        refine hK _ _ (Handed.intro (gk - 1) ?measure (hJ _ _ _ ?_))
        rotate_left
        (repeat apply Exists.intro)
        refine ⟨?rel, rfl⟩
        case rel => exact ⟨i + 1, by go_num, by go_num, by omega, .inl ⟨by omega, by rw [Int.natCast_add]; exact hB_l, hB_a⟩, by assumption⟩
        case measure => omega
      · obtain rfl : i = M := by omega
        have hD := HEn.out _ _ hB_l
        skip
        have hc_l := hB_l.cell
        have hc_a := hB_a.cell
        repeat (first|(with_reducible first|apply Xa|apply Xb|apply Xc|apply Xd)|((with_reducible apply Xk);(focus rfl);(focus (simp [go_sem,effAt,↓IntWalk.iteOmega, *];(try go_ints);with_reducible first|exact Xm|exact Xn));focus (simp only [Xo,Xp,Xq,Xr,Xs];rfl))|((with_reducible apply Xl);(focus rfl);focus (simp only [Xo,Xp,Xq,Xr,Xs];rfl))|(with_reducible first|apply Xe|apply Xf|apply Xg|apply Xh)|((with_reducible apply Xi);focus first|rfl|(simp [go_sem, *];done))|((with_reducible apply Xj);focus first|rfl|(simp [go_sem, *];done))|(simp only [Exit.then,Exit.inBlock,↓reduceIte,Nat.reduceEqDiff]))
        ((with_reducible apply Xt (fun w' => Blk w' _ _ _ ∧ wr.grownBy w' (some _))); (focus rfl); (focus (simp only [effAt]; simp [go_sem]; (with_reducible exact effUpon_enter (hD)))); (focus ((simp only [Xo,Xp,Xq,Xr,Xs];rfl))))
        clear hc_l hB_l
        intro w10 hs
        obtain ⟨hB_l, hs⟩ := hs
        have Fw10 := hF.grown hs hF.size (by intro k hk; injection hk with hk; subst hk; first | exact Nat.le_refl _ | exact hF.size | omega)
        replace hB_a := hB_a.grown hs (by intro hk; injection hk with hk; have := hB_a.lt; have := hB_l.lt; omega)
        clear hs hF
        clear hc_a; have hc_a := hB_a.cell
        have hc_l := hB_l.cell
        clear hD
        repeat (first|(with_reducible first|apply Xa|apply Xb|apply Xc|apply Xd)|((with_reducible apply Xk);(focus rfl);(focus (simp [go_sem,effAt,↓IntWalk.iteOmega, *];(try go_ints);with_reducible first|exact Xm|exact Xn));focus (simp only [Xo,Xp,Xq,Xr,Xs];rfl))|((with_reducible apply Xl);(focus rfl);focus (simp only [Xo,Xp,Xq,Xr,Xs];rfl))|(with_reducible first|apply Xe|apply Xf|apply Xg|apply Xh)|((with_reducible apply Xi);focus first|rfl|(simp [go_sem, *];done))|((with_reducible apply Xj);focus first|rfl|(simp [go_sem, *];done))|(simp only [Exit.then,Exit.inBlock,↓reduceIte,Nat.reduceEqDiff]))
        have hf_a := hB_a.frozen
        ((with_reducible apply Xt (fun w' => Blk w' _ _ _ ∧ w10.grownBy w' (some _))); (focus rfl); (focus (simp [go_sem, effAt, *]; exact ⟨rfl, (((((hB_a.set_ 0 _).set_ 1 _).set_ 2 _).set_ 3 _).set_ 4 _), (grown_set (grown_set (grown_set (grown_set (grown_set (World.grownBy.refl _ _))))))⟩)); (focus ((simp only [Xo,Xp,Xq,Xr,Xs];rfl))))
        clear hf_a hc_a hB_a
        intro w11 hs
        obtain ⟨hB_a, hs⟩ := hs
        simp only [Xq,Xr,Xs] at hB_a
        have Fw11 := Fw10.grown hs Fw10.size (by intro k hk; first | (injection hk with hk; subst hk; first | exact Nat.le_refl _ | exact Fw10.size | omega) | omega)
        replace hB_l := hB_l.grown hs (by intro hk; injection hk with hk; have := hB_l.lt; have := hB_a.lt; omega)
        clear hs Fw10
        clear hc_l; have hc_l := hB_l.cell
        have hc_a := hB_a.cell
        repeat (first|(with_reducible first|apply Xa|apply Xb|apply Xc|apply Xd)|((with_reducible apply Xk);(focus rfl);(focus (simp [go_sem,effAt,↓IntWalk.iteOmega, *];(try go_ints);with_reducible first|exact Xm|exact Xn));focus (simp only [Xo,Xp,Xq,Xr,Xs];rfl))|((with_reducible apply Xl);(focus rfl);focus (simp only [Xo,Xp,Xq,Xr,Xs];rfl))|(with_reducible first|apply Xe|apply Xf|apply Xg|apply Xh)|((with_reducible apply Xi);focus first|rfl|(simp [go_sem, *];done))|((with_reducible apply Xj);focus first|rfl|(simp [go_sem, *];done))|(simp only [Exit.then,Exit.inBlock,↓reduceIte,Nat.reduceEqDiff]))
        refine hK _ _ (Handed.intro (gk - 1) ?measure (hJ _ _ _ ?_))
        rotate_left
        (repeat apply Exists.intro)
        refine ⟨?rel, rfl⟩
        case rel => exact ⟨i + 1, by go_num, by go_num, by omega, .inr ⟨rfl, hB_l, hB_a⟩, by assumption⟩
        case measure => omega
    · have h300 : ((M : Int) + 1) < 300 := by omega
      have hR := HR.out
      have hS := HS.out
      have hfd : ∀ w, (Instr.field 30 (actV 1 true true 1 0) 0).run Try.prog w = .ok (.int .u8 1) w := fun w => by kernel_rfl
      have hD5 := HD5.out
      have hO5 := HO5.out
      skip
      have hc_l := hB_l.cell
      have hc_a := hB_a.cell
      repeat (first|(with_reducible first|apply Xa|apply Xb|apply Xc|apply Xd)|((with_reducible apply Xk);(focus rfl);(focus (simp [go_sem,effAt,↓IntWalk.iteOmega, *];(try go_ints);with_reducible first|exact Xm|exact Xn));focus (simp only [Xo,Xp,Xq,Xr,Xs];rfl))|((with_reducible apply Xl);(focus rfl);focus (simp only [Xo,Xp,Xq,Xr,Xs];rfl))|(with_reducible first|apply Xe|apply Xf|apply Xg|apply Xh)|((with_reducible apply Xi);focus first|rfl|(simp [go_sem, *];done))|((with_reducible apply Xj);focus first|rfl|(simp [go_sem, *];done))|(simp only [Exit.then,Exit.inBlock,↓reduceIte,Nat.reduceEqDiff]))
      have lt_l_r := hB_l.lt
      have lt_a_r := hB_a.lt
      have le_r := hF.size
      ((with_reducible apply Xt (fun w' => Blk w' wr.heap.size _ _ ∧ Below wr.heap.size wr w')); (focus rfl); (focus (simp only [effAt]; simp [go_sem]; (with_reducible exact effUpon_enter (hR _)))); (focus ((simp only [Xo,Xp,Xq,Xr,Xs];rfl))))
      intro w12 hs
      obtain ⟨hB_r, hs⟩ := hs
      have Fw12 := hF.trans (hs.mono hF.size)
      replace hB_l := hB_l.below hs hB_l.lt
      replace hB_a := hB_a.below hs hB_a.lt
      clear hs hF
      clear hc_l; have hc_l := hB_l.cell
      clear hc_a; have hc_a := hB_a.cell
      have hc_r := hB_r.cell
      clear hR
      repeat (first|(with_reducible first|apply Xa|apply Xb|apply Xc|apply Xd)|((with_reducible apply Xk);(focus rfl);(focus (simp [go_sem,effAt,↓IntWalk.iteOmega, *];(try go_ints);with_reducible first|exact Xm|exact Xn));focus (simp only [Xo,Xp,Xq,Xr,Xs];rfl))|((with_reducible apply Xl);(focus rfl);focus (simp only [Xo,Xp,Xq,Xr,Xs];rfl))|(with_reducible first|apply Xe|apply Xf|apply Xg|apply Xh)|((with_reducible apply Xi);focus first|rfl|(simp [go_sem, *];done))|((with_reducible apply Xj);focus first|rfl|(simp [go_sem, *];done))|(simp only [Exit.then,Exit.inBlock,↓reduceIte,Nat.reduceEqDiff]))
      ((with_reducible apply Xt (Below w12.heap.size w12)); (focus rfl); (focus (simp only [effAt]; simp [go_sem]; (with_reducible exact effUpon_enter (hS _ _ _ _ _ _ hB_l)))); (focus ((simp only [Xo,Xp,Xq,Xr,Xs];rfl))))
      intro w13 hs
      have Fw13 := Fw12.trans (hs.mono Fw12.size)
      replace hB_l := hB_l.below hs hB_l.lt
      replace hB_a := hB_a.below hs hB_a.lt
      replace hB_r := hB_r.below hs hB_r.lt
      clear hs Fw12
      clear hc_l; have hc_l := hB_l.cell
      clear hc_a; have hc_a := hB_a.cell
      clear hc_r; have hc_r := hB_r.cell
      repeat (first|(with_reducible first|apply Xa|apply Xb|apply Xc|apply Xd)|((with_reducible apply Xk);(focus rfl);(focus (simp [go_sem,effAt,↓IntWalk.iteOmega, *];(try go_ints);with_reducible first|exact Xm|exact Xn));focus (simp only [Xo,Xp,Xq,Xr,Xs];rfl))|((with_reducible apply Xl);(focus rfl);focus (simp only [Xo,Xp,Xq,Xr,Xs];rfl))|(with_reducible first|apply Xe|apply Xf|apply Xg|apply Xh)|((with_reducible apply Xi);focus first|rfl|(simp [go_sem, *];done))|((with_reducible apply Xj);focus first|rfl|(simp [go_sem, *];done))|(simp only [Exit.then,Exit.inBlock,↓reduceIte,Nat.reduceEqDiff]))
      ((with_reducible apply Xt (fun w' => Blk w' _ _ _ ∧ w13.grownBy w' (some _))); (focus rfl); (focus (simp only [effAt]; simp [go_sem]; (with_reducible exact effUpon_enter (hD5 _ _ hB_l)))); (focus ((simp only [Xo,Xp,Xq,Xr,Xs];rfl))))
      clear hc_l hB_l
      intro w14 hs
      obtain ⟨hB_l, hs⟩ := hs
      have Fw14 := Fw13.grown hs Fw13.size (by intro k hk; injection hk with hk; subst hk; first | exact Nat.le_refl _ | exact Fw13.size | omega)
      replace hB_a := hB_a.grown hs (by intro hk; injection hk with hk; have := hB_a.lt; have := hB_l.lt; omega)
      replace hB_r := hB_r.grown hs (by intro hk; injection hk with hk; have := hB_r.lt; have := hB_l.lt; omega)
      clear hs Fw13
      clear hc_a; have hc_a := hB_a.cell
      clear hc_r; have hc_r := hB_r.cell
      have hc_l := hB_l.cell
      clear hD5
      repeat (first|(with_reducible first|apply Xa|apply Xb|apply Xc|apply Xd)|((with_reducible apply Xk);(focus rfl);(focus (simp [go_sem,effAt,↓IntWalk.iteOmega, *];(try go_ints);with_reducible first|exact Xm|exact Xn));focus (simp only [Xo,Xp,Xq,Xr,Xs];rfl))|((with_reducible apply Xl);(focus rfl);focus (simp only [Xo,Xp,Xq,Xr,Xs];rfl))|(with_reducible first|apply Xe|apply Xf|apply Xg|apply Xh)|((with_reducible apply Xi);focus first|rfl|(simp [go_sem, *];done))|((with_reducible apply Xj);focus first|rfl|(simp [go_sem, *];done))|(simp only [Exit.then,Exit.inBlock,↓reduceIte,Nat.reduceEqDiff]))
      ((with_reducible apply Xt (fun w' => Blk w' _ _ _ ∧ w14.grownBy w' (some _))); (focus rfl); (focus (simp only [effAt]; simp [go_sem]; (with_reducible exact effUpon_enter (hO5 _ _ hB_l)))); (focus ((simp only [Xo,Xp,Xq,Xr,Xs];rfl))))
      clear hc_l hB_l
      intro w15 hs
      obtain ⟨hB_l, hs⟩ := hs
      have Fw15 := Fw14.grown hs Fw14.size (by intro k hk; injection hk with hk; subst hk; first | exact Nat.le_refl _ | exact Fw14.size | omega)
      replace hB_a := hB_a.grown hs (by intro hk; injection hk with hk; have := hB_a.lt; have := hB_l.lt; omega)
      replace hB_r := hB_r.grown hs (by intro hk; injection hk with hk; have := hB_r.lt; have := hB_l.lt; omega)
      clear hs Fw14
      clear hc_a; have hc_a := hB_a.cell
      clear hc_r; have hc_r := hB_r.cell
      have hc_l := hB_l.cell
      clear hO5
      repeat (first|(with_reducible first|apply Xa|apply Xb|apply Xc|apply Xd)|((with_reducible apply Xk);(focus rfl);(focus (simp [go_sem,effAt,↓IntWalk.iteOmega, *];(try go_ints);with_reducible first|exact Xm|exact Xn));focus (simp only [Xo,Xp,Xq,Xr,Xs];rfl))|((with_reducible apply Xl);(focus rfl);focus (simp only [Xo,Xp,Xq,Xr,Xs];rfl))|(with_reducible first|apply Xe|apply Xf|apply Xg|apply Xh)|((with_reducible apply Xi);focus first|rfl|(simp [go_sem, *];done))|((with_reducible apply Xj);focus first|rfl|(simp [go_sem, *];done))|(simp only [Exit.then,Exit.inBlock,↓reduceIte,Nat.reduceEqDiff]))
      ((with_reducible apply Xt (Below w15.heap.size w15)); (focus rfl); (focus (simp only [effAt]; simp [go_sem]; (with_reducible exact effUpon_enter (hS _ _ _ _ _ _ hB_l)))); (focus ((simp only [Xo,Xp,Xq,Xr,Xs];rfl))))
      intro w16 hs
      have Fw16 := Fw15.trans (hs.mono Fw15.size)
      replace hB_l := hB_l.below hs hB_l.lt
      replace hB_a := hB_a.below hs hB_a.lt
      replace hB_r := hB_r.below hs hB_r.lt
      clear hs Fw15
      clear hc_l; have hc_l := hB_l.cell
      clear hc_a; have hc_a := hB_a.cell
      clear hc_r; have hc_r := hB_r.cell
      clear hS
      repeat (first|(with_reducible first|apply Xa|apply Xb|apply Xc|apply Xd)|((with_reducible apply Xk);(focus rfl);(focus (simp [go_sem,effAt,↓IntWalk.iteOmega, *];(try go_ints);with_reducible first|exact Xm|exact Xn));focus (simp only [Xo,Xp,Xq,Xr,Xs];rfl))|((with_reducible apply Xl);(focus rfl);focus (simp only [Xo,Xp,Xq,Xr,Xs];rfl))|(with_reducible first|apply Xe|apply Xf|apply Xg|apply Xh)|((with_reducible apply Xi);focus first|rfl|(simp [go_sem, *];done))|((with_reducible apply Xj);focus first|rfl|(simp [go_sem, *];done))|(simp only [Exit.then,Exit.inBlock,↓reduceIte,Nat.reduceEqDiff]))
      ((with_reducible apply Xt (Below w16.heap.size w16)); (focus rfl); (focus (simp only [effAt]; simp [go_sem]; (with_reducible exact effUpon_enter (works_any _)))); (focus ((simp only [Xo,Xp,Xq,Xr,Xs];rfl))))
      intro w17 hs
      have Fw17 := Fw16.trans (hs.mono Fw16.size)
      replace hB_l := hB_l.below hs hB_l.lt
      replace hB_a := hB_a.below hs hB_a.lt
      replace hB_r := hB_r.below hs hB_r.lt
      clear hs Fw16
      clear hc_l; have hc_l := hB_l.cell
      clear hc_a; have hc_a := hB_a.cell
      clear hc_r; have hc_r := hB_r.cell
      repeat (first|(with_reducible first|apply Xa|apply Xb|apply Xc|apply Xd)|((with_reducible apply Xk);(focus rfl);(focus (simp [go_sem,effAt,↓IntWalk.iteOmega, *];(try go_ints);with_reducible first|exact Xm|exact Xn));focus (simp only [Xo,Xp,Xq,Xr,Xs];rfl))|((with_reducible apply Xl);(focus rfl);focus (simp only [Xo,Xp,Xq,Xr,Xs];rfl))|(with_reducible first|apply Xe|apply Xf|apply Xg|apply Xh)|((with_reducible apply Xi);focus first|rfl|(simp [go_sem, *];done))|((with_reducible apply Xj);focus first|rfl|(simp [go_sem, *];done))|(simp only [Exit.then,Exit.inBlock,↓reduceIte,Nat.reduceEqDiff]))
      go_ret
      exact ⟨rfl, by assumption⟩
theorem gives_any (n2 : Int) (cl : Bool) (w : World) : Calls Try.prog 5 #[.int .i64 n2, .bool cl] w (Ret (.bool true) (Below w.heap.size w)) := by
  cases cl
  · exact gives_false n2 w
  · exact gives_true n2 w
