/- The walks of the document's link: Hear, refDoes. -/
import Derived.Test.YtggpecddkbceoaaL6
import Derived.Test.YtggpecddkbceoaaKf
set_option linter.unusedSimpArgs false
set_option linter.unusedVariables false
namespace Go.Proofs.Ytggpecddkbceoaa
open Go.RowKit Go.Eff
attribute [local irreducible] Go.wpList
set_option maxHeartbeats 50000000 in
theorem bundleb_1 :
    (∀ (h : Nat) (s : Int) (ls : Bool) (tr mo : Int) (k : Int) (pf cmd : Bool) (w : World) (hB_l : RB w h s ls tr mo) (h1 : k < 1), Calls Try.prog 27 #[.pointer (some ⟨h, 0, none⟩), .int .u8 k, .bool pf, .bool cmd] w (Ret (actV 0 false false 0 0) fun w' => RB w' h s ls tr mo ∧ w.grownBy w' (some h))) ∧
    (∀ (h : Nat) (s : Int) (ls : Bool) (tr mo : Int) (k : Int) (pf cmd : Bool) (w : World) (hB_l : RB w h s ls tr mo) (h1 : ¬ k < 1) (h10 : 10 < k), Calls Try.prog 27 #[.pointer (some ⟨h, 0, none⟩), .int .u8 k, .bool pf, .bool cmd] w (Ret (actV 0 false false 0 0) fun w' => RB w' h s ls tr mo ∧ w.grownBy w' (some h))) ∧
    (∀ (h : Nat) (s : Int) (ls : Bool) (tr mo : Int) (pf : Bool) (w : World) (hB_l : RB w h s ls tr mo), Calls Try.prog 27 #[.pointer (some ⟨h, 0, none⟩), .int .u8 2, .bool pf, .bool true] w (Ret (actV 0 false false 0 0) fun w' => RB w' h s ls tr mo ∧ w.grownBy w' (some h))) ∧
    (∀ (h : Nat) (s : Int) (ls : Bool) (tr mo : Int) (pf : Bool) (w : World) (hB_l : RB w h s ls tr mo), Calls Try.prog 27 #[.pointer (some ⟨h, 0, none⟩), .int .u8 3, .bool pf, .bool true] w (Ret (actV 0 false false 0 0) fun w' => RB w' h s ls tr mo ∧ w.grownBy w' (some h))) ∧
    (∀ (h : Nat) (s : Int) (ls : Bool) (tr mo : Int) (pf : Bool) (w : World) (hB_l : RB w h s ls tr mo), Calls Try.prog 27 #[.pointer (some ⟨h, 0, none⟩), .int .u8 1, .bool pf, .bool false] w (Ret (actV 0 false false 0 0) fun w' => RB w' h s ls tr mo ∧ w.grownBy w' (some h))) ∧
    (∀ (h : Nat) (s : Int) (ls : Bool) (tr mo : Int) (pf : Bool) (w : World) (hB_l : RB w h s ls tr mo), Calls Try.prog 27 #[.pointer (some ⟨h, 0, none⟩), .int .u8 4, .bool pf, .bool false] w (Ret (actV 0 false false 0 0) fun w' => RB w' h s ls tr mo ∧ w.grownBy w' (some h))) ∧
    (∀ (h : Nat) (ls : Bool) (tr mo : Int) (k : Int) (pf : Bool) (w : World) (hB_l : RB w h 1 ls tr mo) (h1 : ¬ k < 1) (h10 : ¬ 10 < k) (h2 : ¬ k = 2) (h3 : ¬ k = 3) (h4 : ¬ k = 1) (h5 : ¬ k = 4), Calls Try.prog 27 #[.pointer (some ⟨h, 0, none⟩), .int .u8 k, .bool pf, .bool false] w (Ret (actV 0 false false 0 0) fun w' => RB w' h 1 ls tr mo ∧ w.grownBy w' (some h))) ∧
    (∀ (h : Nat) (ls : Bool) (tr mo : Int) (k : Int) (pf : Bool) (w : World) (hB_l : RB w h 2 ls tr mo) (h1 : ¬ k < 1) (h10 : ¬ 10 < k) (h2 : ¬ k = 2) (h3 : ¬ k = 3) (h4 : ¬ k = 1) (h5 : ¬ k = 4), Calls Try.prog 27 #[.pointer (some ⟨h, 0, none⟩), .int .u8 k, .bool pf, .bool false] w (Ret (actV 0 false false 0 0) fun w' => RB w' h 2 ls tr mo ∧ w.grownBy w' (some h))) ∧
    (∀ (h : Nat) (ls : Bool) (tr mo : Int) (k : Int) (pf : Bool) (w : World) (hB_l : RB w h 3 ls tr mo) (h1 : ¬ k < 1) (h10 : ¬ 10 < k) (h2 : ¬ k = 2) (h3 : ¬ k = 3) (h4 : ¬ k = 1) (h5 : ¬ k = 4), Calls Try.prog 27 #[.pointer (some ⟨h, 0, none⟩), .int .u8 k, .bool pf, .bool false] w (Ret (actV 0 false false 0 0) fun w' => RB w' h 3 ls tr mo ∧ w.grownBy w' (some h))) ∧
    (∀ (h : Nat) (ls : Bool) (tr mo : Int) (k : Int) (pf : Bool) (w : World) (hB_l : RB w h 4 ls tr mo) (h1 : ¬ k < 1) (h10 : ¬ 10 < k) (h2 : ¬ k = 2) (h3 : ¬ k = 3) (h4 : ¬ k = 1) (h5 : ¬ k = 4), Calls Try.prog 27 #[.pointer (some ⟨h, 0, none⟩), .int .u8 k, .bool pf, .bool false] w (Ret (actV 0 false false 0 0) fun w' => RB w' h 4 ls tr mo ∧ w.grownBy w' (some h))) ∧
    (∀ (h : Nat) (ls : Bool) (tr mo : Int) (k : Int) (pf : Bool) (w : World) (hB_l : RB w h 5 ls tr mo) (h1 : ¬ k < 1) (h10 : ¬ 10 < k) (h2 : ¬ k = 2) (h3 : ¬ k = 3) (h4 : ¬ k = 1) (h5 : ¬ k = 4), Calls Try.prog 27 #[.pointer (some ⟨h, 0, none⟩), .int .u8 k, .bool pf, .bool false] w (Ret (actV 0 false false 0 0) fun w' => RB w' h 5 ls tr mo ∧ w.grownBy w' (some h))) ∧
    (∀ (h : Nat) (ls : Bool) (tr mo : Int) (w : World) (hB_l : RB w h 1 ls tr mo), Calls Try.prog 27 #[.pointer (some ⟨h, 0, none⟩), .int .u8 2, .bool true, .bool false] w (Ret (actV 0 false false 0 0) fun w' => RB w' h 1 ls tr mo ∧ w.grownBy w' (some h))) ∧
    (∀ (h : Nat) (ls : Bool) (tr mo : Int) (w : World) (hB_l : RB w h 1 ls tr mo), Calls Try.prog 27 #[.pointer (some ⟨h, 0, none⟩), .int .u8 2, .bool false, .bool false] w (Ret (actV 0 false false 0 0) fun w' => RB w' h 1 ls tr mo ∧ w.grownBy w' (some h))) ∧
    (∀ (h : Nat) (ls : Bool) (tr mo : Int) (w : World) (hB_l : RB w h 1 ls tr mo), Calls Try.prog 27 #[.pointer (some ⟨h, 0, none⟩), .int .u8 3, .bool true, .bool false] w (Ret (actV 0 false false 0 0) fun w' => RB w' h 1 ls tr mo ∧ w.grownBy w' (some h))) ∧
    (∀ (h : Nat) (ls : Bool) (tr mo : Int) (w : World) (hB_l : RB w h 1 ls tr mo), Calls Try.prog 27 #[.pointer (some ⟨h, 0, none⟩), .int .u8 3, .bool false, .bool false] w (Ret (actV 0 false false 0 0) fun w' => RB w' h 1 ls tr mo ∧ w.grownBy w' (some h))) ∧
    (∀ (h : Nat) (ls : Bool) (tr mo : Int) (w : World) (hB_l : RB w h 2 ls tr mo), Calls Try.prog 27 #[.pointer (some ⟨h, 0, none⟩), .int .u8 2, .bool false, .bool false] w (Ret (actV 0 false false 0 0) fun w' => RB w' h 2 ls tr mo ∧ w.grownBy w' (some h))) ∧
    (∀ (h : Nat) (ls : Bool) (tr mo : Int) (w : World) (hB_l : RB w h 2 ls tr mo), Calls Try.prog 27 #[.pointer (some ⟨h, 0, none⟩), .int .u8 3, .bool false, .bool false] w (Ret (actV 0 false false 0 0) fun w' => RB w' h 2 ls tr mo ∧ w.grownBy w' (some h))) ∧
    (∀ (h : Nat) (ls : Bool) (tr mo : Int) (w : World) (hB_l : RB w h 3 ls tr mo), Calls Try.prog 27 #[.pointer (some ⟨h, 0, none⟩), .int .u8 2, .bool true, .bool false] w (Ret (actV 0 false false 0 0) fun w' => RB w' h 3 ls tr mo ∧ w.grownBy w' (some h))) ∧
    (∀ (h : Nat) (ls : Bool) (tr mo : Int) (w : World) (hB_l : RB w h 3 ls tr mo), Calls Try.prog 27 #[.pointer (some ⟨h, 0, none⟩), .int .u8 2, .bool false, .bool false] w (Ret (actV 0 false false 0 0) fun w' => RB w' h 3 ls tr mo ∧ w.grownBy w' (some h))) ∧
    (∀ (h : Nat) (ls : Bool) (tr mo : Int) (w : World) (hB_l : RB w h 4 ls tr mo), Calls Try.prog 27 #[.pointer (some ⟨h, 0, none⟩), .int .u8 2, .bool false, .bool false] w (Ret (actV 0 false false 0 0) fun w' => RB w' h 4 ls tr mo ∧ w.grownBy w' (some h))) ∧
    (∀ (h : Nat) (ls : Bool) (tr mo : Int) (w : World) (hB_l : RB w h 4 ls tr mo), Calls Try.prog 27 #[.pointer (some ⟨h, 0, none⟩), .int .u8 3, .bool false, .bool false] w (Ret (actV 0 false false 0 0) fun w' => RB w' h 4 ls tr mo ∧ w.grownBy w' (some h))) ∧
    (∀ (h : Nat) (ls : Bool) (tr mo : Int) (w : World) (hB_l : RB w h 5 ls tr mo), Calls Try.prog 27 #[.pointer (some ⟨h, 0, none⟩), .int .u8 2, .bool true, .bool false] w (Ret (actV 0 false false 0 0) fun w' => RB w' h 5 ls tr mo ∧ w.grownBy w' (some h))) ∧
    (∀ (h : Nat) (ls : Bool) (tr mo : Int) (w : World) (hB_l : RB w h 5 ls tr mo), Calls Try.prog 27 #[.pointer (some ⟨h, 0, none⟩), .int .u8 2, .bool false, .bool false] w (Ret (actV 0 false false 0 0) fun w' => RB w' h 5 ls tr mo ∧ w.grownBy w' (some h))) ∧
    (∀ (h : Nat) (ls : Bool) (tr mo : Int) (w : World) (hB_l : RB w h 5 ls tr mo), Calls Try.prog 27 #[.pointer (some ⟨h, 0, none⟩), .int .u8 3, .bool true, .bool false] w (Ret (actV 0 false false 0 0) fun w' => RB w' h 5 ls tr mo ∧ w.grownBy w' (some h))) ∧
    (∀ (h : Nat) (ls : Bool) (tr mo : Int) (w : World) (hB_l : RB w h 5 ls tr mo), Calls Try.prog 27 #[.pointer (some ⟨h, 0, none⟩), .int .u8 3, .bool false, .bool false] w (Ret (actV 0 false false 0 0) fun w' => RB w' h 5 ls tr mo ∧ w.grownBy w' (some h))) := by
  refine ⟨?a0, ?a1, ?a2, ?a3, ?a4, ?a5, ?a6, ?a7, ?a8, ?a9, ?a10, ?a11, ?a12, ?a13, ?a14, ?a15, ?a16, ?a17, ?a18, ?a19, ?a20, ?a21, ?a22, ?a23, ?a24⟩
  case' a0 =>
    intro h s ls tr mo k pf cmd w hB_l h1
    have m2 : (k == 2) = false := by simp; omega
    have m3 : (k == 3) = false := by simp; omega
    unfold RB at *
  case' a1 =>
    intro h s ls tr mo k pf cmd w hB_l h1 h10
    have m2 : (k == 2) = false := by simp; omega
    have m3 : (k == 3) = false := by simp; omega
    unfold RB at *
  case' a2 =>
    intro h s ls tr mo pf w hB_l
    unfold RB at *
  case' a3 =>
    intro h s ls tr mo pf w hB_l
    unfold RB at *
  case' a4 =>
    intro h s ls tr mo pf w hB_l
    unfold RB at *
  case' a5 =>
    intro h s ls tr mo pf w hB_l
    unfold RB at *
  case' a6 =>
    intro h ls tr mo k pf w hB_l h1 h10 h2 h3 h4 h5
    have m2 : (k == 2) = false := by simp; omega
    have m3 : (k == 3) = false := by simp; omega
    have n1 : (k == 1) = false := by simp; omega
    have n4 : (k == 4) = false := by simp; omega
    unfold RB at *
  case' a7 =>
    intro h ls tr mo k pf w hB_l h1 h10 h2 h3 h4 h5
    have m2 : (k == 2) = false := by simp; omega
    have m3 : (k == 3) = false := by simp; omega
    have n1 : (k == 1) = false := by simp; omega
    have n4 : (k == 4) = false := by simp; omega
    unfold RB at *
  case' a8 =>
    intro h ls tr mo k pf w hB_l h1 h10 h2 h3 h4 h5
    have m2 : (k == 2) = false := by simp; omega
    have m3 : (k == 3) = false := by simp; omega
    have n1 : (k == 1) = false := by simp; omega
    have n4 : (k == 4) = false := by simp; omega
    unfold RB at *
  case' a9 =>
    intro h ls tr mo k pf w hB_l h1 h10 h2 h3 h4 h5
    have m2 : (k == 2) = false := by simp; omega
    have m3 : (k == 3) = false := by simp; omega
    have n1 : (k == 1) = false := by simp; omega
    have n4 : (k == 4) = false := by simp; omega
    unfold RB at *
  case' a10 =>
    intro h ls tr mo k pf w hB_l h1 h10 h2 h3 h4 h5
    have m2 : (k == 2) = false := by simp; omega
    have m3 : (k == 3) = false := by simp; omega
    have n1 : (k == 1) = false := by simp; omega
    have n4 : (k == 4) = false := by simp; omega
    unfold RB at *
  case' a11 =>
    intro h ls tr mo w hB_l
    unfold RB at *
  case' a12 =>
    intro h ls tr mo w hB_l
    unfold RB at *
  case' a13 =>
    intro h ls tr mo w hB_l
    unfold RB at *
  case' a14 =>
    intro h ls tr mo w hB_l
    unfold RB at *
  case' a15 =>
    intro h ls tr mo w hB_l
    unfold RB at *
  case' a16 =>
    intro h ls tr mo w hB_l
    unfold RB at *
  case' a17 =>
    intro h ls tr mo w hB_l
    unfold RB at *
  case' a18 =>
    intro h ls tr mo w hB_l
    unfold RB at *
  case' a19 =>
    intro h ls tr mo w hB_l
    unfold RB at *
  case' a20 =>
    intro h ls tr mo w hB_l
    unfold RB at *
  case' a21 =>
    intro h ls tr mo w hB_l
    unfold RB at *
  case' a22 =>
    intro h ls tr mo w hB_l
    unfold RB at *
  case' a23 =>
    intro h ls tr mo w hB_l
    unfold RB at *
  case' a24 =>
    intro h ls tr mo w hB_l
    unfold RB at *
  all_goals
    go_enter Try.func27, Try.ntmps27
    have F0 : Turn (fun i => i = h ∨ w.heap.size ≤ i) w w := Turn.refl _
    have hc_l := hB_l.cell
    repeat (first|(with_reducible apply Xa)|((with_reducible apply region_k);intro KK kk)|(with_reducible apply Xc)|((with_reducible apply seq_k);intro KK kk)|((with_reducible apply Xk);(focus first|exact wanted_none rfl|exact wanted_yes rfl rfl rfl);(focus (simp [go_sem,effAt,↓IntWalk.iteOmega, *];(try go_ints);with_reducible first|exact Xm|exact Xn));focus (first|(apply put_some rfl;focus (conv=>lhs;dsimp only [Xr,Xs])<;>rfl)|exact put_none rfl))|((with_reducible apply Xl);(focus first|exact wanted_no rfl rfl rfl|exact wanted_undef rfl rfl rfl);focus (first|(apply put_some rfl;focus (conv=>lhs;dsimp only [Xr,Xs])<;>rfl)|exact put_none rfl))|(with_reducible first|apply Xe|apply Xf|apply Xg|apply Xh)|((with_reducible apply Xi);focus first|rfl|(simp [go_sem, *];done))|((with_reducible apply Xj);focus first|rfl|(simp [go_sem, *];done))|(simp only [Exit.then,Exit.inBlock,↓reduceIte,Nat.reduceEqDiff])|((with_reducible apply kf_out);focus assumption))
    have lt_l_r := hB_l.lt
    have le_r := F0.size
    ((with_reducible apply Xu); (focus rfl); (focus (simp [go_sem, effAt]; exact ⟨rfl, rfl⟩)); (focus ((first|(apply put_some rfl;focus (conv=>lhs;dsimp only [Xr,Xs])<;>rfl)|exact put_none rfl))))
    intro w1 hB_r hs
    have Fw1 := F0.trans (Turn.of_below hs)
    replace hB_l := hB_l.below hs hB_l.lt
    clear hs F0
    clear hc_l; have hc_l := hB_l.cell
    have hc_r := hB_r.cell
    repeat (first|(with_reducible apply Xa)|((with_reducible apply region_k);intro KK kk)|(with_reducible apply Xc)|((with_reducible apply seq_k);intro KK kk)|((with_reducible apply Xk);(focus first|exact wanted_none rfl|exact wanted_yes rfl rfl rfl);(focus (simp [go_sem,effAt,↓IntWalk.iteOmega, *];(try go_ints);with_reducible first|exact Xm|exact Xn));focus (first|(apply put_some rfl;focus (conv=>lhs;dsimp only [Xr,Xs])<;>rfl)|exact put_none rfl))|((with_reducible apply Xl);(focus first|exact wanted_no rfl rfl rfl|exact wanted_undef rfl rfl rfl);focus (first|(apply put_some rfl;focus (conv=>lhs;dsimp only [Xr,Xs])<;>rfl)|exact put_none rfl))|(with_reducible first|apply Xe|apply Xf|apply Xg|apply Xh)|((with_reducible apply Xi);focus first|rfl|(simp [go_sem, *];done))|((with_reducible apply Xj);focus first|rfl|(simp [go_sem, *];done))|(simp only [Exit.then,Exit.inBlock,↓reduceIte,Nat.reduceEqDiff])|((with_reducible apply kf_out);focus assumption))
    have hf_r := hB_r.frozen
    ((with_reducible apply Xt (fun w' => Blk w' _ _ _ ∧ w1.grownBy w' (some _))); (focus rfl); (focus (simp [go_sem, effAt, *]; exact ⟨rfl, (((((hB_r.set_ 0 _).set_ 1 _).set_ 2 _).set_ 3 _).set_ 4 _), (grown_set (grown_set (grown_set (grown_set (grown_set (World.grownBy.refl _ _))))))⟩)); (focus ((first|(apply put_some rfl;focus (conv=>lhs;dsimp only [Xr,Xs])<;>rfl)|exact put_none rfl))))
    clear hf_r hc_r hB_r
    intro w2 hs
    obtain ⟨hB_r, hs⟩ := hs
    simp only [Xq,Xr,Xs] at hB_r
    have Fw2 := Fw1.trans (Turn.of_grown hs (by first | exact .inl rfl | exact .inr (by omega)))
    replace hB_l := hB_l.grown hs (by intro hk; injection hk with hk; have := hB_l.lt; have := hB_r.lt; omega)
    clear hs Fw1
    clear hc_l; have hc_l := hB_l.cell
    have hc_r := hB_r.cell
    repeat (first|(with_reducible apply Xa)|((with_reducible apply region_k);intro KK kk)|(with_reducible apply Xc)|((with_reducible apply seq_k);intro KK kk)|((with_reducible apply Xk);(focus first|exact wanted_none rfl|exact wanted_yes rfl rfl rfl);(focus (simp [go_sem,effAt,↓IntWalk.iteOmega, *];(try go_ints);with_reducible first|exact Xm|exact Xn));focus (first|(apply put_some rfl;focus (conv=>lhs;dsimp only [Xr,Xs])<;>rfl)|exact put_none rfl))|((with_reducible apply Xl);(focus first|exact wanted_no rfl rfl rfl|exact wanted_undef rfl rfl rfl);focus (first|(apply put_some rfl;focus (conv=>lhs;dsimp only [Xr,Xs])<;>rfl)|exact put_none rfl))|(with_reducible first|apply Xe|apply Xf|apply Xg|apply Xh)|((with_reducible apply Xi);focus first|rfl|(simp [go_sem, *];done))|((with_reducible apply Xj);focus first|rfl|(simp [go_sem, *];done))|(simp only [Exit.then,Exit.inBlock,↓reduceIte,Nat.reduceEqDiff])|((with_reducible apply kf_out);focus assumption))
    refine bodyPost_ret (v := _) (by simp [results, Try.results27, go_sem, *]) rfl ⟨rfl, hB_l, Turn.to_grown (by assumption)⟩
theorem rhear_low (h : Nat) (s : Int) (ls : Bool) (tr mo : Int) (k : Int) (pf cmd : Bool) (w : World) (hB_l : RB w h s ls tr mo) (h1 : k < 1) :
    Calls Try.prog 27 #[.pointer (some ⟨h, 0, none⟩), .int .u8 k, .bool pf, .bool cmd] w (Ret (actV 0 false false 0 0) fun w' => RB w' h s ls tr mo ∧ w.grownBy w' (some h)) := bundleb_1.1 h s ls tr mo k pf cmd w hB_l h1
theorem rhear_up (h : Nat) (s : Int) (ls : Bool) (tr mo : Int) (k : Int) (pf cmd : Bool) (w : World) (hB_l : RB w h s ls tr mo) (h1 : ¬ k < 1) (h10 : 10 < k) :
    Calls Try.prog 27 #[.pointer (some ⟨h, 0, none⟩), .int .u8 k, .bool pf, .bool cmd] w (Ret (actV 0 false false 0 0) fun w' => RB w' h s ls tr mo ∧ w.grownBy w' (some h)) := bundleb_1.2.1 h s ls tr mo k pf cmd w hB_l h1 h10
theorem rhear_own2 (h : Nat) (s : Int) (ls : Bool) (tr mo : Int) (pf : Bool) (w : World) (hB_l : RB w h s ls tr mo) :
    Calls Try.prog 27 #[.pointer (some ⟨h, 0, none⟩), .int .u8 2, .bool pf, .bool true] w (Ret (actV 0 false false 0 0) fun w' => RB w' h s ls tr mo ∧ w.grownBy w' (some h)) := bundleb_1.2.2.1 h s ls tr mo pf w hB_l
theorem rhear_own3 (h : Nat) (s : Int) (ls : Bool) (tr mo : Int) (pf : Bool) (w : World) (hB_l : RB w h s ls tr mo) :
    Calls Try.prog 27 #[.pointer (some ⟨h, 0, none⟩), .int .u8 3, .bool pf, .bool true] w (Ret (actV 0 false false 0 0) fun w' => RB w' h s ls tr mo ∧ w.grownBy w' (some h)) := bundleb_1.2.2.2.1 h s ls tr mo pf w hB_l
theorem rhear_res1 (h : Nat) (s : Int) (ls : Bool) (tr mo : Int) (pf : Bool) (w : World) (hB_l : RB w h s ls tr mo) :
    Calls Try.prog 27 #[.pointer (some ⟨h, 0, none⟩), .int .u8 1, .bool pf, .bool false] w (Ret (actV 0 false false 0 0) fun w' => RB w' h s ls tr mo ∧ w.grownBy w' (some h)) := bundleb_1.2.2.2.2.1 h s ls tr mo pf w hB_l
theorem rhear_res4 (h : Nat) (s : Int) (ls : Bool) (tr mo : Int) (pf : Bool) (w : World) (hB_l : RB w h s ls tr mo) :
    Calls Try.prog 27 #[.pointer (some ⟨h, 0, none⟩), .int .u8 4, .bool pf, .bool false] w (Ret (actV 0 false false 0 0) fun w' => RB w' h s ls tr mo ∧ w.grownBy w' (some h)) := bundleb_1.2.2.2.2.2.1 h s ls tr mo pf w hB_l
theorem rhear_reso_1 (h : Nat) (ls : Bool) (tr mo : Int) (k : Int) (pf : Bool) (w : World) (hB_l : RB w h 1 ls tr mo) (h1 : ¬ k < 1) (h10 : ¬ 10 < k) (h2 : ¬ k = 2) (h3 : ¬ k = 3) (h4 : ¬ k = 1) (h5 : ¬ k = 4) :
    Calls Try.prog 27 #[.pointer (some ⟨h, 0, none⟩), .int .u8 k, .bool pf, .bool false] w (Ret (actV 0 false false 0 0) fun w' => RB w' h 1 ls tr mo ∧ w.grownBy w' (some h)) := bundleb_1.2.2.2.2.2.2.1 h ls tr mo k pf w hB_l h1 h10 h2 h3 h4 h5
theorem rhear_reso_2 (h : Nat) (ls : Bool) (tr mo : Int) (k : Int) (pf : Bool) (w : World) (hB_l : RB w h 2 ls tr mo) (h1 : ¬ k < 1) (h10 : ¬ 10 < k) (h2 : ¬ k = 2) (h3 : ¬ k = 3) (h4 : ¬ k = 1) (h5 : ¬ k = 4) :
    Calls Try.prog 27 #[.pointer (some ⟨h, 0, none⟩), .int .u8 k, .bool pf, .bool false] w (Ret (actV 0 false false 0 0) fun w' => RB w' h 2 ls tr mo ∧ w.grownBy w' (some h)) := bundleb_1.2.2.2.2.2.2.2.1 h ls tr mo k pf w hB_l h1 h10 h2 h3 h4 h5
theorem rhear_reso_3 (h : Nat) (ls : Bool) (tr mo : Int) (k : Int) (pf : Bool) (w : World) (hB_l : RB w h 3 ls tr mo) (h1 : ¬ k < 1) (h10 : ¬ 10 < k) (h2 : ¬ k = 2) (h3 : ¬ k = 3) (h4 : ¬ k = 1) (h5 : ¬ k = 4) :
    Calls Try.prog 27 #[.pointer (some ⟨h, 0, none⟩), .int .u8 k, .bool pf, .bool false] w (Ret (actV 0 false false 0 0) fun w' => RB w' h 3 ls tr mo ∧ w.grownBy w' (some h)) := bundleb_1.2.2.2.2.2.2.2.2.1 h ls tr mo k pf w hB_l h1 h10 h2 h3 h4 h5
theorem rhear_reso_4 (h : Nat) (ls : Bool) (tr mo : Int) (k : Int) (pf : Bool) (w : World) (hB_l : RB w h 4 ls tr mo) (h1 : ¬ k < 1) (h10 : ¬ 10 < k) (h2 : ¬ k = 2) (h3 : ¬ k = 3) (h4 : ¬ k = 1) (h5 : ¬ k = 4) :
    Calls Try.prog 27 #[.pointer (some ⟨h, 0, none⟩), .int .u8 k, .bool pf, .bool false] w (Ret (actV 0 false false 0 0) fun w' => RB w' h 4 ls tr mo ∧ w.grownBy w' (some h)) := bundleb_1.2.2.2.2.2.2.2.2.2.1 h ls tr mo k pf w hB_l h1 h10 h2 h3 h4 h5
theorem rhear_reso_5 (h : Nat) (ls : Bool) (tr mo : Int) (k : Int) (pf : Bool) (w : World) (hB_l : RB w h 5 ls tr mo) (h1 : ¬ k < 1) (h10 : ¬ 10 < k) (h2 : ¬ k = 2) (h3 : ¬ k = 3) (h4 : ¬ k = 1) (h5 : ¬ k = 4) :
    Calls Try.prog 27 #[.pointer (some ⟨h, 0, none⟩), .int .u8 k, .bool pf, .bool false] w (Ret (actV 0 false false 0 0) fun w' => RB w' h 5 ls tr mo ∧ w.grownBy w' (some h)) := bundleb_1.2.2.2.2.2.2.2.2.2.2.1 h ls tr mo k pf w hB_l h1 h10 h2 h3 h4 h5
theorem rhear_1_2p (h : Nat) (ls : Bool) (tr mo : Int) (w : World) (hB_l : RB w h 1 ls tr mo) :
    Calls Try.prog 27 #[.pointer (some ⟨h, 0, none⟩), .int .u8 2, .bool true, .bool false] w (Ret (actV 0 false false 0 0) fun w' => RB w' h 1 ls tr mo ∧ w.grownBy w' (some h)) := bundleb_1.2.2.2.2.2.2.2.2.2.2.2.1 h ls tr mo w hB_l
theorem rhear_1_2n (h : Nat) (ls : Bool) (tr mo : Int) (w : World) (hB_l : RB w h 1 ls tr mo) :
    Calls Try.prog 27 #[.pointer (some ⟨h, 0, none⟩), .int .u8 2, .bool false, .bool false] w (Ret (actV 0 false false 0 0) fun w' => RB w' h 1 ls tr mo ∧ w.grownBy w' (some h)) := bundleb_1.2.2.2.2.2.2.2.2.2.2.2.2.1 h ls tr mo w hB_l
theorem rhear_1_3p (h : Nat) (ls : Bool) (tr mo : Int) (w : World) (hB_l : RB w h 1 ls tr mo) :
    Calls Try.prog 27 #[.pointer (some ⟨h, 0, none⟩), .int .u8 3, .bool true, .bool false] w (Ret (actV 0 false false 0 0) fun w' => RB w' h 1 ls tr mo ∧ w.grownBy w' (some h)) := bundleb_1.2.2.2.2.2.2.2.2.2.2.2.2.2.1 h ls tr mo w hB_l
theorem rhear_1_3n (h : Nat) (ls : Bool) (tr mo : Int) (w : World) (hB_l : RB w h 1 ls tr mo) :
    Calls Try.prog 27 #[.pointer (some ⟨h, 0, none⟩), .int .u8 3, .bool false, .bool false] w (Ret (actV 0 false false 0 0) fun w' => RB w' h 1 ls tr mo ∧ w.grownBy w' (some h)) := bundleb_1.2.2.2.2.2.2.2.2.2.2.2.2.2.2.1 h ls tr mo w hB_l
theorem rhear_2_2n (h : Nat) (ls : Bool) (tr mo : Int) (w : World) (hB_l : RB w h 2 ls tr mo) :
    Calls Try.prog 27 #[.pointer (some ⟨h, 0, none⟩), .int .u8 2, .bool false, .bool false] w (Ret (actV 0 false false 0 0) fun w' => RB w' h 2 ls tr mo ∧ w.grownBy w' (some h)) := bundleb_1.2.2.2.2.2.2.2.2.2.2.2.2.2.2.2.1 h ls tr mo w hB_l
theorem rhear_2_3n (h : Nat) (ls : Bool) (tr mo : Int) (w : World) (hB_l : RB w h 2 ls tr mo) :
    Calls Try.prog 27 #[.pointer (some ⟨h, 0, none⟩), .int .u8 3, .bool false, .bool false] w (Ret (actV 0 false false 0 0) fun w' => RB w' h 2 ls tr mo ∧ w.grownBy w' (some h)) := bundleb_1.2.2.2.2.2.2.2.2.2.2.2.2.2.2.2.2.1 h ls tr mo w hB_l
theorem rhear_3_2p (h : Nat) (ls : Bool) (tr mo : Int) (w : World) (hB_l : RB w h 3 ls tr mo) :
    Calls Try.prog 27 #[.pointer (some ⟨h, 0, none⟩), .int .u8 2, .bool true, .bool false] w (Ret (actV 0 false false 0 0) fun w' => RB w' h 3 ls tr mo ∧ w.grownBy w' (some h)) := bundleb_1.2.2.2.2.2.2.2.2.2.2.2.2.2.2.2.2.2.1 h ls tr mo w hB_l
theorem rhear_3_2n (h : Nat) (ls : Bool) (tr mo : Int) (w : World) (hB_l : RB w h 3 ls tr mo) :
    Calls Try.prog 27 #[.pointer (some ⟨h, 0, none⟩), .int .u8 2, .bool false, .bool false] w (Ret (actV 0 false false 0 0) fun w' => RB w' h 3 ls tr mo ∧ w.grownBy w' (some h)) := bundleb_1.2.2.2.2.2.2.2.2.2.2.2.2.2.2.2.2.2.2.1 h ls tr mo w hB_l
theorem rhear_4_2n (h : Nat) (ls : Bool) (tr mo : Int) (w : World) (hB_l : RB w h 4 ls tr mo) :
    Calls Try.prog 27 #[.pointer (some ⟨h, 0, none⟩), .int .u8 2, .bool false, .bool false] w (Ret (actV 0 false false 0 0) fun w' => RB w' h 4 ls tr mo ∧ w.grownBy w' (some h)) := bundleb_1.2.2.2.2.2.2.2.2.2.2.2.2.2.2.2.2.2.2.2.1 h ls tr mo w hB_l
theorem rhear_4_3n (h : Nat) (ls : Bool) (tr mo : Int) (w : World) (hB_l : RB w h 4 ls tr mo) :
    Calls Try.prog 27 #[.pointer (some ⟨h, 0, none⟩), .int .u8 3, .bool false, .bool false] w (Ret (actV 0 false false 0 0) fun w' => RB w' h 4 ls tr mo ∧ w.grownBy w' (some h)) := bundleb_1.2.2.2.2.2.2.2.2.2.2.2.2.2.2.2.2.2.2.2.2.1 h ls tr mo w hB_l
theorem rhear_5_2p (h : Nat) (ls : Bool) (tr mo : Int) (w : World) (hB_l : RB w h 5 ls tr mo) :
    Calls Try.prog 27 #[.pointer (some ⟨h, 0, none⟩), .int .u8 2, .bool true, .bool false] w (Ret (actV 0 false false 0 0) fun w' => RB w' h 5 ls tr mo ∧ w.grownBy w' (some h)) := bundleb_1.2.2.2.2.2.2.2.2.2.2.2.2.2.2.2.2.2.2.2.2.2.1 h ls tr mo w hB_l
theorem rhear_5_2n (h : Nat) (ls : Bool) (tr mo : Int) (w : World) (hB_l : RB w h 5 ls tr mo) :
    Calls Try.prog 27 #[.pointer (some ⟨h, 0, none⟩), .int .u8 2, .bool false, .bool false] w (Ret (actV 0 false false 0 0) fun w' => RB w' h 5 ls tr mo ∧ w.grownBy w' (some h)) := bundleb_1.2.2.2.2.2.2.2.2.2.2.2.2.2.2.2.2.2.2.2.2.2.2.1 h ls tr mo w hB_l
theorem rhear_5_3p (h : Nat) (ls : Bool) (tr mo : Int) (w : World) (hB_l : RB w h 5 ls tr mo) :
    Calls Try.prog 27 #[.pointer (some ⟨h, 0, none⟩), .int .u8 3, .bool true, .bool false] w (Ret (actV 0 false false 0 0) fun w' => RB w' h 5 ls tr mo ∧ w.grownBy w' (some h)) := bundleb_1.2.2.2.2.2.2.2.2.2.2.2.2.2.2.2.2.2.2.2.2.2.2.2.1 h ls tr mo w hB_l
theorem rhear_5_3n (h : Nat) (ls : Bool) (tr mo : Int) (w : World) (hB_l : RB w h 5 ls tr mo) :
    Calls Try.prog 27 #[.pointer (some ⟨h, 0, none⟩), .int .u8 3, .bool false, .bool false] w (Ret (actV 0 false false 0 0) fun w' => RB w' h 5 ls tr mo ∧ w.grownBy w' (some h)) := bundleb_1.2.2.2.2.2.2.2.2.2.2.2.2.2.2.2.2.2.2.2.2.2.2.2.2 h ls tr mo w hB_l
set_option maxHeartbeats 2000000 in
theorem rhear_cmd (h : Nat) (s : Int) (ls : Bool) (tr mo : Int) (k : Int) (pf : Bool) {s2 tr2 mo2 k1 t1 f1 : Int} {c1 p1 ls2 : Bool} (w : World) (hB_l : RB w h s ls tr mo) (h1 : ¬ k < 1) (h10 : ¬ 10 < k) (h2 : ¬ k = 2) (h3 : ¬ k = 3)
    (hF : ∀ w, RB w h s ls tr mo → Calls Try.prog 33 #[.pointer (some ⟨h, 0, none⟩), .int .u8 k, .bool pf] w (Ret (actV k1 c1 p1 t1 f1) fun w' => RB w' h s2 ls2 tr2 mo2 ∧ w.grownBy w' (some h))) :
    Calls Try.prog 27 #[.pointer (some ⟨h, 0, none⟩), .int .u8 k, .bool pf, .bool true] w (Ret (actV k1 c1 p1 t1 f1) fun w' => RB w' h s2 ls2 tr2 mo2 ∧ w.grownBy w' (some h)) := by
  have m2 : (k == 2) = false := by simpa using h2
  have m3 : (k == 3) = false := by simpa using h3
  unfold RB at *
  go_enter Try.func27, Try.ntmps27
  have F0 : Turn (fun i => i = h ∨ w.heap.size ≤ i) w w := Turn.refl _
  have hc_l := hB_l.cell
  repeat (first|(with_reducible apply Xa)|((with_reducible apply region_k);intro KK kk)|(with_reducible apply Xc)|((with_reducible apply seq_k);intro KK kk)|((with_reducible apply Xk);(focus first|exact wanted_none rfl|exact wanted_yes rfl rfl rfl);(focus (simp [go_sem,effAt,↓IntWalk.iteOmega, *];(try go_ints);with_reducible first|exact Xm|exact Xn));focus (first|(apply put_some rfl;focus (conv=>lhs;dsimp only [Xr,Xs])<;>rfl)|exact put_none rfl))|((with_reducible apply Xl);(focus first|exact wanted_no rfl rfl rfl|exact wanted_undef rfl rfl rfl);focus (first|(apply put_some rfl;focus (conv=>lhs;dsimp only [Xr,Xs])<;>rfl)|exact put_none rfl))|(with_reducible first|apply Xe|apply Xf|apply Xg|apply Xh)|((with_reducible apply Xi);focus first|rfl|(simp [go_sem, *];done))|((with_reducible apply Xj);focus first|rfl|(simp [go_sem, *];done))|(simp only [Exit.then,Exit.inBlock,↓reduceIte,Nat.reduceEqDiff])|((with_reducible apply kf_out);focus assumption))
  have lt_l_r := hB_l.lt
  have le_r := F0.size
  ((with_reducible apply Xu); (focus rfl); (focus (simp [go_sem, effAt]; exact ⟨rfl, rfl⟩)); (focus ((first|(apply put_some rfl;focus (conv=>lhs;dsimp only [Xr,Xs])<;>rfl)|exact put_none rfl))))
  intro w1 hB_r hs
  have Fw1 := F0.trans (Turn.of_below hs)
  replace hB_l := hB_l.below hs hB_l.lt
  clear hs F0
  clear hc_l; have hc_l := hB_l.cell
  have hc_r := hB_r.cell
  repeat (first|(with_reducible apply Xa)|((with_reducible apply region_k);intro KK kk)|(with_reducible apply Xc)|((with_reducible apply seq_k);intro KK kk)|((with_reducible apply Xk);(focus first|exact wanted_none rfl|exact wanted_yes rfl rfl rfl);(focus (simp [go_sem,effAt,↓IntWalk.iteOmega, *];(try go_ints);with_reducible first|exact Xm|exact Xn));focus (first|(apply put_some rfl;focus (conv=>lhs;dsimp only [Xr,Xs])<;>rfl)|exact put_none rfl))|((with_reducible apply Xl);(focus first|exact wanted_no rfl rfl rfl|exact wanted_undef rfl rfl rfl);focus (first|(apply put_some rfl;focus (conv=>lhs;dsimp only [Xr,Xs])<;>rfl)|exact put_none rfl))|(with_reducible first|apply Xe|apply Xf|apply Xg|apply Xh)|((with_reducible apply Xi);focus first|rfl|(simp [go_sem, *];done))|((with_reducible apply Xj);focus first|rfl|(simp [go_sem, *];done))|(simp only [Exit.then,Exit.inBlock,↓reduceIte,Nat.reduceEqDiff])|((with_reducible apply kf_out);focus assumption))
  ((with_reducible apply Xt (fun w' => Blk w' _ _ _ ∧ w1.grownBy w' (some _))); (focus rfl); (focus (simp only [effAt]; simp [go_sem]; (with_reducible exact effUpon_enter (hF _ hB_l)))); (focus ((first|(apply put_some rfl;focus (conv=>lhs;dsimp only [Xr,Xs])<;>rfl)|exact put_none rfl))))
  clear hc_l hB_l
  intro w2 hs
  obtain ⟨hB_l, hs⟩ := hs
  have Fw2 := Fw1.trans (Turn.of_grown hs (by first | exact .inl rfl | exact .inr (by omega)))
  replace hB_r := hB_r.grown hs (by intro hk; injection hk with hk; have := hB_r.lt; have := hB_l.lt; omega)
  clear hs Fw1
  clear hc_r; have hc_r := hB_r.cell
  have hc_l := hB_l.cell
  repeat (first|(with_reducible apply Xa)|((with_reducible apply region_k);intro KK kk)|(with_reducible apply Xc)|((with_reducible apply seq_k);intro KK kk)|((with_reducible apply Xk);(focus first|exact wanted_none rfl|exact wanted_yes rfl rfl rfl);(focus (simp [go_sem,effAt,↓IntWalk.iteOmega, *];(try go_ints);with_reducible first|exact Xm|exact Xn));focus (first|(apply put_some rfl;focus (conv=>lhs;dsimp only [Xr,Xs])<;>rfl)|exact put_none rfl))|((with_reducible apply Xl);(focus first|exact wanted_no rfl rfl rfl|exact wanted_undef rfl rfl rfl);focus (first|(apply put_some rfl;focus (conv=>lhs;dsimp only [Xr,Xs])<;>rfl)|exact put_none rfl))|(with_reducible first|apply Xe|apply Xf|apply Xg|apply Xh)|((with_reducible apply Xi);focus first|rfl|(simp [go_sem, *];done))|((with_reducible apply Xj);focus first|rfl|(simp [go_sem, *];done))|(simp only [Exit.then,Exit.inBlock,↓reduceIte,Nat.reduceEqDiff])|((with_reducible apply kf_out);focus assumption))
  have hf_r := hB_r.frozen
  ((with_reducible apply Xt (fun w' => Blk w' _ _ _ ∧ w2.grownBy w' (some _))); (focus rfl); (focus (simp [go_sem, effAt, *]; exact ⟨rfl, (((((hB_r.set_ 0 _).set_ 1 _).set_ 2 _).set_ 3 _).set_ 4 _), (grown_set (grown_set (grown_set (grown_set (grown_set (World.grownBy.refl _ _))))))⟩)); (focus ((first|(apply put_some rfl;focus (conv=>lhs;dsimp only [Xr,Xs])<;>rfl)|exact put_none rfl))))
  clear hf_r hc_r hB_r
  intro w3 hs
  obtain ⟨hB_r, hs⟩ := hs
  simp only [Xq,Xr,Xs] at hB_r
  have Fw3 := Fw2.trans (Turn.of_grown hs (by first | exact .inl rfl | exact .inr (by omega)))
  replace hB_l := hB_l.grown hs (by intro hk; injection hk with hk; have := hB_l.lt; have := hB_r.lt; omega)
  clear hs Fw2
  clear hc_l; have hc_l := hB_l.cell
  have hc_r := hB_r.cell
  repeat (first|(with_reducible apply Xa)|((with_reducible apply region_k);intro KK kk)|(with_reducible apply Xc)|((with_reducible apply seq_k);intro KK kk)|((with_reducible apply Xk);(focus first|exact wanted_none rfl|exact wanted_yes rfl rfl rfl);(focus (simp [go_sem,effAt,↓IntWalk.iteOmega, *];(try go_ints);with_reducible first|exact Xm|exact Xn));focus (first|(apply put_some rfl;focus (conv=>lhs;dsimp only [Xr,Xs])<;>rfl)|exact put_none rfl))|((with_reducible apply Xl);(focus first|exact wanted_no rfl rfl rfl|exact wanted_undef rfl rfl rfl);focus (first|(apply put_some rfl;focus (conv=>lhs;dsimp only [Xr,Xs])<;>rfl)|exact put_none rfl))|(with_reducible first|apply Xe|apply Xf|apply Xg|apply Xh)|((with_reducible apply Xi);focus first|rfl|(simp [go_sem, *];done))|((with_reducible apply Xj);focus first|rfl|(simp [go_sem, *];done))|(simp only [Exit.then,Exit.inBlock,↓reduceIte,Nat.reduceEqDiff])|((with_reducible apply kf_out);focus assumption))
  refine bodyPost_ret (v := actV k1 c1 p1 t1 f1) (by simp [results, Try.results27, go_sem, *]) rfl ⟨rfl, hB_l, Turn.to_grown (by assumption)⟩
set_option maxHeartbeats 12000000 in
theorem bundleb_2 :
    (∀ (h : Nat) (ls : Bool) (tr mo : Int) (w : World) (hB_l : RB w h 2 ls tr mo), Calls Try.prog 27 #[.pointer (some ⟨h, 0, none⟩), .int .u8 2, .bool true, .bool false] w (Ret (actV 0 false false 2 1) fun w' => RB w' h 3 ls tr mo ∧ w.grownBy w' (some h))) ∧
    (∀ (h : Nat) (ls : Bool) (tr mo : Int) (w : World) (hB_l : RB w h 2 ls tr mo), Calls Try.prog 27 #[.pointer (some ⟨h, 0, none⟩), .int .u8 3, .bool true, .bool false] w (Ret (actV 0 false false 2 4) fun w' => RB w' h 1 ls tr mo ∧ w.grownBy w' (some h))) ∧
    (∀ (h : Nat) (ls : Bool) (tr mo : Int) (w : World) (hB_l : RB w h 3 ls tr mo), Calls Try.prog 27 #[.pointer (some ⟨h, 0, none⟩), .int .u8 3, .bool true, .bool false] w (Ret (actV 0 false false 0 5) fun w' => RB w' h 1 ls tr mo ∧ w.grownBy w' (some h))) ∧
    (∀ (h : Nat) (ls : Bool) (tr mo : Int) (w : World) (hB_l : RB w h 3 ls tr mo), Calls Try.prog 27 #[.pointer (some ⟨h, 0, none⟩), .int .u8 3, .bool false, .bool false] w (Ret (actV 0 false false 0 5) fun w' => RB w' h 1 ls tr mo ∧ w.grownBy w' (some h))) ∧
    (∀ (h : Nat) (ls : Bool) (tr mo : Int) (w : World) (hB_l : RB w h 4 ls tr mo), Calls Try.prog 27 #[.pointer (some ⟨h, 0, none⟩), .int .u8 2, .bool true, .bool false] w (Ret (actV 0 false false 2 5) fun w' => RB w' h 1 ls tr mo ∧ w.grownBy w' (some h))) ∧
    (∀ (h : Nat) (ls : Bool) (tr mo : Int) (w : World) (hB_l : RB w h 4 ls tr mo), Calls Try.prog 27 #[.pointer (some ⟨h, 0, none⟩), .int .u8 3, .bool true, .bool false] w (Ret (actV 0 false false 2 5) fun w' => RB w' h 1 ls tr mo ∧ w.grownBy w' (some h))) := by
  refine ⟨?a0, ?a1, ?a2, ?a3, ?a4, ?a5⟩
  case' a0 =>
    intro h ls tr mo w hB_l
    have hT := fun w h' => rto_any h 2 ls tr mo 3 0 false false 2 1 w h'
    unfold RB at *
  case' a1 =>
    intro h ls tr mo w hB_l
    have hT := fun w h' => rto_any h 2 ls tr mo 1 0 false false 2 4 w h'
    unfold RB at *
  case' a2 =>
    intro h ls tr mo w hB_l
    have hT := fun w h' => rto_any h 3 ls tr mo 1 0 false false 0 5 w h'
    unfold RB at *
  case' a3 =>
    intro h ls tr mo w hB_l
    have hT := fun w h' => rto_any h 3 ls tr mo 1 0 false false 0 5 w h'
    unfold RB at *
  case' a4 =>
    intro h ls tr mo w hB_l
    have hT := fun w h' => rto_any h 4 ls tr mo 1 0 false false 2 5 w h'
    unfold RB at *
  case' a5 =>
    intro h ls tr mo w hB_l
    have hT := fun w h' => rto_any h 4 ls tr mo 1 0 false false 2 5 w h'
    unfold RB at *
  all_goals
    go_enter Try.func27, Try.ntmps27
    have F0 : Turn (fun i => i = h ∨ w.heap.size ≤ i) w w := Turn.refl _
    have hc_l := hB_l.cell
    repeat (first|(with_reducible apply Xa)|((with_reducible apply region_k);intro KK kk)|(with_reducible apply Xc)|((with_reducible apply seq_k);intro KK kk)|((with_reducible apply Xk);(focus first|exact wanted_none rfl|exact wanted_yes rfl rfl rfl);(focus (simp [go_sem,effAt,↓IntWalk.iteOmega, *];(try go_ints);with_reducible first|exact Xm|exact Xn));focus (first|(apply put_some rfl;focus (conv=>lhs;dsimp only [Xr,Xs])<;>rfl)|exact put_none rfl))|((with_reducible apply Xl);(focus first|exact wanted_no rfl rfl rfl|exact wanted_undef rfl rfl rfl);focus (first|(apply put_some rfl;focus (conv=>lhs;dsimp only [Xr,Xs])<;>rfl)|exact put_none rfl))|(with_reducible first|apply Xe|apply Xf|apply Xg|apply Xh)|((with_reducible apply Xi);focus first|rfl|(simp [go_sem, *];done))|((with_reducible apply Xj);focus first|rfl|(simp [go_sem, *];done))|(simp only [Exit.then,Exit.inBlock,↓reduceIte,Nat.reduceEqDiff])|((with_reducible apply kf_out);focus assumption))
    have lt_l_r := hB_l.lt
    have le_r := F0.size
    ((with_reducible apply Xu); (focus rfl); (focus (simp [go_sem, effAt]; exact ⟨rfl, rfl⟩)); (focus ((first|(apply put_some rfl;focus (conv=>lhs;dsimp only [Xr,Xs])<;>rfl)|exact put_none rfl))))
    intro w1 hB_r hs
    have Fw1 := F0.trans (Turn.of_below hs)
    replace hB_l := hB_l.below hs hB_l.lt
    clear hs F0
    clear hc_l; have hc_l := hB_l.cell
    have hc_r := hB_r.cell
    repeat (first|(with_reducible apply Xa)|((with_reducible apply region_k);intro KK kk)|(with_reducible apply Xc)|((with_reducible apply seq_k);intro KK kk)|((with_reducible apply Xk);(focus first|exact wanted_none rfl|exact wanted_yes rfl rfl rfl);(focus (simp [go_sem,effAt,↓IntWalk.iteOmega, *];(try go_ints);with_reducible first|exact Xm|exact Xn));focus (first|(apply put_some rfl;focus (conv=>lhs;dsimp only [Xr,Xs])<;>rfl)|exact put_none rfl))|((with_reducible apply Xl);(focus first|exact wanted_no rfl rfl rfl|exact wanted_undef rfl rfl rfl);focus (first|(apply put_some rfl;focus (conv=>lhs;dsimp only [Xr,Xs])<;>rfl)|exact put_none rfl))|(with_reducible first|apply Xe|apply Xf|apply Xg|apply Xh)|((with_reducible apply Xi);focus first|rfl|(simp [go_sem, *];done))|((with_reducible apply Xj);focus first|rfl|(simp [go_sem, *];done))|(simp only [Exit.then,Exit.inBlock,↓reduceIte,Nat.reduceEqDiff])|((with_reducible apply kf_out);focus assumption))
    ((with_reducible apply Xt (fun w' => Blk w' _ _ _ ∧ w1.grownBy w' (some _))); (focus rfl); (focus (simp only [effAt]; simp [go_sem]; (with_reducible exact effUpon_enter (hT _ hB_l)))); (focus ((first|(apply put_some rfl;focus (conv=>lhs;dsimp only [Xr,Xs])<;>rfl)|exact put_none rfl))))
    clear hc_l hB_l
    intro w2 hs
    obtain ⟨hB_l, hs⟩ := hs
    have Fw2 := Fw1.trans (Turn.of_grown hs (by first | exact .inl rfl | exact .inr (by omega)))
    replace hB_r := hB_r.grown hs (by intro hk; injection hk with hk; have := hB_r.lt; have := hB_l.lt; omega)
    clear hs Fw1
    clear hc_r; have hc_r := hB_r.cell
    have hc_l := hB_l.cell
    repeat (first|(with_reducible apply Xa)|((with_reducible apply region_k);intro KK kk)|(with_reducible apply Xc)|((with_reducible apply seq_k);intro KK kk)|((with_reducible apply Xk);(focus first|exact wanted_none rfl|exact wanted_yes rfl rfl rfl);(focus (simp [go_sem,effAt,↓IntWalk.iteOmega, *];(try go_ints);with_reducible first|exact Xm|exact Xn));focus (first|(apply put_some rfl;focus (conv=>lhs;dsimp only [Xr,Xs])<;>rfl)|exact put_none rfl))|((with_reducible apply Xl);(focus first|exact wanted_no rfl rfl rfl|exact wanted_undef rfl rfl rfl);focus (first|(apply put_some rfl;focus (conv=>lhs;dsimp only [Xr,Xs])<;>rfl)|exact put_none rfl))|(with_reducible first|apply Xe|apply Xf|apply Xg|apply Xh)|((with_reducible apply Xi);focus first|rfl|(simp [go_sem, *];done))|((with_reducible apply Xj);focus first|rfl|(simp [go_sem, *];done))|(simp only [Exit.then,Exit.inBlock,↓reduceIte,Nat.reduceEqDiff])|((with_reducible apply kf_out);focus assumption))
    have hf_r := hB_r.frozen
    ((with_reducible apply Xt (fun w' => Blk w' _ _ _ ∧ w2.grownBy w' (some _))); (focus rfl); (focus (simp [go_sem, effAt, *]; exact ⟨rfl, (((((hB_r.set_ 0 _).set_ 1 _).set_ 2 _).set_ 3 _).set_ 4 _), (grown_set (grown_set (grown_set (grown_set (grown_set (World.grownBy.refl _ _))))))⟩)); (focus ((first|(apply put_some rfl;focus (conv=>lhs;dsimp only [Xr,Xs])<;>rfl)|exact put_none rfl))))
    clear hf_r hc_r hB_r
    intro w3 hs
    obtain ⟨hB_r, hs⟩ := hs
    simp only [Xq,Xr,Xs] at hB_r
    have Fw3 := Fw2.trans (Turn.of_grown hs (by first | exact .inl rfl | exact .inr (by omega)))
    replace hB_l := hB_l.grown hs (by intro hk; injection hk with hk; have := hB_l.lt; have := hB_r.lt; omega)
    clear hs Fw2
    clear hc_l; have hc_l := hB_l.cell
    have hc_r := hB_r.cell
    repeat (first|(with_reducible apply Xa)|((with_reducible apply region_k);intro KK kk)|(with_reducible apply Xc)|((with_reducible apply seq_k);intro KK kk)|((with_reducible apply Xk);(focus first|exact wanted_none rfl|exact wanted_yes rfl rfl rfl);(focus (simp [go_sem,effAt,↓IntWalk.iteOmega, *];(try go_ints);with_reducible first|exact Xm|exact Xn));focus (first|(apply put_some rfl;focus (conv=>lhs;dsimp only [Xr,Xs])<;>rfl)|exact put_none rfl))|((with_reducible apply Xl);(focus first|exact wanted_no rfl rfl rfl|exact wanted_undef rfl rfl rfl);focus (first|(apply put_some rfl;focus (conv=>lhs;dsimp only [Xr,Xs])<;>rfl)|exact put_none rfl))|(with_reducible first|apply Xe|apply Xf|apply Xg|apply Xh)|((with_reducible apply Xi);focus first|rfl|(simp [go_sem, *];done))|((with_reducible apply Xj);focus first|rfl|(simp [go_sem, *];done))|(simp only [Exit.then,Exit.inBlock,↓reduceIte,Nat.reduceEqDiff])|((with_reducible apply kf_out);focus assumption))
    refine bodyPost_ret (v := _) (by simp [results, Try.results27, go_sem, *]) rfl ⟨rfl, hB_l, Turn.to_grown (by assumption)⟩
theorem rhear_2_2p (h : Nat) (ls : Bool) (tr mo : Int) (w : World) (hB_l : RB w h 2 ls tr mo) :
    Calls Try.prog 27 #[.pointer (some ⟨h, 0, none⟩), .int .u8 2, .bool true, .bool false] w (Ret (actV 0 false false 2 1) fun w' => RB w' h 3 ls tr mo ∧ w.grownBy w' (some h)) := bundleb_2.1 h ls tr mo w hB_l
theorem rhear_2_3p (h : Nat) (ls : Bool) (tr mo : Int) (w : World) (hB_l : RB w h 2 ls tr mo) :
    Calls Try.prog 27 #[.pointer (some ⟨h, 0, none⟩), .int .u8 3, .bool true, .bool false] w (Ret (actV 0 false false 2 4) fun w' => RB w' h 1 ls tr mo ∧ w.grownBy w' (some h)) := bundleb_2.2.1 h ls tr mo w hB_l
theorem rhear_3_3p (h : Nat) (ls : Bool) (tr mo : Int) (w : World) (hB_l : RB w h 3 ls tr mo) :
    Calls Try.prog 27 #[.pointer (some ⟨h, 0, none⟩), .int .u8 3, .bool true, .bool false] w (Ret (actV 0 false false 0 5) fun w' => RB w' h 1 ls tr mo ∧ w.grownBy w' (some h)) := bundleb_2.2.2.1 h ls tr mo w hB_l
theorem rhear_3_3n (h : Nat) (ls : Bool) (tr mo : Int) (w : World) (hB_l : RB w h 3 ls tr mo) :
    Calls Try.prog 27 #[.pointer (some ⟨h, 0, none⟩), .int .u8 3, .bool false, .bool false] w (Ret (actV 0 false false 0 5) fun w' => RB w' h 1 ls tr mo ∧ w.grownBy w' (some h)) := bundleb_2.2.2.2.1 h ls tr mo w hB_l
theorem rhear_4_2p (h : Nat) (ls : Bool) (tr mo : Int) (w : World) (hB_l : RB w h 4 ls tr mo) :
    Calls Try.prog 27 #[.pointer (some ⟨h, 0, none⟩), .int .u8 2, .bool true, .bool false] w (Ret (actV 0 false false 2 5) fun w' => RB w' h 1 ls tr mo ∧ w.grownBy w' (some h)) := bundleb_2.2.2.2.2.1 h ls tr mo w hB_l
theorem rhear_4_3p (h : Nat) (ls : Bool) (tr mo : Int) (w : World) (hB_l : RB w h 4 ls tr mo) :
    Calls Try.prog 27 #[.pointer (some ⟨h, 0, none⟩), .int .u8 3, .bool true, .bool false] w (Ret (actV 0 false false 2 5) fun w' => RB w' h 1 ls tr mo ∧ w.grownBy w' (some h)) := bundleb_2.2.2.2.2.2 h ls tr mo w hB_l
set_option maxHeartbeats 10000000 in
theorem bundleb_3 :
    (∀ (h : Nat) (s : Int) (ls : Bool) (tr mo : Int) (kd fr : Int) (pf cmd : Bool) (s2 tr2 mo2 k1 t1 f1 : Int) (c1 p1 ls2 : Bool) (w : World) (hB_l : RB w h s ls tr mo) (hk : Fit kd) (hm : kd % 6 = 0) (hF : ∀ w, RB w h s ls tr mo → Calls Try.prog 24 #[.pointer (some ⟨h, 0, none⟩)] w (Ret (actV k1 c1 p1 t1 f1) fun w' => RB w' h s2 ls2 tr2 mo2 ∧ w.grownBy w' (some h))), Calls Try.prog 14 #[.pointer (some ⟨h, 0, none⟩), .agg #[.int .i64 kd, .int .u8 fr, .bool pf, .bool cmd]] w (Ret (actV k1 c1 p1 t1 f1) fun w' => RB w' h s2 ls2 tr2 mo2 ∧ w.grownBy w' (some h))) ∧
    (∀ (h : Nat) (s : Int) (ls : Bool) (tr mo : Int) (kd fr : Int) (pf cmd : Bool) (s2 tr2 mo2 k1 t1 f1 : Int) (c1 p1 ls2 : Bool) (w : World) (hB_l : RB w h s ls tr mo) (hk : Fit kd) (hm : kd % 6 = 1) (hF : ∀ w, RB w h s ls tr mo → Calls Try.prog 25 #[.pointer (some ⟨h, 0, none⟩)] w (Ret (actV k1 c1 p1 t1 f1) fun w' => RB w' h s2 ls2 tr2 mo2 ∧ w.grownBy w' (some h))), Calls Try.prog 14 #[.pointer (some ⟨h, 0, none⟩), .agg #[.int .i64 kd, .int .u8 fr, .bool pf, .bool cmd]] w (Ret (actV k1 c1 p1 t1 f1) fun w' => RB w' h s2 ls2 tr2 mo2 ∧ w.grownBy w' (some h))) ∧
    (∀ (h : Nat) (s : Int) (ls : Bool) (tr mo : Int) (kd fr : Int) (pf cmd : Bool) (s2 tr2 mo2 k1 t1 f1 : Int) (c1 p1 ls2 : Bool) (w : World) (hB_l : RB w h s ls tr mo) (hk : Fit kd) (hm : kd % 6 = 2) (hF : ∀ w, RB w h s ls tr mo → Calls Try.prog 26 #[.pointer (some ⟨h, 0, none⟩)] w (Ret (actV k1 c1 p1 t1 f1) fun w' => RB w' h s2 ls2 tr2 mo2 ∧ w.grownBy w' (some h))), Calls Try.prog 14 #[.pointer (some ⟨h, 0, none⟩), .agg #[.int .i64 kd, .int .u8 fr, .bool pf, .bool cmd]] w (Ret (actV k1 c1 p1 t1 f1) fun w' => RB w' h s2 ls2 tr2 mo2 ∧ w.grownBy w' (some h))) ∧
    (∀ (h : Nat) (s : Int) (ls : Bool) (tr mo : Int) (kd fr : Int) (pf cmd : Bool) (s2 tr2 mo2 k1 t1 f1 : Int) (c1 p1 ls2 : Bool) (w : World) (hB_l : RB w h s ls tr mo) (hk : Fit kd) (hm : kd % 6 = 4) (hF : ∀ w, RB w h s ls tr mo → Calls Try.prog 27 #[.pointer (some ⟨h, 0, none⟩), .int .u8 fr, .bool pf, .bool cmd] w (Ret (actV k1 c1 p1 t1 f1) fun w' => RB w' h s2 ls2 tr2 mo2 ∧ w.grownBy w' (some h))), Calls Try.prog 14 #[.pointer (some ⟨h, 0, none⟩), .agg #[.int .i64 kd, .int .u8 fr, .bool pf, .bool cmd]] w (Ret (actV k1 c1 p1 t1 f1) fun w' => RB w' h s2 ls2 tr2 mo2 ∧ w.grownBy w' (some h))) ∧
    (∀ (h : Nat) (s : Int) (ls : Bool) (tr mo : Int) (kd fr : Int) (pf cmd : Bool) (s2 tr2 mo2 k1 t1 f1 : Int) (c1 p1 ls2 : Bool) (w : World) (hB_l : RB w h s ls tr mo) (hk : Fit kd) (hm : kd % 6 = 5) (hF : ∀ w, RB w h s ls tr mo → Calls Try.prog 27 #[.pointer (some ⟨h, 0, none⟩), .int .u8 fr, .bool pf, .bool cmd] w (Ret (actV k1 c1 p1 t1 f1) fun w' => RB w' h s2 ls2 tr2 mo2 ∧ w.grownBy w' (some h))), Calls Try.prog 14 #[.pointer (some ⟨h, 0, none⟩), .agg #[.int .i64 kd, .int .u8 fr, .bool pf, .bool cmd]] w (Ret (actV k1 c1 p1 t1 f1) fun w' => RB w' h s2 ls2 tr2 mo2 ∧ w.grownBy w' (some h))) := by
  refine ⟨?a0, ?a1, ?a2, ?a3, ?a4⟩
  case' a0 =>
    intro h s ls tr mo kd fr pf cmd s2 tr2 mo2 k1 t1 f1 c1 p1 ls2 w hB_l hk hm hF
    have hPi := pick_any kd 6 (by omega) hk
    rw [hm] at hPi
    clear hm hk
    unfold RB at *
  case' a1 =>
    intro h s ls tr mo kd fr pf cmd s2 tr2 mo2 k1 t1 f1 c1 p1 ls2 w hB_l hk hm hF
    have hPi := pick_any kd 6 (by omega) hk
    rw [hm] at hPi
    clear hm hk
    unfold RB at *
  case' a2 =>
    intro h s ls tr mo kd fr pf cmd s2 tr2 mo2 k1 t1 f1 c1 p1 ls2 w hB_l hk hm hF
    have hPi := pick_any kd 6 (by omega) hk
    rw [hm] at hPi
    clear hm hk
    unfold RB at *
  case' a3 =>
    intro h s ls tr mo kd fr pf cmd s2 tr2 mo2 k1 t1 f1 c1 p1 ls2 w hB_l hk hm hF
    have hPi := pick_any kd 6 (by omega) hk
    rw [hm] at hPi
    clear hm hk
    unfold RB at *
  case' a4 =>
    intro h s ls tr mo kd fr pf cmd s2 tr2 mo2 k1 t1 f1 c1 p1 ls2 w hB_l hk hm hF
    have hPi := pick_any kd 6 (by omega) hk
    rw [hm] at hPi
    clear hm hk
    unfold RB at *
  all_goals
    go_enter Try.func14, Try.ntmps14
    have F0 : Turn (fun i => i = h ∨ w.heap.size ≤ i) w w := Turn.refl _
    have hc_l := hB_l.cell
    repeat (first|(with_reducible apply Xa)|((with_reducible apply region_k);intro KK kk)|(with_reducible apply Xc)|((with_reducible apply seq_k);intro KK kk)|((with_reducible apply Xk);(focus first|exact wanted_none rfl|exact wanted_yes rfl rfl rfl);(focus (simp [go_sem,effAt,↓IntWalk.iteOmega, *];(try go_ints);with_reducible first|exact Xm|exact Xn));focus (first|(apply put_some rfl;focus (conv=>lhs;dsimp only [Xr,Xs])<;>rfl)|exact put_none rfl))|((with_reducible apply Xl);(focus first|exact wanted_no rfl rfl rfl|exact wanted_undef rfl rfl rfl);focus (first|(apply put_some rfl;focus (conv=>lhs;dsimp only [Xr,Xs])<;>rfl)|exact put_none rfl))|(with_reducible first|apply Xe|apply Xf|apply Xg|apply Xh)|((with_reducible apply Xi);focus first|rfl|(simp [go_sem, *];done))|((with_reducible apply Xj);focus first|rfl|(simp [go_sem, *];done))|(simp only [Exit.then,Exit.inBlock,↓reduceIte,Nat.reduceEqDiff])|((with_reducible apply kf_out);focus assumption))
    have lt_l_e := hB_l.lt
    have le_e := F0.size
    ((with_reducible apply Xu); (focus rfl); (focus (simp [go_sem, effAt]; exact ⟨rfl, rfl⟩)); (focus ((first|(apply put_some rfl;focus (conv=>lhs;dsimp only [Xr,Xs])<;>rfl)|exact put_none rfl))))
    intro w1 hB_e hs
    have Fw1 := F0.trans (Turn.of_below hs)
    replace hB_l := hB_l.below hs hB_l.lt
    clear hs F0
    clear hc_l; have hc_l := hB_l.cell
    have hc_e := hB_e.cell
    repeat (first|(with_reducible apply Xa)|((with_reducible apply region_k);intro KK kk)|(with_reducible apply Xc)|((with_reducible apply seq_k);intro KK kk)|((with_reducible apply Xk);(focus first|exact wanted_none rfl|exact wanted_yes rfl rfl rfl);(focus (simp [go_sem,effAt,↓IntWalk.iteOmega, *];(try go_ints);with_reducible first|exact Xm|exact Xn));focus (first|(apply put_some rfl;focus (conv=>lhs;dsimp only [Xr,Xs])<;>rfl)|exact put_none rfl))|((with_reducible apply Xl);(focus first|exact wanted_no rfl rfl rfl|exact wanted_undef rfl rfl rfl);focus (first|(apply put_some rfl;focus (conv=>lhs;dsimp only [Xr,Xs])<;>rfl)|exact put_none rfl))|(with_reducible first|apply Xe|apply Xf|apply Xg|apply Xh)|((with_reducible apply Xi);focus first|rfl|(simp [go_sem, *];done))|((with_reducible apply Xj);focus first|rfl|(simp [go_sem, *];done))|(simp only [Exit.then,Exit.inBlock,↓reduceIte,Nat.reduceEqDiff])|((with_reducible apply kf_out);focus assumption))
    have lt_l_r := hB_l.lt
    have lt_e_r := hB_e.lt
    have le_r := Fw1.size
    ((with_reducible apply Xu); (focus rfl); (focus (simp [go_sem, effAt]; exact ⟨rfl, rfl⟩)); (focus ((first|(apply put_some rfl;focus (conv=>lhs;dsimp only [Xr,Xs])<;>rfl)|exact put_none rfl))))
    intro w2 hB_r hs
    have Fw2 := Fw1.trans (Turn.of_below hs)
    replace hB_l := hB_l.below hs hB_l.lt
    replace hB_e := hB_e.below hs hB_e.lt
    clear hs Fw1
    clear hc_l; have hc_l := hB_l.cell
    clear hc_e; have hc_e := hB_e.cell
    have hc_r := hB_r.cell
    repeat (first|(with_reducible apply Xa)|((with_reducible apply region_k);intro KK kk)|(with_reducible apply Xc)|((with_reducible apply seq_k);intro KK kk)|((with_reducible apply Xk);(focus first|exact wanted_none rfl|exact wanted_yes rfl rfl rfl);(focus (simp [go_sem,effAt,↓IntWalk.iteOmega, *];(try go_ints);with_reducible first|exact Xm|exact Xn));focus (first|(apply put_some rfl;focus (conv=>lhs;dsimp only [Xr,Xs])<;>rfl)|exact put_none rfl))|((with_reducible apply Xl);(focus first|exact wanted_no rfl rfl rfl|exact wanted_undef rfl rfl rfl);focus (first|(apply put_some rfl;focus (conv=>lhs;dsimp only [Xr,Xs])<;>rfl)|exact put_none rfl))|(with_reducible first|apply Xe|apply Xf|apply Xg|apply Xh)|((with_reducible apply Xi);focus first|rfl|(simp [go_sem, *];done))|((with_reducible apply Xj);focus first|rfl|(simp [go_sem, *];done))|(simp only [Exit.then,Exit.inBlock,↓reduceIte,Nat.reduceEqDiff])|((with_reducible apply kf_out);focus assumption))
    ((with_reducible apply Xt (Below w2.heap.size w2)); (focus rfl); (focus (simp only [effAt]; simp [go_sem]; (with_reducible exact effUpon_enter (hPi _)))); (focus ((first|(apply put_some rfl;focus (conv=>lhs;dsimp only [Xr,Xs])<;>rfl)|exact put_none rfl))))
    intro w3 hs
    have Fw3 := Fw2.trans (Turn.of_below hs)
    replace hB_l := hB_l.below hs hB_l.lt
    replace hB_e := hB_e.below hs hB_e.lt
    replace hB_r := hB_r.below hs hB_r.lt
    clear hs Fw2
    clear hc_l; have hc_l := hB_l.cell
    clear hc_e; have hc_e := hB_e.cell
    clear hc_r; have hc_r := hB_r.cell
    repeat (first|(with_reducible apply Xa)|((with_reducible apply region_k);intro KK kk)|(with_reducible apply Xc)|((with_reducible apply seq_k);intro KK kk)|((with_reducible apply Xk);(focus first|exact wanted_none rfl|exact wanted_yes rfl rfl rfl);(focus (simp [go_sem,effAt,↓IntWalk.iteOmega, *];(try go_ints);with_reducible first|exact Xm|exact Xn));focus (first|(apply put_some rfl;focus (conv=>lhs;dsimp only [Xr,Xs])<;>rfl)|exact put_none rfl))|((with_reducible apply Xl);(focus first|exact wanted_no rfl rfl rfl|exact wanted_undef rfl rfl rfl);focus (first|(apply put_some rfl;focus (conv=>lhs;dsimp only [Xr,Xs])<;>rfl)|exact put_none rfl))|(with_reducible first|apply Xe|apply Xf|apply Xg|apply Xh)|((with_reducible apply Xi);focus first|rfl|(simp [go_sem, *];done))|((with_reducible apply Xj);focus first|rfl|(simp [go_sem, *];done))|(simp only [Exit.then,Exit.inBlock,↓reduceIte,Nat.reduceEqDiff])|((with_reducible apply kf_out);focus assumption))
    ((with_reducible apply Xt (fun w' => Blk w' _ _ _ ∧ w3.grownBy w' (some _))); (focus rfl); (focus (simp only [effAt]; simp [go_sem]; (with_reducible exact effUpon_enter (hF _ hB_l)))); (focus ((first|(apply put_some rfl;focus (conv=>lhs;dsimp only [Xr,Xs])<;>rfl)|exact put_none rfl))))
    clear hc_l hB_l
    intro w4 hs
    obtain ⟨hB_l, hs⟩ := hs
    have Fw4 := Fw3.trans (Turn.of_grown hs (by first | exact .inl rfl | exact .inr (by omega)))
    replace hB_e := hB_e.grown hs (by intro hk; injection hk with hk; have := hB_e.lt; have := hB_l.lt; omega)
    replace hB_r := hB_r.grown hs (by intro hk; injection hk with hk; have := hB_r.lt; have := hB_l.lt; omega)
    clear hs Fw3
    clear hc_e; have hc_e := hB_e.cell
    clear hc_r; have hc_r := hB_r.cell
    have hc_l := hB_l.cell
    repeat (first|(with_reducible apply Xa)|((with_reducible apply region_k);intro KK kk)|(with_reducible apply Xc)|((with_reducible apply seq_k);intro KK kk)|((with_reducible apply Xk);(focus first|exact wanted_none rfl|exact wanted_yes rfl rfl rfl);(focus (simp [go_sem,effAt,↓IntWalk.iteOmega, *];(try go_ints);with_reducible first|exact Xm|exact Xn));focus (first|(apply put_some rfl;focus (conv=>lhs;dsimp only [Xr,Xs])<;>rfl)|exact put_none rfl))|((with_reducible apply Xl);(focus first|exact wanted_no rfl rfl rfl|exact wanted_undef rfl rfl rfl);focus (first|(apply put_some rfl;focus (conv=>lhs;dsimp only [Xr,Xs])<;>rfl)|exact put_none rfl))|(with_reducible first|apply Xe|apply Xf|apply Xg|apply Xh)|((with_reducible apply Xi);focus first|rfl|(simp [go_sem, *];done))|((with_reducible apply Xj);focus first|rfl|(simp [go_sem, *];done))|(simp only [Exit.then,Exit.inBlock,↓reduceIte,Nat.reduceEqDiff])|((with_reducible apply kf_out);focus assumption))
    have hf_r := hB_r.frozen
    ((with_reducible apply Xt (fun w' => Blk w' _ _ _ ∧ w4.grownBy w' (some _))); (focus rfl); (focus (simp [go_sem, effAt, *]; exact ⟨rfl, (((((hB_r.set_ 0 _).set_ 1 _).set_ 2 _).set_ 3 _).set_ 4 _), (grown_set (grown_set (grown_set (grown_set (grown_set (World.grownBy.refl _ _))))))⟩)); (focus ((first|(apply put_some rfl;focus (conv=>lhs;dsimp only [Xr,Xs])<;>rfl)|exact put_none rfl))))
    clear hf_r hc_r hB_r
    intro w5 hs
    obtain ⟨hB_r, hs⟩ := hs
    simp only [Xq,Xr,Xs] at hB_r
    have Fw5 := Fw4.trans (Turn.of_grown hs (by first | exact .inl rfl | exact .inr (by omega)))
    replace hB_l := hB_l.grown hs (by intro hk; injection hk with hk; have := hB_l.lt; have := hB_r.lt; omega)
    replace hB_e := hB_e.grown hs (by intro hk; injection hk with hk; have := hB_e.lt; have := hB_r.lt; omega)
    clear hs Fw4
    clear hc_l; have hc_l := hB_l.cell
    clear hc_e; have hc_e := hB_e.cell
    have hc_r := hB_r.cell
    repeat (first|(with_reducible apply Xa)|((with_reducible apply region_k);intro KK kk)|(with_reducible apply Xc)|((with_reducible apply seq_k);intro KK kk)|((with_reducible apply Xk);(focus first|exact wanted_none rfl|exact wanted_yes rfl rfl rfl);(focus (simp [go_sem,effAt,↓IntWalk.iteOmega, *];(try go_ints);with_reducible first|exact Xm|exact Xn));focus (first|(apply put_some rfl;focus (conv=>lhs;dsimp only [Xr,Xs])<;>rfl)|exact put_none rfl))|((with_reducible apply Xl);(focus first|exact wanted_no rfl rfl rfl|exact wanted_undef rfl rfl rfl);focus (first|(apply put_some rfl;focus (conv=>lhs;dsimp only [Xr,Xs])<;>rfl)|exact put_none rfl))|(with_reducible first|apply Xe|apply Xf|apply Xg|apply Xh)|((with_reducible apply Xi);focus first|rfl|(simp [go_sem, *];done))|((with_reducible apply Xj);focus first|rfl|(simp [go_sem, *];done))|(simp only [Exit.then,Exit.inBlock,↓reduceIte,Nat.reduceEqDiff])|((with_reducible apply kf_out);focus assumption))
    refine bodyPost_ret (v := _) (by simp [results, Try.results14, go_sem, *]) rfl ⟨rfl, hB_l, Turn.to_grown (by assumption)⟩
theorem rdoes_0 (h : Nat) (s : Int) (ls : Bool) (tr mo : Int) (kd fr : Int) (pf cmd : Bool) {s2 tr2 mo2 k1 t1 f1 : Int} {c1 p1 ls2 : Bool} (w : World) (hB_l : RB w h s ls tr mo) (hk : Fit kd) (hm : kd % 6 = 0) (hF : ∀ w, RB w h s ls tr mo → Calls Try.prog 24 #[.pointer (some ⟨h, 0, none⟩)] w (Ret (actV k1 c1 p1 t1 f1) fun w' => RB w' h s2 ls2 tr2 mo2 ∧ w.grownBy w' (some h))) :
    Calls Try.prog 14 #[.pointer (some ⟨h, 0, none⟩), .agg #[.int .i64 kd, .int .u8 fr, .bool pf, .bool cmd]] w (Ret (actV k1 c1 p1 t1 f1) fun w' => RB w' h s2 ls2 tr2 mo2 ∧ w.grownBy w' (some h)) := bundleb_3.1 h s ls tr mo kd fr pf cmd s2 tr2 mo2 k1 t1 f1 c1 p1 ls2 w hB_l hk hm hF
theorem rdoes_1 (h : Nat) (s : Int) (ls : Bool) (tr mo : Int) (kd fr : Int) (pf cmd : Bool) {s2 tr2 mo2 k1 t1 f1 : Int} {c1 p1 ls2 : Bool} (w : World) (hB_l : RB w h s ls tr mo) (hk : Fit kd) (hm : kd % 6 = 1) (hF : ∀ w, RB w h s ls tr mo → Calls Try.prog 25 #[.pointer (some ⟨h, 0, none⟩)] w (Ret (actV k1 c1 p1 t1 f1) fun w' => RB w' h s2 ls2 tr2 mo2 ∧ w.grownBy w' (some h))) :
    Calls Try.prog 14 #[.pointer (some ⟨h, 0, none⟩), .agg #[.int .i64 kd, .int .u8 fr, .bool pf, .bool cmd]] w (Ret (actV k1 c1 p1 t1 f1) fun w' => RB w' h s2 ls2 tr2 mo2 ∧ w.grownBy w' (some h)) := bundleb_3.2.1 h s ls tr mo kd fr pf cmd s2 tr2 mo2 k1 t1 f1 c1 p1 ls2 w hB_l hk hm hF
theorem rdoes_2 (h : Nat) (s : Int) (ls : Bool) (tr mo : Int) (kd fr : Int) (pf cmd : Bool) {s2 tr2 mo2 k1 t1 f1 : Int} {c1 p1 ls2 : Bool} (w : World) (hB_l : RB w h s ls tr mo) (hk : Fit kd) (hm : kd % 6 = 2) (hF : ∀ w, RB w h s ls tr mo → Calls Try.prog 26 #[.pointer (some ⟨h, 0, none⟩)] w (Ret (actV k1 c1 p1 t1 f1) fun w' => RB w' h s2 ls2 tr2 mo2 ∧ w.grownBy w' (some h))) :
    Calls Try.prog 14 #[.pointer (some ⟨h, 0, none⟩), .agg #[.int .i64 kd, .int .u8 fr, .bool pf, .bool cmd]] w (Ret (actV k1 c1 p1 t1 f1) fun w' => RB w' h s2 ls2 tr2 mo2 ∧ w.grownBy w' (some h)) := bundleb_3.2.2.1 h s ls tr mo kd fr pf cmd s2 tr2 mo2 k1 t1 f1 c1 p1 ls2 w hB_l hk hm hF
theorem rdoes_4 (h : Nat) (s : Int) (ls : Bool) (tr mo : Int) (kd fr : Int) (pf cmd : Bool) {s2 tr2 mo2 k1 t1 f1 : Int} {c1 p1 ls2 : Bool} (w : World) (hB_l : RB w h s ls tr mo) (hk : Fit kd) (hm : kd % 6 = 4) (hF : ∀ w, RB w h s ls tr mo → Calls Try.prog 27 #[.pointer (some ⟨h, 0, none⟩), .int .u8 fr, .bool pf, .bool cmd] w (Ret (actV k1 c1 p1 t1 f1) fun w' => RB w' h s2 ls2 tr2 mo2 ∧ w.grownBy w' (some h))) :
    Calls Try.prog 14 #[.pointer (some ⟨h, 0, none⟩), .agg #[.int .i64 kd, .int .u8 fr, .bool pf, .bool cmd]] w (Ret (actV k1 c1 p1 t1 f1) fun w' => RB w' h s2 ls2 tr2 mo2 ∧ w.grownBy w' (some h)) := bundleb_3.2.2.2.1 h s ls tr mo kd fr pf cmd s2 tr2 mo2 k1 t1 f1 c1 p1 ls2 w hB_l hk hm hF
theorem rdoes_5 (h : Nat) (s : Int) (ls : Bool) (tr mo : Int) (kd fr : Int) (pf cmd : Bool) {s2 tr2 mo2 k1 t1 f1 : Int} {c1 p1 ls2 : Bool} (w : World) (hB_l : RB w h s ls tr mo) (hk : Fit kd) (hm : kd % 6 = 5) (hF : ∀ w, RB w h s ls tr mo → Calls Try.prog 27 #[.pointer (some ⟨h, 0, none⟩), .int .u8 fr, .bool pf, .bool cmd] w (Ret (actV k1 c1 p1 t1 f1) fun w' => RB w' h s2 ls2 tr2 mo2 ∧ w.grownBy w' (some h))) :
    Calls Try.prog 14 #[.pointer (some ⟨h, 0, none⟩), .agg #[.int .i64 kd, .int .u8 fr, .bool pf, .bool cmd]] w (Ret (actV k1 c1 p1 t1 f1) fun w' => RB w' h s2 ls2 tr2 mo2 ∧ w.grownBy w' (some h)) := bundleb_3.2.2.2.2 h s ls tr mo kd fr pf cmd s2 tr2 mo2 k1 t1 f1 c1 p1 ls2 w hB_l hk hm hF
theorem rdoes_3 (h : Nat) (s : Int) (ls : Bool) (tr mo : Int) (kd fr : Int) (pf cmd : Bool) (w : World) (hB_l : RB w h s ls tr mo) (hk : Fit kd) (hm : kd % 6 = 3) :
    Calls Try.prog 14 #[.pointer (some ⟨h, 0, none⟩), .agg #[.int .i64 kd, .int .u8 fr, .bool pf, .bool cmd]] w (Ret (actV 0 false false 0 0) fun w' => RB w' h s pf tr mo ∧ w.grownBy w' (some h)) := by
  have hPi := pick_any kd 6 (by omega) hk
  rw [hm] at hPi
  clear hm hk
  unfold RB at *
  go_enter Try.func14, Try.ntmps14
  have F0 : Turn (fun i => i = h ∨ w.heap.size ≤ i) w w := Turn.refl _
  have hc_l := hB_l.cell
  repeat (first|(with_reducible apply Xa)|((with_reducible apply region_k);intro KK kk)|(with_reducible apply Xc)|((with_reducible apply seq_k);intro KK kk)|((with_reducible apply Xk);(focus first|exact wanted_none rfl|exact wanted_yes rfl rfl rfl);(focus (simp [go_sem,effAt,↓IntWalk.iteOmega, *];(try go_ints);with_reducible first|exact Xm|exact Xn));focus (first|(apply put_some rfl;focus (conv=>lhs;dsimp only [Xr,Xs])<;>rfl)|exact put_none rfl))|((with_reducible apply Xl);(focus first|exact wanted_no rfl rfl rfl|exact wanted_undef rfl rfl rfl);focus (first|(apply put_some rfl;focus (conv=>lhs;dsimp only [Xr,Xs])<;>rfl)|exact put_none rfl))|(with_reducible first|apply Xe|apply Xf|apply Xg|apply Xh)|((with_reducible apply Xi);focus first|rfl|(simp [go_sem, *];done))|((with_reducible apply Xj);focus first|rfl|(simp [go_sem, *];done))|(simp only [Exit.then,Exit.inBlock,↓reduceIte,Nat.reduceEqDiff])|((with_reducible apply kf_out);focus assumption))
  have lt_l_e := hB_l.lt
  have le_e := F0.size
  ((with_reducible apply Xu); (focus rfl); (focus (simp [go_sem, effAt]; exact ⟨rfl, rfl⟩)); (focus ((first|(apply put_some rfl;focus (conv=>lhs;dsimp only [Xr,Xs])<;>rfl)|exact put_none rfl))))
  intro w1 hB_e hs
  have Fw1 := F0.trans (Turn.of_below hs)
  replace hB_l := hB_l.below hs hB_l.lt
  clear hs F0
  clear hc_l; have hc_l := hB_l.cell
  have hc_e := hB_e.cell
  repeat (first|(with_reducible apply Xa)|((with_reducible apply region_k);intro KK kk)|(with_reducible apply Xc)|((with_reducible apply seq_k);intro KK kk)|((with_reducible apply Xk);(focus first|exact wanted_none rfl|exact wanted_yes rfl rfl rfl);(focus (simp [go_sem,effAt,↓IntWalk.iteOmega, *];(try go_ints);with_reducible first|exact Xm|exact Xn));focus (first|(apply put_some rfl;focus (conv=>lhs;dsimp only [Xr,Xs])<;>rfl)|exact put_none rfl))|((with_reducible apply Xl);(focus first|exact wanted_no rfl rfl rfl|exact wanted_undef rfl rfl rfl);focus (first|(apply put_some rfl;focus (conv=>lhs;dsimp only [Xr,Xs])<;>rfl)|exact put_none rfl))|(with_reducible first|apply Xe|apply Xf|apply Xg|apply Xh)|((with_reducible apply Xi);focus first|rfl|(simp [go_sem, *];done))|((with_reducible apply Xj);focus first|rfl|(simp [go_sem, *];done))|(simp only [Exit.then,Exit.inBlock,↓reduceIte,Nat.reduceEqDiff])|((with_reducible apply kf_out);focus assumption))
  have lt_l_r := hB_l.lt
  have lt_e_r := hB_e.lt
  have le_r := Fw1.size
  ((with_reducible apply Xu); (focus rfl); (focus (simp [go_sem, effAt]; exact ⟨rfl, rfl⟩)); (focus ((first|(apply put_some rfl;focus (conv=>lhs;dsimp only [Xr,Xs])<;>rfl)|exact put_none rfl))))
  intro w2 hB_r hs
  have Fw2 := Fw1.trans (Turn.of_below hs)
  replace hB_l := hB_l.below hs hB_l.lt
  replace hB_e := hB_e.below hs hB_e.lt
  clear hs Fw1
  clear hc_l; have hc_l := hB_l.cell
  clear hc_e; have hc_e := hB_e.cell
  have hc_r := hB_r.cell
  repeat (first|(with_reducible apply Xa)|((with_reducible apply region_k);intro KK kk)|(with_reducible apply Xc)|((with_reducible apply seq_k);intro KK kk)|((with_reducible apply Xk);(focus first|exact wanted_none rfl|exact wanted_yes rfl rfl rfl);(focus (simp [go_sem,effAt,↓IntWalk.iteOmega, *];(try go_ints);with_reducible first|exact Xm|exact Xn));focus (first|(apply put_some rfl;focus (conv=>lhs;dsimp only [Xr,Xs])<;>rfl)|exact put_none rfl))|((with_reducible apply Xl);(focus first|exact wanted_no rfl rfl rfl|exact wanted_undef rfl rfl rfl);focus (first|(apply put_some rfl;focus (conv=>lhs;dsimp only [Xr,Xs])<;>rfl)|exact put_none rfl))|(with_reducible first|apply Xe|apply Xf|apply Xg|apply Xh)|((with_reducible apply Xi);focus first|rfl|(simp [go_sem, *];done))|((with_reducible apply Xj);focus first|rfl|(simp [go_sem, *];done))|(simp only [Exit.then,Exit.inBlock,↓reduceIte,Nat.reduceEqDiff])|((with_reducible apply kf_out);focus assumption))
  ((with_reducible apply Xt (Below w2.heap.size w2)); (focus rfl); (focus (simp only [effAt]; simp [go_sem]; (with_reducible exact effUpon_enter (hPi _)))); (focus ((first|(apply put_some rfl;focus (conv=>lhs;dsimp only [Xr,Xs])<;>rfl)|exact put_none rfl))))
  intro w3 hs
  have Fw3 := Fw2.trans (Turn.of_below hs)
  replace hB_l := hB_l.below hs hB_l.lt
  replace hB_e := hB_e.below hs hB_e.lt
  replace hB_r := hB_r.below hs hB_r.lt
  clear hs Fw2
  clear hc_l; have hc_l := hB_l.cell
  clear hc_e; have hc_e := hB_e.cell
  clear hc_r; have hc_r := hB_r.cell
  repeat (first|(with_reducible apply Xa)|((with_reducible apply region_k);intro KK kk)|(with_reducible apply Xc)|((with_reducible apply seq_k);intro KK kk)|((with_reducible apply Xk);(focus first|exact wanted_none rfl|exact wanted_yes rfl rfl rfl);(focus (simp [go_sem,effAt,↓IntWalk.iteOmega, *];(try go_ints);with_reducible first|exact Xm|exact Xn));focus (first|(apply put_some rfl;focus (conv=>lhs;dsimp only [Xr,Xs])<;>rfl)|exact put_none rfl))|((with_reducible apply Xl);(focus first|exact wanted_no rfl rfl rfl|exact wanted_undef rfl rfl rfl);focus (first|(apply put_some rfl;focus (conv=>lhs;dsimp only [Xr,Xs])<;>rfl)|exact put_none rfl))|(with_reducible first|apply Xe|apply Xf|apply Xg|apply Xh)|((with_reducible apply Xi);focus first|rfl|(simp [go_sem, *];done))|((with_reducible apply Xj);focus first|rfl|(simp [go_sem, *];done))|(simp only [Exit.then,Exit.inBlock,↓reduceIte,Nat.reduceEqDiff])|((with_reducible apply kf_out);focus assumption))
  have hf_l := hB_l.frozen
  ((with_reducible apply Xt (fun w' => Blk w' _ _ _ ∧ w3.grownBy w' (some _))); (focus rfl); (focus (simp [go_sem, effAt, *]; exact ⟨rfl, (hB_l.set_ 1 _), (grown_set (World.grownBy.refl _ _))⟩)); (focus ((first|(apply put_some rfl;focus (conv=>lhs;dsimp only [Xr,Xs])<;>rfl)|exact put_none rfl))))
  clear hf_l hc_l hB_l
  intro w4 hs
  obtain ⟨hB_l, hs⟩ := hs
  simp only [Xq,Xr,Xs] at hB_l
  have Fw4 := Fw3.trans (Turn.of_grown hs (by first | exact .inl rfl | exact .inr (by omega)))
  replace hB_e := hB_e.grown hs (by intro hk; injection hk with hk; have := hB_e.lt; have := hB_l.lt; omega)
  replace hB_r := hB_r.grown hs (by intro hk; injection hk with hk; have := hB_r.lt; have := hB_l.lt; omega)
  clear hs Fw3
  clear hc_e; have hc_e := hB_e.cell
  clear hc_r; have hc_r := hB_r.cell
  have hc_l := hB_l.cell
  repeat (first|(with_reducible apply Xa)|((with_reducible apply region_k);intro KK kk)|(with_reducible apply Xc)|((with_reducible apply seq_k);intro KK kk)|((with_reducible apply Xk);(focus first|exact wanted_none rfl|exact wanted_yes rfl rfl rfl);(focus (simp [go_sem,effAt,↓IntWalk.iteOmega, *];(try go_ints);with_reducible first|exact Xm|exact Xn));focus (first|(apply put_some rfl;focus (conv=>lhs;dsimp only [Xr,Xs])<;>rfl)|exact put_none rfl))|((with_reducible apply Xl);(focus first|exact wanted_no rfl rfl rfl|exact wanted_undef rfl rfl rfl);focus (first|(apply put_some rfl;focus (conv=>lhs;dsimp only [Xr,Xs])<;>rfl)|exact put_none rfl))|(with_reducible first|apply Xe|apply Xf|apply Xg|apply Xh)|((with_reducible apply Xi);focus first|rfl|(simp [go_sem, *];done))|((with_reducible apply Xj);focus first|rfl|(simp [go_sem, *];done))|(simp only [Exit.then,Exit.inBlock,↓reduceIte,Nat.reduceEqDiff])|((with_reducible apply kf_out);focus assumption))
  have hf_r := hB_r.frozen
  ((with_reducible apply Xt (fun w' => Blk w' _ _ _ ∧ w4.grownBy w' (some _))); (focus rfl); (focus (simp [go_sem, effAt, *]; exact ⟨rfl, (((((hB_r.set_ 0 _).set_ 1 _).set_ 2 _).set_ 3 _).set_ 4 _), (grown_set (grown_set (grown_set (grown_set (grown_set (World.grownBy.refl _ _))))))⟩)); (focus ((first|(apply put_some rfl;focus (conv=>lhs;dsimp only [Xr,Xs])<;>rfl)|exact put_none rfl))))
  clear hf_r hc_r hB_r
  intro w5 hs
  obtain ⟨hB_r, hs⟩ := hs
  simp only [Xq,Xr,Xs] at hB_r
  have Fw5 := Fw4.trans (Turn.of_grown hs (by first | exact .inl rfl | exact .inr (by omega)))
  replace hB_l := hB_l.grown hs (by intro hk; injection hk with hk; have := hB_l.lt; have := hB_r.lt; omega)
  replace hB_e := hB_e.grown hs (by intro hk; injection hk with hk; have := hB_e.lt; have := hB_r.lt; omega)
  clear hs Fw4
  clear hc_l; have hc_l := hB_l.cell
  clear hc_e; have hc_e := hB_e.cell
  have hc_r := hB_r.cell
  repeat (first|(with_reducible apply Xa)|((with_reducible apply region_k);intro KK kk)|(with_reducible apply Xc)|((with_reducible apply seq_k);intro KK kk)|((with_reducible apply Xk);(focus first|exact wanted_none rfl|exact wanted_yes rfl rfl rfl);(focus (simp [go_sem,effAt,↓IntWalk.iteOmega, *];(try go_ints);with_reducible first|exact Xm|exact Xn));focus (first|(apply put_some rfl;focus (conv=>lhs;dsimp only [Xr,Xs])<;>rfl)|exact put_none rfl))|((with_reducible apply Xl);(focus first|exact wanted_no rfl rfl rfl|exact wanted_undef rfl rfl rfl);focus (first|(apply put_some rfl;focus (conv=>lhs;dsimp only [Xr,Xs])<;>rfl)|exact put_none rfl))|(with_reducible first|apply Xe|apply Xf|apply Xg|apply Xh)|((with_reducible apply Xi);focus first|rfl|(simp [go_sem, *];done))|((with_reducible apply Xj);focus first|rfl|(simp [go_sem, *];done))|(simp only [Exit.then,Exit.inBlock,↓reduceIte,Nat.reduceEqDiff])|((with_reducible apply kf_out);focus assumption))
  refine bodyPost_ret (v := (actV 0 false false 0 0)) (by simp [results, Try.results14, go_sem, *]) rfl ⟨rfl, hB_l, Turn.to_grown (by assumption)⟩

