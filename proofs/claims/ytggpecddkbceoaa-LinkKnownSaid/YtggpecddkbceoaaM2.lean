/- What a side says lies before the other one: the walk of two.said. No condition but how many lie there. -/
import Derived.Test.YtggpecddkbceoaaM1
import Derived.Test.YtggpecddkbceoaaKf
import Derived.Test.YtggpecddkbceoaaOg
import Derived.Test.YtggpecddkbceoaaTn
set_option linter.unusedSimpArgs false
set_option linter.unusedVariables false
namespace Go.Proofs.Ytggpecddkbceoaa
open Go.RowKit Go.Eff
attribute [local irreducible] Go.wpList Go.wpOp Go.Eff.wpAnyG
/-- the store is late -/
def lateS (i : Nat) : Bool := i == 16
theorem QR.shape {w : World} {B : Nat} {sv : Value} {q : List AT} (h : QR w B sv q) : ∃ ao n cap, sv = .slice ao n cap := by
  rcases h with ⟨rfl, _⟩ | ⟨b, off, cap, cur, rfl, _⟩
  · exact ⟨_, _, _, rfl⟩
  · exact ⟨_, _, _, rfl⟩
theorem eff_append {P : Program} {o : Oper} {a : Act} {w w' : World} {sv va vb : Value} {x y : Operand} {ats : Array TypeId} (ho : o.op = .call ⟨.builtin .append, #[x, y], ats⟩) (hx : a.eval x = va) (hy : a.eval y = vb)
    (h : (Builtin.append_ ats o.type #[va, vb]).run P w = .ok sv w') : effAt P o a w sv (fun u => u = w') := by
  obtain ⟨dst, op, ty, pos, after, guard⟩ := o
  dsimp only at ho h
  subst ho
  unfold effAt
  show effUpon P sv _ ((do pure (Next.value (← Builtin.append_ ats ty ((#[x, y] : Array Operand).map a.eval))) : Sem Next).run P w)
  have e : (#[x, y] : Array Operand).map a.eval = #[va, vb] := by simp [hx, hy]
  rw [e, Sem.run_bind, h]
  exact ⟨rfl, rfl⟩
set_option maxRecDepth 100000 in
set_option maxHeartbeats 4000000 in
theorem said_0 (tg : Nat) (p0 p1 s0 s1 : Value) (k : Int) (c p : Bool) (t f : Int) (q : List AT) (B : Nat) (w : World) (hB_t : Blk w tg 45 #[p0, p1, s0, s1]) (hQ : QR w B s1 q) (hB : B ≤ w.heap.size) (hq : q.length ≤ 1000) (hne : blkOf s1 ≠ some tg) (hk : (k != 0) = true) :
    Calls Try.prog 17 #[.pointer (some ⟨tg, 0, none⟩), .int .i64 0, actV k c p t f] w (Ret (.tuple #[]) fun w' => ∃ sv, Blk w' tg 45 #[p0, p1, s0, sv] ∧ QR w' B sv (q ++ [(k, c, p, t, f)]) ∧ Turn (fun i => i = tg ∨ blkOf s1 = some i ∨ w.heap.size ≤ i) w w' ∧ (∀ j, blkOf sv = some j → blkOf s1 = some j ∨ w.heap.size ≤ j)) := by
  have hlt := hB_t.lt
  have hQl := hQ.lt
  have HQ := Lib.hid hQ
  have HQL := Lib.hid hQl
  have HNE := Lib.hid hne
  clear hQ hQl hne
  go_enter Try.func17, Try.ntmps17
  have F0 : Below w.heap.size w w := Below.refl _ _
  have hc_t := hB_t.cell
  with_reducible apply region_k
  intro KK kk
  have lt_t_a := hB_t.lt
  ((with_reducible apply Xu); (focus rfl); (focus (simp [go_sem, effAt]; exact ⟨rfl, rfl⟩)); (focus ((first|(apply put_some rfl;focus (conv=>lhs;dsimp only [Xr,Xs])<;>rfl)|exact put_none rfl))))
  intro w1 hB_a hs
  have Fw1 := F0.trans (hs.mono F0.size)
  replace hB_t := hB_t.below hs hB_t.lt
  clear hs F0
  clear hc_t; have hc_t := hB_t.cell
  have hc_a := hB_a.cell
  repeat (first|(with_reducible apply Xa)|((with_reducible apply region_k);intro KK kk)|(with_reducible apply Xc)|((with_reducible apply seq_k);intro KK kk)|((with_reducible apply Xk);(focus first|exact wanted_none rfl|exact wanted_yes rfl rfl rfl);(focus (simp [go_sem,effAt,↓IntWalk.iteOmega, *];(try go_ints);with_reducible first|exact Xm|exact Xn));focus (first|(apply put_some rfl;focus (conv=>lhs;dsimp only [Xr,Xs])<;>rfl)|exact put_none rfl))|((with_reducible apply Xl);(focus first|exact wanted_no rfl rfl rfl|exact wanted_undef rfl rfl rfl);focus (first|(apply put_some rfl;focus (conv=>lhs;dsimp only [Xr,Xs])<;>rfl)|exact put_none rfl))|(with_reducible first|apply Xe|apply Xf|apply Xg|apply Xh)|((with_reducible apply Xi);focus first|rfl|(simp [go_sem, *];done))|((with_reducible apply Xj);focus first|rfl|(simp [go_sem, *];done))|(simp only [Exit.then,Exit.inBlock,↓reduceIte,Nat.reduceEqDiff])|((with_reducible apply kf_out);focus assumption))
  obtain ⟨u0, hu0⟩ : ∃ u0, w1.drew = u0 := ⟨_, rfl⟩
  refine late_region 17 (fun w' : World => w'.cell? ⟨tg, 3, none⟩ = some s1 ∧ ∀ i, w'.cell? ⟨w.heap.size, i, none⟩ = (#[.int .u8 k, .bool c, .bool p, .int .u8 t, .int .u8 f] : Array Value)[i]?) lateS (by kernel_rfl) (by kernel_rfl) ?_
  have HS : ∀ w' : World, (w'.cell? ⟨tg, 3, none⟩ = some s1 ∧ ∀ i, w'.cell? ⟨w.heap.size, i, none⟩ = (#[.int .u8 k, .bool c, .bool p, .int .u8 t, .int .u8 f] : Array Value)[i]?) → (w'.cell? ⟨tg, 3, none⟩ = some s1 ∧ ∀ i, w'.cell? ⟨w.heap.size, i, none⟩ = (#[.int .u8 k, .bool c, .bool p, .int .u8 t, .int .u8 f] : Array Value)[i]?) := fun _ h => h
  have hBt0 : Blk w1.drew tg 45 #[p0, p1, s0, s1] := hB_t.drew
  have hBa0 : Blk w1.drew w.heap.size 30 #[.int .u8 k, .bool c, .bool p, .int .u8 t, .int .u8 f] := hB_a.drew
  have F1 : Below w.heap.size w w1.drew := Fw1.drew
  have hQ0 : QR w1.drew B s1 q := HQ.out.below F1
  generalize w1.drew = u0' at hBt0 hBa0 F1 hQ0 ⊢
  clear hB_t hB_a hc_t hc_a hu0 u0
  have hS0 : u0'.cell? ⟨tg, 3, none⟩ = some s1 ∧ ∀ i, u0'.cell? ⟨w.heap.size, i, none⟩ = (#[.int .u8 k, .bool c, .bool p, .int .u8 t, .int .u8 f] : Array Value)[i]? := ⟨hBt0.cell 3, hBa0.cell⟩
  (with_reducible apply late_v 0)
  (focus rfl)
  (focus kernel_rfl)
  (focus kernel_rfl)
  (focus kernel_rfl)
  (focus kernel_rfl)
  (focus kernel_rfl)
  (focus rfl)
  (focus exact fun _ _ _ h => h)
  (focus (first | exact wanted_none rfl | exact wanted_yes rfl rfl rfl))
  (focus (intro w' hS; obtain ⟨hc_s, hc_a⟩ := HS _ hS; simp [go_sem, valAt, ↓IntWalk.iteOmega, *]; (try go_ints); (with_reducible exact valUpon_val)))
  (focus exact hS0)
  (focus (first|(apply put_some rfl;focus (conv=>lhs;dsimp only [Xr,Xs])<;>rfl)|exact put_none rfl))
  (with_reducible apply late_v 1)
  (focus rfl)
  (focus kernel_rfl)
  (focus kernel_rfl)
  (focus kernel_rfl)
  (focus kernel_rfl)
  (focus kernel_rfl)
  (focus rfl)
  (focus exact fun _ _ _ h => h)
  (focus (first | exact wanted_none rfl | exact wanted_yes rfl rfl rfl))
  (focus (intro w' hS; obtain ⟨hc_s, hc_a⟩ := HS _ hS; simp [go_sem, valAt, ↓IntWalk.iteOmega, *]; (try go_ints); (with_reducible exact valUpon_val)))
  (focus exact hS0)
  (focus (first|(apply put_some rfl;focus (conv=>lhs;dsimp only [Xr,Xs])<;>rfl)|exact put_none rfl))
  (with_reducible apply late_v 2)
  (focus rfl)
  (focus kernel_rfl)
  (focus kernel_rfl)
  (focus kernel_rfl)
  (focus kernel_rfl)
  (focus kernel_rfl)
  (focus rfl)
  (focus exact fun _ _ _ h => h)
  (focus (first | exact wanted_none rfl | exact wanted_yes rfl rfl rfl))
  (focus (intro w' hS; obtain ⟨hc_s, hc_a⟩ := HS _ hS; simp [go_sem, valAt, ↓IntWalk.iteOmega, *]; (try go_ints); (with_reducible exact valUpon_val)))
  (focus exact hS0)
  (focus (first|(apply put_some rfl;focus (conv=>lhs;dsimp only [Xr,Xs])<;>rfl)|exact put_none rfl))
  (with_reducible apply late_v 3)
  (focus rfl)
  (focus kernel_rfl)
  (focus kernel_rfl)
  (focus kernel_rfl)
  (focus kernel_rfl)
  (focus kernel_rfl)
  (focus rfl)
  (focus exact fun _ _ _ h => h)
  (focus (first | exact wanted_none rfl | exact wanted_yes rfl rfl rfl))
  (focus (intro w' hS; obtain ⟨hc_s, hc_a⟩ := HS _ hS; simp [go_sem, valAt, ↓IntWalk.iteOmega, *]; (try go_ints); (with_reducible exact valUpon_val)))
  (focus exact hS0)
  (focus (first|(apply put_some rfl;focus (conv=>lhs;dsimp only [Xr,Xs])<;>rfl)|exact put_none rfl))
  (with_reducible apply late_v 4)
  (focus rfl)
  (focus kernel_rfl)
  (focus kernel_rfl)
  (focus kernel_rfl)
  (focus kernel_rfl)
  (focus kernel_rfl)
  (focus rfl)
  (focus exact fun _ _ _ h => h)
  (focus (first | exact wanted_none rfl | exact wanted_yes rfl rfl rfl))
  (focus (intro w' hS; obtain ⟨hc_s, hc_a⟩ := HS _ hS; simp [go_sem, valAt, ↓IntWalk.iteOmega, *]; (try go_ints); (with_reducible exact valUpon_val)))
  (focus exact hS0)
  (focus (first|(apply put_some rfl;focus (conv=>lhs;dsimp only [Xr,Xs])<;>rfl)|exact put_none rfl))
  (with_reducible apply late_v 5)
  (focus rfl)
  (focus kernel_rfl)
  (focus kernel_rfl)
  (focus kernel_rfl)
  (focus kernel_rfl)
  (focus kernel_rfl)
  (focus rfl)
  (focus exact fun _ _ _ h => h)
  (focus (first | exact wanted_none rfl | exact wanted_yes rfl rfl rfl))
  (focus (intro w' hS; obtain ⟨hc_s, hc_a⟩ := HS _ hS; simp [go_sem, valAt, ↓IntWalk.iteOmega, *]; (try go_ints); (with_reducible exact valUpon_val)))
  (focus exact hS0)
  (focus (first|(apply put_some rfl;focus (conv=>lhs;dsimp only [Xr,Xs])<;>rfl)|exact put_none rfl))
  (with_reducible apply late_v 6)
  (focus rfl)
  (focus kernel_rfl)
  (focus kernel_rfl)
  (focus kernel_rfl)
  (focus kernel_rfl)
  (focus kernel_rfl)
  (focus rfl)
  (focus exact fun _ _ _ h => h)
  (focus (first | exact wanted_none rfl | exact wanted_yes rfl rfl rfl))
  (focus (intro w' hS; obtain ⟨hc_s, hc_a⟩ := HS _ hS; simp [go_sem, valAt, ↓IntWalk.iteOmega, *]; (try go_ints); (with_reducible exact valUpon_val)))
  (focus exact hS0)
  (focus (first|(apply put_some rfl;focus (conv=>lhs;dsimp only [Xr,Xs])<;>rfl)|exact put_none rfl))
  (with_reducible apply late_v 7)
  (focus rfl)
  (focus kernel_rfl)
  (focus kernel_rfl)
  (focus kernel_rfl)
  (focus kernel_rfl)
  (focus kernel_rfl)
  (focus rfl)
  (focus exact fun _ _ _ h => h)
  (focus (first | exact wanted_none rfl | exact wanted_yes rfl rfl rfl))
  (focus (intro w' hS; obtain ⟨hc_s, hc_a⟩ := HS _ hS; simp [go_sem, valAt, ↓IntWalk.iteOmega, *]; (try go_ints); (with_reducible exact valUpon_val)))
  (focus exact hS0)
  (focus (first|(apply put_some rfl;focus (conv=>lhs;dsimp only [Xr,Xs])<;>rfl)|exact put_none rfl))
  (with_reducible apply late_v 8)
  (focus rfl)
  (focus kernel_rfl)
  (focus kernel_rfl)
  (focus kernel_rfl)
  (focus kernel_rfl)
  (focus kernel_rfl)
  (focus rfl)
  (focus exact fun _ _ _ h => h)
  (focus (first | exact wanted_none rfl | exact wanted_yes rfl rfl rfl))
  (focus (intro w' hS; obtain ⟨hc_s, hc_a⟩ := HS _ hS; simp [go_sem, valAt, ↓IntWalk.iteOmega, *]; (try go_ints); (with_reducible exact valUpon_val)))
  (focus exact hS0)
  (focus (first|(apply put_some rfl;focus (conv=>lhs;dsimp only [Xr,Xs])<;>rfl)|exact put_none rfl))
  (with_reducible apply late_v 9)
  (focus rfl)
  (focus kernel_rfl)
  (focus kernel_rfl)
  (focus kernel_rfl)
  (focus kernel_rfl)
  (focus kernel_rfl)
  (focus rfl)
  (focus exact fun _ _ _ h => h)
  (focus (first | exact wanted_none rfl | exact wanted_yes rfl rfl rfl))
  (focus (intro w' hS; obtain ⟨hc_s, hc_a⟩ := HS _ hS; simp [go_sem, valAt, ↓IntWalk.iteOmega, *]; (try go_ints); (with_reducible exact valUpon_val)))
  (focus exact hS0)
  (focus (first|(apply put_some rfl;focus (conv=>lhs;dsimp only [Xr,Xs])<;>rfl)|exact put_none rfl))
  (with_reducible apply late_v 10)
  (focus rfl)
  (focus kernel_rfl)
  (focus kernel_rfl)
  (focus kernel_rfl)
  (focus kernel_rfl)
  (focus kernel_rfl)
  (focus rfl)
  (focus exact fun _ _ _ h => h)
  (focus (first | exact wanted_none rfl | exact wanted_yes rfl rfl rfl))
  (focus (intro w' hS; obtain ⟨hc_s, hc_a⟩ := HS _ hS; simp [go_sem, valAt, ↓IntWalk.iteOmega, *]; (try go_ints); (with_reducible exact valUpon_val)))
  (focus exact hS0)
  (focus (first|(apply put_some rfl;focus (conv=>lhs;dsimp only [Xr,Xs])<;>rfl)|exact put_none rfl))
  (with_reducible apply late_v 13)
  (focus rfl)
  (focus kernel_rfl)
  (focus kernel_rfl)
  (focus kernel_rfl)
  (focus kernel_rfl)
  (focus kernel_rfl)
  (focus rfl)
  (focus exact fun _ _ _ h => h)
  (focus (first | exact wanted_none rfl | exact wanted_yes rfl rfl rfl))
  (focus (intro w' hS; obtain ⟨hc_s, hc_a⟩ := HS _ hS; simp [go_sem, valAt, ↓IntWalk.iteOmega, *]; (try go_ints); (with_reducible exact valUpon_val)))
  (focus exact hS0)
  (focus (first|(apply put_some rfl;focus (conv=>lhs;dsimp only [Xr,Xs])<;>rfl)|exact put_none rfl))
  (with_reducible apply late_v 14)
  (focus rfl)
  (focus kernel_rfl)
  (focus kernel_rfl)
  (focus kernel_rfl)
  (focus kernel_rfl)
  (focus kernel_rfl)
  (focus rfl)
  (focus exact fun _ _ _ h => h)
  (focus (first | exact wanted_none rfl | exact wanted_yes rfl rfl rfl))
  (focus (intro w' hS; obtain ⟨hc_s, hc_a⟩ := HS _ hS; simp [go_sem, valAt, ↓IntWalk.iteOmega, *]; (try go_ints); (with_reducible exact valUpon_val)))
  (focus exact hS0)
  (focus (first|(apply put_some rfl;focus (conv=>lhs;dsimp only [Xr,Xs])<;>rfl)|exact put_none rfl))
  refine late_all (rs := [11]) (by kernel_rfl) (by simp) ?_
  refine List.forall_mem_cons.2 ⟨?_, by intro _ h; cases h⟩
  (with_reducible apply late_e (fun w' => Blk w' u0'.heap.size 30 #[.int .u8 k, .bool c, .bool p, .int .u8 t, .int .u8 f] ∧ Below u0'.heap.size u0' w'))
  (focus rfl)
  (focus (first | exact wanted_none rfl | exact wanted_yes rfl rfl rfl))
  (focus (simp [go_sem, effAt]; exact ⟨rfl, Blk.new _ _ _, (Below.refl _ _).alloc (Nat.le_refl _) _⟩))
  (focus (first|(apply put_some rfl;focus (conv=>lhs;dsimp only [Xr,Xs])<;>rfl)|exact put_none rfl))
  (focus exact fun w' h => .inr ⟨(hBt0.below h.2 hBt0.lt).cell 3, (hBa0.below h.2 hBa0.lt).cell⟩)
  rintro u1 ⟨hBs, hs⟩
  have hBt1 := hBt0.below hs hBt0.lt
  have hBa1 := hBa0.below hs hBa0.lt
  have hQ1 := hQ0.below hs
  have F2 := F1.trans (hs.mono F1.size)
  have hsz := hs.size
  have hF1s := F1.size
  have hF2s := F2.size
  clear hBt0 hBa0 hQ0 hs F1 hS0
  obtain ⟨sv, u2, hap, hQ2, hg2, hbk⟩ := app_any hQ1 (Nat.le_trans hB hF2s) (k, c, p, t, f) _ hBs hq
  obtain ⟨ao, n', cap', rfl⟩ := hQ2.shape
  have hBt2 := hBt1.grown hg2 (Ne.symm HNE.out)
  have hBa2 := hBa1.grown hg2 (fun e => by have := HQL.out _ e.symm; omega)
  have F3 : Turn (fun i => i = tg ∨ blkOf s1 = some i ∨ w.heap.size ≤ i) w u2 := (Turn.of_below F2).trans ⟨hg2.os, hg2.tape, hg2.output, hg2.size, fun i hi hn => hg2.block i hi (fun e => hn (.inr (.inl e.symm)))⟩
  have hg2s := hg2.size
  clear hQ1 hg2 hBt1 hBa1 F2
  refine late_all (rs := [12]) (by kernel_rfl) (by simp) ?_
  refine List.forall_mem_cons.2 ⟨?_, by intro _ h; cases h⟩
  (with_reducible apply late_e (· = u2))
  (focus rfl)
  (focus (first | exact wanted_none rfl | exact wanted_yes rfl rfl rfl))
  (focus exact eff_append rfl rfl rfl hap)
  (focus (first|(apply put_some rfl;focus (conv=>lhs;dsimp only [Xr,Xs])<;>rfl)|exact put_none rfl))
  (focus exact fun w' h => .inr (h ▸ ⟨hBt2.cell 3, hBa2.cell⟩))
  intro x hx
  obtain rfl : u2 = x := hx.symm
  clear hap
  have hS0 : u2.cell? ⟨tg, 3, none⟩ = some s1 ∧ ∀ i, u2.cell? ⟨w.heap.size, i, none⟩ = (#[.int .u8 k, .bool c, .bool p, .int .u8 t, .int .u8 f] : Array Value)[i]? := ⟨hBt2.cell 3, hBa2.cell⟩
  (with_reducible apply late_v 15)
  (focus rfl)
  (focus kernel_rfl)
  (focus kernel_rfl)
  (focus kernel_rfl)
  (focus kernel_rfl)
  (focus kernel_rfl)
  (focus rfl)
  (focus exact fun _ _ _ h => h)
  (focus (first | exact wanted_none rfl | exact wanted_yes rfl rfl rfl))
  (focus (intro w' hS; obtain ⟨hc_s, hc_a⟩ := HS _ hS; simp [go_sem, valAt, ↓IntWalk.iteOmega, *]; (try go_ints); (with_reducible exact valUpon_val)))
  (focus exact hS0)
  (focus (first|(apply put_some rfl;focus (conv=>lhs;dsimp only [Xr,Xs])<;>rfl)|exact put_none rfl))
  refine late_all (rs := [16]) (by kernel_rfl) (by simp) ?_
  refine List.forall_mem_cons.2 ⟨?_, by intro _ h; cases h⟩
  (with_reducible apply late_e (fun w' => Blk w' tg 45 #[p0, p1, s0, .slice ao n' cap'] ∧ u2.grownBy w' (some tg)))
  (focus rfl)
  (focus (first | exact wanted_none rfl | exact wanted_yes rfl rfl rfl))
  (focus (have hct := hBt2.cell; have hft := hBt2.frozen; simp [go_sem, effAt, *]; exact ⟨rfl, by simpa using hBt2.set_ 3 _, grown_set (World.grownBy.refl _ _)⟩))
  (focus (first|(apply put_some rfl;focus (conv=>lhs;dsimp only [Xr,Xs])<;>rfl)|exact put_none rfl))
  (focus exact fun w' h => .inl rfl)
  rintro u3 ⟨hB3, hg3⟩
  (with_reducible apply late_done)
  (focus kernel_rfl)
  repeat (first|(with_reducible apply Xa)|((with_reducible apply region_k);intro KK kk)|(with_reducible apply Xc)|((with_reducible apply seq_k);intro KK kk)|((with_reducible apply Xk);(focus first|exact wanted_none rfl|exact wanted_yes rfl rfl rfl);(focus (simp [go_sem,effAt,↓IntWalk.iteOmega, *];(try go_ints);with_reducible first|exact Xm|exact Xn));focus (first|(apply put_some rfl;focus (conv=>lhs;dsimp only [Xr,Xs])<;>rfl)|exact put_none rfl))|((with_reducible apply Xl);(focus first|exact wanted_no rfl rfl rfl|exact wanted_undef rfl rfl rfl);focus (first|(apply put_some rfl;focus (conv=>lhs;dsimp only [Xr,Xs])<;>rfl)|exact put_none rfl))|(with_reducible first|apply Xe|apply Xf|apply Xg|apply Xh)|((with_reducible apply Xi);focus first|rfl|(simp [go_sem, *];done))|((with_reducible apply Xj);focus first|rfl|(simp [go_sem, *];done))|(simp only [Exit.then,Exit.inBlock,↓reduceIte,Nat.reduceEqDiff])|((with_reducible apply kf_out);focus assumption))
  refine bodyPost_end (results_none rfl _ _ _) rfl ⟨rfl, _, hB3, hQ2.kept hg3 (fun j hj e => by injection e with e; subst e; rcases hbk _ hj with h | h; exact HNE.out h; omega), F3.trans (Turn.of_grown hg3 (.inl rfl)), fun j hj => by rcases hbk _ hj with h | h; exact .inl h; exact .inr (by omega)⟩
set_option maxRecDepth 100000 in
set_option maxHeartbeats 4000000 in
theorem said_1 (tg : Nat) (p0 p1 s0 s1 : Value) (k : Int) (c p : Bool) (t f : Int) (q : List AT) (B : Nat) (w : World) (hB_t : Blk w tg 45 #[p0, p1, s0, s1]) (hQ : QR w B s0 q) (hB : B ≤ w.heap.size) (hq : q.length ≤ 1000) (hne : blkOf s0 ≠ some tg) (hk : (k != 0) = true) :
    Calls Try.prog 17 #[.pointer (some ⟨tg, 0, none⟩), .int .i64 1, actV k c p t f] w (Ret (.tuple #[]) fun w' => ∃ sv, Blk w' tg 45 #[p0, p1, sv, s1] ∧ QR w' B sv (q ++ [(k, c, p, t, f)]) ∧ Turn (fun i => i = tg ∨ blkOf s0 = some i ∨ w.heap.size ≤ i) w w' ∧ (∀ j, blkOf sv = some j → blkOf s0 = some j ∨ w.heap.size ≤ j)) := by
  have hlt := hB_t.lt
  have hQl := hQ.lt
  have HQ := Lib.hid hQ
  have HQL := Lib.hid hQl
  have HNE := Lib.hid hne
  clear hQ hQl hne
  go_enter Try.func17, Try.ntmps17
  have F0 : Below w.heap.size w w := Below.refl _ _
  have hc_t := hB_t.cell
  with_reducible apply region_k
  intro KK kk
  have lt_t_a := hB_t.lt
  ((with_reducible apply Xu); (focus rfl); (focus (simp [go_sem, effAt]; exact ⟨rfl, rfl⟩)); (focus ((first|(apply put_some rfl;focus (conv=>lhs;dsimp only [Xr,Xs])<;>rfl)|exact put_none rfl))))
  intro w1 hB_a hs
  have Fw1 := F0.trans (hs.mono F0.size)
  replace hB_t := hB_t.below hs hB_t.lt
  clear hs F0
  clear hc_t; have hc_t := hB_t.cell
  have hc_a := hB_a.cell
  repeat (first|(with_reducible apply Xa)|((with_reducible apply region_k);intro KK kk)|(with_reducible apply Xc)|((with_reducible apply seq_k);intro KK kk)|((with_reducible apply Xk);(focus first|exact wanted_none rfl|exact wanted_yes rfl rfl rfl);(focus (simp [go_sem,effAt,↓IntWalk.iteOmega, *];(try go_ints);with_reducible first|exact Xm|exact Xn));focus (first|(apply put_some rfl;focus (conv=>lhs;dsimp only [Xr,Xs])<;>rfl)|exact put_none rfl))|((with_reducible apply Xl);(focus first|exact wanted_no rfl rfl rfl|exact wanted_undef rfl rfl rfl);focus (first|(apply put_some rfl;focus (conv=>lhs;dsimp only [Xr,Xs])<;>rfl)|exact put_none rfl))|(with_reducible first|apply Xe|apply Xf|apply Xg|apply Xh)|((with_reducible apply Xi);focus first|rfl|(simp [go_sem, *];done))|((with_reducible apply Xj);focus first|rfl|(simp [go_sem, *];done))|(simp only [Exit.then,Exit.inBlock,↓reduceIte,Nat.reduceEqDiff])|((with_reducible apply kf_out);focus assumption))
  obtain ⟨u0, hu0⟩ : ∃ u0, w1.drew = u0 := ⟨_, rfl⟩
  refine late_region 17 (fun w' : World => w'.cell? ⟨tg, 2, none⟩ = some s0 ∧ ∀ i, w'.cell? ⟨w.heap.size, i, none⟩ = (#[.int .u8 k, .bool c, .bool p, .int .u8 t, .int .u8 f] : Array Value)[i]?) lateS (by kernel_rfl) (by kernel_rfl) ?_
  have HS : ∀ w' : World, (w'.cell? ⟨tg, 2, none⟩ = some s0 ∧ ∀ i, w'.cell? ⟨w.heap.size, i, none⟩ = (#[.int .u8 k, .bool c, .bool p, .int .u8 t, .int .u8 f] : Array Value)[i]?) → (w'.cell? ⟨tg, 2, none⟩ = some s0 ∧ ∀ i, w'.cell? ⟨w.heap.size, i, none⟩ = (#[.int .u8 k, .bool c, .bool p, .int .u8 t, .int .u8 f] : Array Value)[i]?) := fun _ h => h
  have hBt0 : Blk w1.drew tg 45 #[p0, p1, s0, s1] := hB_t.drew
  have hBa0 : Blk w1.drew w.heap.size 30 #[.int .u8 k, .bool c, .bool p, .int .u8 t, .int .u8 f] := hB_a.drew
  have F1 : Below w.heap.size w w1.drew := Fw1.drew
  have hQ0 : QR w1.drew B s0 q := HQ.out.below F1
  generalize w1.drew = u0' at hBt0 hBa0 F1 hQ0 ⊢
  clear hB_t hB_a hc_t hc_a hu0 u0
  have hS0 : u0'.cell? ⟨tg, 2, none⟩ = some s0 ∧ ∀ i, u0'.cell? ⟨w.heap.size, i, none⟩ = (#[.int .u8 k, .bool c, .bool p, .int .u8 t, .int .u8 f] : Array Value)[i]? := ⟨hBt0.cell 2, hBa0.cell⟩
  (with_reducible apply late_v 0)
  (focus rfl)
  (focus kernel_rfl)
  (focus kernel_rfl)
  (focus kernel_rfl)
  (focus kernel_rfl)
  (focus kernel_rfl)
  (focus rfl)
  (focus exact fun _ _ _ h => h)
  (focus (first | exact wanted_none rfl | exact wanted_yes rfl rfl rfl))
  (focus (intro w' hS; obtain ⟨hc_s, hc_a⟩ := HS _ hS; simp [go_sem, valAt, ↓IntWalk.iteOmega, *]; (try go_ints); (with_reducible exact valUpon_val)))
  (focus exact hS0)
  (focus (first|(apply put_some rfl;focus (conv=>lhs;dsimp only [Xr,Xs])<;>rfl)|exact put_none rfl))
  (with_reducible apply late_v 1)
  (focus rfl)
  (focus kernel_rfl)
  (focus kernel_rfl)
  (focus kernel_rfl)
  (focus kernel_rfl)
  (focus kernel_rfl)
  (focus rfl)
  (focus exact fun _ _ _ h => h)
  (focus (first | exact wanted_none rfl | exact wanted_yes rfl rfl rfl))
  (focus (intro w' hS; obtain ⟨hc_s, hc_a⟩ := HS _ hS; simp [go_sem, valAt, ↓IntWalk.iteOmega, *]; (try go_ints); (with_reducible exact valUpon_val)))
  (focus exact hS0)
  (focus (first|(apply put_some rfl;focus (conv=>lhs;dsimp only [Xr,Xs])<;>rfl)|exact put_none rfl))
  (with_reducible apply late_v 2)
  (focus rfl)
  (focus kernel_rfl)
  (focus kernel_rfl)
  (focus kernel_rfl)
  (focus kernel_rfl)
  (focus kernel_rfl)
  (focus rfl)
  (focus exact fun _ _ _ h => h)
  (focus (first | exact wanted_none rfl | exact wanted_yes rfl rfl rfl))
  (focus (intro w' hS; obtain ⟨hc_s, hc_a⟩ := HS _ hS; simp [go_sem, valAt, ↓IntWalk.iteOmega, *]; (try go_ints); (with_reducible exact valUpon_val)))
  (focus exact hS0)
  (focus (first|(apply put_some rfl;focus (conv=>lhs;dsimp only [Xr,Xs])<;>rfl)|exact put_none rfl))
  (with_reducible apply late_v 3)
  (focus rfl)
  (focus kernel_rfl)
  (focus kernel_rfl)
  (focus kernel_rfl)
  (focus kernel_rfl)
  (focus kernel_rfl)
  (focus rfl)
  (focus exact fun _ _ _ h => h)
  (focus (first | exact wanted_none rfl | exact wanted_yes rfl rfl rfl))
  (focus (intro w' hS; obtain ⟨hc_s, hc_a⟩ := HS _ hS; simp [go_sem, valAt, ↓IntWalk.iteOmega, *]; (try go_ints); (with_reducible exact valUpon_val)))
  (focus exact hS0)
  (focus (first|(apply put_some rfl;focus (conv=>lhs;dsimp only [Xr,Xs])<;>rfl)|exact put_none rfl))
  (with_reducible apply late_v 4)
  (focus rfl)
  (focus kernel_rfl)
  (focus kernel_rfl)
  (focus kernel_rfl)
  (focus kernel_rfl)
  (focus kernel_rfl)
  (focus rfl)
  (focus exact fun _ _ _ h => h)
  (focus (first | exact wanted_none rfl | exact wanted_yes rfl rfl rfl))
  (focus (intro w' hS; obtain ⟨hc_s, hc_a⟩ := HS _ hS; simp [go_sem, valAt, ↓IntWalk.iteOmega, *]; (try go_ints); (with_reducible exact valUpon_val)))
  (focus exact hS0)
  (focus (first|(apply put_some rfl;focus (conv=>lhs;dsimp only [Xr,Xs])<;>rfl)|exact put_none rfl))
  (with_reducible apply late_v 5)
  (focus rfl)
  (focus kernel_rfl)
  (focus kernel_rfl)
  (focus kernel_rfl)
  (focus kernel_rfl)
  (focus kernel_rfl)
  (focus rfl)
  (focus exact fun _ _ _ h => h)
  (focus (first | exact wanted_none rfl | exact wanted_yes rfl rfl rfl))
  (focus (intro w' hS; obtain ⟨hc_s, hc_a⟩ := HS _ hS; simp [go_sem, valAt, ↓IntWalk.iteOmega, *]; (try go_ints); (with_reducible exact valUpon_val)))
  (focus exact hS0)
  (focus (first|(apply put_some rfl;focus (conv=>lhs;dsimp only [Xr,Xs])<;>rfl)|exact put_none rfl))
  (with_reducible apply late_v 6)
  (focus rfl)
  (focus kernel_rfl)
  (focus kernel_rfl)
  (focus kernel_rfl)
  (focus kernel_rfl)
  (focus kernel_rfl)
  (focus rfl)
  (focus exact fun _ _ _ h => h)
  (focus (first | exact wanted_none rfl | exact wanted_yes rfl rfl rfl))
  (focus (intro w' hS; obtain ⟨hc_s, hc_a⟩ := HS _ hS; simp [go_sem, valAt, ↓IntWalk.iteOmega, *]; (try go_ints); (with_reducible exact valUpon_val)))
  (focus exact hS0)
  (focus (first|(apply put_some rfl;focus (conv=>lhs;dsimp only [Xr,Xs])<;>rfl)|exact put_none rfl))
  (with_reducible apply late_v 7)
  (focus rfl)
  (focus kernel_rfl)
  (focus kernel_rfl)
  (focus kernel_rfl)
  (focus kernel_rfl)
  (focus kernel_rfl)
  (focus rfl)
  (focus exact fun _ _ _ h => h)
  (focus (first | exact wanted_none rfl | exact wanted_yes rfl rfl rfl))
  (focus (intro w' hS; obtain ⟨hc_s, hc_a⟩ := HS _ hS; simp [go_sem, valAt, ↓IntWalk.iteOmega, *]; (try go_ints); (with_reducible exact valUpon_val)))
  (focus exact hS0)
  (focus (first|(apply put_some rfl;focus (conv=>lhs;dsimp only [Xr,Xs])<;>rfl)|exact put_none rfl))
  (with_reducible apply late_v 8)
  (focus rfl)
  (focus kernel_rfl)
  (focus kernel_rfl)
  (focus kernel_rfl)
  (focus kernel_rfl)
  (focus kernel_rfl)
  (focus rfl)
  (focus exact fun _ _ _ h => h)
  (focus (first | exact wanted_none rfl | exact wanted_yes rfl rfl rfl))
  (focus (intro w' hS; obtain ⟨hc_s, hc_a⟩ := HS _ hS; simp [go_sem, valAt, ↓IntWalk.iteOmega, *]; (try go_ints); (with_reducible exact valUpon_val)))
  (focus exact hS0)
  (focus (first|(apply put_some rfl;focus (conv=>lhs;dsimp only [Xr,Xs])<;>rfl)|exact put_none rfl))
  (with_reducible apply late_v 9)
  (focus rfl)
  (focus kernel_rfl)
  (focus kernel_rfl)
  (focus kernel_rfl)
  (focus kernel_rfl)
  (focus kernel_rfl)
  (focus rfl)
  (focus exact fun _ _ _ h => h)
  (focus (first | exact wanted_none rfl | exact wanted_yes rfl rfl rfl))
  (focus (intro w' hS; obtain ⟨hc_s, hc_a⟩ := HS _ hS; simp [go_sem, valAt, ↓IntWalk.iteOmega, *]; (try go_ints); (with_reducible exact valUpon_val)))
  (focus exact hS0)
  (focus (first|(apply put_some rfl;focus (conv=>lhs;dsimp only [Xr,Xs])<;>rfl)|exact put_none rfl))
  (with_reducible apply late_v 10)
  (focus rfl)
  (focus kernel_rfl)
  (focus kernel_rfl)
  (focus kernel_rfl)
  (focus kernel_rfl)
  (focus kernel_rfl)
  (focus rfl)
  (focus exact fun _ _ _ h => h)
  (focus (first | exact wanted_none rfl | exact wanted_yes rfl rfl rfl))
  (focus (intro w' hS; obtain ⟨hc_s, hc_a⟩ := HS _ hS; simp [go_sem, valAt, ↓IntWalk.iteOmega, *]; (try go_ints); (with_reducible exact valUpon_val)))
  (focus exact hS0)
  (focus (first|(apply put_some rfl;focus (conv=>lhs;dsimp only [Xr,Xs])<;>rfl)|exact put_none rfl))
  (with_reducible apply late_v 13)
  (focus rfl)
  (focus kernel_rfl)
  (focus kernel_rfl)
  (focus kernel_rfl)
  (focus kernel_rfl)
  (focus kernel_rfl)
  (focus rfl)
  (focus exact fun _ _ _ h => h)
  (focus (first | exact wanted_none rfl | exact wanted_yes rfl rfl rfl))
  (focus (intro w' hS; obtain ⟨hc_s, hc_a⟩ := HS _ hS; simp [go_sem, valAt, ↓IntWalk.iteOmega, *]; (try go_ints); (with_reducible exact valUpon_val)))
  (focus exact hS0)
  (focus (first|(apply put_some rfl;focus (conv=>lhs;dsimp only [Xr,Xs])<;>rfl)|exact put_none rfl))
  (with_reducible apply late_v 14)
  (focus rfl)
  (focus kernel_rfl)
  (focus kernel_rfl)
  (focus kernel_rfl)
  (focus kernel_rfl)
  (focus kernel_rfl)
  (focus rfl)
  (focus exact fun _ _ _ h => h)
  (focus (first | exact wanted_none rfl | exact wanted_yes rfl rfl rfl))
  (focus (intro w' hS; obtain ⟨hc_s, hc_a⟩ := HS _ hS; simp [go_sem, valAt, ↓IntWalk.iteOmega, *]; (try go_ints); (with_reducible exact valUpon_val)))
  (focus exact hS0)
  (focus (first|(apply put_some rfl;focus (conv=>lhs;dsimp only [Xr,Xs])<;>rfl)|exact put_none rfl))
  refine late_all (rs := [11]) (by kernel_rfl) (by simp) ?_
  refine List.forall_mem_cons.2 ⟨?_, by intro _ h; cases h⟩
  (with_reducible apply late_e (fun w' => Blk w' u0'.heap.size 30 #[.int .u8 k, .bool c, .bool p, .int .u8 t, .int .u8 f] ∧ Below u0'.heap.size u0' w'))
  (focus rfl)
  (focus (first | exact wanted_none rfl | exact wanted_yes rfl rfl rfl))
  (focus (simp [go_sem, effAt]; exact ⟨rfl, Blk.new _ _ _, (Below.refl _ _).alloc (Nat.le_refl _) _⟩))
  (focus (first|(apply put_some rfl;focus (conv=>lhs;dsimp only [Xr,Xs])<;>rfl)|exact put_none rfl))
  (focus exact fun w' h => .inr ⟨(hBt0.below h.2 hBt0.lt).cell 2, (hBa0.below h.2 hBa0.lt).cell⟩)
  rintro u1 ⟨hBs, hs⟩
  have hBt1 := hBt0.below hs hBt0.lt
  have hBa1 := hBa0.below hs hBa0.lt
  have hQ1 := hQ0.below hs
  have F2 := F1.trans (hs.mono F1.size)
  have hsz := hs.size
  have hF1s := F1.size
  have hF2s := F2.size
  clear hBt0 hBa0 hQ0 hs F1 hS0
  obtain ⟨sv, u2, hap, hQ2, hg2, hbk⟩ := app_any hQ1 (Nat.le_trans hB hF2s) (k, c, p, t, f) _ hBs hq
  obtain ⟨ao, n', cap', rfl⟩ := hQ2.shape
  have hBt2 := hBt1.grown hg2 (Ne.symm HNE.out)
  have hBa2 := hBa1.grown hg2 (fun e => by have := HQL.out _ e.symm; omega)
  have F3 : Turn (fun i => i = tg ∨ blkOf s0 = some i ∨ w.heap.size ≤ i) w u2 := (Turn.of_below F2).trans ⟨hg2.os, hg2.tape, hg2.output, hg2.size, fun i hi hn => hg2.block i hi (fun e => hn (.inr (.inl e.symm)))⟩
  have hg2s := hg2.size
  clear hQ1 hg2 hBt1 hBa1 F2
  refine late_all (rs := [12]) (by kernel_rfl) (by simp) ?_
  refine List.forall_mem_cons.2 ⟨?_, by intro _ h; cases h⟩
  (with_reducible apply late_e (· = u2))
  (focus rfl)
  (focus (first | exact wanted_none rfl | exact wanted_yes rfl rfl rfl))
  (focus exact eff_append rfl rfl rfl hap)
  (focus (first|(apply put_some rfl;focus (conv=>lhs;dsimp only [Xr,Xs])<;>rfl)|exact put_none rfl))
  (focus exact fun w' h => .inr (h ▸ ⟨hBt2.cell 2, hBa2.cell⟩))
  intro x hx
  obtain rfl : u2 = x := hx.symm
  clear hap
  have hS0 : u2.cell? ⟨tg, 2, none⟩ = some s0 ∧ ∀ i, u2.cell? ⟨w.heap.size, i, none⟩ = (#[.int .u8 k, .bool c, .bool p, .int .u8 t, .int .u8 f] : Array Value)[i]? := ⟨hBt2.cell 2, hBa2.cell⟩
  (with_reducible apply late_v 15)
  (focus rfl)
  (focus kernel_rfl)
  (focus kernel_rfl)
  (focus kernel_rfl)
  (focus kernel_rfl)
  (focus kernel_rfl)
  (focus rfl)
  (focus exact fun _ _ _ h => h)
  (focus (first | exact wanted_none rfl | exact wanted_yes rfl rfl rfl))
  (focus (intro w' hS; obtain ⟨hc_s, hc_a⟩ := HS _ hS; simp [go_sem, valAt, ↓IntWalk.iteOmega, *]; (try go_ints); (with_reducible exact valUpon_val)))
  (focus exact hS0)
  (focus (first|(apply put_some rfl;focus (conv=>lhs;dsimp only [Xr,Xs])<;>rfl)|exact put_none rfl))
  refine late_all (rs := [16]) (by kernel_rfl) (by simp) ?_
  refine List.forall_mem_cons.2 ⟨?_, by intro _ h; cases h⟩
  (with_reducible apply late_e (fun w' => Blk w' tg 45 #[p0, p1, .slice ao n' cap', s1] ∧ u2.grownBy w' (some tg)))
  (focus rfl)
  (focus (first | exact wanted_none rfl | exact wanted_yes rfl rfl rfl))
  (focus (have hct := hBt2.cell; have hft := hBt2.frozen; simp [go_sem, effAt, *]; exact ⟨rfl, by simpa using hBt2.set_ 2 _, grown_set (World.grownBy.refl _ _)⟩))
  (focus (first|(apply put_some rfl;focus (conv=>lhs;dsimp only [Xr,Xs])<;>rfl)|exact put_none rfl))
  (focus exact fun w' h => .inl rfl)
  rintro u3 ⟨hB3, hg3⟩
  (with_reducible apply late_done)
  (focus kernel_rfl)
  repeat (first|(with_reducible apply Xa)|((with_reducible apply region_k);intro KK kk)|(with_reducible apply Xc)|((with_reducible apply seq_k);intro KK kk)|((with_reducible apply Xk);(focus first|exact wanted_none rfl|exact wanted_yes rfl rfl rfl);(focus (simp [go_sem,effAt,↓IntWalk.iteOmega, *];(try go_ints);with_reducible first|exact Xm|exact Xn));focus (first|(apply put_some rfl;focus (conv=>lhs;dsimp only [Xr,Xs])<;>rfl)|exact put_none rfl))|((with_reducible apply Xl);(focus first|exact wanted_no rfl rfl rfl|exact wanted_undef rfl rfl rfl);focus (first|(apply put_some rfl;focus (conv=>lhs;dsimp only [Xr,Xs])<;>rfl)|exact put_none rfl))|(with_reducible first|apply Xe|apply Xf|apply Xg|apply Xh)|((with_reducible apply Xi);focus first|rfl|(simp [go_sem, *];done))|((with_reducible apply Xj);focus first|rfl|(simp [go_sem, *];done))|(simp only [Exit.then,Exit.inBlock,↓reduceIte,Nat.reduceEqDiff])|((with_reducible apply kf_out);focus assumption))
  refine bodyPost_end (results_none rfl _ _ _) rfl ⟨rfl, _, hB3, hQ2.kept hg3 (fun j hj e => by injection e with e; subst e; rcases hbk _ hj with h | h; exact HNE.out h; omega), F3.trans (Turn.of_grown hg3 (.inl rfl)), fun j hj => by rcases hbk _ hj with h | h; exact .inl h; exact .inr (by omega)⟩
end Go.Proofs.Ytggpecddkbceoaa
