/- The walk of LinkMeets. No condition but that the two arguments are slices of events. -/
import Derived.Test.YtggpecddkbceoaaM4
import Derived.Test.YtggpecddkbceoaaLa
import Derived.Test.YtggpecddkbceoaaKf
set_option linter.unusedSimpArgs false
set_option linter.unusedVariables false
namespace Go.Proofs.Ytggpecddkbceoaa
open Go.RowKit Go.Eff
attribute [local irreducible] Go.wpList
section
variable {W0 w w' w1 : World} {tg g0 g1 : Nat} {t : TS} {f : FuncId} {args : Array Value} {v : Value} {l : LS}
/-- what is read between the calls -/
def Sm (W0 : World) (tg g0 g1 : Nat) (w : World) : Prop := w.cell? ⟨tg, 0, none⟩ = some (.pointer (some ⟨g0, 0, none⟩)) ∧ w.cell? ⟨tg, 1, none⟩ = some (.pointer (some ⟨g1, 0, none⟩)) ∧ Below W0.heap.size W0 w
theorem Mt.s (h : Mt W0 tg g0 g1 t w) : Sm W0 tg g0 g1 w := by
  obtain ⟨s0, s1, h⟩ := h
  exact ⟨h.blk.cell 0, h.blk.cell 1, h.fr⟩
theorem Mt.drew (h : Mt W0 tg g0 g1 t w) : Mt W0 tg g0 g1 t w.drew := by
  obtain ⟨s0, s1, h⟩ := h
  exact ⟨s0, s1, h.below (Below.refl _ _).drew⟩
theorem mt_read (h : Mt W0 tg g0 g1 t w1) (hc : Calls Try.prog f args w1 (Ret v (Below w1.heap.size w1))) : Calls Try.prog f args w1 (Ret v (Mt W0 tg g0 g1 t)) := by
  obtain ⟨s0, s1, h⟩ := h
  exact hc.mono fun e w' ⟨he, h1⟩ => ⟨he, s0, s1, h.below h1⟩
theorem mt_do0 (hp : Places W0.heap.size tg g0 g1) (h : Mt W0 tg g0 g1 t w1) (hc : ∀ w, LL w g0 t.l0 → Calls Try.prog f args w (Ret v fun w' => LL w' g0 l ∧ w.grownBy w' (some g0))) : Calls Try.prog f args w1 (Ret v (Mt W0 tg g0 g1 { t with l0 := l })) := by
  obtain ⟨s0, s1, h⟩ := h
  exact (hc w1 h.l0).mono fun e w' ⟨he, h1, h2⟩ => ⟨he, s0, s1, h.hear0 hp h1 h2⟩
theorem mt_state0 (h : Mt W0 tg g0 g1 t w1) {s : Int} (hs : t.l0.s = s) : Calls Try.prog 15 #[.pointer (some ⟨g0, 0, none⟩)] w1 (Ret (.int .u8 s) (Mt W0 tg g0 g1 t)) := by
  subst hs
  obtain ⟨s0, s1, h⟩ := h
  exact mt_read ⟨s0, s1, h⟩ (state_any g0 t.l0.s t.l0.ls t.l0.tr t.l0.mo w1 h.l0)
theorem mt_open0 (hp : Places W0.heap.size tg g0 g1) (h : Mt W0 tg g0 g1 t w1) (hg : Good t.l0) {k tm f : Int} {c p : Bool} {y : LS} (he : evF t.l0 .opens = ((k, c, p, tm, f), y)) : Calls Try.prog 18 #[.pointer (some ⟨g0, 0, none⟩)] w1 (Ret (actV k c p tm f) (Mt W0 tg g0 g1 { t with l0 := y })) := by
  refine mt_do0 hp h fun w h => open_any g0 t.l0.s t.l0.ls t.l0.tr t.l0.mo w h (fun w h => ?_)
  have := ev_any g0 t.l0 hg .opens w h
  rw [he] at this
  exact this
theorem mt_close0 (hp : Places W0.heap.size tg g0 g1) (h : Mt W0 tg g0 g1 t w1) (hg : Good t.l0) {k tm f : Int} {c p : Bool} {y : LS} (he : evF t.l0 .closes = ((k, c, p, tm, f), y)) : Calls Try.prog 20 #[.pointer (some ⟨g0, 0, none⟩)] w1 (Ret (actV k c p tm f) (Mt W0 tg g0 g1 { t with l0 := y })) := by
  refine mt_do0 hp h fun w h => close_any g0 t.l0.s t.l0.ls t.l0.tr t.l0.mo w h (fun w h => ?_)
  have := ev_any g0 t.l0 hg .closes w h
  rw [he] at this
  exact this
theorem mt_do1 (hp : Places W0.heap.size tg g0 g1) (h : Mt W0 tg g0 g1 t w1) (hc : ∀ w, LL w g1 t.l1 → Calls Try.prog f args w (Ret v fun w' => LL w' g1 l ∧ w.grownBy w' (some g1))) : Calls Try.prog f args w1 (Ret v (Mt W0 tg g0 g1 { t with l1 := l })) := by
  obtain ⟨s0, s1, h⟩ := h
  exact (hc w1 h.l1).mono fun e w' ⟨he, h1, h2⟩ => ⟨he, s0, s1, h.hear1 hp h1 h2⟩
theorem mt_state1 (h : Mt W0 tg g0 g1 t w1) {s : Int} (hs : t.l1.s = s) : Calls Try.prog 15 #[.pointer (some ⟨g1, 0, none⟩)] w1 (Ret (.int .u8 s) (Mt W0 tg g0 g1 t)) := by
  subst hs
  obtain ⟨s0, s1, h⟩ := h
  exact mt_read ⟨s0, s1, h⟩ (state_any g1 t.l1.s t.l1.ls t.l1.tr t.l1.mo w1 h.l1)
theorem mt_open1 (hp : Places W0.heap.size tg g0 g1) (h : Mt W0 tg g0 g1 t w1) (hg : Good t.l1) {k tm f : Int} {c p : Bool} {y : LS} (he : evF t.l1 .opens = ((k, c, p, tm, f), y)) : Calls Try.prog 18 #[.pointer (some ⟨g1, 0, none⟩)] w1 (Ret (actV k c p tm f) (Mt W0 tg g0 g1 { t with l1 := y })) := by
  refine mt_do1 hp h fun w h => open_any g1 t.l1.s t.l1.ls t.l1.tr t.l1.mo w h (fun w h => ?_)
  have := ev_any g1 t.l1 hg .opens w h
  rw [he] at this
  exact this
theorem mt_close1 (hp : Places W0.heap.size tg g0 g1) (h : Mt W0 tg g0 g1 t w1) (hg : Good t.l1) {k tm f : Int} {c p : Bool} {y : LS} (he : evF t.l1 .closes = ((k, c, p, tm, f), y)) : Calls Try.prog 20 #[.pointer (some ⟨g1, 0, none⟩)] w1 (Ret (actV k c p tm f) (Mt W0 tg g0 g1 { t with l1 := y })) := by
  refine mt_do1 hp h fun w h => close_any g1 t.l1.s t.l1.ls t.l1.tr t.l1.mo w h (fun w h => ?_)
  have := ev_any g1 t.l1 hg .closes w h
  rw [he] at this
  exact this
theorem mt_listen1 (hp : Places W0.heap.size tg g0 g1) (h : Mt W0 tg g0 g1 t w1) : Calls Try.prog 16 #[.pointer (some ⟨g1, 0, none⟩), .bool true] w1 (Ret (.tuple #[]) (Mt W0 tg g0 g1 { t with l1 := ⟨t.l1.s, true, t.l1.tr, t.l1.mo⟩ })) :=
  mt_do1 hp h fun w h => listen_any g1 t.l1.s t.l1.ls true t.l1.tr t.l1.mo w h
theorem good_hears (h0 : Good t.l0) (h1 : Good t.l1) (side : Bool) : Good (hearsF t side).l0 ∧ Good (hearsF t side).l1 := by
  obtain ⟨l0, l1, q0, q1⟩ := t
  unfold hearsF
  cases side
  · cases q0 with
    | nil => exact ⟨h0, h1⟩
    | cons a r => simp only [Bool.false_eq_true, if_false]; rw [(said_l _ _ _).1, (said_l _ _ _).2]; exact ⟨good_hear h0 _ _ _, h1⟩
  · cases q1 with
    | nil => exact ⟨h0, h1⟩
    | cons a r => simp only [if_true]; rw [(said_l _ _ _).1, (said_l _ _ _).2]; exact ⟨h0, good_hear h1 _ _ _⟩
theorem good_run (first : Bool) : ∀ (n : Nat) (t : TS), Good t.l0 → Good t.l1 → Good (runF first n t).l0 ∧ Good (runF first n t).l1
  | 0, t, h0, h1 => ⟨h0, h1⟩
  | n + 1, t, h0, h1 => by
    show Good (if stopF first t = true then t else runF first n (hearsF t (sideF first t))).l0 ∧ Good (if stopF first t = true then t else runF first n (hearsF t (sideF first t))).l1
    split
    · exact ⟨h0, h1⟩
    · exact good_run first n _ (good_hears h0 h1 _).1 (good_hears h0 h1 _).2
end
theorem evF_ex (l : LS) (e : Ev) : ∃ k c p tm f y, evF l e = ((k, c, p, tm, f), y) := ⟨_, _, _, _, _, _, rfl⟩
theorem said_0_len (t : TS) (side : Bool) (a : AT) (n : Nat) (h0 : t.q0.length ≤ n) (h1 : t.q1.length ≤ n) : (saidF t side a).q0.length ≤ n + 1 ∧ (saidF t side a).q1.length ≤ n + 1 := by
  have := said_len t side a
  omega
set_option maxRecDepth 100000 in
set_option maxHeartbeats 8000000 in
theorem meets_any (n2 : Int) (va vb : Value) (la lb : List Cll) (both first : Bool) (w : World) (ha : Arg w va la) (hb : Arg w vb lb) :
    Calls Try.prog 4 #[.int .i64 n2, va, vb, .bool both, .bool first] w (Ret (.bool true) (Below w.heap.size w)) := by
  obtain ⟨pa, capa, rfl, hmaxa, hca⟩ := ha
  obtain ⟨pb, capb, rfl, hmaxb, hcb⟩ := hb
  obtain ⟨na, hna⟩ : ∃ n, la.length = n := ⟨_, rfl⟩
  obtain ⟨nb, hnb⟩ : ∃ n, lb.length = n := ⟨_, rfl⟩
  rw [hna] at hmaxa ⊢
  rw [hnb] at hmaxb ⊢
  have HCA := Lib.hid hca
  have HCB := Lib.hid hcb
  clear hca hcb
  by_cases hfa : (100 : Int) < (na : Int)
  case pos =>
    go_enter Try.func4, Try.ntmps4
    have F0 : Below w.heap.size w w := Below.refl _ _
    repeat (first|(with_reducible apply Xa)|((with_reducible apply region_k);intro KK kk)|(with_reducible apply Xc)|((with_reducible apply seq_k);intro KK kk)|((with_reducible apply Xk);(focus first|exact wanted_none rfl|exact wanted_yes rfl rfl rfl);(focus (simp [go_sem,effAt,↓IntWalk.iteOmega, *];(try go_ints);with_reducible first|exact Xm|exact Xn));focus (first|(apply put_some rfl;focus (conv=>lhs;dsimp only [Xr,Xs])<;>rfl)|exact put_none rfl))|((with_reducible apply Xl);(focus first|exact wanted_no rfl rfl rfl|exact wanted_undef rfl rfl rfl);focus (first|(apply put_some rfl;focus (conv=>lhs;dsimp only [Xr,Xs])<;>rfl)|exact put_none rfl))|(with_reducible first|apply Xe|apply Xf|apply Xg|apply Xh)|((with_reducible apply Xi);focus first|rfl|(simp [go_sem, *];done))|((with_reducible apply Xj);focus first|rfl|(simp [go_sem, *];done))|(simp only [Exit.then,Exit.inBlock,↓reduceIte,Nat.reduceEqDiff])|((with_reducible apply kf_out);focus assumption))
    ((with_reducible apply Xt (Below w.heap.size w)); (focus rfl); (focus (simp only [effAt]; simp [go_sem]; (with_reducible exact effUpon_enter (works_any _)))); (focus ((first|(apply put_some rfl;focus (conv=>lhs;dsimp only [Xr,Xs])<;>rfl)|exact put_none rfl))))
    intro w1 hs
    have Fw1 := F0.trans (hs.mono F0.size)
    clear hs F0
    repeat (first|(with_reducible apply Xa)|((with_reducible apply region_k);intro KK kk)|(with_reducible apply Xc)|((with_reducible apply seq_k);intro KK kk)|((with_reducible apply Xk);(focus first|exact wanted_none rfl|exact wanted_yes rfl rfl rfl);(focus (simp [go_sem,effAt,↓IntWalk.iteOmega, *];(try go_ints);with_reducible first|exact Xm|exact Xn));focus (first|(apply put_some rfl;focus (conv=>lhs;dsimp only [Xr,Xs])<;>rfl)|exact put_none rfl))|((with_reducible apply Xl);(focus first|exact wanted_no rfl rfl rfl|exact wanted_undef rfl rfl rfl);focus (first|(apply put_some rfl;focus (conv=>lhs;dsimp only [Xr,Xs])<;>rfl)|exact put_none rfl))|(with_reducible first|apply Xe|apply Xf|apply Xg|apply Xh)|((with_reducible apply Xi);focus first|rfl|(simp [go_sem, *];done))|((with_reducible apply Xj);focus first|rfl|(simp [go_sem, *];done))|(simp only [Exit.then,Exit.inBlock,↓reduceIte,Nat.reduceEqDiff])|((with_reducible apply kf_out);focus assumption))
    go_ret
    exact ⟨rfl, by assumption⟩
  by_cases hfb : (100 : Int) < (nb : Int)
  case pos =>
    go_enter Try.func4, Try.ntmps4
    have F0 : Below w.heap.size w w := Below.refl _ _
    repeat (first|(with_reducible apply Xa)|((with_reducible apply region_k);intro KK kk)|(with_reducible apply Xc)|((with_reducible apply seq_k);intro KK kk)|((with_reducible apply Xk);(focus first|exact wanted_none rfl|exact wanted_yes rfl rfl rfl);(focus (simp [go_sem,effAt,↓IntWalk.iteOmega, *];(try go_ints);with_reducible first|exact Xm|exact Xn));focus (first|(apply put_some rfl;focus (conv=>lhs;dsimp only [Xr,Xs])<;>rfl)|exact put_none rfl))|((with_reducible apply Xl);(focus first|exact wanted_no rfl rfl rfl|exact wanted_undef rfl rfl rfl);focus (first|(apply put_some rfl;focus (conv=>lhs;dsimp only [Xr,Xs])<;>rfl)|exact put_none rfl))|(with_reducible first|apply Xe|apply Xf|apply Xg|apply Xh)|((with_reducible apply Xi);focus first|rfl|(simp [go_sem, *];done))|((with_reducible apply Xj);focus first|rfl|(simp [go_sem, *];done))|(simp only [Exit.then,Exit.inBlock,↓reduceIte,Nat.reduceEqDiff])|((with_reducible apply kf_out);focus assumption))
    ((with_reducible apply Xt (Below w.heap.size w)); (focus rfl); (focus (simp only [effAt]; simp [go_sem]; (with_reducible exact effUpon_enter (works_any _)))); (focus ((first|(apply put_some rfl;focus (conv=>lhs;dsimp only [Xr,Xs])<;>rfl)|exact put_none rfl))))
    intro w2 hs
    have Fw2 := F0.trans (hs.mono F0.size)
    clear hs F0
    repeat (first|(with_reducible apply Xa)|((with_reducible apply region_k);intro KK kk)|(with_reducible apply Xc)|((with_reducible apply seq_k);intro KK kk)|((with_reducible apply Xk);(focus first|exact wanted_none rfl|exact wanted_yes rfl rfl rfl);(focus (simp [go_sem,effAt,↓IntWalk.iteOmega, *];(try go_ints);with_reducible first|exact Xm|exact Xn));focus (first|(apply put_some rfl;focus (conv=>lhs;dsimp only [Xr,Xs])<;>rfl)|exact put_none rfl))|((with_reducible apply Xl);(focus first|exact wanted_no rfl rfl rfl|exact wanted_undef rfl rfl rfl);focus (first|(apply put_some rfl;focus (conv=>lhs;dsimp only [Xr,Xs])<;>rfl)|exact put_none rfl))|(with_reducible first|apply Xe|apply Xf|apply Xg|apply Xh)|((with_reducible apply Xi);focus first|rfl|(simp [go_sem, *];done))|((with_reducible apply Xj);focus first|rfl|(simp [go_sem, *];done))|(simp only [Exit.then,Exit.inBlock,↓reduceIte,Nat.reduceEqDiff])|((with_reducible apply kf_out);focus assumption))
    go_ret
    exact ⟨rfl, by assumption⟩
  have hN1 := new_any n2
  have hgood := good_new n2
  generalize mostOf n2 = mo at *
  go_enter Try.func4, Try.ntmps4
  have F0 : Below w.heap.size w w := Below.refl _ _
  repeat (first|(with_reducible apply Xa)|((with_reducible apply region_k);intro KK kk)|(with_reducible apply Xc)|((with_reducible apply seq_k);intro KK kk)|((with_reducible apply Xk);(focus first|exact wanted_none rfl|exact wanted_yes rfl rfl rfl);(focus (simp [go_sem,effAt,↓IntWalk.iteOmega, *];(try go_ints);with_reducible first|exact Xm|exact Xn));focus (first|(apply put_some rfl;focus (conv=>lhs;dsimp only [Xr,Xs])<;>rfl)|exact put_none rfl))|((with_reducible apply Xl);(focus first|exact wanted_no rfl rfl rfl|exact wanted_undef rfl rfl rfl);focus (first|(apply put_some rfl;focus (conv=>lhs;dsimp only [Xr,Xs])<;>rfl)|exact put_none rfl))|(with_reducible first|apply Xe|apply Xf|apply Xg|apply Xh)|((with_reducible apply Xi);focus first|rfl|(simp [go_sem, *];done))|((with_reducible apply Xj);focus first|rfl|(simp [go_sem, *];done))|(simp only [Exit.then,Exit.inBlock,↓reduceIte,Nat.reduceEqDiff])|((with_reducible apply kf_out);focus assumption))
  with_reducible apply Xt (fun w' => Blk w' w.heap.size 57 #[.int .u8 1, .bool false, .int .i64 0, .int .i64 mo] ∧ Below w.heap.size w w')
  focus rfl
  focus (simp only [effAt]; simp [go_sem]; (with_reducible exact effUpon_enter (hN1 _)))
  (first|(apply put_some rfl;focus (conv=>lhs;dsimp only [Xr,Xs])<;>rfl)|exact put_none rfl)
  rintro x1 ⟨hP1, hF1⟩
  repeat (first|(with_reducible apply Xa)|((with_reducible apply region_k);intro KK kk)|(with_reducible apply Xc)|((with_reducible apply seq_k);intro KK kk)|((with_reducible apply Xk);(focus first|exact wanted_none rfl|exact wanted_yes rfl rfl rfl);(focus (simp [go_sem,effAt,↓IntWalk.iteOmega, *];(try go_ints);with_reducible first|exact Xm|exact Xn));focus (first|(apply put_some rfl;focus (conv=>lhs;dsimp only [Xr,Xs])<;>rfl)|exact put_none rfl))|((with_reducible apply Xl);(focus first|exact wanted_no rfl rfl rfl|exact wanted_undef rfl rfl rfl);focus (first|(apply put_some rfl;focus (conv=>lhs;dsimp only [Xr,Xs])<;>rfl)|exact put_none rfl))|(with_reducible first|apply Xe|apply Xf|apply Xg|apply Xh)|((with_reducible apply Xi);focus first|rfl|(simp [go_sem, *];done))|((with_reducible apply Xj);focus first|rfl|(simp [go_sem, *];done))|(simp only [Exit.then,Exit.inBlock,↓reduceIte,Nat.reduceEqDiff])|((with_reducible apply kf_out);focus assumption))
  with_reducible apply Xt (fun w' => Blk w' x1.heap.size 57 #[.int .u8 1, .bool false, .int .i64 0, .int .i64 mo] ∧ Below x1.heap.size x1 w')
  focus rfl
  focus (simp only [effAt]; simp [go_sem]; (with_reducible exact effUpon_enter (hN1 _)))
  (first|(apply put_some rfl;focus (conv=>lhs;dsimp only [Xr,Xs])<;>rfl)|exact put_none rfl)
  rintro x2 ⟨hP2, hF2⟩
  have F2 := hF1.trans (hF2.mono hF1.size)
  have hB_l0 := hP1.below hF2 (Blk.lt hP1)
  have hB_l1 := hP2
  skip
  have hc_l0 := hB_l0.cell
  have hc_l1 := hB_l1.cell
  repeat (first|(with_reducible apply Xa)|((with_reducible apply region_k);intro KK kk)|(with_reducible apply Xc)|((with_reducible apply seq_k);intro KK kk)|((with_reducible apply Xk);(focus first|exact wanted_none rfl|exact wanted_yes rfl rfl rfl);(focus (simp [go_sem,effAt,↓IntWalk.iteOmega, *];(try go_ints);with_reducible first|exact Xm|exact Xn));focus (first|(apply put_some rfl;focus (conv=>lhs;dsimp only [Xr,Xs])<;>rfl)|exact put_none rfl))|((with_reducible apply Xl);(focus first|exact wanted_no rfl rfl rfl|exact wanted_undef rfl rfl rfl);focus (first|(apply put_some rfl;focus (conv=>lhs;dsimp only [Xr,Xs])<;>rfl)|exact put_none rfl))|(with_reducible first|apply Xe|apply Xf|apply Xg|apply Xh)|((with_reducible apply Xi);focus first|rfl|(simp [go_sem, *];done))|((with_reducible apply Xj);focus first|rfl|(simp [go_sem, *];done))|(simp only [Exit.then,Exit.inBlock,↓reduceIte,Nat.reduceEqDiff])|((with_reducible apply kf_out);focus assumption))
  have lt_l0_t := hB_l0.lt
  have lt_l1_t := hB_l1.lt
  ((with_reducible apply Xu); (focus rfl); (focus (simp [go_sem, effAt]; exact ⟨rfl, rfl⟩)); (focus ((first|(apply put_some rfl;focus (conv=>lhs;dsimp only [Xr,Xs])<;>rfl)|exact put_none rfl))))
  intro w3 hB_t hs
  have Fw3 := F2.trans (hs.mono F2.size)
  replace hB_l0 := hB_l0.below hs hB_l0.lt
  replace hB_l1 := hB_l1.below hs hB_l1.lt
  clear hs F2
  clear hc_l0; have hc_l0 := hB_l0.cell
  clear hc_l1; have hc_l1 := hB_l1.cell
  have hc_t := hB_t.cell
  repeat (first|(with_reducible apply Xa)|((with_reducible apply region_k);intro KK kk)|(with_reducible apply Xc)|((with_reducible apply seq_k);intro KK kk)|((with_reducible apply Xk);(focus first|exact wanted_none rfl|exact wanted_yes rfl rfl rfl);(focus (simp [go_sem,effAt,↓IntWalk.iteOmega, *];(try go_ints);with_reducible first|exact Xm|exact Xn));focus (first|(apply put_some rfl;focus (conv=>lhs;dsimp only [Xr,Xs])<;>rfl)|exact put_none rfl))|((with_reducible apply Xl);(focus first|exact wanted_no rfl rfl rfl|exact wanted_undef rfl rfl rfl);focus (first|(apply put_some rfl;focus (conv=>lhs;dsimp only [Xr,Xs])<;>rfl)|exact put_none rfl))|(with_reducible first|apply Xe|apply Xf|apply Xg|apply Xh)|((with_reducible apply Xi);focus first|rfl|(simp [go_sem, *];done))|((with_reducible apply Xj);focus first|rfl|(simp [go_sem, *];done))|(simp only [Exit.then,Exit.inBlock,↓reduceIte,Nat.reduceEqDiff])|((with_reducible apply kf_out);focus assumption))
  obtain ⟨g0, g1, tg, hp, hM, e0, e1, e2⟩ : ∃ g0 g1 tg, Places w.heap.size tg g0 g1 ∧ Mt w tg g0 g1 ⟨⟨1, false, 0, mo⟩, ⟨1, false, 0, mo⟩, [], []⟩ w3 ∧ g0 = w.heap.size ∧ g1 = x1.heap.size ∧ tg = x2.heap.size := by
    have a1 := Blk.lt hP1
    have a2 := Blk.lt hP2
    have a3 := hF1.size
    have a4 := hF2.size
    exact ⟨_, _, _, ⟨by omega, by omega, by omega, by omega, by omega, by omega⟩, ⟨.slice none 0 0, .slice none 0 0, hB_t, hB_l0, hB_l1, .inl ⟨rfl, rfl⟩, .inl ⟨rfl, rfl⟩, (fun k hk => by cases hk), (fun k hk => by cases hk), (fun k hk => by cases hk), by assumption⟩, rfl, rfl, rfl⟩
  rw [← e0, ← e1, ← e2]
  clear e0 e1 e2 hP1 hP2 hF1 hF2 hB_l0 hB_l1 hB_t hc_l0 hc_l1 hc_t Fw3 hN1 lt_l0_t lt_l1_t
  go_loopg [12] na (fun q v12 wr => ∃ (i : Nat) (x : LS), v12 = .int .i64 (i : Int) ∧ i + q = na ∧ Good x ∧ Mt w tg g0 g1 ⟨x, ⟨1, false, 0, mo⟩, [], []⟩ wr)
  case atStart => exact ⟨0, _, rfl, by omega, hgood, hM⟩
  case round =>
    rename_i J K hJ hK
    clear hM
    obtain ⟨i, x, rfl, hi, hgoodx, hM⟩ := hrel
    by_cases hlt : i < na
    case pos =>
      obtain ⟨c, hce⟩ : ∃ c, la[i]? = some c := ⟨_, List.getElem?_eq_getElem (by omega)⟩
      obtain ⟨a, ga, o, rfl, hao, hlta, c0, c1, c2, c3, hk0⟩ := HCA.out i c hce
      clear hce
      obtain ⟨kd, fr, pf, cmd⟩ := c
      dsimp only at c0 c1 c2 c3 hk0
      have hD1 := fun w1 (hM : Mt w tg g0 g1 ⟨x, ⟨1, false, 0, mo⟩, [], []⟩ w1) => mt_do0 hp hM (fun w h => ldo_any g0 x hgoodx kd fr pf cmd hk0 w h)
      have hgood2 := good_do hgoodx (kd % 6) fr pf cmd
      generalize doF x (kd % 6) fr pf cmd = y at hD1 hgood2
      obtain ⟨⟨k1, cc1, p1, t1, f1⟩, x2⟩ := y
      dsimp only at hD1 hgood2
      clear hgoodx hk0
      have hPRE : ∀ w', Below w.heap.size w w' → w'.cell? ⟨ga, o, none⟩ = some (.int .i64 kd) ∧ w'.cell? ⟨ga, o + 1, none⟩ = some (.int .u8 fr) ∧ w'.cell? ⟨ga, o + 2, none⟩ = some (.bool pf) ∧ w'.cell? ⟨ga, o + 3, none⟩ = some (.bool cmd) :=
        fun w' hS => ⟨(hS.cell (p := ⟨ga, o, none⟩) hlta).trans c0, (hS.cell (p := ⟨ga, o + 1, none⟩) hlta).trans c1, (hS.cell (p := ⟨ga, o + 2, none⟩) hlta).trans c2, (hS.cell (p := ⟨ga, o + 3, none⟩) hlta).trans c3⟩
      have HP := Lib.hid hPRE
      clear hPRE c0 c1 c2 c3
      have Fwr : Below wr.heap.size wr wr := Below.refl _ _
      repeat (first|(with_reducible apply Xa)|((with_reducible apply region_k);intro KK kk)|(with_reducible apply Xc)|((with_reducible apply seq_k);intro KK kk)|((with_reducible apply Xk);(focus first|exact wanted_none rfl|exact wanted_yes rfl rfl rfl);(focus (simp [go_sem,effAt,↓IntWalk.iteOmega, *];(try go_ints);with_reducible first|exact Xm|exact Xn));focus (first|(apply put_some rfl;focus (conv=>lhs;dsimp only [Xr,Xs])<;>rfl)|exact put_none rfl))|((with_reducible apply Xl);(focus first|exact wanted_no rfl rfl rfl|exact wanted_undef rfl rfl rfl);focus (first|(apply put_some rfl;focus (conv=>lhs;dsimp only [Xr,Xs])<;>rfl)|exact put_none rfl))|(with_reducible first|apply Xe|apply Xf|apply Xg|apply Xh)|((with_reducible apply Xi);focus first|rfl|(simp [go_sem, *];done))|((with_reducible apply Xj);focus first|rfl|(simp [go_sem, *];done))|(simp only [Exit.then,Exit.inBlock,↓reduceIte,Nat.reduceEqDiff])|((with_reducible apply kf_out);focus assumption))
      refine wp_region_eff (S := Sm w tg g0 g1) (I := Mt w tg g0 g1 ⟨x, ⟨1, false, 0, mo⟩, [], []⟩) (E := fun i => [9].contains i) (by kernel_rfl) (by kernel_rfl) hM.drew (fun _ h => h.s) ?_
      repeat (first | ((with_reducible apply lex_q); (focus (first | exact wanted_none rfl | exact wanted_yes rfl rfl rfl)); (focus rfl); (focus (intro w' hS; obtain ⟨hs0, hs1, hsb⟩ := hS; obtain ⟨c0, c1, c2, c3⟩ := HP.out _ hsb; simp [go_sem, effAt, ↓IntWalk.iteOmega, *]; (try go_ints); (with_reducible first|exact Xm|exact Xn))); (focus ((first|(apply put_some rfl;focus (conv=>lhs;dsimp only [Xr,Xs])<;>rfl)|exact put_none rfl)))) | ((with_reducible apply lex_s); (focus (first | exact wanted_no rfl rfl rfl | exact wanted_undef rfl rfl rfl)); (focus ((first|(apply put_some rfl;focus (conv=>lhs;dsimp only [Xr,Xs])<;>rfl)|exact put_none rfl)))))
      (with_reducible apply lex_e (Mt w tg g0 g1 ⟨x2, ⟨1, false, 0, mo⟩, [], []⟩))
      (focus (first | exact wanted_none rfl | exact wanted_yes rfl rfl rfl))
      (focus rfl)
      (focus (intro w' hS; simp only [effAt]; simp [go_sem]; (with_reducible exact effUpon_enter (hD1 _ hS))))
      (focus exact fun _ h => h.s)
      (focus (first|(apply put_some rfl;focus (conv=>lhs;dsimp only [Xr,Xs])<;>rfl)|exact put_none rfl))
      with_reducible apply lex_nil
      intro u1 hM1
      repeat (first|(with_reducible apply Xa)|((with_reducible apply region_k);intro KK kk)|(with_reducible apply Xc)|((with_reducible apply seq_k);intro KK kk)|((with_reducible apply Xk);(focus first|exact wanted_none rfl|exact wanted_yes rfl rfl rfl);(focus (simp [go_sem,effAt,↓IntWalk.iteOmega, *];(try go_ints);with_reducible first|exact Xm|exact Xn));focus (first|(apply put_some rfl;focus (conv=>lhs;dsimp only [Xr,Xs])<;>rfl)|exact put_none rfl))|((with_reducible apply Xl);(focus first|exact wanted_no rfl rfl rfl|exact wanted_undef rfl rfl rfl);focus (first|(apply put_some rfl;focus (conv=>lhs;dsimp only [Xr,Xs])<;>rfl)|exact put_none rfl))|(with_reducible first|apply Xe|apply Xf|apply Xg|apply Xh)|((with_reducible apply Xi);focus first|rfl|(simp [go_sem, *];done))|((with_reducible apply Xj);focus first|rfl|(simp [go_sem, *];done))|(simp only [Exit.then,Exit.inBlock,↓reduceIte,Nat.reduceEqDiff])|((with_reducible apply kf_out);focus assumption))
      refine hK _ _ (Handed.intro (gk - 1) ?measure (hJ _ _ _ ?_))
      rotate_left
      (repeat apply Exists.intro)
      refine ⟨?rel, rfl⟩
      case rel => exact ⟨i + 1, x2, by go_num, by omega, hgood2, hM1⟩
      case measure => omega
    case neg =>
      clear hJ hK hi
      have Fwr : Below wr.heap.size wr wr := Below.refl _ _
      repeat (first|(with_reducible apply Xa)|((with_reducible apply region_k);intro KK kk)|(with_reducible apply Xc)|((with_reducible apply seq_k);intro KK kk)|((with_reducible apply Xk);(focus first|exact wanted_none rfl|exact wanted_yes rfl rfl rfl);(focus (simp [go_sem,effAt,↓IntWalk.iteOmega, *];(try go_ints);with_reducible first|exact Xm|exact Xn));focus (first|(apply put_some rfl;focus (conv=>lhs;dsimp only [Xr,Xs])<;>rfl)|exact put_none rfl))|((with_reducible apply Xl);(focus first|exact wanted_no rfl rfl rfl|exact wanted_undef rfl rfl rfl);focus (first|(apply put_some rfl;focus (conv=>lhs;dsimp only [Xr,Xs])<;>rfl)|exact put_none rfl))|(with_reducible first|apply Xe|apply Xf|apply Xg|apply Xh)|((with_reducible apply Xi);focus first|rfl|(simp [go_sem, *];done))|((with_reducible apply Xj);focus first|rfl|(simp [go_sem, *];done))|(simp only [Exit.then,Exit.inBlock,↓reduceIte,Nat.reduceEqDiff])|((with_reducible apply kf_out);focus assumption))
      obtain ⟨x0, hx0⟩ : ∃ x0, x = x0 := ⟨_, rfl⟩
      rw [hx0] at hgoodx hM
      have hgood0 := hgoodx
      clear hgoodx hlt
      go_loopg [13] nb (fun q v13 wr => ∃ (i : Nat) (x : LS), v13 = .int .i64 (i : Int) ∧ i + q = nb ∧ Good x ∧ Mt w tg g0 g1 ⟨x0, x, [], []⟩ wr)
      case atStart => exact ⟨0, _, rfl, by omega, hgood, hM⟩
      case round =>
        rename_i J K hJ hK
        clear hM
        obtain ⟨i, x, rfl, hi, hgoodx, hM⟩ := hrel
        by_cases hlt : i < nb
        case pos =>
          obtain ⟨c, hce⟩ : ∃ c, lb[i]? = some c := ⟨_, List.getElem?_eq_getElem (by omega)⟩
          obtain ⟨a, ga, o, rfl, hao, hlta, c0, c1, c2, c3, hk0⟩ := HCB.out i c hce
          clear hce
          obtain ⟨kd, fr, pf, cmd⟩ := c
          dsimp only at c0 c1 c2 c3 hk0
          have hD1 := fun w1 (hM : Mt w tg g0 g1 ⟨x0, x, [], []⟩ w1) => mt_do1 hp hM (fun w h => ldo_any g1 x hgoodx kd fr pf cmd hk0 w h)
          have hgood2 := good_do hgoodx (kd % 6) fr pf cmd
          generalize doF x (kd % 6) fr pf cmd = y at hD1 hgood2
          obtain ⟨⟨k1, cc1, p1, t1, f1⟩, x2⟩ := y
          dsimp only at hD1 hgood2
          clear hgoodx hk0
          have hPRE : ∀ w', Below w.heap.size w w' → w'.cell? ⟨ga, o, none⟩ = some (.int .i64 kd) ∧ w'.cell? ⟨ga, o + 1, none⟩ = some (.int .u8 fr) ∧ w'.cell? ⟨ga, o + 2, none⟩ = some (.bool pf) ∧ w'.cell? ⟨ga, o + 3, none⟩ = some (.bool cmd) :=
            fun w' hS => ⟨(hS.cell (p := ⟨ga, o, none⟩) hlta).trans c0, (hS.cell (p := ⟨ga, o + 1, none⟩) hlta).trans c1, (hS.cell (p := ⟨ga, o + 2, none⟩) hlta).trans c2, (hS.cell (p := ⟨ga, o + 3, none⟩) hlta).trans c3⟩
          have HP := Lib.hid hPRE
          clear hPRE c0 c1 c2 c3
          have Fwr : Below wr.heap.size wr wr := Below.refl _ _
          repeat (first|(with_reducible apply Xa)|((with_reducible apply region_k);intro KK kk)|(with_reducible apply Xc)|((with_reducible apply seq_k);intro KK kk)|((with_reducible apply Xk);(focus first|exact wanted_none rfl|exact wanted_yes rfl rfl rfl);(focus (simp [go_sem,effAt,↓IntWalk.iteOmega, *];(try go_ints);with_reducible first|exact Xm|exact Xn));focus (first|(apply put_some rfl;focus (conv=>lhs;dsimp only [Xr,Xs])<;>rfl)|exact put_none rfl))|((with_reducible apply Xl);(focus first|exact wanted_no rfl rfl rfl|exact wanted_undef rfl rfl rfl);focus (first|(apply put_some rfl;focus (conv=>lhs;dsimp only [Xr,Xs])<;>rfl)|exact put_none rfl))|(with_reducible first|apply Xe|apply Xf|apply Xg|apply Xh)|((with_reducible apply Xi);focus first|rfl|(simp [go_sem, *];done))|((with_reducible apply Xj);focus first|rfl|(simp [go_sem, *];done))|(simp only [Exit.then,Exit.inBlock,↓reduceIte,Nat.reduceEqDiff])|((with_reducible apply kf_out);focus assumption))
          refine wp_region_eff (S := Sm w tg g0 g1) (I := Mt w tg g0 g1 ⟨x0, x, [], []⟩) (E := fun i => [9].contains i) (by kernel_rfl) (by kernel_rfl) hM.drew (fun _ h => h.s) ?_
          repeat (first | ((with_reducible apply lex_q); (focus (first | exact wanted_none rfl | exact wanted_yes rfl rfl rfl)); (focus rfl); (focus (intro w' hS; obtain ⟨hs0, hs1, hsb⟩ := hS; obtain ⟨c0, c1, c2, c3⟩ := HP.out _ hsb; simp [go_sem, effAt, ↓IntWalk.iteOmega, *]; (try go_ints); (with_reducible first|exact Xm|exact Xn))); (focus ((first|(apply put_some rfl;focus (conv=>lhs;dsimp only [Xr,Xs])<;>rfl)|exact put_none rfl)))) | ((with_reducible apply lex_s); (focus (first | exact wanted_no rfl rfl rfl | exact wanted_undef rfl rfl rfl)); (focus ((first|(apply put_some rfl;focus (conv=>lhs;dsimp only [Xr,Xs])<;>rfl)|exact put_none rfl)))))
          (with_reducible apply lex_e (Mt w tg g0 g1 ⟨x0, x2, [], []⟩))
          (focus (first | exact wanted_none rfl | exact wanted_yes rfl rfl rfl))
          (focus rfl)
          (focus (intro w' hS; simp only [effAt]; simp [go_sem]; (with_reducible exact effUpon_enter (hD1 _ hS))))
          (focus exact fun _ h => h.s)
          (focus (first|(apply put_some rfl;focus (conv=>lhs;dsimp only [Xr,Xs])<;>rfl)|exact put_none rfl))
          with_reducible apply lex_nil
          intro u1 hM1
          repeat (first|(with_reducible apply Xa)|((with_reducible apply region_k);intro KK kk)|(with_reducible apply Xc)|((with_reducible apply seq_k);intro KK kk)|((with_reducible apply Xk);(focus first|exact wanted_none rfl|exact wanted_yes rfl rfl rfl);(focus (simp [go_sem,effAt,↓IntWalk.iteOmega, *];(try go_ints);with_reducible first|exact Xm|exact Xn));focus (first|(apply put_some rfl;focus (conv=>lhs;dsimp only [Xr,Xs])<;>rfl)|exact put_none rfl))|((with_reducible apply Xl);(focus first|exact wanted_no rfl rfl rfl|exact wanted_undef rfl rfl rfl);focus (first|(apply put_some rfl;focus (conv=>lhs;dsimp only [Xr,Xs])<;>rfl)|exact put_none rfl))|(with_reducible first|apply Xe|apply Xf|apply Xg|apply Xh)|((with_reducible apply Xi);focus first|rfl|(simp [go_sem, *];done))|((with_reducible apply Xj);focus first|rfl|(simp [go_sem, *];done))|(simp only [Exit.then,Exit.inBlock,↓reduceIte,Nat.reduceEqDiff])|((with_reducible apply kf_out);focus assumption))
          refine hK _ _ (Handed.intro (gk - 1) ?measure (hJ _ _ _ ?_))
          rotate_left
          (repeat apply Exists.intro)
          refine ⟨?rel, rfl⟩
          case rel => exact ⟨i + 1, x2, by go_num, by omega, hgood2, hM1⟩
          case measure => omega
        case neg =>
          clear hJ hK hi
          have Fwr : Below wr.heap.size wr wr := Below.refl _ _
          repeat (first|(with_reducible apply Xa)|((with_reducible apply region_k);intro KK kk)|(with_reducible apply Xc)|((with_reducible apply seq_k);intro KK kk)|((with_reducible apply Xk);(focus first|exact wanted_none rfl|exact wanted_yes rfl rfl rfl);(focus (simp [go_sem,effAt,↓IntWalk.iteOmega, *];(try go_ints);with_reducible first|exact Xm|exact Xn));focus (first|(apply put_some rfl;focus (conv=>lhs;dsimp only [Xr,Xs])<;>rfl)|exact put_none rfl))|((with_reducible apply Xl);(focus first|exact wanted_no rfl rfl rfl|exact wanted_undef rfl rfl rfl);focus (first|(apply put_some rfl;focus (conv=>lhs;dsimp only [Xr,Xs])<;>rfl)|exact put_none rfl))|(with_reducible first|apply Xe|apply Xf|apply Xg|apply Xh)|((with_reducible apply Xi);focus first|rfl|(simp [go_sem, *];done))|((with_reducible apply Xj);focus first|rfl|(simp [go_sem, *];done))|(simp only [Exit.then,Exit.inBlock,↓reduceIte,Nat.reduceEqDiff])|((with_reducible apply kf_out);focus assumption))
          obtain ⟨x1, hx1⟩ : ∃ x1, x = x1 := ⟨_, rfl⟩
          rw [hx1] at hgoodx hM
          have hgood1 := hgoodx
          clear hgoodx hlt
          go_loopg [14, 15] 2 (fun q v14 v15 wr => ∃ (i : Nat), v14 = .int .i64 (i : Int) ∧ i + q = 2 ∧ (0 < i → x0.s = 1 ∨ x0.s = 5) ∧ (1 < i → x1.s = 1 ∨ x1.s = 5) ∧ Mt w tg g0 g1 ⟨x0, x1, [], []⟩ wr)
          case atStart => exact ⟨0, rfl, by omega, by omega, by omega, hM⟩
          case round =>
            rename_i J K hJ hK
            clear hM
            obtain ⟨i, rfl, hi, hd0, hd1, hM⟩ := hrel
            have HD0 := Lib.hid hd0
            have HD1 := Lib.hid hd1
            clear hd0 hd1
            rcases (by omega : i = 0 ∨ i = 1 ∨ i = 2) with rfl | rfl | rfl
            · obtain ⟨hc0, hc1, hbw⟩ := hM.s
              clear hbw
              by_cases hs : x0.s = 1 ∨ x0.s = 5
              case neg =>
                have hs1 : (x0.s != 1) = true := by simp; omega
                have hs5 : (x0.s != 5) = true := by simp; omega
                have Fwr : Below wr.heap.size wr wr := Below.refl _ _
                repeat (first|(with_reducible apply Xa)|((with_reducible apply region_k);intro KK kk)|(with_reducible apply Xc)|((with_reducible apply seq_k);intro KK kk)|((with_reducible apply Xk);(focus first|exact wanted_none rfl|exact wanted_yes rfl rfl rfl);(focus (simp [go_sem,effAt,↓IntWalk.iteOmega, *];(try go_ints);with_reducible first|exact Xm|exact Xn));focus (first|(apply put_some rfl;focus (conv=>lhs;dsimp only [Xr,Xs])<;>rfl)|exact put_none rfl))|((with_reducible apply Xl);(focus first|exact wanted_no rfl rfl rfl|exact wanted_undef rfl rfl rfl);focus (first|(apply put_some rfl;focus (conv=>lhs;dsimp only [Xr,Xs])<;>rfl)|exact put_none rfl))|(with_reducible first|apply Xe|apply Xf|apply Xg|apply Xh)|((with_reducible apply Xi);focus first|rfl|(simp [go_sem, *];done))|((with_reducible apply Xj);focus first|rfl|(simp [go_sem, *];done))|(simp only [Exit.then,Exit.inBlock,↓reduceIte,Nat.reduceEqDiff])|((with_reducible apply kf_out);focus assumption))
                with_reducible apply Xt (Mt w tg g0 g1 ⟨x0, x1, [], []⟩)
                (focus (first | exact wanted_none rfl | exact wanted_yes rfl rfl rfl))
                focus (simp only [effAt]; simp [go_sem]; (with_reducible exact effUpon_enter (mt_state0 hM (s := x0.s) rfl)))
                (focus (first|(apply put_some rfl;focus (conv=>lhs;dsimp only [Xr,Xs])<;>rfl)|exact put_none rfl))
                intro u hM
                clear hc0 hc1
                have Fu : Below u.heap.size u u := Below.refl _ _
                repeat (first|(with_reducible apply Xa)|((with_reducible apply region_k);intro KK kk)|(with_reducible apply Xc)|((with_reducible apply seq_k);intro KK kk)|((with_reducible apply Xk);(focus first|exact wanted_none rfl|exact wanted_yes rfl rfl rfl);(focus (simp [go_sem,effAt,↓IntWalk.iteOmega, *];(try go_ints);with_reducible first|exact Xm|exact Xn));focus (first|(apply put_some rfl;focus (conv=>lhs;dsimp only [Xr,Xs])<;>rfl)|exact put_none rfl))|((with_reducible apply Xl);(focus first|exact wanted_no rfl rfl rfl|exact wanted_undef rfl rfl rfl);focus (first|(apply put_some rfl;focus (conv=>lhs;dsimp only [Xr,Xs])<;>rfl)|exact put_none rfl))|(with_reducible first|apply Xe|apply Xf|apply Xg|apply Xh)|((with_reducible apply Xi);focus first|rfl|(simp [go_sem, *];done))|((with_reducible apply Xj);focus first|rfl|(simp [go_sem, *];done))|(simp only [Exit.then,Exit.inBlock,↓reduceIte,Nat.reduceEqDiff])|((with_reducible apply kf_out);focus assumption))
                ((with_reducible apply Xt (Below u.heap.size u)); (focus rfl); (focus (simp only [effAt]; simp [go_sem]; (with_reducible exact effUpon_enter (works_any _)))); (focus ((first|(apply put_some rfl;focus (conv=>lhs;dsimp only [Xr,Xs])<;>rfl)|exact put_none rfl))))
                intro w4 hs
                have Fw4 := Fu.trans (hs.mono Fu.size)
                clear hs Fu
                repeat (first|(with_reducible apply Xa)|((with_reducible apply region_k);intro KK kk)|(with_reducible apply Xc)|((with_reducible apply seq_k);intro KK kk)|((with_reducible apply Xk);(focus first|exact wanted_none rfl|exact wanted_yes rfl rfl rfl);(focus (simp [go_sem,effAt,↓IntWalk.iteOmega, *];(try go_ints);with_reducible first|exact Xm|exact Xn));focus (first|(apply put_some rfl;focus (conv=>lhs;dsimp only [Xr,Xs])<;>rfl)|exact put_none rfl))|((with_reducible apply Xl);(focus first|exact wanted_no rfl rfl rfl|exact wanted_undef rfl rfl rfl);focus (first|(apply put_some rfl;focus (conv=>lhs;dsimp only [Xr,Xs])<;>rfl)|exact put_none rfl))|(with_reducible first|apply Xe|apply Xf|apply Xg|apply Xh)|((with_reducible apply Xi);focus first|rfl|(simp [go_sem, *];done))|((with_reducible apply Xj);focus first|rfl|(simp [go_sem, *];done))|(simp only [Exit.then,Exit.inBlock,↓reduceIte,Nat.reduceEqDiff])|((with_reducible apply kf_out);focus assumption))
                go_ret
                exact ⟨rfl, hM.s.2.2.trans (Below.mono (by assumption) hM.s.2.2.size)⟩
              case pos =>
                have hS := hs
                obtain ⟨sv, hsv⟩ : ∃ s, x0.s = s := ⟨_, rfl⟩
                rw [hsv] at hs
                have HSV := Lib.hid hsv
                have HSS := Lib.hid hS
                clear hsv hS
                rcases hs with rfl | rfl
                · have Fwr : Below wr.heap.size wr wr := Below.refl _ _
                  repeat (first|(with_reducible apply Xa)|((with_reducible apply region_k);intro KK kk)|(with_reducible apply Xc)|((with_reducible apply seq_k);intro KK kk)|((with_reducible apply Xk);(focus first|exact wanted_none rfl|exact wanted_yes rfl rfl rfl);(focus (simp [go_sem,effAt,↓IntWalk.iteOmega, *];(try go_ints);with_reducible first|exact Xm|exact Xn));focus (first|(apply put_some rfl;focus (conv=>lhs;dsimp only [Xr,Xs])<;>rfl)|exact put_none rfl))|((with_reducible apply Xl);(focus first|exact wanted_no rfl rfl rfl|exact wanted_undef rfl rfl rfl);focus (first|(apply put_some rfl;focus (conv=>lhs;dsimp only [Xr,Xs])<;>rfl)|exact put_none rfl))|(with_reducible first|apply Xe|apply Xf|apply Xg|apply Xh)|((with_reducible apply Xi);focus first|rfl|(simp [go_sem, *];done))|((with_reducible apply Xj);focus first|rfl|(simp [go_sem, *];done))|(simp only [Exit.then,Exit.inBlock,↓reduceIte,Nat.reduceEqDiff])|((with_reducible apply kf_out);focus assumption))
                  with_reducible apply Xt (Mt w tg g0 g1 ⟨x0, x1, [], []⟩)
                  (focus (first | exact wanted_none rfl | exact wanted_yes rfl rfl rfl))
                  focus (simp only [effAt]; simp [go_sem]; (with_reducible exact effUpon_enter (mt_state0 hM (s := 1) HSV.out)))
                  (focus (first|(apply put_some rfl;focus (conv=>lhs;dsimp only [Xr,Xs])<;>rfl)|exact put_none rfl))
                  intro u hM
                  clear hc0 hc1
                  have Fu : Below u.heap.size u u := Below.refl _ _
                  repeat (first|(with_reducible apply Xa)|((with_reducible apply region_k);intro KK kk)|(with_reducible apply Xc)|((with_reducible apply seq_k);intro KK kk)|((with_reducible apply Xk);(focus first|exact wanted_none rfl|exact wanted_yes rfl rfl rfl);(focus (simp [go_sem,effAt,↓IntWalk.iteOmega, *];(try go_ints);with_reducible first|exact Xm|exact Xn));focus (first|(apply put_some rfl;focus (conv=>lhs;dsimp only [Xr,Xs])<;>rfl)|exact put_none rfl))|((with_reducible apply Xl);(focus first|exact wanted_no rfl rfl rfl|exact wanted_undef rfl rfl rfl);focus (first|(apply put_some rfl;focus (conv=>lhs;dsimp only [Xr,Xs])<;>rfl)|exact put_none rfl))|(with_reducible first|apply Xe|apply Xf|apply Xg|apply Xh)|((with_reducible apply Xi);focus first|rfl|(simp [go_sem, *];done))|((with_reducible apply Xj);focus first|rfl|(simp [go_sem, *];done))|(simp only [Exit.then,Exit.inBlock,↓reduceIte,Nat.reduceEqDiff])|((with_reducible apply kf_out);focus assumption))
                  refine hK _ _ (Handed.intro (gk - 1) ?measure (hJ _ _ _ ?_))
                  rotate_left
                  (repeat apply Exists.intro)
                  refine ⟨?rel, rfl⟩
                  case rel => exact ⟨1, by go_num, by omega, fun _ => HSS.out, by omega, hM⟩
                  case measure => omega
                · have Fwr : Below wr.heap.size wr wr := Below.refl _ _
                  repeat (first|(with_reducible apply Xa)|((with_reducible apply region_k);intro KK kk)|(with_reducible apply Xc)|((with_reducible apply seq_k);intro KK kk)|((with_reducible apply Xk);(focus first|exact wanted_none rfl|exact wanted_yes rfl rfl rfl);(focus (simp [go_sem,effAt,↓IntWalk.iteOmega, *];(try go_ints);with_reducible first|exact Xm|exact Xn));focus (first|(apply put_some rfl;focus (conv=>lhs;dsimp only [Xr,Xs])<;>rfl)|exact put_none rfl))|((with_reducible apply Xl);(focus first|exact wanted_no rfl rfl rfl|exact wanted_undef rfl rfl rfl);focus (first|(apply put_some rfl;focus (conv=>lhs;dsimp only [Xr,Xs])<;>rfl)|exact put_none rfl))|(with_reducible first|apply Xe|apply Xf|apply Xg|apply Xh)|((with_reducible apply Xi);focus first|rfl|(simp [go_sem, *];done))|((with_reducible apply Xj);focus first|rfl|(simp [go_sem, *];done))|(simp only [Exit.then,Exit.inBlock,↓reduceIte,Nat.reduceEqDiff])|((with_reducible apply kf_out);focus assumption))
                  with_reducible apply Xt (Mt w tg g0 g1 ⟨x0, x1, [], []⟩)
                  (focus (first | exact wanted_none rfl | exact wanted_yes rfl rfl rfl))
                  focus (simp only [effAt]; simp [go_sem]; (with_reducible exact effUpon_enter (mt_state0 hM (s := 5) HSV.out)))
                  (focus (first|(apply put_some rfl;focus (conv=>lhs;dsimp only [Xr,Xs])<;>rfl)|exact put_none rfl))
                  intro u hM
                  clear hc0 hc1
                  have Fu : Below u.heap.size u u := Below.refl _ _
                  repeat (first|(with_reducible apply Xa)|((with_reducible apply region_k);intro KK kk)|(with_reducible apply Xc)|((with_reducible apply seq_k);intro KK kk)|((with_reducible apply Xk);(focus first|exact wanted_none rfl|exact wanted_yes rfl rfl rfl);(focus (simp [go_sem,effAt,↓IntWalk.iteOmega, *];(try go_ints);with_reducible first|exact Xm|exact Xn));focus (first|(apply put_some rfl;focus (conv=>lhs;dsimp only [Xr,Xs])<;>rfl)|exact put_none rfl))|((with_reducible apply Xl);(focus first|exact wanted_no rfl rfl rfl|exact wanted_undef rfl rfl rfl);focus (first|(apply put_some rfl;focus (conv=>lhs;dsimp only [Xr,Xs])<;>rfl)|exact put_none rfl))|(with_reducible first|apply Xe|apply Xf|apply Xg|apply Xh)|((with_reducible apply Xi);focus first|rfl|(simp [go_sem, *];done))|((with_reducible apply Xj);focus first|rfl|(simp [go_sem, *];done))|(simp only [Exit.then,Exit.inBlock,↓reduceIte,Nat.reduceEqDiff])|((with_reducible apply kf_out);focus assumption))
                  refine hK _ _ (Handed.intro (gk - 1) ?measure (hJ _ _ _ ?_))
                  rotate_left
                  (repeat apply Exists.intro)
                  refine ⟨?rel, rfl⟩
                  case rel => exact ⟨1, by go_num, by omega, fun _ => HSS.out, by omega, hM⟩
                  case measure => omega
            · obtain ⟨hc0, hc1, hbw⟩ := hM.s
              clear hbw
              by_cases hs : x1.s = 1 ∨ x1.s = 5
              case neg =>
                have hs1 : (x1.s != 1) = true := by simp; omega
                have hs5 : (x1.s != 5) = true := by simp; omega
                have Fwr : Below wr.heap.size wr wr := Below.refl _ _
                repeat (first|(with_reducible apply Xa)|((with_reducible apply region_k);intro KK kk)|(with_reducible apply Xc)|((with_reducible apply seq_k);intro KK kk)|((with_reducible apply Xk);(focus first|exact wanted_none rfl|exact wanted_yes rfl rfl rfl);(focus (simp [go_sem,effAt,↓IntWalk.iteOmega, *];(try go_ints);with_reducible first|exact Xm|exact Xn));focus (first|(apply put_some rfl;focus (conv=>lhs;dsimp only [Xr,Xs])<;>rfl)|exact put_none rfl))|((with_reducible apply Xl);(focus first|exact wanted_no rfl rfl rfl|exact wanted_undef rfl rfl rfl);focus (first|(apply put_some rfl;focus (conv=>lhs;dsimp only [Xr,Xs])<;>rfl)|exact put_none rfl))|(with_reducible first|apply Xe|apply Xf|apply Xg|apply Xh)|((with_reducible apply Xi);focus first|rfl|(simp [go_sem, *];done))|((with_reducible apply Xj);focus first|rfl|(simp [go_sem, *];done))|(simp only [Exit.then,Exit.inBlock,↓reduceIte,Nat.reduceEqDiff])|((with_reducible apply kf_out);focus assumption))
                with_reducible apply Xt (Mt w tg g0 g1 ⟨x0, x1, [], []⟩)
                (focus (first | exact wanted_none rfl | exact wanted_yes rfl rfl rfl))
                focus (simp only [effAt]; simp [go_sem]; (with_reducible exact effUpon_enter (mt_state1 hM (s := x1.s) rfl)))
                (focus (first|(apply put_some rfl;focus (conv=>lhs;dsimp only [Xr,Xs])<;>rfl)|exact put_none rfl))
                intro u hM
                clear hc0 hc1
                have Fu : Below u.heap.size u u := Below.refl _ _
                repeat (first|(with_reducible apply Xa)|((with_reducible apply region_k);intro KK kk)|(with_reducible apply Xc)|((with_reducible apply seq_k);intro KK kk)|((with_reducible apply Xk);(focus first|exact wanted_none rfl|exact wanted_yes rfl rfl rfl);(focus (simp [go_sem,effAt,↓IntWalk.iteOmega, *];(try go_ints);with_reducible first|exact Xm|exact Xn));focus (first|(apply put_some rfl;focus (conv=>lhs;dsimp only [Xr,Xs])<;>rfl)|exact put_none rfl))|((with_reducible apply Xl);(focus first|exact wanted_no rfl rfl rfl|exact wanted_undef rfl rfl rfl);focus (first|(apply put_some rfl;focus (conv=>lhs;dsimp only [Xr,Xs])<;>rfl)|exact put_none rfl))|(with_reducible first|apply Xe|apply Xf|apply Xg|apply Xh)|((with_reducible apply Xi);focus first|rfl|(simp [go_sem, *];done))|((with_reducible apply Xj);focus first|rfl|(simp [go_sem, *];done))|(simp only [Exit.then,Exit.inBlock,↓reduceIte,Nat.reduceEqDiff])|((with_reducible apply kf_out);focus assumption))
                ((with_reducible apply Xt (Below u.heap.size u)); (focus rfl); (focus (simp only [effAt]; simp [go_sem]; (with_reducible exact effUpon_enter (works_any _)))); (focus ((first|(apply put_some rfl;focus (conv=>lhs;dsimp only [Xr,Xs])<;>rfl)|exact put_none rfl))))
                intro w5 hs
                have Fw5 := Fu.trans (hs.mono Fu.size)
                clear hs Fu
                repeat (first|(with_reducible apply Xa)|((with_reducible apply region_k);intro KK kk)|(with_reducible apply Xc)|((with_reducible apply seq_k);intro KK kk)|((with_reducible apply Xk);(focus first|exact wanted_none rfl|exact wanted_yes rfl rfl rfl);(focus (simp [go_sem,effAt,↓IntWalk.iteOmega, *];(try go_ints);with_reducible first|exact Xm|exact Xn));focus (first|(apply put_some rfl;focus (conv=>lhs;dsimp only [Xr,Xs])<;>rfl)|exact put_none rfl))|((with_reducible apply Xl);(focus first|exact wanted_no rfl rfl rfl|exact wanted_undef rfl rfl rfl);focus (first|(apply put_some rfl;focus (conv=>lhs;dsimp only [Xr,Xs])<;>rfl)|exact put_none rfl))|(with_reducible first|apply Xe|apply Xf|apply Xg|apply Xh)|((with_reducible apply Xi);focus first|rfl|(simp [go_sem, *];done))|((with_reducible apply Xj);focus first|rfl|(simp [go_sem, *];done))|(simp only [Exit.then,Exit.inBlock,↓reduceIte,Nat.reduceEqDiff])|((with_reducible apply kf_out);focus assumption))
                go_ret
                exact ⟨rfl, hM.s.2.2.trans (Below.mono (by assumption) hM.s.2.2.size)⟩
              case pos =>
                have hS := hs
                obtain ⟨sv, hsv⟩ : ∃ s, x1.s = s := ⟨_, rfl⟩
                rw [hsv] at hs
                have HSV := Lib.hid hsv
                have HSS := Lib.hid hS
                clear hsv hS
                rcases hs with rfl | rfl
                · have Fwr : Below wr.heap.size wr wr := Below.refl _ _
                  repeat (first|(with_reducible apply Xa)|((with_reducible apply region_k);intro KK kk)|(with_reducible apply Xc)|((with_reducible apply seq_k);intro KK kk)|((with_reducible apply Xk);(focus first|exact wanted_none rfl|exact wanted_yes rfl rfl rfl);(focus (simp [go_sem,effAt,↓IntWalk.iteOmega, *];(try go_ints);with_reducible first|exact Xm|exact Xn));focus (first|(apply put_some rfl;focus (conv=>lhs;dsimp only [Xr,Xs])<;>rfl)|exact put_none rfl))|((with_reducible apply Xl);(focus first|exact wanted_no rfl rfl rfl|exact wanted_undef rfl rfl rfl);focus (first|(apply put_some rfl;focus (conv=>lhs;dsimp only [Xr,Xs])<;>rfl)|exact put_none rfl))|(with_reducible first|apply Xe|apply Xf|apply Xg|apply Xh)|((with_reducible apply Xi);focus first|rfl|(simp [go_sem, *];done))|((with_reducible apply Xj);focus first|rfl|(simp [go_sem, *];done))|(simp only [Exit.then,Exit.inBlock,↓reduceIte,Nat.reduceEqDiff])|((with_reducible apply kf_out);focus assumption))
                  with_reducible apply Xt (Mt w tg g0 g1 ⟨x0, x1, [], []⟩)
                  (focus (first | exact wanted_none rfl | exact wanted_yes rfl rfl rfl))
                  focus (simp only [effAt]; simp [go_sem]; (with_reducible exact effUpon_enter (mt_state1 hM (s := 1) HSV.out)))
                  (focus (first|(apply put_some rfl;focus (conv=>lhs;dsimp only [Xr,Xs])<;>rfl)|exact put_none rfl))
                  intro u hM
                  clear hc0 hc1
                  have Fu : Below u.heap.size u u := Below.refl _ _
                  repeat (first|(with_reducible apply Xa)|((with_reducible apply region_k);intro KK kk)|(with_reducible apply Xc)|((with_reducible apply seq_k);intro KK kk)|((with_reducible apply Xk);(focus first|exact wanted_none rfl|exact wanted_yes rfl rfl rfl);(focus (simp [go_sem,effAt,↓IntWalk.iteOmega, *];(try go_ints);with_reducible first|exact Xm|exact Xn));focus (first|(apply put_some rfl;focus (conv=>lhs;dsimp only [Xr,Xs])<;>rfl)|exact put_none rfl))|((with_reducible apply Xl);(focus first|exact wanted_no rfl rfl rfl|exact wanted_undef rfl rfl rfl);focus (first|(apply put_some rfl;focus (conv=>lhs;dsimp only [Xr,Xs])<;>rfl)|exact put_none rfl))|(with_reducible first|apply Xe|apply Xf|apply Xg|apply Xh)|((with_reducible apply Xi);focus first|rfl|(simp [go_sem, *];done))|((with_reducible apply Xj);focus first|rfl|(simp [go_sem, *];done))|(simp only [Exit.then,Exit.inBlock,↓reduceIte,Nat.reduceEqDiff])|((with_reducible apply kf_out);focus assumption))
                  refine hK _ _ (Handed.intro (gk - 1) ?measure (hJ _ _ _ ?_))
                  rotate_left
                  (repeat apply Exists.intro)
                  refine ⟨?rel, rfl⟩
                  case rel => exact ⟨2, by go_num, by omega, fun _ => HD0.out (by omega), fun _ => HSS.out, hM⟩
                  case measure => omega
                · have Fwr : Below wr.heap.size wr wr := Below.refl _ _
                  repeat (first|(with_reducible apply Xa)|((with_reducible apply region_k);intro KK kk)|(with_reducible apply Xc)|((with_reducible apply seq_k);intro KK kk)|((with_reducible apply Xk);(focus first|exact wanted_none rfl|exact wanted_yes rfl rfl rfl);(focus (simp [go_sem,effAt,↓IntWalk.iteOmega, *];(try go_ints);with_reducible first|exact Xm|exact Xn));focus (first|(apply put_some rfl;focus (conv=>lhs;dsimp only [Xr,Xs])<;>rfl)|exact put_none rfl))|((with_reducible apply Xl);(focus first|exact wanted_no rfl rfl rfl|exact wanted_undef rfl rfl rfl);focus (first|(apply put_some rfl;focus (conv=>lhs;dsimp only [Xr,Xs])<;>rfl)|exact put_none rfl))|(with_reducible first|apply Xe|apply Xf|apply Xg|apply Xh)|((with_reducible apply Xi);focus first|rfl|(simp [go_sem, *];done))|((with_reducible apply Xj);focus first|rfl|(simp [go_sem, *];done))|(simp only [Exit.then,Exit.inBlock,↓reduceIte,Nat.reduceEqDiff])|((with_reducible apply kf_out);focus assumption))
                  with_reducible apply Xt (Mt w tg g0 g1 ⟨x0, x1, [], []⟩)
                  (focus (first | exact wanted_none rfl | exact wanted_yes rfl rfl rfl))
                  focus (simp only [effAt]; simp [go_sem]; (with_reducible exact effUpon_enter (mt_state1 hM (s := 5) HSV.out)))
                  (focus (first|(apply put_some rfl;focus (conv=>lhs;dsimp only [Xr,Xs])<;>rfl)|exact put_none rfl))
                  intro u hM
                  clear hc0 hc1
                  have Fu : Below u.heap.size u u := Below.refl _ _
                  repeat (first|(with_reducible apply Xa)|((with_reducible apply region_k);intro KK kk)|(with_reducible apply Xc)|((with_reducible apply seq_k);intro KK kk)|((with_reducible apply Xk);(focus first|exact wanted_none rfl|exact wanted_yes rfl rfl rfl);(focus (simp [go_sem,effAt,↓IntWalk.iteOmega, *];(try go_ints);with_reducible first|exact Xm|exact Xn));focus (first|(apply put_some rfl;focus (conv=>lhs;dsimp only [Xr,Xs])<;>rfl)|exact put_none rfl))|((with_reducible apply Xl);(focus first|exact wanted_no rfl rfl rfl|exact wanted_undef rfl rfl rfl);focus (first|(apply put_some rfl;focus (conv=>lhs;dsimp only [Xr,Xs])<;>rfl)|exact put_none rfl))|(with_reducible first|apply Xe|apply Xf|apply Xg|apply Xh)|((with_reducible apply Xi);focus first|rfl|(simp [go_sem, *];done))|((with_reducible apply Xj);focus first|rfl|(simp [go_sem, *];done))|(simp only [Exit.then,Exit.inBlock,↓reduceIte,Nat.reduceEqDiff])|((with_reducible apply kf_out);focus assumption))
                  refine hK _ _ (Handed.intro (gk - 1) ?measure (hJ _ _ _ ?_))
                  rotate_left
                  (repeat apply Exists.intro)
                  refine ⟨?rel, rfl⟩
                  case rel => exact ⟨2, by go_num, by omega, fun _ => HD0.out (by omega), fun _ => HSS.out, hM⟩
                  case measure => omega
            · clear hJ hK hi
              have ha := HD0.out (by omega)
              have hb := HD1.out (by omega)
              have HU := Lib.hid (fun both => meets_up both first x0 x1 ha hb)
              have HA := Lib.hid ha
              clear ha hb HD0 HD1 HA
              obtain ⟨hc0, hc1, hbw⟩ := hM.s
              clear hbw
              have Fwr : Below wr.heap.size wr wr := Below.refl _ _
              repeat (first|(with_reducible apply Xa)|((with_reducible apply region_k);intro KK kk)|(with_reducible apply Xc)|((with_reducible apply seq_k);intro KK kk)|((with_reducible apply Xk);(focus first|exact wanted_none rfl|exact wanted_yes rfl rfl rfl);(focus (simp [go_sem,effAt,↓IntWalk.iteOmega, *];(try go_ints);with_reducible first|exact Xm|exact Xn));focus (first|(apply put_some rfl;focus (conv=>lhs;dsimp only [Xr,Xs])<;>rfl)|exact put_none rfl))|((with_reducible apply Xl);(focus first|exact wanted_no rfl rfl rfl|exact wanted_undef rfl rfl rfl);focus (first|(apply put_some rfl;focus (conv=>lhs;dsimp only [Xr,Xs])<;>rfl)|exact put_none rfl))|(with_reducible first|apply Xe|apply Xf|apply Xg|apply Xh)|((with_reducible apply Xi);focus first|rfl|(simp [go_sem, *];done))|((with_reducible apply Xj);focus first|rfl|(simp [go_sem, *];done))|(simp only [Exit.then,Exit.inBlock,↓reduceIte,Nat.reduceEqDiff])|((with_reducible apply kf_out);focus assumption))
              with_reducible apply Xt (Mt w tg g0 g1 ⟨x0, ⟨x1.s, true, x1.tr, x1.mo⟩, [], []⟩)
              (focus (first | exact wanted_none rfl | exact wanted_yes rfl rfl rfl))
              focus (simp only [effAt]; simp [go_sem]; (with_reducible exact effUpon_enter (mt_listen1 hp hM)))
              (focus (first|(apply put_some rfl;focus (conv=>lhs;dsimp only [Xr,Xs])<;>rfl)|exact put_none rfl))
              intro u1 hM
              clear hc0 hc1
              obtain ⟨hc0, hc1, hbw⟩ := hM.s
              clear hbw
              obtain ⟨k1, cc1, p1, tm1, f1, y1, he1⟩ := evF_ex x0 .opens
              have hgy1 : Good y1 := by have := good_ev hgood0 .opens; rw [he1] at this; exact this
              have hgl : Good ⟨x1.s, true, x1.tr, x1.mo⟩ := hgood1
              have hCo := mt_open0 hp hM (t := ⟨x0, ⟨x1.s, true, x1.tr, x1.mo⟩, [], []⟩) hgood0 he1
              have HE1 := Lib.hid he1
              clear he1
              repeat (first|(with_reducible apply Xa)|((with_reducible apply region_k);intro KK kk)|(with_reducible apply Xc)|((with_reducible apply seq_k);intro KK kk)|((with_reducible apply Xk);(focus first|exact wanted_none rfl|exact wanted_yes rfl rfl rfl);(focus (simp [go_sem,effAt,↓IntWalk.iteOmega, *];(try go_ints);with_reducible first|exact Xm|exact Xn));focus (first|(apply put_some rfl;focus (conv=>lhs;dsimp only [Xr,Xs])<;>rfl)|exact put_none rfl))|((with_reducible apply Xl);(focus first|exact wanted_no rfl rfl rfl|exact wanted_undef rfl rfl rfl);focus (first|(apply put_some rfl;focus (conv=>lhs;dsimp only [Xr,Xs])<;>rfl)|exact put_none rfl))|(with_reducible first|apply Xe|apply Xf|apply Xg|apply Xh)|((with_reducible apply Xi);focus first|rfl|(simp [go_sem, *];done))|((with_reducible apply Xj);focus first|rfl|(simp [go_sem, *];done))|(simp only [Exit.then,Exit.inBlock,↓reduceIte,Nat.reduceEqDiff])|((with_reducible apply kf_out);focus assumption))
              with_reducible apply Xt (Mt w tg g0 g1 ⟨y1, ⟨x1.s, true, x1.tr, x1.mo⟩, [], []⟩)
              (focus (first | exact wanted_none rfl | exact wanted_yes rfl rfl rfl))
              focus (simp only [effAt]; simp [go_sem]; (with_reducible exact effUpon_enter (hCo)))
              (focus (first|(apply put_some rfl;focus (conv=>lhs;dsimp only [Xr,Xs])<;>rfl)|exact put_none rfl))
              intro u2 hM
              clear hc0 hc1 hCo
              have hSd := said_any hp false (k1, cc1, p1, tm1, f1) (t := ⟨y1, ⟨x1.s, true, x1.tr, x1.mo⟩, [], []⟩) (by simp) (by simp) u2 hM
              simp only [↓reduceIte, Bool.false_eq_true] at hSd
              obtain ⟨T1, hT1⟩ : ∃ T, saidF ⟨y1, ⟨x1.s, true, x1.tr, x1.mo⟩, [], []⟩ false (k1, cc1, p1, tm1, f1) = T := ⟨_, rfl⟩
              have hlen1 := said_0_len ⟨y1, ⟨x1.s, true, x1.tr, x1.mo⟩, [], []⟩ false (k1, cc1, p1, tm1, f1) 0 (by simp) (by simp)
              have hll1 := said_l ⟨y1, ⟨x1.s, true, x1.tr, x1.mo⟩, [], []⟩ false (k1, cc1, p1, tm1, f1)
              rw [hT1] at hSd hlen1 hll1
              have HT1 := Lib.hid hT1
              have HL1 := Lib.hid hlen1
              have HLL1 := Lib.hid hll1
              clear hT1 hlen1 hll1
              repeat (first|(with_reducible apply Xa)|((with_reducible apply region_k);intro KK kk)|(with_reducible apply Xc)|((with_reducible apply seq_k);intro KK kk)|((with_reducible apply Xk);(focus first|exact wanted_none rfl|exact wanted_yes rfl rfl rfl);(focus (simp [go_sem,effAt,↓IntWalk.iteOmega, *];(try go_ints);with_reducible first|exact Xm|exact Xn));focus (first|(apply put_some rfl;focus (conv=>lhs;dsimp only [Xr,Xs])<;>rfl)|exact put_none rfl))|((with_reducible apply Xl);(focus first|exact wanted_no rfl rfl rfl|exact wanted_undef rfl rfl rfl);focus (first|(apply put_some rfl;focus (conv=>lhs;dsimp only [Xr,Xs])<;>rfl)|exact put_none rfl))|(with_reducible first|apply Xe|apply Xf|apply Xg|apply Xh)|((with_reducible apply Xi);focus first|rfl|(simp [go_sem, *];done))|((with_reducible apply Xj);focus first|rfl|(simp [go_sem, *];done))|(simp only [Exit.then,Exit.inBlock,↓reduceIte,Nat.reduceEqDiff])|((with_reducible apply kf_out);focus assumption))
              with_reducible apply Xt (Mt w tg g0 g1 T1)
              (focus (first | exact wanted_none rfl | exact wanted_yes rfl rfl rfl))
              focus (simp only [effAt]; simp [go_sem]; (with_reducible exact effUpon_enter (hSd)))
              (focus (first|(apply put_some rfl;focus (conv=>lhs;dsimp only [Xr,Xs])<;>rfl)|exact put_none rfl))
              intro u3 hM
              clear hSd
              have hG1 : Good T1.l0 ∧ Good T1.l1 := by rw [HLL1.out.1, HLL1.out.2]; exact ⟨hgy1, hgl⟩
              cases both
              · skip
                obtain ⟨T2, hT2⟩ : ∃ T, T1 = T := ⟨_, rfl⟩
                rw [hT2] at hM hG1
                have hlen2 := HL1.out
                rw [hT2] at hlen2
                have hT2e : openedF false x0 x1 = T2 := by
                  have e1 := HT1.out
                  unfold openedF
                  rw [HE1.out]
                  dsimp only
                  rw [e1]
                  simp only [Bool.false_eq_true, ↓reduceIte]
                  exact hT2
                have hG2 := hG1
                have HL2 := Lib.hid (show T2.q0.length ≤ 1 + 1 ∧ T2.q1.length ≤ 1 + 1 by omega)
                clear hT2 hlen2 hG1
                have hUp := HU.out false
                rw [hT2e] at hUp
                have HUP := Lib.hid hUp
                clear hUp
                have HT2 := Lib.hid hT2e
                clear hT2e
                have hRn := run_any hp first T2 hG2.1 hG2.2 (by have := HL2.out; omega) (by have := HL2.out; omega) _ hM
                have hG3 := good_run first 100 T2 hG2.1 hG2.2
                obtain ⟨T3, hT3⟩ : ∃ T, runF first 100 T2 = T := ⟨_, rfl⟩
                have hUp := HUP.out
                rw [hT3] at hRn hG3 hUp
                obtain ⟨h3a, h3b, h3c, h3d⟩ := hUp
                have HDN := Lib.hid (meets_down false (!first) T3 h3a h3b h3c h3d)
                have HLL3 := Lib.hid (show T3.q0.length ≤ 1 ∧ T3.q1.length ≤ 1 by rw [h3c, h3d]; simp)
                have H3a := Lib.hid h3a
                have H3b := Lib.hid h3b
                clear hT3 h3a h3b h3c h3d
                repeat (first|(with_reducible apply Xa)|((with_reducible apply region_k);intro KK kk)|(with_reducible apply Xc)|((with_reducible apply seq_k);intro KK kk)|((with_reducible apply Xk);(focus first|exact wanted_none rfl|exact wanted_yes rfl rfl rfl);(focus (simp [go_sem,effAt,↓IntWalk.iteOmega, *];(try go_ints);with_reducible first|exact Xm|exact Xn));focus (first|(apply put_some rfl;focus (conv=>lhs;dsimp only [Xr,Xs])<;>rfl)|exact put_none rfl))|((with_reducible apply Xl);(focus first|exact wanted_no rfl rfl rfl|exact wanted_undef rfl rfl rfl);focus (first|(apply put_some rfl;focus (conv=>lhs;dsimp only [Xr,Xs])<;>rfl)|exact put_none rfl))|(with_reducible first|apply Xe|apply Xf|apply Xg|apply Xh)|((with_reducible apply Xi);focus first|rfl|(simp [go_sem, *];done))|((with_reducible apply Xj);focus first|rfl|(simp [go_sem, *];done))|(simp only [Exit.then,Exit.inBlock,↓reduceIte,Nat.reduceEqDiff])|((with_reducible apply kf_out);focus assumption))
                with_reducible apply Xt (Mt w tg g0 g1 T3)
                (focus (first | exact wanted_none rfl | exact wanted_yes rfl rfl rfl))
                focus (simp only [effAt]; simp [go_sem]; (with_reducible exact effUpon_enter (hRn)))
                (focus (first|(apply put_some rfl;focus (conv=>lhs;dsimp only [Xr,Xs])<;>rfl)|exact put_none rfl))
                intro u6 hM
                clear hRn
                obtain ⟨hc0, hc1, hbw⟩ := hM.s
                clear hbw
                repeat (first|(with_reducible apply Xa)|((with_reducible apply region_k);intro KK kk)|(with_reducible apply Xc)|((with_reducible apply seq_k);intro KK kk)|((with_reducible apply Xk);(focus first|exact wanted_none rfl|exact wanted_yes rfl rfl rfl);(focus (simp [go_sem,effAt,↓IntWalk.iteOmega, *];(try go_ints);with_reducible first|exact Xm|exact Xn));focus (first|(apply put_some rfl;focus (conv=>lhs;dsimp only [Xr,Xs])<;>rfl)|exact put_none rfl))|((with_reducible apply Xl);(focus first|exact wanted_no rfl rfl rfl|exact wanted_undef rfl rfl rfl);focus (first|(apply put_some rfl;focus (conv=>lhs;dsimp only [Xr,Xs])<;>rfl)|exact put_none rfl))|(with_reducible first|apply Xe|apply Xf|apply Xg|apply Xh)|((with_reducible apply Xi);focus first|rfl|(simp [go_sem, *];done))|((with_reducible apply Xj);focus first|rfl|(simp [go_sem, *];done))|(simp only [Exit.then,Exit.inBlock,↓reduceIte,Nat.reduceEqDiff])|((with_reducible apply kf_out);focus assumption))
                with_reducible apply Xt (Mt w tg g0 g1 T3)
                (focus (first | exact wanted_none rfl | exact wanted_yes rfl rfl rfl))
                focus (simp only [effAt]; simp [go_sem]; (with_reducible exact effUpon_enter (mt_state0 hM H3a.out)))
                (focus (first|(apply put_some rfl;focus (conv=>lhs;dsimp only [Xr,Xs])<;>rfl)|exact put_none rfl))
                intro u7 hM
                clear hc0 hc1
                obtain ⟨hc0, hc1, hbw⟩ := hM.s
                clear hbw
                repeat (first|(with_reducible apply Xa)|((with_reducible apply region_k);intro KK kk)|(with_reducible apply Xc)|((with_reducible apply seq_k);intro KK kk)|((with_reducible apply Xk);(focus first|exact wanted_none rfl|exact wanted_yes rfl rfl rfl);(focus (simp [go_sem,effAt,↓IntWalk.iteOmega, *];(try go_ints);with_reducible first|exact Xm|exact Xn));focus (first|(apply put_some rfl;focus (conv=>lhs;dsimp only [Xr,Xs])<;>rfl)|exact put_none rfl))|((with_reducible apply Xl);(focus first|exact wanted_no rfl rfl rfl|exact wanted_undef rfl rfl rfl);focus (first|(apply put_some rfl;focus (conv=>lhs;dsimp only [Xr,Xs])<;>rfl)|exact put_none rfl))|(with_reducible first|apply Xe|apply Xf|apply Xg|apply Xh)|((with_reducible apply Xi);focus first|rfl|(simp [go_sem, *];done))|((with_reducible apply Xj);focus first|rfl|(simp [go_sem, *];done))|(simp only [Exit.then,Exit.inBlock,↓reduceIte,Nat.reduceEqDiff])|((with_reducible apply kf_out);focus assumption))
                with_reducible apply Xt (Mt w tg g0 g1 T3)
                (focus (first | exact wanted_none rfl | exact wanted_yes rfl rfl rfl))
                focus (simp only [effAt]; simp [go_sem]; (with_reducible exact effUpon_enter (mt_state1 hM H3b.out)))
                (focus (first|(apply put_some rfl;focus (conv=>lhs;dsimp only [Xr,Xs])<;>rfl)|exact put_none rfl))
                intro u8 hM
                clear hc0 hc1
                obtain ⟨hc0, hc1, hbw⟩ := hM.s
                clear hbw
                obtain ⟨k3, cc3, p3, tm3, f3, y3, he3⟩ := evF_ex T3.l0 .closes
                have hgy3 : Good y3 := by have := good_ev hG3.1 .closes; rw [he3] at this; exact this
                have hCo := mt_close0 hp hM hG3.1 he3
                have HE3 := Lib.hid he3
                clear he3
                repeat (first|(with_reducible apply Xa)|((with_reducible apply region_k);intro KK kk)|(with_reducible apply Xc)|((with_reducible apply seq_k);intro KK kk)|((with_reducible apply Xk);(focus first|exact wanted_none rfl|exact wanted_yes rfl rfl rfl);(focus (simp [go_sem,effAt,↓IntWalk.iteOmega, *];(try go_ints);with_reducible first|exact Xm|exact Xn));focus (first|(apply put_some rfl;focus (conv=>lhs;dsimp only [Xr,Xs])<;>rfl)|exact put_none rfl))|((with_reducible apply Xl);(focus first|exact wanted_no rfl rfl rfl|exact wanted_undef rfl rfl rfl);focus (first|(apply put_some rfl;focus (conv=>lhs;dsimp only [Xr,Xs])<;>rfl)|exact put_none rfl))|(with_reducible first|apply Xe|apply Xf|apply Xg|apply Xh)|((with_reducible apply Xi);focus first|rfl|(simp [go_sem, *];done))|((with_reducible apply Xj);focus first|rfl|(simp [go_sem, *];done))|(simp only [Exit.then,Exit.inBlock,↓reduceIte,Nat.reduceEqDiff])|((with_reducible apply kf_out);focus assumption))
                with_reducible apply Xt (Mt w tg g0 g1 { T3 with l0 := y3 })
                (focus (first | exact wanted_none rfl | exact wanted_yes rfl rfl rfl))
                focus (simp only [effAt]; simp [go_sem]; (with_reducible exact effUpon_enter (hCo)))
                (focus (first|(apply put_some rfl;focus (conv=>lhs;dsimp only [Xr,Xs])<;>rfl)|exact put_none rfl))
                intro u9 hM
                clear hc0 hc1 hCo
                have hSd := said_any hp false (k3, cc3, p3, tm3, f3) (t := { T3 with l0 := y3 }) (by have := HLL3.out; show T3.q0.length ≤ 1000; omega) (by have := HLL3.out; show T3.q1.length ≤ 1000; omega) u9 hM
                simp only [↓reduceIte, Bool.false_eq_true] at hSd
                obtain ⟨T4, hT4⟩ : ∃ T, saidF { T3 with l0 := y3 } false (k3, cc3, p3, tm3, f3) = T := ⟨_, rfl⟩
                have hlen4 := said_0_len { T3 with l0 := y3 } false (k3, cc3, p3, tm3, f3) 1 HLL3.out.1 HLL3.out.2
                have hll4 := said_l { T3 with l0 := y3 } false (k3, cc3, p3, tm3, f3)
                rw [hT4] at hSd hlen4 hll4
                have HT4 := Lib.hid hT4
                have HL4 := Lib.hid hlen4
                have hG4 : Good T4.l0 ∧ Good T4.l1 := by rw [hll4.1, hll4.2]; exact ⟨hgy3, hG3.2⟩
                clear hT4 hlen4 hll4
                repeat (first|(with_reducible apply Xa)|((with_reducible apply region_k);intro KK kk)|(with_reducible apply Xc)|((with_reducible apply seq_k);intro KK kk)|((with_reducible apply Xk);(focus first|exact wanted_none rfl|exact wanted_yes rfl rfl rfl);(focus (simp [go_sem,effAt,↓IntWalk.iteOmega, *];(try go_ints);with_reducible first|exact Xm|exact Xn));focus (first|(apply put_some rfl;focus (conv=>lhs;dsimp only [Xr,Xs])<;>rfl)|exact put_none rfl))|((with_reducible apply Xl);(focus first|exact wanted_no rfl rfl rfl|exact wanted_undef rfl rfl rfl);focus (first|(apply put_some rfl;focus (conv=>lhs;dsimp only [Xr,Xs])<;>rfl)|exact put_none rfl))|(with_reducible first|apply Xe|apply Xf|apply Xg|apply Xh)|((with_reducible apply Xi);focus first|rfl|(simp [go_sem, *];done))|((with_reducible apply Xj);focus first|rfl|(simp [go_sem, *];done))|(simp only [Exit.then,Exit.inBlock,↓reduceIte,Nat.reduceEqDiff])|((with_reducible apply kf_out);focus assumption))
                with_reducible apply Xt (Mt w tg g0 g1 T4)
                (focus (first | exact wanted_none rfl | exact wanted_yes rfl rfl rfl))
                focus (simp only [effAt]; simp [go_sem]; (with_reducible exact effUpon_enter (hSd)))
                (focus (first|(apply put_some rfl;focus (conv=>lhs;dsimp only [Xr,Xs])<;>rfl)|exact put_none rfl))
                intro u10 hM
                clear hSd
                obtain ⟨T5, hT5⟩ : ∃ T, T4 = T := ⟨_, rfl⟩
                rw [hT5] at hM hG4
                have hlen5 := HL4.out
                rw [hT5] at hlen5
                have hT5e : closedF false T3 = T5 := by
                  have e1 := HT4.out
                  unfold closedF
                  rw [HE3.out]
                  dsimp only
                  rw [e1]
                  simp only [Bool.false_eq_true, ↓reduceIte]
                  exact hT5
                have hG5 := hG4
                have HL5 := Lib.hid (show T5.q0.length ≤ 3 ∧ T5.q1.length ≤ 3 by omega)
                clear hT5 hlen5 hG4
                have hDn := HDN.out
                rw [hT5e] at hDn
                have HDN2 := Lib.hid hDn
                clear hDn hT5e
                have hRn := run_any hp (!first) T5 hG5.1 hG5.2 (by have := HL5.out; omega) (by have := HL5.out; omega) _ hM
                obtain ⟨T6, hT6⟩ : ∃ T, runF (!first) 100 T5 = T := ⟨_, rfl⟩
                have hDn := HDN2.out
                rw [hT6] at hRn hDn
                have H6a := Lib.hid hDn.1
                have H6b := Lib.hid hDn.2
                clear hT6 hDn
                repeat (first|(with_reducible apply Xa)|((with_reducible apply region_k);intro KK kk)|(with_reducible apply Xc)|((with_reducible apply seq_k);intro KK kk)|((with_reducible apply Xk);(focus first|exact wanted_none rfl|exact wanted_yes rfl rfl rfl);(focus (simp [go_sem,effAt,↓IntWalk.iteOmega, *];(try go_ints);with_reducible first|exact Xm|exact Xn));focus (first|(apply put_some rfl;focus (conv=>lhs;dsimp only [Xr,Xs])<;>rfl)|exact put_none rfl))|((with_reducible apply Xl);(focus first|exact wanted_no rfl rfl rfl|exact wanted_undef rfl rfl rfl);focus (first|(apply put_some rfl;focus (conv=>lhs;dsimp only [Xr,Xs])<;>rfl)|exact put_none rfl))|(with_reducible first|apply Xe|apply Xf|apply Xg|apply Xh)|((with_reducible apply Xi);focus first|rfl|(simp [go_sem, *];done))|((with_reducible apply Xj);focus first|rfl|(simp [go_sem, *];done))|(simp only [Exit.then,Exit.inBlock,↓reduceIte,Nat.reduceEqDiff])|((with_reducible apply kf_out);focus assumption))
                with_reducible apply Xt (Mt w tg g0 g1 T6)
                (focus (first | exact wanted_none rfl | exact wanted_yes rfl rfl rfl))
                focus (simp only [effAt]; simp [go_sem]; (with_reducible exact effUpon_enter (hRn)))
                (focus (first|(apply put_some rfl;focus (conv=>lhs;dsimp only [Xr,Xs])<;>rfl)|exact put_none rfl))
                intro u13 hM
                clear hRn
                obtain ⟨hc0, hc1, hbw⟩ := hM.s
                clear hbw
                repeat (first|(with_reducible apply Xa)|((with_reducible apply region_k);intro KK kk)|(with_reducible apply Xc)|((with_reducible apply seq_k);intro KK kk)|((with_reducible apply Xk);(focus first|exact wanted_none rfl|exact wanted_yes rfl rfl rfl);(focus (simp [go_sem,effAt,↓IntWalk.iteOmega, *];(try go_ints);with_reducible first|exact Xm|exact Xn));focus (first|(apply put_some rfl;focus (conv=>lhs;dsimp only [Xr,Xs])<;>rfl)|exact put_none rfl))|((with_reducible apply Xl);(focus first|exact wanted_no rfl rfl rfl|exact wanted_undef rfl rfl rfl);focus (first|(apply put_some rfl;focus (conv=>lhs;dsimp only [Xr,Xs])<;>rfl)|exact put_none rfl))|(with_reducible first|apply Xe|apply Xf|apply Xg|apply Xh)|((with_reducible apply Xi);focus first|rfl|(simp [go_sem, *];done))|((with_reducible apply Xj);focus first|rfl|(simp [go_sem, *];done))|(simp only [Exit.then,Exit.inBlock,↓reduceIte,Nat.reduceEqDiff])|((with_reducible apply kf_out);focus assumption))
                with_reducible apply Xt (Mt w tg g0 g1 T6)
                (focus (first | exact wanted_none rfl | exact wanted_yes rfl rfl rfl))
                focus (simp only [effAt]; simp [go_sem]; (with_reducible exact effUpon_enter (mt_state0 hM H6a.out)))
                (focus (first|(apply put_some rfl;focus (conv=>lhs;dsimp only [Xr,Xs])<;>rfl)|exact put_none rfl))
                intro u14 hM
                clear hc0 hc1
                obtain ⟨hc0, hc1, hbw⟩ := hM.s
                clear hbw
                repeat (first|(with_reducible apply Xa)|((with_reducible apply region_k);intro KK kk)|(with_reducible apply Xc)|((with_reducible apply seq_k);intro KK kk)|((with_reducible apply Xk);(focus first|exact wanted_none rfl|exact wanted_yes rfl rfl rfl);(focus (simp [go_sem,effAt,↓IntWalk.iteOmega, *];(try go_ints);with_reducible first|exact Xm|exact Xn));focus (first|(apply put_some rfl;focus (conv=>lhs;dsimp only [Xr,Xs])<;>rfl)|exact put_none rfl))|((with_reducible apply Xl);(focus first|exact wanted_no rfl rfl rfl|exact wanted_undef rfl rfl rfl);focus (first|(apply put_some rfl;focus (conv=>lhs;dsimp only [Xr,Xs])<;>rfl)|exact put_none rfl))|(with_reducible first|apply Xe|apply Xf|apply Xg|apply Xh)|((with_reducible apply Xi);focus first|rfl|(simp [go_sem, *];done))|((with_reducible apply Xj);focus first|rfl|(simp [go_sem, *];done))|(simp only [Exit.then,Exit.inBlock,↓reduceIte,Nat.reduceEqDiff])|((with_reducible apply kf_out);focus assumption))
                with_reducible apply Xt (Mt w tg g0 g1 T6)
                (focus (first | exact wanted_none rfl | exact wanted_yes rfl rfl rfl))
                focus (simp only [effAt]; simp [go_sem]; (with_reducible exact effUpon_enter (mt_state1 hM H6b.out)))
                (focus (first|(apply put_some rfl;focus (conv=>lhs;dsimp only [Xr,Xs])<;>rfl)|exact put_none rfl))
                intro u15 hM
                clear hc0 hc1
                have Fu15 : Below u15.heap.size u15 u15 := Below.refl _ _
                repeat (first|(with_reducible apply Xa)|((with_reducible apply region_k);intro KK kk)|(with_reducible apply Xc)|((with_reducible apply seq_k);intro KK kk)|((with_reducible apply Xk);(focus first|exact wanted_none rfl|exact wanted_yes rfl rfl rfl);(focus (simp [go_sem,effAt,↓IntWalk.iteOmega, *];(try go_ints);with_reducible first|exact Xm|exact Xn));focus (first|(apply put_some rfl;focus (conv=>lhs;dsimp only [Xr,Xs])<;>rfl)|exact put_none rfl))|((with_reducible apply Xl);(focus first|exact wanted_no rfl rfl rfl|exact wanted_undef rfl rfl rfl);focus (first|(apply put_some rfl;focus (conv=>lhs;dsimp only [Xr,Xs])<;>rfl)|exact put_none rfl))|(with_reducible first|apply Xe|apply Xf|apply Xg|apply Xh)|((with_reducible apply Xi);focus first|rfl|(simp [go_sem, *];done))|((with_reducible apply Xj);focus first|rfl|(simp [go_sem, *];done))|(simp only [Exit.then,Exit.inBlock,↓reduceIte,Nat.reduceEqDiff])|((with_reducible apply kf_out);focus assumption))
                ((with_reducible apply Xt (Below u15.heap.size u15)); (focus rfl); (focus (simp only [effAt]; simp [go_sem]; (with_reducible exact effUpon_enter (works_any _)))); (focus ((first|(apply put_some rfl;focus (conv=>lhs;dsimp only [Xr,Xs])<;>rfl)|exact put_none rfl))))
                intro w6 hs
                have Fw6 := Fu15.trans (hs.mono Fu15.size)
                clear hs Fu15
                repeat (first|(with_reducible apply Xa)|((with_reducible apply region_k);intro KK kk)|(with_reducible apply Xc)|((with_reducible apply seq_k);intro KK kk)|((with_reducible apply Xk);(focus first|exact wanted_none rfl|exact wanted_yes rfl rfl rfl);(focus (simp [go_sem,effAt,↓IntWalk.iteOmega, *];(try go_ints);with_reducible first|exact Xm|exact Xn));focus (first|(apply put_some rfl;focus (conv=>lhs;dsimp only [Xr,Xs])<;>rfl)|exact put_none rfl))|((with_reducible apply Xl);(focus first|exact wanted_no rfl rfl rfl|exact wanted_undef rfl rfl rfl);focus (first|(apply put_some rfl;focus (conv=>lhs;dsimp only [Xr,Xs])<;>rfl)|exact put_none rfl))|(with_reducible first|apply Xe|apply Xf|apply Xg|apply Xh)|((with_reducible apply Xi);focus first|rfl|(simp [go_sem, *];done))|((with_reducible apply Xj);focus first|rfl|(simp [go_sem, *];done))|(simp only [Exit.then,Exit.inBlock,↓reduceIte,Nat.reduceEqDiff])|((with_reducible apply kf_out);focus assumption))
                go_ret
                exact ⟨rfl, hM.s.2.2.trans (Below.mono (by assumption) hM.s.2.2.size)⟩
              · skip
                obtain ⟨hc0, hc1, hbw⟩ := hM.s
                clear hbw
                obtain ⟨k2, cc2, p2, tm2, f2, y2, he2⟩ := evF_ex T1.l1 .opens
                have hgy2 : Good y2 := by have := good_ev hG1.2 .opens; rw [he2] at this; exact this
                have hCo := mt_open1 hp hM hG1.2 he2
                have HE2 := Lib.hid he2
                clear he2
                repeat (first|(with_reducible apply Xa)|((with_reducible apply region_k);intro KK kk)|(with_reducible apply Xc)|((with_reducible apply seq_k);intro KK kk)|((with_reducible apply Xk);(focus first|exact wanted_none rfl|exact wanted_yes rfl rfl rfl);(focus (simp [go_sem,effAt,↓IntWalk.iteOmega, *];(try go_ints);with_reducible first|exact Xm|exact Xn));focus (first|(apply put_some rfl;focus (conv=>lhs;dsimp only [Xr,Xs])<;>rfl)|exact put_none rfl))|((with_reducible apply Xl);(focus first|exact wanted_no rfl rfl rfl|exact wanted_undef rfl rfl rfl);focus (first|(apply put_some rfl;focus (conv=>lhs;dsimp only [Xr,Xs])<;>rfl)|exact put_none rfl))|(with_reducible first|apply Xe|apply Xf|apply Xg|apply Xh)|((with_reducible apply Xi);focus first|rfl|(simp [go_sem, *];done))|((with_reducible apply Xj);focus first|rfl|(simp [go_sem, *];done))|(simp only [Exit.then,Exit.inBlock,↓reduceIte,Nat.reduceEqDiff])|((with_reducible apply kf_out);focus assumption))
                with_reducible apply Xt (Mt w tg g0 g1 { T1 with l1 := y2 })
                (focus (first | exact wanted_none rfl | exact wanted_yes rfl rfl rfl))
                focus (simp only [effAt]; simp [go_sem]; (with_reducible exact effUpon_enter (hCo)))
                (focus (first|(apply put_some rfl;focus (conv=>lhs;dsimp only [Xr,Xs])<;>rfl)|exact put_none rfl))
                intro u4 hM
                clear hc0 hc1 hCo
                have hSd := said_any hp true (k2, cc2, p2, tm2, f2) (t := { T1 with l1 := y2 }) (by have := HL1.out; show T1.q0.length ≤ 1000; omega) (by have := HL1.out; show T1.q1.length ≤ 1000; omega) u4 hM
                simp only [↓reduceIte, Bool.false_eq_true] at hSd
                obtain ⟨T2, hT2⟩ : ∃ T, saidF { T1 with l1 := y2 } true (k2, cc2, p2, tm2, f2) = T := ⟨_, rfl⟩
                have hlen2 := said_0_len { T1 with l1 := y2 } true (k2, cc2, p2, tm2, f2) 1 HL1.out.1 HL1.out.2
                have hll2 := said_l { T1 with l1 := y2 } true (k2, cc2, p2, tm2, f2)
                rw [hT2] at hSd hlen2 hll2
                have hT2e : openedF true x0 x1 = T2 := by
                  have e1 := HT1.out
                  unfold openedF
                  rw [HE1.out]
                  dsimp only
                  rw [e1]
                  simp only [↓reduceIte]
                  rw [HE2.out]
                  exact hT2
                have HL2 := Lib.hid hlen2
                have hG2 : Good T2.l0 ∧ Good T2.l1 := by rw [hll2.1, hll2.2]; exact ⟨hG1.1, hgy2⟩
                clear hT2 hlen2 hll2
                repeat (first|(with_reducible apply Xa)|((with_reducible apply region_k);intro KK kk)|(with_reducible apply Xc)|((with_reducible apply seq_k);intro KK kk)|((with_reducible apply Xk);(focus first|exact wanted_none rfl|exact wanted_yes rfl rfl rfl);(focus (simp [go_sem,effAt,↓IntWalk.iteOmega, *];(try go_ints);with_reducible first|exact Xm|exact Xn));focus (first|(apply put_some rfl;focus (conv=>lhs;dsimp only [Xr,Xs])<;>rfl)|exact put_none rfl))|((with_reducible apply Xl);(focus first|exact wanted_no rfl rfl rfl|exact wanted_undef rfl rfl rfl);focus (first|(apply put_some rfl;focus (conv=>lhs;dsimp only [Xr,Xs])<;>rfl)|exact put_none rfl))|(with_reducible first|apply Xe|apply Xf|apply Xg|apply Xh)|((with_reducible apply Xi);focus first|rfl|(simp [go_sem, *];done))|((with_reducible apply Xj);focus first|rfl|(simp [go_sem, *];done))|(simp only [Exit.then,Exit.inBlock,↓reduceIte,Nat.reduceEqDiff])|((with_reducible apply kf_out);focus assumption))
                with_reducible apply Xt (Mt w tg g0 g1 T2)
                (focus (first | exact wanted_none rfl | exact wanted_yes rfl rfl rfl))
                focus (simp only [effAt]; simp [go_sem]; (with_reducible exact effUpon_enter (hSd)))
                (focus (first|(apply put_some rfl;focus (conv=>lhs;dsimp only [Xr,Xs])<;>rfl)|exact put_none rfl))
                intro u5 hM
                clear hSd
                have hUp := HU.out true
                rw [hT2e] at hUp
                have HUP := Lib.hid hUp
                clear hUp
                have HT2 := Lib.hid hT2e
                clear hT2e
                have hRn := run_any hp first T2 hG2.1 hG2.2 (by have := HL2.out; omega) (by have := HL2.out; omega) _ hM
                have hG3 := good_run first 100 T2 hG2.1 hG2.2
                obtain ⟨T3, hT3⟩ : ∃ T, runF first 100 T2 = T := ⟨_, rfl⟩
                have hUp := HUP.out
                rw [hT3] at hRn hG3 hUp
                obtain ⟨h3a, h3b, h3c, h3d⟩ := hUp
                have HDN := Lib.hid (meets_down true (!first) T3 h3a h3b h3c h3d)
                have HLL3 := Lib.hid (show T3.q0.length ≤ 1 ∧ T3.q1.length ≤ 1 by rw [h3c, h3d]; simp)
                have H3a := Lib.hid h3a
                have H3b := Lib.hid h3b
                clear hT3 h3a h3b h3c h3d
                repeat (first|(with_reducible apply Xa)|((with_reducible apply region_k);intro KK kk)|(with_reducible apply Xc)|((with_reducible apply seq_k);intro KK kk)|((with_reducible apply Xk);(focus first|exact wanted_none rfl|exact wanted_yes rfl rfl rfl);(focus (simp [go_sem,effAt,↓IntWalk.iteOmega, *];(try go_ints);with_reducible first|exact Xm|exact Xn));focus (first|(apply put_some rfl;focus (conv=>lhs;dsimp only [Xr,Xs])<;>rfl)|exact put_none rfl))|((with_reducible apply Xl);(focus first|exact wanted_no rfl rfl rfl|exact wanted_undef rfl rfl rfl);focus (first|(apply put_some rfl;focus (conv=>lhs;dsimp only [Xr,Xs])<;>rfl)|exact put_none rfl))|(with_reducible first|apply Xe|apply Xf|apply Xg|apply Xh)|((with_reducible apply Xi);focus first|rfl|(simp [go_sem, *];done))|((with_reducible apply Xj);focus first|rfl|(simp [go_sem, *];done))|(simp only [Exit.then,Exit.inBlock,↓reduceIte,Nat.reduceEqDiff])|((with_reducible apply kf_out);focus assumption))
                with_reducible apply Xt (Mt w tg g0 g1 T3)
                (focus (first | exact wanted_none rfl | exact wanted_yes rfl rfl rfl))
                focus (simp only [effAt]; simp [go_sem]; (with_reducible exact effUpon_enter (hRn)))
                (focus (first|(apply put_some rfl;focus (conv=>lhs;dsimp only [Xr,Xs])<;>rfl)|exact put_none rfl))
                intro u6 hM
                clear hRn
                obtain ⟨hc0, hc1, hbw⟩ := hM.s
                clear hbw
                repeat (first|(with_reducible apply Xa)|((with_reducible apply region_k);intro KK kk)|(with_reducible apply Xc)|((with_reducible apply seq_k);intro KK kk)|((with_reducible apply Xk);(focus first|exact wanted_none rfl|exact wanted_yes rfl rfl rfl);(focus (simp [go_sem,effAt,↓IntWalk.iteOmega, *];(try go_ints);with_reducible first|exact Xm|exact Xn));focus (first|(apply put_some rfl;focus (conv=>lhs;dsimp only [Xr,Xs])<;>rfl)|exact put_none rfl))|((with_reducible apply Xl);(focus first|exact wanted_no rfl rfl rfl|exact wanted_undef rfl rfl rfl);focus (first|(apply put_some rfl;focus (conv=>lhs;dsimp only [Xr,Xs])<;>rfl)|exact put_none rfl))|(with_reducible first|apply Xe|apply Xf|apply Xg|apply Xh)|((with_reducible apply Xi);focus first|rfl|(simp [go_sem, *];done))|((with_reducible apply Xj);focus first|rfl|(simp [go_sem, *];done))|(simp only [Exit.then,Exit.inBlock,↓reduceIte,Nat.reduceEqDiff])|((with_reducible apply kf_out);focus assumption))
                with_reducible apply Xt (Mt w tg g0 g1 T3)
                (focus (first | exact wanted_none rfl | exact wanted_yes rfl rfl rfl))
                focus (simp only [effAt]; simp [go_sem]; (with_reducible exact effUpon_enter (mt_state0 hM H3a.out)))
                (focus (first|(apply put_some rfl;focus (conv=>lhs;dsimp only [Xr,Xs])<;>rfl)|exact put_none rfl))
                intro u7 hM
                clear hc0 hc1
                obtain ⟨hc0, hc1, hbw⟩ := hM.s
                clear hbw
                repeat (first|(with_reducible apply Xa)|((with_reducible apply region_k);intro KK kk)|(with_reducible apply Xc)|((with_reducible apply seq_k);intro KK kk)|((with_reducible apply Xk);(focus first|exact wanted_none rfl|exact wanted_yes rfl rfl rfl);(focus (simp [go_sem,effAt,↓IntWalk.iteOmega, *];(try go_ints);with_reducible first|exact Xm|exact Xn));focus (first|(apply put_some rfl;focus (conv=>lhs;dsimp only [Xr,Xs])<;>rfl)|exact put_none rfl))|((with_reducible apply Xl);(focus first|exact wanted_no rfl rfl rfl|exact wanted_undef rfl rfl rfl);focus (first|(apply put_some rfl;focus (conv=>lhs;dsimp only [Xr,Xs])<;>rfl)|exact put_none rfl))|(with_reducible first|apply Xe|apply Xf|apply Xg|apply Xh)|((with_reducible apply Xi);focus first|rfl|(simp [go_sem, *];done))|((with_reducible apply Xj);focus first|rfl|(simp [go_sem, *];done))|(simp only [Exit.then,Exit.inBlock,↓reduceIte,Nat.reduceEqDiff])|((with_reducible apply kf_out);focus assumption))
                with_reducible apply Xt (Mt w tg g0 g1 T3)
                (focus (first | exact wanted_none rfl | exact wanted_yes rfl rfl rfl))
                focus (simp only [effAt]; simp [go_sem]; (with_reducible exact effUpon_enter (mt_state1 hM H3b.out)))
                (focus (first|(apply put_some rfl;focus (conv=>lhs;dsimp only [Xr,Xs])<;>rfl)|exact put_none rfl))
                intro u8 hM
                clear hc0 hc1
                obtain ⟨hc0, hc1, hbw⟩ := hM.s
                clear hbw
                obtain ⟨k3, cc3, p3, tm3, f3, y3, he3⟩ := evF_ex T3.l0 .closes
                have hgy3 : Good y3 := by have := good_ev hG3.1 .closes; rw [he3] at this; exact this
                have hCo := mt_close0 hp hM hG3.1 he3
                have HE3 := Lib.hid he3
                clear he3
                repeat (first|(with_reducible apply Xa)|((with_reducible apply region_k);intro KK kk)|(with_reducible apply Xc)|((with_reducible apply seq_k);intro KK kk)|((with_reducible apply Xk);(focus first|exact wanted_none rfl|exact wanted_yes rfl rfl rfl);(focus (simp [go_sem,effAt,↓IntWalk.iteOmega, *];(try go_ints);with_reducible first|exact Xm|exact Xn));focus (first|(apply put_some rfl;focus (conv=>lhs;dsimp only [Xr,Xs])<;>rfl)|exact put_none rfl))|((with_reducible apply Xl);(focus first|exact wanted_no rfl rfl rfl|exact wanted_undef rfl rfl rfl);focus (first|(apply put_some rfl;focus (conv=>lhs;dsimp only [Xr,Xs])<;>rfl)|exact put_none rfl))|(with_reducible first|apply Xe|apply Xf|apply Xg|apply Xh)|((with_reducible apply Xi);focus first|rfl|(simp [go_sem, *];done))|((with_reducible apply Xj);focus first|rfl|(simp [go_sem, *];done))|(simp only [Exit.then,Exit.inBlock,↓reduceIte,Nat.reduceEqDiff])|((with_reducible apply kf_out);focus assumption))
                with_reducible apply Xt (Mt w tg g0 g1 { T3 with l0 := y3 })
                (focus (first | exact wanted_none rfl | exact wanted_yes rfl rfl rfl))
                focus (simp only [effAt]; simp [go_sem]; (with_reducible exact effUpon_enter (hCo)))
                (focus (first|(apply put_some rfl;focus (conv=>lhs;dsimp only [Xr,Xs])<;>rfl)|exact put_none rfl))
                intro u9 hM
                clear hc0 hc1 hCo
                have hSd := said_any hp false (k3, cc3, p3, tm3, f3) (t := { T3 with l0 := y3 }) (by have := HLL3.out; show T3.q0.length ≤ 1000; omega) (by have := HLL3.out; show T3.q1.length ≤ 1000; omega) u9 hM
                simp only [↓reduceIte, Bool.false_eq_true] at hSd
                obtain ⟨T4, hT4⟩ : ∃ T, saidF { T3 with l0 := y3 } false (k3, cc3, p3, tm3, f3) = T := ⟨_, rfl⟩
                have hlen4 := said_0_len { T3 with l0 := y3 } false (k3, cc3, p3, tm3, f3) 1 HLL3.out.1 HLL3.out.2
                have hll4 := said_l { T3 with l0 := y3 } false (k3, cc3, p3, tm3, f3)
                rw [hT4] at hSd hlen4 hll4
                have HT4 := Lib.hid hT4
                have HL4 := Lib.hid hlen4
                have hG4 : Good T4.l0 ∧ Good T4.l1 := by rw [hll4.1, hll4.2]; exact ⟨hgy3, hG3.2⟩
                clear hT4 hlen4 hll4
                repeat (first|(with_reducible apply Xa)|((with_reducible apply region_k);intro KK kk)|(with_reducible apply Xc)|((with_reducible apply seq_k);intro KK kk)|((with_reducible apply Xk);(focus first|exact wanted_none rfl|exact wanted_yes rfl rfl rfl);(focus (simp [go_sem,effAt,↓IntWalk.iteOmega, *];(try go_ints);with_reducible first|exact Xm|exact Xn));focus (first|(apply put_some rfl;focus (conv=>lhs;dsimp only [Xr,Xs])<;>rfl)|exact put_none rfl))|((with_reducible apply Xl);(focus first|exact wanted_no rfl rfl rfl|exact wanted_undef rfl rfl rfl);focus (first|(apply put_some rfl;focus (conv=>lhs;dsimp only [Xr,Xs])<;>rfl)|exact put_none rfl))|(with_reducible first|apply Xe|apply Xf|apply Xg|apply Xh)|((with_reducible apply Xi);focus first|rfl|(simp [go_sem, *];done))|((with_reducible apply Xj);focus first|rfl|(simp [go_sem, *];done))|(simp only [Exit.then,Exit.inBlock,↓reduceIte,Nat.reduceEqDiff])|((with_reducible apply kf_out);focus assumption))
                with_reducible apply Xt (Mt w tg g0 g1 T4)
                (focus (first | exact wanted_none rfl | exact wanted_yes rfl rfl rfl))
                focus (simp only [effAt]; simp [go_sem]; (with_reducible exact effUpon_enter (hSd)))
                (focus (first|(apply put_some rfl;focus (conv=>lhs;dsimp only [Xr,Xs])<;>rfl)|exact put_none rfl))
                intro u10 hM
                clear hSd
                obtain ⟨hc0, hc1, hbw⟩ := hM.s
                clear hbw
                obtain ⟨k5, cc5, p5, tm5, f5, y5, he5⟩ := evF_ex T4.l1 .closes
                have hgy5 : Good y5 := by have := good_ev hG4.2 .closes; rw [he5] at this; exact this
                have hCo := mt_close1 hp hM hG4.2 he5
                have HE5 := Lib.hid he5
                clear he5
                repeat (first|(with_reducible apply Xa)|((with_reducible apply region_k);intro KK kk)|(with_reducible apply Xc)|((with_reducible apply seq_k);intro KK kk)|((with_reducible apply Xk);(focus first|exact wanted_none rfl|exact wanted_yes rfl rfl rfl);(focus (simp [go_sem,effAt,↓IntWalk.iteOmega, *];(try go_ints);with_reducible first|exact Xm|exact Xn));focus (first|(apply put_some rfl;focus (conv=>lhs;dsimp only [Xr,Xs])<;>rfl)|exact put_none rfl))|((with_reducible apply Xl);(focus first|exact wanted_no rfl rfl rfl|exact wanted_undef rfl rfl rfl);focus (first|(apply put_some rfl;focus (conv=>lhs;dsimp only [Xr,Xs])<;>rfl)|exact put_none rfl))|(with_reducible first|apply Xe|apply Xf|apply Xg|apply Xh)|((with_reducible apply Xi);focus first|rfl|(simp [go_sem, *];done))|((with_reducible apply Xj);focus first|rfl|(simp [go_sem, *];done))|(simp only [Exit.then,Exit.inBlock,↓reduceIte,Nat.reduceEqDiff])|((with_reducible apply kf_out);focus assumption))
                with_reducible apply Xt (Mt w tg g0 g1 { T4 with l1 := y5 })
                (focus (first | exact wanted_none rfl | exact wanted_yes rfl rfl rfl))
                focus (simp only [effAt]; simp [go_sem]; (with_reducible exact effUpon_enter (hCo)))
                (focus (first|(apply put_some rfl;focus (conv=>lhs;dsimp only [Xr,Xs])<;>rfl)|exact put_none rfl))
                intro u11 hM
                clear hc0 hc1 hCo
                have hSd := said_any hp true (k5, cc5, p5, tm5, f5) (t := { T4 with l1 := y5 }) (by have := HL4.out; show T4.q0.length ≤ 1000; omega) (by have := HL4.out; show T4.q1.length ≤ 1000; omega) u11 hM
                simp only [↓reduceIte, Bool.false_eq_true] at hSd
                obtain ⟨T5, hT5⟩ : ∃ T, saidF { T4 with l1 := y5 } true (k5, cc5, p5, tm5, f5) = T := ⟨_, rfl⟩
                have hlen5 := said_0_len { T4 with l1 := y5 } true (k5, cc5, p5, tm5, f5) 2 HL4.out.1 HL4.out.2
                have hll5 := said_l { T4 with l1 := y5 } true (k5, cc5, p5, tm5, f5)
                rw [hT5] at hSd hlen5 hll5
                have hT5e : closedF true T3 = T5 := by
                  have e1 := HT4.out
                  unfold closedF
                  rw [HE3.out]
                  dsimp only
                  rw [e1]
                  simp only [↓reduceIte]
                  rw [HE5.out]
                  exact hT5
                have HL5 := Lib.hid hlen5
                have hG5 : Good T5.l0 ∧ Good T5.l1 := by rw [hll5.1, hll5.2]; exact ⟨hG4.1, hgy5⟩
                clear hT5 hlen5 hll5
                repeat (first|(with_reducible apply Xa)|((with_reducible apply region_k);intro KK kk)|(with_reducible apply Xc)|((with_reducible apply seq_k);intro KK kk)|((with_reducible apply Xk);(focus first|exact wanted_none rfl|exact wanted_yes rfl rfl rfl);(focus (simp [go_sem,effAt,↓IntWalk.iteOmega, *];(try go_ints);with_reducible first|exact Xm|exact Xn));focus (first|(apply put_some rfl;focus (conv=>lhs;dsimp only [Xr,Xs])<;>rfl)|exact put_none rfl))|((with_reducible apply Xl);(focus first|exact wanted_no rfl rfl rfl|exact wanted_undef rfl rfl rfl);focus (first|(apply put_some rfl;focus (conv=>lhs;dsimp only [Xr,Xs])<;>rfl)|exact put_none rfl))|(with_reducible first|apply Xe|apply Xf|apply Xg|apply Xh)|((with_reducible apply Xi);focus first|rfl|(simp [go_sem, *];done))|((with_reducible apply Xj);focus first|rfl|(simp [go_sem, *];done))|(simp only [Exit.then,Exit.inBlock,↓reduceIte,Nat.reduceEqDiff])|((with_reducible apply kf_out);focus assumption))
                with_reducible apply Xt (Mt w tg g0 g1 T5)
                (focus (first | exact wanted_none rfl | exact wanted_yes rfl rfl rfl))
                focus (simp only [effAt]; simp [go_sem]; (with_reducible exact effUpon_enter (hSd)))
                (focus (first|(apply put_some rfl;focus (conv=>lhs;dsimp only [Xr,Xs])<;>rfl)|exact put_none rfl))
                intro u12 hM
                clear hSd
                have hDn := HDN.out
                rw [hT5e] at hDn
                have HDN2 := Lib.hid hDn
                clear hDn hT5e
                have hRn := run_any hp (!first) T5 hG5.1 hG5.2 (by have := HL5.out; omega) (by have := HL5.out; omega) _ hM
                obtain ⟨T6, hT6⟩ : ∃ T, runF (!first) 100 T5 = T := ⟨_, rfl⟩
                have hDn := HDN2.out
                rw [hT6] at hRn hDn
                have H6a := Lib.hid hDn.1
                have H6b := Lib.hid hDn.2
                clear hT6 hDn
                repeat (first|(with_reducible apply Xa)|((with_reducible apply region_k);intro KK kk)|(with_reducible apply Xc)|((with_reducible apply seq_k);intro KK kk)|((with_reducible apply Xk);(focus first|exact wanted_none rfl|exact wanted_yes rfl rfl rfl);(focus (simp [go_sem,effAt,↓IntWalk.iteOmega, *];(try go_ints);with_reducible first|exact Xm|exact Xn));focus (first|(apply put_some rfl;focus (conv=>lhs;dsimp only [Xr,Xs])<;>rfl)|exact put_none rfl))|((with_reducible apply Xl);(focus first|exact wanted_no rfl rfl rfl|exact wanted_undef rfl rfl rfl);focus (first|(apply put_some rfl;focus (conv=>lhs;dsimp only [Xr,Xs])<;>rfl)|exact put_none rfl))|(with_reducible first|apply Xe|apply Xf|apply Xg|apply Xh)|((with_reducible apply Xi);focus first|rfl|(simp [go_sem, *];done))|((with_reducible apply Xj);focus first|rfl|(simp [go_sem, *];done))|(simp only [Exit.then,Exit.inBlock,↓reduceIte,Nat.reduceEqDiff])|((with_reducible apply kf_out);focus assumption))
                with_reducible apply Xt (Mt w tg g0 g1 T6)
                (focus (first | exact wanted_none rfl | exact wanted_yes rfl rfl rfl))
                focus (simp only [effAt]; simp [go_sem]; (with_reducible exact effUpon_enter (hRn)))
                (focus (first|(apply put_some rfl;focus (conv=>lhs;dsimp only [Xr,Xs])<;>rfl)|exact put_none rfl))
                intro u13 hM
                clear hRn
                obtain ⟨hc0, hc1, hbw⟩ := hM.s
                clear hbw
                repeat (first|(with_reducible apply Xa)|((with_reducible apply region_k);intro KK kk)|(with_reducible apply Xc)|((with_reducible apply seq_k);intro KK kk)|((with_reducible apply Xk);(focus first|exact wanted_none rfl|exact wanted_yes rfl rfl rfl);(focus (simp [go_sem,effAt,↓IntWalk.iteOmega, *];(try go_ints);with_reducible first|exact Xm|exact Xn));focus (first|(apply put_some rfl;focus (conv=>lhs;dsimp only [Xr,Xs])<;>rfl)|exact put_none rfl))|((with_reducible apply Xl);(focus first|exact wanted_no rfl rfl rfl|exact wanted_undef rfl rfl rfl);focus (first|(apply put_some rfl;focus (conv=>lhs;dsimp only [Xr,Xs])<;>rfl)|exact put_none rfl))|(with_reducible first|apply Xe|apply Xf|apply Xg|apply Xh)|((with_reducible apply Xi);focus first|rfl|(simp [go_sem, *];done))|((with_reducible apply Xj);focus first|rfl|(simp [go_sem, *];done))|(simp only [Exit.then,Exit.inBlock,↓reduceIte,Nat.reduceEqDiff])|((with_reducible apply kf_out);focus assumption))
                with_reducible apply Xt (Mt w tg g0 g1 T6)
                (focus (first | exact wanted_none rfl | exact wanted_yes rfl rfl rfl))
                focus (simp only [effAt]; simp [go_sem]; (with_reducible exact effUpon_enter (mt_state0 hM H6a.out)))
                (focus (first|(apply put_some rfl;focus (conv=>lhs;dsimp only [Xr,Xs])<;>rfl)|exact put_none rfl))
                intro u14 hM
                clear hc0 hc1
                obtain ⟨hc0, hc1, hbw⟩ := hM.s
                clear hbw
                repeat (first|(with_reducible apply Xa)|((with_reducible apply region_k);intro KK kk)|(with_reducible apply Xc)|((with_reducible apply seq_k);intro KK kk)|((with_reducible apply Xk);(focus first|exact wanted_none rfl|exact wanted_yes rfl rfl rfl);(focus (simp [go_sem,effAt,↓IntWalk.iteOmega, *];(try go_ints);with_reducible first|exact Xm|exact Xn));focus (first|(apply put_some rfl;focus (conv=>lhs;dsimp only [Xr,Xs])<;>rfl)|exact put_none rfl))|((with_reducible apply Xl);(focus first|exact wanted_no rfl rfl rfl|exact wanted_undef rfl rfl rfl);focus (first|(apply put_some rfl;focus (conv=>lhs;dsimp only [Xr,Xs])<;>rfl)|exact put_none rfl))|(with_reducible first|apply Xe|apply Xf|apply Xg|apply Xh)|((with_reducible apply Xi);focus first|rfl|(simp [go_sem, *];done))|((with_reducible apply Xj);focus first|rfl|(simp [go_sem, *];done))|(simp only [Exit.then,Exit.inBlock,↓reduceIte,Nat.reduceEqDiff])|((with_reducible apply kf_out);focus assumption))
                with_reducible apply Xt (Mt w tg g0 g1 T6)
                (focus (first | exact wanted_none rfl | exact wanted_yes rfl rfl rfl))
                focus (simp only [effAt]; simp [go_sem]; (with_reducible exact effUpon_enter (mt_state1 hM H6b.out)))
                (focus (first|(apply put_some rfl;focus (conv=>lhs;dsimp only [Xr,Xs])<;>rfl)|exact put_none rfl))
                intro u15 hM
                clear hc0 hc1
                have Fu15 : Below u15.heap.size u15 u15 := Below.refl _ _
                repeat (first|(with_reducible apply Xa)|((with_reducible apply region_k);intro KK kk)|(with_reducible apply Xc)|((with_reducible apply seq_k);intro KK kk)|((with_reducible apply Xk);(focus first|exact wanted_none rfl|exact wanted_yes rfl rfl rfl);(focus (simp [go_sem,effAt,↓IntWalk.iteOmega, *];(try go_ints);with_reducible first|exact Xm|exact Xn));focus (first|(apply put_some rfl;focus (conv=>lhs;dsimp only [Xr,Xs])<;>rfl)|exact put_none rfl))|((with_reducible apply Xl);(focus first|exact wanted_no rfl rfl rfl|exact wanted_undef rfl rfl rfl);focus (first|(apply put_some rfl;focus (conv=>lhs;dsimp only [Xr,Xs])<;>rfl)|exact put_none rfl))|(with_reducible first|apply Xe|apply Xf|apply Xg|apply Xh)|((with_reducible apply Xi);focus first|rfl|(simp [go_sem, *];done))|((with_reducible apply Xj);focus first|rfl|(simp [go_sem, *];done))|(simp only [Exit.then,Exit.inBlock,↓reduceIte,Nat.reduceEqDiff])|((with_reducible apply kf_out);focus assumption))
                ((with_reducible apply Xt (Below u15.heap.size u15)); (focus rfl); (focus (simp only [effAt]; simp [go_sem]; (with_reducible exact effUpon_enter (works_any _)))); (focus ((first|(apply put_some rfl;focus (conv=>lhs;dsimp only [Xr,Xs])<;>rfl)|exact put_none rfl))))
                intro w7 hs
                have Fw7 := Fu15.trans (hs.mono Fu15.size)
                clear hs Fu15
                repeat (first|(with_reducible apply Xa)|((with_reducible apply region_k);intro KK kk)|(with_reducible apply Xc)|((with_reducible apply seq_k);intro KK kk)|((with_reducible apply Xk);(focus first|exact wanted_none rfl|exact wanted_yes rfl rfl rfl);(focus (simp [go_sem,effAt,↓IntWalk.iteOmega, *];(try go_ints);with_reducible first|exact Xm|exact Xn));focus (first|(apply put_some rfl;focus (conv=>lhs;dsimp only [Xr,Xs])<;>rfl)|exact put_none rfl))|((with_reducible apply Xl);(focus first|exact wanted_no rfl rfl rfl|exact wanted_undef rfl rfl rfl);focus (first|(apply put_some rfl;focus (conv=>lhs;dsimp only [Xr,Xs])<;>rfl)|exact put_none rfl))|(with_reducible first|apply Xe|apply Xf|apply Xg|apply Xh)|((with_reducible apply Xi);focus first|rfl|(simp [go_sem, *];done))|((with_reducible apply Xj);focus first|rfl|(simp [go_sem, *];done))|(simp only [Exit.then,Exit.inBlock,↓reduceIte,Nat.reduceEqDiff])|((with_reducible apply kf_out);focus assumption))
                go_ret
                exact ⟨rfl, hM.s.2.2.trans (Below.mono (by assumption) hM.s.2.2.size)⟩
end Go.Proofs.Ytggpecddkbceoaa
