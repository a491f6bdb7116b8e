/- Two links that hear one another, till nothing more is said: the walk of two.run. -/
import Derived.Test.YtggpecddkbceoaaM3
import Derived.Deep.LoopGhost
set_option linter.unusedSimpArgs false
set_option linter.unusedVariables false
namespace Go.Proofs.Ytggpecddkbceoaa
open Go.RowKit Go.Eff
attribute [local irreducible] Go.wpList Go.wpOp Go.Eff.wpAnyG
def lateR (i : Nat) : Bool := i == 15
theorem QR.len {w : World} {B : Nat} {sv : Value} {q : List AT} (h : QR w B sv q) : ∃ ao cap, sv = .slice ao q.length cap := by
  rcases h with ⟨rfl, rfl⟩ | ⟨b, off, cap, cur, rfl, _⟩
  · exact ⟨_, _, rfl⟩
  · exact ⟨_, _, rfl⟩
set_option maxRecDepth 100000 in
set_option maxHeartbeats 8000000 in
theorem run_any {W0 : World} {tg g0 g1 : Nat} (hp : Places W0.heap.size tg g0 g1) (first : Bool) (t : TS) (hg0 : Good t.l0) (hg1 : Good t.l1) (hl0 : t.q0.length ≤ 100) (hl1 : t.q1.length ≤ 100) (w : World) (h : Mt W0 tg g0 g1 t w) :
    Calls Try.prog 19 #[.pointer (some ⟨tg, 0, none⟩), .bool first] w (Ret (.tuple #[]) (Mt W0 tg g0 g1 (runF first 100 t))) := by
  have HP := Lib.hid hp
  obtain ⟨R, hR⟩ : ∃ R, runF first 100 t = R := ⟨_, rfl⟩
  rw [hR]
  have HR := Lib.hid hR
  clear hp hR
  go_enter Try.func19, Try.ntmps19
  have F0 : Below w.heap.size w w := Below.refl _ _
  repeat (first|(with_reducible first|apply Xa|apply Xb|apply Xc|apply Xd)|((with_reducible apply Xk);(focus rfl);(focus (simp [go_sem,effAt,↓IntWalk.iteOmega, *];(try go_ints);with_reducible first|exact Xm|exact Xn));focus (simp only [Xo,Xp,Xq,Xr,Xs];rfl))|((with_reducible apply Xl);(focus rfl);focus (simp only [Xo,Xp,Xq,Xr,Xs];rfl))|(with_reducible first|apply Xe|apply Xf|apply Xg|apply Xh)|((with_reducible apply Xi);focus first|rfl|(simp [go_sem, *];done))|((with_reducible apply Xj);focus first|rfl|(simp [go_sem, *];done))|(simp only [Exit.then,Exit.inBlock,↓reduceIte,Nat.reduceEqDiff]))
  go_loopg [4] 100 (fun q v4 wr => ∃ (i : Nat) (x : TS), v4 = .int .i64 (i : Int) ∧ i + q = 100 ∧ runF first q x = R ∧ Good x.l0 ∧ Good x.l1 ∧ x.q0.length ≤ 100 + i ∧ x.q1.length ≤ 100 + i ∧ Mt W0 tg g0 g1 x wr)
  case atStart => exact ⟨0, t, rfl, by omega, HR.out, hg0, hg1, by omega, by omega, h⟩
  case round =>
    rename_i J K hJ hK
    clear h hg0 hg1 hl0 hl1 HR
    obtain ⟨i, x, rfl, hi, hrun, hg0, hg1, hl0, hl1, s0, s1, hM⟩ := hrel
    by_cases hlt : i < 100
    case neg =>
      have hlt' : ¬ (i : Int) < 100 := by omega
      obtain rfl : gk = 0 := by omega
      have hx : x = R := hrun
      subst hx
      clear hlt hi hrun
      repeat (first|(with_reducible first|apply Xa|apply Xb|apply Xc|apply Xd)|((with_reducible apply Xk);(focus rfl);(focus (simp [go_sem,effAt,↓IntWalk.iteOmega, *];(try go_ints);with_reducible first|exact Xm|exact Xn));focus (simp only [Xo,Xp,Xq,Xr,Xs];rfl))|((with_reducible apply Xl);(focus rfl);focus (simp only [Xo,Xp,Xq,Xr,Xs];rfl))|(with_reducible first|apply Xe|apply Xf|apply Xg|apply Xh)|((with_reducible apply Xi);focus first|rfl|(simp [go_sem, *];done))|((with_reducible apply Xj);focus first|rfl|(simp [go_sem, *];done))|(simp only [Exit.then,Exit.inBlock,↓reduceIte,Nat.reduceEqDiff]))
      refine bodyPost_end (results_none rfl _ _ _) rfl ⟨rfl, s0, s1, hM⟩
    case pos =>
      have hlt' : (i : Int) < 100 := by omega
      obtain ⟨n, rfl⟩ : ∃ n, gk = n + 1 := ⟨gk - 1, by omega⟩
      obtain ⟨l0, l1, q0, q1⟩ := x
      dsimp only at hg0 hg1 hl0 hl1
      have hq0 := hM.q0.len
      have hq1 := hM.q1.len
      dsimp only at hq0 hq1
      obtain ⟨a0, c0, rfl⟩ := hq0
      obtain ⟨a1, c1, rfl⟩ := hq1
      have hB_t := hM.blk
      have HM := Lib.hid hM
      have HRUN := Lib.hid hrun
      have HL := Lib.hid (show q0.length ≤ 100 + i ∧ q1.length ≤ 100 + i from ⟨hl0, hl1⟩)
      clear hM hrun hl0 hl1
      -- 1: first = true, q0 none, q1 none
      -- 2: first = true, q0 none, q1 some
      -- 3: first = true, q0 some, q1 none
      -- 4: first = true, q0 some, q1 some
      -- 5: first = false, q0 none, q1 none
      -- 6: first = false, q0 none, q1 some
      -- 7: first = false, q0 some, q1 none
      -- 8: first = false, q0 some, q1 some
      cases first <;> cases q0 <;> cases q1
      · clear hlt
        have Fwr : Below wr.heap.size wr wr := Below.refl _ _
        have hc_t := hB_t.cell
        repeat (first|(with_reducible first|apply Xa|apply Xb|apply Xc|apply Xd)|((with_reducible apply Xk);(focus rfl);(focus (simp [go_sem,effAt,↓IntWalk.iteOmega, *];(try go_ints);with_reducible first|exact Xm|exact Xn));focus (simp only [Xo,Xp,Xq,Xr,Xs];rfl))|((with_reducible apply Xl);(focus rfl);focus (simp only [Xo,Xp,Xq,Xr,Xs];rfl))|(with_reducible first|apply Xe|apply Xf|apply Xg|apply Xh)|((with_reducible apply Xi);focus first|rfl|(simp [go_sem, *];done))|((with_reducible apply Xj);focus first|rfl|(simp [go_sem, *];done))|(simp only [Exit.then,Exit.inBlock,↓reduceIte,Nat.reduceEqDiff]))
        refine bodyPost_end (results_none rfl _ _ _) rfl ⟨rfl, ?_⟩
        rw [← HRUN.out, run_stop (by rfl)]
        exact ⟨_, _, HM.out.below (by assumption)⟩
      · clear hlt
        rename_i x1 r1
        obtain ⟨b, off, cap, he, hc1, hcm, hBb, hbl, hcl, hQr⟩ := HM.out.q1.head
        simp only [Value.slice.injEq] at he
        obtain ⟨rfl, _, rfl⟩ := he
        obtain ⟨kx, cx, px, tx, fx⟩ := x1
        have e0 : wr.cell? ⟨b, off, none⟩ = some (.int .u8 kx) := hcl 0 _ rfl
        have e1 : wr.cell? ⟨b, off + 1, none⟩ = some (.bool cx) := hcl 1 _ rfl
        have e2 : wr.cell? ⟨b, off + 2, none⟩ = some (.bool px) := hcl 2 _ rfl
        have e3 : wr.cell? ⟨b, off + 3, none⟩ = some (.int .u8 tx) := hcl 3 _ rfl
        have e4 : wr.cell? ⟨b, off + 4, none⟩ = some (.int .u8 fx) := hcl 4 _ rfl
        have HQR := Lib.hid hQr
        have hcap1 : (1 : Int) ≤ (c1 : Int) := by omega
        clear hcl hQr
        have Fwr : Below wr.heap.size wr wr := Below.refl _ _
        have FTwr : Turn (fun i => i = tg ∨ wr.heap.size ≤ i) wr wr := Turn.refl _
        have hc_t := hB_t.cell
        repeat (first|(with_reducible first|apply Xa|apply Xb|apply Xc|apply Xd)|((with_reducible apply Xk);(focus rfl);(focus (simp [go_sem,effAt,↓IntWalk.iteOmega, *];(try go_ints);with_reducible first|exact Xm|exact Xn));focus (simp only [Xo,Xp,Xq,Xr,Xs];rfl))|((with_reducible apply Xl);(focus rfl);focus (simp only [Xo,Xp,Xq,Xr,Xs];rfl))|(with_reducible first|apply Xe|apply Xf|apply Xg|apply Xh)|((with_reducible apply Xi);focus first|rfl|(simp [go_sem, *];done))|((with_reducible apply Xj);focus first|rfl|(simp [go_sem, *];done))|(simp only [Exit.then,Exit.inBlock,↓reduceIte,Nat.reduceEqDiff]))
        clear e0 e1 e2 e3 e4
        have lt_t_a := hB_t.lt
        have le_a := FTwr.size
        ((with_reducible apply Xu); (focus rfl); (focus (simp [go_sem, effAt]; exact ⟨rfl, rfl⟩)); (focus ((simp only [Xo,Xp,Xq,Xr,Xs];rfl))))
        intro w1 hB_a hs
        have Fw1 := FTwr.trans (Turn.of_below hs)
        replace hB_t := hB_t.below hs hB_t.lt
        clear hs FTwr
        clear hc_t; have hc_t := hB_t.cell
        have hc_a := hB_a.cell
        have hf_a := hB_a.frozen
        ((with_reducible apply Xt (fun w' => Blk w' _ _ _ ∧ w1.grownBy w' (some _))); (focus rfl); (focus (simp [go_sem, effAt, *]; exact ⟨rfl, (((((hB_a.set_ 0 _).set_ 1 _).set_ 2 _).set_ 3 _).set_ 4 _), (grown_set (grown_set (grown_set (grown_set (grown_set (World.grownBy.refl _ _))))))⟩)); (focus ((simp only [Xo,Xp,Xq,Xr,Xs];rfl))))
        clear hf_a hc_a hB_a
        intro w2 hs
        obtain ⟨hB_a, hs⟩ := hs
        simp only [Xq,Xr,Xs] at hB_a
        have Fw2 := Fw1.trans (Turn.of_grown hs (by first | exact .inl rfl | exact .inr (by omega)))
        replace hB_t := hB_t.grown hs (by intro hk; injection hk with hk; have := hB_t.lt; have := hB_a.lt; omega)
        clear hs Fw1
        clear hc_t; have hc_t := hB_t.cell
        have hc_a := hB_a.cell
        repeat (first|(with_reducible first|apply Xa|apply Xb|apply Xc|apply Xd)|((with_reducible apply Xk);(focus rfl);(focus (simp [go_sem,effAt,↓IntWalk.iteOmega, *];(try go_ints);with_reducible first|exact Xm|exact Xn));focus (simp only [Xo,Xp,Xq,Xr,Xs];rfl))|((with_reducible apply Xl);(focus rfl);focus (simp only [Xo,Xp,Xq,Xr,Xs];rfl))|(with_reducible first|apply Xe|apply Xf|apply Xg|apply Xh)|((with_reducible apply Xi);focus first|rfl|(simp [go_sem, *];done))|((with_reducible apply Xj);focus first|rfl|(simp [go_sem, *];done))|(simp only [Exit.then,Exit.inBlock,↓reduceIte,Nat.reduceEqDiff]))
        refine wp_region_tail 12 (by kernel_rfl) (by kernel_rfl) ?_
        simp only [List.take_succ_cons, List.take_zero, List.drop_succ_cons, List.drop_zero]
        generalize hww3 : World.drew w2 = w3
        have hs : Below w2.heap.size w2 w3 := hww3 ▸ (Below.refl _ _).drew
        clear hww3
        have Fw3 := Fw2.trans (Turn.of_below hs)
        replace hB_t := hB_t.below hs hB_t.lt
        replace hB_a := hB_a.below hs hB_a.lt
        clear hs Fw2
        clear hc_t; have hc_t := hB_t.cell
        clear hc_a; have hc_a := hB_a.cell
        repeat (first | ((with_reducible apply still_q); (focus rfl); (focus (simp [go_sem, stAt, ↓IntWalk.iteOmega, *]; (try go_ints); (first | (with_reducible exact stUpon_val) | (with_reducible exact stUpon_skip)))); (focus ((simp only [Xo,Xp,Xq,Xr,Xs];rfl)))) | ((with_reducible apply still_s); (focus rfl); (focus ((simp only [Xo,Xp,Xq,Xr,Xs];rfl)))))
        with_reducible refine wpStill_nil ?_
        have hf_t := hB_t.frozen
        ((with_reducible apply Xt (fun w' => Blk w' _ _ _ ∧ w3.grownBy w' (some _))); (focus rfl); (focus (simp [go_sem, effAt, *]; exact ⟨rfl, (hB_t.set_ 3 _), (grown_set (World.grownBy.refl _ _))⟩)); (focus ((simp only [Xo,Xp,Xq,Xr,Xs];rfl))))
        clear hf_t hc_t hB_t
        intro w4 hs
        obtain ⟨hB_t, hs⟩ := hs
        simp only [Xq,Xr,Xs] at hB_t
        have Fw4 := Fw3.trans (Turn.of_grown hs (by first | exact .inl rfl | exact .inr (by omega)))
        replace hB_a := hB_a.grown hs (by intro hk; injection hk with hk; have := hB_a.lt; have := hB_t.lt; omega)
        clear hs Fw3
        clear hc_a; have hc_a := hB_a.cell
        have hc_t := hB_t.cell
        repeat (first|(with_reducible first|apply Xa|apply Xb|apply Xc|apply Xd)|((with_reducible apply Xk);(focus rfl);(focus (simp [go_sem,effAt,↓IntWalk.iteOmega, *];(try go_ints);with_reducible first|exact Xm|exact Xn));focus (simp only [Xo,Xp,Xq,Xr,Xs];rfl))|((with_reducible apply Xl);(focus rfl);focus (simp only [Xo,Xp,Xq,Xr,Xs];rfl))|(with_reducible first|apply Xe|apply Xf|apply Xg|apply Xh)|((with_reducible apply Xi);focus first|rfl|(simp [go_sem, *];done))|((with_reducible apply Xj);focus first|rfl|(simp [go_sem, *];done))|(simp only [Exit.then,Exit.inBlock,↓reduceIte,Nat.reduceEqDiff]))
        have hne : b ≠ tg := (HM.out.a1 b rfl).1
        have hnt : ∀ k, blkOf (Value.slice (if c1 = 1 then some ⟨b, off, none⟩ else some ⟨b, off + 5, none⟩) r1.length (c1 - 1)) = some k → ¬ (k = tg ∨ wr.heap.size ≤ k) := by
          intro k hk
          obtain rfl : b = k := by split at hk <;> simpa [blkOf] using hk
          rintro (e | e)
          · exact hne e
          · omega
        have hQ2 := qr_turn HQR.out (by assumption) hnt
        have hM2 := HM.out.put0 HP.out hB_t hQ2 (Turn.mono (by assumption) (fun k hk => by rcases hk with e | e; exact .inl e; exact .inr (.inr e))) (fun k hk => .inl (by split at hk <;> simpa [blkOf] using hk))
        have hM3 := hM2.below (Below.refl _ _).drew
        have hB_a3 := hB_a.drew
        clear hM2 hB_t hB_a hc_t hc_a hQ2 hnt
        refine late_region 16 (fun w' : World => w'.cell? ⟨tg, 1, none⟩ = some (.pointer (some ⟨g1, 0, none⟩)) ∧ ∀ i, w'.cell? ⟨wr.heap.size, i, none⟩ = (#[.int .u8 kx, .bool cx, .bool px, .int .u8 tx, .int .u8 fx] : Array Value)[i]?) lateR (by kernel_rfl) (by kernel_rfl) ?_
        have HS : ∀ w' : World, (w'.cell? ⟨tg, 1, none⟩ = some (.pointer (some ⟨g1, 0, none⟩)) ∧ ∀ i, w'.cell? ⟨wr.heap.size, i, none⟩ = (#[.int .u8 kx, .bool cx, .bool px, .int .u8 tx, .int .u8 fx] : Array Value)[i]?) → (w'.cell? ⟨tg, 1, none⟩ = some (.pointer (some ⟨g1, 0, none⟩)) ∧ ∀ i, w'.cell? ⟨wr.heap.size, i, none⟩ = (#[.int .u8 kx, .bool cx, .bool px, .int .u8 tx, .int .u8 fx] : Array Value)[i]?) := fun _ h => h
        generalize World.drew _ = u0 at hM3 hB_a3 ⊢
        have hS0 : u0.cell? ⟨tg, 1, none⟩ = some (.pointer (some ⟨g1, 0, none⟩)) ∧ ∀ i, u0.cell? ⟨wr.heap.size, i, none⟩ = (#[.int .u8 kx, .bool cx, .bool px, .int .u8 tx, .int .u8 fx] : Array Value)[i]? := ⟨hM3.blk.cell 1, hB_a3.cell⟩
        (with_reducible apply late_v 0)
        (focus rfl)
        (focus kernel_rfl)
        (focus kernel_rfl)
        (focus kernel_rfl)
        (focus kernel_rfl)
        (focus kernel_rfl)
        (focus rfl)
        (focus exact fun _ _ _ h => h)
        (focus (first | exact wanted_none rfl | exact wanted_yes rfl rfl rfl))
        (focus (intro w' hS; obtain ⟨hc_s, hc_a⟩ := HS _ hS; simp [go_sem, valAt, ↓IntWalk.iteOmega, *]; (try go_ints); (with_reducible exact valUpon_val)))
        (focus exact hS0)
        (focus (first|(apply put_some rfl;focus (conv=>lhs;dsimp only [Xr,Xs])<;>rfl)|exact put_none rfl))
        (with_reducible apply late_v 1)
        (focus rfl)
        (focus kernel_rfl)
        (focus kernel_rfl)
        (focus kernel_rfl)
        (focus kernel_rfl)
        (focus kernel_rfl)
        (focus rfl)
        (focus exact fun _ _ _ h => h)
        (focus (first | exact wanted_none rfl | exact wanted_yes rfl rfl rfl))
        (focus (intro w' hS; obtain ⟨hc_s, hc_a⟩ := HS _ hS; simp [go_sem, valAt, ↓IntWalk.iteOmega, *]; (try go_ints); (with_reducible exact valUpon_val)))
        (focus exact hS0)
        (focus (first|(apply put_some rfl;focus (conv=>lhs;dsimp only [Xr,Xs])<;>rfl)|exact put_none rfl))
        (with_reducible apply late_v 2)
        (focus rfl)
        (focus kernel_rfl)
        (focus kernel_rfl)
        (focus kernel_rfl)
        (focus kernel_rfl)
        (focus kernel_rfl)
        (focus rfl)
        (focus exact fun _ _ _ h => h)
        (focus (first | exact wanted_none rfl | exact wanted_yes rfl rfl rfl))
        (focus (intro w' hS; obtain ⟨hc_s, hc_a⟩ := HS _ hS; simp [go_sem, valAt, ↓IntWalk.iteOmega, *]; (try go_ints); (with_reducible exact valUpon_val)))
        (focus exact hS0)
        (focus (first|(apply put_some rfl;focus (conv=>lhs;dsimp only [Xr,Xs])<;>rfl)|exact put_none rfl))
        (with_reducible apply late_v 3)
        (focus rfl)
        (focus kernel_rfl)
        (focus kernel_rfl)
        (focus kernel_rfl)
        (focus kernel_rfl)
        (focus kernel_rfl)
        (focus rfl)
        (focus exact fun _ _ _ h => h)
        (focus (first | exact wanted_none rfl | exact wanted_yes rfl rfl rfl))
        (focus (intro w' hS; obtain ⟨hc_s, hc_a⟩ := HS _ hS; simp [go_sem, valAt, ↓IntWalk.iteOmega, *]; (try go_ints); (with_reducible exact valUpon_val)))
        (focus exact hS0)
        (focus (first|(apply put_some rfl;focus (conv=>lhs;dsimp only [Xr,Xs])<;>rfl)|exact put_none rfl))
        (with_reducible apply late_v 4)
        (focus rfl)
        (focus kernel_rfl)
        (focus kernel_rfl)
        (focus kernel_rfl)
        (focus kernel_rfl)
        (focus kernel_rfl)
        (focus rfl)
        (focus exact fun _ _ _ h => h)
        (focus (first | exact wanted_none rfl | exact wanted_yes rfl rfl rfl))
        (focus (intro w' hS; obtain ⟨hc_s, hc_a⟩ := HS _ hS; simp [go_sem, valAt, ↓IntWalk.iteOmega, *]; (try go_ints); (with_reducible exact valUpon_val)))
        (focus exact hS0)
        (focus (first|(apply put_some rfl;focus (conv=>lhs;dsimp only [Xr,Xs])<;>rfl)|exact put_none rfl))
        (with_reducible apply late_v 5)
        (focus rfl)
        (focus kernel_rfl)
        (focus kernel_rfl)
        (focus kernel_rfl)
        (focus kernel_rfl)
        (focus kernel_rfl)
        (focus rfl)
        (focus exact fun _ _ _ h => h)
        (focus (first | exact wanted_none rfl | exact wanted_yes rfl rfl rfl))
        (focus (intro w' hS; obtain ⟨hc_s, hc_a⟩ := HS _ hS; simp [go_sem, valAt, ↓IntWalk.iteOmega, *]; (try go_ints); (with_reducible exact valUpon_val)))
        (focus exact hS0)
        (focus (first|(apply put_some rfl;focus (conv=>lhs;dsimp only [Xr,Xs])<;>rfl)|exact put_none rfl))
        (with_reducible apply late_v 6)
        (focus rfl)
        (focus kernel_rfl)
        (focus kernel_rfl)
        (focus kernel_rfl)
        (focus kernel_rfl)
        (focus kernel_rfl)
        (focus rfl)
        (focus exact fun _ _ _ h => h)
        (focus (first | exact wanted_none rfl | exact wanted_yes rfl rfl rfl))
        (focus (intro w' hS; obtain ⟨hc_s, hc_a⟩ := HS _ hS; simp [go_sem, valAt, ↓IntWalk.iteOmega, *]; (try go_ints); (with_reducible exact valUpon_val)))
        (focus exact hS0)
        (focus (first|(apply put_some rfl;focus (conv=>lhs;dsimp only [Xr,Xs])<;>rfl)|exact put_none rfl))
        (with_reducible apply late_v 7)
        (focus rfl)
        (focus kernel_rfl)
        (focus kernel_rfl)
        (focus kernel_rfl)
        (focus kernel_rfl)
        (focus kernel_rfl)
        (focus rfl)
        (focus exact fun _ _ _ h => h)
        (focus (first | exact wanted_none rfl | exact wanted_yes rfl rfl rfl))
        (focus (intro w' hS; obtain ⟨hc_s, hc_a⟩ := HS _ hS; simp [go_sem, valAt, ↓IntWalk.iteOmega, *]; (try go_ints); (with_reducible exact valUpon_val)))
        (focus exact hS0)
        (focus (first|(apply put_some rfl;focus (conv=>lhs;dsimp only [Xr,Xs])<;>rfl)|exact put_none rfl))
        (with_reducible apply late_v 8)
        (focus rfl)
        (focus kernel_rfl)
        (focus kernel_rfl)
        (focus kernel_rfl)
        (focus kernel_rfl)
        (focus kernel_rfl)
        (focus rfl)
        (focus exact fun _ _ _ h => h)
        (focus (first | exact wanted_none rfl | exact wanted_yes rfl rfl rfl))
        (focus (intro w' hS; obtain ⟨hc_s, hc_a⟩ := HS _ hS; simp [go_sem, valAt, ↓IntWalk.iteOmega, *]; (try go_ints); (with_reducible exact valUpon_val)))
        (focus exact hS0)
        (focus (first|(apply put_some rfl;focus (conv=>lhs;dsimp only [Xr,Xs])<;>rfl)|exact put_none rfl))
        (with_reducible apply late_v 9)
        (focus rfl)
        (focus kernel_rfl)
        (focus kernel_rfl)
        (focus kernel_rfl)
        (focus kernel_rfl)
        (focus kernel_rfl)
        (focus rfl)
        (focus exact fun _ _ _ h => h)
        (focus (first | exact wanted_none rfl | exact wanted_yes rfl rfl rfl))
        (focus (intro w' hS; obtain ⟨hc_s, hc_a⟩ := HS _ hS; simp [go_sem, valAt, ↓IntWalk.iteOmega, *]; (try go_ints); (with_reducible exact valUpon_val)))
        (focus exact hS0)
        (focus (first|(apply put_some rfl;focus (conv=>lhs;dsimp only [Xr,Xs])<;>rfl)|exact put_none rfl))
        (with_reducible apply late_v 10)
        (focus rfl)
        (focus kernel_rfl)
        (focus kernel_rfl)
        (focus kernel_rfl)
        (focus kernel_rfl)
        (focus kernel_rfl)
        (focus rfl)
        (focus exact fun _ _ _ h => h)
        (focus (first | exact wanted_none rfl | exact wanted_yes rfl rfl rfl))
        (focus (intro w' hS; obtain ⟨hc_s, hc_a⟩ := HS _ hS; simp [go_sem, valAt, ↓IntWalk.iteOmega, *]; (try go_ints); (with_reducible exact valUpon_val)))
        (focus exact hS0)
        (focus (first|(apply put_some rfl;focus (conv=>lhs;dsimp only [Xr,Xs])<;>rfl)|exact put_none rfl))
        (with_reducible apply late_v 11)
        (focus rfl)
        (focus kernel_rfl)
        (focus kernel_rfl)
        (focus kernel_rfl)
        (focus kernel_rfl)
        (focus kernel_rfl)
        (focus rfl)
        (focus exact fun _ _ _ h => h)
        (focus (first | exact wanted_none rfl | exact wanted_yes rfl rfl rfl))
        (focus (intro w' hS; obtain ⟨hc_s, hc_a⟩ := HS _ hS; simp [go_sem, valAt, ↓IntWalk.iteOmega, *]; (try go_ints); (with_reducible exact valUpon_val)))
        (focus exact hS0)
        (focus (first|(apply put_some rfl;focus (conv=>lhs;dsimp only [Xr,Xs])<;>rfl)|exact put_none rfl))
        (with_reducible apply late_v 12)
        (focus rfl)
        (focus kernel_rfl)
        (focus kernel_rfl)
        (focus kernel_rfl)
        (focus kernel_rfl)
        (focus kernel_rfl)
        (focus rfl)
        (focus exact fun _ _ _ h => h)
        (focus (first | exact wanted_none rfl | exact wanted_yes rfl rfl rfl))
        (focus (intro w' hS; obtain ⟨hc_s, hc_a⟩ := HS _ hS; simp [go_sem, valAt, ↓IntWalk.iteOmega, *]; (try go_ints); (with_reducible exact valUpon_val)))
        (focus exact hS0)
        (focus (first|(apply put_some rfl;focus (conv=>lhs;dsimp only [Xr,Xs])<;>rfl)|exact put_none rfl))
        (with_reducible apply late_v 13)
        (focus rfl)
        (focus kernel_rfl)
        (focus kernel_rfl)
        (focus kernel_rfl)
        (focus kernel_rfl)
        (focus kernel_rfl)
        (focus rfl)
        (focus exact fun _ _ _ h => h)
        (focus (first | exact wanted_none rfl | exact wanted_yes rfl rfl rfl))
        (focus (intro w' hS; obtain ⟨hc_s, hc_a⟩ := HS _ hS; simp [go_sem, valAt, ↓IntWalk.iteOmega, *]; (try go_ints); (with_reducible exact valUpon_val)))
        (focus exact hS0)
        (focus (first|(apply put_some rfl;focus (conv=>lhs;dsimp only [Xr,Xs])<;>rfl)|exact put_none rfl))
        refine late_all (rs := [14]) (by kernel_rfl) (by simp) ?_
        refine List.forall_mem_cons.2 ⟨?_, by intro _ h; cases h⟩
        have hl3 := hM3.l1
        dsimp only at hl3
        have hgl : g1 ≠ wr.heap.size := by have := Blk.lt (HM.out.l1); omega
        (with_reducible apply late_e (fun w' => LL w' g1 (hearF l1 kx px cx).2 ∧ u0.grownBy w' (some g1)))
        (focus rfl)
        (focus (first | exact wanted_none rfl | exact wanted_yes rfl rfl rfl))
        (focus (simp only [effAt]; simp [go_sem]; (with_reducible exact effUpon_enter (hear_any g1 l1 hg1 kx px cx _ hl3))))
        (focus (first|(apply put_some rfl;focus (conv=>lhs;dsimp only [Xr,Xs])<;>rfl)|exact put_none rfl))
        (focus exact fun w' h => .inr ⟨(hM3.hear1 HP.out h.1 h.2).blk.cell 1, (hB_a3.grown h.2 (fun e => by injection e with e; exact hgl e.symm)).cell⟩)
        rintro u1 ⟨hl4, hgr⟩
        have hM4 := hM3.hear1 HP.out hl4 hgr
        have hLL := HL.out
        simp only [List.length_cons, List.length_nil] at hLL
        have hMt0 := (⟨_, _, hM4⟩ : ∃ s0 s1, MT W0 tg g0 g1 _ s0 s1 u1)
        have hSd := said_any HP.out true (hearF l1 kx px cx).1 (by first | omega | (dsimp only; omega) | (simp; done) | (simp; omega)) (by first | omega | (dsimp only; omega) | (simp; done) | (simp; omega)) u1 hMt0
        simp only [↓reduceIte, Bool.false_eq_true] at hSd
        refine late_all (rs := [15]) (by kernel_rfl) (by simp) ?_
        refine List.forall_mem_cons.2 ⟨?_, by intro _ h; cases h⟩
        (with_reducible apply late_e (Mt W0 tg g0 g1 (saidF _ true (hearF l1 kx px cx).1)))
        (focus rfl)
        (focus (first | exact wanted_none rfl | exact wanted_yes rfl rfl rfl))
        (focus (simp only [effAt]; simp [go_sem]; (with_reducible exact effUpon_enter hSd)))
        (focus (first|(apply put_some rfl;focus (conv=>lhs;dsimp only [Xr,Xs])<;>rfl)|exact put_none rfl))
        (focus exact fun w' h => .inl rfl)
        rintro u2 hMt
        (with_reducible apply late_done)
        (focus kernel_rfl)
        repeat (first|(with_reducible first|apply Xa|apply Xb|apply Xc|apply Xd)|((with_reducible apply Xk);(focus rfl);(focus (simp [go_sem,effAt,↓IntWalk.iteOmega, *];(try go_ints);with_reducible first|exact Xm|exact Xn));focus (simp only [Xo,Xp,Xq,Xr,Xs];rfl))|((with_reducible apply Xl);(focus rfl);focus (simp only [Xo,Xp,Xq,Xr,Xs];rfl))|(with_reducible first|apply Xe|apply Xf|apply Xg|apply Xh)|((with_reducible apply Xi);focus first|rfl|(simp [go_sem, *];done))|((with_reducible apply Xj);focus first|rfl|(simp [go_sem, *];done))|(simp only [Exit.then,Exit.inBlock,↓reduceIte,Nat.reduceEqDiff]))
        refine hK _ _ (Handed.intro n ?measure (hJ _ _ _ ?_))
        rotate_left
        (repeat apply Exists.intro)
        refine ⟨?rel, rfl⟩
        case rel => exact ⟨i + 1, _, by go_num, by omega, (run_step (by rfl) (by rfl)).symm.trans HRUN.out, by rw [(said_l _ _ _).1]; first | exact hg0 | exact good_hear hg0 _ _ _, by rw [(said_l _ _ _).2]; first | exact hg1 | exact good_hear hg1 _ _ _, Nat.le_trans (said_len _ _ _).1 (by first | omega | (dsimp only; omega) | (simp; done) | (simp; omega)), Nat.le_trans (said_len _ _ _).2 (by first | omega | (dsimp only; omega) | (simp; done) | (simp; omega)), hMt⟩
        case measure => omega
      · clear hlt
        rename_i x0 r0
        obtain ⟨b, off, cap, he, hc1, hcm, hBb, hbl, hcl, hQr⟩ := HM.out.q0.head
        simp only [Value.slice.injEq] at he
        obtain ⟨rfl, _, rfl⟩ := he
        obtain ⟨kx, cx, px, tx, fx⟩ := x0
        have e0 : wr.cell? ⟨b, off, none⟩ = some (.int .u8 kx) := hcl 0 _ rfl
        have e1 : wr.cell? ⟨b, off + 1, none⟩ = some (.bool cx) := hcl 1 _ rfl
        have e2 : wr.cell? ⟨b, off + 2, none⟩ = some (.bool px) := hcl 2 _ rfl
        have e3 : wr.cell? ⟨b, off + 3, none⟩ = some (.int .u8 tx) := hcl 3 _ rfl
        have e4 : wr.cell? ⟨b, off + 4, none⟩ = some (.int .u8 fx) := hcl 4 _ rfl
        have HQR := Lib.hid hQr
        have hcap1 : (1 : Int) ≤ (c0 : Int) := by omega
        clear hcl hQr
        have Fwr : Below wr.heap.size wr wr := Below.refl _ _
        have FTwr : Turn (fun i => i = tg ∨ wr.heap.size ≤ i) wr wr := Turn.refl _
        have hc_t := hB_t.cell
        repeat (first|(with_reducible first|apply Xa|apply Xb|apply Xc|apply Xd)|((with_reducible apply Xk);(focus rfl);(focus (simp [go_sem,effAt,↓IntWalk.iteOmega, *];(try go_ints);with_reducible first|exact Xm|exact Xn));focus (simp only [Xo,Xp,Xq,Xr,Xs];rfl))|((with_reducible apply Xl);(focus rfl);focus (simp only [Xo,Xp,Xq,Xr,Xs];rfl))|(with_reducible first|apply Xe|apply Xf|apply Xg|apply Xh)|((with_reducible apply Xi);focus first|rfl|(simp [go_sem, *];done))|((with_reducible apply Xj);focus first|rfl|(simp [go_sem, *];done))|(simp only [Exit.then,Exit.inBlock,↓reduceIte,Nat.reduceEqDiff]))
        clear e0 e1 e2 e3 e4
        have lt_t_a := hB_t.lt
        have le_a := FTwr.size
        ((with_reducible apply Xu); (focus rfl); (focus (simp [go_sem, effAt]; exact ⟨rfl, rfl⟩)); (focus ((simp only [Xo,Xp,Xq,Xr,Xs];rfl))))
        intro w5 hB_a hs
        have Fw5 := FTwr.trans (Turn.of_below hs)
        replace hB_t := hB_t.below hs hB_t.lt
        clear hs FTwr
        clear hc_t; have hc_t := hB_t.cell
        have hc_a := hB_a.cell
        have hf_a := hB_a.frozen
        ((with_reducible apply Xt (fun w' => Blk w' _ _ _ ∧ w5.grownBy w' (some _))); (focus rfl); (focus (simp [go_sem, effAt, *]; exact ⟨rfl, (((((hB_a.set_ 0 _).set_ 1 _).set_ 2 _).set_ 3 _).set_ 4 _), (grown_set (grown_set (grown_set (grown_set (grown_set (World.grownBy.refl _ _))))))⟩)); (focus ((simp only [Xo,Xp,Xq,Xr,Xs];rfl))))
        clear hf_a hc_a hB_a
        intro w6 hs
        obtain ⟨hB_a, hs⟩ := hs
        simp only [Xq,Xr,Xs] at hB_a
        have Fw6 := Fw5.trans (Turn.of_grown hs (by first | exact .inl rfl | exact .inr (by omega)))
        replace hB_t := hB_t.grown hs (by intro hk; injection hk with hk; have := hB_t.lt; have := hB_a.lt; omega)
        clear hs Fw5
        clear hc_t; have hc_t := hB_t.cell
        have hc_a := hB_a.cell
        repeat (first|(with_reducible first|apply Xa|apply Xb|apply Xc|apply Xd)|((with_reducible apply Xk);(focus rfl);(focus (simp [go_sem,effAt,↓IntWalk.iteOmega, *];(try go_ints);with_reducible first|exact Xm|exact Xn));focus (simp only [Xo,Xp,Xq,Xr,Xs];rfl))|((with_reducible apply Xl);(focus rfl);focus (simp only [Xo,Xp,Xq,Xr,Xs];rfl))|(with_reducible first|apply Xe|apply Xf|apply Xg|apply Xh)|((with_reducible apply Xi);focus first|rfl|(simp [go_sem, *];done))|((with_reducible apply Xj);focus first|rfl|(simp [go_sem, *];done))|(simp only [Exit.then,Exit.inBlock,↓reduceIte,Nat.reduceEqDiff]))
        refine wp_region_tail 12 (by kernel_rfl) (by kernel_rfl) ?_
        simp only [List.take_succ_cons, List.take_zero, List.drop_succ_cons, List.drop_zero]
        generalize hww7 : World.drew w6 = w7
        have hs : Below w6.heap.size w6 w7 := hww7 ▸ (Below.refl _ _).drew
        clear hww7
        have Fw7 := Fw6.trans (Turn.of_below hs)
        replace hB_t := hB_t.below hs hB_t.lt
        replace hB_a := hB_a.below hs hB_a.lt
        clear hs Fw6
        clear hc_t; have hc_t := hB_t.cell
        clear hc_a; have hc_a := hB_a.cell
        repeat (first | ((with_reducible apply still_q); (focus rfl); (focus (simp [go_sem, stAt, ↓IntWalk.iteOmega, *]; (try go_ints); (first | (with_reducible exact stUpon_val) | (with_reducible exact stUpon_skip)))); (focus ((simp only [Xo,Xp,Xq,Xr,Xs];rfl)))) | ((with_reducible apply still_s); (focus rfl); (focus ((simp only [Xo,Xp,Xq,Xr,Xs];rfl)))))
        with_reducible refine wpStill_nil ?_
        have hf_t := hB_t.frozen
        ((with_reducible apply Xt (fun w' => Blk w' _ _ _ ∧ w7.grownBy w' (some _))); (focus rfl); (focus (simp [go_sem, effAt, *]; exact ⟨rfl, (hB_t.set_ 2 _), (grown_set (World.grownBy.refl _ _))⟩)); (focus ((simp only [Xo,Xp,Xq,Xr,Xs];rfl))))
        clear hf_t hc_t hB_t
        intro w8 hs
        obtain ⟨hB_t, hs⟩ := hs
        simp only [Xq,Xr,Xs] at hB_t
        have Fw8 := Fw7.trans (Turn.of_grown hs (by first | exact .inl rfl | exact .inr (by omega)))
        replace hB_a := hB_a.grown hs (by intro hk; injection hk with hk; have := hB_a.lt; have := hB_t.lt; omega)
        clear hs Fw7
        clear hc_a; have hc_a := hB_a.cell
        have hc_t := hB_t.cell
        repeat (first|(with_reducible first|apply Xa|apply Xb|apply Xc|apply Xd)|((with_reducible apply Xk);(focus rfl);(focus (simp [go_sem,effAt,↓IntWalk.iteOmega, *];(try go_ints);with_reducible first|exact Xm|exact Xn));focus (simp only [Xo,Xp,Xq,Xr,Xs];rfl))|((with_reducible apply Xl);(focus rfl);focus (simp only [Xo,Xp,Xq,Xr,Xs];rfl))|(with_reducible first|apply Xe|apply Xf|apply Xg|apply Xh)|((with_reducible apply Xi);focus first|rfl|(simp [go_sem, *];done))|((with_reducible apply Xj);focus first|rfl|(simp [go_sem, *];done))|(simp only [Exit.then,Exit.inBlock,↓reduceIte,Nat.reduceEqDiff]))
        have hne : b ≠ tg := (HM.out.a0 b rfl).1
        have hnt : ∀ k, blkOf (Value.slice (if c0 = 1 then some ⟨b, off, none⟩ else some ⟨b, off + 5, none⟩) r0.length (c0 - 1)) = some k → ¬ (k = tg ∨ wr.heap.size ≤ k) := by
          intro k hk
          obtain rfl : b = k := by split at hk <;> simpa [blkOf] using hk
          rintro (e | e)
          · exact hne e
          · omega
        have hQ2 := qr_turn HQR.out (by assumption) hnt
        have hM2 := HM.out.put1 HP.out hB_t hQ2 (Turn.mono (by assumption) (fun k hk => by rcases hk with e | e; exact .inl e; exact .inr (.inr e))) (fun k hk => .inl (by split at hk <;> simpa [blkOf] using hk))
        have hM3 := hM2.below (Below.refl _ _).drew
        have hB_a3 := hB_a.drew
        clear hM2 hB_t hB_a hc_t hc_a hQ2 hnt
        refine late_region 16 (fun w' : World => w'.cell? ⟨tg, 0, none⟩ = some (.pointer (some ⟨g0, 0, none⟩)) ∧ ∀ i, w'.cell? ⟨wr.heap.size, i, none⟩ = (#[.int .u8 kx, .bool cx, .bool px, .int .u8 tx, .int .u8 fx] : Array Value)[i]?) lateR (by kernel_rfl) (by kernel_rfl) ?_
        have HS : ∀ w' : World, (w'.cell? ⟨tg, 0, none⟩ = some (.pointer (some ⟨g0, 0, none⟩)) ∧ ∀ i, w'.cell? ⟨wr.heap.size, i, none⟩ = (#[.int .u8 kx, .bool cx, .bool px, .int .u8 tx, .int .u8 fx] : Array Value)[i]?) → (w'.cell? ⟨tg, 0, none⟩ = some (.pointer (some ⟨g0, 0, none⟩)) ∧ ∀ i, w'.cell? ⟨wr.heap.size, i, none⟩ = (#[.int .u8 kx, .bool cx, .bool px, .int .u8 tx, .int .u8 fx] : Array Value)[i]?) := fun _ h => h
        generalize World.drew _ = u0 at hM3 hB_a3 ⊢
        have hS0 : u0.cell? ⟨tg, 0, none⟩ = some (.pointer (some ⟨g0, 0, none⟩)) ∧ ∀ i, u0.cell? ⟨wr.heap.size, i, none⟩ = (#[.int .u8 kx, .bool cx, .bool px, .int .u8 tx, .int .u8 fx] : Array Value)[i]? := ⟨hM3.blk.cell 0, hB_a3.cell⟩
        (with_reducible apply late_v 0)
        (focus rfl)
        (focus kernel_rfl)
        (focus kernel_rfl)
        (focus kernel_rfl)
        (focus kernel_rfl)
        (focus kernel_rfl)
        (focus rfl)
        (focus exact fun _ _ _ h => h)
        (focus (first | exact wanted_none rfl | exact wanted_yes rfl rfl rfl))
        (focus (intro w' hS; obtain ⟨hc_s, hc_a⟩ := HS _ hS; simp [go_sem, valAt, ↓IntWalk.iteOmega, *]; (try go_ints); (with_reducible exact valUpon_val)))
        (focus exact hS0)
        (focus (first|(apply put_some rfl;focus (conv=>lhs;dsimp only [Xr,Xs])<;>rfl)|exact put_none rfl))
        (with_reducible apply late_v 1)
        (focus rfl)
        (focus kernel_rfl)
        (focus kernel_rfl)
        (focus kernel_rfl)
        (focus kernel_rfl)
        (focus kernel_rfl)
        (focus rfl)
        (focus exact fun _ _ _ h => h)
        (focus (first | exact wanted_none rfl | exact wanted_yes rfl rfl rfl))
        (focus (intro w' hS; obtain ⟨hc_s, hc_a⟩ := HS _ hS; simp [go_sem, valAt, ↓IntWalk.iteOmega, *]; (try go_ints); (with_reducible exact valUpon_val)))
        (focus exact hS0)
        (focus (first|(apply put_some rfl;focus (conv=>lhs;dsimp only [Xr,Xs])<;>rfl)|exact put_none rfl))
        (with_reducible apply late_v 2)
        (focus rfl)
        (focus kernel_rfl)
        (focus kernel_rfl)
        (focus kernel_rfl)
        (focus kernel_rfl)
        (focus kernel_rfl)
        (focus rfl)
        (focus exact fun _ _ _ h => h)
        (focus (first | exact wanted_none rfl | exact wanted_yes rfl rfl rfl))
        (focus (intro w' hS; obtain ⟨hc_s, hc_a⟩ := HS _ hS; simp [go_sem, valAt, ↓IntWalk.iteOmega, *]; (try go_ints); (with_reducible exact valUpon_val)))
        (focus exact hS0)
        (focus (first|(apply put_some rfl;focus (conv=>lhs;dsimp only [Xr,Xs])<;>rfl)|exact put_none rfl))
        (with_reducible apply late_v 3)
        (focus rfl)
        (focus kernel_rfl)
        (focus kernel_rfl)
        (focus kernel_rfl)
        (focus kernel_rfl)
        (focus kernel_rfl)
        (focus rfl)
        (focus exact fun _ _ _ h => h)
        (focus (first | exact wanted_none rfl | exact wanted_yes rfl rfl rfl))
        (focus (intro w' hS; obtain ⟨hc_s, hc_a⟩ := HS _ hS; simp [go_sem, valAt, ↓IntWalk.iteOmega, *]; (try go_ints); (with_reducible exact valUpon_val)))
        (focus exact hS0)
        (focus (first|(apply put_some rfl;focus (conv=>lhs;dsimp only [Xr,Xs])<;>rfl)|exact put_none rfl))
        (with_reducible apply late_v 4)
        (focus rfl)
        (focus kernel_rfl)
        (focus kernel_rfl)
        (focus kernel_rfl)
        (focus kernel_rfl)
        (focus kernel_rfl)
        (focus rfl)
        (focus exact fun _ _ _ h => h)
        (focus (first | exact wanted_none rfl | exact wanted_yes rfl rfl rfl))
        (focus (intro w' hS; obtain ⟨hc_s, hc_a⟩ := HS _ hS; simp [go_sem, valAt, ↓IntWalk.iteOmega, *]; (try go_ints); (with_reducible exact valUpon_val)))
        (focus exact hS0)
        (focus (first|(apply put_some rfl;focus (conv=>lhs;dsimp only [Xr,Xs])<;>rfl)|exact put_none rfl))
        (with_reducible apply late_v 5)
        (focus rfl)
        (focus kernel_rfl)
        (focus kernel_rfl)
        (focus kernel_rfl)
        (focus kernel_rfl)
        (focus kernel_rfl)
        (focus rfl)
        (focus exact fun _ _ _ h => h)
        (focus (first | exact wanted_none rfl | exact wanted_yes rfl rfl rfl))
        (focus (intro w' hS; obtain ⟨hc_s, hc_a⟩ := HS _ hS; simp [go_sem, valAt, ↓IntWalk.iteOmega, *]; (try go_ints); (with_reducible exact valUpon_val)))
        (focus exact hS0)
        (focus (first|(apply put_some rfl;focus (conv=>lhs;dsimp only [Xr,Xs])<;>rfl)|exact put_none rfl))
        (with_reducible apply late_v 6)
        (focus rfl)
        (focus kernel_rfl)
        (focus kernel_rfl)
        (focus kernel_rfl)
        (focus kernel_rfl)
        (focus kernel_rfl)
        (focus rfl)
        (focus exact fun _ _ _ h => h)
        (focus (first | exact wanted_none rfl | exact wanted_yes rfl rfl rfl))
        (focus (intro w' hS; obtain ⟨hc_s, hc_a⟩ := HS _ hS; simp [go_sem, valAt, ↓IntWalk.iteOmega, *]; (try go_ints); (with_reducible exact valUpon_val)))
        (focus exact hS0)
        (focus (first|(apply put_some rfl;focus (conv=>lhs;dsimp only [Xr,Xs])<;>rfl)|exact put_none rfl))
        (with_reducible apply late_v 7)
        (focus rfl)
        (focus kernel_rfl)
        (focus kernel_rfl)
        (focus kernel_rfl)
        (focus kernel_rfl)
        (focus kernel_rfl)
        (focus rfl)
        (focus exact fun _ _ _ h => h)
        (focus (first | exact wanted_none rfl | exact wanted_yes rfl rfl rfl))
        (focus (intro w' hS; obtain ⟨hc_s, hc_a⟩ := HS _ hS; simp [go_sem, valAt, ↓IntWalk.iteOmega, *]; (try go_ints); (with_reducible exact valUpon_val)))
        (focus exact hS0)
        (focus (first|(apply put_some rfl;focus (conv=>lhs;dsimp only [Xr,Xs])<;>rfl)|exact put_none rfl))
        (with_reducible apply late_v 8)
        (focus rfl)
        (focus kernel_rfl)
        (focus kernel_rfl)
        (focus kernel_rfl)
        (focus kernel_rfl)
        (focus kernel_rfl)
        (focus rfl)
        (focus exact fun _ _ _ h => h)
        (focus (first | exact wanted_none rfl | exact wanted_yes rfl rfl rfl))
        (focus (intro w' hS; obtain ⟨hc_s, hc_a⟩ := HS _ hS; simp [go_sem, valAt, ↓IntWalk.iteOmega, *]; (try go_ints); (with_reducible exact valUpon_val)))
        (focus exact hS0)
        (focus (first|(apply put_some rfl;focus (conv=>lhs;dsimp only [Xr,Xs])<;>rfl)|exact put_none rfl))
        (with_reducible apply late_v 9)
        (focus rfl)
        (focus kernel_rfl)
        (focus kernel_rfl)
        (focus kernel_rfl)
        (focus kernel_rfl)
        (focus kernel_rfl)
        (focus rfl)
        (focus exact fun _ _ _ h => h)
        (focus (first | exact wanted_none rfl | exact wanted_yes rfl rfl rfl))
        (focus (intro w' hS; obtain ⟨hc_s, hc_a⟩ := HS _ hS; simp [go_sem, valAt, ↓IntWalk.iteOmega, *]; (try go_ints); (with_reducible exact valUpon_val)))
        (focus exact hS0)
        (focus (first|(apply put_some rfl;focus (conv=>lhs;dsimp only [Xr,Xs])<;>rfl)|exact put_none rfl))
        (with_reducible apply late_v 10)
        (focus rfl)
        (focus kernel_rfl)
        (focus kernel_rfl)
        (focus kernel_rfl)
        (focus kernel_rfl)
        (focus kernel_rfl)
        (focus rfl)
        (focus exact fun _ _ _ h => h)
        (focus (first | exact wanted_none rfl | exact wanted_yes rfl rfl rfl))
        (focus (intro w' hS; obtain ⟨hc_s, hc_a⟩ := HS _ hS; simp [go_sem, valAt, ↓IntWalk.iteOmega, *]; (try go_ints); (with_reducible exact valUpon_val)))
        (focus exact hS0)
        (focus (first|(apply put_some rfl;focus (conv=>lhs;dsimp only [Xr,Xs])<;>rfl)|exact put_none rfl))
        (with_reducible apply late_v 11)
        (focus rfl)
        (focus kernel_rfl)
        (focus kernel_rfl)
        (focus kernel_rfl)
        (focus kernel_rfl)
        (focus kernel_rfl)
        (focus rfl)
        (focus exact fun _ _ _ h => h)
        (focus (first | exact wanted_none rfl | exact wanted_yes rfl rfl rfl))
        (focus (intro w' hS; obtain ⟨hc_s, hc_a⟩ := HS _ hS; simp [go_sem, valAt, ↓IntWalk.iteOmega, *]; (try go_ints); (with_reducible exact valUpon_val)))
        (focus exact hS0)
        (focus (first|(apply put_some rfl;focus (conv=>lhs;dsimp only [Xr,Xs])<;>rfl)|exact put_none rfl))
        (with_reducible apply late_v 12)
        (focus rfl)
        (focus kernel_rfl)
        (focus kernel_rfl)
        (focus kernel_rfl)
        (focus kernel_rfl)
        (focus kernel_rfl)
        (focus rfl)
        (focus exact fun _ _ _ h => h)
        (focus (first | exact wanted_none rfl | exact wanted_yes rfl rfl rfl))
        (focus (intro w' hS; obtain ⟨hc_s, hc_a⟩ := HS _ hS; simp [go_sem, valAt, ↓IntWalk.iteOmega, *]; (try go_ints); (with_reducible exact valUpon_val)))
        (focus exact hS0)
        (focus (first|(apply put_some rfl;focus (conv=>lhs;dsimp only [Xr,Xs])<;>rfl)|exact put_none rfl))
        (with_reducible apply late_v 13)
        (focus rfl)
        (focus kernel_rfl)
        (focus kernel_rfl)
        (focus kernel_rfl)
        (focus kernel_rfl)
        (focus kernel_rfl)
        (focus rfl)
        (focus exact fun _ _ _ h => h)
        (focus (first | exact wanted_none rfl | exact wanted_yes rfl rfl rfl))
        (focus (intro w' hS; obtain ⟨hc_s, hc_a⟩ := HS _ hS; simp [go_sem, valAt, ↓IntWalk.iteOmega, *]; (try go_ints); (with_reducible exact valUpon_val)))
        (focus exact hS0)
        (focus (first|(apply put_some rfl;focus (conv=>lhs;dsimp only [Xr,Xs])<;>rfl)|exact put_none rfl))
        refine late_all (rs := [14]) (by kernel_rfl) (by simp) ?_
        refine List.forall_mem_cons.2 ⟨?_, by intro _ h; cases h⟩
        have hl3 := hM3.l0
        dsimp only at hl3
        have hgl : g0 ≠ wr.heap.size := by have := Blk.lt (HM.out.l0); omega
        (with_reducible apply late_e (fun w' => LL w' g0 (hearF l0 kx px cx).2 ∧ u0.grownBy w' (some g0)))
        (focus rfl)
        (focus (first | exact wanted_none rfl | exact wanted_yes rfl rfl rfl))
        (focus (simp only [effAt]; simp [go_sem]; (with_reducible exact effUpon_enter (hear_any g0 l0 hg0 kx px cx _ hl3))))
        (focus (first|(apply put_some rfl;focus (conv=>lhs;dsimp only [Xr,Xs])<;>rfl)|exact put_none rfl))
        (focus exact fun w' h => .inr ⟨(hM3.hear0 HP.out h.1 h.2).blk.cell 0, (hB_a3.grown h.2 (fun e => by injection e with e; exact hgl e.symm)).cell⟩)
        rintro u1 ⟨hl4, hgr⟩
        have hM4 := hM3.hear0 HP.out hl4 hgr
        have hLL := HL.out
        simp only [List.length_cons, List.length_nil] at hLL
        have hMt0 := (⟨_, _, hM4⟩ : ∃ s0 s1, MT W0 tg g0 g1 _ s0 s1 u1)
        have hSd := said_any HP.out false (hearF l0 kx px cx).1 (by first | omega | (dsimp only; omega) | (simp; done) | (simp; omega)) (by first | omega | (dsimp only; omega) | (simp; done) | (simp; omega)) u1 hMt0
        simp only [↓reduceIte, Bool.false_eq_true] at hSd
        refine late_all (rs := [15]) (by kernel_rfl) (by simp) ?_
        refine List.forall_mem_cons.2 ⟨?_, by intro _ h; cases h⟩
        (with_reducible apply late_e (Mt W0 tg g0 g1 (saidF _ false (hearF l0 kx px cx).1)))
        (focus rfl)
        (focus (first | exact wanted_none rfl | exact wanted_yes rfl rfl rfl))
        (focus (simp only [effAt]; simp [go_sem]; (with_reducible exact effUpon_enter hSd)))
        (focus (first|(apply put_some rfl;focus (conv=>lhs;dsimp only [Xr,Xs])<;>rfl)|exact put_none rfl))
        (focus exact fun w' h => .inl rfl)
        rintro u2 hMt
        (with_reducible apply late_done)
        (focus kernel_rfl)
        repeat (first|(with_reducible first|apply Xa|apply Xb|apply Xc|apply Xd)|((with_reducible apply Xk);(focus rfl);(focus (simp [go_sem,effAt,↓IntWalk.iteOmega, *];(try go_ints);with_reducible first|exact Xm|exact Xn));focus (simp only [Xo,Xp,Xq,Xr,Xs];rfl))|((with_reducible apply Xl);(focus rfl);focus (simp only [Xo,Xp,Xq,Xr,Xs];rfl))|(with_reducible first|apply Xe|apply Xf|apply Xg|apply Xh)|((with_reducible apply Xi);focus first|rfl|(simp [go_sem, *];done))|((with_reducible apply Xj);focus first|rfl|(simp [go_sem, *];done))|(simp only [Exit.then,Exit.inBlock,↓reduceIte,Nat.reduceEqDiff]))
        refine hK _ _ (Handed.intro n ?measure (hJ _ _ _ ?_))
        rotate_left
        (repeat apply Exists.intro)
        refine ⟨?rel, rfl⟩
        case rel => exact ⟨i + 1, _, by go_num, by omega, (run_step (by rfl) (by rfl)).symm.trans HRUN.out, by rw [(said_l _ _ _).1]; first | exact hg0 | exact good_hear hg0 _ _ _, by rw [(said_l _ _ _).2]; first | exact hg1 | exact good_hear hg1 _ _ _, Nat.le_trans (said_len _ _ _).1 (by first | omega | (dsimp only; omega) | (simp; done) | (simp; omega)), Nat.le_trans (said_len _ _ _).2 (by first | omega | (dsimp only; omega) | (simp; done) | (simp; omega)), hMt⟩
        case measure => omega
      · clear hlt
        rename_i x0 r0 x1 r1
        obtain ⟨b, off, cap, he, hc1, hcm, hBb, hbl, hcl, hQr⟩ := HM.out.q0.head
        simp only [Value.slice.injEq] at he
        obtain ⟨rfl, _, rfl⟩ := he
        obtain ⟨kx, cx, px, tx, fx⟩ := x0
        have e0 : wr.cell? ⟨b, off, none⟩ = some (.int .u8 kx) := hcl 0 _ rfl
        have e1 : wr.cell? ⟨b, off + 1, none⟩ = some (.bool cx) := hcl 1 _ rfl
        have e2 : wr.cell? ⟨b, off + 2, none⟩ = some (.bool px) := hcl 2 _ rfl
        have e3 : wr.cell? ⟨b, off + 3, none⟩ = some (.int .u8 tx) := hcl 3 _ rfl
        have e4 : wr.cell? ⟨b, off + 4, none⟩ = some (.int .u8 fx) := hcl 4 _ rfl
        have HQR := Lib.hid hQr
        have hcap1 : (1 : Int) ≤ (c0 : Int) := by omega
        clear hcl hQr
        have Fwr : Below wr.heap.size wr wr := Below.refl _ _
        have FTwr : Turn (fun i => i = tg ∨ wr.heap.size ≤ i) wr wr := Turn.refl _
        have hc_t := hB_t.cell
        repeat (first|(with_reducible first|apply Xa|apply Xb|apply Xc|apply Xd)|((with_reducible apply Xk);(focus rfl);(focus (simp [go_sem,effAt,↓IntWalk.iteOmega, *];(try go_ints);with_reducible first|exact Xm|exact Xn));focus (simp only [Xo,Xp,Xq,Xr,Xs];rfl))|((with_reducible apply Xl);(focus rfl);focus (simp only [Xo,Xp,Xq,Xr,Xs];rfl))|(with_reducible first|apply Xe|apply Xf|apply Xg|apply Xh)|((with_reducible apply Xi);focus first|rfl|(simp [go_sem, *];done))|((with_reducible apply Xj);focus first|rfl|(simp [go_sem, *];done))|(simp only [Exit.then,Exit.inBlock,↓reduceIte,Nat.reduceEqDiff]))
        clear e0 e1 e2 e3 e4
        have lt_t_a := hB_t.lt
        have le_a := FTwr.size
        ((with_reducible apply Xu); (focus rfl); (focus (simp [go_sem, effAt]; exact ⟨rfl, rfl⟩)); (focus ((simp only [Xo,Xp,Xq,Xr,Xs];rfl))))
        intro w9 hB_a hs
        have Fw9 := FTwr.trans (Turn.of_below hs)
        replace hB_t := hB_t.below hs hB_t.lt
        clear hs FTwr
        clear hc_t; have hc_t := hB_t.cell
        have hc_a := hB_a.cell
        have hf_a := hB_a.frozen
        ((with_reducible apply Xt (fun w' => Blk w' _ _ _ ∧ w9.grownBy w' (some _))); (focus rfl); (focus (simp [go_sem, effAt, *]; exact ⟨rfl, (((((hB_a.set_ 0 _).set_ 1 _).set_ 2 _).set_ 3 _).set_ 4 _), (grown_set (grown_set (grown_set (grown_set (grown_set (World.grownBy.refl _ _))))))⟩)); (focus ((simp only [Xo,Xp,Xq,Xr,Xs];rfl))))
        clear hf_a hc_a hB_a
        intro w10 hs
        obtain ⟨hB_a, hs⟩ := hs
        simp only [Xq,Xr,Xs] at hB_a
        have Fw10 := Fw9.trans (Turn.of_grown hs (by first | exact .inl rfl | exact .inr (by omega)))
        replace hB_t := hB_t.grown hs (by intro hk; injection hk with hk; have := hB_t.lt; have := hB_a.lt; omega)
        clear hs Fw9
        clear hc_t; have hc_t := hB_t.cell
        have hc_a := hB_a.cell
        repeat (first|(with_reducible first|apply Xa|apply Xb|apply Xc|apply Xd)|((with_reducible apply Xk);(focus rfl);(focus (simp [go_sem,effAt,↓IntWalk.iteOmega, *];(try go_ints);with_reducible first|exact Xm|exact Xn));focus (simp only [Xo,Xp,Xq,Xr,Xs];rfl))|((with_reducible apply Xl);(focus rfl);focus (simp only [Xo,Xp,Xq,Xr,Xs];rfl))|(with_reducible first|apply Xe|apply Xf|apply Xg|apply Xh)|((with_reducible apply Xi);focus first|rfl|(simp [go_sem, *];done))|((with_reducible apply Xj);focus first|rfl|(simp [go_sem, *];done))|(simp only [Exit.then,Exit.inBlock,↓reduceIte,Nat.reduceEqDiff]))
        refine wp_region_tail 12 (by kernel_rfl) (by kernel_rfl) ?_
        simp only [List.take_succ_cons, List.take_zero, List.drop_succ_cons, List.drop_zero]
        generalize hww11 : World.drew w10 = w11
        have hs : Below w10.heap.size w10 w11 := hww11 ▸ (Below.refl _ _).drew
        clear hww11
        have Fw11 := Fw10.trans (Turn.of_below hs)
        replace hB_t := hB_t.below hs hB_t.lt
        replace hB_a := hB_a.below hs hB_a.lt
        clear hs Fw10
        clear hc_t; have hc_t := hB_t.cell
        clear hc_a; have hc_a := hB_a.cell
        repeat (first | ((with_reducible apply still_q); (focus rfl); (focus (simp [go_sem, stAt, ↓IntWalk.iteOmega, *]; (try go_ints); (first | (with_reducible exact stUpon_val) | (with_reducible exact stUpon_skip)))); (focus ((simp only [Xo,Xp,Xq,Xr,Xs];rfl)))) | ((with_reducible apply still_s); (focus rfl); (focus ((simp only [Xo,Xp,Xq,Xr,Xs];rfl)))))
        with_reducible refine wpStill_nil ?_
        have hf_t := hB_t.frozen
        ((with_reducible apply Xt (fun w' => Blk w' _ _ _ ∧ w11.grownBy w' (some _))); (focus rfl); (focus (simp [go_sem, effAt, *]; exact ⟨rfl, (hB_t.set_ 2 _), (grown_set (World.grownBy.refl _ _))⟩)); (focus ((simp only [Xo,Xp,Xq,Xr,Xs];rfl))))
        clear hf_t hc_t hB_t
        intro w12 hs
        obtain ⟨hB_t, hs⟩ := hs
        simp only [Xq,Xr,Xs] at hB_t
        have Fw12 := Fw11.trans (Turn.of_grown hs (by first | exact .inl rfl | exact .inr (by omega)))
        replace hB_a := hB_a.grown hs (by intro hk; injection hk with hk; have := hB_a.lt; have := hB_t.lt; omega)
        clear hs Fw11
        clear hc_a; have hc_a := hB_a.cell
        have hc_t := hB_t.cell
        repeat (first|(with_reducible first|apply Xa|apply Xb|apply Xc|apply Xd)|((with_reducible apply Xk);(focus rfl);(focus (simp [go_sem,effAt,↓IntWalk.iteOmega, *];(try go_ints);with_reducible first|exact Xm|exact Xn));focus (simp only [Xo,Xp,Xq,Xr,Xs];rfl))|((with_reducible apply Xl);(focus rfl);focus (simp only [Xo,Xp,Xq,Xr,Xs];rfl))|(with_reducible first|apply Xe|apply Xf|apply Xg|apply Xh)|((with_reducible apply Xi);focus first|rfl|(simp [go_sem, *];done))|((with_reducible apply Xj);focus first|rfl|(simp [go_sem, *];done))|(simp only [Exit.then,Exit.inBlock,↓reduceIte,Nat.reduceEqDiff]))
        have hne : b ≠ tg := (HM.out.a0 b rfl).1
        have hnt : ∀ k, blkOf (Value.slice (if c0 = 1 then some ⟨b, off, none⟩ else some ⟨b, off + 5, none⟩) r0.length (c0 - 1)) = some k → ¬ (k = tg ∨ wr.heap.size ≤ k) := by
          intro k hk
          obtain rfl : b = k := by split at hk <;> simpa [blkOf] using hk
          rintro (e | e)
          · exact hne e
          · omega
        have hQ2 := qr_turn HQR.out (by assumption) hnt
        have hM2 := HM.out.put1 HP.out hB_t hQ2 (Turn.mono (by assumption) (fun k hk => by rcases hk with e | e; exact .inl e; exact .inr (.inr e))) (fun k hk => .inl (by split at hk <;> simpa [blkOf] using hk))
        have hM3 := hM2.below (Below.refl _ _).drew
        have hB_a3 := hB_a.drew
        clear hM2 hB_t hB_a hc_t hc_a hQ2 hnt
        refine late_region 16 (fun w' : World => w'.cell? ⟨tg, 0, none⟩ = some (.pointer (some ⟨g0, 0, none⟩)) ∧ ∀ i, w'.cell? ⟨wr.heap.size, i, none⟩ = (#[.int .u8 kx, .bool cx, .bool px, .int .u8 tx, .int .u8 fx] : Array Value)[i]?) lateR (by kernel_rfl) (by kernel_rfl) ?_
        have HS : ∀ w' : World, (w'.cell? ⟨tg, 0, none⟩ = some (.pointer (some ⟨g0, 0, none⟩)) ∧ ∀ i, w'.cell? ⟨wr.heap.size, i, none⟩ = (#[.int .u8 kx, .bool cx, .bool px, .int .u8 tx, .int .u8 fx] : Array Value)[i]?) → (w'.cell? ⟨tg, 0, none⟩ = some (.pointer (some ⟨g0, 0, none⟩)) ∧ ∀ i, w'.cell? ⟨wr.heap.size, i, none⟩ = (#[.int .u8 kx, .bool cx, .bool px, .int .u8 tx, .int .u8 fx] : Array Value)[i]?) := fun _ h => h
        generalize World.drew _ = u0 at hM3 hB_a3 ⊢
        have hS0 : u0.cell? ⟨tg, 0, none⟩ = some (.pointer (some ⟨g0, 0, none⟩)) ∧ ∀ i, u0.cell? ⟨wr.heap.size, i, none⟩ = (#[.int .u8 kx, .bool cx, .bool px, .int .u8 tx, .int .u8 fx] : Array Value)[i]? := ⟨hM3.blk.cell 0, hB_a3.cell⟩
        (with_reducible apply late_v 0)
        (focus rfl)
        (focus kernel_rfl)
        (focus kernel_rfl)
        (focus kernel_rfl)
        (focus kernel_rfl)
        (focus kernel_rfl)
        (focus rfl)
        (focus exact fun _ _ _ h => h)
        (focus (first | exact wanted_none rfl | exact wanted_yes rfl rfl rfl))
        (focus (intro w' hS; obtain ⟨hc_s, hc_a⟩ := HS _ hS; simp [go_sem, valAt, ↓IntWalk.iteOmega, *]; (try go_ints); (with_reducible exact valUpon_val)))
        (focus exact hS0)
        (focus (first|(apply put_some rfl;focus (conv=>lhs;dsimp only [Xr,Xs])<;>rfl)|exact put_none rfl))
        (with_reducible apply late_v 1)
        (focus rfl)
        (focus kernel_rfl)
        (focus kernel_rfl)
        (focus kernel_rfl)
        (focus kernel_rfl)
        (focus kernel_rfl)
        (focus rfl)
        (focus exact fun _ _ _ h => h)
        (focus (first | exact wanted_none rfl | exact wanted_yes rfl rfl rfl))
        (focus (intro w' hS; obtain ⟨hc_s, hc_a⟩ := HS _ hS; simp [go_sem, valAt, ↓IntWalk.iteOmega, *]; (try go_ints); (with_reducible exact valUpon_val)))
        (focus exact hS0)
        (focus (first|(apply put_some rfl;focus (conv=>lhs;dsimp only [Xr,Xs])<;>rfl)|exact put_none rfl))
        (with_reducible apply late_v 2)
        (focus rfl)
        (focus kernel_rfl)
        (focus kernel_rfl)
        (focus kernel_rfl)
        (focus kernel_rfl)
        (focus kernel_rfl)
        (focus rfl)
        (focus exact fun _ _ _ h => h)
        (focus (first | exact wanted_none rfl | exact wanted_yes rfl rfl rfl))
        (focus (intro w' hS; obtain ⟨hc_s, hc_a⟩ := HS _ hS; simp [go_sem, valAt, ↓IntWalk.iteOmega, *]; (try go_ints); (with_reducible exact valUpon_val)))
        (focus exact hS0)
        (focus (first|(apply put_some rfl;focus (conv=>lhs;dsimp only [Xr,Xs])<;>rfl)|exact put_none rfl))
        (with_reducible apply late_v 3)
        (focus rfl)
        (focus kernel_rfl)
        (focus kernel_rfl)
        (focus kernel_rfl)
        (focus kernel_rfl)
        (focus kernel_rfl)
        (focus rfl)
        (focus exact fun _ _ _ h => h)
        (focus (first | exact wanted_none rfl | exact wanted_yes rfl rfl rfl))
        (focus (intro w' hS; obtain ⟨hc_s, hc_a⟩ := HS _ hS; simp [go_sem, valAt, ↓IntWalk.iteOmega, *]; (try go_ints); (with_reducible exact valUpon_val)))
        (focus exact hS0)
        (focus (first|(apply put_some rfl;focus (conv=>lhs;dsimp only [Xr,Xs])<;>rfl)|exact put_none rfl))
        (with_reducible apply late_v 4)
        (focus rfl)
        (focus kernel_rfl)
        (focus kernel_rfl)
        (focus kernel_rfl)
        (focus kernel_rfl)
        (focus kernel_rfl)
        (focus rfl)
        (focus exact fun _ _ _ h => h)
        (focus (first | exact wanted_none rfl | exact wanted_yes rfl rfl rfl))
        (focus (intro w' hS; obtain ⟨hc_s, hc_a⟩ := HS _ hS; simp [go_sem, valAt, ↓IntWalk.iteOmega, *]; (try go_ints); (with_reducible exact valUpon_val)))
        (focus exact hS0)
        (focus (first|(apply put_some rfl;focus (conv=>lhs;dsimp only [Xr,Xs])<;>rfl)|exact put_none rfl))
        (with_reducible apply late_v 5)
        (focus rfl)
        (focus kernel_rfl)
        (focus kernel_rfl)
        (focus kernel_rfl)
        (focus kernel_rfl)
        (focus kernel_rfl)
        (focus rfl)
        (focus exact fun _ _ _ h => h)
        (focus (first | exact wanted_none rfl | exact wanted_yes rfl rfl rfl))
        (focus (intro w' hS; obtain ⟨hc_s, hc_a⟩ := HS _ hS; simp [go_sem, valAt, ↓IntWalk.iteOmega, *]; (try go_ints); (with_reducible exact valUpon_val)))
        (focus exact hS0)
        (focus (first|(apply put_some rfl;focus (conv=>lhs;dsimp only [Xr,Xs])<;>rfl)|exact put_none rfl))
        (with_reducible apply late_v 6)
        (focus rfl)
        (focus kernel_rfl)
        (focus kernel_rfl)
        (focus kernel_rfl)
        (focus kernel_rfl)
        (focus kernel_rfl)
        (focus rfl)
        (focus exact fun _ _ _ h => h)
        (focus (first | exact wanted_none rfl | exact wanted_yes rfl rfl rfl))
        (focus (intro w' hS; obtain ⟨hc_s, hc_a⟩ := HS _ hS; simp [go_sem, valAt, ↓IntWalk.iteOmega, *]; (try go_ints); (with_reducible exact valUpon_val)))
        (focus exact hS0)
        (focus (first|(apply put_some rfl;focus (conv=>lhs;dsimp only [Xr,Xs])<;>rfl)|exact put_none rfl))
        (with_reducible apply late_v 7)
        (focus rfl)
        (focus kernel_rfl)
        (focus kernel_rfl)
        (focus kernel_rfl)
        (focus kernel_rfl)
        (focus kernel_rfl)
        (focus rfl)
        (focus exact fun _ _ _ h => h)
        (focus (first | exact wanted_none rfl | exact wanted_yes rfl rfl rfl))
        (focus (intro w' hS; obtain ⟨hc_s, hc_a⟩ := HS _ hS; simp [go_sem, valAt, ↓IntWalk.iteOmega, *]; (try go_ints); (with_reducible exact valUpon_val)))
        (focus exact hS0)
        (focus (first|(apply put_some rfl;focus (conv=>lhs;dsimp only [Xr,Xs])<;>rfl)|exact put_none rfl))
        (with_reducible apply late_v 8)
        (focus rfl)
        (focus kernel_rfl)
        (focus kernel_rfl)
        (focus kernel_rfl)
        (focus kernel_rfl)
        (focus kernel_rfl)
        (focus rfl)
        (focus exact fun _ _ _ h => h)
        (focus (first | exact wanted_none rfl | exact wanted_yes rfl rfl rfl))
        (focus (intro w' hS; obtain ⟨hc_s, hc_a⟩ := HS _ hS; simp [go_sem, valAt, ↓IntWalk.iteOmega, *]; (try go_ints); (with_reducible exact valUpon_val)))
        (focus exact hS0)
        (focus (first|(apply put_some rfl;focus (conv=>lhs;dsimp only [Xr,Xs])<;>rfl)|exact put_none rfl))
        (with_reducible apply late_v 9)
        (focus rfl)
        (focus kernel_rfl)
        (focus kernel_rfl)
        (focus kernel_rfl)
        (focus kernel_rfl)
        (focus kernel_rfl)
        (focus rfl)
        (focus exact fun _ _ _ h => h)
        (focus (first | exact wanted_none rfl | exact wanted_yes rfl rfl rfl))
        (focus (intro w' hS; obtain ⟨hc_s, hc_a⟩ := HS _ hS; simp [go_sem, valAt, ↓IntWalk.iteOmega, *]; (try go_ints); (with_reducible exact valUpon_val)))
        (focus exact hS0)
        (focus (first|(apply put_some rfl;focus (conv=>lhs;dsimp only [Xr,Xs])<;>rfl)|exact put_none rfl))
        (with_reducible apply late_v 10)
        (focus rfl)
        (focus kernel_rfl)
        (focus kernel_rfl)
        (focus kernel_rfl)
        (focus kernel_rfl)
        (focus kernel_rfl)
        (focus rfl)
        (focus exact fun _ _ _ h => h)
        (focus (first | exact wanted_none rfl | exact wanted_yes rfl rfl rfl))
        (focus (intro w' hS; obtain ⟨hc_s, hc_a⟩ := HS _ hS; simp [go_sem, valAt, ↓IntWalk.iteOmega, *]; (try go_ints); (with_reducible exact valUpon_val)))
        (focus exact hS0)
        (focus (first|(apply put_some rfl;focus (conv=>lhs;dsimp only [Xr,Xs])<;>rfl)|exact put_none rfl))
        (with_reducible apply late_v 11)
        (focus rfl)
        (focus kernel_rfl)
        (focus kernel_rfl)
        (focus kernel_rfl)
        (focus kernel_rfl)
        (focus kernel_rfl)
        (focus rfl)
        (focus exact fun _ _ _ h => h)
        (focus (first | exact wanted_none rfl | exact wanted_yes rfl rfl rfl))
        (focus (intro w' hS; obtain ⟨hc_s, hc_a⟩ := HS _ hS; simp [go_sem, valAt, ↓IntWalk.iteOmega, *]; (try go_ints); (with_reducible exact valUpon_val)))
        (focus exact hS0)
        (focus (first|(apply put_some rfl;focus (conv=>lhs;dsimp only [Xr,Xs])<;>rfl)|exact put_none rfl))
        (with_reducible apply late_v 12)
        (focus rfl)
        (focus kernel_rfl)
        (focus kernel_rfl)
        (focus kernel_rfl)
        (focus kernel_rfl)
        (focus kernel_rfl)
        (focus rfl)
        (focus exact fun _ _ _ h => h)
        (focus (first | exact wanted_none rfl | exact wanted_yes rfl rfl rfl))
        (focus (intro w' hS; obtain ⟨hc_s, hc_a⟩ := HS _ hS; simp [go_sem, valAt, ↓IntWalk.iteOmega, *]; (try go_ints); (with_reducible exact valUpon_val)))
        (focus exact hS0)
        (focus (first|(apply put_some rfl;focus (conv=>lhs;dsimp only [Xr,Xs])<;>rfl)|exact put_none rfl))
        (with_reducible apply late_v 13)
        (focus rfl)
        (focus kernel_rfl)
        (focus kernel_rfl)
        (focus kernel_rfl)
        (focus kernel_rfl)
        (focus kernel_rfl)
        (focus rfl)
        (focus exact fun _ _ _ h => h)
        (focus (first | exact wanted_none rfl | exact wanted_yes rfl rfl rfl))
        (focus (intro w' hS; obtain ⟨hc_s, hc_a⟩ := HS _ hS; simp [go_sem, valAt, ↓IntWalk.iteOmega, *]; (try go_ints); (with_reducible exact valUpon_val)))
        (focus exact hS0)
        (focus (first|(apply put_some rfl;focus (conv=>lhs;dsimp only [Xr,Xs])<;>rfl)|exact put_none rfl))
        refine late_all (rs := [14]) (by kernel_rfl) (by simp) ?_
        refine List.forall_mem_cons.2 ⟨?_, by intro _ h; cases h⟩
        have hl3 := hM3.l0
        dsimp only at hl3
        have hgl : g0 ≠ wr.heap.size := by have := Blk.lt (HM.out.l0); omega
        (with_reducible apply late_e (fun w' => LL w' g0 (hearF l0 kx px cx).2 ∧ u0.grownBy w' (some g0)))
        (focus rfl)
        (focus (first | exact wanted_none rfl | exact wanted_yes rfl rfl rfl))
        (focus (simp only [effAt]; simp [go_sem]; (with_reducible exact effUpon_enter (hear_any g0 l0 hg0 kx px cx _ hl3))))
        (focus (first|(apply put_some rfl;focus (conv=>lhs;dsimp only [Xr,Xs])<;>rfl)|exact put_none rfl))
        (focus exact fun w' h => .inr ⟨(hM3.hear0 HP.out h.1 h.2).blk.cell 0, (hB_a3.grown h.2 (fun e => by injection e with e; exact hgl e.symm)).cell⟩)
        rintro u1 ⟨hl4, hgr⟩
        have hM4 := hM3.hear0 HP.out hl4 hgr
        have hLL := HL.out
        simp only [List.length_cons, List.length_nil] at hLL
        have hMt0 := (⟨_, _, hM4⟩ : ∃ s0 s1, MT W0 tg g0 g1 _ s0 s1 u1)
        have hSd := said_any HP.out false (hearF l0 kx px cx).1 (by first | omega | (dsimp only; omega) | (simp; done) | (simp; omega)) (by first | omega | (dsimp only; omega) | (simp; done) | (simp; omega)) u1 hMt0
        simp only [↓reduceIte, Bool.false_eq_true] at hSd
        refine late_all (rs := [15]) (by kernel_rfl) (by simp) ?_
        refine List.forall_mem_cons.2 ⟨?_, by intro _ h; cases h⟩
        (with_reducible apply late_e (Mt W0 tg g0 g1 (saidF _ false (hearF l0 kx px cx).1)))
        (focus rfl)
        (focus (first | exact wanted_none rfl | exact wanted_yes rfl rfl rfl))
        (focus (simp only [effAt]; simp [go_sem]; (with_reducible exact effUpon_enter hSd)))
        (focus (first|(apply put_some rfl;focus (conv=>lhs;dsimp only [Xr,Xs])<;>rfl)|exact put_none rfl))
        (focus exact fun w' h => .inl rfl)
        rintro u2 hMt
        (with_reducible apply late_done)
        (focus kernel_rfl)
        repeat (first|(with_reducible first|apply Xa|apply Xb|apply Xc|apply Xd)|((with_reducible apply Xk);(focus rfl);(focus (simp [go_sem,effAt,↓IntWalk.iteOmega, *];(try go_ints);with_reducible first|exact Xm|exact Xn));focus (simp only [Xo,Xp,Xq,Xr,Xs];rfl))|((with_reducible apply Xl);(focus rfl);focus (simp only [Xo,Xp,Xq,Xr,Xs];rfl))|(with_reducible first|apply Xe|apply Xf|apply Xg|apply Xh)|((with_reducible apply Xi);focus first|rfl|(simp [go_sem, *];done))|((with_reducible apply Xj);focus first|rfl|(simp [go_sem, *];done))|(simp only [Exit.then,Exit.inBlock,↓reduceIte,Nat.reduceEqDiff]))
        refine hK _ _ (Handed.intro n ?measure (hJ _ _ _ ?_))
        rotate_left
        (repeat apply Exists.intro)
        refine ⟨?rel, rfl⟩
        case rel => exact ⟨i + 1, _, by go_num, by omega, (run_step (by rfl) (by rfl)).symm.trans HRUN.out, by rw [(said_l _ _ _).1]; first | exact hg0 | exact good_hear hg0 _ _ _, by rw [(said_l _ _ _).2]; first | exact hg1 | exact good_hear hg1 _ _ _, Nat.le_trans (said_len _ _ _).1 (by first | omega | (dsimp only; omega) | (simp; done) | (simp; omega)), Nat.le_trans (said_len _ _ _).2 (by first | omega | (dsimp only; omega) | (simp; done) | (simp; omega)), hMt⟩
        case measure => omega
      · clear hlt
        have Fwr : Below wr.heap.size wr wr := Below.refl _ _
        have hc_t := hB_t.cell
        repeat (first|(with_reducible first|apply Xa|apply Xb|apply Xc|apply Xd)|((with_reducible apply Xk);(focus rfl);(focus (simp [go_sem,effAt,↓IntWalk.iteOmega, *];(try go_ints);with_reducible first|exact Xm|exact Xn));focus (simp only [Xo,Xp,Xq,Xr,Xs];rfl))|((with_reducible apply Xl);(focus rfl);focus (simp only [Xo,Xp,Xq,Xr,Xs];rfl))|(with_reducible first|apply Xe|apply Xf|apply Xg|apply Xh)|((with_reducible apply Xi);focus first|rfl|(simp [go_sem, *];done))|((with_reducible apply Xj);focus first|rfl|(simp [go_sem, *];done))|(simp only [Exit.then,Exit.inBlock,↓reduceIte,Nat.reduceEqDiff]))
        refine bodyPost_end (results_none rfl _ _ _) rfl ⟨rfl, ?_⟩
        rw [← HRUN.out, run_stop (by rfl)]
        exact ⟨_, _, HM.out.below (by assumption)⟩
      · clear hlt
        rename_i x1 r1
        obtain ⟨b, off, cap, he, hc1, hcm, hBb, hbl, hcl, hQr⟩ := HM.out.q1.head
        simp only [Value.slice.injEq] at he
        obtain ⟨rfl, _, rfl⟩ := he
        obtain ⟨kx, cx, px, tx, fx⟩ := x1
        have e0 : wr.cell? ⟨b, off, none⟩ = some (.int .u8 kx) := hcl 0 _ rfl
        have e1 : wr.cell? ⟨b, off + 1, none⟩ = some (.bool cx) := hcl 1 _ rfl
        have e2 : wr.cell? ⟨b, off + 2, none⟩ = some (.bool px) := hcl 2 _ rfl
        have e3 : wr.cell? ⟨b, off + 3, none⟩ = some (.int .u8 tx) := hcl 3 _ rfl
        have e4 : wr.cell? ⟨b, off + 4, none⟩ = some (.int .u8 fx) := hcl 4 _ rfl
        have HQR := Lib.hid hQr
        have hcap1 : (1 : Int) ≤ (c1 : Int) := by omega
        clear hcl hQr
        have Fwr : Below wr.heap.size wr wr := Below.refl _ _
        have FTwr : Turn (fun i => i = tg ∨ wr.heap.size ≤ i) wr wr := Turn.refl _
        have hc_t := hB_t.cell
        repeat (first|(with_reducible first|apply Xa|apply Xb|apply Xc|apply Xd)|((with_reducible apply Xk);(focus rfl);(focus (simp [go_sem,effAt,↓IntWalk.iteOmega, *];(try go_ints);with_reducible first|exact Xm|exact Xn));focus (simp only [Xo,Xp,Xq,Xr,Xs];rfl))|((with_reducible apply Xl);(focus rfl);focus (simp only [Xo,Xp,Xq,Xr,Xs];rfl))|(with_reducible first|apply Xe|apply Xf|apply Xg|apply Xh)|((with_reducible apply Xi);focus first|rfl|(simp [go_sem, *];done))|((with_reducible apply Xj);focus first|rfl|(simp [go_sem, *];done))|(simp only [Exit.then,Exit.inBlock,↓reduceIte,Nat.reduceEqDiff]))
        clear e0 e1 e2 e3 e4
        have lt_t_a := hB_t.lt
        have le_a := FTwr.size
        ((with_reducible apply Xu); (focus rfl); (focus (simp [go_sem, effAt]; exact ⟨rfl, rfl⟩)); (focus ((simp only [Xo,Xp,Xq,Xr,Xs];rfl))))
        intro w13 hB_a hs
        have Fw13 := FTwr.trans (Turn.of_below hs)
        replace hB_t := hB_t.below hs hB_t.lt
        clear hs FTwr
        clear hc_t; have hc_t := hB_t.cell
        have hc_a := hB_a.cell
        have hf_a := hB_a.frozen
        ((with_reducible apply Xt (fun w' => Blk w' _ _ _ ∧ w13.grownBy w' (some _))); (focus rfl); (focus (simp [go_sem, effAt, *]; exact ⟨rfl, (((((hB_a.set_ 0 _).set_ 1 _).set_ 2 _).set_ 3 _).set_ 4 _), (grown_set (grown_set (grown_set (grown_set (grown_set (World.grownBy.refl _ _))))))⟩)); (focus ((simp only [Xo,Xp,Xq,Xr,Xs];rfl))))
        clear hf_a hc_a hB_a
        intro w14 hs
        obtain ⟨hB_a, hs⟩ := hs
        simp only [Xq,Xr,Xs] at hB_a
        have Fw14 := Fw13.trans (Turn.of_grown hs (by first | exact .inl rfl | exact .inr (by omega)))
        replace hB_t := hB_t.grown hs (by intro hk; injection hk with hk; have := hB_t.lt; have := hB_a.lt; omega)
        clear hs Fw13
        clear hc_t; have hc_t := hB_t.cell
        have hc_a := hB_a.cell
        repeat (first|(with_reducible first|apply Xa|apply Xb|apply Xc|apply Xd)|((with_reducible apply Xk);(focus rfl);(focus (simp [go_sem,effAt,↓IntWalk.iteOmega, *];(try go_ints);with_reducible first|exact Xm|exact Xn));focus (simp only [Xo,Xp,Xq,Xr,Xs];rfl))|((with_reducible apply Xl);(focus rfl);focus (simp only [Xo,Xp,Xq,Xr,Xs];rfl))|(with_reducible first|apply Xe|apply Xf|apply Xg|apply Xh)|((with_reducible apply Xi);focus first|rfl|(simp [go_sem, *];done))|((with_reducible apply Xj);focus first|rfl|(simp [go_sem, *];done))|(simp only [Exit.then,Exit.inBlock,↓reduceIte,Nat.reduceEqDiff]))
        refine wp_region_tail 12 (by kernel_rfl) (by kernel_rfl) ?_
        simp only [List.take_succ_cons, List.take_zero, List.drop_succ_cons, List.drop_zero]
        generalize hww15 : World.drew w14 = w15
        have hs : Below w14.heap.size w14 w15 := hww15 ▸ (Below.refl _ _).drew
        clear hww15
        have Fw15 := Fw14.trans (Turn.of_below hs)
        replace hB_t := hB_t.below hs hB_t.lt
        replace hB_a := hB_a.below hs hB_a.lt
        clear hs Fw14
        clear hc_t; have hc_t := hB_t.cell
        clear hc_a; have hc_a := hB_a.cell
        repeat (first | ((with_reducible apply still_q); (focus rfl); (focus (simp [go_sem, stAt, ↓IntWalk.iteOmega, *]; (try go_ints); (first | (with_reducible exact stUpon_val) | (with_reducible exact stUpon_skip)))); (focus ((simp only [Xo,Xp,Xq,Xr,Xs];rfl)))) | ((with_reducible apply still_s); (focus rfl); (focus ((simp only [Xo,Xp,Xq,Xr,Xs];rfl)))))
        with_reducible refine wpStill_nil ?_
        have hf_t := hB_t.frozen
        ((with_reducible apply Xt (fun w' => Blk w' _ _ _ ∧ w15.grownBy w' (some _))); (focus rfl); (focus (simp [go_sem, effAt, *]; exact ⟨rfl, (hB_t.set_ 3 _), (grown_set (World.grownBy.refl _ _))⟩)); (focus ((simp only [Xo,Xp,Xq,Xr,Xs];rfl))))
        clear hf_t hc_t hB_t
        intro w16 hs
        obtain ⟨hB_t, hs⟩ := hs
        simp only [Xq,Xr,Xs] at hB_t
        have Fw16 := Fw15.trans (Turn.of_grown hs (by first | exact .inl rfl | exact .inr (by omega)))
        replace hB_a := hB_a.grown hs (by intro hk; injection hk with hk; have := hB_a.lt; have := hB_t.lt; omega)
        clear hs Fw15
        clear hc_a; have hc_a := hB_a.cell
        have hc_t := hB_t.cell
        repeat (first|(with_reducible first|apply Xa|apply Xb|apply Xc|apply Xd)|((with_reducible apply Xk);(focus rfl);(focus (simp [go_sem,effAt,↓IntWalk.iteOmega, *];(try go_ints);with_reducible first|exact Xm|exact Xn));focus (simp only [Xo,Xp,Xq,Xr,Xs];rfl))|((with_reducible apply Xl);(focus rfl);focus (simp only [Xo,Xp,Xq,Xr,Xs];rfl))|(with_reducible first|apply Xe|apply Xf|apply Xg|apply Xh)|((with_reducible apply Xi);focus first|rfl|(simp [go_sem, *];done))|((with_reducible apply Xj);focus first|rfl|(simp [go_sem, *];done))|(simp only [Exit.then,Exit.inBlock,↓reduceIte,Nat.reduceEqDiff]))
        have hne : b ≠ tg := (HM.out.a1 b rfl).1
        have hnt : ∀ k, blkOf (Value.slice (if c1 = 1 then some ⟨b, off, none⟩ else some ⟨b, off + 5, none⟩) r1.length (c1 - 1)) = some k → ¬ (k = tg ∨ wr.heap.size ≤ k) := by
          intro k hk
          obtain rfl : b = k := by split at hk <;> simpa [blkOf] using hk
          rintro (e | e)
          · exact hne e
          · omega
        have hQ2 := qr_turn HQR.out (by assumption) hnt
        have hM2 := HM.out.put0 HP.out hB_t hQ2 (Turn.mono (by assumption) (fun k hk => by rcases hk with e | e; exact .inl e; exact .inr (.inr e))) (fun k hk => .inl (by split at hk <;> simpa [blkOf] using hk))
        have hM3 := hM2.below (Below.refl _ _).drew
        have hB_a3 := hB_a.drew
        clear hM2 hB_t hB_a hc_t hc_a hQ2 hnt
        refine late_region 16 (fun w' : World => w'.cell? ⟨tg, 1, none⟩ = some (.pointer (some ⟨g1, 0, none⟩)) ∧ ∀ i, w'.cell? ⟨wr.heap.size, i, none⟩ = (#[.int .u8 kx, .bool cx, .bool px, .int .u8 tx, .int .u8 fx] : Array Value)[i]?) lateR (by kernel_rfl) (by kernel_rfl) ?_
        have HS : ∀ w' : World, (w'.cell? ⟨tg, 1, none⟩ = some (.pointer (some ⟨g1, 0, none⟩)) ∧ ∀ i, w'.cell? ⟨wr.heap.size, i, none⟩ = (#[.int .u8 kx, .bool cx, .bool px, .int .u8 tx, .int .u8 fx] : Array Value)[i]?) → (w'.cell? ⟨tg, 1, none⟩ = some (.pointer (some ⟨g1, 0, none⟩)) ∧ ∀ i, w'.cell? ⟨wr.heap.size, i, none⟩ = (#[.int .u8 kx, .bool cx, .bool px, .int .u8 tx, .int .u8 fx] : Array Value)[i]?) := fun _ h => h
        generalize World.drew _ = u0 at hM3 hB_a3 ⊢
        have hS0 : u0.cell? ⟨tg, 1, none⟩ = some (.pointer (some ⟨g1, 0, none⟩)) ∧ ∀ i, u0.cell? ⟨wr.heap.size, i, none⟩ = (#[.int .u8 kx, .bool cx, .bool px, .int .u8 tx, .int .u8 fx] : Array Value)[i]? := ⟨hM3.blk.cell 1, hB_a3.cell⟩
        (with_reducible apply late_v 0)
        (focus rfl)
        (focus kernel_rfl)
        (focus kernel_rfl)
        (focus kernel_rfl)
        (focus kernel_rfl)
        (focus kernel_rfl)
        (focus rfl)
        (focus exact fun _ _ _ h => h)
        (focus (first | exact wanted_none rfl | exact wanted_yes rfl rfl rfl))
        (focus (intro w' hS; obtain ⟨hc_s, hc_a⟩ := HS _ hS; simp [go_sem, valAt, ↓IntWalk.iteOmega, *]; (try go_ints); (with_reducible exact valUpon_val)))
        (focus exact hS0)
        (focus (first|(apply put_some rfl;focus (conv=>lhs;dsimp only [Xr,Xs])<;>rfl)|exact put_none rfl))
        (with_reducible apply late_v 1)
        (focus rfl)
        (focus kernel_rfl)
        (focus kernel_rfl)
        (focus kernel_rfl)
        (focus kernel_rfl)
        (focus kernel_rfl)
        (focus rfl)
        (focus exact fun _ _ _ h => h)
        (focus (first | exact wanted_none rfl | exact wanted_yes rfl rfl rfl))
        (focus (intro w' hS; obtain ⟨hc_s, hc_a⟩ := HS _ hS; simp [go_sem, valAt, ↓IntWalk.iteOmega, *]; (try go_ints); (with_reducible exact valUpon_val)))
        (focus exact hS0)
        (focus (first|(apply put_some rfl;focus (conv=>lhs;dsimp only [Xr,Xs])<;>rfl)|exact put_none rfl))
        (with_reducible apply late_v 2)
        (focus rfl)
        (focus kernel_rfl)
        (focus kernel_rfl)
        (focus kernel_rfl)
        (focus kernel_rfl)
        (focus kernel_rfl)
        (focus rfl)
        (focus exact fun _ _ _ h => h)
        (focus (first | exact wanted_none rfl | exact wanted_yes rfl rfl rfl))
        (focus (intro w' hS; obtain ⟨hc_s, hc_a⟩ := HS _ hS; simp [go_sem, valAt, ↓IntWalk.iteOmega, *]; (try go_ints); (with_reducible exact valUpon_val)))
        (focus exact hS0)
        (focus (first|(apply put_some rfl;focus (conv=>lhs;dsimp only [Xr,Xs])<;>rfl)|exact put_none rfl))
        (with_reducible apply late_v 3)
        (focus rfl)
        (focus kernel_rfl)
        (focus kernel_rfl)
        (focus kernel_rfl)
        (focus kernel_rfl)
        (focus kernel_rfl)
        (focus rfl)
        (focus exact fun _ _ _ h => h)
        (focus (first | exact wanted_none rfl | exact wanted_yes rfl rfl rfl))
        (focus (intro w' hS; obtain ⟨hc_s, hc_a⟩ := HS _ hS; simp [go_sem, valAt, ↓IntWalk.iteOmega, *]; (try go_ints); (with_reducible exact valUpon_val)))
        (focus exact hS0)
        (focus (first|(apply put_some rfl;focus (conv=>lhs;dsimp only [Xr,Xs])<;>rfl)|exact put_none rfl))
        (with_reducible apply late_v 4)
        (focus rfl)
        (focus kernel_rfl)
        (focus kernel_rfl)
        (focus kernel_rfl)
        (focus kernel_rfl)
        (focus kernel_rfl)
        (focus rfl)
        (focus exact fun _ _ _ h => h)
        (focus (first | exact wanted_none rfl | exact wanted_yes rfl rfl rfl))
        (focus (intro w' hS; obtain ⟨hc_s, hc_a⟩ := HS _ hS; simp [go_sem, valAt, ↓IntWalk.iteOmega, *]; (try go_ints); (with_reducible exact valUpon_val)))
        (focus exact hS0)
        (focus (first|(apply put_some rfl;focus (conv=>lhs;dsimp only [Xr,Xs])<;>rfl)|exact put_none rfl))
        (with_reducible apply late_v 5)
        (focus rfl)
        (focus kernel_rfl)
        (focus kernel_rfl)
        (focus kernel_rfl)
        (focus kernel_rfl)
        (focus kernel_rfl)
        (focus rfl)
        (focus exact fun _ _ _ h => h)
        (focus (first | exact wanted_none rfl | exact wanted_yes rfl rfl rfl))
        (focus (intro w' hS; obtain ⟨hc_s, hc_a⟩ := HS _ hS; simp [go_sem, valAt, ↓IntWalk.iteOmega, *]; (try go_ints); (with_reducible exact valUpon_val)))
        (focus exact hS0)
        (focus (first|(apply put_some rfl;focus (conv=>lhs;dsimp only [Xr,Xs])<;>rfl)|exact put_none rfl))
        (with_reducible apply late_v 6)
        (focus rfl)
        (focus kernel_rfl)
        (focus kernel_rfl)
        (focus kernel_rfl)
        (focus kernel_rfl)
        (focus kernel_rfl)
        (focus rfl)
        (focus exact fun _ _ _ h => h)
        (focus (first | exact wanted_none rfl | exact wanted_yes rfl rfl rfl))
        (focus (intro w' hS; obtain ⟨hc_s, hc_a⟩ := HS _ hS; simp [go_sem, valAt, ↓IntWalk.iteOmega, *]; (try go_ints); (with_reducible exact valUpon_val)))
        (focus exact hS0)
        (focus (first|(apply put_some rfl;focus (conv=>lhs;dsimp only [Xr,Xs])<;>rfl)|exact put_none rfl))
        (with_reducible apply late_v 7)
        (focus rfl)
        (focus kernel_rfl)
        (focus kernel_rfl)
        (focus kernel_rfl)
        (focus kernel_rfl)
        (focus kernel_rfl)
        (focus rfl)
        (focus exact fun _ _ _ h => h)
        (focus (first | exact wanted_none rfl | exact wanted_yes rfl rfl rfl))
        (focus (intro w' hS; obtain ⟨hc_s, hc_a⟩ := HS _ hS; simp [go_sem, valAt, ↓IntWalk.iteOmega, *]; (try go_ints); (with_reducible exact valUpon_val)))
        (focus exact hS0)
        (focus (first|(apply put_some rfl;focus (conv=>lhs;dsimp only [Xr,Xs])<;>rfl)|exact put_none rfl))
        (with_reducible apply late_v 8)
        (focus rfl)
        (focus kernel_rfl)
        (focus kernel_rfl)
        (focus kernel_rfl)
        (focus kernel_rfl)
        (focus kernel_rfl)
        (focus rfl)
        (focus exact fun _ _ _ h => h)
        (focus (first | exact wanted_none rfl | exact wanted_yes rfl rfl rfl))
        (focus (intro w' hS; obtain ⟨hc_s, hc_a⟩ := HS _ hS; simp [go_sem, valAt, ↓IntWalk.iteOmega, *]; (try go_ints); (with_reducible exact valUpon_val)))
        (focus exact hS0)
        (focus (first|(apply put_some rfl;focus (conv=>lhs;dsimp only [Xr,Xs])<;>rfl)|exact put_none rfl))
        (with_reducible apply late_v 9)
        (focus rfl)
        (focus kernel_rfl)
        (focus kernel_rfl)
        (focus kernel_rfl)
        (focus kernel_rfl)
        (focus kernel_rfl)
        (focus rfl)
        (focus exact fun _ _ _ h => h)
        (focus (first | exact wanted_none rfl | exact wanted_yes rfl rfl rfl))
        (focus (intro w' hS; obtain ⟨hc_s, hc_a⟩ := HS _ hS; simp [go_sem, valAt, ↓IntWalk.iteOmega, *]; (try go_ints); (with_reducible exact valUpon_val)))
        (focus exact hS0)
        (focus (first|(apply put_some rfl;focus (conv=>lhs;dsimp only [Xr,Xs])<;>rfl)|exact put_none rfl))
        (with_reducible apply late_v 10)
        (focus rfl)
        (focus kernel_rfl)
        (focus kernel_rfl)
        (focus kernel_rfl)
        (focus kernel_rfl)
        (focus kernel_rfl)
        (focus rfl)
        (focus exact fun _ _ _ h => h)
        (focus (first | exact wanted_none rfl | exact wanted_yes rfl rfl rfl))
        (focus (intro w' hS; obtain ⟨hc_s, hc_a⟩ := HS _ hS; simp [go_sem, valAt, ↓IntWalk.iteOmega, *]; (try go_ints); (with_reducible exact valUpon_val)))
        (focus exact hS0)
        (focus (first|(apply put_some rfl;focus (conv=>lhs;dsimp only [Xr,Xs])<;>rfl)|exact put_none rfl))
        (with_reducible apply late_v 11)
        (focus rfl)
        (focus kernel_rfl)
        (focus kernel_rfl)
        (focus kernel_rfl)
        (focus kernel_rfl)
        (focus kernel_rfl)
        (focus rfl)
        (focus exact fun _ _ _ h => h)
        (focus (first | exact wanted_none rfl | exact wanted_yes rfl rfl rfl))
        (focus (intro w' hS; obtain ⟨hc_s, hc_a⟩ := HS _ hS; simp [go_sem, valAt, ↓IntWalk.iteOmega, *]; (try go_ints); (with_reducible exact valUpon_val)))
        (focus exact hS0)
        (focus (first|(apply put_some rfl;focus (conv=>lhs;dsimp only [Xr,Xs])<;>rfl)|exact put_none rfl))
        (with_reducible apply late_v 12)
        (focus rfl)
        (focus kernel_rfl)
        (focus kernel_rfl)
        (focus kernel_rfl)
        (focus kernel_rfl)
        (focus kernel_rfl)
        (focus rfl)
        (focus exact fun _ _ _ h => h)
        (focus (first | exact wanted_none rfl | exact wanted_yes rfl rfl rfl))
        (focus (intro w' hS; obtain ⟨hc_s, hc_a⟩ := HS _ hS; simp [go_sem, valAt, ↓IntWalk.iteOmega, *]; (try go_ints); (with_reducible exact valUpon_val)))
        (focus exact hS0)
        (focus (first|(apply put_some rfl;focus (conv=>lhs;dsimp only [Xr,Xs])<;>rfl)|exact put_none rfl))
        (with_reducible apply late_v 13)
        (focus rfl)
        (focus kernel_rfl)
        (focus kernel_rfl)
        (focus kernel_rfl)
        (focus kernel_rfl)
        (focus kernel_rfl)
        (focus rfl)
        (focus exact fun _ _ _ h => h)
        (focus (first | exact wanted_none rfl | exact wanted_yes rfl rfl rfl))
        (focus (intro w' hS; obtain ⟨hc_s, hc_a⟩ := HS _ hS; simp [go_sem, valAt, ↓IntWalk.iteOmega, *]; (try go_ints); (with_reducible exact valUpon_val)))
        (focus exact hS0)
        (focus (first|(apply put_some rfl;focus (conv=>lhs;dsimp only [Xr,Xs])<;>rfl)|exact put_none rfl))
        refine late_all (rs := [14]) (by kernel_rfl) (by simp) ?_
        refine List.forall_mem_cons.2 ⟨?_, by intro _ h; cases h⟩
        have hl3 := hM3.l1
        dsimp only at hl3
        have hgl : g1 ≠ wr.heap.size := by have := Blk.lt (HM.out.l1); omega
        (with_reducible apply late_e (fun w' => LL w' g1 (hearF l1 kx px cx).2 ∧ u0.grownBy w' (some g1)))
        (focus rfl)
        (focus (first | exact wanted_none rfl | exact wanted_yes rfl rfl rfl))
        (focus (simp only [effAt]; simp [go_sem]; (with_reducible exact effUpon_enter (hear_any g1 l1 hg1 kx px cx _ hl3))))
        (focus (first|(apply put_some rfl;focus (conv=>lhs;dsimp only [Xr,Xs])<;>rfl)|exact put_none rfl))
        (focus exact fun w' h => .inr ⟨(hM3.hear1 HP.out h.1 h.2).blk.cell 1, (hB_a3.grown h.2 (fun e => by injection e with e; exact hgl e.symm)).cell⟩)
        rintro u1 ⟨hl4, hgr⟩
        have hM4 := hM3.hear1 HP.out hl4 hgr
        have hLL := HL.out
        simp only [List.length_cons, List.length_nil] at hLL
        have hMt0 := (⟨_, _, hM4⟩ : ∃ s0 s1, MT W0 tg g0 g1 _ s0 s1 u1)
        have hSd := said_any HP.out true (hearF l1 kx px cx).1 (by first | omega | (dsimp only; omega) | (simp; done) | (simp; omega)) (by first | omega | (dsimp only; omega) | (simp; done) | (simp; omega)) u1 hMt0
        simp only [↓reduceIte, Bool.false_eq_true] at hSd
        refine late_all (rs := [15]) (by kernel_rfl) (by simp) ?_
        refine List.forall_mem_cons.2 ⟨?_, by intro _ h; cases h⟩
        (with_reducible apply late_e (Mt W0 tg g0 g1 (saidF _ true (hearF l1 kx px cx).1)))
        (focus rfl)
        (focus (first | exact wanted_none rfl | exact wanted_yes rfl rfl rfl))
        (focus (simp only [effAt]; simp [go_sem]; (with_reducible exact effUpon_enter hSd)))
        (focus (first|(apply put_some rfl;focus (conv=>lhs;dsimp only [Xr,Xs])<;>rfl)|exact put_none rfl))
        (focus exact fun w' h => .inl rfl)
        rintro u2 hMt
        (with_reducible apply late_done)
        (focus kernel_rfl)
        repeat (first|(with_reducible first|apply Xa|apply Xb|apply Xc|apply Xd)|((with_reducible apply Xk);(focus rfl);(focus (simp [go_sem,effAt,↓IntWalk.iteOmega, *];(try go_ints);with_reducible first|exact Xm|exact Xn));focus (simp only [Xo,Xp,Xq,Xr,Xs];rfl))|((with_reducible apply Xl);(focus rfl);focus (simp only [Xo,Xp,Xq,Xr,Xs];rfl))|(with_reducible first|apply Xe|apply Xf|apply Xg|apply Xh)|((with_reducible apply Xi);focus first|rfl|(simp [go_sem, *];done))|((with_reducible apply Xj);focus first|rfl|(simp [go_sem, *];done))|(simp only [Exit.then,Exit.inBlock,↓reduceIte,Nat.reduceEqDiff]))
        refine hK _ _ (Handed.intro n ?measure (hJ _ _ _ ?_))
        rotate_left
        (repeat apply Exists.intro)
        refine ⟨?rel, rfl⟩
        case rel => exact ⟨i + 1, _, by go_num, by omega, (run_step (by rfl) (by rfl)).symm.trans HRUN.out, by rw [(said_l _ _ _).1]; first | exact hg0 | exact good_hear hg0 _ _ _, by rw [(said_l _ _ _).2]; first | exact hg1 | exact good_hear hg1 _ _ _, Nat.le_trans (said_len _ _ _).1 (by first | omega | (dsimp only; omega) | (simp; done) | (simp; omega)), Nat.le_trans (said_len _ _ _).2 (by first | omega | (dsimp only; omega) | (simp; done) | (simp; omega)), hMt⟩
        case measure => omega
      · clear hlt
        rename_i x0 r0
        obtain ⟨b, off, cap, he, hc1, hcm, hBb, hbl, hcl, hQr⟩ := HM.out.q0.head
        simp only [Value.slice.injEq] at he
        obtain ⟨rfl, _, rfl⟩ := he
        obtain ⟨kx, cx, px, tx, fx⟩ := x0
        have e0 : wr.cell? ⟨b, off, none⟩ = some (.int .u8 kx) := hcl 0 _ rfl
        have e1 : wr.cell? ⟨b, off + 1, none⟩ = some (.bool cx) := hcl 1 _ rfl
        have e2 : wr.cell? ⟨b, off + 2, none⟩ = some (.bool px) := hcl 2 _ rfl
        have e3 : wr.cell? ⟨b, off + 3, none⟩ = some (.int .u8 tx) := hcl 3 _ rfl
        have e4 : wr.cell? ⟨b, off + 4, none⟩ = some (.int .u8 fx) := hcl 4 _ rfl
        have HQR := Lib.hid hQr
        have hcap1 : (1 : Int) ≤ (c0 : Int) := by omega
        clear hcl hQr
        have Fwr : Below wr.heap.size wr wr := Below.refl _ _
        have FTwr : Turn (fun i => i = tg ∨ wr.heap.size ≤ i) wr wr := Turn.refl _
        have hc_t := hB_t.cell
        repeat (first|(with_reducible first|apply Xa|apply Xb|apply Xc|apply Xd)|((with_reducible apply Xk);(focus rfl);(focus (simp [go_sem,effAt,↓IntWalk.iteOmega, *];(try go_ints);with_reducible first|exact Xm|exact Xn));focus (simp only [Xo,Xp,Xq,Xr,Xs];rfl))|((with_reducible apply Xl);(focus rfl);focus (simp only [Xo,Xp,Xq,Xr,Xs];rfl))|(with_reducible first|apply Xe|apply Xf|apply Xg|apply Xh)|((with_reducible apply Xi);focus first|rfl|(simp [go_sem, *];done))|((with_reducible apply Xj);focus first|rfl|(simp [go_sem, *];done))|(simp only [Exit.then,Exit.inBlock,↓reduceIte,Nat.reduceEqDiff]))
        clear e0 e1 e2 e3 e4
        have lt_t_a := hB_t.lt
        have le_a := FTwr.size
        ((with_reducible apply Xu); (focus rfl); (focus (simp [go_sem, effAt]; exact ⟨rfl, rfl⟩)); (focus ((simp only [Xo,Xp,Xq,Xr,Xs];rfl))))
        intro w17 hB_a hs
        have Fw17 := FTwr.trans (Turn.of_below hs)
        replace hB_t := hB_t.below hs hB_t.lt
        clear hs FTwr
        clear hc_t; have hc_t := hB_t.cell
        have hc_a := hB_a.cell
        have hf_a := hB_a.frozen
        ((with_reducible apply Xt (fun w' => Blk w' _ _ _ ∧ w17.grownBy w' (some _))); (focus rfl); (focus (simp [go_sem, effAt, *]; exact ⟨rfl, (((((hB_a.set_ 0 _).set_ 1 _).set_ 2 _).set_ 3 _).set_ 4 _), (grown_set (grown_set (grown_set (grown_set (grown_set (World.grownBy.refl _ _))))))⟩)); (focus ((simp only [Xo,Xp,Xq,Xr,Xs];rfl))))
        clear hf_a hc_a hB_a
        intro w18 hs
        obtain ⟨hB_a, hs⟩ := hs
        simp only [Xq,Xr,Xs] at hB_a
        have Fw18 := Fw17.trans (Turn.of_grown hs (by first | exact .inl rfl | exact .inr (by omega)))
        replace hB_t := hB_t.grown hs (by intro hk; injection hk with hk; have := hB_t.lt; have := hB_a.lt; omega)
        clear hs Fw17
        clear hc_t; have hc_t := hB_t.cell
        have hc_a := hB_a.cell
        repeat (first|(with_reducible first|apply Xa|apply Xb|apply Xc|apply Xd)|((with_reducible apply Xk);(focus rfl);(focus (simp [go_sem,effAt,↓IntWalk.iteOmega, *];(try go_ints);with_reducible first|exact Xm|exact Xn));focus (simp only [Xo,Xp,Xq,Xr,Xs];rfl))|((with_reducible apply Xl);(focus rfl);focus (simp only [Xo,Xp,Xq,Xr,Xs];rfl))|(with_reducible first|apply Xe|apply Xf|apply Xg|apply Xh)|((with_reducible apply Xi);focus first|rfl|(simp [go_sem, *];done))|((with_reducible apply Xj);focus first|rfl|(simp [go_sem, *];done))|(simp only [Exit.then,Exit.inBlock,↓reduceIte,Nat.reduceEqDiff]))
        refine wp_region_tail 12 (by kernel_rfl) (by kernel_rfl) ?_
        simp only [List.take_succ_cons, List.take_zero, List.drop_succ_cons, List.drop_zero]
        generalize hww19 : World.drew w18 = w19
        have hs : Below w18.heap.size w18 w19 := hww19 ▸ (Below.refl _ _).drew
        clear hww19
        have Fw19 := Fw18.trans (Turn.of_below hs)
        replace hB_t := hB_t.below hs hB_t.lt
        replace hB_a := hB_a.below hs hB_a.lt
        clear hs Fw18
        clear hc_t; have hc_t := hB_t.cell
        clear hc_a; have hc_a := hB_a.cell
        repeat (first | ((with_reducible apply still_q); (focus rfl); (focus (simp [go_sem, stAt, ↓IntWalk.iteOmega, *]; (try go_ints); (first | (with_reducible exact stUpon_val) | (with_reducible exact stUpon_skip)))); (focus ((simp only [Xo,Xp,Xq,Xr,Xs];rfl)))) | ((with_reducible apply still_s); (focus rfl); (focus ((simp only [Xo,Xp,Xq,Xr,Xs];rfl)))))
        with_reducible refine wpStill_nil ?_
        have hf_t := hB_t.frozen
        ((with_reducible apply Xt (fun w' => Blk w' _ _ _ ∧ w19.grownBy w' (some _))); (focus rfl); (focus (simp [go_sem, effAt, *]; exact ⟨rfl, (hB_t.set_ 2 _), (grown_set (World.grownBy.refl _ _))⟩)); (focus ((simp only [Xo,Xp,Xq,Xr,Xs];rfl))))
        clear hf_t hc_t hB_t
        intro w20 hs
        obtain ⟨hB_t, hs⟩ := hs
        simp only [Xq,Xr,Xs] at hB_t
        have Fw20 := Fw19.trans (Turn.of_grown hs (by first | exact .inl rfl | exact .inr (by omega)))
        replace hB_a := hB_a.grown hs (by intro hk; injection hk with hk; have := hB_a.lt; have := hB_t.lt; omega)
        clear hs Fw19
        clear hc_a; have hc_a := hB_a.cell
        have hc_t := hB_t.cell
        repeat (first|(with_reducible first|apply Xa|apply Xb|apply Xc|apply Xd)|((with_reducible apply Xk);(focus rfl);(focus (simp [go_sem,effAt,↓IntWalk.iteOmega, *];(try go_ints);with_reducible first|exact Xm|exact Xn));focus (simp only [Xo,Xp,Xq,Xr,Xs];rfl))|((with_reducible apply Xl);(focus rfl);focus (simp only [Xo,Xp,Xq,Xr,Xs];rfl))|(with_reducible first|apply Xe|apply Xf|apply Xg|apply Xh)|((with_reducible apply Xi);focus first|rfl|(simp [go_sem, *];done))|((with_reducible apply Xj);focus first|rfl|(simp [go_sem, *];done))|(simp only [Exit.then,Exit.inBlock,↓reduceIte,Nat.reduceEqDiff]))
        have hne : b ≠ tg := (HM.out.a0 b rfl).1
        have hnt : ∀ k, blkOf (Value.slice (if c0 = 1 then some ⟨b, off, none⟩ else some ⟨b, off + 5, none⟩) r0.length (c0 - 1)) = some k → ¬ (k = tg ∨ wr.heap.size ≤ k) := by
          intro k hk
          obtain rfl : b = k := by split at hk <;> simpa [blkOf] using hk
          rintro (e | e)
          · exact hne e
          · omega
        have hQ2 := qr_turn HQR.out (by assumption) hnt
        have hM2 := HM.out.put1 HP.out hB_t hQ2 (Turn.mono (by assumption) (fun k hk => by rcases hk with e | e; exact .inl e; exact .inr (.inr e))) (fun k hk => .inl (by split at hk <;> simpa [blkOf] using hk))
        have hM3 := hM2.below (Below.refl _ _).drew
        have hB_a3 := hB_a.drew
        clear hM2 hB_t hB_a hc_t hc_a hQ2 hnt
        refine late_region 16 (fun w' : World => w'.cell? ⟨tg, 0, none⟩ = some (.pointer (some ⟨g0, 0, none⟩)) ∧ ∀ i, w'.cell? ⟨wr.heap.size, i, none⟩ = (#[.int .u8 kx, .bool cx, .bool px, .int .u8 tx, .int .u8 fx] : Array Value)[i]?) lateR (by kernel_rfl) (by kernel_rfl) ?_
        have HS : ∀ w' : World, (w'.cell? ⟨tg, 0, none⟩ = some (.pointer (some ⟨g0, 0, none⟩)) ∧ ∀ i, w'.cell? ⟨wr.heap.size, i, none⟩ = (#[.int .u8 kx, .bool cx, .bool px, .int .u8 tx, .int .u8 fx] : Array Value)[i]?) → (w'.cell? ⟨tg, 0, none⟩ = some (.pointer (some ⟨g0, 0, none⟩)) ∧ ∀ i, w'.cell? ⟨wr.heap.size, i, none⟩ = (#[.int .u8 kx, .bool cx, .bool px, .int .u8 tx, .int .u8 fx] : Array Value)[i]?) := fun _ h => h
        generalize World.drew _ = u0 at hM3 hB_a3 ⊢
        have hS0 : u0.cell? ⟨tg, 0, none⟩ = some (.pointer (some ⟨g0, 0, none⟩)) ∧ ∀ i, u0.cell? ⟨wr.heap.size, i, none⟩ = (#[.int .u8 kx, .bool cx, .bool px, .int .u8 tx, .int .u8 fx] : Array Value)[i]? := ⟨hM3.blk.cell 0, hB_a3.cell⟩
        (with_reducible apply late_v 0)
        (focus rfl)
        (focus kernel_rfl)
        (focus kernel_rfl)
        (focus kernel_rfl)
        (focus kernel_rfl)
        (focus kernel_rfl)
        (focus rfl)
        (focus exact fun _ _ _ h => h)
        (focus (first | exact wanted_none rfl | exact wanted_yes rfl rfl rfl))
        (focus (intro w' hS; obtain ⟨hc_s, hc_a⟩ := HS _ hS; simp [go_sem, valAt, ↓IntWalk.iteOmega, *]; (try go_ints); (with_reducible exact valUpon_val)))
        (focus exact hS0)
        (focus (first|(apply put_some rfl;focus (conv=>lhs;dsimp only [Xr,Xs])<;>rfl)|exact put_none rfl))
        (with_reducible apply late_v 1)
        (focus rfl)
        (focus kernel_rfl)
        (focus kernel_rfl)
        (focus kernel_rfl)
        (focus kernel_rfl)
        (focus kernel_rfl)
        (focus rfl)
        (focus exact fun _ _ _ h => h)
        (focus (first | exact wanted_none rfl | exact wanted_yes rfl rfl rfl))
        (focus (intro w' hS; obtain ⟨hc_s, hc_a⟩ := HS _ hS; simp [go_sem, valAt, ↓IntWalk.iteOmega, *]; (try go_ints); (with_reducible exact valUpon_val)))
        (focus exact hS0)
        (focus (first|(apply put_some rfl;focus (conv=>lhs;dsimp only [Xr,Xs])<;>rfl)|exact put_none rfl))
        (with_reducible apply late_v 2)
        (focus rfl)
        (focus kernel_rfl)
        (focus kernel_rfl)
        (focus kernel_rfl)
        (focus kernel_rfl)
        (focus kernel_rfl)
        (focus rfl)
        (focus exact fun _ _ _ h => h)
        (focus (first | exact wanted_none rfl | exact wanted_yes rfl rfl rfl))
        (focus (intro w' hS; obtain ⟨hc_s, hc_a⟩ := HS _ hS; simp [go_sem, valAt, ↓IntWalk.iteOmega, *]; (try go_ints); (with_reducible exact valUpon_val)))
        (focus exact hS0)
        (focus (first|(apply put_some rfl;focus (conv=>lhs;dsimp only [Xr,Xs])<;>rfl)|exact put_none rfl))
        (with_reducible apply late_v 3)
        (focus rfl)
        (focus kernel_rfl)
        (focus kernel_rfl)
        (focus kernel_rfl)
        (focus kernel_rfl)
        (focus kernel_rfl)
        (focus rfl)
        (focus exact fun _ _ _ h => h)
        (focus (first | exact wanted_none rfl | exact wanted_yes rfl rfl rfl))
        (focus (intro w' hS; obtain ⟨hc_s, hc_a⟩ := HS _ hS; simp [go_sem, valAt, ↓IntWalk.iteOmega, *]; (try go_ints); (with_reducible exact valUpon_val)))
        (focus exact hS0)
        (focus (first|(apply put_some rfl;focus (conv=>lhs;dsimp only [Xr,Xs])<;>rfl)|exact put_none rfl))
        (with_reducible apply late_v 4)
        (focus rfl)
        (focus kernel_rfl)
        (focus kernel_rfl)
        (focus kernel_rfl)
        (focus kernel_rfl)
        (focus kernel_rfl)
        (focus rfl)
        (focus exact fun _ _ _ h => h)
        (focus (first | exact wanted_none rfl | exact wanted_yes rfl rfl rfl))
        (focus (intro w' hS; obtain ⟨hc_s, hc_a⟩ := HS _ hS; simp [go_sem, valAt, ↓IntWalk.iteOmega, *]; (try go_ints); (with_reducible exact valUpon_val)))
        (focus exact hS0)
        (focus (first|(apply put_some rfl;focus (conv=>lhs;dsimp only [Xr,Xs])<;>rfl)|exact put_none rfl))
        (with_reducible apply late_v 5)
        (focus rfl)
        (focus kernel_rfl)
        (focus kernel_rfl)
        (focus kernel_rfl)
        (focus kernel_rfl)
        (focus kernel_rfl)
        (focus rfl)
        (focus exact fun _ _ _ h => h)
        (focus (first | exact wanted_none rfl | exact wanted_yes rfl rfl rfl))
        (focus (intro w' hS; obtain ⟨hc_s, hc_a⟩ := HS _ hS; simp [go_sem, valAt, ↓IntWalk.iteOmega, *]; (try go_ints); (with_reducible exact valUpon_val)))
        (focus exact hS0)
        (focus (first|(apply put_some rfl;focus (conv=>lhs;dsimp only [Xr,Xs])<;>rfl)|exact put_none rfl))
        (with_reducible apply late_v 6)
        (focus rfl)
        (focus kernel_rfl)
        (focus kernel_rfl)
        (focus kernel_rfl)
        (focus kernel_rfl)
        (focus kernel_rfl)
        (focus rfl)
        (focus exact fun _ _ _ h => h)
        (focus (first | exact wanted_none rfl | exact wanted_yes rfl rfl rfl))
        (focus (intro w' hS; obtain ⟨hc_s, hc_a⟩ := HS _ hS; simp [go_sem, valAt, ↓IntWalk.iteOmega, *]; (try go_ints); (with_reducible exact valUpon_val)))
        (focus exact hS0)
        (focus (first|(apply put_some rfl;focus (conv=>lhs;dsimp only [Xr,Xs])<;>rfl)|exact put_none rfl))
        (with_reducible apply late_v 7)
        (focus rfl)
        (focus kernel_rfl)
        (focus kernel_rfl)
        (focus kernel_rfl)
        (focus kernel_rfl)
        (focus kernel_rfl)
        (focus rfl)
        (focus exact fun _ _ _ h => h)
        (focus (first | exact wanted_none rfl | exact wanted_yes rfl rfl rfl))
        (focus (intro w' hS; obtain ⟨hc_s, hc_a⟩ := HS _ hS; simp [go_sem, valAt, ↓IntWalk.iteOmega, *]; (try go_ints); (with_reducible exact valUpon_val)))
        (focus exact hS0)
        (focus (first|(apply put_some rfl;focus (conv=>lhs;dsimp only [Xr,Xs])<;>rfl)|exact put_none rfl))
        (with_reducible apply late_v 8)
        (focus rfl)
        (focus kernel_rfl)
        (focus kernel_rfl)
        (focus kernel_rfl)
        (focus kernel_rfl)
        (focus kernel_rfl)
        (focus rfl)
        (focus exact fun _ _ _ h => h)
        (focus (first | exact wanted_none rfl | exact wanted_yes rfl rfl rfl))
        (focus (intro w' hS; obtain ⟨hc_s, hc_a⟩ := HS _ hS; simp [go_sem, valAt, ↓IntWalk.iteOmega, *]; (try go_ints); (with_reducible exact valUpon_val)))
        (focus exact hS0)
        (focus (first|(apply put_some rfl;focus (conv=>lhs;dsimp only [Xr,Xs])<;>rfl)|exact put_none rfl))
        (with_reducible apply late_v 9)
        (focus rfl)
        (focus kernel_rfl)
        (focus kernel_rfl)
        (focus kernel_rfl)
        (focus kernel_rfl)
        (focus kernel_rfl)
        (focus rfl)
        (focus exact fun _ _ _ h => h)
        (focus (first | exact wanted_none rfl | exact wanted_yes rfl rfl rfl))
        (focus (intro w' hS; obtain ⟨hc_s, hc_a⟩ := HS _ hS; simp [go_sem, valAt, ↓IntWalk.iteOmega, *]; (try go_ints); (with_reducible exact valUpon_val)))
        (focus exact hS0)
        (focus (first|(apply put_some rfl;focus (conv=>lhs;dsimp only [Xr,Xs])<;>rfl)|exact put_none rfl))
        (with_reducible apply late_v 10)
        (focus rfl)
        (focus kernel_rfl)
        (focus kernel_rfl)
        (focus kernel_rfl)
        (focus kernel_rfl)
        (focus kernel_rfl)
        (focus rfl)
        (focus exact fun _ _ _ h => h)
        (focus (first | exact wanted_none rfl | exact wanted_yes rfl rfl rfl))
        (focus (intro w' hS; obtain ⟨hc_s, hc_a⟩ := HS _ hS; simp [go_sem, valAt, ↓IntWalk.iteOmega, *]; (try go_ints); (with_reducible exact valUpon_val)))
        (focus exact hS0)
        (focus (first|(apply put_some rfl;focus (conv=>lhs;dsimp only [Xr,Xs])<;>rfl)|exact put_none rfl))
        (with_reducible apply late_v 11)
        (focus rfl)
        (focus kernel_rfl)
        (focus kernel_rfl)
        (focus kernel_rfl)
        (focus kernel_rfl)
        (focus kernel_rfl)
        (focus rfl)
        (focus exact fun _ _ _ h => h)
        (focus (first | exact wanted_none rfl | exact wanted_yes rfl rfl rfl))
        (focus (intro w' hS; obtain ⟨hc_s, hc_a⟩ := HS _ hS; simp [go_sem, valAt, ↓IntWalk.iteOmega, *]; (try go_ints); (with_reducible exact valUpon_val)))
        (focus exact hS0)
        (focus (first|(apply put_some rfl;focus (conv=>lhs;dsimp only [Xr,Xs])<;>rfl)|exact put_none rfl))
        (with_reducible apply late_v 12)
        (focus rfl)
        (focus kernel_rfl)
        (focus kernel_rfl)
        (focus kernel_rfl)
        (focus kernel_rfl)
        (focus kernel_rfl)
        (focus rfl)
        (focus exact fun _ _ _ h => h)
        (focus (first | exact wanted_none rfl | exact wanted_yes rfl rfl rfl))
        (focus (intro w' hS; obtain ⟨hc_s, hc_a⟩ := HS _ hS; simp [go_sem, valAt, ↓IntWalk.iteOmega, *]; (try go_ints); (with_reducible exact valUpon_val)))
        (focus exact hS0)
        (focus (first|(apply put_some rfl;focus (conv=>lhs;dsimp only [Xr,Xs])<;>rfl)|exact put_none rfl))
        (with_reducible apply late_v 13)
        (focus rfl)
        (focus kernel_rfl)
        (focus kernel_rfl)
        (focus kernel_rfl)
        (focus kernel_rfl)
        (focus kernel_rfl)
        (focus rfl)
        (focus exact fun _ _ _ h => h)
        (focus (first | exact wanted_none rfl | exact wanted_yes rfl rfl rfl))
        (focus (intro w' hS; obtain ⟨hc_s, hc_a⟩ := HS _ hS; simp [go_sem, valAt, ↓IntWalk.iteOmega, *]; (try go_ints); (with_reducible exact valUpon_val)))
        (focus exact hS0)
        (focus (first|(apply put_some rfl;focus (conv=>lhs;dsimp only [Xr,Xs])<;>rfl)|exact put_none rfl))
        refine late_all (rs := [14]) (by kernel_rfl) (by simp) ?_
        refine List.forall_mem_cons.2 ⟨?_, by intro _ h; cases h⟩
        have hl3 := hM3.l0
        dsimp only at hl3
        have hgl : g0 ≠ wr.heap.size := by have := Blk.lt (HM.out.l0); omega
        (with_reducible apply late_e (fun w' => LL w' g0 (hearF l0 kx px cx).2 ∧ u0.grownBy w' (some g0)))
        (focus rfl)
        (focus (first | exact wanted_none rfl | exact wanted_yes rfl rfl rfl))
        (focus (simp only [effAt]; simp [go_sem]; (with_reducible exact effUpon_enter (hear_any g0 l0 hg0 kx px cx _ hl3))))
        (focus (first|(apply put_some rfl;focus (conv=>lhs;dsimp only [Xr,Xs])<;>rfl)|exact put_none rfl))
        (focus exact fun w' h => .inr ⟨(hM3.hear0 HP.out h.1 h.2).blk.cell 0, (hB_a3.grown h.2 (fun e => by injection e with e; exact hgl e.symm)).cell⟩)
        rintro u1 ⟨hl4, hgr⟩
        have hM4 := hM3.hear0 HP.out hl4 hgr
        have hLL := HL.out
        simp only [List.length_cons, List.length_nil] at hLL
        have hMt0 := (⟨_, _, hM4⟩ : ∃ s0 s1, MT W0 tg g0 g1 _ s0 s1 u1)
        have hSd := said_any HP.out false (hearF l0 kx px cx).1 (by first | omega | (dsimp only; omega) | (simp; done) | (simp; omega)) (by first | omega | (dsimp only; omega) | (simp; done) | (simp; omega)) u1 hMt0
        simp only [↓reduceIte, Bool.false_eq_true] at hSd
        refine late_all (rs := [15]) (by kernel_rfl) (by simp) ?_
        refine List.forall_mem_cons.2 ⟨?_, by intro _ h; cases h⟩
        (with_reducible apply late_e (Mt W0 tg g0 g1 (saidF _ false (hearF l0 kx px cx).1)))
        (focus rfl)
        (focus (first | exact wanted_none rfl | exact wanted_yes rfl rfl rfl))
        (focus (simp only [effAt]; simp [go_sem]; (with_reducible exact effUpon_enter hSd)))
        (focus (first|(apply put_some rfl;focus (conv=>lhs;dsimp only [Xr,Xs])<;>rfl)|exact put_none rfl))
        (focus exact fun w' h => .inl rfl)
        rintro u2 hMt
        (with_reducible apply late_done)
        (focus kernel_rfl)
        repeat (first|(with_reducible first|apply Xa|apply Xb|apply Xc|apply Xd)|((with_reducible apply Xk);(focus rfl);(focus (simp [go_sem,effAt,↓IntWalk.iteOmega, *];(try go_ints);with_reducible first|exact Xm|exact Xn));focus (simp only [Xo,Xp,Xq,Xr,Xs];rfl))|((with_reducible apply Xl);(focus rfl);focus (simp only [Xo,Xp,Xq,Xr,Xs];rfl))|(with_reducible first|apply Xe|apply Xf|apply Xg|apply Xh)|((with_reducible apply Xi);focus first|rfl|(simp [go_sem, *];done))|((with_reducible apply Xj);focus first|rfl|(simp [go_sem, *];done))|(simp only [Exit.then,Exit.inBlock,↓reduceIte,Nat.reduceEqDiff]))
        refine hK _ _ (Handed.intro n ?measure (hJ _ _ _ ?_))
        rotate_left
        (repeat apply Exists.intro)
        refine ⟨?rel, rfl⟩
        case rel => exact ⟨i + 1, _, by go_num, by omega, (run_step (by rfl) (by rfl)).symm.trans HRUN.out, by rw [(said_l _ _ _).1]; first | exact hg0 | exact good_hear hg0 _ _ _, by rw [(said_l _ _ _).2]; first | exact hg1 | exact good_hear hg1 _ _ _, Nat.le_trans (said_len _ _ _).1 (by first | omega | (dsimp only; omega) | (simp; done) | (simp; omega)), Nat.le_trans (said_len _ _ _).2 (by first | omega | (dsimp only; omega) | (simp; done) | (simp; omega)), hMt⟩
        case measure => omega
      · clear hlt
        rename_i x0 r0 x1 r1
        obtain ⟨b, off, cap, he, hc1, hcm, hBb, hbl, hcl, hQr⟩ := HM.out.q1.head
        simp only [Value.slice.injEq] at he
        obtain ⟨rfl, _, rfl⟩ := he
        obtain ⟨kx, cx, px, tx, fx⟩ := x1
        have e0 : wr.cell? ⟨b, off, none⟩ = some (.int .u8 kx) := hcl 0 _ rfl
        have e1 : wr.cell? ⟨b, off + 1, none⟩ = some (.bool cx) := hcl 1 _ rfl
        have e2 : wr.cell? ⟨b, off + 2, none⟩ = some (.bool px) := hcl 2 _ rfl
        have e3 : wr.cell? ⟨b, off + 3, none⟩ = some (.int .u8 tx) := hcl 3 _ rfl
        have e4 : wr.cell? ⟨b, off + 4, none⟩ = some (.int .u8 fx) := hcl 4 _ rfl
        have HQR := Lib.hid hQr
        have hcap1 : (1 : Int) ≤ (c1 : Int) := by omega
        clear hcl hQr
        have Fwr : Below wr.heap.size wr wr := Below.refl _ _
        have FTwr : Turn (fun i => i = tg ∨ wr.heap.size ≤ i) wr wr := Turn.refl _
        have hc_t := hB_t.cell
        repeat (first|(with_reducible first|apply Xa|apply Xb|apply Xc|apply Xd)|((with_reducible apply Xk);(focus rfl);(focus (simp [go_sem,effAt,↓IntWalk.iteOmega, *];(try go_ints);with_reducible first|exact Xm|exact Xn));focus (simp only [Xo,Xp,Xq,Xr,Xs];rfl))|((with_reducible apply Xl);(focus rfl);focus (simp only [Xo,Xp,Xq,Xr,Xs];rfl))|(with_reducible first|apply Xe|apply Xf|apply Xg|apply Xh)|((with_reducible apply Xi);focus first|rfl|(simp [go_sem, *];done))|((with_reducible apply Xj);focus first|rfl|(simp [go_sem, *];done))|(simp only [Exit.then,Exit.inBlock,↓reduceIte,Nat.reduceEqDiff]))
        clear e0 e1 e2 e3 e4
        have lt_t_a := hB_t.lt
        have le_a := FTwr.size
        ((with_reducible apply Xu); (focus rfl); (focus (simp [go_sem, effAt]; exact ⟨rfl, rfl⟩)); (focus ((simp only [Xo,Xp,Xq,Xr,Xs];rfl))))
        intro w21 hB_a hs
        have Fw21 := FTwr.trans (Turn.of_below hs)
        replace hB_t := hB_t.below hs hB_t.lt
        clear hs FTwr
        clear hc_t; have hc_t := hB_t.cell
        have hc_a := hB_a.cell
        have hf_a := hB_a.frozen
        ((with_reducible apply Xt (fun w' => Blk w' _ _ _ ∧ w21.grownBy w' (some _))); (focus rfl); (focus (simp [go_sem, effAt, *]; exact ⟨rfl, (((((hB_a.set_ 0 _).set_ 1 _).set_ 2 _).set_ 3 _).set_ 4 _), (grown_set (grown_set (grown_set (grown_set (grown_set (World.grownBy.refl _ _))))))⟩)); (focus ((simp only [Xo,Xp,Xq,Xr,Xs];rfl))))
        clear hf_a hc_a hB_a
        intro w22 hs
        obtain ⟨hB_a, hs⟩ := hs
        simp only [Xq,Xr,Xs] at hB_a
        have Fw22 := Fw21.trans (Turn.of_grown hs (by first | exact .inl rfl | exact .inr (by omega)))
        replace hB_t := hB_t.grown hs (by intro hk; injection hk with hk; have := hB_t.lt; have := hB_a.lt; omega)
        clear hs Fw21
        clear hc_t; have hc_t := hB_t.cell
        have hc_a := hB_a.cell
        repeat (first|(with_reducible first|apply Xa|apply Xb|apply Xc|apply Xd)|((with_reducible apply Xk);(focus rfl);(focus (simp [go_sem,effAt,↓IntWalk.iteOmega, *];(try go_ints);with_reducible first|exact Xm|exact Xn));focus (simp only [Xo,Xp,Xq,Xr,Xs];rfl))|((with_reducible apply Xl);(focus rfl);focus (simp only [Xo,Xp,Xq,Xr,Xs];rfl))|(with_reducible first|apply Xe|apply Xf|apply Xg|apply Xh)|((with_reducible apply Xi);focus first|rfl|(simp [go_sem, *];done))|((with_reducible apply Xj);focus first|rfl|(simp [go_sem, *];done))|(simp only [Exit.then,Exit.inBlock,↓reduceIte,Nat.reduceEqDiff]))
        refine wp_region_tail 12 (by kernel_rfl) (by kernel_rfl) ?_
        simp only [List.take_succ_cons, List.take_zero, List.drop_succ_cons, List.drop_zero]
        generalize hww23 : World.drew w22 = w23
        have hs : Below w22.heap.size w22 w23 := hww23 ▸ (Below.refl _ _).drew
        clear hww23
        have Fw23 := Fw22.trans (Turn.of_below hs)
        replace hB_t := hB_t.below hs hB_t.lt
        replace hB_a := hB_a.below hs hB_a.lt
        clear hs Fw22
        clear hc_t; have hc_t := hB_t.cell
        clear hc_a; have hc_a := hB_a.cell
        repeat (first | ((with_reducible apply still_q); (focus rfl); (focus (simp [go_sem, stAt, ↓IntWalk.iteOmega, *]; (try go_ints); (first | (with_reducible exact stUpon_val) | (with_reducible exact stUpon_skip)))); (focus ((simp only [Xo,Xp,Xq,Xr,Xs];rfl)))) | ((with_reducible apply still_s); (focus rfl); (focus ((simp only [Xo,Xp,Xq,Xr,Xs];rfl)))))
        with_reducible refine wpStill_nil ?_
        have hf_t := hB_t.frozen
        ((with_reducible apply Xt (fun w' => Blk w' _ _ _ ∧ w23.grownBy w' (some _))); (focus rfl); (focus (simp [go_sem, effAt, *]; exact ⟨rfl, (hB_t.set_ 3 _), (grown_set (World.grownBy.refl _ _))⟩)); (focus ((simp only [Xo,Xp,Xq,Xr,Xs];rfl))))
        clear hf_t hc_t hB_t
        intro w24 hs
        obtain ⟨hB_t, hs⟩ := hs
        simp only [Xq,Xr,Xs] at hB_t
        have Fw24 := Fw23.trans (Turn.of_grown hs (by first | exact .inl rfl | exact .inr (by omega)))
        replace hB_a := hB_a.grown hs (by intro hk; injection hk with hk; have := hB_a.lt; have := hB_t.lt; omega)
        clear hs Fw23
        clear hc_a; have hc_a := hB_a.cell
        have hc_t := hB_t.cell
        repeat (first|(with_reducible first|apply Xa|apply Xb|apply Xc|apply Xd)|((with_reducible apply Xk);(focus rfl);(focus (simp [go_sem,effAt,↓IntWalk.iteOmega, *];(try go_ints);with_reducible first|exact Xm|exact Xn));focus (simp only [Xo,Xp,Xq,Xr,Xs];rfl))|((with_reducible apply Xl);(focus rfl);focus (simp only [Xo,Xp,Xq,Xr,Xs];rfl))|(with_reducible first|apply Xe|apply Xf|apply Xg|apply Xh)|((with_reducible apply Xi);focus first|rfl|(simp [go_sem, *];done))|((with_reducible apply Xj);focus first|rfl|(simp [go_sem, *];done))|(simp only [Exit.then,Exit.inBlock,↓reduceIte,Nat.reduceEqDiff]))
        have hne : b ≠ tg := (HM.out.a1 b rfl).1
        have hnt : ∀ k, blkOf (Value.slice (if c1 = 1 then some ⟨b, off, none⟩ else some ⟨b, off + 5, none⟩) r1.length (c1 - 1)) = some k → ¬ (k = tg ∨ wr.heap.size ≤ k) := by
          intro k hk
          obtain rfl : b = k := by split at hk <;> simpa [blkOf] using hk
          rintro (e | e)
          · exact hne e
          · omega
        have hQ2 := qr_turn HQR.out (by assumption) hnt
        have hM2 := HM.out.put0 HP.out hB_t hQ2 (Turn.mono (by assumption) (fun k hk => by rcases hk with e | e; exact .inl e; exact .inr (.inr e))) (fun k hk => .inl (by split at hk <;> simpa [blkOf] using hk))
        have hM3 := hM2.below (Below.refl _ _).drew
        have hB_a3 := hB_a.drew
        clear hM2 hB_t hB_a hc_t hc_a hQ2 hnt
        refine late_region 16 (fun w' : World => w'.cell? ⟨tg, 1, none⟩ = some (.pointer (some ⟨g1, 0, none⟩)) ∧ ∀ i, w'.cell? ⟨wr.heap.size, i, none⟩ = (#[.int .u8 kx, .bool cx, .bool px, .int .u8 tx, .int .u8 fx] : Array Value)[i]?) lateR (by kernel_rfl) (by kernel_rfl) ?_
        have HS : ∀ w' : World, (w'.cell? ⟨tg, 1, none⟩ = some (.pointer (some ⟨g1, 0, none⟩)) ∧ ∀ i, w'.cell? ⟨wr.heap.size, i, none⟩ = (#[.int .u8 kx, .bool cx, .bool px, .int .u8 tx, .int .u8 fx] : Array Value)[i]?) → (w'.cell? ⟨tg, 1, none⟩ = some (.pointer (some ⟨g1, 0, none⟩)) ∧ ∀ i, w'.cell? ⟨wr.heap.size, i, none⟩ = (#[.int .u8 kx, .bool cx, .bool px, .int .u8 tx, .int .u8 fx] : Array Value)[i]?) := fun _ h => h
        generalize World.drew _ = u0 at hM3 hB_a3 ⊢
        have hS0 : u0.cell? ⟨tg, 1, none⟩ = some (.pointer (some ⟨g1, 0, none⟩)) ∧ ∀ i, u0.cell? ⟨wr.heap.size, i, none⟩ = (#[.int .u8 kx, .bool cx, .bool px, .int .u8 tx, .int .u8 fx] : Array Value)[i]? := ⟨hM3.blk.cell 1, hB_a3.cell⟩
        (with_reducible apply late_v 0)
        (focus rfl)
        (focus kernel_rfl)
        (focus kernel_rfl)
        (focus kernel_rfl)
        (focus kernel_rfl)
        (focus kernel_rfl)
        (focus rfl)
        (focus exact fun _ _ _ h => h)
        (focus (first | exact wanted_none rfl | exact wanted_yes rfl rfl rfl))
        (focus (intro w' hS; obtain ⟨hc_s, hc_a⟩ := HS _ hS; simp [go_sem, valAt, ↓IntWalk.iteOmega, *]; (try go_ints); (with_reducible exact valUpon_val)))
        (focus exact hS0)
        (focus (first|(apply put_some rfl;focus (conv=>lhs;dsimp only [Xr,Xs])<;>rfl)|exact put_none rfl))
        (with_reducible apply late_v 1)
        (focus rfl)
        (focus kernel_rfl)
        (focus kernel_rfl)
        (focus kernel_rfl)
        (focus kernel_rfl)
        (focus kernel_rfl)
        (focus rfl)
        (focus exact fun _ _ _ h => h)
        (focus (first | exact wanted_none rfl | exact wanted_yes rfl rfl rfl))
        (focus (intro w' hS; obtain ⟨hc_s, hc_a⟩ := HS _ hS; simp [go_sem, valAt, ↓IntWalk.iteOmega, *]; (try go_ints); (with_reducible exact valUpon_val)))
        (focus exact hS0)
        (focus (first|(apply put_some rfl;focus (conv=>lhs;dsimp only [Xr,Xs])<;>rfl)|exact put_none rfl))
        (with_reducible apply late_v 2)
        (focus rfl)
        (focus kernel_rfl)
        (focus kernel_rfl)
        (focus kernel_rfl)
        (focus kernel_rfl)
        (focus kernel_rfl)
        (focus rfl)
        (focus exact fun _ _ _ h => h)
        (focus (first | exact wanted_none rfl | exact wanted_yes rfl rfl rfl))
        (focus (intro w' hS; obtain ⟨hc_s, hc_a⟩ := HS _ hS; simp [go_sem, valAt, ↓IntWalk.iteOmega, *]; (try go_ints); (with_reducible exact valUpon_val)))
        (focus exact hS0)
        (focus (first|(apply put_some rfl;focus (conv=>lhs;dsimp only [Xr,Xs])<;>rfl)|exact put_none rfl))
        (with_reducible apply late_v 3)
        (focus rfl)
        (focus kernel_rfl)
        (focus kernel_rfl)
        (focus kernel_rfl)
        (focus kernel_rfl)
        (focus kernel_rfl)
        (focus rfl)
        (focus exact fun _ _ _ h => h)
        (focus (first | exact wanted_none rfl | exact wanted_yes rfl rfl rfl))
        (focus (intro w' hS; obtain ⟨hc_s, hc_a⟩ := HS _ hS; simp [go_sem, valAt, ↓IntWalk.iteOmega, *]; (try go_ints); (with_reducible exact valUpon_val)))
        (focus exact hS0)
        (focus (first|(apply put_some rfl;focus (conv=>lhs;dsimp only [Xr,Xs])<;>rfl)|exact put_none rfl))
        (with_reducible apply late_v 4)
        (focus rfl)
        (focus kernel_rfl)
        (focus kernel_rfl)
        (focus kernel_rfl)
        (focus kernel_rfl)
        (focus kernel_rfl)
        (focus rfl)
        (focus exact fun _ _ _ h => h)
        (focus (first | exact wanted_none rfl | exact wanted_yes rfl rfl rfl))
        (focus (intro w' hS; obtain ⟨hc_s, hc_a⟩ := HS _ hS; simp [go_sem, valAt, ↓IntWalk.iteOmega, *]; (try go_ints); (with_reducible exact valUpon_val)))
        (focus exact hS0)
        (focus (first|(apply put_some rfl;focus (conv=>lhs;dsimp only [Xr,Xs])<;>rfl)|exact put_none rfl))
        (with_reducible apply late_v 5)
        (focus rfl)
        (focus kernel_rfl)
        (focus kernel_rfl)
        (focus kernel_rfl)
        (focus kernel_rfl)
        (focus kernel_rfl)
        (focus rfl)
        (focus exact fun _ _ _ h => h)
        (focus (first | exact wanted_none rfl | exact wanted_yes rfl rfl rfl))
        (focus (intro w' hS; obtain ⟨hc_s, hc_a⟩ := HS _ hS; simp [go_sem, valAt, ↓IntWalk.iteOmega, *]; (try go_ints); (with_reducible exact valUpon_val)))
        (focus exact hS0)
        (focus (first|(apply put_some rfl;focus (conv=>lhs;dsimp only [Xr,Xs])<;>rfl)|exact put_none rfl))
        (with_reducible apply late_v 6)
        (focus rfl)
        (focus kernel_rfl)
        (focus kernel_rfl)
        (focus kernel_rfl)
        (focus kernel_rfl)
        (focus kernel_rfl)
        (focus rfl)
        (focus exact fun _ _ _ h => h)
        (focus (first | exact wanted_none rfl | exact wanted_yes rfl rfl rfl))
        (focus (intro w' hS; obtain ⟨hc_s, hc_a⟩ := HS _ hS; simp [go_sem, valAt, ↓IntWalk.iteOmega, *]; (try go_ints); (with_reducible exact valUpon_val)))
        (focus exact hS0)
        (focus (first|(apply put_some rfl;focus (conv=>lhs;dsimp only [Xr,Xs])<;>rfl)|exact put_none rfl))
        (with_reducible apply late_v 7)
        (focus rfl)
        (focus kernel_rfl)
        (focus kernel_rfl)
        (focus kernel_rfl)
        (focus kernel_rfl)
        (focus kernel_rfl)
        (focus rfl)
        (focus exact fun _ _ _ h => h)
        (focus (first | exact wanted_none rfl | exact wanted_yes rfl rfl rfl))
        (focus (intro w' hS; obtain ⟨hc_s, hc_a⟩ := HS _ hS; simp [go_sem, valAt, ↓IntWalk.iteOmega, *]; (try go_ints); (with_reducible exact valUpon_val)))
        (focus exact hS0)
        (focus (first|(apply put_some rfl;focus (conv=>lhs;dsimp only [Xr,Xs])<;>rfl)|exact put_none rfl))
        (with_reducible apply late_v 8)
        (focus rfl)
        (focus kernel_rfl)
        (focus kernel_rfl)
        (focus kernel_rfl)
        (focus kernel_rfl)
        (focus kernel_rfl)
        (focus rfl)
        (focus exact fun _ _ _ h => h)
        (focus (first | exact wanted_none rfl | exact wanted_yes rfl rfl rfl))
        (focus (intro w' hS; obtain ⟨hc_s, hc_a⟩ := HS _ hS; simp [go_sem, valAt, ↓IntWalk.iteOmega, *]; (try go_ints); (with_reducible exact valUpon_val)))
        (focus exact hS0)
        (focus (first|(apply put_some rfl;focus (conv=>lhs;dsimp only [Xr,Xs])<;>rfl)|exact put_none rfl))
        (with_reducible apply late_v 9)
        (focus rfl)
        (focus kernel_rfl)
        (focus kernel_rfl)
        (focus kernel_rfl)
        (focus kernel_rfl)
        (focus kernel_rfl)
        (focus rfl)
        (focus exact fun _ _ _ h => h)
        (focus (first | exact wanted_none rfl | exact wanted_yes rfl rfl rfl))
        (focus (intro w' hS; obtain ⟨hc_s, hc_a⟩ := HS _ hS; simp [go_sem, valAt, ↓IntWalk.iteOmega, *]; (try go_ints); (with_reducible exact valUpon_val)))
        (focus exact hS0)
        (focus (first|(apply put_some rfl;focus (conv=>lhs;dsimp only [Xr,Xs])<;>rfl)|exact put_none rfl))
        (with_reducible apply late_v 10)
        (focus rfl)
        (focus kernel_rfl)
        (focus kernel_rfl)
        (focus kernel_rfl)
        (focus kernel_rfl)
        (focus kernel_rfl)
        (focus rfl)
        (focus exact fun _ _ _ h => h)
        (focus (first | exact wanted_none rfl | exact wanted_yes rfl rfl rfl))
        (focus (intro w' hS; obtain ⟨hc_s, hc_a⟩ := HS _ hS; simp [go_sem, valAt, ↓IntWalk.iteOmega, *]; (try go_ints); (with_reducible exact valUpon_val)))
        (focus exact hS0)
        (focus (first|(apply put_some rfl;focus (conv=>lhs;dsimp only [Xr,Xs])<;>rfl)|exact put_none rfl))
        (with_reducible apply late_v 11)
        (focus rfl)
        (focus kernel_rfl)
        (focus kernel_rfl)
        (focus kernel_rfl)
        (focus kernel_rfl)
        (focus kernel_rfl)
        (focus rfl)
        (focus exact fun _ _ _ h => h)
        (focus (first | exact wanted_none rfl | exact wanted_yes rfl rfl rfl))
        (focus (intro w' hS; obtain ⟨hc_s, hc_a⟩ := HS _ hS; simp [go_sem, valAt, ↓IntWalk.iteOmega, *]; (try go_ints); (with_reducible exact valUpon_val)))
        (focus exact hS0)
        (focus (first|(apply put_some rfl;focus (conv=>lhs;dsimp only [Xr,Xs])<;>rfl)|exact put_none rfl))
        (with_reducible apply late_v 12)
        (focus rfl)
        (focus kernel_rfl)
        (focus kernel_rfl)
        (focus kernel_rfl)
        (focus kernel_rfl)
        (focus kernel_rfl)
        (focus rfl)
        (focus exact fun _ _ _ h => h)
        (focus (first | exact wanted_none rfl | exact wanted_yes rfl rfl rfl))
        (focus (intro w' hS; obtain ⟨hc_s, hc_a⟩ := HS _ hS; simp [go_sem, valAt, ↓IntWalk.iteOmega, *]; (try go_ints); (with_reducible exact valUpon_val)))
        (focus exact hS0)
        (focus (first|(apply put_some rfl;focus (conv=>lhs;dsimp only [Xr,Xs])<;>rfl)|exact put_none rfl))
        (with_reducible apply late_v 13)
        (focus rfl)
        (focus kernel_rfl)
        (focus kernel_rfl)
        (focus kernel_rfl)
        (focus kernel_rfl)
        (focus kernel_rfl)
        (focus rfl)
        (focus exact fun _ _ _ h => h)
        (focus (first | exact wanted_none rfl | exact wanted_yes rfl rfl rfl))
        (focus (intro w' hS; obtain ⟨hc_s, hc_a⟩ := HS _ hS; simp [go_sem, valAt, ↓IntWalk.iteOmega, *]; (try go_ints); (with_reducible exact valUpon_val)))
        (focus exact hS0)
        (focus (first|(apply put_some rfl;focus (conv=>lhs;dsimp only [Xr,Xs])<;>rfl)|exact put_none rfl))
        refine late_all (rs := [14]) (by kernel_rfl) (by simp) ?_
        refine List.forall_mem_cons.2 ⟨?_, by intro _ h; cases h⟩
        have hl3 := hM3.l1
        dsimp only at hl3
        have hgl : g1 ≠ wr.heap.size := by have := Blk.lt (HM.out.l1); omega
        (with_reducible apply late_e (fun w' => LL w' g1 (hearF l1 kx px cx).2 ∧ u0.grownBy w' (some g1)))
        (focus rfl)
        (focus (first | exact wanted_none rfl | exact wanted_yes rfl rfl rfl))
        (focus (simp only [effAt]; simp [go_sem]; (with_reducible exact effUpon_enter (hear_any g1 l1 hg1 kx px cx _ hl3))))
        (focus (first|(apply put_some rfl;focus (conv=>lhs;dsimp only [Xr,Xs])<;>rfl)|exact put_none rfl))
        (focus exact fun w' h => .inr ⟨(hM3.hear1 HP.out h.1 h.2).blk.cell 1, (hB_a3.grown h.2 (fun e => by injection e with e; exact hgl e.symm)).cell⟩)
        rintro u1 ⟨hl4, hgr⟩
        have hM4 := hM3.hear1 HP.out hl4 hgr
        have hLL := HL.out
        simp only [List.length_cons, List.length_nil] at hLL
        have hMt0 := (⟨_, _, hM4⟩ : ∃ s0 s1, MT W0 tg g0 g1 _ s0 s1 u1)
        have hSd := said_any HP.out true (hearF l1 kx px cx).1 (by first | omega | (dsimp only; omega) | (simp; done) | (simp; omega)) (by first | omega | (dsimp only; omega) | (simp; done) | (simp; omega)) u1 hMt0
        simp only [↓reduceIte, Bool.false_eq_true] at hSd
        refine late_all (rs := [15]) (by kernel_rfl) (by simp) ?_
        refine List.forall_mem_cons.2 ⟨?_, by intro _ h; cases h⟩
        (with_reducible apply late_e (Mt W0 tg g0 g1 (saidF _ true (hearF l1 kx px cx).1)))
        (focus rfl)
        (focus (first | exact wanted_none rfl | exact wanted_yes rfl rfl rfl))
        (focus (simp only [effAt]; simp [go_sem]; (with_reducible exact effUpon_enter hSd)))
        (focus (first|(apply put_some rfl;focus (conv=>lhs;dsimp only [Xr,Xs])<;>rfl)|exact put_none rfl))
        (focus exact fun w' h => .inl rfl)
        rintro u2 hMt
        (with_reducible apply late_done)
        (focus kernel_rfl)
        repeat (first|(with_reducible first|apply Xa|apply Xb|apply Xc|apply Xd)|((with_reducible apply Xk);(focus rfl);(focus (simp [go_sem,effAt,↓IntWalk.iteOmega, *];(try go_ints);with_reducible first|exact Xm|exact Xn));focus (simp only [Xo,Xp,Xq,Xr,Xs];rfl))|((with_reducible apply Xl);(focus rfl);focus (simp only [Xo,Xp,Xq,Xr,Xs];rfl))|(with_reducible first|apply Xe|apply Xf|apply Xg|apply Xh)|((with_reducible apply Xi);focus first|rfl|(simp [go_sem, *];done))|((with_reducible apply Xj);focus first|rfl|(simp [go_sem, *];done))|(simp only [Exit.then,Exit.inBlock,↓reduceIte,Nat.reduceEqDiff]))
        refine hK _ _ (Handed.intro n ?measure (hJ _ _ _ ?_))
        rotate_left
        (repeat apply Exists.intro)
        refine ⟨?rel, rfl⟩
        case rel => exact ⟨i + 1, _, by go_num, by omega, (run_step (by rfl) (by rfl)).symm.trans HRUN.out, by rw [(said_l _ _ _).1]; first | exact hg0 | exact good_hear hg0 _ _ _, by rw [(said_l _ _ _).2]; first | exact hg1 | exact good_hear hg1 _ _ _, Nat.le_trans (said_len _ _ _).1 (by first | omega | (dsimp only; omega) | (simp; done) | (simp; omega)), Nat.le_trans (said_len _ _ _).2 (by first | omega | (dsimp only; omega) | (simp; done) | (simp; omega)), hMt⟩
        case measure => omega
end Go.Proofs.Ytggpecddkbceoaa
