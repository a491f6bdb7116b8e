/- A call of both; what both tell: the walks of does, tells. -/
import Derived.Test.YtminenipklgbcaaP9
set_option linter.unusedSimpArgs false
set_option linter.unusedVariables false
namespace Go.Proofs.Ytminenipklgbcaa
open Go.RowKit Go.Eff
attribute [local irreducible] Go.wpList
/-- a call: Do, DLCI, Class, On -/
abbrev Cll := Nat × Nat × Nat × Bool
def cellsC (c : Cll) : List Value := [.int .u8 (c.1 : Int), .int .u8 (c.2.1 : Int), .int .u8 (c.2.2.1 : Int), .bool c.2.2.2]
def doF (s : PS) (c : Cll) : PS :=
  if c.1 % 8 = 0 then s.callC c.2.1 c.2.2.1 else if c.1 % 8 = 1 then s.callR c.2.1 c.2.2.2 else if c.1 % 8 = 2 then s.callR c.2.1 c.2.2.2
  else if c.1 % 8 = 3 then (if mayP s c.2.1 then s.take c.2.1 else s) else s.pick
theorem callC_ok {s : PS} (hs : s.Ok) (d c : Nat) : (s.callC d c).Ok := by
  unfold PS.callC
  split
  · split
    · exact setC_ok hs (by omega)
    · exact hs
  · exact hs
theorem callR_ok {s : PS} (hs : s.Ok) (d : Nat) (b : Bool) : (s.callR d b).Ok := by
  unfold PS.callR
  split
  · exact setR_ok hs
  · exact hs
theorem doF_ok {s : PS} (hs : s.Ok) (c : Cll) : (doF s c).Ok := by
  unfold doF
  split
  · exact callC_ok hs _ _
  split
  · exact callR_ok hs _ _
  split
  · exact callR_ok hs _ _
  split
  · split
    · rename_i h; exact take_ok hs h.1
    · exact hs
  · exact pick_ok hs
/-- where the two lie -/
structure PL (B g : Nat) (z : Sh) : Prop where
  ok : z.Ok B
  g0 : B ≤ g
  gh : g ≠ z.h
  ga : g ≠ z.a
  gb : g ≠ z.b
  gc : g ≠ z.c
/-- what is known between the calls -/
structure Two (W0 : World) (g : Nat) (z : Sh) (s s' : PS) (w : World) : Prop where
  p : PB w g s
  r : RB w z s'
  f : Below W0.heap.size W0 w
/-- and one block beside -/
structure Tri (W0 : World) (g : Nat) (z : Sh) (s s' : PS) (b : Nat) (cs : Array Value) (w : World) : Prop where
  t : Two W0 g z s s' w
  k : Blk w b 30 cs
  c : ∀ i, w.cell? ⟨b, i, none⟩ = cs[i]?
section
variable {W0 w w' : World} {g b : Nat} {z : Sh} {s s' s2 : PS} {cs : Array Value} {f : FuncId} {args : Array Value} {v : Value}
theorem Two.below (h : Two W0 g z s s' w) (hb : Below w.heap.size w w') : Two W0 g z s s' w' := ⟨Blk.below h.p hb (Blk.lt h.p), h.r.below hb, h.f.trans (hb.mono h.f.size)⟩
theorem Two.drew (h : Two W0 g z s s' w) : Two W0 g z s s' w.drew := ⟨Blk.drew h.p, h.r.drew, h.f.drew⟩
theorem Tri.drew (h : Tri W0 g z s s' b cs w) : Tri W0 g z s s' b cs w.drew := ⟨h.t.drew, h.k.drew, h.c⟩
theorem two_p (hp : PL W0.heap.size g z) (h : Two W0 g z s s' w) (hc : Calls Try.prog f args w (Ret v fun w' => PB w' g s2 ∧ w.grownBy w' (some g))) : Calls Try.prog f args w (Ret v (Two W0 g z s2 s')) :=
  hc.mono fun e w' ⟨he, h1, h2⟩ => ⟨he, h1, h.r.grown h2 (Ne.symm hp.gh) (Ne.symm hp.ga) (Ne.symm hp.gb) (Ne.symm hp.gc), h.f.grown h2 h.f.size (by intro j hj; injection hj with hj; have := hp.g0; omega)⟩
theorem two_r (hp : PL W0.heap.size g z) (h : Two W0 g z s s' w) (hc : Calls Try.prog f args w (Ret v fun w' => RB w' z s2 ∧ Turn (TR z w) w w')) : Calls Try.prog f args w (Ret v (Two W0 g z s s2)) :=
  hc.mono fun e w' ⟨he, h1, h2⟩ => ⟨he, (h2.block g (Blk.lt h.p) (by have := Blk.lt h.p; have := hp.ga; have := hp.gb; have := hp.gc; unfold TR; omega)).trans h.p, h1,
    h2.behind h.f (Nat.le_refl _) (by intro i hi; have := hp.ok.a0; have := hp.ok.b0; have := hp.ok.c0; have := h.f.size; unfold TR at hi; omega)⟩
theorem two_read (h : Two W0 g z s s' w) (hc : Calls Try.prog f args w (Ret v (Below w.heap.size w))) : Calls Try.prog f args w (Ret v (Two W0 g z s s')) :=
  hc.mono fun e w' ⟨he, h1⟩ => ⟨he, h.below h1⟩
theorem tri_p (hp : PL W0.heap.size g z) (hbg : g < b) (h : Tri W0 g z s s' b cs w) (hc : Calls Try.prog f args w (Ret v fun w' => PB w' g s2 ∧ w.grownBy w' (some g))) : Calls Try.prog f args w (Ret v (Tri W0 g z s2 s' b cs)) :=
  hc.mono fun e w' ⟨he, h1, h2⟩ =>
    have hb := h.k.grown h2 (fun e => by injection e; omega)
    ⟨he, ⟨h1, h.t.r.grown h2 (Ne.symm hp.gh) (Ne.symm hp.ga) (Ne.symm hp.gb) (Ne.symm hp.gc), h.t.f.grown h2 h.t.f.size (by intro j hj; injection hj with hj; have := hp.g0; omega)⟩, hb, hb.cell⟩
theorem tri_r (hp : PL W0.heap.size g z) (hba : z.a < b) (hbb : z.b < b) (hbc : z.c < b) (h : Tri W0 g z s s' b cs w) (hc : Calls Try.prog f args w (Ret v fun w' => RB w' z s2 ∧ Turn (TR z w) w w')) : Calls Try.prog f args w (Ret v (Tri W0 g z s s2 b cs)) :=
  hc.mono fun e w' ⟨he, h1, h2⟩ =>
    have hb : Blk w' b 30 cs := (h2.block b h.k.lt (by have := h.k.lt; unfold TR; omega)).trans h.k
    ⟨he, ⟨(h2.block g (Blk.lt h.t.p) (by have := Blk.lt h.t.p; have := hp.ga; have := hp.gb; have := hp.gc; unfold TR; omega)).trans h.t.p, h1,
    h2.behind h.t.f (Nat.le_refl _) (by intro i hi; have := hp.ok.a0; have := hp.ok.b0; have := hp.ok.c0; have := h.t.f.size; unfold TR at hi; omega)⟩, hb, hb.cell⟩
end
set_option maxRecDepth 100000 in
set_option maxHeartbeats 4000000 in
theorem does_any {W0 : World} {g : Nat} {z : Sh} {s : PS} (hs : s.Ok) (hp : PL W0.heap.size g z) (c : Cll) (hc1 : c.1 ≤ 255) (w : World) (hT : Two W0 g z s s w) :
    Calls Try.prog 10 #[.pointer (some ⟨g, 0, none⟩), .pointer (some ⟨z.h, 0, none⟩), .agg #[.int .u8 (c.1 : Int), .int .u8 (c.2.1 : Int), .int .u8 (c.2.2.1 : Int), .bool c.2.2.2]] w (Ret (.bool true) (Two W0 g z (doF s c) (doF s c))) := by
  obtain ⟨k, d, cl, on⟩ := c
  dsimp only at hc1 ⊢
  have hgl := Blk.lt hT.p
  have hal := hT.r.a.lt
  have hbl := hT.r.b.lt
  have hcl := hT.r.c.lt
  obtain ⟨X, hX⟩ : ∃ X, doF s (k, d, cl, on) = X := ⟨_, rfl⟩
  rw [hX]
  obtain ⟨m, hm⟩ : ∃ m : Nat, k % 8 = m := ⟨_, rfl⟩
  have hm8 : m < 8 := by omega
  have hkm : (k : Int) % 8 = (m : Int) := by omega
  have HX := Lib.hid hX
  have HM := Lib.hid hm
  have HT := Lib.hid hT
  clear hX hm hT
  have head : True := trivial
  rcases (by omega : m = 0 ∨ m = 1 ∨ m = 2 ∨ m = 3 ∨ 4 ≤ m) with rfl | rfl | rfl | rfl | h4
  · skip
    go_enter Try.func10, Try.ntmps10
    have F0 : Below w.heap.size w w := Below.refl _ _
    repeat (first | with_reducible apply wpList_nil | with_reducible apply seq_region | with_reducible apply wp_region_lit | with_reducible apply wp_seq | ((with_reducible apply seq_q); (focus rfl); (focus (simp [go_sem, effAt, ↓IntWalk.iteOmega, *]; (try go_ints); (first | (with_reducible exact effUpon_val) | (with_reducible exact effUpon_skip)))); (focus ((simp only [Act.put, List.setIfInBounds_toArray, List.set_cons_zero, List.set_cons_succ]; rfl)))) | ((with_reducible apply seq_s); (focus rfl); (focus ((simp only [Act.put, List.setIfInBounds_toArray, List.set_cons_zero, List.set_cons_succ]; rfl)))) | with_reducible apply wp_block | with_reducible apply wp_skip | with_reducible apply wp_exit | with_reducible apply wp_ret | ((with_reducible apply wp_cond_true); (focus (first | rfl | (simp [go_sem, *]; done)))) | ((with_reducible apply wp_cond_false); (focus (first | rfl | (simp [go_sem, *]; done)))) | (simp only [Exit.then, Exit.inBlock, ↓reduceIte, Nat.reduceEqDiff]))
    ((with_reducible apply seq_box); (focus rfl); (focus (simp [go_sem, effAt]; exact ⟨rfl, rfl⟩)); (focus ((simp only [Act.put, List.setIfInBounds_toArray, List.set_cons_zero, List.set_cons_succ]; rfl))))
    intro w1 hB_b hs
    have Fw1 := F0.trans (hs.mono F0.size)
    clear hs F0
    have hc_b := hB_b.cell
    repeat (first | with_reducible apply wpList_nil | with_reducible apply seq_region | with_reducible apply wp_region_lit | with_reducible apply wp_seq | ((with_reducible apply seq_q); (focus rfl); (focus (simp [go_sem, effAt, ↓IntWalk.iteOmega, *]; (try go_ints); (first | (with_reducible exact effUpon_val) | (with_reducible exact effUpon_skip)))); (focus ((simp only [Act.put, List.setIfInBounds_toArray, List.set_cons_zero, List.set_cons_succ]; rfl)))) | ((with_reducible apply seq_s); (focus rfl); (focus ((simp only [Act.put, List.setIfInBounds_toArray, List.set_cons_zero, List.set_cons_succ]; rfl)))) | with_reducible apply wp_block | with_reducible apply wp_skip | with_reducible apply wp_exit | with_reducible apply wp_ret | ((with_reducible apply wp_cond_true); (focus (first | rfl | (simp [go_sem, *]; done)))) | ((with_reducible apply wp_cond_false); (focus (first | rfl | (simp [go_sem, *]; done)))) | (simp only [Exit.then, Exit.inBlock, ↓reduceIte, Nat.reduceEqDiff]))
    have hT0 : Tri W0 g z s s w.heap.size #[.int .u8 (k : Int), .int .u8 (d : Int), .int .u8 (cl : Int), .bool on] w1 := ⟨HT.out.below Fw1, hB_b, hB_b.cell⟩
    clear hB_b hc_b Fw1
    refine wp_region_eff (S := fun w' => ∀ i, w'.cell? ⟨w.heap.size, i, none⟩ = (#[.int .u8 (k : Int), .int .u8 (d : Int), .int .u8 (cl : Int), .bool on] : Array Value)[i]?) (I := Tri W0 g z s s w.heap.size #[.int .u8 (k : Int), .int .u8 (d : Int), .int .u8 (cl : Int), .bool on]) (E := fun i => [5, 11].contains i) (by kernel_rfl) (by kernel_rfl) hT0.drew (fun _ h => h.c) ?_
    repeat (first | ((with_reducible apply lex_q); (focus rfl); (focus rfl); (focus (intro w' hS; skip; simp [go_sem, effAt, ↓IntWalk.iteOmega, *]; (try go_ints); (first | (with_reducible exact effUpon_val) | (with_reducible exact effUpon_skip)))); (focus ((simp only [Act.put, List.setIfInBounds_toArray, List.set_cons_zero, List.set_cons_succ]; rfl)))) | ((with_reducible apply lex_s); (focus rfl); (focus ((simp only [Act.put, List.setIfInBounds_toArray, List.set_cons_zero, List.set_cons_succ]; rfl)))))
    (with_reducible apply lex_e (Tri W0 g z (s.callC d cl) s w.heap.size #[.int .u8 (k : Int), .int .u8 (d : Int), .int .u8 (cl : Int), .bool on]))
    (focus (first | exact wanted_none rfl | exact wanted_yes rfl rfl rfl))
    (focus rfl)
    (focus (intro w' hS; simp only [effAt]; simp [go_sem]; (with_reducible exact effUpon_enter (tri_p hp hgl hS (setclass_any hs g d cl w' hS.t.p)))))
    (focus exact fun _ h => h.c)
    (focus (first | (apply put_some rfl; focus (conv => lhs; dsimp only [List.set_cons_zero, List.set_cons_succ]) <;> rfl) | exact put_none rfl))
    repeat (first | ((with_reducible apply lex_q); (focus rfl); (focus rfl); (focus (intro w' hS; skip; simp [go_sem, effAt, ↓IntWalk.iteOmega, *]; (try go_ints); (first | (with_reducible exact effUpon_val) | (with_reducible exact effUpon_skip)))); (focus ((simp only [Act.put, List.setIfInBounds_toArray, List.set_cons_zero, List.set_cons_succ]; rfl)))) | ((with_reducible apply lex_s); (focus rfl); (focus ((simp only [Act.put, List.setIfInBounds_toArray, List.set_cons_zero, List.set_cons_succ]; rfl)))))
    (with_reducible apply lex_e (Tri W0 g z (s.callC d cl) (s.callC d cl) w.heap.size #[.int .u8 (k : Int), .int .u8 (d : Int), .int .u8 (cl : Int), .bool on]))
    (focus (first | exact wanted_none rfl | exact wanted_yes rfl rfl rfl))
    (focus rfl)
    (focus (intro w' hS; simp only [effAt]; simp [go_sem]; (with_reducible exact effUpon_enter (tri_r hp hal hbl hcl hS (rsetclass_any hs hp.ok d cl w' hS.t.r)))))
    (focus exact fun _ h => h.c)
    (focus (first | (apply put_some rfl; focus (conv => lhs; dsimp only [List.set_cons_zero, List.set_cons_succ]) <;> rfl) | exact put_none rfl))
    repeat (first | ((with_reducible apply lex_q); (focus rfl); (focus rfl); (focus (intro w' hS; skip; simp [go_sem, effAt, ↓IntWalk.iteOmega, *]; (try go_ints); (first | (with_reducible exact effUpon_val) | (with_reducible exact effUpon_skip)))); (focus ((simp only [Act.put, List.setIfInBounds_toArray, List.set_cons_zero, List.set_cons_succ]; rfl)))) | ((with_reducible apply lex_s); (focus rfl); (focus ((simp only [Act.put, List.setIfInBounds_toArray, List.set_cons_zero, List.set_cons_succ]; rfl)))))
    with_reducible apply lex_nil
    intro u hT3
    repeat (first | with_reducible apply wpList_nil | with_reducible apply seq_region | with_reducible apply wp_region_lit | with_reducible apply wp_seq | ((with_reducible apply seq_q); (focus rfl); (focus (simp [go_sem, effAt, ↓IntWalk.iteOmega, *]; (try go_ints); (first | (with_reducible exact effUpon_val) | (with_reducible exact effUpon_skip)))); (focus ((simp only [Act.put, List.setIfInBounds_toArray, List.set_cons_zero, List.set_cons_succ]; rfl)))) | ((with_reducible apply seq_s); (focus rfl); (focus ((simp only [Act.put, List.setIfInBounds_toArray, List.set_cons_zero, List.set_cons_succ]; rfl)))) | with_reducible apply wp_block | with_reducible apply wp_skip | with_reducible apply wp_exit | with_reducible apply wp_ret | ((with_reducible apply wp_cond_true); (focus (first | rfl | (simp [go_sem, *]; done)))) | ((with_reducible apply wp_cond_false); (focus (first | rfl | (simp [go_sem, *]; done)))) | (simp only [Exit.then, Exit.inBlock, ↓reduceIte, Nat.reduceEqDiff]))
    go_ret
    have hXX := HX.out
    unfold doF at hXX
    rw [HM.out] at hXX
    simp at hXX
    rw [← hXX]
    exact ⟨rfl, hT3.t⟩
  · skip
    go_enter Try.func10, Try.ntmps10
    have F0 : Below w.heap.size w w := Below.refl _ _
    repeat (first | with_reducible apply wpList_nil | with_reducible apply seq_region | with_reducible apply wp_region_lit | with_reducible apply wp_seq | ((with_reducible apply seq_q); (focus rfl); (focus (simp [go_sem, effAt, ↓IntWalk.iteOmega, *]; (try go_ints); (first | (with_reducible exact effUpon_val) | (with_reducible exact effUpon_skip)))); (focus ((simp only [Act.put, List.setIfInBounds_toArray, List.set_cons_zero, List.set_cons_succ]; rfl)))) | ((with_reducible apply seq_s); (focus rfl); (focus ((simp only [Act.put, List.setIfInBounds_toArray, List.set_cons_zero, List.set_cons_succ]; rfl)))) | with_reducible apply wp_block | with_reducible apply wp_skip | with_reducible apply wp_exit | with_reducible apply wp_ret | ((with_reducible apply wp_cond_true); (focus (first | rfl | (simp [go_sem, *]; done)))) | ((with_reducible apply wp_cond_false); (focus (first | rfl | (simp [go_sem, *]; done)))) | (simp only [Exit.then, Exit.inBlock, ↓reduceIte, Nat.reduceEqDiff]))
    ((with_reducible apply seq_box); (focus rfl); (focus (simp [go_sem, effAt]; exact ⟨rfl, rfl⟩)); (focus ((simp only [Act.put, List.setIfInBounds_toArray, List.set_cons_zero, List.set_cons_succ]; rfl))))
    intro w1 hB_b hs
    have Fw1 := F0.trans (hs.mono F0.size)
    clear hs F0
    have hc_b := hB_b.cell
    repeat (first | with_reducible apply wpList_nil | with_reducible apply seq_region | with_reducible apply wp_region_lit | with_reducible apply wp_seq | ((with_reducible apply seq_q); (focus rfl); (focus (simp [go_sem, effAt, ↓IntWalk.iteOmega, *]; (try go_ints); (first | (with_reducible exact effUpon_val) | (with_reducible exact effUpon_skip)))); (focus ((simp only [Act.put, List.setIfInBounds_toArray, List.set_cons_zero, List.set_cons_succ]; rfl)))) | ((with_reducible apply seq_s); (focus rfl); (focus ((simp only [Act.put, List.setIfInBounds_toArray, List.set_cons_zero, List.set_cons_succ]; rfl)))) | with_reducible apply wp_block | with_reducible apply wp_skip | with_reducible apply wp_exit | with_reducible apply wp_ret | ((with_reducible apply wp_cond_true); (focus (first | rfl | (simp [go_sem, *]; done)))) | ((with_reducible apply wp_cond_false); (focus (first | rfl | (simp [go_sem, *]; done)))) | (simp only [Exit.then, Exit.inBlock, ↓reduceIte, Nat.reduceEqDiff]))
    have hT0 : Tri W0 g z s s w.heap.size #[.int .u8 (k : Int), .int .u8 (d : Int), .int .u8 (cl : Int), .bool on] w1 := ⟨HT.out.below Fw1, hB_b, hB_b.cell⟩
    clear hB_b hc_b Fw1
    refine wp_region_eff (S := fun w' => ∀ i, w'.cell? ⟨w.heap.size, i, none⟩ = (#[.int .u8 (k : Int), .int .u8 (d : Int), .int .u8 (cl : Int), .bool on] : Array Value)[i]?) (I := Tri W0 g z s s w.heap.size #[.int .u8 (k : Int), .int .u8 (d : Int), .int .u8 (cl : Int), .bool on]) (E := fun i => [5, 11].contains i) (by kernel_rfl) (by kernel_rfl) hT0.drew (fun _ h => h.c) ?_
    repeat (first | ((with_reducible apply lex_q); (focus rfl); (focus rfl); (focus (intro w' hS; skip; simp [go_sem, effAt, ↓IntWalk.iteOmega, *]; (try go_ints); (first | (with_reducible exact effUpon_val) | (with_reducible exact effUpon_skip)))); (focus ((simp only [Act.put, List.setIfInBounds_toArray, List.set_cons_zero, List.set_cons_succ]; rfl)))) | ((with_reducible apply lex_s); (focus rfl); (focus ((simp only [Act.put, List.setIfInBounds_toArray, List.set_cons_zero, List.set_cons_succ]; rfl)))))
    (with_reducible apply lex_e (Tri W0 g z (s.callR d on) s w.heap.size #[.int .u8 (k : Int), .int .u8 (d : Int), .int .u8 (cl : Int), .bool on]))
    (focus (first | exact wanted_none rfl | exact wanted_yes rfl rfl rfl))
    (focus rfl)
    (focus (intro w' hS; simp only [effAt]; simp [go_sem]; (with_reducible exact effUpon_enter (tri_p hp hgl hS (setready_any hs g d on w' hS.t.p)))))
    (focus exact fun _ h => h.c)
    (focus (first | (apply put_some rfl; focus (conv => lhs; dsimp only [List.set_cons_zero, List.set_cons_succ]) <;> rfl) | exact put_none rfl))
    repeat (first | ((with_reducible apply lex_q); (focus rfl); (focus rfl); (focus (intro w' hS; skip; simp [go_sem, effAt, ↓IntWalk.iteOmega, *]; (try go_ints); (first | (with_reducible exact effUpon_val) | (with_reducible exact effUpon_skip)))); (focus ((simp only [Act.put, List.setIfInBounds_toArray, List.set_cons_zero, List.set_cons_succ]; rfl)))) | ((with_reducible apply lex_s); (focus rfl); (focus ((simp only [Act.put, List.setIfInBounds_toArray, List.set_cons_zero, List.set_cons_succ]; rfl)))))
    (with_reducible apply lex_e (Tri W0 g z (s.callR d on) (s.callR d on) w.heap.size #[.int .u8 (k : Int), .int .u8 (d : Int), .int .u8 (cl : Int), .bool on]))
    (focus (first | exact wanted_none rfl | exact wanted_yes rfl rfl rfl))
    (focus rfl)
    (focus (intro w' hS; simp only [effAt]; simp [go_sem]; (with_reducible exact effUpon_enter (tri_r hp hal hbl hcl hS (rsetready_any hs hp.ok d on w' hS.t.r)))))
    (focus exact fun _ h => h.c)
    (focus (first | (apply put_some rfl; focus (conv => lhs; dsimp only [List.set_cons_zero, List.set_cons_succ]) <;> rfl) | exact put_none rfl))
    repeat (first | ((with_reducible apply lex_q); (focus rfl); (focus rfl); (focus (intro w' hS; skip; simp [go_sem, effAt, ↓IntWalk.iteOmega, *]; (try go_ints); (first | (with_reducible exact effUpon_val) | (with_reducible exact effUpon_skip)))); (focus ((simp only [Act.put, List.setIfInBounds_toArray, List.set_cons_zero, List.set_cons_succ]; rfl)))) | ((with_reducible apply lex_s); (focus rfl); (focus ((simp only [Act.put, List.setIfInBounds_toArray, List.set_cons_zero, List.set_cons_succ]; rfl)))))
    with_reducible apply lex_nil
    intro u hT3
    repeat (first | with_reducible apply wpList_nil | with_reducible apply seq_region | with_reducible apply wp_region_lit | with_reducible apply wp_seq | ((with_reducible apply seq_q); (focus rfl); (focus (simp [go_sem, effAt, ↓IntWalk.iteOmega, *]; (try go_ints); (first | (with_reducible exact effUpon_val) | (with_reducible exact effUpon_skip)))); (focus ((simp only [Act.put, List.setIfInBounds_toArray, List.set_cons_zero, List.set_cons_succ]; rfl)))) | ((with_reducible apply seq_s); (focus rfl); (focus ((simp only [Act.put, List.setIfInBounds_toArray, List.set_cons_zero, List.set_cons_succ]; rfl)))) | with_reducible apply wp_block | with_reducible apply wp_skip | with_reducible apply wp_exit | with_reducible apply wp_ret | ((with_reducible apply wp_cond_true); (focus (first | rfl | (simp [go_sem, *]; done)))) | ((with_reducible apply wp_cond_false); (focus (first | rfl | (simp [go_sem, *]; done)))) | (simp only [Exit.then, Exit.inBlock, ↓reduceIte, Nat.reduceEqDiff]))
    go_ret
    have hXX := HX.out
    unfold doF at hXX
    rw [HM.out] at hXX
    simp at hXX
    rw [← hXX]
    exact ⟨rfl, hT3.t⟩
  · skip
    go_enter Try.func10, Try.ntmps10
    have F0 : Below w.heap.size w w := Below.refl _ _
    repeat (first | with_reducible apply wpList_nil | with_reducible apply seq_region | with_reducible apply wp_region_lit | with_reducible apply wp_seq | ((with_reducible apply seq_q); (focus rfl); (focus (simp [go_sem, effAt, ↓IntWalk.iteOmega, *]; (try go_ints); (first | (with_reducible exact effUpon_val) | (with_reducible exact effUpon_skip)))); (focus ((simp only [Act.put, List.setIfInBounds_toArray, List.set_cons_zero, List.set_cons_succ]; rfl)))) | ((with_reducible apply seq_s); (focus rfl); (focus ((simp only [Act.put, List.setIfInBounds_toArray, List.set_cons_zero, List.set_cons_succ]; rfl)))) | with_reducible apply wp_block | with_reducible apply wp_skip | with_reducible apply wp_exit | with_reducible apply wp_ret | ((with_reducible apply wp_cond_true); (focus (first | rfl | (simp [go_sem, *]; done)))) | ((with_reducible apply wp_cond_false); (focus (first | rfl | (simp [go_sem, *]; done)))) | (simp only [Exit.then, Exit.inBlock, ↓reduceIte, Nat.reduceEqDiff]))
    ((with_reducible apply seq_box); (focus rfl); (focus (simp [go_sem, effAt]; exact ⟨rfl, rfl⟩)); (focus ((simp only [Act.put, List.setIfInBounds_toArray, List.set_cons_zero, List.set_cons_succ]; rfl))))
    intro w1 hB_b hs
    have Fw1 := F0.trans (hs.mono F0.size)
    clear hs F0
    have hc_b := hB_b.cell
    repeat (first | with_reducible apply wpList_nil | with_reducible apply seq_region | with_reducible apply wp_region_lit | with_reducible apply wp_seq | ((with_reducible apply seq_q); (focus rfl); (focus (simp [go_sem, effAt, ↓IntWalk.iteOmega, *]; (try go_ints); (first | (with_reducible exact effUpon_val) | (with_reducible exact effUpon_skip)))); (focus ((simp only [Act.put, List.setIfInBounds_toArray, List.set_cons_zero, List.set_cons_succ]; rfl)))) | ((with_reducible apply seq_s); (focus rfl); (focus ((simp only [Act.put, List.setIfInBounds_toArray, List.set_cons_zero, List.set_cons_succ]; rfl)))) | with_reducible apply wp_block | with_reducible apply wp_skip | with_reducible apply wp_exit | with_reducible apply wp_ret | ((with_reducible apply wp_cond_true); (focus (first | rfl | (simp [go_sem, *]; done)))) | ((with_reducible apply wp_cond_false); (focus (first | rfl | (simp [go_sem, *]; done)))) | (simp only [Exit.then, Exit.inBlock, ↓reduceIte, Nat.reduceEqDiff]))
    have hT0 : Tri W0 g z s s w.heap.size #[.int .u8 (k : Int), .int .u8 (d : Int), .int .u8 (cl : Int), .bool on] w1 := ⟨HT.out.below Fw1, hB_b, hB_b.cell⟩
    clear hB_b hc_b Fw1
    refine wp_region_eff (S := fun w' => ∀ i, w'.cell? ⟨w.heap.size, i, none⟩ = (#[.int .u8 (k : Int), .int .u8 (d : Int), .int .u8 (cl : Int), .bool on] : Array Value)[i]?) (I := Tri W0 g z s s w.heap.size #[.int .u8 (k : Int), .int .u8 (d : Int), .int .u8 (cl : Int), .bool on]) (E := fun i => [5, 11].contains i) (by kernel_rfl) (by kernel_rfl) hT0.drew (fun _ h => h.c) ?_
    repeat (first | ((with_reducible apply lex_q); (focus rfl); (focus rfl); (focus (intro w' hS; skip; simp [go_sem, effAt, ↓IntWalk.iteOmega, *]; (try go_ints); (first | (with_reducible exact effUpon_val) | (with_reducible exact effUpon_skip)))); (focus ((simp only [Act.put, List.setIfInBounds_toArray, List.set_cons_zero, List.set_cons_succ]; rfl)))) | ((with_reducible apply lex_s); (focus rfl); (focus ((simp only [Act.put, List.setIfInBounds_toArray, List.set_cons_zero, List.set_cons_succ]; rfl)))))
    (with_reducible apply lex_e (Tri W0 g z (s.callR d on) s w.heap.size #[.int .u8 (k : Int), .int .u8 (d : Int), .int .u8 (cl : Int), .bool on]))
    (focus (first | exact wanted_none rfl | exact wanted_yes rfl rfl rfl))
    (focus rfl)
    (focus (intro w' hS; simp only [effAt]; simp [go_sem]; (with_reducible exact effUpon_enter (tri_p hp hgl hS (setready_any hs g d on w' hS.t.p)))))
    (focus exact fun _ h => h.c)
    (focus (first | (apply put_some rfl; focus (conv => lhs; dsimp only [List.set_cons_zero, List.set_cons_succ]) <;> rfl) | exact put_none rfl))
    repeat (first | ((with_reducible apply lex_q); (focus rfl); (focus rfl); (focus (intro w' hS; skip; simp [go_sem, effAt, ↓IntWalk.iteOmega, *]; (try go_ints); (first | (with_reducible exact effUpon_val) | (with_reducible exact effUpon_skip)))); (focus ((simp only [Act.put, List.setIfInBounds_toArray, List.set_cons_zero, List.set_cons_succ]; rfl)))) | ((with_reducible apply lex_s); (focus rfl); (focus ((simp only [Act.put, List.setIfInBounds_toArray, List.set_cons_zero, List.set_cons_succ]; rfl)))))
    (with_reducible apply lex_e (Tri W0 g z (s.callR d on) (s.callR d on) w.heap.size #[.int .u8 (k : Int), .int .u8 (d : Int), .int .u8 (cl : Int), .bool on]))
    (focus (first | exact wanted_none rfl | exact wanted_yes rfl rfl rfl))
    (focus rfl)
    (focus (intro w' hS; simp only [effAt]; simp [go_sem]; (with_reducible exact effUpon_enter (tri_r hp hal hbl hcl hS (rsetready_any hs hp.ok d on w' hS.t.r)))))
    (focus exact fun _ h => h.c)
    (focus (first | (apply put_some rfl; focus (conv => lhs; dsimp only [List.set_cons_zero, List.set_cons_succ]) <;> rfl) | exact put_none rfl))
    repeat (first | ((with_reducible apply lex_q); (focus rfl); (focus rfl); (focus (intro w' hS; skip; simp [go_sem, effAt, ↓IntWalk.iteOmega, *]; (try go_ints); (first | (with_reducible exact effUpon_val) | (with_reducible exact effUpon_skip)))); (focus ((simp only [Act.put, List.setIfInBounds_toArray, List.set_cons_zero, List.set_cons_succ]; rfl)))) | ((with_reducible apply lex_s); (focus rfl); (focus ((simp only [Act.put, List.setIfInBounds_toArray, List.set_cons_zero, List.set_cons_succ]; rfl)))))
    with_reducible apply lex_nil
    intro u hT3
    repeat (first | with_reducible apply wpList_nil | with_reducible apply seq_region | with_reducible apply wp_region_lit | with_reducible apply wp_seq | ((with_reducible apply seq_q); (focus rfl); (focus (simp [go_sem, effAt, ↓IntWalk.iteOmega, *]; (try go_ints); (first | (with_reducible exact effUpon_val) | (with_reducible exact effUpon_skip)))); (focus ((simp only [Act.put, List.setIfInBounds_toArray, List.set_cons_zero, List.set_cons_succ]; rfl)))) | ((with_reducible apply seq_s); (focus rfl); (focus ((simp only [Act.put, List.setIfInBounds_toArray, List.set_cons_zero, List.set_cons_succ]; rfl)))) | with_reducible apply wp_block | with_reducible apply wp_skip | with_reducible apply wp_exit | with_reducible apply wp_ret | ((with_reducible apply wp_cond_true); (focus (first | rfl | (simp [go_sem, *]; done)))) | ((with_reducible apply wp_cond_false); (focus (first | rfl | (simp [go_sem, *]; done)))) | (simp only [Exit.then, Exit.inBlock, ↓reduceIte, Nat.reduceEqDiff]))
    go_ret
    have hXX := HX.out
    unfold doF at hXX
    rw [HM.out] at hXX
    simp at hXX
    rw [← hXX]
    exact ⟨rfl, hT3.t⟩
  · skip
    go_enter Try.func10, Try.ntmps10
    have F0 : Below w.heap.size w w := Below.refl _ _
    repeat (first | with_reducible apply wpList_nil | with_reducible apply seq_region | with_reducible apply wp_region_lit | with_reducible apply wp_seq | ((with_reducible apply seq_q); (focus rfl); (focus (simp [go_sem, effAt, ↓IntWalk.iteOmega, *]; (try go_ints); (first | (with_reducible exact effUpon_val) | (with_reducible exact effUpon_skip)))); (focus ((simp only [Act.put, List.setIfInBounds_toArray, List.set_cons_zero, List.set_cons_succ]; rfl)))) | ((with_reducible apply seq_s); (focus rfl); (focus ((simp only [Act.put, List.setIfInBounds_toArray, List.set_cons_zero, List.set_cons_succ]; rfl)))) | with_reducible apply wp_block | with_reducible apply wp_skip | with_reducible apply wp_exit | with_reducible apply wp_ret | ((with_reducible apply wp_cond_true); (focus (first | rfl | (simp [go_sem, *]; done)))) | ((with_reducible apply wp_cond_false); (focus (first | rfl | (simp [go_sem, *]; done)))) | (simp only [Exit.then, Exit.inBlock, ↓reduceIte, Nat.reduceEqDiff]))
    ((with_reducible apply seq_box); (focus rfl); (focus (simp [go_sem, effAt]; exact ⟨rfl, rfl⟩)); (focus ((simp only [Act.put, List.setIfInBounds_toArray, List.set_cons_zero, List.set_cons_succ]; rfl))))
    intro w1 hB_b hs
    have Fw1 := F0.trans (hs.mono F0.size)
    clear hs F0
    have hc_b := hB_b.cell
    repeat (first | with_reducible apply wpList_nil | with_reducible apply seq_region | with_reducible apply wp_region_lit | with_reducible apply wp_seq | ((with_reducible apply seq_q); (focus rfl); (focus (simp [go_sem, effAt, ↓IntWalk.iteOmega, *]; (try go_ints); (first | (with_reducible exact effUpon_val) | (with_reducible exact effUpon_skip)))); (focus ((simp only [Act.put, List.setIfInBounds_toArray, List.set_cons_zero, List.set_cons_succ]; rfl)))) | ((with_reducible apply seq_s); (focus rfl); (focus ((simp only [Act.put, List.setIfInBounds_toArray, List.set_cons_zero, List.set_cons_succ]; rfl)))) | with_reducible apply wp_block | with_reducible apply wp_skip | with_reducible apply wp_exit | with_reducible apply wp_ret | ((with_reducible apply wp_cond_true); (focus (first | rfl | (simp [go_sem, *]; done)))) | ((with_reducible apply wp_cond_false); (focus (first | rfl | (simp [go_sem, *]; done)))) | (simp only [Exit.then, Exit.inBlock, ↓reduceIte, Nat.reduceEqDiff]))
    have hT0 : Tri W0 g z s s w.heap.size #[.int .u8 (k : Int), .int .u8 (d : Int), .int .u8 (cl : Int), .bool on] w1 := ⟨HT.out.below Fw1, hB_b, hB_b.cell⟩
    clear hB_b hc_b Fw1
    refine wp_region_eff (S := fun w' => ∀ i, w'.cell? ⟨w.heap.size, i, none⟩ = (#[.int .u8 (k : Int), .int .u8 (d : Int), .int .u8 (cl : Int), .bool on] : Array Value)[i]?) (I := Tri W0 g z s s w.heap.size #[.int .u8 (k : Int), .int .u8 (d : Int), .int .u8 (cl : Int), .bool on]) (E := fun i => [3, 7].contains i) (by kernel_rfl) (by kernel_rfl) hT0.drew (fun _ h => h.c) ?_
    repeat (first | ((with_reducible apply lex_q); (focus rfl); (focus rfl); (focus (intro w' hS; skip; simp [go_sem, effAt, ↓IntWalk.iteOmega, *]; (try go_ints); (first | (with_reducible exact effUpon_val) | (with_reducible exact effUpon_skip)))); (focus ((simp only [Act.put, List.setIfInBounds_toArray, List.set_cons_zero, List.set_cons_succ]; rfl)))) | ((with_reducible apply lex_s); (focus rfl); (focus ((simp only [Act.put, List.setIfInBounds_toArray, List.set_cons_zero, List.set_cons_succ]; rfl)))))
    (with_reducible apply lex_e (Tri W0 g z (if mayP s d then s.take d else s) s w.heap.size #[.int .u8 (k : Int), .int .u8 (d : Int), .int .u8 (cl : Int), .bool on]))
    (focus (first | exact wanted_none rfl | exact wanted_yes rfl rfl rfl))
    (focus rfl)
    (focus (intro w' hS; simp only [effAt]; simp [go_sem]; (with_reducible exact effUpon_enter (tri_p hp hgl hS (take_any hs g d w' hS.t.p)))))
    (focus exact fun _ h => h.c)
    (focus (first | (apply put_some rfl; focus (conv => lhs; dsimp only [List.set_cons_zero, List.set_cons_succ]) <;> rfl) | exact put_none rfl))
    repeat (first | ((with_reducible apply lex_q); (focus rfl); (focus rfl); (focus (intro w' hS; skip; simp [go_sem, effAt, ↓IntWalk.iteOmega, *]; (try go_ints); (first | (with_reducible exact effUpon_val) | (with_reducible exact effUpon_skip)))); (focus ((simp only [Act.put, List.setIfInBounds_toArray, List.set_cons_zero, List.set_cons_succ]; rfl)))) | ((with_reducible apply lex_s); (focus rfl); (focus ((simp only [Act.put, List.setIfInBounds_toArray, List.set_cons_zero, List.set_cons_succ]; rfl)))))
    (with_reducible apply lex_e (Tri W0 g z (if mayP s d then s.take d else s) (if mayP s d then s.take d else s) w.heap.size #[.int .u8 (k : Int), .int .u8 (d : Int), .int .u8 (cl : Int), .bool on]))
    (focus (first | exact wanted_none rfl | exact wanted_yes rfl rfl rfl))
    (focus rfl)
    (focus (intro w' hS; simp only [effAt]; simp [go_sem]; (with_reducible exact effUpon_enter (tri_r hp hal hbl hcl hS (rtake_any hs hp.ok d w' hS.t.r)))))
    (focus exact fun _ h => h.c)
    (focus (first | (apply put_some rfl; focus (conv => lhs; dsimp only [List.set_cons_zero, List.set_cons_succ]) <;> rfl) | exact put_none rfl))
    repeat (first | ((with_reducible apply lex_q); (focus rfl); (focus rfl); (focus (intro w' hS; skip; simp [go_sem, effAt, ↓IntWalk.iteOmega, *]; (try go_ints); (first | (with_reducible exact effUpon_val) | (with_reducible exact effUpon_skip)))); (focus ((simp only [Act.put, List.setIfInBounds_toArray, List.set_cons_zero, List.set_cons_succ]; rfl)))) | ((with_reducible apply lex_s); (focus rfl); (focus ((simp only [Act.put, List.setIfInBounds_toArray, List.set_cons_zero, List.set_cons_succ]; rfl)))))
    with_reducible apply lex_nil
    intro u hT3
    repeat (first | with_reducible apply wpList_nil | with_reducible apply seq_region | with_reducible apply wp_region_lit | with_reducible apply wp_seq | ((with_reducible apply seq_q); (focus rfl); (focus (simp [go_sem, effAt, ↓IntWalk.iteOmega, *]; (try go_ints); (first | (with_reducible exact effUpon_val) | (with_reducible exact effUpon_skip)))); (focus ((simp only [Act.put, List.setIfInBounds_toArray, List.set_cons_zero, List.set_cons_succ]; rfl)))) | ((with_reducible apply seq_s); (focus rfl); (focus ((simp only [Act.put, List.setIfInBounds_toArray, List.set_cons_zero, List.set_cons_succ]; rfl)))) | with_reducible apply wp_block | with_reducible apply wp_skip | with_reducible apply wp_exit | with_reducible apply wp_ret | ((with_reducible apply wp_cond_true); (focus (first | rfl | (simp [go_sem, *]; done)))) | ((with_reducible apply wp_cond_false); (focus (first | rfl | (simp [go_sem, *]; done)))) | (simp only [Exit.then, Exit.inBlock, ↓reduceIte, Nat.reduceEqDiff]))
    go_ret
    have hXX := HX.out
    unfold doF at hXX
    rw [HM.out] at hXX
    simp at hXX
    rw [← hXX]
    exact ⟨rfl, hT3.t⟩
  · have b0 : ((m : Int) == 0) = false := by simp; omega
    have b1 : ((m : Int) == 1) = false := by simp; omega
    have b2 : ((m : Int) == 2) = false := by simp; omega
    have b3 : ((m : Int) == 3) = false := by simp; omega
    skip
    go_enter Try.func10, Try.ntmps10
    have F0 : Below w.heap.size w w := Below.refl _ _
    repeat (first | with_reducible apply wpList_nil | with_reducible apply seq_region | with_reducible apply wp_region_lit | with_reducible apply wp_seq | ((with_reducible apply seq_q); (focus rfl); (focus (simp [go_sem, effAt, ↓IntWalk.iteOmega, *]; (try go_ints); (first | (with_reducible exact effUpon_val) | (with_reducible exact effUpon_skip)))); (focus ((simp only [Act.put, List.setIfInBounds_toArray, List.set_cons_zero, List.set_cons_succ]; rfl)))) | ((with_reducible apply seq_s); (focus rfl); (focus ((simp only [Act.put, List.setIfInBounds_toArray, List.set_cons_zero, List.set_cons_succ]; rfl)))) | with_reducible apply wp_block | with_reducible apply wp_skip | with_reducible apply wp_exit | with_reducible apply wp_ret | ((with_reducible apply wp_cond_true); (focus (first | rfl | (simp [go_sem, *]; done)))) | ((with_reducible apply wp_cond_false); (focus (first | rfl | (simp [go_sem, *]; done)))) | (simp only [Exit.then, Exit.inBlock, ↓reduceIte, Nat.reduceEqDiff]))
    ((with_reducible apply seq_box); (focus rfl); (focus (simp [go_sem, effAt]; exact ⟨rfl, rfl⟩)); (focus ((simp only [Act.put, List.setIfInBounds_toArray, List.set_cons_zero, List.set_cons_succ]; rfl))))
    intro w1 hB_b hs
    have Fw1 := F0.trans (hs.mono F0.size)
    clear hs F0
    have hc_b := hB_b.cell
    repeat (first | with_reducible apply wpList_nil | with_reducible apply seq_region | with_reducible apply wp_region_lit | with_reducible apply wp_seq | ((with_reducible apply seq_q); (focus rfl); (focus (simp [go_sem, effAt, ↓IntWalk.iteOmega, *]; (try go_ints); (first | (with_reducible exact effUpon_val) | (with_reducible exact effUpon_skip)))); (focus ((simp only [Act.put, List.setIfInBounds_toArray, List.set_cons_zero, List.set_cons_succ]; rfl)))) | ((with_reducible apply seq_s); (focus rfl); (focus ((simp only [Act.put, List.setIfInBounds_toArray, List.set_cons_zero, List.set_cons_succ]; rfl)))) | with_reducible apply wp_block | with_reducible apply wp_skip | with_reducible apply wp_exit | with_reducible apply wp_ret | ((with_reducible apply wp_cond_true); (focus (first | rfl | (simp [go_sem, *]; done)))) | ((with_reducible apply wp_cond_false); (focus (first | rfl | (simp [go_sem, *]; done)))) | (simp only [Exit.then, Exit.inBlock, ↓reduceIte, Nat.reduceEqDiff]))
    have hT0 := HT.out.below Fw1
    clear hB_b hc_b Fw1
    with_reducible apply seq_e (Two W0 g z s.pick s)
    (focus (first | exact wanted_none rfl | exact wanted_yes rfl rfl rfl))
    focus (simp only [effAt]; simp [go_sem]; (with_reducible exact effUpon_enter (two_p hp hT0 (pick_any hs g _ hT0.p))))
    (focus (first | (apply put_some rfl; focus (conv => lhs; dsimp only [List.set_cons_zero, List.set_cons_succ]) <;> rfl) | exact put_none rfl))
    intro u1 hT1
    repeat (first | with_reducible apply wpList_nil | with_reducible apply seq_region | with_reducible apply wp_region_lit | with_reducible apply wp_seq | ((with_reducible apply seq_q); (focus rfl); (focus (simp [go_sem, effAt, ↓IntWalk.iteOmega, *]; (try go_ints); (first | (with_reducible exact effUpon_val) | (with_reducible exact effUpon_skip)))); (focus ((simp only [Act.put, List.setIfInBounds_toArray, List.set_cons_zero, List.set_cons_succ]; rfl)))) | ((with_reducible apply seq_s); (focus rfl); (focus ((simp only [Act.put, List.setIfInBounds_toArray, List.set_cons_zero, List.set_cons_succ]; rfl)))) | with_reducible apply wp_block | with_reducible apply wp_skip | with_reducible apply wp_exit | with_reducible apply wp_ret | ((with_reducible apply wp_cond_true); (focus (first | rfl | (simp [go_sem, *]; done)))) | ((with_reducible apply wp_cond_false); (focus (first | rfl | (simp [go_sem, *]; done)))) | (simp only [Exit.then, Exit.inBlock, ↓reduceIte, Nat.reduceEqDiff]))
    with_reducible apply seq_e (Two W0 g z s.pick s.pick)
    (focus (first | exact wanted_none rfl | exact wanted_yes rfl rfl rfl))
    focus (simp only [effAt]; simp [go_sem]; (with_reducible exact effUpon_enter (two_r hp hT1 (rpick_any hs hp.ok _ hT1.r))))
    (focus (first | (apply put_some rfl; focus (conv => lhs; dsimp only [List.set_cons_zero, List.set_cons_succ]) <;> rfl) | exact put_none rfl))
    intro u2 hT2
    repeat (first | with_reducible apply wpList_nil | with_reducible apply seq_region | with_reducible apply wp_region_lit | with_reducible apply wp_seq | ((with_reducible apply seq_q); (focus rfl); (focus (simp [go_sem, effAt, ↓IntWalk.iteOmega, *]; (try go_ints); (first | (with_reducible exact effUpon_val) | (with_reducible exact effUpon_skip)))); (focus ((simp only [Act.put, List.setIfInBounds_toArray, List.set_cons_zero, List.set_cons_succ]; rfl)))) | ((with_reducible apply seq_s); (focus rfl); (focus ((simp only [Act.put, List.setIfInBounds_toArray, List.set_cons_zero, List.set_cons_succ]; rfl)))) | with_reducible apply wp_block | with_reducible apply wp_skip | with_reducible apply wp_exit | with_reducible apply wp_ret | ((with_reducible apply wp_cond_true); (focus (first | rfl | (simp [go_sem, *]; done)))) | ((with_reducible apply wp_cond_false); (focus (first | rfl | (simp [go_sem, *]; done)))) | (simp only [Exit.then, Exit.inBlock, ↓reduceIte, Nat.reduceEqDiff]))
    go_ret
    have hXX := HX.out
    unfold doF at hXX
    rw [HM.out, if_neg (by omega), if_neg (by omega), if_neg (by omega), if_neg (by omega)] at hXX
    rw [← hXX]
    exact ⟨rfl, hT2⟩
set_option maxRecDepth 100000 in
set_option maxHeartbeats 4000000 in
theorem tells_any {g : Nat} {z : Sh} {s : PS} (hs : s.Ok) (d : Nat) (w : World) (hP : PB w g s) (hR : RB w z s) :
    Calls Try.prog 11 #[.pointer (some ⟨g, 0, none⟩), .pointer (some ⟨z.h, 0, none⟩), .int .u8 d] w (Ret (.bool true) (Below w.heap.size w)) := by
  have hC := fun w' (hb : Below w.heap.size w w') => class_any hs g d w' (Blk.below hP hb (Blk.lt hP))
  have hY := fun w' (hb : Below w.heap.size w w') => ready_any hs g d w' (Blk.below hP hb (Blk.lt hP))
  have hM := fun w' (hb : Below w.heap.size w w') => may_any hs g d w' (Blk.below hP hb (Blk.lt hP))
  have hN := fun w' (hb : Below w.heap.size w w') => rmay_any (z := z) hs d w' (hR.below hb)
  by_cases hd : d < 64
  case neg =>
    have hd2 : (63 : Int) < d := by omega
    rw [c_out hs hd] at hC
    rw [r_out hs hd] at hY
    rw [decide_eq_false (fun h => hd h.1)] at hM
    clear hN hs
    go_enter Try.func11, Try.ntmps11
    have F0 : Below w.heap.size w w := Below.refl _ _
    repeat (first | with_reducible apply wpList_nil | with_reducible apply seq_region | with_reducible apply wp_region_lit | with_reducible apply wp_seq | ((with_reducible apply seq_q); (focus rfl); (focus (simp [go_sem, effAt, ↓IntWalk.iteOmega, *]; (try go_ints); (first | (with_reducible exact effUpon_val) | (with_reducible exact effUpon_skip)))); (focus ((simp only [Act.put, List.setIfInBounds_toArray, List.set_cons_zero, List.set_cons_succ]; rfl)))) | ((with_reducible apply seq_s); (focus rfl); (focus ((simp only [Act.put, List.setIfInBounds_toArray, List.set_cons_zero, List.set_cons_succ]; rfl)))) | with_reducible apply wp_block | with_reducible apply wp_skip | with_reducible apply wp_exit | with_reducible apply wp_ret | ((with_reducible apply wp_cond_true); (focus (first | rfl | (simp [go_sem, *]; done)))) | ((with_reducible apply wp_cond_false); (focus (first | rfl | (simp [go_sem, *]; done)))) | (simp only [Exit.then, Exit.inBlock, ↓reduceIte, Nat.reduceEqDiff]))
    ((with_reducible apply seq_e (Below w.heap.size w)); (focus rfl); (focus (simp only [effAt]; simp [go_sem]; (with_reducible exact effUpon_enter (hC _ (by assumption))))); (focus ((simp only [Act.put, List.setIfInBounds_toArray, List.set_cons_zero, List.set_cons_succ]; rfl))))
    intro w1 hs
    have Fw1 := F0.trans (hs.mono F0.size)
    clear hs F0
    repeat (first | with_reducible apply wpList_nil | with_reducible apply seq_region | with_reducible apply wp_region_lit | with_reducible apply wp_seq | ((with_reducible apply seq_q); (focus rfl); (focus (simp [go_sem, effAt, ↓IntWalk.iteOmega, *]; (try go_ints); (first | (with_reducible exact effUpon_val) | (with_reducible exact effUpon_skip)))); (focus ((simp only [Act.put, List.setIfInBounds_toArray, List.set_cons_zero, List.set_cons_succ]; rfl)))) | ((with_reducible apply seq_s); (focus rfl); (focus ((simp only [Act.put, List.setIfInBounds_toArray, List.set_cons_zero, List.set_cons_succ]; rfl)))) | with_reducible apply wp_block | with_reducible apply wp_skip | with_reducible apply wp_exit | with_reducible apply wp_ret | ((with_reducible apply wp_cond_true); (focus (first | rfl | (simp [go_sem, *]; done)))) | ((with_reducible apply wp_cond_false); (focus (first | rfl | (simp [go_sem, *]; done)))) | (simp only [Exit.then, Exit.inBlock, ↓reduceIte, Nat.reduceEqDiff]))
    ((with_reducible apply seq_e (Below w1.heap.size w1)); (focus rfl); (focus (simp only [effAt]; simp [go_sem]; (with_reducible exact effUpon_enter (hY _ (by assumption))))); (focus ((simp only [Act.put, List.setIfInBounds_toArray, List.set_cons_zero, List.set_cons_succ]; rfl))))
    intro w2 hs
    have Fw2 := Fw1.trans (hs.mono Fw1.size)
    clear hs Fw1
    repeat (first | with_reducible apply wpList_nil | with_reducible apply seq_region | with_reducible apply wp_region_lit | with_reducible apply wp_seq | ((with_reducible apply seq_q); (focus rfl); (focus (simp [go_sem, effAt, ↓IntWalk.iteOmega, *]; (try go_ints); (first | (with_reducible exact effUpon_val) | (with_reducible exact effUpon_skip)))); (focus ((simp only [Act.put, List.setIfInBounds_toArray, List.set_cons_zero, List.set_cons_succ]; rfl)))) | ((with_reducible apply seq_s); (focus rfl); (focus ((simp only [Act.put, List.setIfInBounds_toArray, List.set_cons_zero, List.set_cons_succ]; rfl)))) | with_reducible apply wp_block | with_reducible apply wp_skip | with_reducible apply wp_exit | with_reducible apply wp_ret | ((with_reducible apply wp_cond_true); (focus (first | rfl | (simp [go_sem, *]; done)))) | ((with_reducible apply wp_cond_false); (focus (first | rfl | (simp [go_sem, *]; done)))) | (simp only [Exit.then, Exit.inBlock, ↓reduceIte, Nat.reduceEqDiff]))
    ((with_reducible apply seq_e (Below w2.heap.size w2)); (focus rfl); (focus (simp only [effAt]; simp [go_sem]; (with_reducible exact effUpon_enter (hM _ (by assumption))))); (focus ((simp only [Act.put, List.setIfInBounds_toArray, List.set_cons_zero, List.set_cons_succ]; rfl))))
    intro w3 hs
    have Fw3 := Fw2.trans (hs.mono Fw2.size)
    clear hs Fw2
    repeat (first | with_reducible apply wpList_nil | with_reducible apply seq_region | with_reducible apply wp_region_lit | with_reducible apply wp_seq | ((with_reducible apply seq_q); (focus rfl); (focus (simp [go_sem, effAt, ↓IntWalk.iteOmega, *]; (try go_ints); (first | (with_reducible exact effUpon_val) | (with_reducible exact effUpon_skip)))); (focus ((simp only [Act.put, List.setIfInBounds_toArray, List.set_cons_zero, List.set_cons_succ]; rfl)))) | ((with_reducible apply seq_s); (focus rfl); (focus ((simp only [Act.put, List.setIfInBounds_toArray, List.set_cons_zero, List.set_cons_succ]; rfl)))) | with_reducible apply wp_block | with_reducible apply wp_skip | with_reducible apply wp_exit | with_reducible apply wp_ret | ((with_reducible apply wp_cond_true); (focus (first | rfl | (simp [go_sem, *]; done)))) | ((with_reducible apply wp_cond_false); (focus (first | rfl | (simp [go_sem, *]; done)))) | (simp only [Exit.then, Exit.inBlock, ↓reduceIte, Nat.reduceEqDiff]))
    go_ret
    exact ⟨rfl, by assumption⟩
  case pos =>
    have hd2 : ¬ (63 : Int) < d := by omega
    have hd3 : (d : Int) < 64 := by omega
    have e1 := cellsA_get hs z.pa hd
    have e2 := cellsB_get hs hd
    obtain ⟨hB_h, hB_a, hB_b, hB_c⟩ := hR
    generalize decide (mayP s d) = mm at hM hN
    clear hs
    go_enter Try.func11, Try.ntmps11
    have F0 : Below w.heap.size w w := Below.refl _ _
    have hc_h := hB_h.cell
    have hc_a := hB_a.cell
    have hc_b := hB_b.cell
    repeat (first | with_reducible apply wpList_nil | with_reducible apply seq_region | with_reducible apply wp_region_lit | with_reducible apply wp_seq | ((with_reducible apply seq_q); (focus rfl); (focus (simp [go_sem, effAt, ↓IntWalk.iteOmega, *]; (try go_ints); (first | (with_reducible exact effUpon_val) | (with_reducible exact effUpon_skip)))); (focus ((simp only [Act.put, List.setIfInBounds_toArray, List.set_cons_zero, List.set_cons_succ]; rfl)))) | ((with_reducible apply seq_s); (focus rfl); (focus ((simp only [Act.put, List.setIfInBounds_toArray, List.set_cons_zero, List.set_cons_succ]; rfl)))) | with_reducible apply wp_block | with_reducible apply wp_skip | with_reducible apply wp_exit | with_reducible apply wp_ret | ((with_reducible apply wp_cond_true); (focus (first | rfl | (simp [go_sem, *]; done)))) | ((with_reducible apply wp_cond_false); (focus (first | rfl | (simp [go_sem, *]; done)))) | (simp only [Exit.then, Exit.inBlock, ↓reduceIte, Nat.reduceEqDiff]))
    refine wp_region_pure (E := fun i => [2, 14, 27, 30].contains i) (by kernel_rfl) (by kernel_rfl) ?_
    repeat (first | ((with_reducible apply lex_q); (focus rfl); (focus rfl); (focus (intro w' hS; have hc_h := (hB_h.below hS hB_h.lt).cell; have hc_a := (hB_a.below hS hB_a.lt).cell; have hc_b := (hB_b.below hS hB_b.lt).cell; simp [go_sem, effAt, ↓IntWalk.iteOmega, *]; (try go_ints); (first | (with_reducible exact effUpon_val) | (with_reducible exact effUpon_skip)))); (focus ((simp only [Act.put, List.setIfInBounds_toArray, List.set_cons_zero, List.set_cons_succ]; rfl)))) | ((with_reducible apply lex_s); (focus rfl); (focus ((simp only [Act.put, List.setIfInBounds_toArray, List.set_cons_zero, List.set_cons_succ]; rfl)))))
    ((with_reducible apply lex_e (Below w.heap.size w)); (focus rfl); (focus rfl); (focus (intro w' hS; simp only [effAt]; simp [go_sem]; (with_reducible exact eff_call hS (hC _ hS)))); (focus (exact fun _ h => h)); (focus ((simp only [Act.put, List.setIfInBounds_toArray, List.set_cons_zero, List.set_cons_succ]; rfl))))
    repeat (first | ((with_reducible apply lex_q); (focus rfl); (focus rfl); (focus (intro w' hS; have hc_h := (hB_h.below hS hB_h.lt).cell; have hc_a := (hB_a.below hS hB_a.lt).cell; have hc_b := (hB_b.below hS hB_b.lt).cell; simp [go_sem, effAt, ↓IntWalk.iteOmega, *]; (try go_ints); (first | (with_reducible exact effUpon_val) | (with_reducible exact effUpon_skip)))); (focus ((simp only [Act.put, List.setIfInBounds_toArray, List.set_cons_zero, List.set_cons_succ]; rfl)))) | ((with_reducible apply lex_s); (focus rfl); (focus ((simp only [Act.put, List.setIfInBounds_toArray, List.set_cons_zero, List.set_cons_succ]; rfl)))))
    ((with_reducible apply lex_e (Below w.heap.size w)); (focus rfl); (focus rfl); (focus (intro w' hS; simp only [effAt]; simp [go_sem]; (with_reducible exact eff_call hS (hY _ hS)))); (focus (exact fun _ h => h)); (focus ((simp only [Act.put, List.setIfInBounds_toArray, List.set_cons_zero, List.set_cons_succ]; rfl))))
    repeat (first | ((with_reducible apply lex_q); (focus rfl); (focus rfl); (focus (intro w' hS; have hc_h := (hB_h.below hS hB_h.lt).cell; have hc_a := (hB_a.below hS hB_a.lt).cell; have hc_b := (hB_b.below hS hB_b.lt).cell; simp [go_sem, effAt, ↓IntWalk.iteOmega, *]; (try go_ints); (first | (with_reducible exact effUpon_val) | (with_reducible exact effUpon_skip)))); (focus ((simp only [Act.put, List.setIfInBounds_toArray, List.set_cons_zero, List.set_cons_succ]; rfl)))) | ((with_reducible apply lex_s); (focus rfl); (focus ((simp only [Act.put, List.setIfInBounds_toArray, List.set_cons_zero, List.set_cons_succ]; rfl)))))
    ((with_reducible apply lex_e (Below w.heap.size w)); (focus rfl); (focus rfl); (focus (intro w' hS; simp only [effAt]; simp [go_sem]; (with_reducible exact eff_call hS (hM _ hS)))); (focus (exact fun _ h => h)); (focus ((simp only [Act.put, List.setIfInBounds_toArray, List.set_cons_zero, List.set_cons_succ]; rfl))))
    repeat (first | ((with_reducible apply lex_q); (focus rfl); (focus rfl); (focus (intro w' hS; have hc_h := (hB_h.below hS hB_h.lt).cell; have hc_a := (hB_a.below hS hB_a.lt).cell; have hc_b := (hB_b.below hS hB_b.lt).cell; simp [go_sem, effAt, ↓IntWalk.iteOmega, *]; (try go_ints); (first | (with_reducible exact effUpon_val) | (with_reducible exact effUpon_skip)))); (focus ((simp only [Act.put, List.setIfInBounds_toArray, List.set_cons_zero, List.set_cons_succ]; rfl)))) | ((with_reducible apply lex_s); (focus rfl); (focus ((simp only [Act.put, List.setIfInBounds_toArray, List.set_cons_zero, List.set_cons_succ]; rfl)))))
    ((with_reducible apply lex_e (Below w.heap.size w)); (focus rfl); (focus rfl); (focus (intro w' hS; simp only [effAt]; simp [go_sem]; (with_reducible exact eff_call hS (hN _ hS)))); (focus (exact fun _ h => h)); (focus ((simp only [Act.put, List.setIfInBounds_toArray, List.set_cons_zero, List.set_cons_succ]; rfl))))
    repeat (first | ((with_reducible apply lex_q); (focus rfl); (focus rfl); (focus (intro w' hS; have hc_h := (hB_h.below hS hB_h.lt).cell; have hc_a := (hB_a.below hS hB_a.lt).cell; have hc_b := (hB_b.below hS hB_b.lt).cell; simp [go_sem, effAt, ↓IntWalk.iteOmega, *]; (try go_ints); (first | (with_reducible exact effUpon_val) | (with_reducible exact effUpon_skip)))); (focus ((simp only [Act.put, List.setIfInBounds_toArray, List.set_cons_zero, List.set_cons_succ]; rfl)))) | ((with_reducible apply lex_s); (focus rfl); (focus ((simp only [Act.put, List.setIfInBounds_toArray, List.set_cons_zero, List.set_cons_succ]; rfl)))))
    with_reducible apply lex_nil
    intro w4 hs
    have Fw4 := F0.trans (hs.mono F0.size)
    replace hB_h := hB_h.below hs hB_h.lt
    replace hB_a := hB_a.below hs hB_a.lt
    replace hB_b := hB_b.below hs hB_b.lt
    clear hs F0
    clear hc_h; have hc_h := hB_h.cell
    clear hc_a; have hc_a := hB_a.cell
    clear hc_b; have hc_b := hB_b.cell
    repeat (first | with_reducible apply wpList_nil | with_reducible apply seq_region | with_reducible apply wp_region_lit | with_reducible apply wp_seq | ((with_reducible apply seq_q); (focus rfl); (focus (simp [go_sem, effAt, ↓IntWalk.iteOmega, *]; (try go_ints); (first | (with_reducible exact effUpon_val) | (with_reducible exact effUpon_skip)))); (focus ((simp only [Act.put, List.setIfInBounds_toArray, List.set_cons_zero, List.set_cons_succ]; rfl)))) | ((with_reducible apply seq_s); (focus rfl); (focus ((simp only [Act.put, List.setIfInBounds_toArray, List.set_cons_zero, List.set_cons_succ]; rfl)))) | with_reducible apply wp_block | with_reducible apply wp_skip | with_reducible apply wp_exit | with_reducible apply wp_ret | ((with_reducible apply wp_cond_true); (focus (first | rfl | (simp [go_sem, *]; done)))) | ((with_reducible apply wp_cond_false); (focus (first | rfl | (simp [go_sem, *]; done)))) | (simp only [Exit.then, Exit.inBlock, ↓reduceIte, Nat.reduceEqDiff]))
    go_ret
    exact ⟨rfl, by assumption⟩
end Go.Proofs.Ytminenipklgbcaa
