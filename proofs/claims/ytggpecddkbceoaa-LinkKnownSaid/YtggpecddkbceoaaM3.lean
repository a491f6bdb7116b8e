/- Two links and their queues in memory; what a side says is put there. -/
import Derived.Test.YtggpecddkbceoaaM2
set_option linter.unusedSimpArgs false
set_option linter.unusedVariables false
namespace Go.Proofs.Ytggpecddkbceoaa
open Go.RowKit Go.Eff
attribute [local irreducible] Go.wpList
section
variable {w w' : World} {T : Nat → Prop} {g B : Nat} {cs : Array Value} {ty : TypeId}
theorem blk_turn (h : Blk w g ty cs) (ht : Turn T w w') (hn : ¬ T g) : Blk w' g ty cs := (ht.block g h.lt hn).trans h
theorem qr_turn {sv : Value} {q : List AT} (h : QR w B sv q) (ht : Turn T w w') (hn : ∀ k, blkOf sv = some k → ¬ T k) : QR w' B sv q := by
  rcases h with ⟨rfl, h⟩ | ⟨b, off, cap, cur, rfl, hB, hb, h1, h2, h3, h4⟩
  · exact .inl ⟨rfl, h⟩
  · exact .inr ⟨b, off, cap, cur, rfl, hB, blk_turn hb ht (hn b rfl), h1, h2, h3, h4⟩
end
/-- where the two lie -/
structure Places (B tg g0 g1 : Nat) : Prop where
  bt : B ≤ tg
  b0 : B ≤ g0
  b1 : B ≤ g1
  n0 : g0 ≠ tg
  n1 : g1 ≠ tg
  n2 : g0 ≠ g1
/-- the two links, and what lies before each, are these -/
structure MT (W0 : World) (tg g0 g1 : Nat) (t : TS) (s0 s1 : Value) (w : World) : Prop where
  blk : Blk w tg 45 #[.pointer (some ⟨g0, 0, none⟩), .pointer (some ⟨g1, 0, none⟩), s0, s1]
  l0 : LL w g0 t.l0
  l1 : LL w g1 t.l1
  q0 : QR w W0.heap.size s0 t.q0
  q1 : QR w W0.heap.size s1 t.q1
  a0 : ∀ k, blkOf s0 = some k → k ≠ tg ∧ k ≠ g0 ∧ k ≠ g1
  a1 : ∀ k, blkOf s1 = some k → k ≠ tg ∧ k ≠ g0 ∧ k ≠ g1
  ne : ∀ k, blkOf s0 = some k → blkOf s1 ≠ some k
  fr : Below W0.heap.size W0 w
def Mt (W0 : World) (tg g0 g1 : Nat) (t : TS) (w : World) : Prop := ∃ s0 s1, MT W0 tg g0 g1 t s0 s1 w
section
variable {W0 w w' : World} {tg g0 g1 : Nat} {t : TS} {s0 s1 : Value}
theorem MT.below (h : MT W0 tg g0 g1 t s0 s1 w) (hb : Below w.heap.size w w') : MT W0 tg g0 g1 t s0 s1 w' :=
  ⟨h.blk.below hb h.blk.lt, Blk.below h.l0 hb (Blk.lt h.l0), Blk.below h.l1 hb (Blk.lt h.l1), h.q0.below hb, h.q1.below hb, h.a0, h.a1, h.ne, h.fr.trans (hb.mono h.fr.size)⟩
theorem MT.put0 (hp : Places W0.heap.size tg g0 g1) (h : MT W0 tg g0 g1 t s0 s1 w) {sv : Value} {q : List AT} (hB : Blk w' tg 45 #[.pointer (some ⟨g0, 0, none⟩), .pointer (some ⟨g1, 0, none⟩), s0, sv]) (hQ : QR w' W0.heap.size sv q)
    (ht : Turn (fun i => i = tg ∨ blkOf s1 = some i ∨ w.heap.size ≤ i) w w') (hk : ∀ j, blkOf sv = some j → blkOf s1 = some j ∨ w.heap.size ≤ j) : MT W0 tg g0 g1 { t with q1 := q } s0 sv w' := by
  have l0 := Blk.lt h.l0
  have l1 := Blk.lt h.l1
  have lt := Blk.lt h.blk
  refine ⟨hB, blk_turn h.l0 ht ?_, blk_turn h.l1 ht ?_, qr_turn h.q0 ht ?_, hQ, h.a0, fun k hk' => ?_, fun k hk' hs => ?_, ht.behind h.fr (Nat.le_refl _) ?_⟩
  · rintro (e | e | e)
    · exact hp.n0 e
    · exact (h.a1 _ e).2.1 rfl
    · omega
  · rintro (e | e | e)
    · exact hp.n1 e
    · exact (h.a1 _ e).2.2 rfl
    · omega
  · intro k hk'
    have := (h.q0.lt k hk').2
    rintro (e | e | e)
    · exact (h.a0 k hk').1 e
    · exact h.ne k hk' e
    · omega
  · rcases hk k hk' with e | e
    · exact h.a1 k e
    · exact ⟨by omega, by omega, by omega⟩
  · rcases hk k hs with e | e
    · exact h.ne k hk' e
    · have := (h.q0.lt k hk').2
      omega
  · rintro i (e | e | e)
    · have := hp.bt; omega
    · exact (h.q1.lt i e).1
    · have := h.fr.size; omega
theorem MT.put1 (hp : Places W0.heap.size tg g0 g1) (h : MT W0 tg g0 g1 t s0 s1 w) {sv : Value} {q : List AT} (hB : Blk w' tg 45 #[.pointer (some ⟨g0, 0, none⟩), .pointer (some ⟨g1, 0, none⟩), sv, s1]) (hQ : QR w' W0.heap.size sv q)
    (ht : Turn (fun i => i = tg ∨ blkOf s0 = some i ∨ w.heap.size ≤ i) w w') (hk : ∀ j, blkOf sv = some j → blkOf s0 = some j ∨ w.heap.size ≤ j) : MT W0 tg g0 g1 { t with q0 := q } sv s1 w' := by
  have l0 := Blk.lt h.l0
  have l1 := Blk.lt h.l1
  have lt := Blk.lt h.blk
  refine ⟨hB, blk_turn h.l0 ht ?_, blk_turn h.l1 ht ?_, hQ, qr_turn h.q1 ht ?_, fun k hk' => ?_, h.a1, fun k hk' hs => ?_, ht.behind h.fr (Nat.le_refl _) ?_⟩
  · rintro (e | e | e)
    · exact hp.n0 e
    · exact (h.a0 _ e).2.1 rfl
    · omega
  · rintro (e | e | e)
    · exact hp.n1 e
    · exact (h.a0 _ e).2.2 rfl
    · omega
  · intro k hk'
    have := (h.q1.lt k hk').2
    rintro (e | e | e)
    · exact (h.a1 k hk').1 e
    · exact h.ne k e hk'
    · omega
  · rcases hk k hk' with e | e
    · exact h.a0 k e
    · exact ⟨by omega, by omega, by omega⟩
  · rcases hk k hk' with e | e
    · exact h.ne k e hs
    · have := (h.q1.lt k hs).2
      omega
  · rintro i (e | e | e)
    · have := hp.bt; omega
    · exact (h.q0.lt i e).1
    · have := h.fr.size; omega
theorem MT.hear0 (hp : Places W0.heap.size tg g0 g1) (h : MT W0 tg g0 g1 t s0 s1 w) {l : LS} (hl : LL w' g0 l) (hg : w.grownBy w' (some g0)) : MT W0 tg g0 g1 { t with l0 := l } s0 s1 w' :=
  ⟨h.blk.grown hg (fun e => by injection e with e; exact hp.n0 e.symm), hl, Blk.grown h.l1 hg (fun e => by injection e with e; exact hp.n2 e.symm), h.q0.kept hg (fun k hk e => by injection e with e; exact (h.a0 k hk).2.1 e), h.q1.kept hg (fun k hk e => by injection e with e; exact (h.a1 k hk).2.1 e),
    h.a0, h.a1, h.ne, h.fr.grown hg h.fr.size (by intro k hk; injection hk with hk; have := hp.b0; omega)⟩
theorem MT.hear1 (hp : Places W0.heap.size tg g0 g1) (h : MT W0 tg g0 g1 t s0 s1 w) {l : LS} (hl : LL w' g1 l) (hg : w.grownBy w' (some g1)) : MT W0 tg g0 g1 { t with l1 := l } s0 s1 w' :=
  ⟨h.blk.grown hg (fun e => by injection e with e; exact hp.n1 e.symm), Blk.grown h.l0 hg (fun e => by injection e with e; exact hp.n2 e), hl, h.q0.kept hg (fun k hk e => by injection e with e; exact (h.a0 k hk).2.2 e), h.q1.kept hg (fun k hk e => by injection e with e; exact (h.a1 k hk).2.2 e),
    h.a0, h.a1, h.ne, h.fr.grown hg h.fr.size (by intro k hk; injection hk with hk; have := hp.b1; omega)⟩
theorem said_len (t : TS) (side : Bool) (a : AT) : (saidF t side a).q0.length ≤ t.q0.length + 1 ∧ (saidF t side a).q1.length ≤ t.q1.length + 1 := by
  unfold saidF
  split
  · exact ⟨by omega, by omega⟩
  · split <;> simp
theorem said_l (t : TS) (side : Bool) (a : AT) : (saidF t side a).l0 = t.l0 ∧ (saidF t side a).l1 = t.l1 := by
  unfold saidF
  split
  · exact ⟨rfl, rfl⟩
  · split <;> exact ⟨rfl, rfl⟩
theorem said_none (p : Value) (side : Int) (c pf : Bool) (tm f : Int) (w : World) : Calls Try.prog 17 #[p, .int .i64 side, actV 0 c pf tm f] w (Ret (.tuple #[]) (Below w.heap.size w)) := by
  go_enter Try.func17, Try.ntmps17
  have F0 : Below w.heap.size w w := Below.refl _ _
  with_reducible apply seq_region
  ((with_reducible apply Xu); (focus rfl); (focus (simp [go_sem, effAt]; exact ⟨rfl, rfl⟩)); (focus ((simp only [Xo,Xp,Xq,Xr,Xs];rfl))))
  intro w1 hB_a hs
  have Fw1 := F0.trans (hs.mono F0.size)
  clear hs F0
  have hc_a := hB_a.cell
  repeat (first|(with_reducible first|apply Xa|apply Xb|apply Xc|apply Xd)|((with_reducible apply Xk);(focus rfl);(focus (simp [go_sem,effAt,↓IntWalk.iteOmega, *];(try go_ints);with_reducible first|exact Xm|exact Xn));focus (simp only [Xo,Xp,Xq,Xr,Xs];rfl))|((with_reducible apply Xl);(focus rfl);focus (simp only [Xo,Xp,Xq,Xr,Xs];rfl))|(with_reducible first|apply Xe|apply Xf|apply Xg|apply Xh)|((with_reducible apply Xi);focus first|rfl|(simp [go_sem, *];done))|((with_reducible apply Xj);focus first|rfl|(simp [go_sem, *];done))|(simp only [Exit.then,Exit.inBlock,↓reduceIte,Nat.reduceEqDiff]))
  refine bodyPost_end (results_none rfl _ _ _) rfl ⟨rfl, by assumption⟩
/-- what a side says -/
theorem said_any (hp : Places W0.heap.size tg g0 g1) (side : Bool) (a : AT) (hl0 : t.q0.length ≤ 1000) (hl1 : t.q1.length ≤ 1000) (w : World) (h : Mt W0 tg g0 g1 t w) :
    Calls Try.prog 17 #[.pointer (some ⟨tg, 0, none⟩), .int .i64 (if side = true then 1 else 0), aV a] w (Ret (.tuple #[]) (Mt W0 tg g0 g1 (saidF t side a))) := by
  obtain ⟨s0, s1, h⟩ := h
  obtain ⟨k, c, p, tm, f⟩ := a
  by_cases hk : k = 0
  · subst hk
    exact (said_none _ _ c p tm f w).mono fun e w' ⟨he, hb⟩ => ⟨he, s0, s1, h.below hb⟩
  · have hk' : (k != 0) = true := by simpa using hk
    have e1 : saidF t side (k, c, p, tm, f) = if side = true then { t with q0 := t.q0 ++ [(k, c, p, tm, f)] } else { t with q1 := t.q1 ++ [(k, c, p, tm, f)] } := by
      unfold saidF
      rw [if_neg (show ¬ (k, c, p, tm, f).1 = 0 from hk)]
    rw [e1]
    cases side
    · exact (said_0 tg _ _ s0 s1 k c p tm f t.q1 W0.heap.size w h.blk h.q1 h.fr.size hl1 (fun e => (h.a1 _ e).1 rfl) hk').mono fun e w' ⟨he, sv, x1, x2, x3, x4⟩ => ⟨he, s0, sv, h.put0 hp x1 x2 x3 x4⟩
    · exact (said_1 tg _ _ s0 s1 k c p tm f t.q0 W0.heap.size w h.blk h.q0 h.fr.size hl0 (fun e => (h.a0 _ e).1 rfl) hk').mono fun e w' ⟨he, sv, x1, x2, x3, x4⟩ => ⟨he, sv, s1, h.put1 hp x1 x2 x3 x4⟩
end
end Go.Proofs.Ytggpecddkbceoaa
