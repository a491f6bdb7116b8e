/- The walk of LinkKnown: the other laws' contracts stand as premises. -/
import Derived.Test.YtggpecddkbceoaaN1
import Derived.Test.YtggpecddkbceoaaKf
import Derived.Deep.MidRow
set_option linter.unusedSimpArgs false
set_option linter.unusedVariables false
namespace Go.Proofs.Ytggpecddkbceoaa
open Go.RowKit Go.Eff
attribute [local irreducible] Go.wpList
theorem info33_n : (Try.prog.info? 33).map (fun i => (i.zero, i.size, i.bytes)) = some (some (.agg #[.int .i64 0, .int .u8 0, .bool false, .bool false]), 4, 16) := by kernel_rfl
theorem info_parts_n {P : Program} {t : TypeId} {z : Option Value} {n m : Nat} (h : (P.info? t).map (fun i => (i.zero, i.size, i.bytes)) = some (z, n, m)) : ∃ i0, P.info? t = some i0 ∧ i0.zero = z ∧ i0.size = n ∧ i0.bytes = m := by
  cases hx : P.info? t with
  | none => rw [hx] at h; cases h
  | some i =>
    rw [hx] at h
    simp only [Option.map_some, Option.some.injEq, Prod.mk.injEq] at h
    exact ⟨i, rfl, h.1, h.2.1, h.2.2⟩
section
variable (k f : Int) (p c : Bool) (w : World)
theorem bl0_n : (Instr.build 33 #[(0, .int .i64 k)]).run Try.prog w = .ok (.agg #[.int .i64 k, .int .u8 0, .bool false, .bool false]) w := by kernel_rfl
theorem bl01_n : (Instr.build 33 #[(0, .int .i64 k), (1, .int .u8 f)]).run Try.prog w = .ok (.agg #[.int .i64 k, .int .u8 f, .bool false, .bool false]) w := by kernel_rfl
theorem bl02_n : (Instr.build 33 #[(0, .int .i64 k), (2, .bool p)]).run Try.prog w = .ok (.agg #[.int .i64 k, .int .u8 0, .bool p, .bool false]) w := by kernel_rfl
theorem bl012_n : (Instr.build 33 #[(0, .int .i64 k), (1, .int .u8 f), (2, .bool p)]).run Try.prog w = .ok (.agg #[.int .i64 k, .int .u8 f, .bool p, .bool false]) w := by kernel_rfl
theorem bl013_n : (Instr.build 33 #[(0, .int .i64 k), (1, .int .u8 f), (3, .bool c)]).run Try.prog w = .ok (.agg #[.int .i64 k, .int .u8 f, .bool false, .bool c]) w := by kernel_rfl
theorem bl0123_n : (Instr.build 33 #[(0, .int .i64 k), (1, .int .u8 f), (2, .bool p), (3, .bool c)]).run Try.prog w = .ok (.agg #[.int .i64 k, .int .u8 f, .bool p, .bool c]) w := by kernel_rfl
end
theorem own_ne_n {w : World} {B e k t : Nat} {v : Value} {n c : Nat} {xs : List Value} {cs : Array Value} (h : w.ownsRow B e c v n xs) (hB : Blk w k t cs) (hk : k < B) : v.ownBlock ≠ some k := by
  intro e
  have := (h.lt k e).1
  omega
theorem Head.grown {w w' : World} {v : Value} {L : List Cll} {B : Nat} {o : Option Nat} (h : Head w v L) (hg : w.grownBy w' o) (ho : ∀ j, o = some j → B ≤ j) (hb : ∀ b, v.ownBlock = some b → b < B) : Head w' v L := by
  obtain ⟨h1, h2, h3⟩ := h
  refine ⟨h1, h2, ?_⟩
  rcases h3 with h3 | ⟨b, h4, h5, h6⟩
  · exact .inl h3
  · refine .inr ⟨b, h4, h5.grown hg (fun e => ?_), h6⟩
    have := ho b e.symm
    have := hb b (by rw [h4]; rfl)
    omega
/-- the heads, all below B -/
structure HeadsB (w : World) (B hg : Nat) (cs : Array Value) : Prop where
  h : Heads w hg cs
  g : hg < B
  o : ∀ i v, i < 8 → cs[i]? = some v → ∀ b, v.ownBlock = some b → b < B
  le : B ≤ w.heap.size
theorem HeadsB.below {w w' : World} {B hg : Nat} {cs : Array Value} (h : HeadsB w B hg cs) (hb : Below w.heap.size w w') : HeadsB w' B hg cs := ⟨h.h.below hb, h.g, h.o, Nat.le_trans h.le hb.size⟩
theorem HeadsB.grown {w w' : World} {B hg : Nat} {cs : Array Value} {o : Option Nat} (h : HeadsB w B hg cs) (hgr : w.grownBy w' o) (ho : ∀ j, o = some j → B ≤ j) : HeadsB w' B hg cs := by
  refine ⟨⟨h.h.b.grown hgr (fun e => ?_), fun i hi => ?_⟩, h.g, h.o, Nat.le_trans h.le hgr.size⟩
  · have := ho _ e.symm
    have := h.g
    omega
  · obtain ⟨v, L, h1, h2, h3⟩ := h.h.h i hi
    exact ⟨v, L, h1, h2.grown hgr ho (h.o i v hi h1), h3⟩
/-- what a round has: the slice, its events -/
theorem ev_fit_n {k : Nat} (h : k < 1000) : Fit ((k : Nat) : Int) := by unfold Fit; omega
abbrev evs_n (n14 k5 k14 : Nat) (b1 b2 b3 b4 : Bool) : List Cll := [(4, (n14 : Int), b1, b2), ((k5 : Int), (k14 : Int), b3, b4), (2, 0, false, false), (4, 4, false, true)]
theorem add0_n (g j : Nat) : (⟨g, 0, none⟩ : Addr).add j = ⟨g, j, none⟩ := by unfold Addr.add; split <;> simp_all
theorem one_cells_n (L : List Cll) : ∀ u ∈ L.flatMap cellsE, u.oneCell' = true := by
  intro u hu
  obtain ⟨c, _, hc⟩ := List.mem_flatMap.1 hu
  simp [cellsE] at hc
  rcases hc with rfl | rfl | rfl | rfl <;> rfl
theorem nums_get_n (i : Nat) (h : i < 8) : ∃ x : Int, (#[Value.int .i64 (-9223372036854775808), .int .i64 (-1), .int .i64 0, .int .i64 1, .int .i64 2, .int .i64 255, .int .i64 256, .int .i64 9223372036854775807] : Array Value)[i]? = some (.int .i64 x) :=
  match i, h with
  | 0, _ => ⟨_, rfl⟩ | 1, _ => ⟨_, rfl⟩ | 2, _ => ⟨_, rfl⟩ | 3, _ => ⟨_, rfl⟩ | 4, _ => ⟨_, rfl⟩ | 5, _ => ⟨_, rfl⟩ | 6, _ => ⟨_, rfl⟩ | 7, _ => ⟨_, rfl⟩
theorem evs_fit_n {n14 k5 k14 : Nat} {b1 b2 b3 b4 : Bool} (h : k5 < 1000) : ∀ c ∈ evs_n n14 k5 k14 b1 b2 b3 b4, Fit c.1 := by
  intro c hc
  simp [evs_n] at hc
  rcases hc with rfl | rfl | rfl | rfl <;> (unfold Fit; dsimp only; omega)
set_option maxRecDepth 100000 in
set_option maxHeartbeats 8000000 in
theorem known_walk (hPl : ∀ (v : Value) (l : List Cll) (w : World), Arg w v l → Calls Try.prog 3 #[.int .i64 1, v] w (Ret (.bool true) (Below w.heap.size w)))
    (hSa : ∀ (v : Value) (l : List Cll) (w : World), Arg w v l → Calls Try.prog 6 #[.int .i64 1, v] w (Ret (.bool true) (Below w.heap.size w)))
    (hMe : ∀ (n2 : Int) (va vb : Value) (la lb : List Cll) (both first : Bool) (w : World), Arg w va la → Arg w vb lb → Calls Try.prog 4 #[.int .i64 n2, va, vb, .bool both, .bool first] w (Ret (.bool true) (Below w.heap.size w)))
    (hGi : ∀ (n2 : Int) (cl : Bool) (w : World), Calls Try.prog 5 #[.int .i64 n2, .bool cl] w (Ret (.bool true) (Below w.heap.size w)))
    (w : World) : Calls Try.prog 8 #[] w (Ret (.bool true) (Below w.heap.size w)) := by
  have HPL := Lib.hid hPl
  have HSA := Lib.hid hSa
  have HME := Lib.hid hMe
  have HGI := Lib.hid hGi
  clear hPl hSa hMe hGi
  obtain ⟨i0, hi0, hz0, hz1, hz2⟩ := info_parts_n info33_n
  have HI := Lib.hid (And.intro hi0 (And.intro hz0 (And.intro hz1 hz2)))
  clear hi0 hz0 hz1 hz2
  have b0 := bl0_n
  have b01 := bl01_n
  have b02 := bl02_n
  have b012 := bl012_n
  have b013 := bl013_n
  have b0123 := bl0123_n
  go_enter Try.func8, Try.ntmps8
  have F0 : Below w.heap.size w w := Below.refl _ _
  repeat (first|(with_reducible apply Xa)|((with_reducible apply region_k);intro KK kk)|(with_reducible apply Xc)|((with_reducible apply seq_k);intro KK kk)|((with_reducible apply Xk);(focus first|exact wanted_none rfl|exact wanted_yes rfl rfl rfl);(focus (simp [go_sem,effAt,↓IntWalk.iteOmega, *];(try go_ints);with_reducible first|exact Xm|exact Xn));focus (first|(apply put_some rfl;focus (conv=>lhs;dsimp only [Xr,Xs])<;>rfl)|exact put_none rfl))|((with_reducible apply Xl);(focus first|exact wanted_no rfl rfl rfl|exact wanted_undef rfl rfl rfl);focus (first|(apply put_some rfl;focus (conv=>lhs;dsimp only [Xr,Xs])<;>rfl)|exact put_none rfl))|(with_reducible first|apply Xe|apply Xf|apply Xg|apply Xh)|((with_reducible apply Xi);focus first|rfl|(simp [go_sem, *];done))|((with_reducible apply Xj);focus first|rfl|(simp [go_sem, *];done))|(simp only [Exit.then,Exit.inBlock,↓reduceIte,Nat.reduceEqDiff])|((with_reducible apply kf_out);focus assumption))
  ((with_reducible apply Xu); (focus rfl); (focus (simp [go_sem, effAt]; exact ⟨rfl, rfl⟩)); (focus ((first|(apply put_some rfl;focus (conv=>lhs;dsimp only [Xr,Xs])<;>rfl)|exact put_none rfl))))
  intro w1 hB_a hs
  have Fw1 := F0.trans (hs.mono F0.size)
  clear hs F0
  have hc_a := hB_a.cell
  repeat (first|(with_reducible apply Xa)|((with_reducible apply region_k);intro KK kk)|(with_reducible apply Xc)|((with_reducible apply seq_k);intro KK kk)|((with_reducible apply Xk);(focus first|exact wanted_none rfl|exact wanted_yes rfl rfl rfl);(focus (simp [go_sem,effAt,↓IntWalk.iteOmega, *];(try go_ints);with_reducible first|exact Xm|exact Xn));focus (first|(apply put_some rfl;focus (conv=>lhs;dsimp only [Xr,Xs])<;>rfl)|exact put_none rfl))|((with_reducible apply Xl);(focus first|exact wanted_no rfl rfl rfl|exact wanted_undef rfl rfl rfl);focus (first|(apply put_some rfl;focus (conv=>lhs;dsimp only [Xr,Xs])<;>rfl)|exact put_none rfl))|(with_reducible first|apply Xe|apply Xf|apply Xg|apply Xh)|((with_reducible apply Xi);focus first|rfl|(simp [go_sem, *];done))|((with_reducible apply Xj);focus first|rfl|(simp [go_sem, *];done))|(simp only [Exit.then,Exit.inBlock,↓reduceIte,Nat.reduceEqDiff])|((with_reducible apply kf_out);focus assumption))
  have lt_a_b := hB_a.lt
  ((with_reducible apply Xu); (focus rfl); (focus (simp [go_sem, effAt]; exact ⟨rfl, rfl⟩)); (focus ((first|(apply put_some rfl;focus (conv=>lhs;dsimp only [Xr,Xs])<;>rfl)|exact put_none rfl))))
  intro w2 hB_b hs
  have Fw2 := Fw1.trans (hs.mono Fw1.size)
  replace hB_a := hB_a.below hs hB_a.lt
  clear hs Fw1
  clear hc_a; have hc_a := hB_a.cell
  have hc_b := hB_b.cell
  repeat (first|(with_reducible apply Xa)|((with_reducible apply region_k);intro KK kk)|(with_reducible apply Xc)|((with_reducible apply seq_k);intro KK kk)|((with_reducible apply Xk);(focus first|exact wanted_none rfl|exact wanted_yes rfl rfl rfl);(focus (simp [go_sem,effAt,↓IntWalk.iteOmega, *];(try go_ints);with_reducible first|exact Xm|exact Xn));focus (first|(apply put_some rfl;focus (conv=>lhs;dsimp only [Xr,Xs])<;>rfl)|exact put_none rfl))|((with_reducible apply Xl);(focus first|exact wanted_no rfl rfl rfl|exact wanted_undef rfl rfl rfl);focus (first|(apply put_some rfl;focus (conv=>lhs;dsimp only [Xr,Xs])<;>rfl)|exact put_none rfl))|(with_reducible first|apply Xe|apply Xf|apply Xg|apply Xh)|((with_reducible apply Xi);focus first|rfl|(simp [go_sem, *];done))|((with_reducible apply Xj);focus first|rfl|(simp [go_sem, *];done))|(simp only [Exit.then,Exit.inBlock,↓reduceIte,Nat.reduceEqDiff])|((with_reducible apply kf_out);focus assumption))
  have lt_a_c := hB_a.lt
  have lt_b_c := hB_b.lt
  ((with_reducible apply Xu); (focus rfl); (focus (simp [go_sem, effAt]; exact ⟨rfl, rfl⟩)); (focus ((first|(apply put_some rfl;focus (conv=>lhs;dsimp only [Xr,Xs])<;>rfl)|exact put_none rfl))))
  intro w3 hB_c hs
  have Fw3 := Fw2.trans (hs.mono Fw2.size)
  replace hB_a := hB_a.below hs hB_a.lt
  replace hB_b := hB_b.below hs hB_b.lt
  clear hs Fw2
  clear hc_a; have hc_a := hB_a.cell
  clear hc_b; have hc_b := hB_b.cell
  have hc_c := hB_c.cell
  repeat (first|(with_reducible apply Xa)|((with_reducible apply region_k);intro KK kk)|(with_reducible apply Xc)|((with_reducible apply seq_k);intro KK kk)|((with_reducible apply Xk);(focus first|exact wanted_none rfl|exact wanted_yes rfl rfl rfl);(focus (simp [go_sem,effAt,↓IntWalk.iteOmega, *];(try go_ints);with_reducible first|exact Xm|exact Xn));focus (first|(apply put_some rfl;focus (conv=>lhs;dsimp only [Xr,Xs])<;>rfl)|exact put_none rfl))|((with_reducible apply Xl);(focus first|exact wanted_no rfl rfl rfl|exact wanted_undef rfl rfl rfl);focus (first|(apply put_some rfl;focus (conv=>lhs;dsimp only [Xr,Xs])<;>rfl)|exact put_none rfl))|(with_reducible first|apply Xe|apply Xf|apply Xg|apply Xh)|((with_reducible apply Xi);focus first|rfl|(simp [go_sem, *];done))|((with_reducible apply Xj);focus first|rfl|(simp [go_sem, *];done))|(simp only [Exit.then,Exit.inBlock,↓reduceIte,Nat.reduceEqDiff])|((with_reducible apply kf_out);focus assumption))
  have lt_a_d := hB_a.lt
  have lt_b_d := hB_b.lt
  have lt_c_d := hB_c.lt
  ((with_reducible apply Xu); (focus rfl); (focus (simp [go_sem, effAt]; exact ⟨rfl, rfl⟩)); (focus ((first|(apply put_some rfl;focus (conv=>lhs;dsimp only [Xr,Xs])<;>rfl)|exact put_none rfl))))
  intro w4 hB_d hs
  have Fw4 := Fw3.trans (hs.mono Fw3.size)
  replace hB_a := hB_a.below hs hB_a.lt
  replace hB_b := hB_b.below hs hB_b.lt
  replace hB_c := hB_c.below hs hB_c.lt
  clear hs Fw3
  clear hc_a; have hc_a := hB_a.cell
  clear hc_b; have hc_b := hB_b.cell
  clear hc_c; have hc_c := hB_c.cell
  have hc_d := hB_d.cell
  repeat (first|(with_reducible apply Xa)|((with_reducible apply region_k);intro KK kk)|(with_reducible apply Xc)|((with_reducible apply seq_k);intro KK kk)|((with_reducible apply Xk);(focus first|exact wanted_none rfl|exact wanted_yes rfl rfl rfl);(focus (simp [go_sem,effAt,↓IntWalk.iteOmega, *];(try go_ints);with_reducible first|exact Xm|exact Xn));focus (first|(apply put_some rfl;focus (conv=>lhs;dsimp only [Xr,Xs])<;>rfl)|exact put_none rfl))|((with_reducible apply Xl);(focus first|exact wanted_no rfl rfl rfl|exact wanted_undef rfl rfl rfl);focus (first|(apply put_some rfl;focus (conv=>lhs;dsimp only [Xr,Xs])<;>rfl)|exact put_none rfl))|(with_reducible first|apply Xe|apply Xf|apply Xg|apply Xh)|((with_reducible apply Xi);focus first|rfl|(simp [go_sem, *];done))|((with_reducible apply Xj);focus first|rfl|(simp [go_sem, *];done))|(simp only [Exit.then,Exit.inBlock,↓reduceIte,Nat.reduceEqDiff])|((with_reducible apply kf_out);focus assumption))
  have lt_a_e := hB_a.lt
  have lt_b_e := hB_b.lt
  have lt_c_e := hB_c.lt
  have lt_d_e := hB_d.lt
  ((with_reducible apply Xu); (focus rfl); (focus (simp [go_sem, effAt]; exact ⟨rfl, rfl⟩)); (focus ((first|(apply put_some rfl;focus (conv=>lhs;dsimp only [Xr,Xs])<;>rfl)|exact put_none rfl))))
  intro w5 hB_e hs
  have Fw5 := Fw4.trans (hs.mono Fw4.size)
  replace hB_a := hB_a.below hs hB_a.lt
  replace hB_b := hB_b.below hs hB_b.lt
  replace hB_c := hB_c.below hs hB_c.lt
  replace hB_d := hB_d.below hs hB_d.lt
  clear hs Fw4
  clear hc_a; have hc_a := hB_a.cell
  clear hc_b; have hc_b := hB_b.cell
  clear hc_c; have hc_c := hB_c.cell
  clear hc_d; have hc_d := hB_d.cell
  have hc_e := hB_e.cell
  repeat (first|(with_reducible apply Xa)|((with_reducible apply region_k);intro KK kk)|(with_reducible apply Xc)|((with_reducible apply seq_k);intro KK kk)|((with_reducible apply Xk);(focus first|exact wanted_none rfl|exact wanted_yes rfl rfl rfl);(focus (simp [go_sem,effAt,↓IntWalk.iteOmega, *];(try go_ints);with_reducible first|exact Xm|exact Xn));focus (first|(apply put_some rfl;focus (conv=>lhs;dsimp only [Xr,Xs])<;>rfl)|exact put_none rfl))|((with_reducible apply Xl);(focus first|exact wanted_no rfl rfl rfl|exact wanted_undef rfl rfl rfl);focus (first|(apply put_some rfl;focus (conv=>lhs;dsimp only [Xr,Xs])<;>rfl)|exact put_none rfl))|(with_reducible first|apply Xe|apply Xf|apply Xg|apply Xh)|((with_reducible apply Xi);focus first|rfl|(simp [go_sem, *];done))|((with_reducible apply Xj);focus first|rfl|(simp [go_sem, *];done))|(simp only [Exit.then,Exit.inBlock,↓reduceIte,Nat.reduceEqDiff])|((with_reducible apply kf_out);focus assumption))
  have lt_a_f := hB_a.lt
  have lt_b_f := hB_b.lt
  have lt_c_f := hB_c.lt
  have lt_d_f := hB_d.lt
  have lt_e_f := hB_e.lt
  ((with_reducible apply Xu); (focus rfl); (focus (simp [go_sem, effAt]; exact ⟨rfl, rfl⟩)); (focus ((first|(apply put_some rfl;focus (conv=>lhs;dsimp only [Xr,Xs])<;>rfl)|exact put_none rfl))))
  intro w6 hB_f hs
  have Fw6 := Fw5.trans (hs.mono Fw5.size)
  replace hB_a := hB_a.below hs hB_a.lt
  replace hB_b := hB_b.below hs hB_b.lt
  replace hB_c := hB_c.below hs hB_c.lt
  replace hB_d := hB_d.below hs hB_d.lt
  replace hB_e := hB_e.below hs hB_e.lt
  clear hs Fw5
  clear hc_a; have hc_a := hB_a.cell
  clear hc_b; have hc_b := hB_b.cell
  clear hc_c; have hc_c := hB_c.cell
  clear hc_d; have hc_d := hB_d.cell
  clear hc_e; have hc_e := hB_e.cell
  have hc_f := hB_f.cell
  repeat (first|(with_reducible apply Xa)|((with_reducible apply region_k);intro KK kk)|(with_reducible apply Xc)|((with_reducible apply seq_k);intro KK kk)|((with_reducible apply Xk);(focus first|exact wanted_none rfl|exact wanted_yes rfl rfl rfl);(focus (simp [go_sem,effAt,↓IntWalk.iteOmega, *];(try go_ints);with_reducible first|exact Xm|exact Xn));focus (first|(apply put_some rfl;focus (conv=>lhs;dsimp only [Xr,Xs])<;>rfl)|exact put_none rfl))|((with_reducible apply Xl);(focus first|exact wanted_no rfl rfl rfl|exact wanted_undef rfl rfl rfl);focus (first|(apply put_some rfl;focus (conv=>lhs;dsimp only [Xr,Xs])<;>rfl)|exact put_none rfl))|(with_reducible first|apply Xe|apply Xf|apply Xg|apply Xh)|((with_reducible apply Xi);focus first|rfl|(simp [go_sem, *];done))|((with_reducible apply Xj);focus first|rfl|(simp [go_sem, *];done))|(simp only [Exit.then,Exit.inBlock,↓reduceIte,Nat.reduceEqDiff])|((with_reducible apply kf_out);focus assumption))
  have lt_a_i := hB_a.lt
  have lt_b_i := hB_b.lt
  have lt_c_i := hB_c.lt
  have lt_d_i := hB_d.lt
  have lt_e_i := hB_e.lt
  have lt_f_i := hB_f.lt
  ((with_reducible apply Xu); (focus rfl); (focus (simp [go_sem, effAt]; exact ⟨rfl, rfl⟩)); (focus ((first|(apply put_some rfl;focus (conv=>lhs;dsimp only [Xr,Xs])<;>rfl)|exact put_none rfl))))
  intro w7 hB_i hs
  have Fw7 := Fw6.trans (hs.mono Fw6.size)
  replace hB_a := hB_a.below hs hB_a.lt
  replace hB_b := hB_b.below hs hB_b.lt
  replace hB_c := hB_c.below hs hB_c.lt
  replace hB_d := hB_d.below hs hB_d.lt
  replace hB_e := hB_e.below hs hB_e.lt
  replace hB_f := hB_f.below hs hB_f.lt
  clear hs Fw6
  clear hc_a; have hc_a := hB_a.cell
  clear hc_b; have hc_b := hB_b.cell
  clear hc_c; have hc_c := hB_c.cell
  clear hc_d; have hc_d := hB_d.cell
  clear hc_e; have hc_e := hB_e.cell
  clear hc_f; have hc_f := hB_f.cell
  have hc_i := hB_i.cell
  repeat (first|(with_reducible apply Xa)|((with_reducible apply region_k);intro KK kk)|(with_reducible apply Xc)|((with_reducible apply seq_k);intro KK kk)|((with_reducible apply Xk);(focus first|exact wanted_none rfl|exact wanted_yes rfl rfl rfl);(focus (simp [go_sem,effAt,↓IntWalk.iteOmega, *];(try go_ints);with_reducible first|exact Xm|exact Xn));focus (first|(apply put_some rfl;focus (conv=>lhs;dsimp only [Xr,Xs])<;>rfl)|exact put_none rfl))|((with_reducible apply Xl);(focus first|exact wanted_no rfl rfl rfl|exact wanted_undef rfl rfl rfl);focus (first|(apply put_some rfl;focus (conv=>lhs;dsimp only [Xr,Xs])<;>rfl)|exact put_none rfl))|(with_reducible first|apply Xe|apply Xf|apply Xg|apply Xh)|((with_reducible apply Xi);focus first|rfl|(simp [go_sem, *];done))|((with_reducible apply Xj);focus first|rfl|(simp [go_sem, *];done))|(simp only [Exit.then,Exit.inBlock,↓reduceIte,Nat.reduceEqDiff])|((with_reducible apply kf_out);focus assumption))
  have lt_a_h := hB_a.lt
  have lt_b_h := hB_b.lt
  have lt_c_h := hB_c.lt
  have lt_d_h := hB_d.lt
  have lt_e_h := hB_e.lt
  have lt_f_h := hB_f.lt
  have lt_i_h := hB_i.lt
  ((with_reducible apply Xu); (focus rfl); (focus (simp [go_sem, effAt]; exact ⟨rfl, rfl⟩)); (focus ((first|(apply put_some rfl;focus (conv=>lhs;dsimp only [Xr,Xs])<;>rfl)|exact put_none rfl))))
  intro w8 hB_h hs
  have Fw8 := Fw7.trans (hs.mono Fw7.size)
  replace hB_a := hB_a.below hs hB_a.lt
  replace hB_b := hB_b.below hs hB_b.lt
  replace hB_c := hB_c.below hs hB_c.lt
  replace hB_d := hB_d.below hs hB_d.lt
  replace hB_e := hB_e.below hs hB_e.lt
  replace hB_f := hB_f.below hs hB_f.lt
  replace hB_i := hB_i.below hs hB_i.lt
  clear hs Fw7
  clear hc_a; have hc_a := hB_a.cell
  clear hc_b; have hc_b := hB_b.cell
  clear hc_c; have hc_c := hB_c.cell
  clear hc_d; have hc_d := hB_d.cell
  clear hc_e; have hc_e := hB_e.cell
  clear hc_f; have hc_f := hB_f.cell
  clear hc_i; have hc_i := hB_i.cell
  have hc_h := hB_h.cell
  repeat (first|(with_reducible apply Xa)|((with_reducible apply region_k);intro KK kk)|(with_reducible apply Xc)|((with_reducible apply seq_k);intro KK kk)|((with_reducible apply Xk);(focus first|exact wanted_none rfl|exact wanted_yes rfl rfl rfl);(focus (simp [go_sem,effAt,↓IntWalk.iteOmega, *];(try go_ints);with_reducible first|exact Xm|exact Xn));focus (first|(apply put_some rfl;focus (conv=>lhs;dsimp only [Xr,Xs])<;>rfl)|exact put_none rfl))|((with_reducible apply Xl);(focus first|exact wanted_no rfl rfl rfl|exact wanted_undef rfl rfl rfl);focus (first|(apply put_some rfl;focus (conv=>lhs;dsimp only [Xr,Xs])<;>rfl)|exact put_none rfl))|(with_reducible first|apply Xe|apply Xf|apply Xg|apply Xh)|((with_reducible apply Xi);focus first|rfl|(simp [go_sem, *];done))|((with_reducible apply Xj);focus first|rfl|(simp [go_sem, *];done))|(simp only [Exit.then,Exit.inBlock,↓reduceIte,Nat.reduceEqDiff])|((with_reducible apply kf_out);focus assumption))
  obtain ⟨hg, hgh⟩ : ∃ hg, w7.heap.size = hg := ⟨_, rfl⟩
  rw [hgh] at hB_h ⊢
  obtain ⟨B, hB⟩ : ∃ B, w8.heap.size = B := ⟨_, rfl⟩
  obtain ⟨cs, hcs⟩ : ∃ cs, (#[Value.slice none 0 0, .slice (some ⟨w.heap.size, 0, none⟩) 1 1, .slice (some ⟨w1.heap.size, 0, none⟩) 1 1, .slice (some ⟨w2.heap.size, 0, none⟩) 2 2, .slice (some ⟨w3.heap.size, 0, none⟩) 2 2, .slice (some ⟨w4.heap.size, 0, none⟩) 2 2, .slice (some ⟨w5.heap.size, 0, none⟩) 3 3, .slice (some ⟨w6.heap.size, 0, none⟩) 2 2] : Array Value) = cs := ⟨_, rfl⟩
  rw [hcs] at hB_h
  have hH : HeadsB w8 B hg cs := by
    have l1 := hB_a.lt
    have l2 := hB_b.lt
    have l3 := hB_c.lt
    have l4 := hB_d.lt
    have l5 := hB_e.lt
    have l6 := hB_f.lt
    have l7 := hB_i.lt
    have l8 := hB_h.lt
    subst hcs
    refine ⟨⟨hB_h, fun i hi => ?_⟩, by omega, fun i v hi hv b hb => ?_, by omega⟩
    · match i, hi with
      | 0, _ => exact ⟨_, [], rfl, ⟨by simp, by simp, .inl ⟨rfl, rfl⟩⟩, fun _ => rfl⟩
      | 1, _ => exact ⟨_, [(3, 0, true, false)], rfl, ⟨by simp, by simp [Fit], .inr ⟨_, rfl, hB_a, by simp⟩⟩, fun h => (by cases h)⟩
      | 2, _ => exact ⟨_, [(0, 0, false, false)], rfl, ⟨by simp, by simp [Fit], .inr ⟨_, rfl, hB_b, by simp⟩⟩, fun h => (by cases h)⟩
      | 3, _ => exact ⟨_, [(0, 0, false, false), (4, 2, true, false)], rfl, ⟨by simp, by simp [Fit], .inr ⟨_, rfl, hB_c, by simp⟩⟩, fun h => (by cases h)⟩
      | 4, _ => exact ⟨_, [(3, 0, true, false), (4, 1, true, true)], rfl, ⟨by simp, by simp [Fit], .inr ⟨_, rfl, hB_d, by simp⟩⟩, fun h => (by cases h)⟩
      | 5, _ => exact ⟨_, [(0, 0, false, false), (1, 0, false, false)], rfl, ⟨by simp, by simp [Fit], .inr ⟨_, rfl, hB_e, by simp⟩⟩, fun h => (by cases h)⟩
      | 6, _ => exact ⟨_, [(0, 0, false, false), (2, 0, false, false), (2, 0, false, false)], rfl, ⟨by simp, by simp [Fit], .inr ⟨_, rfl, hB_f, by simp⟩⟩, fun h => (by cases h)⟩
      | 7, _ => exact ⟨_, [(0, 0, false, false), (2, 0, false, false)], rfl, ⟨by simp, by simp [Fit], .inr ⟨_, rfl, hB_i, by simp⟩⟩, fun h => (by cases h)⟩
    · match i, hi with
      | 0, _ => simp at hv; subst hv; cases hb
      | 1, _ => simp at hv; subst hv; simp only [Value.ownBlock, Option.some.injEq] at hb; omega
      | 2, _ => simp at hv; subst hv; simp only [Value.ownBlock, Option.some.injEq] at hb; omega
      | 3, _ => simp at hv; subst hv; simp only [Value.ownBlock, Option.some.injEq] at hb; omega
      | 4, _ => simp at hv; subst hv; simp only [Value.ownBlock, Option.some.injEq] at hb; omega
      | 5, _ => simp at hv; subst hv; simp only [Value.ownBlock, Option.some.injEq] at hb; omega
      | 6, _ => simp at hv; subst hv; simp only [Value.ownBlock, Option.some.injEq] at hb; omega
      | 7, _ => simp at hv; subst hv; simp only [Value.ownBlock, Option.some.injEq] at hb; omega
  have hwB : w.heap.size ≤ B := by have := Fw8.size; omega
  have hF := Fw8
  clear hB_a hB_b hB_c hB_d hB_e hB_f hB_i hB_h hc_a hc_b hc_c hc_d hc_e hc_f hc_i hc_h Fw8 hcs hB hgh
  go_loopg [2] 8 (fun q v2 wr => ∃ (i : Nat), v2 = .int .i64 (i : Int) ∧ i + q = 8 ∧ HeadsB wr B hg cs ∧ Below w.heap.size w wr)
  case atStart => exact ⟨0, rfl, by omega, hH, hF⟩
  case round =>
    rename_i J K hJ hK
    clear hH hF
    obtain ⟨i, rfl, hi, hH, hF⟩ := hrel
    by_cases hlt : i < 8
    case pos =>
      have hlt' : (i : Int) < 8 := by omega
      have hJ1 := Lib.hid hJ
      have hK1 := Lib.hid hK
      skip
      have Fwr : Below wr.heap.size wr wr := Below.refl _ _
      repeat (first|(with_reducible apply Xa)|((with_reducible apply region_k);intro KK kk)|(with_reducible apply Xc)|((with_reducible apply seq_k);intro KK kk)|((with_reducible apply Xk);(focus first|exact wanted_none rfl|exact wanted_yes rfl rfl rfl);(focus (simp [go_sem,effAt,↓IntWalk.iteOmega, *];(try go_ints);with_reducible first|exact Xm|exact Xn));focus (first|(apply put_some rfl;focus (conv=>lhs;dsimp only [Xr,Xs])<;>rfl)|exact put_none rfl))|((with_reducible apply Xl);(focus first|exact wanted_no rfl rfl rfl|exact wanted_undef rfl rfl rfl);focus (first|(apply put_some rfl;focus (conv=>lhs;dsimp only [Xr,Xs])<;>rfl)|exact put_none rfl))|(with_reducible first|apply Xe|apply Xf|apply Xg|apply Xh)|((with_reducible apply Xi);focus first|rfl|(simp [go_sem, *];done))|((with_reducible apply Xj);focus first|rfl|(simp [go_sem, *];done))|(simp only [Exit.then,Exit.inBlock,↓reduceIte,Nat.reduceEqDiff])|((with_reducible apply kf_out);focus assumption))
      go_loopg [3] 56 (fun q v3 wr => ∃ (n : Nat), v3 = .int .i64 (n : Int) ∧ n + q = 56 ∧ HeadsB wr B hg cs ∧ Below w.heap.size w wr)
      case atStart => exact ⟨0, rfl, by omega, hH, hF⟩
      case round =>
        rename_i J2 K2 hJ2 hK2
        clear hH hF
        obtain ⟨n, rfl, hn, hH, hF⟩ := hrel
        by_cases hltn : n < 56
        case pos =>
          have hltn' : (n : Int) < 56 := by omega
          skip
          have Fwr : Below wr.heap.size wr wr := Below.refl _ _
          repeat (first|(with_reducible apply Xa)|((with_reducible apply region_k);intro KK kk)|(with_reducible apply Xc)|((with_reducible apply seq_k);intro KK kk)|((with_reducible apply Xk);(focus first|exact wanted_none rfl|exact wanted_yes rfl rfl rfl);(focus (simp [go_sem,effAt,↓IntWalk.iteOmega, *];(try go_ints);with_reducible first|exact Xm|exact Xn));focus (first|(apply put_some rfl;focus (conv=>lhs;dsimp only [Xr,Xs])<;>rfl)|exact put_none rfl))|((with_reducible apply Xl);(focus first|exact wanted_no rfl rfl rfl|exact wanted_undef rfl rfl rfl);focus (first|(apply put_some rfl;focus (conv=>lhs;dsimp only [Xr,Xs])<;>rfl)|exact put_none rfl))|(with_reducible first|apply Xe|apply Xf|apply Xg|apply Xh)|((with_reducible apply Xi);focus first|rfl|(simp [go_sem, *];done))|((with_reducible apply Xj);focus first|rfl|(simp [go_sem, *];done))|(simp only [Exit.then,Exit.inBlock,↓reduceIte,Nat.reduceEqDiff])|((with_reducible apply kf_out);focus assumption))
          go_loopg [4] 56 (fun q v4 wr => ∃ (k : Nat), v4 = .int .i64 (k : Int) ∧ 56 ≤ k + q ∧ k ≤ 60 ∧ HeadsB wr B hg cs ∧ Below w.heap.size w wr)
          case atStart => exact ⟨0, rfl, by omega, by omega, hH, hF⟩
          case round =>
            rename_i J3 K3 hJ3 hK3
            clear hH hF
            obtain ⟨k, rfl, hk, hk60, hH, hF⟩ := hrel
            by_cases hltk : k < 56
            case pos =>
              have hltk' : (k : Int) < 56 := by omega
              obtain ⟨v, L, e1, hHd, -⟩ := hH.h.h i hlt
              have hB_h := hH.h.b
              skip
              have Fwr : Below wr.heap.size wr wr := Below.refl _ _
              have hc_h := hB_h.cell
              repeat (first|(with_reducible apply Xa)|((with_reducible apply region_k);intro KK kk)|(with_reducible apply Xc)|((with_reducible apply seq_k);intro KK kk)|((with_reducible apply Xk);(focus first|exact wanted_none rfl|exact wanted_yes rfl rfl rfl);(focus (simp [go_sem,effAt,↓IntWalk.iteOmega, *];(try go_ints);with_reducible first|exact Xm|exact Xn));focus (first|(apply put_some rfl;focus (conv=>lhs;dsimp only [Xr,Xs])<;>rfl)|exact put_none rfl))|((with_reducible apply Xl);(focus first|exact wanted_no rfl rfl rfl|exact wanted_undef rfl rfl rfl);focus (first|(apply put_some rfl;focus (conv=>lhs;dsimp only [Xr,Xs])<;>rfl)|exact put_none rfl))|(with_reducible first|apply Xe|apply Xf|apply Xg|apply Xh)|((with_reducible apply Xi);focus first|rfl|(simp [go_sem, *];done))|((with_reducible apply Xj);focus first|rfl|(simp [go_sem, *];done))|(simp only [Exit.then,Exit.inBlock,↓reduceIte,Nat.reduceEqDiff])|((with_reducible apply kf_out);focus assumption))
              obtain ⟨n14, hn14, hn14b⟩ : ∃ m : Nat, Int.tmod (n : Int) 14 = (m : Int) ∧ m < 14 := ⟨n % 14, rfl, by omega⟩
              obtain ⟨n28, hn28⟩ : ∃ m : Nat, Int.tmod (n : Int) 28 = (m : Int) := ⟨n % 28, rfl⟩
              obtain ⟨k5, hk5, hk5b⟩ : ∃ m : Nat, Int.tmod (k : Int) 5 = (m : Int) ∧ m < 5 := ⟨k % 5, rfl, by omega⟩
              obtain ⟨k14, hk14, hk14b⟩ : ∃ m : Nat, Int.tmod (k : Int) 14 = (m : Int) ∧ m < 14 := ⟨k % 14, rfl, by omega⟩
              obtain ⟨k28, hk28⟩ : ∃ m : Nat, Int.tmod (k : Int) 28 = (m : Int) := ⟨k % 28, rfl⟩
              obtain ⟨b1, hb1⟩ : ∃ b : Bool, decide ((n28 : Int) < 14) = b := ⟨_, rfl⟩
              obtain ⟨b2, hb2⟩ : ∃ b : Bool, decide ((n : Int) < 28) = b := ⟨_, rfl⟩
              obtain ⟨b3, hb3⟩ : ∃ b : Bool, decide ((k28 : Int) < 14) = b := ⟨_, rfl⟩
              obtain ⟨b4, hb4⟩ : ∃ b : Bool, decide ((k : Int) < 28) = b := ⟨_, rfl⟩
              have e2 := e1
              obtain ⟨hL3, hLf, hv⟩ := hHd
              have HLF := Lib.hid hLf
              clear hLf
              rcases hv with ⟨rfl, rfl⟩ | ⟨bb, rfl, hBb, hL1⟩
              · have hap := @run_append_owned_none Try.prog wr 0 22 22 33 i0 4 Try.underlying22 HI.out.1 (.slice none 0 0) 0 [] (World.ownsRow_nil _ _ _ _)
                repeat (first|(with_reducible apply Xa)|((with_reducible apply region_k);intro KK kk)|(with_reducible apply Xc)|((with_reducible apply seq_k);intro KK kk)|((with_reducible apply Xk);(focus first|exact wanted_none rfl|exact wanted_yes rfl rfl rfl);(focus (simp [go_sem,effAt,↓IntWalk.iteOmega, *];(try go_ints);with_reducible first|exact Xm|exact Xn));focus (first|(apply put_some rfl;focus (conv=>lhs;dsimp only [Xr,Xs])<;>rfl)|exact put_none rfl))|((with_reducible apply Xl);(focus first|exact wanted_no rfl rfl rfl|exact wanted_undef rfl rfl rfl);focus (first|(apply put_some rfl;focus (conv=>lhs;dsimp only [Xr,Xs])<;>rfl)|exact put_none rfl))|(with_reducible first|apply Xe|apply Xf|apply Xg|apply Xh)|((with_reducible apply Xi);focus first|rfl|(simp [go_sem, *];done))|((with_reducible apply Xj);focus first|rfl|(simp [go_sem, *];done))|(simp only [Exit.then,Exit.inBlock,↓reduceIte,Nat.reduceEqDiff])|((with_reducible apply kf_out);focus assumption))
                have hO : wr.ownsRow B 33 4 (.slice none 0 0) 0 (([] : List Cll).flatMap cellsE) := World.ownsRow_nil _ _ _ _
                have hH1 := hH
                have hF1 := hF
                clear hap hH hF hB_h hc_h Fwr e1 e2
                skip
                have Fwr : Below wr.heap.size wr wr := Below.refl _ _
                repeat (first|(with_reducible apply Xa)|((with_reducible apply region_k);intro KK kk)|(with_reducible apply Xc)|((with_reducible apply seq_k);intro KK kk)|((with_reducible apply Xk);(focus first|exact wanted_none rfl|exact wanted_yes rfl rfl rfl);(focus (simp [go_sem,effAt,↓IntWalk.iteOmega, *];(try go_ints);with_reducible first|exact Xm|exact Xn));focus (first|(apply put_some rfl;focus (conv=>lhs;dsimp only [Xr,Xs])<;>rfl)|exact put_none rfl))|((with_reducible apply Xl);(focus first|exact wanted_no rfl rfl rfl|exact wanted_undef rfl rfl rfl);focus (first|(apply put_some rfl;focus (conv=>lhs;dsimp only [Xr,Xs])<;>rfl)|exact put_none rfl))|(with_reducible first|apply Xe|apply Xf|apply Xg|apply Xh)|((with_reducible apply Xi);focus first|rfl|(simp [go_sem, *];done))|((with_reducible apply Xj);focus first|rfl|(simp [go_sem, *];done))|(simp only [Exit.then,Exit.inBlock,↓reduceIte,Nat.reduceEqDiff])|((with_reducible apply kf_out);focus assumption))
                ((with_reducible apply Xu); (focus rfl); (focus (simp [go_sem, effAt]; exact ⟨rfl, rfl⟩)); (focus ((first|(apply put_some rfl;focus (conv=>lhs;dsimp only [Xr,Xs])<;>rfl)|exact put_none rfl))))
                intro w1 hB_x hs
                have Fw1 := Fwr.trans (hs.mono Fwr.size)
                clear hs Fwr
                have hc_x := hB_x.cell
                clear hc_x hn14 hn28 hk5 hk14 hk28 hb1 hb2 hb3 hb4
                have hO2 := hO.kept (grown_below Fw1 none) (Classical.em _)
                have hz := hH1.le
                repeat (first|(with_reducible apply Xa)|((with_reducible apply region_k);intro KK kk)|(with_reducible apply Xc)|((with_reducible apply seq_k);intro KK kk)|((with_reducible apply Xk);(focus first|exact wanted_none rfl|exact wanted_yes rfl rfl rfl);(focus (simp [go_sem,effAt,↓IntWalk.iteOmega, *];(try go_ints);with_reducible first|exact Xm|exact Xn));focus (first|(apply put_some rfl;focus (conv=>lhs;dsimp only [Xr,Xs])<;>rfl)|exact put_none rfl))|((with_reducible apply Xl);(focus first|exact wanted_no rfl rfl rfl|exact wanted_undef rfl rfl rfl);focus (first|(apply put_some rfl;focus (conv=>lhs;dsimp only [Xr,Xs])<;>rfl)|exact put_none rfl))|(with_reducible first|apply Xe|apply Xf|apply Xg|apply Xh)|((with_reducible apply Xi);focus first|rfl|(simp [go_sem, *];done))|((with_reducible apply Xj);focus first|rfl|(simp [go_sem, *];done))|(simp only [Exit.then,Exit.inBlock,↓reduceIte,Nat.reduceEqDiff])|((with_reducible apply kf_out);focus assumption))
                obtain ⟨hi0, hz0, hz1, hz2⟩ := HI.out
                refine wpList_append_own _ rfl _ _ 22 rfl B 33 i0 _ 4 16 Try.underlying22 hi0 hz0 hz1 hz2 rfl (by decide) _ _ _ rfl hO2 ⟨wr.heap.size, 0, none⟩ 4 4 ((evs_n n14 k5 k14 b1 b2 b3 b4).flatMap cellsE) rfl rfl ?c1 ?c2 ?c3 ?c4 ?c5 ?_
                case c1 =>
                  intro j u hj
                  rw [add0_n, hB_x.cell]
                  simpa [evs_n, cellsE] using hj
                case c2 => exact one_cells_n _
                case c3 => unfold maxLen; omega
                case c4 => omega
                case c5 => have := Fw1.size; omega
                intro v' u2 hO3 hg2 _
                clear hi0 hz0 hz1 hz2
                simp only [Act.put, List.setIfInBounds_toArray, List.set_cons_zero, List.set_cons_succ]
                rw [← List.flatMap_append] at hO3
                have hH2 := (hH1.below Fw1).grown hg2 (fun j hj => (hO2.lt j hj).1)
                have hF2 := (hF1.trans (Fw1.mono hF1.size)).grown hg2 (by have := Fw1.size; have := hF1.size; omega) (fun j hj => Nat.le_trans hwB (hO2.lt j hj).1)
                have hArg := arg_of_own hO3 (by simp [evs_n]) (by omega) (by
                  intro c hc
                  rcases List.mem_append.1 hc with h | h
                  · exact HLF.out c h
                  · exact evs_fit_n (by omega) c h)
                obtain ⟨pv, nv, cv, rfl⟩ : ∃ p n c, v' = .slice p n c := by
                  obtain ⟨p, cap, rfl, _⟩ := hArg
                  exact ⟨_, _, _, rfl⟩
                obtain ⟨n8, hn8, hn8b⟩ : ∃ m : Nat, Int.tmod (n : Int) 8 = (m : Int) ∧ m < 8 := ⟨n % 8, rfl, by omega⟩
                have hn8c : (n8 : Int) < 8 := by omega
                obtain ⟨v2, L2, e3, hHd2, -⟩ := hH2.h.h n8 hn8b
                obtain ⟨pv2, nv2, cv2, rfl⟩ : ∃ p n c, v2 = .slice p n c := by
                  obtain ⟨_, _, h⟩ := hHd2
                  rcases h with ⟨rfl, _⟩ | ⟨b, rfl, _⟩
                  · exact ⟨_, _, _, rfl⟩
                  · exact ⟨_, _, _, rfl⟩
                have hP := fun w' (hb : Below u2.heap.size u2 w') => HPL.out _ _ w' (hArg.below hb)
                have hS := fun w' (hb : Below u2.heap.size u2 w') => HSA.out _ _ w' (hArg.below hb)
                have hM := fun bo fi w' (hb : Below u2.heap.size u2 w') => HME.out 1 _ _ _ _ bo fi w' (hArg.below hb) ((hHd2.below hb).arg)
                have HH := Lib.hid (fun w' (hb : Below u2.heap.size u2 w') => hH2.below hb)
                have hB_h := hH2.h.b
                obtain ⟨n2, hn2⟩ : ∃ m : Nat, Int.tmod (n : Int) 2 = (m : Int) := ⟨n % 2, rfl⟩
                obtain ⟨n3, hn3⟩ : ∃ m : Nat, Int.tmod (n : Int) 3 = (m : Int) := ⟨n % 3, rfl⟩
                obtain ⟨n4, hn4, hn4b⟩ : ∃ m : Nat, Int.tmod (n : Int) 4 = (m : Int) ∧ m < 4 := ⟨n % 4, rfl, by omega⟩
                obtain ⟨k8, hk8⟩ : ∃ m : Nat, Int.tmod (k : Int) 8 = (m : Int) := ⟨k % 8, rfl⟩
                clear hO hO2 hO3 hg2 hArg hHd2 hH2 hH1 hF1 Fw1 hz
                by_cases hz8 : k8 = 0
                · have hz9 : ((k8 : Int) == 0) = true := by simp [hz8]
                  skip
                  have Fu2 : Below u2.heap.size u2 u2 := Below.refl _ _
                  have hc_h := hB_h.cell
                  repeat (first|(with_reducible apply Xa)|((with_reducible apply region_k);intro KK kk)|(with_reducible apply Xc)|((with_reducible apply seq_k);intro KK kk)|((with_reducible apply Xk);(focus first|exact wanted_none rfl|exact wanted_yes rfl rfl rfl);(focus (simp [go_sem,effAt,↓IntWalk.iteOmega, *];(try go_ints);with_reducible first|exact Xm|exact Xn));focus (first|(apply put_some rfl;focus (conv=>lhs;dsimp only [Xr,Xs])<;>rfl)|exact put_none rfl))|((with_reducible apply Xl);(focus first|exact wanted_no rfl rfl rfl|exact wanted_undef rfl rfl rfl);focus (first|(apply put_some rfl;focus (conv=>lhs;dsimp only [Xr,Xs])<;>rfl)|exact put_none rfl))|(with_reducible first|apply Xe|apply Xf|apply Xg|apply Xh)|((with_reducible apply Xi);focus first|rfl|(simp [go_sem, *];done))|((with_reducible apply Xj);focus first|rfl|(simp [go_sem, *];done))|(simp only [Exit.then,Exit.inBlock,↓reduceIte,Nat.reduceEqDiff])|((with_reducible apply kf_out);focus assumption))
                  ((with_reducible apply Xt (Below u2.heap.size u2)); (focus rfl); (focus (simp only [effAt]; simp [go_sem]; (with_reducible exact effUpon_enter (hP _ Fu2)))); (focus ((first|(apply put_some rfl;focus (conv=>lhs;dsimp only [Xr,Xs])<;>rfl)|exact put_none rfl))))
                  intro w1 hs
                  have Fw1 := Fu2.trans (hs.mono Fu2.size)
                  replace hB_h := hB_h.below hs hB_h.lt
                  clear hs Fu2
                  clear hc_h; have hc_h := hB_h.cell
                  clear hP
                  repeat (first|(with_reducible apply Xa)|((with_reducible apply region_k);intro KK kk)|(with_reducible apply Xc)|((with_reducible apply seq_k);intro KK kk)|((with_reducible apply Xk);(focus first|exact wanted_none rfl|exact wanted_yes rfl rfl rfl);(focus (simp [go_sem,effAt,↓IntWalk.iteOmega, *];(try go_ints);with_reducible first|exact Xm|exact Xn));focus (first|(apply put_some rfl;focus (conv=>lhs;dsimp only [Xr,Xs])<;>rfl)|exact put_none rfl))|((with_reducible apply Xl);(focus first|exact wanted_no rfl rfl rfl|exact wanted_undef rfl rfl rfl);focus (first|(apply put_some rfl;focus (conv=>lhs;dsimp only [Xr,Xs])<;>rfl)|exact put_none rfl))|(with_reducible first|apply Xe|apply Xf|apply Xg|apply Xh)|((with_reducible apply Xi);focus first|rfl|(simp [go_sem, *];done))|((with_reducible apply Xj);focus first|rfl|(simp [go_sem, *];done))|(simp only [Exit.then,Exit.inBlock,↓reduceIte,Nat.reduceEqDiff])|((with_reducible apply kf_out);focus assumption))
                  ((with_reducible apply Xt (Below w1.heap.size w1)); (focus rfl); (focus (simp only [effAt]; simp [go_sem]; (with_reducible exact effUpon_enter (hS _ Fw1)))); (focus ((first|(apply put_some rfl;focus (conv=>lhs;dsimp only [Xr,Xs])<;>rfl)|exact put_none rfl))))
                  intro w2 hs
                  have Fw2 := Fw1.trans (hs.mono Fw1.size)
                  replace hB_h := hB_h.below hs hB_h.lt
                  clear hs Fw1
                  clear hc_h; have hc_h := hB_h.cell
                  clear hS
                  repeat (first|(with_reducible apply Xa)|((with_reducible apply region_k);intro KK kk)|(with_reducible apply Xc)|((with_reducible apply seq_k);intro KK kk)|((with_reducible apply Xk);(focus first|exact wanted_none rfl|exact wanted_yes rfl rfl rfl);(focus (simp [go_sem,effAt,↓IntWalk.iteOmega, *];(try go_ints);with_reducible first|exact Xm|exact Xn));focus (first|(apply put_some rfl;focus (conv=>lhs;dsimp only [Xr,Xs])<;>rfl)|exact put_none rfl))|((with_reducible apply Xl);(focus first|exact wanted_no rfl rfl rfl|exact wanted_undef rfl rfl rfl);focus (first|(apply put_some rfl;focus (conv=>lhs;dsimp only [Xr,Xs])<;>rfl)|exact put_none rfl))|(with_reducible first|apply Xe|apply Xf|apply Xg|apply Xh)|((with_reducible apply Xi);focus first|rfl|(simp [go_sem, *];done))|((with_reducible apply Xj);focus first|rfl|(simp [go_sem, *];done))|(simp only [Exit.then,Exit.inBlock,↓reduceIte,Nat.reduceEqDiff])|((with_reducible apply kf_out);focus assumption))
                  ((with_reducible apply Xt (Below w2.heap.size w2)); (focus rfl); (focus (simp only [effAt]; simp [go_sem]; (with_reducible exact effUpon_enter (hM _ _ _ Fw2)))); (focus ((first|(apply put_some rfl;focus (conv=>lhs;dsimp only [Xr,Xs])<;>rfl)|exact put_none rfl))))
                  intro w3 hs
                  have Fw3 := Fw2.trans (hs.mono Fw2.size)
                  replace hB_h := hB_h.below hs hB_h.lt
                  clear hs Fw2
                  clear hc_h; have hc_h := hB_h.cell
                  clear hM
                  repeat (first|(with_reducible apply Xa)|((with_reducible apply region_k);intro KK kk)|(with_reducible apply Xc)|((with_reducible apply seq_k);intro KK kk)|((with_reducible apply Xk);(focus first|exact wanted_none rfl|exact wanted_yes rfl rfl rfl);(focus (simp [go_sem,effAt,↓IntWalk.iteOmega, *];(try go_ints);with_reducible first|exact Xm|exact Xn));focus (first|(apply put_some rfl;focus (conv=>lhs;dsimp only [Xr,Xs])<;>rfl)|exact put_none rfl))|((with_reducible apply Xl);(focus first|exact wanted_no rfl rfl rfl|exact wanted_undef rfl rfl rfl);focus (first|(apply put_some rfl;focus (conv=>lhs;dsimp only [Xr,Xs])<;>rfl)|exact put_none rfl))|(with_reducible first|apply Xe|apply Xf|apply Xg|apply Xh)|((with_reducible apply Xi);focus first|rfl|(simp [go_sem, *];done))|((with_reducible apply Xj);focus first|rfl|(simp [go_sem, *];done))|(simp only [Exit.then,Exit.inBlock,↓reduceIte,Nat.reduceEqDiff])|((with_reducible apply kf_out);focus assumption))
                  refine hK3 _ _ (Handed.intro (gk - 1) ?measure (hJ3 _ _ _ ?_))
                  rotate_left
                  (repeat apply Exists.intro)
                  refine ⟨?rel, rfl⟩
                  case rel => exact ⟨k + 1 + n4, by go_num, by omega, by omega, HH.out _ (by assumption), hF2.trans (Below.mono (by assumption) hF2.size)⟩
                  case measure => omega
                · have hz9 : ((k8 : Int) == 0) = false := by simp [hz8]
                  clear hM
                  skip
                  have Fu2 : Below u2.heap.size u2 u2 := Below.refl _ _
                  have hc_h := hB_h.cell
                  repeat (first|(with_reducible apply Xa)|((with_reducible apply region_k);intro KK kk)|(with_reducible apply Xc)|((with_reducible apply seq_k);intro KK kk)|((with_reducible apply Xk);(focus first|exact wanted_none rfl|exact wanted_yes rfl rfl rfl);(focus (simp [go_sem,effAt,↓IntWalk.iteOmega, *];(try go_ints);with_reducible first|exact Xm|exact Xn));focus (first|(apply put_some rfl;focus (conv=>lhs;dsimp only [Xr,Xs])<;>rfl)|exact put_none rfl))|((with_reducible apply Xl);(focus first|exact wanted_no rfl rfl rfl|exact wanted_undef rfl rfl rfl);focus (first|(apply put_some rfl;focus (conv=>lhs;dsimp only [Xr,Xs])<;>rfl)|exact put_none rfl))|(with_reducible first|apply Xe|apply Xf|apply Xg|apply Xh)|((with_reducible apply Xi);focus first|rfl|(simp [go_sem, *];done))|((with_reducible apply Xj);focus first|rfl|(simp [go_sem, *];done))|(simp only [Exit.then,Exit.inBlock,↓reduceIte,Nat.reduceEqDiff])|((with_reducible apply kf_out);focus assumption))
                  ((with_reducible apply Xt (Below u2.heap.size u2)); (focus rfl); (focus (simp only [effAt]; simp [go_sem]; (with_reducible exact effUpon_enter (hP _ Fu2)))); (focus ((first|(apply put_some rfl;focus (conv=>lhs;dsimp only [Xr,Xs])<;>rfl)|exact put_none rfl))))
                  intro w1 hs
                  have Fw1 := Fu2.trans (hs.mono Fu2.size)
                  replace hB_h := hB_h.below hs hB_h.lt
                  clear hs Fu2
                  clear hc_h; have hc_h := hB_h.cell
                  clear hP
                  repeat (first|(with_reducible apply Xa)|((with_reducible apply region_k);intro KK kk)|(with_reducible apply Xc)|((with_reducible apply seq_k);intro KK kk)|((with_reducible apply Xk);(focus first|exact wanted_none rfl|exact wanted_yes rfl rfl rfl);(focus (simp [go_sem,effAt,↓IntWalk.iteOmega, *];(try go_ints);with_reducible first|exact Xm|exact Xn));focus (first|(apply put_some rfl;focus (conv=>lhs;dsimp only [Xr,Xs])<;>rfl)|exact put_none rfl))|((with_reducible apply Xl);(focus first|exact wanted_no rfl rfl rfl|exact wanted_undef rfl rfl rfl);focus (first|(apply put_some rfl;focus (conv=>lhs;dsimp only [Xr,Xs])<;>rfl)|exact put_none rfl))|(with_reducible first|apply Xe|apply Xf|apply Xg|apply Xh)|((with_reducible apply Xi);focus first|rfl|(simp [go_sem, *];done))|((with_reducible apply Xj);focus first|rfl|(simp [go_sem, *];done))|(simp only [Exit.then,Exit.inBlock,↓reduceIte,Nat.reduceEqDiff])|((with_reducible apply kf_out);focus assumption))
                  ((with_reducible apply Xt (Below w1.heap.size w1)); (focus rfl); (focus (simp only [effAt]; simp [go_sem]; (with_reducible exact effUpon_enter (hS _ Fw1)))); (focus ((first|(apply put_some rfl;focus (conv=>lhs;dsimp only [Xr,Xs])<;>rfl)|exact put_none rfl))))
                  intro w2 hs
                  have Fw2 := Fw1.trans (hs.mono Fw1.size)
                  replace hB_h := hB_h.below hs hB_h.lt
                  clear hs Fw1
                  clear hc_h; have hc_h := hB_h.cell
                  clear hS
                  repeat (first|(with_reducible apply Xa)|((with_reducible apply region_k);intro KK kk)|(with_reducible apply Xc)|((with_reducible apply seq_k);intro KK kk)|((with_reducible apply Xk);(focus first|exact wanted_none rfl|exact wanted_yes rfl rfl rfl);(focus (simp [go_sem,effAt,↓IntWalk.iteOmega, *];(try go_ints);with_reducible first|exact Xm|exact Xn));focus (first|(apply put_some rfl;focus (conv=>lhs;dsimp only [Xr,Xs])<;>rfl)|exact put_none rfl))|((with_reducible apply Xl);(focus first|exact wanted_no rfl rfl rfl|exact wanted_undef rfl rfl rfl);focus (first|(apply put_some rfl;focus (conv=>lhs;dsimp only [Xr,Xs])<;>rfl)|exact put_none rfl))|(with_reducible first|apply Xe|apply Xf|apply Xg|apply Xh)|((with_reducible apply Xi);focus first|rfl|(simp [go_sem, *];done))|((with_reducible apply Xj);focus first|rfl|(simp [go_sem, *];done))|(simp only [Exit.then,Exit.inBlock,↓reduceIte,Nat.reduceEqDiff])|((with_reducible apply kf_out);focus assumption))
                  refine hK3 _ _ (Handed.intro (gk - 1) ?measure (hJ3 _ _ _ ?_))
                  rotate_left
                  (repeat apply Exists.intro)
                  refine ⟨?rel, rfl⟩
                  case rel => exact ⟨k + 1 + n4, by go_num, by omega, by omega, HH.out _ (by assumption), hF2.trans (Below.mono (by assumption) hF2.size)⟩
                  case measure => omega
              · repeat (first|(with_reducible apply Xa)|((with_reducible apply region_k);intro KK kk)|(with_reducible apply Xc)|((with_reducible apply seq_k);intro KK kk)|((with_reducible apply Xk);(focus first|exact wanted_none rfl|exact wanted_yes rfl rfl rfl);(focus (simp [go_sem,effAt,↓IntWalk.iteOmega, *];(try go_ints);with_reducible first|exact Xm|exact Xn));focus (first|(apply put_some rfl;focus (conv=>lhs;dsimp only [Xr,Xs])<;>rfl)|exact put_none rfl))|((with_reducible apply Xl);(focus first|exact wanted_no rfl rfl rfl|exact wanted_undef rfl rfl rfl);focus (first|(apply put_some rfl;focus (conv=>lhs;dsimp only [Xr,Xs])<;>rfl)|exact put_none rfl))|(with_reducible first|apply Xe|apply Xf|apply Xg|apply Xh)|((with_reducible apply Xi);focus first|rfl|(simp [go_sem, *];done))|((with_reducible apply Xj);focus first|rfl|(simp [go_sem, *];done))|(simp only [Exit.then,Exit.inBlock,↓reduceIte,Nat.reduceEqDiff])|((with_reducible apply kf_out);focus assumption))
                obtain ⟨hi0, hz0, hz1, hz2⟩ := HI.out
                refine wpList_append_own _ rfl _ _ 22 rfl B 33 i0 _ 4 16 Try.underlying22 hi0 hz0 hz1 hz2 rfl (by decide) _ 0 [] rfl (World.ownsRow_nil _ _ _ _) ⟨bb, 0, none⟩ L.length L.length (L.flatMap cellsE) rfl (flatE_len L) ?c1 ?c2 ?c3 ?c4 ?c5 ?_
                case c1 =>
                  intro j u hj
                  rw [add0_n, hBb.cell, List.getElem?_toArray]
                  exact hj
                case c2 => exact one_cells_n _
                case c3 => unfold maxLen; omega
                case c4 => omega
                case c5 => exact hH.le
                intro v' u1 hO' hg1 _
                clear hi0 hz0 hz1 hz2
                simp only [Act.put, List.setIfInBounds_toArray, List.set_cons_zero, List.set_cons_succ]
                have hO : u1.ownsRow B 33 4 v' L.length (L.flatMap cellsE) := by simpa using hO'
                have hH1 := hH.grown hg1 (fun j hj => (by cases hj))
                have hF1 := hF.grown hg1 hF.size (fun j hj => (by cases hj))
                obtain ⟨pv0, nv0, cv0, rfl⟩ : ∃ p n c, v' = .slice p n c := by
                  rcases hO.2 with ⟨rfl, _⟩ | ⟨g, cap, cur, rfl, _⟩
                  · exact ⟨_, _, _, rfl⟩
                  · exact ⟨_, _, _, rfl⟩
                clear hO' hg1 hH hF hB_h hc_h Fwr e1 e2 hBb
                skip
                have Fu1 : Below u1.heap.size u1 u1 := Below.refl _ _
                repeat (first|(with_reducible apply Xa)|((with_reducible apply region_k);intro KK kk)|(with_reducible apply Xc)|((with_reducible apply seq_k);intro KK kk)|((with_reducible apply Xk);(focus first|exact wanted_none rfl|exact wanted_yes rfl rfl rfl);(focus (simp [go_sem,effAt,↓IntWalk.iteOmega, *];(try go_ints);with_reducible first|exact Xm|exact Xn));focus (first|(apply put_some rfl;focus (conv=>lhs;dsimp only [Xr,Xs])<;>rfl)|exact put_none rfl))|((with_reducible apply Xl);(focus first|exact wanted_no rfl rfl rfl|exact wanted_undef rfl rfl rfl);focus (first|(apply put_some rfl;focus (conv=>lhs;dsimp only [Xr,Xs])<;>rfl)|exact put_none rfl))|(with_reducible first|apply Xe|apply Xf|apply Xg|apply Xh)|((with_reducible apply Xi);focus first|rfl|(simp [go_sem, *];done))|((with_reducible apply Xj);focus first|rfl|(simp [go_sem, *];done))|(simp only [Exit.then,Exit.inBlock,↓reduceIte,Nat.reduceEqDiff])|((with_reducible apply kf_out);focus assumption))
                ((with_reducible apply Xu); (focus rfl); (focus (simp [go_sem, effAt]; exact ⟨rfl, rfl⟩)); (focus ((first|(apply put_some rfl;focus (conv=>lhs;dsimp only [Xr,Xs])<;>rfl)|exact put_none rfl))))
                intro w1 hB_x hs
                have Fw1 := Fu1.trans (hs.mono Fu1.size)
                clear hs Fu1
                have hc_x := hB_x.cell
                clear hc_x hn14 hn28 hk5 hk14 hk28 hb1 hb2 hb3 hb4
                have hO2 := hO.kept (grown_below Fw1 none) (Classical.em _)
                have hz := hH1.le
                repeat (first|(with_reducible apply Xa)|((with_reducible apply region_k);intro KK kk)|(with_reducible apply Xc)|((with_reducible apply seq_k);intro KK kk)|((with_reducible apply Xk);(focus first|exact wanted_none rfl|exact wanted_yes rfl rfl rfl);(focus (simp [go_sem,effAt,↓IntWalk.iteOmega, *];(try go_ints);with_reducible first|exact Xm|exact Xn));focus (first|(apply put_some rfl;focus (conv=>lhs;dsimp only [Xr,Xs])<;>rfl)|exact put_none rfl))|((with_reducible apply Xl);(focus first|exact wanted_no rfl rfl rfl|exact wanted_undef rfl rfl rfl);focus (first|(apply put_some rfl;focus (conv=>lhs;dsimp only [Xr,Xs])<;>rfl)|exact put_none rfl))|(with_reducible first|apply Xe|apply Xf|apply Xg|apply Xh)|((with_reducible apply Xi);focus first|rfl|(simp [go_sem, *];done))|((with_reducible apply Xj);focus first|rfl|(simp [go_sem, *];done))|(simp only [Exit.then,Exit.inBlock,↓reduceIte,Nat.reduceEqDiff])|((with_reducible apply kf_out);focus assumption))
                obtain ⟨hi0, hz0, hz1, hz2⟩ := HI.out
                refine wpList_append_own _ rfl _ _ 22 rfl B 33 i0 _ 4 16 Try.underlying22 hi0 hz0 hz1 hz2 rfl (by decide) _ _ _ rfl hO2 ⟨u1.heap.size, 0, none⟩ 4 4 ((evs_n n14 k5 k14 b1 b2 b3 b4).flatMap cellsE) rfl rfl ?c1 ?c2 ?c3 ?c4 ?c5 ?_
                case c1 =>
                  intro j u hj
                  rw [add0_n, hB_x.cell]
                  simpa [evs_n, cellsE] using hj
                case c2 => exact one_cells_n _
                case c3 => unfold maxLen; omega
                case c4 => omega
                case c5 => have := Fw1.size; omega
                intro v' u2 hO3 hg2 _
                clear hi0 hz0 hz1 hz2
                simp only [Act.put, List.setIfInBounds_toArray, List.set_cons_zero, List.set_cons_succ]
                rw [← List.flatMap_append] at hO3
                have hH2 := (hH1.below Fw1).grown hg2 (fun j hj => (hO2.lt j hj).1)
                have hF2 := (hF1.trans (Fw1.mono hF1.size)).grown hg2 (by have := Fw1.size; have := hF1.size; omega) (fun j hj => Nat.le_trans hwB (hO2.lt j hj).1)
                have hArg := arg_of_own hO3 (by simp [evs_n]) (by omega) (by
                  intro c hc
                  rcases List.mem_append.1 hc with h | h
                  · exact HLF.out c h
                  · exact evs_fit_n (by omega) c h)
                obtain ⟨pv, nv, cv, rfl⟩ : ∃ p n c, v' = .slice p n c := by
                  obtain ⟨p, cap, rfl, _⟩ := hArg
                  exact ⟨_, _, _, rfl⟩
                obtain ⟨n8, hn8, hn8b⟩ : ∃ m : Nat, Int.tmod (n : Int) 8 = (m : Int) ∧ m < 8 := ⟨n % 8, rfl, by omega⟩
                have hn8c : (n8 : Int) < 8 := by omega
                obtain ⟨v2, L2, e3, hHd2, -⟩ := hH2.h.h n8 hn8b
                obtain ⟨pv2, nv2, cv2, rfl⟩ : ∃ p n c, v2 = .slice p n c := by
                  obtain ⟨_, _, h⟩ := hHd2
                  rcases h with ⟨rfl, _⟩ | ⟨b, rfl, _⟩
                  · exact ⟨_, _, _, rfl⟩
                  · exact ⟨_, _, _, rfl⟩
                have hP := fun w' (hb : Below u2.heap.size u2 w') => HPL.out _ _ w' (hArg.below hb)
                have hS := fun w' (hb : Below u2.heap.size u2 w') => HSA.out _ _ w' (hArg.below hb)
                have hM := fun bo fi w' (hb : Below u2.heap.size u2 w') => HME.out 1 _ _ _ _ bo fi w' (hArg.below hb) ((hHd2.below hb).arg)
                have HH := Lib.hid (fun w' (hb : Below u2.heap.size u2 w') => hH2.below hb)
                have hB_h := hH2.h.b
                obtain ⟨n2, hn2⟩ : ∃ m : Nat, Int.tmod (n : Int) 2 = (m : Int) := ⟨n % 2, rfl⟩
                obtain ⟨n3, hn3⟩ : ∃ m : Nat, Int.tmod (n : Int) 3 = (m : Int) := ⟨n % 3, rfl⟩
                obtain ⟨n4, hn4, hn4b⟩ : ∃ m : Nat, Int.tmod (n : Int) 4 = (m : Int) ∧ m < 4 := ⟨n % 4, rfl, by omega⟩
                obtain ⟨k8, hk8⟩ : ∃ m : Nat, Int.tmod (k : Int) 8 = (m : Int) := ⟨k % 8, rfl⟩
                clear hO hO2 hO3 hg2 hArg hHd2 hH2 hH1 hF1 Fw1 hz
                by_cases hz8 : k8 = 0
                · have hz9 : ((k8 : Int) == 0) = true := by simp [hz8]
                  skip
                  have Fu2 : Below u2.heap.size u2 u2 := Below.refl _ _
                  have hc_h := hB_h.cell
                  repeat (first|(with_reducible apply Xa)|((with_reducible apply region_k);intro KK kk)|(with_reducible apply Xc)|((with_reducible apply seq_k);intro KK kk)|((with_reducible apply Xk);(focus first|exact wanted_none rfl|exact wanted_yes rfl rfl rfl);(focus (simp [go_sem,effAt,↓IntWalk.iteOmega, *];(try go_ints);with_reducible first|exact Xm|exact Xn));focus (first|(apply put_some rfl;focus (conv=>lhs;dsimp only [Xr,Xs])<;>rfl)|exact put_none rfl))|((with_reducible apply Xl);(focus first|exact wanted_no rfl rfl rfl|exact wanted_undef rfl rfl rfl);focus (first|(apply put_some rfl;focus (conv=>lhs;dsimp only [Xr,Xs])<;>rfl)|exact put_none rfl))|(with_reducible first|apply Xe|apply Xf|apply Xg|apply Xh)|((with_reducible apply Xi);focus first|rfl|(simp [go_sem, *];done))|((with_reducible apply Xj);focus first|rfl|(simp [go_sem, *];done))|(simp only [Exit.then,Exit.inBlock,↓reduceIte,Nat.reduceEqDiff])|((with_reducible apply kf_out);focus assumption))
                  ((with_reducible apply Xt (Below u2.heap.size u2)); (focus rfl); (focus (simp only [effAt]; simp [go_sem]; (with_reducible exact effUpon_enter (hP _ Fu2)))); (focus ((first|(apply put_some rfl;focus (conv=>lhs;dsimp only [Xr,Xs])<;>rfl)|exact put_none rfl))))
                  intro w1 hs
                  have Fw1 := Fu2.trans (hs.mono Fu2.size)
                  replace hB_h := hB_h.below hs hB_h.lt
                  clear hs Fu2
                  clear hc_h; have hc_h := hB_h.cell
                  clear hP
                  repeat (first|(with_reducible apply Xa)|((with_reducible apply region_k);intro KK kk)|(with_reducible apply Xc)|((with_reducible apply seq_k);intro KK kk)|((with_reducible apply Xk);(focus first|exact wanted_none rfl|exact wanted_yes rfl rfl rfl);(focus (simp [go_sem,effAt,↓IntWalk.iteOmega, *];(try go_ints);with_reducible first|exact Xm|exact Xn));focus (first|(apply put_some rfl;focus (conv=>lhs;dsimp only [Xr,Xs])<;>rfl)|exact put_none rfl))|((with_reducible apply Xl);(focus first|exact wanted_no rfl rfl rfl|exact wanted_undef rfl rfl rfl);focus (first|(apply put_some rfl;focus (conv=>lhs;dsimp only [Xr,Xs])<;>rfl)|exact put_none rfl))|(with_reducible first|apply Xe|apply Xf|apply Xg|apply Xh)|((with_reducible apply Xi);focus first|rfl|(simp [go_sem, *];done))|((with_reducible apply Xj);focus first|rfl|(simp [go_sem, *];done))|(simp only [Exit.then,Exit.inBlock,↓reduceIte,Nat.reduceEqDiff])|((with_reducible apply kf_out);focus assumption))
                  ((with_reducible apply Xt (Below w1.heap.size w1)); (focus rfl); (focus (simp only [effAt]; simp [go_sem]; (with_reducible exact effUpon_enter (hS _ Fw1)))); (focus ((first|(apply put_some rfl;focus (conv=>lhs;dsimp only [Xr,Xs])<;>rfl)|exact put_none rfl))))
                  intro w2 hs
                  have Fw2 := Fw1.trans (hs.mono Fw1.size)
                  replace hB_h := hB_h.below hs hB_h.lt
                  clear hs Fw1
                  clear hc_h; have hc_h := hB_h.cell
                  clear hS
                  repeat (first|(with_reducible apply Xa)|((with_reducible apply region_k);intro KK kk)|(with_reducible apply Xc)|((with_reducible apply seq_k);intro KK kk)|((with_reducible apply Xk);(focus first|exact wanted_none rfl|exact wanted_yes rfl rfl rfl);(focus (simp [go_sem,effAt,↓IntWalk.iteOmega, *];(try go_ints);with_reducible first|exact Xm|exact Xn));focus (first|(apply put_some rfl;focus (conv=>lhs;dsimp only [Xr,Xs])<;>rfl)|exact put_none rfl))|((with_reducible apply Xl);(focus first|exact wanted_no rfl rfl rfl|exact wanted_undef rfl rfl rfl);focus (first|(apply put_some rfl;focus (conv=>lhs;dsimp only [Xr,Xs])<;>rfl)|exact put_none rfl))|(with_reducible first|apply Xe|apply Xf|apply Xg|apply Xh)|((with_reducible apply Xi);focus first|rfl|(simp [go_sem, *];done))|((with_reducible apply Xj);focus first|rfl|(simp [go_sem, *];done))|(simp only [Exit.then,Exit.inBlock,↓reduceIte,Nat.reduceEqDiff])|((with_reducible apply kf_out);focus assumption))
                  ((with_reducible apply Xt (Below w2.heap.size w2)); (focus rfl); (focus (simp only [effAt]; simp [go_sem]; (with_reducible exact effUpon_enter (hM _ _ _ Fw2)))); (focus ((first|(apply put_some rfl;focus (conv=>lhs;dsimp only [Xr,Xs])<;>rfl)|exact put_none rfl))))
                  intro w3 hs
                  have Fw3 := Fw2.trans (hs.mono Fw2.size)
                  replace hB_h := hB_h.below hs hB_h.lt
                  clear hs Fw2
                  clear hc_h; have hc_h := hB_h.cell
                  clear hM
                  repeat (first|(with_reducible apply Xa)|((with_reducible apply region_k);intro KK kk)|(with_reducible apply Xc)|((with_reducible apply seq_k);intro KK kk)|((with_reducible apply Xk);(focus first|exact wanted_none rfl|exact wanted_yes rfl rfl rfl);(focus (simp [go_sem,effAt,↓IntWalk.iteOmega, *];(try go_ints);with_reducible first|exact Xm|exact Xn));focus (first|(apply put_some rfl;focus (conv=>lhs;dsimp only [Xr,Xs])<;>rfl)|exact put_none rfl))|((with_reducible apply Xl);(focus first|exact wanted_no rfl rfl rfl|exact wanted_undef rfl rfl rfl);focus (first|(apply put_some rfl;focus (conv=>lhs;dsimp only [Xr,Xs])<;>rfl)|exact put_none rfl))|(with_reducible first|apply Xe|apply Xf|apply Xg|apply Xh)|((with_reducible apply Xi);focus first|rfl|(simp [go_sem, *];done))|((with_reducible apply Xj);focus first|rfl|(simp [go_sem, *];done))|(simp only [Exit.then,Exit.inBlock,↓reduceIte,Nat.reduceEqDiff])|((with_reducible apply kf_out);focus assumption))
                  refine hK3 _ _ (Handed.intro (gk - 1) ?measure (hJ3 _ _ _ ?_))
                  rotate_left
                  (repeat apply Exists.intro)
                  refine ⟨?rel, rfl⟩
                  case rel => exact ⟨k + 1 + n4, by go_num, by omega, by omega, HH.out _ (by assumption), hF2.trans (Below.mono (by assumption) hF2.size)⟩
                  case measure => omega
                · have hz9 : ((k8 : Int) == 0) = false := by simp [hz8]
                  clear hM
                  skip
                  have Fu2 : Below u2.heap.size u2 u2 := Below.refl _ _
                  have hc_h := hB_h.cell
                  repeat (first|(with_reducible apply Xa)|((with_reducible apply region_k);intro KK kk)|(with_reducible apply Xc)|((with_reducible apply seq_k);intro KK kk)|((with_reducible apply Xk);(focus first|exact wanted_none rfl|exact wanted_yes rfl rfl rfl);(focus (simp [go_sem,effAt,↓IntWalk.iteOmega, *];(try go_ints);with_reducible first|exact Xm|exact Xn));focus (first|(apply put_some rfl;focus (conv=>lhs;dsimp only [Xr,Xs])<;>rfl)|exact put_none rfl))|((with_reducible apply Xl);(focus first|exact wanted_no rfl rfl rfl|exact wanted_undef rfl rfl rfl);focus (first|(apply put_some rfl;focus (conv=>lhs;dsimp only [Xr,Xs])<;>rfl)|exact put_none rfl))|(with_reducible first|apply Xe|apply Xf|apply Xg|apply Xh)|((with_reducible apply Xi);focus first|rfl|(simp [go_sem, *];done))|((with_reducible apply Xj);focus first|rfl|(simp [go_sem, *];done))|(simp only [Exit.then,Exit.inBlock,↓reduceIte,Nat.reduceEqDiff])|((with_reducible apply kf_out);focus assumption))
                  ((with_reducible apply Xt (Below u2.heap.size u2)); (focus rfl); (focus (simp only [effAt]; simp [go_sem]; (with_reducible exact effUpon_enter (hP _ Fu2)))); (focus ((first|(apply put_some rfl;focus (conv=>lhs;dsimp only [Xr,Xs])<;>rfl)|exact put_none rfl))))
                  intro w1 hs
                  have Fw1 := Fu2.trans (hs.mono Fu2.size)
                  replace hB_h := hB_h.below hs hB_h.lt
                  clear hs Fu2
                  clear hc_h; have hc_h := hB_h.cell
                  clear hP
                  repeat (first|(with_reducible apply Xa)|((with_reducible apply region_k);intro KK kk)|(with_reducible apply Xc)|((with_reducible apply seq_k);intro KK kk)|((with_reducible apply Xk);(focus first|exact wanted_none rfl|exact wanted_yes rfl rfl rfl);(focus (simp [go_sem,effAt,↓IntWalk.iteOmega, *];(try go_ints);with_reducible first|exact Xm|exact Xn));focus (first|(apply put_some rfl;focus (conv=>lhs;dsimp only [Xr,Xs])<;>rfl)|exact put_none rfl))|((with_reducible apply Xl);(focus first|exact wanted_no rfl rfl rfl|exact wanted_undef rfl rfl rfl);focus (first|(apply put_some rfl;focus (conv=>lhs;dsimp only [Xr,Xs])<;>rfl)|exact put_none rfl))|(with_reducible first|apply Xe|apply Xf|apply Xg|apply Xh)|((with_reducible apply Xi);focus first|rfl|(simp [go_sem, *];done))|((with_reducible apply Xj);focus first|rfl|(simp [go_sem, *];done))|(simp only [Exit.then,Exit.inBlock,↓reduceIte,Nat.reduceEqDiff])|((with_reducible apply kf_out);focus assumption))
                  ((with_reducible apply Xt (Below w1.heap.size w1)); (focus rfl); (focus (simp only [effAt]; simp [go_sem]; (with_reducible exact effUpon_enter (hS _ Fw1)))); (focus ((first|(apply put_some rfl;focus (conv=>lhs;dsimp only [Xr,Xs])<;>rfl)|exact put_none rfl))))
                  intro w2 hs
                  have Fw2 := Fw1.trans (hs.mono Fw1.size)
                  replace hB_h := hB_h.below hs hB_h.lt
                  clear hs Fw1
                  clear hc_h; have hc_h := hB_h.cell
                  clear hS
                  repeat (first|(with_reducible apply Xa)|((with_reducible apply region_k);intro KK kk)|(with_reducible apply Xc)|((with_reducible apply seq_k);intro KK kk)|((with_reducible apply Xk);(focus first|exact wanted_none rfl|exact wanted_yes rfl rfl rfl);(focus (simp [go_sem,effAt,↓IntWalk.iteOmega, *];(try go_ints);with_reducible first|exact Xm|exact Xn));focus (first|(apply put_some rfl;focus (conv=>lhs;dsimp only [Xr,Xs])<;>rfl)|exact put_none rfl))|((with_reducible apply Xl);(focus first|exact wanted_no rfl rfl rfl|exact wanted_undef rfl rfl rfl);focus (first|(apply put_some rfl;focus (conv=>lhs;dsimp only [Xr,Xs])<;>rfl)|exact put_none rfl))|(with_reducible first|apply Xe|apply Xf|apply Xg|apply Xh)|((with_reducible apply Xi);focus first|rfl|(simp [go_sem, *];done))|((with_reducible apply Xj);focus first|rfl|(simp [go_sem, *];done))|(simp only [Exit.then,Exit.inBlock,↓reduceIte,Nat.reduceEqDiff])|((with_reducible apply kf_out);focus assumption))
                  refine hK3 _ _ (Handed.intro (gk - 1) ?measure (hJ3 _ _ _ ?_))
                  rotate_left
                  (repeat apply Exists.intro)
                  refine ⟨?rel, rfl⟩
                  case rel => exact ⟨k + 1 + n4, by go_num, by omega, by omega, HH.out _ (by assumption), hF2.trans (Below.mono (by assumption) hF2.size)⟩
                  case measure => omega
            case neg =>
              have hltk' : ¬ (k : Int) < 56 := by omega
              have hn255 : (n : Int) ≤ 255 := by omega
              clear hJ3 hK3 hk hk60 hltk
              skip
              have Fwr : Below wr.heap.size wr wr := Below.refl _ _
              repeat (first|(with_reducible apply Xa)|((with_reducible apply region_k);intro KK kk)|(with_reducible apply Xc)|((with_reducible apply seq_k);intro KK kk)|((with_reducible apply Xk);(focus first|exact wanted_none rfl|exact wanted_yes rfl rfl rfl);(focus (simp [go_sem,effAt,↓IntWalk.iteOmega, *];(try go_ints);with_reducible first|exact Xm|exact Xn));focus (first|(apply put_some rfl;focus (conv=>lhs;dsimp only [Xr,Xs])<;>rfl)|exact put_none rfl))|((with_reducible apply Xl);(focus first|exact wanted_no rfl rfl rfl|exact wanted_undef rfl rfl rfl);focus (first|(apply put_some rfl;focus (conv=>lhs;dsimp only [Xr,Xs])<;>rfl)|exact put_none rfl))|(with_reducible first|apply Xe|apply Xf|apply Xg|apply Xh)|((with_reducible apply Xi);focus first|rfl|(simp [go_sem, *];done))|((with_reducible apply Xj);focus first|rfl|(simp [go_sem, *];done))|(simp only [Exit.then,Exit.inBlock,↓reduceIte,Nat.reduceEqDiff])|((with_reducible apply kf_out);focus assumption))
              ((with_reducible apply Xt (Below wr.heap.size wr)); (focus rfl); (focus (simp only [effAt]; simp [go_sem]; (with_reducible exact effUpon_enter (none_any (n : Int) (n : Int) false false _ (ev_fit_n (by omega)))))); (focus ((first|(apply put_some rfl;focus (conv=>lhs;dsimp only [Xr,Xs])<;>rfl)|exact put_none rfl))))
              intro w1 hs
              have Fw1 := Fwr.trans (hs.mono Fwr.size)
              clear hs Fwr
              repeat (first|(with_reducible apply Xa)|((with_reducible apply region_k);intro KK kk)|(with_reducible apply Xc)|((with_reducible apply seq_k);intro KK kk)|((with_reducible apply Xk);(focus first|exact wanted_none rfl|exact wanted_yes rfl rfl rfl);(focus (simp [go_sem,effAt,↓IntWalk.iteOmega, *];(try go_ints);with_reducible first|exact Xm|exact Xn));focus (first|(apply put_some rfl;focus (conv=>lhs;dsimp only [Xr,Xs])<;>rfl)|exact put_none rfl))|((with_reducible apply Xl);(focus first|exact wanted_no rfl rfl rfl|exact wanted_undef rfl rfl rfl);focus (first|(apply put_some rfl;focus (conv=>lhs;dsimp only [Xr,Xs])<;>rfl)|exact put_none rfl))|(with_reducible first|apply Xe|apply Xf|apply Xg|apply Xh)|((with_reducible apply Xi);focus first|rfl|(simp [go_sem, *];done))|((with_reducible apply Xj);focus first|rfl|(simp [go_sem, *];done))|(simp only [Exit.then,Exit.inBlock,↓reduceIte,Nat.reduceEqDiff])|((with_reducible apply kf_out);focus assumption))
              refine hK2 _ _ (Handed.intro (55 - n) ?measure (hJ2 _ _ _ ?_))
              rotate_left
              (repeat apply Exists.intro)
              refine ⟨?rel, rfl⟩
              case rel => exact ⟨n + 1, by go_num, by omega, hH.below (by assumption), hF.trans (Below.mono (by assumption) hF.size)⟩
              case measure => omega
        case neg =>
          have hltn' : ¬ (n : Int) < 56 := by omega
          clear hJ2 hK2 hn hltn
          skip
          have Fwr : Below wr.heap.size wr wr := Below.refl _ _
          repeat (first|(with_reducible apply Xa)|((with_reducible apply region_k);intro KK kk)|(with_reducible apply Xc)|((with_reducible apply seq_k);intro KK kk)|((with_reducible apply Xk);(focus first|exact wanted_none rfl|exact wanted_yes rfl rfl rfl);(focus (simp [go_sem,effAt,↓IntWalk.iteOmega, *];(try go_ints);with_reducible first|exact Xm|exact Xn));focus (first|(apply put_some rfl;focus (conv=>lhs;dsimp only [Xr,Xs])<;>rfl)|exact put_none rfl))|((with_reducible apply Xl);(focus first|exact wanted_no rfl rfl rfl|exact wanted_undef rfl rfl rfl);focus (first|(apply put_some rfl;focus (conv=>lhs;dsimp only [Xr,Xs])<;>rfl)|exact put_none rfl))|(with_reducible first|apply Xe|apply Xf|apply Xg|apply Xh)|((with_reducible apply Xi);focus first|rfl|(simp [go_sem, *];done))|((with_reducible apply Xj);focus first|rfl|(simp [go_sem, *];done))|(simp only [Exit.then,Exit.inBlock,↓reduceIte,Nat.reduceEqDiff])|((with_reducible apply kf_out);focus assumption))
          refine hK1.out _ _ (Handed.intro (7 - i) ?measure (hJ1.out _ _ _ ?_))
          rotate_left
          (repeat apply Exists.intro)
          refine ⟨?rel, rfl⟩
          case rel => exact ⟨i + 1, by go_num, by omega, hH, hF⟩
          case measure => omega
    case neg =>
      have hlt' : ¬ (i : Int) < 8 := by omega
      have hB_h := hH.h.b
      clear hJ hK hi hlt hH
      skip
      have Fwr : Below wr.heap.size wr wr := Below.refl _ _
      have hc_h := hB_h.cell
      repeat (first|(with_reducible apply Xa)|((with_reducible apply region_k);intro KK kk)|(with_reducible apply Xc)|((with_reducible apply seq_k);intro KK kk)|((with_reducible apply Xk);(focus first|exact wanted_none rfl|exact wanted_yes rfl rfl rfl);(focus (simp [go_sem,effAt,↓IntWalk.iteOmega, *];(try go_ints);with_reducible first|exact Xm|exact Xn));focus (first|(apply put_some rfl;focus (conv=>lhs;dsimp only [Xr,Xs])<;>rfl)|exact put_none rfl))|((with_reducible apply Xl);(focus first|exact wanted_no rfl rfl rfl|exact wanted_undef rfl rfl rfl);focus (first|(apply put_some rfl;focus (conv=>lhs;dsimp only [Xr,Xs])<;>rfl)|exact put_none rfl))|(with_reducible first|apply Xe|apply Xf|apply Xg|apply Xh)|((with_reducible apply Xi);focus first|rfl|(simp [go_sem, *];done))|((with_reducible apply Xj);focus first|rfl|(simp [go_sem, *];done))|(simp only [Exit.then,Exit.inBlock,↓reduceIte,Nat.reduceEqDiff])|((with_reducible apply kf_out);focus assumption))
      have lt_h_r := hB_h.lt
      ((with_reducible apply Xu); (focus rfl); (focus (simp [go_sem, effAt]; exact ⟨rfl, rfl⟩)); (focus ((first|(apply put_some rfl;focus (conv=>lhs;dsimp only [Xr,Xs])<;>rfl)|exact put_none rfl))))
      intro w1 hB_r hs
      have Fw1 := Fwr.trans (hs.mono Fwr.size)
      replace hB_h := hB_h.below hs hB_h.lt
      clear hs Fwr
      clear hc_h; have hc_h := hB_h.cell
      have hc_r := hB_r.cell
      have hnums := nums_get_n
      generalize (#[Value.int .i64 (-9223372036854775808), .int .i64 (-1), .int .i64 0, .int .i64 1, .int .i64 2, .int .i64 255, .int .i64 256, .int .i64 9223372036854775807] : Array Value) = ns at hB_r hnums hc_r
      have HR := Lib.hid hnums
      have hF2 := hF.trans (Fw1.mono hF.size)
      obtain ⟨rg, hrg⟩ : ∃ rg, wr.heap.size = rg := ⟨_, rfl⟩
      rw [hrg] at hB_r
      clear hnums hc_r hc_h hB_h hF Fw1
      repeat (first|(with_reducible apply Xa)|((with_reducible apply region_k);intro KK kk)|(with_reducible apply Xc)|((with_reducible apply seq_k);intro KK kk)|((with_reducible apply Xk);(focus first|exact wanted_none rfl|exact wanted_yes rfl rfl rfl);(focus (simp [go_sem,effAt,↓IntWalk.iteOmega, *];(try go_ints);with_reducible first|exact Xm|exact Xn));focus (first|(apply put_some rfl;focus (conv=>lhs;dsimp only [Xr,Xs])<;>rfl)|exact put_none rfl))|((with_reducible apply Xl);(focus first|exact wanted_no rfl rfl rfl|exact wanted_undef rfl rfl rfl);focus (first|(apply put_some rfl;focus (conv=>lhs;dsimp only [Xr,Xs])<;>rfl)|exact put_none rfl))|(with_reducible first|apply Xe|apply Xf|apply Xg|apply Xh)|((with_reducible apply Xi);focus first|rfl|(simp [go_sem, *];done))|((with_reducible apply Xj);focus first|rfl|(simp [go_sem, *];done))|(simp only [Exit.then,Exit.inBlock,↓reduceIte,Nat.reduceEqDiff])|((with_reducible apply kf_out);focus assumption))
      rw [hrg]
      clear hrg
      go_loopg [114, 7] 8 (fun q v114 v7 wr => ∃ i : Nat, v114 = .int .i64 (i : Int) ∧ i + q = 8 ∧ Blk wr rg 3 ns ∧ Below w.heap.size w wr)
      case atStart => exact ⟨0, rfl, by omega, hB_r, hF2⟩
      case round =>
        rename_i J K hJ hK
        clear hB_r hF2
        obtain ⟨i, rfl, hi, hB_r, hF⟩ := hrel
        by_cases hlt : i < 8
        case pos =>
          have hlt' : (i : Int) < 8 := by omega
          obtain ⟨x, hx⟩ := HR.out i hlt
          skip
          have Fwr : Below wr.heap.size wr wr := Below.refl _ _
          have hc_r := hB_r.cell
          repeat (first|(with_reducible apply Xa)|((with_reducible apply region_k);intro KK kk)|(with_reducible apply Xc)|((with_reducible apply seq_k);intro KK kk)|((with_reducible apply Xk);(focus first|exact wanted_none rfl|exact wanted_yes rfl rfl rfl);(focus (simp [go_sem,effAt,↓IntWalk.iteOmega, *];(try go_ints);with_reducible first|exact Xm|exact Xn));focus (first|(apply put_some rfl;focus (conv=>lhs;dsimp only [Xr,Xs])<;>rfl)|exact put_none rfl))|((with_reducible apply Xl);(focus first|exact wanted_no rfl rfl rfl|exact wanted_undef rfl rfl rfl);focus (first|(apply put_some rfl;focus (conv=>lhs;dsimp only [Xr,Xs])<;>rfl)|exact put_none rfl))|(with_reducible first|apply Xe|apply Xf|apply Xg|apply Xh)|((with_reducible apply Xi);focus first|rfl|(simp [go_sem, *];done))|((with_reducible apply Xj);focus first|rfl|(simp [go_sem, *];done))|(simp only [Exit.then,Exit.inBlock,↓reduceIte,Nat.reduceEqDiff])|((with_reducible apply kf_out);focus assumption))
          ((with_reducible apply Xt (Below wr.heap.size wr)); (focus rfl); (focus (simp only [effAt]; simp [go_sem]; (with_reducible exact effUpon_enter (HGI.out x true _)))); (focus ((first|(apply put_some rfl;focus (conv=>lhs;dsimp only [Xr,Xs])<;>rfl)|exact put_none rfl))))
          intro w1 hs
          have Fw1 := Fwr.trans (hs.mono Fwr.size)
          replace hB_r := hB_r.below hs hB_r.lt
          clear hs Fwr
          clear hc_r; have hc_r := hB_r.cell
          repeat (first|(with_reducible apply Xa)|((with_reducible apply region_k);intro KK kk)|(with_reducible apply Xc)|((with_reducible apply seq_k);intro KK kk)|((with_reducible apply Xk);(focus first|exact wanted_none rfl|exact wanted_yes rfl rfl rfl);(focus (simp [go_sem,effAt,↓IntWalk.iteOmega, *];(try go_ints);with_reducible first|exact Xm|exact Xn));focus (first|(apply put_some rfl;focus (conv=>lhs;dsimp only [Xr,Xs])<;>rfl)|exact put_none rfl))|((with_reducible apply Xl);(focus first|exact wanted_no rfl rfl rfl|exact wanted_undef rfl rfl rfl);focus (first|(apply put_some rfl;focus (conv=>lhs;dsimp only [Xr,Xs])<;>rfl)|exact put_none rfl))|(with_reducible first|apply Xe|apply Xf|apply Xg|apply Xh)|((with_reducible apply Xi);focus first|rfl|(simp [go_sem, *];done))|((with_reducible apply Xj);focus first|rfl|(simp [go_sem, *];done))|(simp only [Exit.then,Exit.inBlock,↓reduceIte,Nat.reduceEqDiff])|((with_reducible apply kf_out);focus assumption))
          ((with_reducible apply Xt (Below w1.heap.size w1)); (focus rfl); (focus (simp only [effAt]; simp [go_sem]; (with_reducible exact effUpon_enter (HGI.out x false _)))); (focus ((first|(apply put_some rfl;focus (conv=>lhs;dsimp only [Xr,Xs])<;>rfl)|exact put_none rfl))))
          intro w2 hs
          have Fw2 := Fw1.trans (hs.mono Fw1.size)
          replace hB_r := hB_r.below hs hB_r.lt
          clear hs Fw1
          clear hc_r; have hc_r := hB_r.cell
          repeat (first|(with_reducible apply Xa)|((with_reducible apply region_k);intro KK kk)|(with_reducible apply Xc)|((with_reducible apply seq_k);intro KK kk)|((with_reducible apply Xk);(focus first|exact wanted_none rfl|exact wanted_yes rfl rfl rfl);(focus (simp [go_sem,effAt,↓IntWalk.iteOmega, *];(try go_ints);with_reducible first|exact Xm|exact Xn));focus (first|(apply put_some rfl;focus (conv=>lhs;dsimp only [Xr,Xs])<;>rfl)|exact put_none rfl))|((with_reducible apply Xl);(focus first|exact wanted_no rfl rfl rfl|exact wanted_undef rfl rfl rfl);focus (first|(apply put_some rfl;focus (conv=>lhs;dsimp only [Xr,Xs])<;>rfl)|exact put_none rfl))|(with_reducible first|apply Xe|apply Xf|apply Xg|apply Xh)|((with_reducible apply Xi);focus first|rfl|(simp [go_sem, *];done))|((with_reducible apply Xj);focus first|rfl|(simp [go_sem, *];done))|(simp only [Exit.then,Exit.inBlock,↓reduceIte,Nat.reduceEqDiff])|((with_reducible apply kf_out);focus assumption))
          ((with_reducible apply Xt (Below w2.heap.size w2)); (focus rfl); (focus (simp only [effAt]; simp [go_sem]; (with_reducible exact effUpon_enter (HME.out x _ _ [] [] false false _ (arg_nil _) (arg_nil _))))); (focus ((first|(apply put_some rfl;focus (conv=>lhs;dsimp only [Xr,Xs])<;>rfl)|exact put_none rfl))))
          intro w3 hs
          have Fw3 := Fw2.trans (hs.mono Fw2.size)
          replace hB_r := hB_r.below hs hB_r.lt
          clear hs Fw2
          clear hc_r; have hc_r := hB_r.cell
          repeat (first|(with_reducible apply Xa)|((with_reducible apply region_k);intro KK kk)|(with_reducible apply Xc)|((with_reducible apply seq_k);intro KK kk)|((with_reducible apply Xk);(focus first|exact wanted_none rfl|exact wanted_yes rfl rfl rfl);(focus (simp [go_sem,effAt,↓IntWalk.iteOmega, *];(try go_ints);with_reducible first|exact Xm|exact Xn));focus (first|(apply put_some rfl;focus (conv=>lhs;dsimp only [Xr,Xs])<;>rfl)|exact put_none rfl))|((with_reducible apply Xl);(focus first|exact wanted_no rfl rfl rfl|exact wanted_undef rfl rfl rfl);focus (first|(apply put_some rfl;focus (conv=>lhs;dsimp only [Xr,Xs])<;>rfl)|exact put_none rfl))|(with_reducible first|apply Xe|apply Xf|apply Xg|apply Xh)|((with_reducible apply Xi);focus first|rfl|(simp [go_sem, *];done))|((with_reducible apply Xj);focus first|rfl|(simp [go_sem, *];done))|(simp only [Exit.then,Exit.inBlock,↓reduceIte,Nat.reduceEqDiff])|((with_reducible apply kf_out);focus assumption))
          refine hK _ _ (Handed.intro (gk - 1) ?measure (hJ _ _ _ ?_))
          rotate_left
          (repeat apply Exists.intro)
          refine ⟨?rel, rfl⟩
          case rel => exact ⟨i + 1, by go_num, by omega, by assumption, hF.trans (Below.mono (by assumption) hF.size)⟩
          case measure => omega
        case neg =>
          have hlt' : ¬ (i : Int) < 8 := by omega
          clear hJ hK hi hlt hB_r
          skip
          have Fwr : Below wr.heap.size wr wr := Below.refl _ _
          repeat (first|(with_reducible apply Xa)|((with_reducible apply region_k);intro KK kk)|(with_reducible apply Xc)|((with_reducible apply seq_k);intro KK kk)|((with_reducible apply Xk);(focus first|exact wanted_none rfl|exact wanted_yes rfl rfl rfl);(focus (simp [go_sem,effAt,↓IntWalk.iteOmega, *];(try go_ints);with_reducible first|exact Xm|exact Xn));focus (first|(apply put_some rfl;focus (conv=>lhs;dsimp only [Xr,Xs])<;>rfl)|exact put_none rfl))|((with_reducible apply Xl);(focus first|exact wanted_no rfl rfl rfl|exact wanted_undef rfl rfl rfl);focus (first|(apply put_some rfl;focus (conv=>lhs;dsimp only [Xr,Xs])<;>rfl)|exact put_none rfl))|(with_reducible first|apply Xe|apply Xf|apply Xg|apply Xh)|((with_reducible apply Xi);focus first|rfl|(simp [go_sem, *];done))|((with_reducible apply Xj);focus first|rfl|(simp [go_sem, *];done))|(simp only [Exit.then,Exit.inBlock,↓reduceIte,Nat.reduceEqDiff])|((with_reducible apply kf_out);focus assumption))
          ((with_reducible apply Xt (Below wr.heap.size wr)); (focus rfl); (focus (simp only [effAt]; simp [go_sem]; (with_reducible exact effUpon_enter (works_any _)))); (focus ((first|(apply put_some rfl;focus (conv=>lhs;dsimp only [Xr,Xs])<;>rfl)|exact put_none rfl))))
          intro w1 hs
          have Fw1 := Fwr.trans (hs.mono Fwr.size)
          clear hs Fwr
          repeat (first|(with_reducible apply Xa)|((with_reducible apply region_k);intro KK kk)|(with_reducible apply Xc)|((with_reducible apply seq_k);intro KK kk)|((with_reducible apply Xk);(focus first|exact wanted_none rfl|exact wanted_yes rfl rfl rfl);(focus (simp [go_sem,effAt,↓IntWalk.iteOmega, *];(try go_ints);with_reducible first|exact Xm|exact Xn));focus (first|(apply put_some rfl;focus (conv=>lhs;dsimp only [Xr,Xs])<;>rfl)|exact put_none rfl))|((with_reducible apply Xl);(focus first|exact wanted_no rfl rfl rfl|exact wanted_undef rfl rfl rfl);focus (first|(apply put_some rfl;focus (conv=>lhs;dsimp only [Xr,Xs])<;>rfl)|exact put_none rfl))|(with_reducible first|apply Xe|apply Xf|apply Xg|apply Xh)|((with_reducible apply Xi);focus first|rfl|(simp [go_sem, *];done))|((with_reducible apply Xj);focus first|rfl|(simp [go_sem, *];done))|(simp only [Exit.then,Exit.inBlock,↓reduceIte,Nat.reduceEqDiff])|((with_reducible apply kf_out);focus assumption))
          go_ret
          exact ⟨rfl, hF.trans (Below.mono (by assumption) hF.size)⟩
end Go.Proofs.Ytggpecddkbceoaa
