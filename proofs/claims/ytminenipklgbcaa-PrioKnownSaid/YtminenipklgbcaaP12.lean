/- The argument of the laws: a slice of calls; the walks of PrioPlays, played. -/
import Derived.Test.YtminenipklgbcaaP11
import Derived.Test.YtminenipklgbcaaFr
set_option linter.unusedSimpArgs false
set_option linter.unusedVariables false
namespace Go.Proofs.Ytminenipklgbcaa
open Go.RowKit Go.Eff
attribute [local irreducible] Go.wpList
/-- v is the slice of these calls -/
def Arg (w : World) (v : Value) (l : List Cll) : Prop := ∃ p cap, v = .slice p l.length cap ∧ l.length ≤ 9223372036854775807 ∧ ∀ i c, l[i]? = some c → ∃ (a : Addr) (g o : Nat), p = some a ∧ a.add (i * 4) = ⟨g, o, none⟩ ∧ g < w.heap.size ∧
  w.cell? ⟨g, o, none⟩ = some (.int .u8 (c.1 : Int)) ∧ w.cell? ⟨g, o + 1, none⟩ = some (.int .u8 (c.2.1 : Int)) ∧ w.cell? ⟨g, o + 2, none⟩ = some (.int .u8 (c.2.2.1 : Int)) ∧ w.cell? ⟨g, o + 3, none⟩ = some (.bool c.2.2.2) ∧ c.1 ≤ 255 ∧ c.2.1 ≤ 255
theorem Arg.below {w w' : World} {v : Value} {l : List Cll} (h : Arg w v l) (hb : Below w.heap.size w w') : Arg w' v l := by
  obtain ⟨p, cap, hv, hl, hc⟩ := h
  refine ⟨p, cap, hv, hl, fun i c hi => ?_⟩
  obtain ⟨a, g, o, h1, h2, h3, h4, h5, h6, h7, h8⟩ := hc i c hi
  have hx : ∀ q, w'.cell? ⟨g, q, none⟩ = w.cell? ⟨g, q, none⟩ := fun q => hb.cell (p := ⟨g, q, none⟩) h3
  exact ⟨a, g, o, h1, h2, Nat.lt_of_lt_of_le h3 hb.size, (hx _).trans h4, (hx _).trans h5, (hx _).trans h6, (hx _).trans h7, h8⟩
section
open Go.ChangeShapes Go.WideShapes Go.Deep Go.Fr
theorem open_arg {H : Type} {enc : TypeId × Value → H} {W : World} {base : Nat} {spare : Nat → Bool} {held : Bool} {v : Value} {d : DataW H} {p : List MemPlace} {r : Reach} {b0 : Nat} (hv : Value.okWide Try.prog W r b0 22 v)
    (h : DataW.Trod enc Try.prog W base spare held 22 v d p) : ∃ l, Arg W v l := by
  obtain ⟨pa, len, cap, rfl⟩ := okWide_slice Try.underlying22 hv
  obtain ⟨fuel, hf⟩ := h
  rcases open_rows Try.underlying22 Try.underlying30 (by kernel_rfl) (by kernel_rfl) hf with hc | ⟨a, len', cap', hc, hl, hmax, hi⟩
  · simp [Value.cells] at hc
    obtain ⟨rfl, rfl, rfl⟩ := hc
    exact ⟨[], none, 0, rfl, by simp, by simp⟩
  · simp [Value.cells] at hc
    obtain ⟨rfl, rfl, rfl⟩ := hc
    have key : ∀ i, i < len → ∃ (c : Cll) (g o : Nat), a.add (i * 4) = ⟨g, o, none⟩ ∧ g < W.heap.size ∧ W.cell? ⟨g, o, none⟩ = some (.int .u8 (c.1 : Int)) ∧ W.cell? ⟨g, o + 1, none⟩ = some (.int .u8 (c.2.1 : Int)) ∧ W.cell? ⟨g, o + 2, none⟩ = some (.int .u8 (c.2.2.1 : Int)) ∧ W.cell? ⟨g, o + 3, none⟩ = some (.bool c.2.2.2) ∧ c.1 ≤ 255 ∧ c.2.1 ≤ 255 := by
      intro i hil
      obtain ⟨n, hj⟩ := hi i hil
      obtain ⟨v0, y0, c0, t0⟩ := hj 0 _ rfl
      obtain ⟨v1, y1, c1, t1⟩ := hj 1 _ rfl
      obtain ⟨v2, y2, c2, t2⟩ := hj 2 _ rfl
      obtain ⟨v3, y3, c3, t3⟩ := hj 3 _ rfl
      obtain ⟨x0, rfl, hx0⟩ := field_int (k := .u8) Try.underlying5 t0
      obtain ⟨x1, rfl, hx1⟩ := field_int (k := .u8) Try.underlying5 t1
      obtain ⟨x2, rfl, hx2⟩ := field_int (k := .u8) Try.underlying5 t2
      obtain ⟨x3, rfl⟩ := field_bool Try.underlying4 t3
      have b0 := wf_u8 hx0
      have b1 := wf_u8 hx1
      have b2 := wf_u8 hx2
      have e0 : a.add (i * 4) = ⟨(a.add (i * 4)).block, (a.add (i * 4)).off, none⟩ := (cell_at c0).1
      have l0 : (a.add (i * 4)).block < W.heap.size := (cell_at c0).2
      have c0' : W.cell? (a.add (i * 4)) = some (.int .u8 x0) := c0
      have c1' : W.cell? ((a.add (i * 4)).add 1) = some (.int .u8 x1) := by rw [Go.Deep.add_add]; exact c1
      have c2' : W.cell? ((a.add (i * 4)).add 2) = some (.int .u8 x2) := by rw [Go.Deep.add_add]; exact c2
      have c3' : W.cell? ((a.add (i * 4)).add 3) = some (.bool x3) := by rw [Go.Deep.add_add]; exact c3
      generalize a.add (i * 4) = b at *
      rw [e0] at c0' c1' c2' c3'
      have n0 : ((x0.toNat : Nat) : Int) = x0 := by omega
      have n1 : ((x1.toNat : Nat) : Int) = x1 := by omega
      have n2 : ((x2.toNat : Nat) : Int) = x2 := by omega
      exact ⟨(x0.toNat, x1.toNat, x2.toNat, x3), b.block, b.off, e0, l0, by rw [n0]; exact c0', by rw [n1]; exact c1', by rw [n2]; exact c2', c3', by show x0.toNat ≤ 255; omega, by show x1.toNat ≤ 255; omega⟩
    refine ⟨(List.range len).map fun i => if hlt : i < len then Classical.choose (key i hlt) else (0, 0, 0, false), some a, cap, by simp, by simp; unfold maxLen at hmax; omega, fun i c hc => ?_⟩
    simp only [List.getElem?_map, Option.map_eq_some_iff] at hc
    obtain ⟨j, hj, rfl⟩ := hc
    have hlt : i < len := by
      have := (List.getElem?_eq_some_iff.1 hj).1
      simpa using this
    rw [List.getElem?_range hlt] at hj
    injection hj with hj
    subst hj
    rw [dif_pos hlt]
    obtain ⟨g, o, h⟩ := Classical.choose_spec (key i hlt)
    exact ⟨a, g, o, rfl, h⟩
end
theorem take_snoc {l : List Cll} {i : Nat} {c : Cll} (h : l[i]? = some c) : (l.take (i + 1)).foldl doF newS = doF ((l.take i).foldl doF newS) c := by
  have hi := (List.getElem?_eq_some_iff.1 h).1
  rw [List.take_add_one, h]
  simp
theorem fold_ok {s : PS} (hs : s.Ok) (l : List Cll) : (l.foldl doF s).Ok := by
  induction l generalizing s with
  | nil => exact hs
  | cons c l ih => exact ih (doF_ok hs c)
set_option maxRecDepth 100000 in
set_option maxHeartbeats 4000000 in
theorem plays_any (v : Value) (l : List Cll) (w : World) (h : Arg w v l) : Calls Try.prog 3 #[v] w (Ret (.bool true) (Below w.heap.size w)) := by
  obtain ⟨p, cap, rfl, hmax, hc⟩ := h
  obtain ⟨n, hn'⟩ : ∃ n, l.length = n := ⟨_, rfl⟩
  rw [hn'] at hmax ⊢
  have HC := Lib.hid hc
  clear hc
  by_cases hf : (120 : Int) < (n : Int)
  case pos =>
    go_enter Try.func3, Try.ntmps3
    have F0 : Below w.heap.size w w := Below.refl _ _
    repeat (first | with_reducible apply wpList_nil | with_reducible apply seq_region | with_reducible apply wp_region_lit | with_reducible apply wp_seq | ((with_reducible apply seq_q); (focus rfl); (focus (simp [go_sem, effAt, ↓IntWalk.iteOmega, *]; (try go_ints); (first | (with_reducible exact effUpon_val) | (with_reducible exact effUpon_skip)))); (focus ((simp only [Act.put, List.setIfInBounds_toArray, List.set_cons_zero, List.set_cons_succ]; rfl)))) | ((with_reducible apply seq_s); (focus rfl); (focus ((simp only [Act.put, List.setIfInBounds_toArray, List.set_cons_zero, List.set_cons_succ]; rfl)))) | with_reducible apply wp_block | with_reducible apply wp_skip | with_reducible apply wp_exit | with_reducible apply wp_ret | ((with_reducible apply wp_cond_true); (focus (first | rfl | (simp [go_sem, *]; done)))) | ((with_reducible apply wp_cond_false); (focus (first | rfl | (simp [go_sem, *]; done)))) | (simp only [Exit.then, Exit.inBlock, ↓reduceIte, Nat.reduceEqDiff]))
    ((with_reducible apply seq_e (Below w.heap.size w)); (focus rfl); (focus (simp only [effAt]; simp [go_sem]; (with_reducible exact effUpon_enter (works_any _)))); (focus ((simp only [Act.put, List.setIfInBounds_toArray, List.set_cons_zero, List.set_cons_succ]; rfl))))
    intro w1 hs
    have Fw1 := F0.trans (hs.mono F0.size)
    clear hs F0
    repeat (first | with_reducible apply wpList_nil | with_reducible apply seq_region | with_reducible apply wp_region_lit | with_reducible apply wp_seq | ((with_reducible apply seq_q); (focus rfl); (focus (simp [go_sem, effAt, ↓IntWalk.iteOmega, *]; (try go_ints); (first | (with_reducible exact effUpon_val) | (with_reducible exact effUpon_skip)))); (focus ((simp only [Act.put, List.setIfInBounds_toArray, List.set_cons_zero, List.set_cons_succ]; rfl)))) | ((with_reducible apply seq_s); (focus rfl); (focus ((simp only [Act.put, List.setIfInBounds_toArray, List.set_cons_zero, List.set_cons_succ]; rfl)))) | with_reducible apply wp_block | with_reducible apply wp_skip | with_reducible apply wp_exit | with_reducible apply wp_ret | ((with_reducible apply wp_cond_true); (focus (first | rfl | (simp [go_sem, *]; done)))) | ((with_reducible apply wp_cond_false); (focus (first | rfl | (simp [go_sem, *]; done)))) | (simp only [Exit.then, Exit.inBlock, ↓reduceIte, Nat.reduceEqDiff]))
    go_ret
    exact ⟨rfl, by assumption⟩
  case neg =>
    skip
    go_enter Try.func3, Try.ntmps3
    have F0 : Below w.heap.size w w := Below.refl _ _
    repeat (first | with_reducible apply wpList_nil | with_reducible apply seq_region | with_reducible apply wp_region_lit | with_reducible apply wp_seq | ((with_reducible apply seq_q); (focus rfl); (focus (simp [go_sem, effAt, ↓IntWalk.iteOmega, *]; (try go_ints); (first | (with_reducible exact effUpon_val) | (with_reducible exact effUpon_skip)))); (focus ((simp only [Act.put, List.setIfInBounds_toArray, List.set_cons_zero, List.set_cons_succ]; rfl)))) | ((with_reducible apply seq_s); (focus rfl); (focus ((simp only [Act.put, List.setIfInBounds_toArray, List.set_cons_zero, List.set_cons_succ]; rfl)))) | with_reducible apply wp_block | with_reducible apply wp_skip | with_reducible apply wp_exit | with_reducible apply wp_ret | ((with_reducible apply wp_cond_true); (focus (first | rfl | (simp [go_sem, *]; done)))) | ((with_reducible apply wp_cond_false); (focus (first | rfl | (simp [go_sem, *]; done)))) | (simp only [Exit.then, Exit.inBlock, ↓reduceIte, Nat.reduceEqDiff]))
    with_reducible apply seq_e (fun w' => PB w' w.heap.size newS ∧ Below w.heap.size w w')
    (focus (first | exact wanted_none rfl | exact wanted_yes rfl rfl rfl))
    (focus (simp only [effAt]; simp [go_sem]; (with_reducible exact effUpon_enter (new_any _))))
    (simp only [Act.put, List.setIfInBounds_toArray, List.set_cons_zero, List.set_cons_succ]; rfl)
    rintro x1 ⟨hP1, hF1⟩
    repeat (first | with_reducible apply wpList_nil | with_reducible apply seq_region | with_reducible apply wp_region_lit | with_reducible apply wp_seq | ((with_reducible apply seq_q); (focus rfl); (focus (simp [go_sem, effAt, ↓IntWalk.iteOmega, *]; (try go_ints); (first | (with_reducible exact effUpon_val) | (with_reducible exact effUpon_skip)))); (focus ((simp only [Act.put, List.setIfInBounds_toArray, List.set_cons_zero, List.set_cons_succ]; rfl)))) | ((with_reducible apply seq_s); (focus rfl); (focus ((simp only [Act.put, List.setIfInBounds_toArray, List.set_cons_zero, List.set_cons_succ]; rfl)))) | with_reducible apply wp_block | with_reducible apply wp_skip | with_reducible apply wp_exit | with_reducible apply wp_ret | ((with_reducible apply wp_cond_true); (focus (first | rfl | (simp [go_sem, *]; done)))) | ((with_reducible apply wp_cond_false); (focus (first | rfl | (simp [go_sem, *]; done)))) | (simp only [Exit.then, Exit.inBlock, ↓reduceIte, Nat.reduceEqDiff]))
    with_reducible apply seq_e (fun w' => (∃ z : Sh, z.h = x1.heap.size + 1 ∧ z.Ok x1.heap.size ∧ RB w' z newS) ∧ Below x1.heap.size x1 w')
    (focus (first | exact wanted_none rfl | exact wanted_yes rfl rfl rfl))
    (focus (simp only [effAt]; simp [go_sem]; (with_reducible exact effUpon_enter (rnew_any _))))
    (simp only [Act.put, List.setIfInBounds_toArray, List.set_cons_zero, List.set_cons_succ]; rfl)
    rintro x2 ⟨⟨z, hzh, hz, hR⟩, hF2⟩
    repeat (first | with_reducible apply wpList_nil | with_reducible apply seq_region | with_reducible apply wp_region_lit | with_reducible apply wp_seq | ((with_reducible apply seq_q); (focus rfl); (focus (simp [go_sem, effAt, ↓IntWalk.iteOmega, *]; (try go_ints); (first | (with_reducible exact effUpon_val) | (with_reducible exact effUpon_skip)))); (focus ((simp only [Act.put, List.setIfInBounds_toArray, List.set_cons_zero, List.set_cons_succ]; rfl)))) | ((with_reducible apply seq_s); (focus rfl); (focus ((simp only [Act.put, List.setIfInBounds_toArray, List.set_cons_zero, List.set_cons_succ]; rfl)))) | with_reducible apply wp_block | with_reducible apply wp_skip | with_reducible apply wp_exit | with_reducible apply wp_ret | ((with_reducible apply wp_cond_true); (focus (first | rfl | (simp [go_sem, *]; done)))) | ((with_reducible apply wp_cond_false); (focus (first | rfl | (simp [go_sem, *]; done)))) | (simp only [Exit.then, Exit.inBlock, ↓reduceIte, Nat.reduceEqDiff]))
    obtain ⟨g, hp, hT, e1⟩ : ∃ g, PL w.heap.size g z ∧ Two w g z newS newS x2 ∧ g = w.heap.size := by
      have a1 := Blk.lt hP1
      have a3 := hF1.size
      have := hz.h0
      have := hz.a0
      have := hz.b0
      have := hz.c0
      exact ⟨_, ⟨⟨by omega, by omega, by omega, by omega, hz.ha, hz.hb, hz.hc, hz.ab, hz.ac, hz.bc⟩, Nat.le_refl _, by omega, by omega, by omega, by omega⟩, ⟨Blk.below hP1 hF2 (Blk.lt hP1), hR, hF1.trans (hF2.mono hF1.size)⟩, rfl⟩
    rw [← e1, ← hzh]
    have hpz := Lib.hid hp
    have E1 := Lib.hid e1
    clear e1 hzh hz hR hP1 hF1 hF2 F0 hp
    go_loopg [5] n (fun q v5 wr => ∃ (i : Nat) (s : PS), v5 = .int .i64 (i : Int) ∧ i + q = n ∧ s.Ok ∧ Two w g z s s wr)
    case atStart => exact ⟨0, newS, rfl, by omega, new_ok, hT⟩
    case round =>
      rename_i J K hJ hK
      clear hT
      obtain ⟨i, s, rfl, hi, hs, hT⟩ := hrel
      have HS := Lib.hid hs
      clear hs
      by_cases hlt : i < n
      case pos =>
        obtain ⟨c, hce⟩ : ∃ c, l[i]? = some c := ⟨_, List.getElem?_eq_getElem (by omega)⟩
        obtain ⟨a, ga, o, rfl, hao, hla, c0, c1, c2, c3, hk0, hk1⟩ := HC.out i c hce
        clear hce
        have hD := fun w1 (hT : Two w g z s s w1) => does_any HS.out hpz.out c hk0 w1 hT
        have hTe := fun w1 (hT : Two w g z (doF s c) (doF s c) w1) => two_read hT (tells_any (doF_ok HS.out c) c.2.1 w1 hT.p hT.r)
        have HOK := Lib.hid (doF_ok HS.out c)
        generalize doF s c = s2 at hD hTe HOK
        obtain ⟨kd, d, cl, on⟩ := c
        dsimp only at c0 c1 c2 c3 hD hTe
        clear hk0 hk1
        have hPRE : ∀ w', Below w.heap.size w w' → w'.cell? ⟨ga, o, none⟩ = some (.int .u8 (kd : Int)) ∧ w'.cell? ⟨ga, o + 1, none⟩ = some (.int .u8 (d : Int)) ∧ w'.cell? ⟨ga, o + 2, none⟩ = some (.int .u8 (cl : Int)) ∧ w'.cell? ⟨ga, o + 3, none⟩ = some (.bool on) :=
          fun w' hS => ⟨(hS.cell (p := ⟨ga, o, none⟩) hla).trans c0, (hS.cell (p := ⟨ga, o + 1, none⟩) hla).trans c1, (hS.cell (p := ⟨ga, o + 2, none⟩) hla).trans c2, (hS.cell (p := ⟨ga, o + 3, none⟩) hla).trans c3⟩
        have HP := Lib.hid hPRE
        clear hPRE c0 c1 c2 c3
        obtain ⟨c0, c1, c2, c3⟩ := HP.out _ hT.f
        have Fwr : Below wr.heap.size wr wr := Below.refl _ _
        repeat (first | with_reducible apply wpList_nil | with_reducible apply seq_region | with_reducible apply wp_region_lit | with_reducible apply wp_seq | ((with_reducible apply seq_q); (focus rfl); (focus (simp [go_sem, effAt, ↓IntWalk.iteOmega, *]; (try go_ints); (first | (with_reducible exact effUpon_val) | (with_reducible exact effUpon_skip)))); (focus ((simp only [Act.put, List.setIfInBounds_toArray, List.set_cons_zero, List.set_cons_succ]; rfl)))) | ((with_reducible apply seq_s); (focus rfl); (focus ((simp only [Act.put, List.setIfInBounds_toArray, List.set_cons_zero, List.set_cons_succ]; rfl)))) | with_reducible apply wp_block | with_reducible apply wp_skip | with_reducible apply wp_exit | with_reducible apply wp_ret | ((with_reducible apply wp_cond_true); (focus (first | rfl | (simp [go_sem, *]; done)))) | ((with_reducible apply wp_cond_false); (focus (first | rfl | (simp [go_sem, *]; done)))) | (simp only [Exit.then, Exit.inBlock, ↓reduceIte, Nat.reduceEqDiff]))
        with_reducible apply seq_e (Two w g z s2 s2)
        (focus (first | exact wanted_none rfl | exact wanted_yes rfl rfl rfl))
        (focus (simp only [effAt]; simp [go_sem]; (with_reducible exact effUpon_enter (hD _ hT))))
        (simp only [Act.put, List.setIfInBounds_toArray, List.set_cons_zero, List.set_cons_succ]; rfl)
        intro u1 hT1
        clear hT c0 c1 c2 c3 hD
        obtain ⟨c0, c1, c2, c3⟩ := HP.out _ hT1.f
        repeat (first | with_reducible apply wpList_nil | with_reducible apply seq_region | with_reducible apply wp_region_lit | with_reducible apply wp_seq | ((with_reducible apply seq_q); (focus rfl); (focus (simp [go_sem, effAt, ↓IntWalk.iteOmega, *]; (try go_ints); (first | (with_reducible exact effUpon_val) | (with_reducible exact effUpon_skip)))); (focus ((simp only [Act.put, List.setIfInBounds_toArray, List.set_cons_zero, List.set_cons_succ]; rfl)))) | ((with_reducible apply seq_s); (focus rfl); (focus ((simp only [Act.put, List.setIfInBounds_toArray, List.set_cons_zero, List.set_cons_succ]; rfl)))) | with_reducible apply wp_block | with_reducible apply wp_skip | with_reducible apply wp_exit | with_reducible apply wp_ret | ((with_reducible apply wp_cond_true); (focus (first | rfl | (simp [go_sem, *]; done)))) | ((with_reducible apply wp_cond_false); (focus (first | rfl | (simp [go_sem, *]; done)))) | (simp only [Exit.then, Exit.inBlock, ↓reduceIte, Nat.reduceEqDiff]))
        with_reducible apply seq_e (Two w g z s2 s2)
        (focus (first | exact wanted_none rfl | exact wanted_yes rfl rfl rfl))
        (focus (simp only [effAt]; simp [go_sem]; (with_reducible exact effUpon_enter (hTe _ hT1))))
        (simp only [Act.put, List.setIfInBounds_toArray, List.set_cons_zero, List.set_cons_succ]; rfl)
        intro u2 hT2
        clear hT1 c0 c1 c2 c3 hTe
        repeat (first | with_reducible apply wpList_nil | with_reducible apply seq_region | with_reducible apply wp_region_lit | with_reducible apply wp_seq | ((with_reducible apply seq_q); (focus rfl); (focus (simp [go_sem, effAt, ↓IntWalk.iteOmega, *]; (try go_ints); (first | (with_reducible exact effUpon_val) | (with_reducible exact effUpon_skip)))); (focus ((simp only [Act.put, List.setIfInBounds_toArray, List.set_cons_zero, List.set_cons_succ]; rfl)))) | ((with_reducible apply seq_s); (focus rfl); (focus ((simp only [Act.put, List.setIfInBounds_toArray, List.set_cons_zero, List.set_cons_succ]; rfl)))) | with_reducible apply wp_block | with_reducible apply wp_skip | with_reducible apply wp_exit | with_reducible apply wp_ret | ((with_reducible apply wp_cond_true); (focus (first | rfl | (simp [go_sem, *]; done)))) | ((with_reducible apply wp_cond_false); (focus (first | rfl | (simp [go_sem, *]; done)))) | (simp only [Exit.then, Exit.inBlock, ↓reduceIte, Nat.reduceEqDiff]))
        refine hK _ _ (Handed.intro (gk - 1) ?measure (hJ _ _ _ ?_))
        rotate_left
        (repeat apply Exists.intro)
        refine ⟨?rel, rfl⟩
        case rel => exact ⟨i + 1, s2, by go_num, by omega, HOK.out, hT2⟩
        case measure => omega
      case neg =>
        clear hJ hK hi
        have Fwr : Below wr.heap.size wr wr := Below.refl _ _
        repeat (first | with_reducible apply wpList_nil | with_reducible apply seq_region | with_reducible apply wp_region_lit | with_reducible apply wp_seq | ((with_reducible apply seq_q); (focus rfl); (focus (simp [go_sem, effAt, ↓IntWalk.iteOmega, *]; (try go_ints); (first | (with_reducible exact effUpon_val) | (with_reducible exact effUpon_skip)))); (focus ((simp only [Act.put, List.setIfInBounds_toArray, List.set_cons_zero, List.set_cons_succ]; rfl)))) | ((with_reducible apply seq_s); (focus rfl); (focus ((simp only [Act.put, List.setIfInBounds_toArray, List.set_cons_zero, List.set_cons_succ]; rfl)))) | with_reducible apply wp_block | with_reducible apply wp_skip | with_reducible apply wp_exit | with_reducible apply wp_ret | ((with_reducible apply wp_cond_true); (focus (first | rfl | (simp [go_sem, *]; done)))) | ((with_reducible apply wp_cond_false); (focus (first | rfl | (simp [go_sem, *]; done)))) | (simp only [Exit.then, Exit.inBlock, ↓reduceIte, Nat.reduceEqDiff]))
        go_loopg [6] 66 (fun q v6 wr => ∃ (i : Nat), v6 = .int .i64 (i : Int) ∧ i + q = 66 ∧ Two w g z s s wr)
        case atStart => exact ⟨0, rfl, by omega, hT⟩
        case round =>
          rename_i J K hJ hK
          clear hT
          obtain ⟨i, rfl, hi, hT⟩ := hrel
          by_cases hlt : i < 66
          case pos =>
            have hlt' : (i : Int) < 66 := by omega
            have hTe := two_read hT (tells_any HS.out i wr hT.p hT.r)
            have Fwr : Below wr.heap.size wr wr := Below.refl _ _
            repeat (first | with_reducible apply wpList_nil | with_reducible apply seq_region | with_reducible apply wp_region_lit | with_reducible apply wp_seq | ((with_reducible apply seq_q); (focus rfl); (focus (simp [go_sem, effAt, ↓IntWalk.iteOmega, *]; (try go_ints); (first | (with_reducible exact effUpon_val) | (with_reducible exact effUpon_skip)))); (focus ((simp only [Act.put, List.setIfInBounds_toArray, List.set_cons_zero, List.set_cons_succ]; rfl)))) | ((with_reducible apply seq_s); (focus rfl); (focus ((simp only [Act.put, List.setIfInBounds_toArray, List.set_cons_zero, List.set_cons_succ]; rfl)))) | with_reducible apply wp_block | with_reducible apply wp_skip | with_reducible apply wp_exit | with_reducible apply wp_ret | ((with_reducible apply wp_cond_true); (focus (first | rfl | (simp [go_sem, *]; done)))) | ((with_reducible apply wp_cond_false); (focus (first | rfl | (simp [go_sem, *]; done)))) | (simp only [Exit.then, Exit.inBlock, ↓reduceIte, Nat.reduceEqDiff]))
            with_reducible apply seq_e (Two w g z s s)
            (focus (first | exact wanted_none rfl | exact wanted_yes rfl rfl rfl))
            (focus (simp only [effAt]; simp [go_sem]; (with_reducible exact effUpon_enter hTe)))
            (simp only [Act.put, List.setIfInBounds_toArray, List.set_cons_zero, List.set_cons_succ]; rfl)
            intro u2 hT2
            clear hT hTe
            repeat (first | with_reducible apply wpList_nil | with_reducible apply seq_region | with_reducible apply wp_region_lit | with_reducible apply wp_seq | ((with_reducible apply seq_q); (focus rfl); (focus (simp [go_sem, effAt, ↓IntWalk.iteOmega, *]; (try go_ints); (first | (with_reducible exact effUpon_val) | (with_reducible exact effUpon_skip)))); (focus ((simp only [Act.put, List.setIfInBounds_toArray, List.set_cons_zero, List.set_cons_succ]; rfl)))) | ((with_reducible apply seq_s); (focus rfl); (focus ((simp only [Act.put, List.setIfInBounds_toArray, List.set_cons_zero, List.set_cons_succ]; rfl)))) | with_reducible apply wp_block | with_reducible apply wp_skip | with_reducible apply wp_exit | with_reducible apply wp_ret | ((with_reducible apply wp_cond_true); (focus (first | rfl | (simp [go_sem, *]; done)))) | ((with_reducible apply wp_cond_false); (focus (first | rfl | (simp [go_sem, *]; done)))) | (simp only [Exit.then, Exit.inBlock, ↓reduceIte, Nat.reduceEqDiff]))
            refine hK _ _ (Handed.intro (gk - 1) ?measure (hJ _ _ _ ?_))
            rotate_left
            (repeat apply Exists.intro)
            refine ⟨?rel, rfl⟩
            case rel => exact ⟨i + 1, by go_num, by omega, hT2⟩
            case measure => omega
          case neg =>
            have hlt' : ¬ (i : Int) < 66 := by omega
            clear hJ hK hi
            have Fwr : Below wr.heap.size wr wr := Below.refl _ _
            repeat (first | with_reducible apply wpList_nil | with_reducible apply seq_region | with_reducible apply wp_region_lit | with_reducible apply wp_seq | ((with_reducible apply seq_q); (focus rfl); (focus (simp [go_sem, effAt, ↓IntWalk.iteOmega, *]; (try go_ints); (first | (with_reducible exact effUpon_val) | (with_reducible exact effUpon_skip)))); (focus ((simp only [Act.put, List.setIfInBounds_toArray, List.set_cons_zero, List.set_cons_succ]; rfl)))) | ((with_reducible apply seq_s); (focus rfl); (focus ((simp only [Act.put, List.setIfInBounds_toArray, List.set_cons_zero, List.set_cons_succ]; rfl)))) | with_reducible apply wp_block | with_reducible apply wp_skip | with_reducible apply wp_exit | with_reducible apply wp_ret | ((with_reducible apply wp_cond_true); (focus (first | rfl | (simp [go_sem, *]; done)))) | ((with_reducible apply wp_cond_false); (focus (first | rfl | (simp [go_sem, *]; done)))) | (simp only [Exit.then, Exit.inBlock, ↓reduceIte, Nat.reduceEqDiff]))
            ((with_reducible apply seq_e (Below wr.heap.size wr)); (focus rfl); (focus (simp only [effAt]; simp [go_sem]; (with_reducible exact effUpon_enter (works_any _)))); (focus ((simp only [Act.put, List.setIfInBounds_toArray, List.set_cons_zero, List.set_cons_succ]; rfl))))
            intro w1 hs
            have Fw1 := Fwr.trans (hs.mono Fwr.size)
            clear hs Fwr
            repeat (first | with_reducible apply wpList_nil | with_reducible apply seq_region | with_reducible apply wp_region_lit | with_reducible apply wp_seq | ((with_reducible apply seq_q); (focus rfl); (focus (simp [go_sem, effAt, ↓IntWalk.iteOmega, *]; (try go_ints); (first | (with_reducible exact effUpon_val) | (with_reducible exact effUpon_skip)))); (focus ((simp only [Act.put, List.setIfInBounds_toArray, List.set_cons_zero, List.set_cons_succ]; rfl)))) | ((with_reducible apply seq_s); (focus rfl); (focus ((simp only [Act.put, List.setIfInBounds_toArray, List.set_cons_zero, List.set_cons_succ]; rfl)))) | with_reducible apply wp_block | with_reducible apply wp_skip | with_reducible apply wp_exit | with_reducible apply wp_ret | ((with_reducible apply wp_cond_true); (focus (first | rfl | (simp [go_sem, *]; done)))) | ((with_reducible apply wp_cond_false); (focus (first | rfl | (simp [go_sem, *]; done)))) | (simp only [Exit.then, Exit.inBlock, ↓reduceIte, Nat.reduceEqDiff]))
            go_ret
            rw [E1.out]
            exact ⟨rfl, hT.f.trans (Below.mono (by assumption) hT.f.size)⟩
end Go.Proofs.Ytminenipklgbcaa
