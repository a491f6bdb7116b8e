/- The walk of WheelKnown. -/
import Derived.Test.YtckjgdlceckhpaaW15
import Derived.Test.YtckjgdlceckhpaaW16
import Derived.Test.YtckjgdlceckhpaaW17
set_option linter.unusedSimpArgs false
set_option linter.unusedVariables false
namespace Go.Proofs.Ytckjgdlceckhpaa
open Go.RowKit Go.Eff
attribute [local irreducible] Go.wpList
theorem info30m : (Try.prog.info? 30).map (fun i => (i.zero, i.size, i.bytes)) = some (some (.agg #[.int .u8 0, .int .u8 0, .int .i64 0]), 3, 16) := by kernel_rfl
theorem info30 : ∃ i0, Try.prog.info? 30 = some i0 ∧ i0.zero = some (.agg #[.int .u8 0, .int .u8 0, .int .i64 0]) ∧ i0.size = 3 ∧ i0.bytes = 16 := by
  have h := info30m
  cases hi : Try.prog.info? 30 with
  | none => rw [hi] at h; cases h
  | some i0 =>
    rw [hi] at h
    simp only [Option.map_some, Option.some.injEq, Prod.mk.injEq] at h
    exact ⟨i0, rfl, h.1, h.2.1, h.2.2⟩
theorem build30 (d k x : Int) (w : World) : (Instr.build 30 #[(0, .int .u8 d), (1, .int .u8 k), (2, .int .i64 x)]).run Try.prog w = .ok (.agg #[.int .u8 d, .int .u8 k, .int .i64 x]) w := by kernel_rfl
def cellsC (c : Cll) : List Value := [.int .u8 (c.1 : Int), .int .u8 (c.2.1 : Int), .int .i64 c.2.2]
def fitC (c : Cll) : Prop := c.1 < 256 ∧ c.2.1 < 256 ∧ fitN c.2.2
/-- a row of calls in a block made since base, or nil -/
def LArg (base : Nat) (w : World) (v : Value) (L : List Cll) : Prop := w.ownsRow base 30 3 v L.length (L.flatMap cellsC)
theorem LArg.kept {base : Nat} {w w' : World} {v : Value} {L : List Cll} {T : Nat → Prop} (h : LArg base w v L) (hT : Turn T w w') (hn : ∀ j, base ≤ j → j < w.heap.size → ¬ T j) : LArg base w' v L := by
  refine ⟨h.1, ?_⟩
  rcases h.2 with hx | ⟨g, cap, cur, rfl, hb, hgg, rest⟩
  · exact .inl hx
  · have hlt := (Array.getElem?_eq_some_iff.1 hgg).1
    exact .inr ⟨g, cap, cur, rfl, hb, by rw [hT.block g hlt (hn g hb hlt)]; exact hgg, rest⟩
theorem larg_append {u : World} {base s : Nat} {v : Value} {L : List Cll} {c1 c2 : Cll} (h : LArg base u v L) (hs : Blk u s 30 (cellsC c1 ++ cellsC c2).toArray) (hq : L.length ≤ 1000) (hb : base ≤ u.heap.size) :
    ∃ v' u', (Builtin.append_ #[22, 22] 22 #[v, .slice (some ⟨s, 0, none⟩) 2 2]).run Try.prog u = .ok v' u' ∧ LArg base u' v' (L ++ [c1, c2]) ∧ u.grownBy u' v.ownBlock ∧ ∃ ao l c, v' = .slice ao l c := by
  obtain ⟨i0, hi, hz, h1, hb0⟩ := info30
  have hnews : ∀ j x, (cellsC c1 ++ cellsC c2)[j]? = some x → u.cell? ((⟨s, 0, none⟩ : Addr).add j) = some x := fun j x hj => by
    rw [Addr.add_lit, Nat.zero_add, hs.cell, List.getElem?_toArray]
    exact hj
  obtain ⟨v', u', hr, ho, hg, _, hat⟩ := run_append_own_at (P := Try.prog) u base 22 22 30 i0 _ 3 16 Try.underlying22 hi hz h1 hb0 rfl (by omega) v L.length _ h ⟨s, 0, none⟩ 2 2 (cellsC c1 ++ cellsC c2) rfl hnews (by simp [cellsC, Value.oneCell']) (by simp only [maxLen]; omega) (by omega) hb
  refine ⟨v', u', hr, ?_, hg, ?_⟩
  · unfold LArg
    rw [List.length_append, List.flatMap_append]
    have e : [c1, c2].flatMap cellsC = cellsC c1 ++ cellsC c2 := by simp [List.flatMap_cons]
    rw [e]
    exact ho
  · rcases ho.2 with ⟨rfl, _⟩ | ⟨g', cap', cur, rfl, _⟩
    · exact ⟨_, _, _, rfl⟩
    · exact ⟨_, _, _, rfl⟩
theorem flat_get {c : Cll} {j : Nat} (hj : j < 3) : ∀ (L : List Cll) (i : Nat), L[i]? = some c → (L.flatMap cellsC)[i * 3 + j]? = (cellsC c)[j]?
  | [], i, h => by simp at h
  | a :: L, 0, h => by
    simp only [List.getElem?_cons_zero, Option.some.injEq] at h
    subst h
    rw [List.flatMap_cons, List.getElem?_append_left (by simp [cellsC]; omega)]
    congr 1
    omega
  | a :: L, i + 1, h => by
    rw [List.flatMap_cons, List.getElem?_append_right (by simp [cellsC]; omega)]
    have := flat_get hj L i (by simpa using h)
    rw [← this]
    congr 1
    simp [cellsC]
    omega
theorem add0 (g j : Nat) : (⟨g, 0, none⟩ : Addr).add j = ⟨g, j, none⟩ := by unfold Addr.add; split <;> simp_all
theorem LArg.arg {base : Nat} {w : World} {v : Value} {L : List Cll} (h : LArg base w v L) (hf : ∀ c ∈ L, fitC c) : Arg w v L := by
  rcases h.2 with ⟨rfl, hn⟩ | ⟨g, cap, cur, rfl, hb, hgg, hnc, hcm, hcs, htake⟩
  · have := List.eq_nil_of_length_eq_zero hn
    subst this
    exact ⟨none, 0, rfl, by simp, by simp, by simp⟩
  · refine ⟨_, cap, rfl, hnc, by unfold maxLen at hcm; omega, fun i c hi => ?_⟩
    have hlt := (Array.getElem?_eq_some_iff.1 hgg).1
    have hil : i < L.length := (List.getElem?_eq_some_iff.1 hi).1
    have hcell : ∀ j, j < 3 → w.cell? ⟨g, i * 3 + j, none⟩ = (cellsC c)[j]? := fun j hj => by
      rw [cell_of_row w g _ cur 30 (0, 0) hgg, ← flat_get hj L i hi, ← htake, List.getElem?_take, if_pos (by omega), Array.getElem?_toList]
    obtain ⟨f1, f2, f3⟩ := hf c (List.mem_of_getElem? hi)
    exact ⟨_, g, i * 3, rfl, add0 g (i * 3), hlt, hcell 0 (by omega), hcell 1 (by omega), hcell 2 (by omega), f1, f2, f3⟩
theorem Arg.take {w : World} {p : Option Addr} {len cap m : Nat} {L : List Cll} (h : Arg w (.slice p len cap) L) (hm : m ≤ L.length) : Arg w (.slice p m cap) (L.take m) := by
  obtain ⟨p', cap', hv, hl, hmx, hc⟩ := h
  injection hv with e1 e2 e3
  subst e1 e3
  have hlm : (L.take m).length = m := by simp; omega
  refine ⟨p, cap, by rw [hlm], by rw [hlm]; omega, hmx, fun i c hi => hc i c ?_⟩
  rw [List.getElem?_take] at hi
  split at hi
  · exact hi
  · cases hi
def nums : List Int := [-9223372036854775808, -1, 0, 1, 2, 3, 7, 8, 64, 255, 256, 257, 9223372036854775807]
theorem nums_fit : ∀ x ∈ nums, fitN x := by
  intro x hx
  simp only [nums, List.mem_cons, List.not_mem_nil, or_false] at hx
  unfold fitN
  omega
def lk3 (i k : Nat) : Nat := if 256 ≤ k + i ∧ k < 256 then 5 else 0
def lk4 (j k : Nat) : Nat := if k < 256 then 5 - j else 0
theorem lk3_zero : lk3 0 = fun _ => 0 := by
  funext k
  unfold lk3
  rw [if_neg (by omega)]
theorem lk3_next {i : Nat} (hi : i < 256) : upd (lk3 i) (255 - i) 5 = lk3 (i + 1) := by
  funext k
  by_cases hk : k = 255 - i
  · subst hk
    rw [upd_same]
    unfold lk3
    rw [if_pos (by omega)]
  · rw [upd_ne _ _ hk]
    unfold lk3
    by_cases h : 256 ≤ k + i ∧ k < 256
    · rw [if_pos h, if_pos (by omega)]
    · rw [if_neg h, if_neg (by omega)]
theorem lk3_all : lk3 256 = lk4 0 := by
  funext k
  unfold lk3 lk4
  by_cases h : k < 256
  · rw [if_pos (by omega), if_pos h]
  · rw [if_neg (by omega), if_neg h]
theorem lk4_next (j : Nat) : dec (lk4 j) = lk4 (j + 1) := by
  funext k
  unfold dec lk4
  by_cases h : k < 256
  · rw [if_pos h, if_pos h]; omega
  · rw [if_neg h, if_neg h]
theorem lk4_none {j : Nat} (hj : j < 4) : dueL (lk4 j) = [] := by
  unfold dueL
  rw [List.filter_eq_nil_iff]
  intro k hk
  have : k < 256 := by simpa using hk
  simp only [decide_eq_true_eq]
  unfold lk4
  rw [if_pos this]
  omega
theorem lk4_all : dueL (lk4 4) = List.range 256 := by
  unfold dueL
  rw [List.filter_eq_self]
  intro k hk
  have : k < 256 := by simpa using hk
  simp only [decide_eq_true_eq]
  unfold lk4
  rw [if_pos this]
theorem lk4_five : lk4 5 = fun _ => 0 := by
  funext k
  unfold lk4
  by_cases h : k < 256
  · rw [if_pos h]
  · rw [if_neg h]
theorem cnt_zero : cnt (fun _ => 0) = 0 := by kernel_rfl
set_option maxRecDepth 100000 in
set_option maxHeartbeats 16000000 in
theorem known_any (w : World) : Calls Try.prog 6 #[] w (Ret (.bool true) (Below w.heap.size w)) := by
  obtain ⟨base, hbase⟩ : ∃ b, w.heap.size = b := ⟨_, rfl⟩
  go_enter Try.func6, Try.ntmps6
  have F0 : Below w.heap.size w w := Below.refl _ _
  repeat (first | with_reducible apply wpList_nil | with_reducible apply seq_region | with_reducible apply wp_region_lit | with_reducible apply wp_seq | ((with_reducible apply seq_q); (focus rfl); (focus (simp [go_sem, effAt, ↓IntWalk.iteOmega, *]; (try go_ints); (first | (with_reducible exact effUpon_val) | (with_reducible exact effUpon_skip)))); (focus ((simp only [Act.put, List.setIfInBounds_toArray, List.set_cons_zero, List.set_cons_succ]; rfl)))) | ((with_reducible apply seq_s); (focus rfl); (focus ((simp only [Act.put, List.setIfInBounds_toArray, List.set_cons_zero, List.set_cons_succ]; rfl)))) | with_reducible apply wp_block | with_reducible apply wp_skip | with_reducible apply wp_exit | with_reducible apply wp_ret | ((with_reducible apply wp_cond_true); (focus (first | rfl | (simp [go_sem, *]; done)))) | ((with_reducible apply wp_cond_false); (focus (first | rfl | (simp [go_sem, *]; done)))) | (simp only [Exit.then, Exit.inBlock, ↓reduceIte, Nat.reduceEqDiff]))
  go_loopg [1, 2] 60 (fun q v1 v2 wr => ∃ (i : Nat) (L : List Cll), v2 = .int .i64 (i : Int) ∧ i + q = 60 ∧ (∃ ao3 l3 c3, v1 = .slice ao3 l3 c3) ∧ L.length = i + i ∧ (∀ c ∈ L, fitC c) ∧ LArg base wr v1 L ∧ Below base w wr)
  case atStart => exact ⟨0, [], rfl, rfl, ⟨_, _, _, rfl⟩, rfl, by simp, World.ownsRow_nil _ _ _ _, by rw [← hbase]; exact Below.refl _ _⟩
  case round =>
    rename_i J K hJ hK
    clear F0
    obtain ⟨i, L, rfl, hi, ⟨ao3, l3, c3, rfl⟩, hLl, hLf, hL, hb⟩ := hrel
    by_cases hlt : i < 60
    case pos =>
      have hlt' : (i : Int) < 60 := by omega
      obtain ⟨k5, hk5⟩ : ∃ k, i * 7 % 5 = k := ⟨_, rfl⟩
      obtain ⟨r5, hr5⟩ : ∃ k, i % 5 = k := ⟨_, rfl⟩
      obtain ⟨sq, hsq⟩ : ∃ s, i * i = s := ⟨_, rfl⟩
      have hsq2 : sq ≤ 3600 := by rw [← hsq]; exact Nat.mul_le_mul (show i ≤ 60 by omega) (show i ≤ 60 by omega)
      obtain ⟨x23, hx23⟩ : ∃ x, (sq * 3 + 1) % 23 = x := ⟨_, rfl⟩
      have m1 : Int.tmod ((i : Int) * 7) 5 = (k5 : Int) := by rw [← hk5]; rfl
      have m2 : Int.tmod (i : Int) 5 = (r5 : Int) := by rw [← hr5]; rfl
      have m3 : (i : Int) * (i : Int) = (sq : Int) := by rw [← hsq]; rfl
      have m4 : Int.tmod ((sq : Int) * 3 + 1) 23 = (x23 : Int) := by rw [← hx23]; rfl
      have n1 : k5 < 5 := by omega
      have n2 : r5 < 5 := by omega
      have n3 : x23 < 23 := by omega
      have n4 : (sq : Int) ≤ 3600 := by omega
      have n5 : (k5 : Int) < 5 := by omega
      have n6 : (r5 : Int) < 5 := by omega
      have w1h : IntKind.u8.wrap (i : Int) = (i : Int) := by rw [IntKind.wrap_u8]; omega
      have w2h : IntKind.u8.wrap (k5 : Int) = (k5 : Int) := by rw [IntKind.wrap_u8]; omega
      have w3h : IntKind.u8.wrap (r5 : Int) = (r5 : Int) := by rw [IntKind.wrap_u8]; omega
      have bl := build30
      have hne : ∀ x, (Value.slice ao3 l3 c3).ownBlock = some x → base ≤ x := fun x hx => (World.ownsRow.lt hL x hx).1
      have zb := hb.size
      clear hk5 hr5 hsq hx23
      skip
      have Fwr : Below wr.heap.size wr wr := Below.refl _ _
      repeat (first | with_reducible apply wpList_nil | with_reducible apply seq_region | with_reducible apply wp_region_lit | with_reducible apply wp_seq | ((with_reducible apply seq_q); (focus rfl); (focus (simp [go_sem, effAt, ↓IntWalk.iteOmega, *]; (try go_ints); (first | (with_reducible exact effUpon_val) | (with_reducible exact effUpon_skip)))); (focus ((simp only [Act.put, List.setIfInBounds_toArray, List.set_cons_zero, List.set_cons_succ]; rfl)))) | ((with_reducible apply seq_s); (focus rfl); (focus ((simp only [Act.put, List.setIfInBounds_toArray, List.set_cons_zero, List.set_cons_succ]; rfl)))) | with_reducible apply wp_block | with_reducible apply wp_skip | with_reducible apply wp_exit | with_reducible apply wp_ret | ((with_reducible apply wp_cond_true); (focus (first | rfl | (simp [go_sem, *]; done)))) | ((with_reducible apply wp_cond_false); (focus (first | rfl | (simp [go_sem, *]; done)))) | (simp only [Exit.then, Exit.inBlock, ↓reduceIte, Nat.reduceEqDiff]))
      ((with_reducible apply seq_box); (focus rfl); (focus (simp [go_sem, effAt]; exact ⟨rfl, rfl⟩)); (focus ((simp only [Act.put, List.setIfInBounds_toArray, List.set_cons_zero, List.set_cons_succ]; rfl))))
      intro w1 hB_y hs
      have Fw1 := Fwr.trans (hs.mono Fwr.size)
      clear hs Fwr
      have hc_y := hB_y.cell
      repeat (first | with_reducible apply wpList_nil | with_reducible apply seq_region | with_reducible apply wp_region_lit | with_reducible apply wp_seq | ((with_reducible apply seq_q); (focus rfl); (focus (simp [go_sem, effAt, ↓IntWalk.iteOmega, *]; (try go_ints); (first | (with_reducible exact effUpon_val) | (with_reducible exact effUpon_skip)))); (focus ((simp only [Act.put, List.setIfInBounds_toArray, List.set_cons_zero, List.set_cons_succ]; rfl)))) | ((with_reducible apply seq_s); (focus rfl); (focus ((simp only [Act.put, List.setIfInBounds_toArray, List.set_cons_zero, List.set_cons_succ]; rfl)))) | with_reducible apply wp_block | with_reducible apply wp_skip | with_reducible apply wp_exit | with_reducible apply wp_ret | ((with_reducible apply wp_cond_true); (focus (first | rfl | (simp [go_sem, *]; done)))) | ((with_reducible apply wp_cond_false); (focus (first | rfl | (simp [go_sem, *]; done)))) | (simp only [Exit.then, Exit.inBlock, ↓reduceIte, Nat.reduceEqDiff]))
      have hB_y' : Blk w1 wr.heap.size 30 (cellsC (i, k5, (x23 : Int)) ++ cellsC (2, r5, 0)).toArray := hB_y
      obtain ⟨v', u2, hap, hL2, hgu, ⟨ao', l', c', rfl⟩⟩ := larg_append (c1 := (i, k5, (x23 : Int))) (c2 := (2, r5, 0)) (hL.kept (T := fun _ => False) (Turn.of_below Fw1) (fun _ _ _ h => h)) hB_y' (by omega) (by have := Fw1.size; omega)
      have hb2 : Below base w u2 := (hb.trans (Fw1.mono (by omega))).trans ⟨hgu.os, hgu.tape, hgu.output, hgu.size, fun j hj => hgu.block j (by have := Fw1.size; omega) (fun e => by have := hne j e.symm; omega)⟩
      with_reducible apply seq_e (fun w' => w' = u2)
      (focus (first | exact wanted_none rfl | exact wanted_yes rfl rfl rfl))
      focus exact eff_append rfl rfl rfl hap
      (simp only [Act.put, List.setIfInBounds_toArray, List.set_cons_zero, List.set_cons_succ]; rfl)
      intro x hx
      obtain rfl : u2 = x := hx.symm
      clear hap hB_y hB_y' hc_y hL hb hgu hne
      have Fu2 : Below u2.heap.size u2 u2 := Below.refl _ _
      repeat (first | with_reducible apply wpList_nil | with_reducible apply seq_region | with_reducible apply wp_region_lit | with_reducible apply wp_seq | ((with_reducible apply seq_q); (focus rfl); (focus (simp [go_sem, effAt, ↓IntWalk.iteOmega, *]; (try go_ints); (first | (with_reducible exact effUpon_val) | (with_reducible exact effUpon_skip)))); (focus ((simp only [Act.put, List.setIfInBounds_toArray, List.set_cons_zero, List.set_cons_succ]; rfl)))) | ((with_reducible apply seq_s); (focus rfl); (focus ((simp only [Act.put, List.setIfInBounds_toArray, List.set_cons_zero, List.set_cons_succ]; rfl)))) | with_reducible apply wp_block | with_reducible apply wp_skip | with_reducible apply wp_exit | with_reducible apply wp_ret | ((with_reducible apply wp_cond_true); (focus (first | rfl | (simp [go_sem, *]; done)))) | ((with_reducible apply wp_cond_false); (focus (first | rfl | (simp [go_sem, *]; done)))) | (simp only [Exit.then, Exit.inBlock, ↓reduceIte, Nat.reduceEqDiff]))
      refine hK _ _ (Handed.intro (gk - 1) ?measure (hJ _ _ _ ?_))
      rotate_left
      (repeat apply Exists.intro)
      refine ⟨?rel, rfl⟩
      case rel =>
        refine ⟨i + 1, L ++ [(i, k5, (x23 : Int)), (2, r5, 0)], by go_num, by omega, ⟨_, _, _, rfl⟩, by rw [List.length_append, hLl]; simp; omega, fun c hc => ?_, hL2, hb2⟩
        rw [List.mem_append] at hc
        rcases hc with hc | hc
        · exact hLf c hc
        · simp only [List.mem_cons, List.not_mem_nil, or_false] at hc
          unfold fitC fitN
          rcases hc with rfl | rfl <;> (dsimp only; omega)
      case measure => omega
    case neg =>
      obtain rfl : i = 60 := by omega
      have hA := hL.arg hLf
      have hlen : l3 = 120 ∧ 120 ≤ c3 := by
        obtain ⟨_, _, hv, hle, _⟩ := hA
        injection hv with _ e2 e3
        omega
      obtain ⟨hlen, hc3⟩ := hlen
      have hc90 : 90 ≤ (c3 : Int) := by omega
      subst hlen
      have HLL := Lib.hid hLl
      clear hJ hK hlt hi hLl hLf hL
      skip
      have Fwr : Below wr.heap.size wr wr := Below.refl _ _
      repeat (first | with_reducible apply wpList_nil | with_reducible apply seq_region | with_reducible apply wp_region_lit | with_reducible apply wp_seq | ((with_reducible apply seq_q); (focus rfl); (focus (simp [go_sem, effAt, ↓IntWalk.iteOmega, *]; (try go_ints); (first | (with_reducible exact effUpon_val) | (with_reducible exact effUpon_skip)))); (focus ((simp only [Act.put, List.setIfInBounds_toArray, List.set_cons_zero, List.set_cons_succ]; rfl)))) | ((with_reducible apply seq_s); (focus rfl); (focus ((simp only [Act.put, List.setIfInBounds_toArray, List.set_cons_zero, List.set_cons_succ]; rfl)))) | with_reducible apply wp_block | with_reducible apply wp_skip | with_reducible apply wp_exit | with_reducible apply wp_ret | ((with_reducible apply wp_cond_true); (focus (first | rfl | (simp [go_sem, *]; done)))) | ((with_reducible apply wp_cond_false); (focus (first | rfl | (simp [go_sem, *]; done)))) | (simp only [Exit.then, Exit.inBlock, ↓reduceIte, Nat.reduceEqDiff]))
      ((with_reducible apply seq_box); (focus rfl); (focus (simp [go_sem, effAt]; exact ⟨rfl, rfl⟩)); (focus ((simp only [Act.put, List.setIfInBounds_toArray, List.set_cons_zero, List.set_cons_succ]; rfl))))
      intro w1 hB_z hs
      have Fw1 := Fwr.trans (hs.mono Fwr.size)
      clear hs Fwr
      have hc_z := hB_z.cell
      repeat (first | with_reducible apply wpList_nil | with_reducible apply seq_region | with_reducible apply wp_region_lit | with_reducible apply wp_seq | ((with_reducible apply seq_q); (focus rfl); (focus (simp [go_sem, effAt, ↓IntWalk.iteOmega, *]; (try go_ints); (first | (with_reducible exact effUpon_val) | (with_reducible exact effUpon_skip)))); (focus ((simp only [Act.put, List.setIfInBounds_toArray, List.set_cons_zero, List.set_cons_succ]; rfl)))) | ((with_reducible apply seq_s); (focus rfl); (focus ((simp only [Act.put, List.setIfInBounds_toArray, List.set_cons_zero, List.set_cons_succ]; rfl)))) | with_reducible apply wp_block | with_reducible apply wp_skip | with_reducible apply wp_exit | with_reducible apply wp_ret | ((with_reducible apply wp_cond_true); (focus (first | rfl | (simp [go_sem, *]; done)))) | ((with_reducible apply wp_cond_false); (focus (first | rfl | (simp [go_sem, *]; done)))) | (simp only [Exit.then, Exit.inBlock, ↓reduceIte, Nat.reduceEqDiff]))
      obtain ⟨zb, hzb⟩ : ∃ b, wr.heap.size = b := ⟨_, rfl⟩
      rw [hzb] at hB_z hc_z ⊢
      have zb2 := hb.size
      have hA1 := hA.below Fw1
      have hb1 : Below base w w1 := hb.trans (Fw1.mono (by omega))
      obtain ⟨cz, hcz⟩ : ∃ cz, (nums.map (Value.int .i64)).toArray = cz := ⟨_, rfl⟩
      have hz : Blk w1 zb 3 cz := by rw [← hcz]; exact hB_z
      have HCZ := Lib.hid hcz
      clear hB_z hc_z hcz hA hb
      go_loopg [37] 13 (fun q v37 wr => ∃ i : Nat, v37 = .int .i64 (i : Int) ∧ i + q = 13 ∧ Below w1.heap.size w1 wr)
      case atStart => exact ⟨0, rfl, rfl, Below.refl _ _⟩
      case round =>
        rename_i J K hJ hK
        obtain ⟨i, rfl, hi, hb2⟩ := hrel
        have hA2 := hA1.below hb2
        by_cases hlt : i < 13
        case pos =>
          have hlt' : (i : Int) < 13 := by omega
          obtain ⟨x, hx⟩ : ∃ x, nums[i]? = some x := ⟨_, List.getElem?_eq_getElem (by simp [nums]; omega)⟩
          have ec : cz[i]? = some (.int .i64 x) := by rw [← HCZ.out, List.getElem?_toArray, List.getElem?_map, hx]; rfl
          have hP := fun (u : World) (h : Arg u (.slice ao3 120 c3) L) => plays_any x (.slice ao3 120 c3) L u (nums_fit x (List.mem_of_getElem? hx)) h
          have hB_z := hz.below hb2 hz.lt
          clear hx
          have Fwr : Below wr.heap.size wr wr := Below.refl _ _
          have hc_z := hB_z.cell
          repeat (first | with_reducible apply wpList_nil | with_reducible apply seq_region | with_reducible apply wp_region_lit | with_reducible apply wp_seq | ((with_reducible apply seq_q); (focus rfl); (focus (simp [go_sem, effAt, ↓IntWalk.iteOmega, *]; (try go_ints); (first | (with_reducible exact effUpon_val) | (with_reducible exact effUpon_skip)))); (focus ((simp only [Act.put, List.setIfInBounds_toArray, List.set_cons_zero, List.set_cons_succ]; rfl)))) | ((with_reducible apply seq_s); (focus rfl); (focus ((simp only [Act.put, List.setIfInBounds_toArray, List.set_cons_zero, List.set_cons_succ]; rfl)))) | with_reducible apply wp_block | with_reducible apply wp_skip | with_reducible apply wp_exit | with_reducible apply wp_ret | ((with_reducible apply wp_cond_true); (focus (first | rfl | (simp [go_sem, *]; done)))) | ((with_reducible apply wp_cond_false); (focus (first | rfl | (simp [go_sem, *]; done)))) | (simp only [Exit.then, Exit.inBlock, ↓reduceIte, Nat.reduceEqDiff]))
          ((with_reducible apply seq_e (Below wr.heap.size wr)); (focus rfl); (focus (simp only [effAt]; simp [go_sem]; (with_reducible exact effUpon_enter (hP _ hA2)))); (focus ((simp only [Act.put, List.setIfInBounds_toArray, List.set_cons_zero, List.set_cons_succ]; rfl))))
          intro w2 hs
          have Fw2 := Fwr.trans (hs.mono Fwr.size)
          replace hB_z := hB_z.below hs hB_z.lt
          clear hs Fwr
          clear hc_z; have hc_z := hB_z.cell
          repeat (first | with_reducible apply wpList_nil | with_reducible apply seq_region | with_reducible apply wp_region_lit | with_reducible apply wp_seq | ((with_reducible apply seq_q); (focus rfl); (focus (simp [go_sem, effAt, ↓IntWalk.iteOmega, *]; (try go_ints); (first | (with_reducible exact effUpon_val) | (with_reducible exact effUpon_skip)))); (focus ((simp only [Act.put, List.setIfInBounds_toArray, List.set_cons_zero, List.set_cons_succ]; rfl)))) | ((with_reducible apply seq_s); (focus rfl); (focus ((simp only [Act.put, List.setIfInBounds_toArray, List.set_cons_zero, List.set_cons_succ]; rfl)))) | with_reducible apply wp_block | with_reducible apply wp_skip | with_reducible apply wp_exit | with_reducible apply wp_ret | ((with_reducible apply wp_cond_true); (focus (first | rfl | (simp [go_sem, *]; done)))) | ((with_reducible apply wp_cond_false); (focus (first | rfl | (simp [go_sem, *]; done)))) | (simp only [Exit.then, Exit.inBlock, ↓reduceIte, Nat.reduceEqDiff]))
          refine hK _ _ (Handed.intro (gk - 1) ?measure (hJ _ _ _ ?_))
          rotate_left
          (repeat apply Exists.intro)
          refine ⟨?rel, rfl⟩
          case rel => exact ⟨i + 1, by go_num, by omega, hb2.trans (Below.mono (by assumption) hb2.size)⟩
          case measure => omega
        case neg =>
          obtain rfl : i = 13 := by omega
          have hb5 : Below base w wr := hb1.trans (hb2.mono (by have := hb1.size; have := Fw1.size; omega))
          clear hJ hK hlt hi hA1 hb1 hz hb2
          rename World => B5
          skip
          have FB5 : Below B5.heap.size B5 B5 := Below.refl _ _
          repeat (first | with_reducible apply wpList_nil | with_reducible apply seq_region | with_reducible apply wp_region_lit | with_reducible apply wp_seq | ((with_reducible apply seq_q); (focus rfl); (focus (simp [go_sem, effAt, ↓IntWalk.iteOmega, *]; (try go_ints); (first | (with_reducible exact effUpon_val) | (with_reducible exact effUpon_skip)))); (focus ((simp only [Act.put, List.setIfInBounds_toArray, List.set_cons_zero, List.set_cons_succ]; rfl)))) | ((with_reducible apply seq_s); (focus rfl); (focus ((simp only [Act.put, List.setIfInBounds_toArray, List.set_cons_zero, List.set_cons_succ]; rfl)))) | with_reducible apply wp_block | with_reducible apply wp_skip | with_reducible apply wp_exit | with_reducible apply wp_ret | ((with_reducible apply wp_cond_true); (focus (first | rfl | (simp [go_sem, *]; done)))) | ((with_reducible apply wp_cond_false); (focus (first | rfl | (simp [go_sem, *]; done)))) | (simp only [Exit.then, Exit.inBlock, ↓reduceIte, Nat.reduceEqDiff]))
          with_reducible apply seq_e (fun w' => WheelN B5 w' (B5.heap.size + 2) (fun _ => 0))
          (focus (first | exact wanted_none rfl | exact wanted_yes rfl rfl rfl))
          (focus (simp only [effAt]; simp [go_sem]; (with_reducible exact effUpon_enter (fnew (w0 := B5) 16 (by omega) (by omega) (Below.refl _ _)))))
          (focus ((simp only [Act.put, List.setIfInBounds_toArray, List.set_cons_zero, List.set_cons_succ]; rfl)))
          intro x1 hW
          obtain ⟨p, hp⟩ : ∃ p, B5.heap.size + 2 = p := ⟨_, rfl⟩
          rw [hp] at hW ⊢
          rw [← lk3_zero] at hW
          clear hp
          have Fx1 : Below x1.heap.size x1 x1 := Below.refl _ _
          repeat (first | with_reducible apply wpList_nil | with_reducible apply seq_region | with_reducible apply wp_region_lit | with_reducible apply wp_seq | ((with_reducible apply seq_q); (focus rfl); (focus (simp [go_sem, effAt, ↓IntWalk.iteOmega, *]; (try go_ints); (first | (with_reducible exact effUpon_val) | (with_reducible exact effUpon_skip)))); (focus ((simp only [Act.put, List.setIfInBounds_toArray, List.set_cons_zero, List.set_cons_succ]; rfl)))) | ((with_reducible apply seq_s); (focus rfl); (focus ((simp only [Act.put, List.setIfInBounds_toArray, List.set_cons_zero, List.set_cons_succ]; rfl)))) | with_reducible apply wp_block | with_reducible apply wp_skip | with_reducible apply wp_exit | with_reducible apply wp_ret | ((with_reducible apply wp_cond_true); (focus (first | rfl | (simp [go_sem, *]; done)))) | ((with_reducible apply wp_cond_false); (focus (first | rfl | (simp [go_sem, *]; done)))) | (simp only [Exit.then, Exit.inBlock, ↓reduceIte, Nat.reduceEqDiff]))
          go_loopg [6] 256 (fun q v6 wr => ∃ i : Nat, v6 = .int .i64 (i : Int) ∧ i + q = 256 ∧ WheelN B5 wr p (lk3 i))
          case atStart => exact ⟨0, rfl, rfl, hW⟩
          case round =>
            rename_i J K hJ hK
            clear hW
            obtain ⟨i, rfl, hi, hW⟩ := hrel
            by_cases hlt : i < 256
            case pos =>
              have hlt' : (i : Int) < 256 := by omega
              obtain ⟨k, hk⟩ : ∃ k, 255 - i = k := ⟨_, rfl⟩
              have hkI : 255 - (i : Int) = (k : Int) := by omega
              have hk2 : (k : Int) < 256 := by omega
              have hk3 : k < 256 := by omega
              have hkw : IntKind.u8.wrap (k : Int) = (k : Int) := by rw [IntKind.wrap_u8]; omega
              have HK2 := Lib.hid hk
              clear hk
              have Fwr : Below wr.heap.size wr wr := Below.refl _ _
              repeat (first | with_reducible apply wpList_nil | with_reducible apply seq_region | with_reducible apply wp_region_lit | with_reducible apply wp_seq | ((with_reducible apply seq_q); (focus rfl); (focus (simp [go_sem, effAt, ↓IntWalk.iteOmega, *]; (try go_ints); (first | (with_reducible exact effUpon_val) | (with_reducible exact effUpon_skip)))); (focus ((simp only [Act.put, List.setIfInBounds_toArray, List.set_cons_zero, List.set_cons_succ]; rfl)))) | ((with_reducible apply seq_s); (focus rfl); (focus ((simp only [Act.put, List.setIfInBounds_toArray, List.set_cons_zero, List.set_cons_succ]; rfl)))) | with_reducible apply wp_block | with_reducible apply wp_skip | with_reducible apply wp_exit | with_reducible apply wp_ret | ((with_reducible apply wp_cond_true); (focus (first | rfl | (simp [go_sem, *]; done)))) | ((with_reducible apply wp_cond_false); (focus (first | rfl | (simp [go_sem, *]; done)))) | (simp only [Exit.then, Exit.inBlock, ↓reduceIte, Nat.reduceEqDiff]))
              with_reducible apply seq_e (fun w' => WheelN B5 w' p (upd (lk3 i) k 5))
              (focus (first | exact wanted_none rfl | exact wanted_yes rfl rfl rfl))
              (focus (simp only [effAt]; simp [go_sem]; (with_reducible exact effUpon_enter (fset (k := k) (t := 5) hW hk3 (by omega) (by omega)))))
              (focus ((simp only [Act.put, List.setIfInBounds_toArray, List.set_cons_zero, List.set_cons_succ]; rfl)))
              intro u hWu
              rw [← HK2.out, lk3_next hlt] at hWu
              clear hW
              have Fu : Below u.heap.size u u := Below.refl _ _
              repeat (first | with_reducible apply wpList_nil | with_reducible apply seq_region | with_reducible apply wp_region_lit | with_reducible apply wp_seq | ((with_reducible apply seq_q); (focus rfl); (focus (simp [go_sem, effAt, ↓IntWalk.iteOmega, *]; (try go_ints); (first | (with_reducible exact effUpon_val) | (with_reducible exact effUpon_skip)))); (focus ((simp only [Act.put, List.setIfInBounds_toArray, List.set_cons_zero, List.set_cons_succ]; rfl)))) | ((with_reducible apply seq_s); (focus rfl); (focus ((simp only [Act.put, List.setIfInBounds_toArray, List.set_cons_zero, List.set_cons_succ]; rfl)))) | with_reducible apply wp_block | with_reducible apply wp_skip | with_reducible apply wp_exit | with_reducible apply wp_ret | ((with_reducible apply wp_cond_true); (focus (first | rfl | (simp [go_sem, *]; done)))) | ((with_reducible apply wp_cond_false); (focus (first | rfl | (simp [go_sem, *]; done)))) | (simp only [Exit.then, Exit.inBlock, ↓reduceIte, Nat.reduceEqDiff]))
              refine hK _ _ (Handed.intro (gk - 1) ?measure (hJ _ _ _ ?_))
              rotate_left
              (repeat apply Exists.intro)
              refine ⟨?rel, rfl⟩
              case rel => exact ⟨i + 1, by go_num, by omega, hWu⟩
              case measure => omega
            case neg =>
              obtain rfl : i = 256 := by omega
              rw [lk3_all] at hW
              clear hJ hK hlt hi
              have Fwr : Below wr.heap.size wr wr := Below.refl _ _
              repeat (first | with_reducible apply wpList_nil | with_reducible apply seq_region | with_reducible apply wp_region_lit | with_reducible apply wp_seq | ((with_reducible apply seq_q); (focus rfl); (focus (simp [go_sem, effAt, ↓IntWalk.iteOmega, *]; (try go_ints); (first | (with_reducible exact effUpon_val) | (with_reducible exact effUpon_skip)))); (focus ((simp only [Act.put, List.setIfInBounds_toArray, List.set_cons_zero, List.set_cons_succ]; rfl)))) | ((with_reducible apply seq_s); (focus rfl); (focus ((simp only [Act.put, List.setIfInBounds_toArray, List.set_cons_zero, List.set_cons_succ]; rfl)))) | with_reducible apply wp_block | with_reducible apply wp_skip | with_reducible apply wp_exit | with_reducible apply wp_ret | ((with_reducible apply wp_cond_true); (focus (first | rfl | (simp [go_sem, *]; done)))) | ((with_reducible apply wp_cond_false); (focus (first | rfl | (simp [go_sem, *]; done)))) | (simp only [Exit.then, Exit.inBlock, ↓reduceIte, Nat.reduceEqDiff]))
              go_loopg [7] 4 (fun q v7 wr => ∃ j : Nat, v7 = .int .i64 (j : Int) ∧ j + q = 4 ∧ WheelN B5 wr p (lk4 j))
              case atStart => exact ⟨0, rfl, rfl, hW⟩
              case round =>
                rename_i J K hJ hK
                clear hW
                obtain ⟨j, rfl, hj, hW⟩ := hrel
                by_cases hlt : j < 4
                case pos =>
                  have hlt' : (j : Int) < 4 := by omega
                  have Fwr : Below wr.heap.size wr wr := Below.refl _ _
                  repeat (first | with_reducible apply wpList_nil | with_reducible apply seq_region | with_reducible apply wp_region_lit | with_reducible apply wp_seq | ((with_reducible apply seq_q); (focus rfl); (focus (simp [go_sem, effAt, ↓IntWalk.iteOmega, *]; (try go_ints); (first | (with_reducible exact effUpon_val) | (with_reducible exact effUpon_skip)))); (focus ((simp only [Act.put, List.setIfInBounds_toArray, List.set_cons_zero, List.set_cons_succ]; rfl)))) | ((with_reducible apply seq_s); (focus rfl); (focus ((simp only [Act.put, List.setIfInBounds_toArray, List.set_cons_zero, List.set_cons_succ]; rfl)))) | with_reducible apply wp_block | with_reducible apply wp_skip | with_reducible apply wp_exit | with_reducible apply wp_ret | ((with_reducible apply wp_cond_true); (focus (first | rfl | (simp [go_sem, *]; done)))) | ((with_reducible apply wp_cond_false); (focus (first | rfl | (simp [go_sem, *]; done)))) | (simp only [Exit.then, Exit.inBlock, ↓reduceIte, Nat.reduceEqDiff]))
                  with_reducible refine seq_ev2 (ftick hW) ?hw ?hrun ?_
                  case hw => first | exact wanted_none rfl | exact wanted_yes rfl rfl rfl
                  case hrun => simp [go_sem]
                  clear hW
                  rintro v1 u1 ⟨hW1, hD1⟩
                  rw [lk4_none hlt] at hD1
                  rw [lk4_next] at hW1
                  have hO := hD1.octs
                  obtain ⟨ao, ca, rfl, _⟩ := octs_slice hO
                  clear hD1 hO
                  (with_reducible apply ex_put)
                  (focus ((simp only [Act.put, List.setIfInBounds_toArray, List.set_cons_zero, List.set_cons_succ]; rfl)))
                  have Fu1 : Below u1.heap.size u1 u1 := Below.refl _ _
                  repeat (first | with_reducible apply wpList_nil | with_reducible apply seq_region | with_reducible apply wp_region_lit | with_reducible apply wp_seq | ((with_reducible apply seq_q); (focus rfl); (focus (simp [go_sem, effAt, ↓IntWalk.iteOmega, *]; (try go_ints); (first | (with_reducible exact effUpon_val) | (with_reducible exact effUpon_skip)))); (focus ((simp only [Act.put, List.setIfInBounds_toArray, List.set_cons_zero, List.set_cons_succ]; rfl)))) | ((with_reducible apply seq_s); (focus rfl); (focus ((simp only [Act.put, List.setIfInBounds_toArray, List.set_cons_zero, List.set_cons_succ]; rfl)))) | with_reducible apply wp_block | with_reducible apply wp_skip | with_reducible apply wp_exit | with_reducible apply wp_ret | ((with_reducible apply wp_cond_true); (focus (first | rfl | (simp [go_sem, *]; done)))) | ((with_reducible apply wp_cond_false); (focus (first | rfl | (simp [go_sem, *]; done)))) | (simp only [Exit.then, Exit.inBlock, ↓reduceIte, Nat.reduceEqDiff]))
                  refine hK _ _ (Handed.intro (gk - 1) ?measure (hJ _ _ _ ?_))
                  rotate_left
                  (repeat apply Exists.intro)
                  refine ⟨?rel, rfl⟩
                  case rel => exact ⟨j + 1, by go_num, by omega, hW1⟩
                  case measure => omega
                case neg =>
                  obtain rfl : j = 4 := by omega
                  clear hJ hK hlt hj
                  have Fwr : Below wr.heap.size wr wr := Below.refl _ _
                  repeat (first | with_reducible apply wpList_nil | with_reducible apply seq_region | with_reducible apply wp_region_lit | with_reducible apply wp_seq | ((with_reducible apply seq_q); (focus rfl); (focus (simp [go_sem, effAt, ↓IntWalk.iteOmega, *]; (try go_ints); (first | (with_reducible exact effUpon_val) | (with_reducible exact effUpon_skip)))); (focus ((simp only [Act.put, List.setIfInBounds_toArray, List.set_cons_zero, List.set_cons_succ]; rfl)))) | ((with_reducible apply seq_s); (focus rfl); (focus ((simp only [Act.put, List.setIfInBounds_toArray, List.set_cons_zero, List.set_cons_succ]; rfl)))) | with_reducible apply wp_block | with_reducible apply wp_skip | with_reducible apply wp_exit | with_reducible apply wp_ret | ((with_reducible apply wp_cond_true); (focus (first | rfl | (simp [go_sem, *]; done)))) | ((with_reducible apply wp_cond_false); (focus (first | rfl | (simp [go_sem, *]; done)))) | (simp only [Exit.then, Exit.inBlock, ↓reduceIte, Nat.reduceEqDiff]))
                  with_reducible refine seq_ev2 (ftick hW) ?hw ?hrun ?_
                  case hw => first | exact wanted_none rfl | exact wanted_yes rfl rfl rfl
                  case hrun => simp [go_sem]
                  clear hW
                  rintro v1 u1 ⟨hW1, hD1⟩
                  rw [lk4_all] at hD1
                  rw [lk4_next, lk4_five] at hW1
                  obtain ⟨ao, ca, hv1, hcell⟩ := octs_slice hD1.octs
                  rw [List.length_map, List.length_range] at hv1 hcell
                  subst hv1
                  have HCE := Lib.hid hcell
                  clear hD1 hcell
                  (with_reducible apply ex_put)
                  (focus ((simp only [Act.put, List.setIfInBounds_toArray, List.set_cons_zero, List.set_cons_succ]; rfl)))
                  have Fu1 : Below u1.heap.size u1 u1 := Below.refl _ _
                  repeat (first | with_reducible apply wpList_nil | with_reducible apply seq_region | with_reducible apply wp_region_lit | with_reducible apply wp_seq | ((with_reducible apply seq_q); (focus rfl); (focus (simp [go_sem, effAt, ↓IntWalk.iteOmega, *]; (try go_ints); (first | (with_reducible exact effUpon_val) | (with_reducible exact effUpon_skip)))); (focus ((simp only [Act.put, List.setIfInBounds_toArray, List.set_cons_zero, List.set_cons_succ]; rfl)))) | ((with_reducible apply seq_s); (focus rfl); (focus ((simp only [Act.put, List.setIfInBounds_toArray, List.set_cons_zero, List.set_cons_succ]; rfl)))) | with_reducible apply wp_block | with_reducible apply wp_skip | with_reducible apply wp_exit | with_reducible apply wp_ret | ((with_reducible apply wp_cond_true); (focus (first | rfl | (simp [go_sem, *]; done)))) | ((with_reducible apply wp_cond_false); (focus (first | rfl | (simp [go_sem, *]; done)))) | (simp only [Exit.then, Exit.inBlock, ↓reduceIte, Nat.reduceEqDiff]))
                  go_loopg [9] 256 (fun q v9 wr => ∃ i : Nat, v9 = .int .i64 (i : Int) ∧ i + q = 256 ∧ Below u1.heap.size u1 wr)
                  case atStart => exact ⟨0, rfl, rfl, Below.refl _ _⟩
                  case round =>
                    rename_i J K hJ hK
                    obtain ⟨i, rfl, hi, hb6⟩ := hrel
                    by_cases hlt : i < 256
                    case pos =>
                      have hlt' : (i : Int) < 256 := by omega
                      obtain ⟨g, pad, rfl, hB_d⟩ := HCE.out i hlt
                      replace hB_d := hB_d.below hb6 hB_d.lt
                      have ec := cellsS_get (d := ((List.range 256).map fun (k : Nat) => (k : Int)).toArray) (i := i) (x := (i : Int)) pad (by simp; omega) (by
                        rw [getElem!_pos _ i (by simpa using hlt)]
                        simp)
                      obtain ⟨cl, hcl⟩ : ∃ cl, cellsS pad ((List.range 256).map fun (k : Nat) => (k : Int)).toArray = cl := ⟨_, rfl⟩
                      unfold SB at hB_d
                      rw [hcl] at ec hB_d
                      clear hcl
                      have Fwr : Below wr.heap.size wr wr := Below.refl _ _
                      have hc_d := hB_d.cell
                      repeat (first | with_reducible apply wpList_nil | with_reducible apply seq_region | with_reducible apply wp_region_lit | with_reducible apply wp_seq | ((with_reducible apply seq_q); (focus rfl); (focus (simp [go_sem, effAt, ↓IntWalk.iteOmega, *]; (try go_ints); (first | (with_reducible exact effUpon_val) | (with_reducible exact effUpon_skip)))); (focus ((simp only [Act.put, List.setIfInBounds_toArray, List.set_cons_zero, List.set_cons_succ]; rfl)))) | ((with_reducible apply seq_s); (focus rfl); (focus ((simp only [Act.put, List.setIfInBounds_toArray, List.set_cons_zero, List.set_cons_succ]; rfl)))) | with_reducible apply wp_block | with_reducible apply wp_skip | with_reducible apply wp_exit | with_reducible apply wp_ret | ((with_reducible apply wp_cond_true); (focus (first | rfl | (simp [go_sem, *]; done)))) | ((with_reducible apply wp_cond_false); (focus (first | rfl | (simp [go_sem, *]; done)))) | (simp only [Exit.then, Exit.inBlock, ↓reduceIte, Nat.reduceEqDiff]))
                      refine hK _ _ (Handed.intro (gk - 1) ?measure (hJ _ _ _ ?_))
                      rotate_left
                      (repeat apply Exists.intro)
                      refine ⟨?rel, rfl⟩
                      case rel => exact ⟨i + 1, by go_num, by omega, hb6⟩
                      case measure => omega
                    case neg =>
                      obtain rfl : i = 256 := by omega
                      have hW := hW1.below hb6
                      clear hJ hK hlt hi hW1 hb6
                      have hc := fcount hW
                      rw [cnt_zero, show ((0 : Nat) : Int) = 0 from rfl] at hc
                      have Fwr : Below wr.heap.size wr wr := Below.refl _ _
                      repeat (first | with_reducible apply wpList_nil | with_reducible apply seq_region | with_reducible apply wp_region_lit | with_reducible apply wp_seq | ((with_reducible apply seq_q); (focus rfl); (focus (simp [go_sem, effAt, ↓IntWalk.iteOmega, *]; (try go_ints); (first | (with_reducible exact effUpon_val) | (with_reducible exact effUpon_skip)))); (focus ((simp only [Act.put, List.setIfInBounds_toArray, List.set_cons_zero, List.set_cons_succ]; rfl)))) | ((with_reducible apply seq_s); (focus rfl); (focus ((simp only [Act.put, List.setIfInBounds_toArray, List.set_cons_zero, List.set_cons_succ]; rfl)))) | with_reducible apply wp_block | with_reducible apply wp_skip | with_reducible apply wp_exit | with_reducible apply wp_ret | ((with_reducible apply wp_cond_true); (focus (first | rfl | (simp [go_sem, *]; done)))) | ((with_reducible apply wp_cond_false); (focus (first | rfl | (simp [go_sem, *]; done)))) | (simp only [Exit.then, Exit.inBlock, ↓reduceIte, Nat.reduceEqDiff]))
                      with_reducible apply seq_e (fun w' => WheelN B5 w' p (fun _ => 0) ∧ Below wr.heap.size wr w')
                      (focus (first | exact wanted_none rfl | exact wanted_yes rfl rfl rfl))
                      (focus (simp only [effAt]; simp [go_sem]; (with_reducible exact effUpon_enter (hc))))
                      (focus ((simp only [Act.put, List.setIfInBounds_toArray, List.set_cons_zero, List.set_cons_succ]; rfl)))
                      clear hW hc
                      rintro u2 ⟨hW, _⟩
                      have Fu2 : Below u2.heap.size u2 u2 := Below.refl _ _
                      repeat (first | with_reducible apply wpList_nil | with_reducible apply seq_region | with_reducible apply wp_region_lit | with_reducible apply wp_seq | ((with_reducible apply seq_q); (focus rfl); (focus (simp [go_sem, effAt, ↓IntWalk.iteOmega, *]; (try go_ints); (first | (with_reducible exact effUpon_val) | (with_reducible exact effUpon_skip)))); (focus ((simp only [Act.put, List.setIfInBounds_toArray, List.set_cons_zero, List.set_cons_succ]; rfl)))) | ((with_reducible apply seq_s); (focus rfl); (focus ((simp only [Act.put, List.setIfInBounds_toArray, List.set_cons_zero, List.set_cons_succ]; rfl)))) | with_reducible apply wp_block | with_reducible apply wp_skip | with_reducible apply wp_exit | with_reducible apply wp_ret | ((with_reducible apply wp_cond_true); (focus (first | rfl | (simp [go_sem, *]; done)))) | ((with_reducible apply wp_cond_false); (focus (first | rfl | (simp [go_sem, *]; done)))) | (simp only [Exit.then, Exit.inBlock, ↓reduceIte, Nat.reduceEqDiff]))
                      with_reducible apply seq_e (fun w' => WheelN B5 w' p (upd (fun _ => 0) 1 65535))
                      (focus (first | exact wanted_none rfl | exact wanted_yes rfl rfl rfl))
                      (focus (simp only [effAt]; simp [go_sem]; (with_reducible exact effUpon_enter (fset (k := 1) (t := 65535) hW (by omega) (by omega) (by omega)))))
                      (focus ((simp only [Act.put, List.setIfInBounds_toArray, List.set_cons_zero, List.set_cons_succ]; rfl)))
                      clear hW
                      intro u3 hW
                      have hl := fleft (k := 1) hW
                      rw [show upd (fun _ => 0) 1 65535 1 = 65535 from rfl] at hl
                      have Fu3 : Below u3.heap.size u3 u3 := Below.refl _ _
                      repeat (first | with_reducible apply wpList_nil | with_reducible apply seq_region | with_reducible apply wp_region_lit | with_reducible apply wp_seq | ((with_reducible apply seq_q); (focus rfl); (focus (simp [go_sem, effAt, ↓IntWalk.iteOmega, *]; (try go_ints); (first | (with_reducible exact effUpon_val) | (with_reducible exact effUpon_skip)))); (focus ((simp only [Act.put, List.setIfInBounds_toArray, List.set_cons_zero, List.set_cons_succ]; rfl)))) | ((with_reducible apply seq_s); (focus rfl); (focus ((simp only [Act.put, List.setIfInBounds_toArray, List.set_cons_zero, List.set_cons_succ]; rfl)))) | with_reducible apply wp_block | with_reducible apply wp_skip | with_reducible apply wp_exit | with_reducible apply wp_ret | ((with_reducible apply wp_cond_true); (focus (first | rfl | (simp [go_sem, *]; done)))) | ((with_reducible apply wp_cond_false); (focus (first | rfl | (simp [go_sem, *]; done)))) | (simp only [Exit.then, Exit.inBlock, ↓reduceIte, Nat.reduceEqDiff]))
                      with_reducible apply seq_e (fun w' => WheelN B5 w' p (upd (fun _ => 0) 1 65535) ∧ Below u3.heap.size u3 w')
                      (focus (first | exact wanted_none rfl | exact wanted_yes rfl rfl rfl))
                      (focus (simp only [effAt]; simp [go_sem]; (with_reducible exact effUpon_enter (hl))))
                      (focus ((simp only [Act.put, List.setIfInBounds_toArray, List.set_cons_zero, List.set_cons_succ]; rfl)))
                      clear hW hl
                      rintro u4 ⟨hW, _⟩
                      have hb7 := hW.2
                      have hA7 := hA2.below hb7
                      have hb8 : Below base w u4 := hb5.trans (hb7.mono (by have := hb5.size; omega))
                      clear hA2 hb7 hb5
                      have t1 := set_no p 1 65536 (.inr (by omega))
                      have t2 := set_nil 1 1
                      have t3 := stop_nil 1
                      have t4 := left_nil 1
                      have t5 := tick_nil
                      have t6 := count_nil
                      have t7 := fun (u : World) (h : Arg u (.slice ao3 120 c3) L) => due_any 7 3 600 (.slice ao3 90 c3) (L.take 90) u (by omega) (by omega) (by omega) (Arg.take h (by have := HLL.out; omega))
                      have t8 := fun (u : World) (h : Arg u (.slice ao3 120 c3) L) => slots_any 0 255 (.slice ao3 120 c3) L u (by omega) (by omega) h
                      simp only [show ((0 : Nat) : Int) = 0 from rfl] at t8
                      skip
                      have Fu4 : Below u4.heap.size u4 u4 := Below.refl _ _
                      repeat (first | with_reducible apply wpList_nil | with_reducible apply seq_region | with_reducible apply wp_region_lit | with_reducible apply wp_seq | ((with_reducible apply seq_q); (focus rfl); (focus (simp [go_sem, effAt, ↓IntWalk.iteOmega, *]; (try go_ints); (first | (with_reducible exact effUpon_val) | (with_reducible exact effUpon_skip)))); (focus ((simp only [Act.put, List.setIfInBounds_toArray, List.set_cons_zero, List.set_cons_succ]; rfl)))) | ((with_reducible apply seq_s); (focus rfl); (focus ((simp only [Act.put, List.setIfInBounds_toArray, List.set_cons_zero, List.set_cons_succ]; rfl)))) | with_reducible apply wp_block | with_reducible apply wp_skip | with_reducible apply wp_exit | with_reducible apply wp_ret | ((with_reducible apply wp_cond_true); (focus (first | rfl | (simp [go_sem, *]; done)))) | ((with_reducible apply wp_cond_false); (focus (first | rfl | (simp [go_sem, *]; done)))) | (simp only [Exit.then, Exit.inBlock, ↓reduceIte, Nat.reduceEqDiff]))
                      ((with_reducible apply seq_e (Below u4.heap.size u4)); (focus rfl); (focus (simp only [effAt]; simp [go_sem]; (with_reducible exact effUpon_enter (t1 _)))); (focus ((simp only [Act.put, List.setIfInBounds_toArray, List.set_cons_zero, List.set_cons_succ]; rfl))))
                      intro w1 hs
                      have Fw1 := Fu4.trans (hs.mono Fu4.size)
                      clear hs Fu4
                      repeat (first | with_reducible apply wpList_nil | with_reducible apply seq_region | with_reducible apply wp_region_lit | with_reducible apply wp_seq | ((with_reducible apply seq_q); (focus rfl); (focus (simp [go_sem, effAt, ↓IntWalk.iteOmega, *]; (try go_ints); (first | (with_reducible exact effUpon_val) | (with_reducible exact effUpon_skip)))); (focus ((simp only [Act.put, List.setIfInBounds_toArray, List.set_cons_zero, List.set_cons_succ]; rfl)))) | ((with_reducible apply seq_s); (focus rfl); (focus ((simp only [Act.put, List.setIfInBounds_toArray, List.set_cons_zero, List.set_cons_succ]; rfl)))) | with_reducible apply wp_block | with_reducible apply wp_skip | with_reducible apply wp_exit | with_reducible apply wp_ret | ((with_reducible apply wp_cond_true); (focus (first | rfl | (simp [go_sem, *]; done)))) | ((with_reducible apply wp_cond_false); (focus (first | rfl | (simp [go_sem, *]; done)))) | (simp only [Exit.then, Exit.inBlock, ↓reduceIte, Nat.reduceEqDiff]))
                      ((with_reducible apply seq_e (Below w1.heap.size w1)); (focus rfl); (focus (simp only [effAt]; simp [go_sem]; (with_reducible exact effUpon_enter (t2 _)))); (focus ((simp only [Act.put, List.setIfInBounds_toArray, List.set_cons_zero, List.set_cons_succ]; rfl))))
                      intro w2 hs
                      have Fw2 := Fw1.trans (hs.mono Fw1.size)
                      clear hs Fw1
                      repeat (first | with_reducible apply wpList_nil | with_reducible apply seq_region | with_reducible apply wp_region_lit | with_reducible apply wp_seq | ((with_reducible apply seq_q); (focus rfl); (focus (simp [go_sem, effAt, ↓IntWalk.iteOmega, *]; (try go_ints); (first | (with_reducible exact effUpon_val) | (with_reducible exact effUpon_skip)))); (focus ((simp only [Act.put, List.setIfInBounds_toArray, List.set_cons_zero, List.set_cons_succ]; rfl)))) | ((with_reducible apply seq_s); (focus rfl); (focus ((simp only [Act.put, List.setIfInBounds_toArray, List.set_cons_zero, List.set_cons_succ]; rfl)))) | with_reducible apply wp_block | with_reducible apply wp_skip | with_reducible apply wp_exit | with_reducible apply wp_ret | ((with_reducible apply wp_cond_true); (focus (first | rfl | (simp [go_sem, *]; done)))) | ((with_reducible apply wp_cond_false); (focus (first | rfl | (simp [go_sem, *]; done)))) | (simp only [Exit.then, Exit.inBlock, ↓reduceIte, Nat.reduceEqDiff]))
                      ((with_reducible apply seq_e (Below w2.heap.size w2)); (focus rfl); (focus (simp only [effAt]; simp [go_sem]; (with_reducible exact effUpon_enter (t3 _)))); (focus ((simp only [Act.put, List.setIfInBounds_toArray, List.set_cons_zero, List.set_cons_succ]; rfl))))
                      intro w3 hs
                      have Fw3 := Fw2.trans (hs.mono Fw2.size)
                      clear hs Fw2
                      repeat (first | with_reducible apply wpList_nil | with_reducible apply seq_region | with_reducible apply wp_region_lit | with_reducible apply wp_seq | ((with_reducible apply seq_q); (focus rfl); (focus (simp [go_sem, effAt, ↓IntWalk.iteOmega, *]; (try go_ints); (first | (with_reducible exact effUpon_val) | (with_reducible exact effUpon_skip)))); (focus ((simp only [Act.put, List.setIfInBounds_toArray, List.set_cons_zero, List.set_cons_succ]; rfl)))) | ((with_reducible apply seq_s); (focus rfl); (focus ((simp only [Act.put, List.setIfInBounds_toArray, List.set_cons_zero, List.set_cons_succ]; rfl)))) | with_reducible apply wp_block | with_reducible apply wp_skip | with_reducible apply wp_exit | with_reducible apply wp_ret | ((with_reducible apply wp_cond_true); (focus (first | rfl | (simp [go_sem, *]; done)))) | ((with_reducible apply wp_cond_false); (focus (first | rfl | (simp [go_sem, *]; done)))) | (simp only [Exit.then, Exit.inBlock, ↓reduceIte, Nat.reduceEqDiff]))
                      ((with_reducible apply seq_e (Below w3.heap.size w3)); (focus rfl); (focus (simp only [effAt]; simp [go_sem]; (with_reducible exact effUpon_enter (t4 _)))); (focus ((simp only [Act.put, List.setIfInBounds_toArray, List.set_cons_zero, List.set_cons_succ]; rfl))))
                      intro w4 hs
                      have Fw4 := Fw3.trans (hs.mono Fw3.size)
                      clear hs Fw3
                      repeat (first | with_reducible apply wpList_nil | with_reducible apply seq_region | with_reducible apply wp_region_lit | with_reducible apply wp_seq | ((with_reducible apply seq_q); (focus rfl); (focus (simp [go_sem, effAt, ↓IntWalk.iteOmega, *]; (try go_ints); (first | (with_reducible exact effUpon_val) | (with_reducible exact effUpon_skip)))); (focus ((simp only [Act.put, List.setIfInBounds_toArray, List.set_cons_zero, List.set_cons_succ]; rfl)))) | ((with_reducible apply seq_s); (focus rfl); (focus ((simp only [Act.put, List.setIfInBounds_toArray, List.set_cons_zero, List.set_cons_succ]; rfl)))) | with_reducible apply wp_block | with_reducible apply wp_skip | with_reducible apply wp_exit | with_reducible apply wp_ret | ((with_reducible apply wp_cond_true); (focus (first | rfl | (simp [go_sem, *]; done)))) | ((with_reducible apply wp_cond_false); (focus (first | rfl | (simp [go_sem, *]; done)))) | (simp only [Exit.then, Exit.inBlock, ↓reduceIte, Nat.reduceEqDiff]))
                      ((with_reducible apply seq_e (Below w4.heap.size w4)); (focus rfl); (focus (simp only [effAt]; simp [go_sem]; (with_reducible exact effUpon_enter (t5 _)))); (focus ((simp only [Act.put, List.setIfInBounds_toArray, List.set_cons_zero, List.set_cons_succ]; rfl))))
                      intro w5 hs
                      have Fw5 := Fw4.trans (hs.mono Fw4.size)
                      clear hs Fw4
                      repeat (first | with_reducible apply wpList_nil | with_reducible apply seq_region | with_reducible apply wp_region_lit | with_reducible apply wp_seq | ((with_reducible apply seq_q); (focus rfl); (focus (simp [go_sem, effAt, ↓IntWalk.iteOmega, *]; (try go_ints); (first | (with_reducible exact effUpon_val) | (with_reducible exact effUpon_skip)))); (focus ((simp only [Act.put, List.setIfInBounds_toArray, List.set_cons_zero, List.set_cons_succ]; rfl)))) | ((with_reducible apply seq_s); (focus rfl); (focus ((simp only [Act.put, List.setIfInBounds_toArray, List.set_cons_zero, List.set_cons_succ]; rfl)))) | with_reducible apply wp_block | with_reducible apply wp_skip | with_reducible apply wp_exit | with_reducible apply wp_ret | ((with_reducible apply wp_cond_true); (focus (first | rfl | (simp [go_sem, *]; done)))) | ((with_reducible apply wp_cond_false); (focus (first | rfl | (simp [go_sem, *]; done)))) | (simp only [Exit.then, Exit.inBlock, ↓reduceIte, Nat.reduceEqDiff]))
                      ((with_reducible apply seq_e (Below w5.heap.size w5)); (focus rfl); (focus (simp only [effAt]; simp [go_sem]; (with_reducible exact effUpon_enter (t6 _)))); (focus ((simp only [Act.put, List.setIfInBounds_toArray, List.set_cons_zero, List.set_cons_succ]; rfl))))
                      intro w6 hs
                      have Fw6 := Fw5.trans (hs.mono Fw5.size)
                      clear hs Fw5
                      repeat (first | with_reducible apply wpList_nil | with_reducible apply seq_region | with_reducible apply wp_region_lit | with_reducible apply wp_seq | ((with_reducible apply seq_q); (focus rfl); (focus (simp [go_sem, effAt, ↓IntWalk.iteOmega, *]; (try go_ints); (first | (with_reducible exact effUpon_val) | (with_reducible exact effUpon_skip)))); (focus ((simp only [Act.put, List.setIfInBounds_toArray, List.set_cons_zero, List.set_cons_succ]; rfl)))) | ((with_reducible apply seq_s); (focus rfl); (focus ((simp only [Act.put, List.setIfInBounds_toArray, List.set_cons_zero, List.set_cons_succ]; rfl)))) | with_reducible apply wp_block | with_reducible apply wp_skip | with_reducible apply wp_exit | with_reducible apply wp_ret | ((with_reducible apply wp_cond_true); (focus (first | rfl | (simp [go_sem, *]; done)))) | ((with_reducible apply wp_cond_false); (focus (first | rfl | (simp [go_sem, *]; done)))) | (simp only [Exit.then, Exit.inBlock, ↓reduceIte, Nat.reduceEqDiff]))
                      ((with_reducible apply seq_e (Below w6.heap.size w6)); (focus rfl); (focus (simp only [effAt]; simp [go_sem]; (with_reducible exact effUpon_enter (t7 _ (hA7.below Fw6))))); (focus ((simp only [Act.put, List.setIfInBounds_toArray, List.set_cons_zero, List.set_cons_succ]; rfl))))
                      intro w7 hs
                      have Fw7 := Fw6.trans (hs.mono Fw6.size)
                      clear hs Fw6
                      repeat (first | with_reducible apply wpList_nil | with_reducible apply seq_region | with_reducible apply wp_region_lit | with_reducible apply wp_seq | ((with_reducible apply seq_q); (focus rfl); (focus (simp [go_sem, effAt, ↓IntWalk.iteOmega, *]; (try go_ints); (first | (with_reducible exact effUpon_val) | (with_reducible exact effUpon_skip)))); (focus ((simp only [Act.put, List.setIfInBounds_toArray, List.set_cons_zero, List.set_cons_succ]; rfl)))) | ((with_reducible apply seq_s); (focus rfl); (focus ((simp only [Act.put, List.setIfInBounds_toArray, List.set_cons_zero, List.set_cons_succ]; rfl)))) | with_reducible apply wp_block | with_reducible apply wp_skip | with_reducible apply wp_exit | with_reducible apply wp_ret | ((with_reducible apply wp_cond_true); (focus (first | rfl | (simp [go_sem, *]; done)))) | ((with_reducible apply wp_cond_false); (focus (first | rfl | (simp [go_sem, *]; done)))) | (simp only [Exit.then, Exit.inBlock, ↓reduceIte, Nat.reduceEqDiff]))
                      ((with_reducible apply seq_e (Below w7.heap.size w7)); (focus rfl); (focus (simp only [effAt]; simp [go_sem]; (with_reducible exact effUpon_enter (t8 _ (hA7.below Fw7))))); (focus ((simp only [Act.put, List.setIfInBounds_toArray, List.set_cons_zero, List.set_cons_succ]; rfl))))
                      intro w8 hs
                      have Fw8 := Fw7.trans (hs.mono Fw7.size)
                      clear hs Fw7
                      repeat (first | with_reducible apply wpList_nil | with_reducible apply seq_region | with_reducible apply wp_region_lit | with_reducible apply wp_seq | ((with_reducible apply seq_q); (focus rfl); (focus (simp [go_sem, effAt, ↓IntWalk.iteOmega, *]; (try go_ints); (first | (with_reducible exact effUpon_val) | (with_reducible exact effUpon_skip)))); (focus ((simp only [Act.put, List.setIfInBounds_toArray, List.set_cons_zero, List.set_cons_succ]; rfl)))) | ((with_reducible apply seq_s); (focus rfl); (focus ((simp only [Act.put, List.setIfInBounds_toArray, List.set_cons_zero, List.set_cons_succ]; rfl)))) | with_reducible apply wp_block | with_reducible apply wp_skip | with_reducible apply wp_exit | with_reducible apply wp_ret | ((with_reducible apply wp_cond_true); (focus (first | rfl | (simp [go_sem, *]; done)))) | ((with_reducible apply wp_cond_false); (focus (first | rfl | (simp [go_sem, *]; done)))) | (simp only [Exit.then, Exit.inBlock, ↓reduceIte, Nat.reduceEqDiff]))
                      ((with_reducible apply seq_e (Below w8.heap.size w8)); (focus rfl); (focus (simp only [effAt]; simp [go_sem]; (with_reducible exact effUpon_enter (works_any _)))); (focus ((simp only [Act.put, List.setIfInBounds_toArray, List.set_cons_zero, List.set_cons_succ]; rfl))))
                      intro w9 hs
                      have Fw9 := Fw8.trans (hs.mono Fw8.size)
                      clear hs Fw8
                      repeat (first | with_reducible apply wpList_nil | with_reducible apply seq_region | with_reducible apply wp_region_lit | with_reducible apply wp_seq | ((with_reducible apply seq_q); (focus rfl); (focus (simp [go_sem, effAt, ↓IntWalk.iteOmega, *]; (try go_ints); (first | (with_reducible exact effUpon_val) | (with_reducible exact effUpon_skip)))); (focus ((simp only [Act.put, List.setIfInBounds_toArray, List.set_cons_zero, List.set_cons_succ]; rfl)))) | ((with_reducible apply seq_s); (focus rfl); (focus ((simp only [Act.put, List.setIfInBounds_toArray, List.set_cons_zero, List.set_cons_succ]; rfl)))) | with_reducible apply wp_block | with_reducible apply wp_skip | with_reducible apply wp_exit | with_reducible apply wp_ret | ((with_reducible apply wp_cond_true); (focus (first | rfl | (simp [go_sem, *]; done)))) | ((with_reducible apply wp_cond_false); (focus (first | rfl | (simp [go_sem, *]; done)))) | (simp only [Exit.then, Exit.inBlock, ↓reduceIte, Nat.reduceEqDiff]))
                      go_ret
                      exact ⟨rfl, by rw [hbase]; exact hb8.trans (Below.mono Fw9 (by have := hb8.size; omega))⟩
end Go.Proofs.Ytckjgdlceckhpaa
