/- Two wheels; the walk of WheelSlots. -/
import Derived.Test.YtckjgdlceckhpaaWa
set_option linter.unusedSimpArgs false
set_option linter.unusedVariables false
namespace Go.Proofs.Ytckjgdlceckhpaa
open Go.RowKit Go.Eff
attribute [local irreducible] Go.wpList
/-- two wheels of the call's own -/
structure Tw (F G : Nat → Prop) (w0 w : World) (p q : Nat) (L M : Nat → Nat) : Prop where
  wx : Wheel F w p L
  wy : Wheel G w q M
  dj : ∀ j, F j → ¬ G j
  bf : ∀ j, F j → w0.heap.size ≤ j
  bg : ∀ j, G j → w0.heap.size ≤ j
  bel : Below w0.heap.size w0 w
def TwN (w0 w : World) (p q : Nat) (L M : Nat → Nat) : Prop := ∃ F G, Tw F G w0 w p q L M
section
variable {F G F' : Nat → Prop} {w0 u w : World} {p q k t : Nat} {L M : Nat → Nat}
theorem Tw.swap (h : Tw F G w0 w p q L M) : Tw G F w0 w q p M L := ⟨h.wy, h.wx, fun j hj hf => h.dj j hf hj, h.bg, h.bf, h.bel⟩
theorem TwN.swap (h : TwN w0 w p q L M) : TwN w0 w q p M L := by obtain ⟨F, G, h⟩ := h; exact ⟨G, F, h.swap⟩
theorem Tw.below (h : Tw F G w0 u p q L M) (hb : Below u.heap.size u w) : Tw F G w0 w p q L M := ⟨h.wx.below hb, h.wy.below hb, h.dj, h.bf, h.bg, h.bel.trans (hb.mono h.bel.size)⟩
theorem TwN.below (h : TwN w0 u p q L M) (hb : Below u.heap.size u w) : TwN w0 w p q L M := by obtain ⟨F, G, h⟩ := h; exact ⟨F, G, h.below hb⟩
theorem TwN.bel (h : TwN w0 u p q L M) : Below w0.heap.size w0 u := by obtain ⟨F, G, h⟩ := h; exact h.bel
theorem Tw.step (h : Tw F G w0 u p q L M) {L' : Nat → Nat} (hw : Wheel F' w p L') (hT : Turn (fun j => F j ∨ u.heap.size ≤ j) u w) (hF : ∀ j, F' j → F j ∨ u.heap.size ≤ j) : Tw F' G w0 w p q L' M := by
  have hz := h.bel.size
  refine ⟨hw, h.wy.turn hT (fun j hj e => ?_), fun j hj hg => ?_, fun j hj => ?_, h.bg, hT.behind h.bel (Nat.le_refl _) (fun j hj => ?_)⟩
  · rcases e with e | e
    · exact h.dj j e hj
    · have := h.wy.2 j hj; omega
  · rcases hF j hj with e | e
    · exact h.dj j e hg
    · have := h.wy.2 j hg; omega
  · rcases hF j hj with e | e
    · exact h.bf j e
    · omega
  · rcases hj with e | e
    · exact h.bf j e
    · omega
theorem tset (h : TwN w0 u p q L M) (hk : k < 256) (ht : 1 ≤ t) (ht2 : t ≤ 65535) : Calls Try.prog 14 #[ptr p, .int .u8 (k : Int), .int .i64 (t : Int)] u (Ret (.int .i64 0) fun w' => TwN w0 w' p q (upd L k t) M) := by
  obtain ⟨F, G, h⟩ := h
  refine (set_abs h.wx hk ht ht2).mono ?_
  rintro e w' ⟨he, hw, hT⟩
  exact ⟨he, _, G, h.step hw hT (fun j hj => by rcases hj with hj | hj; exact .inl hj; exact .inr hj.1)⟩
theorem tset_no (h : TwN w0 u p q L M) {x n : Int} (hn : n < 1 ∨ 65535 < n) : Calls Try.prog 14 #[ptr p, .int .u8 x, .int .i64 n] u (Ret (.int .i64 2) fun w' => TwN w0 w' p q L M) :=
  ret_mono (set_no p x n hn u) fun _ hb => h.below hb
theorem tstop (h : TwN w0 u p q L M) : Calls Try.prog 15 #[ptr p, .int .u8 (k : Int)] u (Ret (.bool (decide (L k ≠ 0))) fun w' => TwN w0 w' p q (upd L k 0) M) := by
  obtain ⟨F, G, h⟩ := h
  refine (stop_abs h.wx).mono ?_
  rintro e w' ⟨he, hw, hT⟩
  exact ⟨he, F, G, h.step hw hT (fun j hj => .inl hj)⟩
theorem tset' (h : TwN w0 u q p M L) (hk : k < 256) (ht : 1 ≤ t) (ht2 : t ≤ 65535) : Calls Try.prog 14 #[ptr p, .int .u8 (k : Int), .int .i64 (t : Int)] u (Ret (.int .i64 0) fun w' => TwN w0 w' q p M (upd L k t)) := ret_mono (tset h.swap hk ht ht2) fun _ h => h.swap
theorem tset_no' (h : TwN w0 u q p M L) {x n : Int} (hn : n < 1 ∨ 65535 < n) : Calls Try.prog 14 #[ptr p, .int .u8 x, .int .i64 n] u (Ret (.int .i64 2) fun w' => TwN w0 w' q p M L) := ret_mono (tset_no h.swap hn) fun _ h => h.swap
theorem tstop' (h : TwN w0 u q p M L) : Calls Try.prog 15 #[ptr p, .int .u8 (k : Int)] u (Ret (.bool (decide (L k ≠ 0))) fun w' => TwN w0 w' q p M (upd L k 0)) := ret_mono (tstop h.swap) fun _ h => h.swap
theorem ttick (h : Tw F G w0 u p q L M) : Calls Try.prog 16 #[ptr p] u (fun e w' => ∃ v, e = .returned v ∧ (Tw F G w0 w' p q (dec L) M ∧ Turn (fun j => F j ∨ u.heap.size ≤ j) u w') ∧ DueR u.heap.size w' v (dueL L)) := by
  refine (tick_abs h.wx).mono ?_
  rintro e w' ⟨v, he, hw, hT, hd⟩
  exact ⟨v, he, ⟨h.step hw hT (fun j hj => .inl hj), hT⟩, hd⟩
theorem tcount (h : TwN w0 u p q L M) : Calls Try.prog 11 #[ptr p] u (Ret (.int .i64 (cnt L : Int)) fun w' => TwN w0 w' p q L M) := by
  obtain ⟨F, G, h⟩ := h
  exact ret_mono (count_abs h.wx) fun _ hb => ⟨F, G, h.below hb⟩
theorem tleft (h : TwN w0 u p q L M) : Calls Try.prog 13 #[ptr p, .int .u8 (k : Int)] u (Ret (.int .i64 (L k : Int)) fun w' => TwN w0 w' p q L M) := by
  obtain ⟨F, G, h⟩ := h
  exact ret_mono (left_abs h.wx) fun _ hb => ⟨F, G, h.below hb⟩
theorem tcount' (h : TwN w0 u q p M L) : Calls Try.prog 11 #[ptr p] u (Ret (.int .i64 (cnt L : Int)) fun w' => TwN w0 w' q p M L) := ret_mono (tcount h.swap) fun _ h => h.swap
theorem tleft' (h : TwN w0 u q p M L) : Calls Try.prog 13 #[ptr p, .int .u8 (k : Int)] u (Ret (.int .i64 (L k : Int)) fun w' => TwN w0 w' q p M L) := ret_mono (tleft h.swap) fun _ h => h.swap
end
set_option maxRecDepth 100000 in
set_option maxHeartbeats 8000000 in
theorem slots_any (an bn : Nat) (v : Value) (l : List Cll) (w : World) (ha8 : an < 256) (hb8 : bn < 256) (h : Arg w v l) : Calls Try.prog 5 #[.int .u8 (an : Int), .int .u8 (bn : Int), v] w (Ret (.bool true) (Below w.heap.size w)) := by
  obtain ⟨pa, cap, rfl, hlc, hmax, hc⟩ := h
  obtain ⟨n, hn'⟩ : ∃ n, l.length = n := ⟨_, rfl⟩
  rw [hn'] at hlc ⊢
  have HC := Lib.hid hc
  clear hc
  by_cases hf : (150 : Int) < (n : Int)
  case pos =>
    have b1 : (n : Int) ≤ 9223372036854775807 := by omega
    go_enter Try.func5, Try.ntmps5
    have F0 : Below w.heap.size w w := Below.refl _ _
    repeat (first | with_reducible apply wpList_nil | with_reducible apply seq_region | with_reducible apply wp_region_lit | with_reducible apply wp_seq | ((with_reducible apply seq_q); (focus rfl); (focus (simp [go_sem, effAt, ↓IntWalk.iteOmega, *]; (try go_ints); (first | (with_reducible exact effUpon_val) | (with_reducible exact effUpon_skip)))); (focus ((simp only [Act.put, List.setIfInBounds_toArray, List.set_cons_zero, List.set_cons_succ]; rfl)))) | ((with_reducible apply seq_s); (focus rfl); (focus ((simp only [Act.put, List.setIfInBounds_toArray, List.set_cons_zero, List.set_cons_succ]; rfl)))) | with_reducible apply wp_block | with_reducible apply wp_skip | with_reducible apply wp_exit | with_reducible apply wp_ret | ((with_reducible apply wp_cond_true); (focus (first | rfl | (simp [go_sem, *]; done)))) | ((with_reducible apply wp_cond_false); (focus (first | rfl | (simp [go_sem, *]; done)))) | (simp only [Exit.then, Exit.inBlock, ↓reduceIte, Nat.reduceEqDiff]))
    ((with_reducible apply seq_e (Below w.heap.size w)); (focus rfl); (focus (simp only [effAt]; simp [go_sem]; (with_reducible exact effUpon_enter (works_any _)))); (focus ((simp only [Act.put, List.setIfInBounds_toArray, List.set_cons_zero, List.set_cons_succ]; rfl))))
    intro w1 hs
    have Fw1 := F0.trans (hs.mono F0.size)
    clear hs F0
    repeat (first | with_reducible apply wpList_nil | with_reducible apply seq_region | with_reducible apply wp_region_lit | with_reducible apply wp_seq | ((with_reducible apply seq_q); (focus rfl); (focus (simp [go_sem, effAt, ↓IntWalk.iteOmega, *]; (try go_ints); (first | (with_reducible exact effUpon_val) | (with_reducible exact effUpon_skip)))); (focus ((simp only [Act.put, List.setIfInBounds_toArray, List.set_cons_zero, List.set_cons_succ]; rfl)))) | ((with_reducible apply seq_s); (focus rfl); (focus ((simp only [Act.put, List.setIfInBounds_toArray, List.set_cons_zero, List.set_cons_succ]; rfl)))) | with_reducible apply wp_block | with_reducible apply wp_skip | with_reducible apply wp_exit | with_reducible apply wp_ret | ((with_reducible apply wp_cond_true); (focus (first | rfl | (simp [go_sem, *]; done)))) | ((with_reducible apply wp_cond_false); (focus (first | rfl | (simp [go_sem, *]; done)))) | (simp only [Exit.then, Exit.inBlock, ↓reduceIte, Nat.reduceEqDiff]))
    go_ret
    exact ⟨rfl, by assumption⟩
  have b1 : (n : Int) ≤ 150 := by omega
  have a1 : (an : Int) < 256 := by omega
  have a2 : (bn : Int) < 256 := by omega
  have hN1 := fun u => new_abs (1 + an) (by omega) (by omega) u
  have hN2 := fun u => new_abs (1 + bn) (by omega) (by omega) u
  simp only [show ((1 + an : Nat) : Int) = 1 + (an : Int) from Int.natCast_add 1 an] at hN1
  simp only [show ((1 + bn : Nat) : Int) = 1 + (bn : Int) from Int.natCast_add 1 bn] at hN2
  go_enter Try.func5, Try.ntmps5
  have F0 : Below w.heap.size w w := Below.refl _ _
  repeat (first | with_reducible apply wpList_nil | with_reducible apply seq_region | with_reducible apply wp_region_lit | with_reducible apply wp_seq | ((with_reducible apply seq_q); (focus rfl); (focus (simp [go_sem, effAt, ↓IntWalk.iteOmega, *]; (try go_ints); (first | (with_reducible exact effUpon_val) | (with_reducible exact effUpon_skip)))); (focus ((simp only [Act.put, List.setIfInBounds_toArray, List.set_cons_zero, List.set_cons_succ]; rfl)))) | ((with_reducible apply seq_s); (focus rfl); (focus ((simp only [Act.put, List.setIfInBounds_toArray, List.set_cons_zero, List.set_cons_succ]; rfl)))) | with_reducible apply wp_block | with_reducible apply wp_skip | with_reducible apply wp_exit | with_reducible apply wp_ret | ((with_reducible apply wp_cond_true); (focus (first | rfl | (simp [go_sem, *]; done)))) | ((with_reducible apply wp_cond_false); (focus (first | rfl | (simp [go_sem, *]; done)))) | (simp only [Exit.then, Exit.inBlock, ↓reduceIte, Nat.reduceEqDiff]))
  with_reducible apply seq_e (fun w' => Wheel (fun j => w.heap.size ≤ j ∧ j < w'.heap.size) w' (w.heap.size + 2) (fun _ => 0) ∧ Below w.heap.size w w')
  (focus (first | exact wanted_none rfl | exact wanted_yes rfl rfl rfl))
  (focus (simp only [effAt]; simp [go_sem]; (with_reducible exact effUpon_enter (hN1 w))))
  (focus ((simp only [Act.put, List.setIfInBounds_toArray, List.set_cons_zero, List.set_cons_succ]; rfl)))
  rintro x1 ⟨hW1, hb1⟩
  clear F0
  have Fx1 : Below x1.heap.size x1 x1 := Below.refl _ _
  repeat (first | with_reducible apply wpList_nil | with_reducible apply seq_region | with_reducible apply wp_region_lit | with_reducible apply wp_seq | ((with_reducible apply seq_q); (focus rfl); (focus (simp [go_sem, effAt, ↓IntWalk.iteOmega, *]; (try go_ints); (first | (with_reducible exact effUpon_val) | (with_reducible exact effUpon_skip)))); (focus ((simp only [Act.put, List.setIfInBounds_toArray, List.set_cons_zero, List.set_cons_succ]; rfl)))) | ((with_reducible apply seq_s); (focus rfl); (focus ((simp only [Act.put, List.setIfInBounds_toArray, List.set_cons_zero, List.set_cons_succ]; rfl)))) | with_reducible apply wp_block | with_reducible apply wp_skip | with_reducible apply wp_exit | with_reducible apply wp_ret | ((with_reducible apply wp_cond_true); (focus (first | rfl | (simp [go_sem, *]; done)))) | ((with_reducible apply wp_cond_false); (focus (first | rfl | (simp [go_sem, *]; done)))) | (simp only [Exit.then, Exit.inBlock, ↓reduceIte, Nat.reduceEqDiff]))
  with_reducible apply seq_e (fun w' => Wheel (fun j => x1.heap.size ≤ j ∧ j < w'.heap.size) w' (x1.heap.size + 2) (fun _ => 0) ∧ Below x1.heap.size x1 w')
  (focus (first | exact wanted_none rfl | exact wanted_yes rfl rfl rfl))
  (focus (simp only [effAt]; simp [go_sem]; (with_reducible exact effUpon_enter (hN2 x1))))
  (focus ((simp only [Act.put, List.setIfInBounds_toArray, List.set_cons_zero, List.set_cons_succ]; rfl)))
  rintro x2 ⟨hW2, hb2⟩
  have zb1 := hb1.size
  have hS : TwN w x2 (w.heap.size + 2) (x1.heap.size + 2) (fun _ => 0) (fun _ => 0) := ⟨_, _, hW1.below hb2, hW2, fun j hj hg => by have h1 := hj.2; have h2 := hg.1; omega, fun j hj => hj.1, fun j hj => by have := hj.1; omega, hb1.trans (hb2.mono hb1.size)⟩
  obtain ⟨p, hp⟩ : ∃ p, w.heap.size + 2 = p := ⟨_, rfl⟩
  obtain ⟨q, hq⟩ : ∃ p, x1.heap.size + 2 = p := ⟨_, rfl⟩
  rw [hp, hq] at hS ⊢
  clear hp hq hW1 hb1 hW2 hb2 zb1 hN1 hN2
  have Fx2 : Below x2.heap.size x2 x2 := Below.refl _ _
  repeat (first | with_reducible apply wpList_nil | with_reducible apply seq_region | with_reducible apply wp_region_lit | with_reducible apply wp_seq | ((with_reducible apply seq_q); (focus rfl); (focus (simp [go_sem, effAt, ↓IntWalk.iteOmega, *]; (try go_ints); (first | (with_reducible exact effUpon_val) | (with_reducible exact effUpon_skip)))); (focus ((simp only [Act.put, List.setIfInBounds_toArray, List.set_cons_zero, List.set_cons_succ]; rfl)))) | ((with_reducible apply seq_s); (focus rfl); (focus ((simp only [Act.put, List.setIfInBounds_toArray, List.set_cons_zero, List.set_cons_succ]; rfl)))) | with_reducible apply wp_block | with_reducible apply wp_skip | with_reducible apply wp_exit | with_reducible apply wp_ret | ((with_reducible apply wp_cond_true); (focus (first | rfl | (simp [go_sem, *]; done)))) | ((with_reducible apply wp_cond_false); (focus (first | rfl | (simp [go_sem, *]; done)))) | (simp only [Exit.then, Exit.inBlock, ↓reduceIte, Nat.reduceEqDiff]))
  go_loopg [9] n (fun qq v9 wr => ∃ (i : Nat) (L : Nat → Nat), v9 = .int .i64 (i : Int) ∧ i + qq = n ∧ TwN w wr p q L L)
  case atStart => exact ⟨0, _, rfl, by omega, hS⟩
  case round =>
    rename_i J K hJ hK
    clear hS
    obtain ⟨i, L, rfl, hi, hS⟩ := hrel
    by_cases hlt : i < n
    case neg =>
      have hlt' : ¬ (i : Int) < (n : Int) := by omega
      have hb := hS.bel
      clear hJ hK
      skip
      have Fwr : Below wr.heap.size wr wr := Below.refl _ _
      repeat (first | with_reducible apply wpList_nil | with_reducible apply seq_region | with_reducible apply wp_region_lit | with_reducible apply wp_seq | ((with_reducible apply seq_q); (focus rfl); (focus (simp [go_sem, effAt, ↓IntWalk.iteOmega, *]; (try go_ints); (first | (with_reducible exact effUpon_val) | (with_reducible exact effUpon_skip)))); (focus ((simp only [Act.put, List.setIfInBounds_toArray, List.set_cons_zero, List.set_cons_succ]; rfl)))) | ((with_reducible apply seq_s); (focus rfl); (focus ((simp only [Act.put, List.setIfInBounds_toArray, List.set_cons_zero, List.set_cons_succ]; rfl)))) | with_reducible apply wp_block | with_reducible apply wp_skip | with_reducible apply wp_exit | with_reducible apply wp_ret | ((with_reducible apply wp_cond_true); (focus (first | rfl | (simp [go_sem, *]; done)))) | ((with_reducible apply wp_cond_false); (focus (first | rfl | (simp [go_sem, *]; done)))) | (simp only [Exit.then, Exit.inBlock, ↓reduceIte, Nat.reduceEqDiff]))
      ((with_reducible apply seq_e (Below wr.heap.size wr)); (focus rfl); (focus (simp only [effAt]; simp [go_sem]; (with_reducible exact effUpon_enter (works_any _)))); (focus ((simp only [Act.put, List.setIfInBounds_toArray, List.set_cons_zero, List.set_cons_succ]; rfl))))
      intro w1 hs
      have Fw1 := Fwr.trans (hs.mono Fwr.size)
      clear hs Fwr
      repeat (first | with_reducible apply wpList_nil | with_reducible apply seq_region | with_reducible apply wp_region_lit | with_reducible apply wp_seq | ((with_reducible apply seq_q); (focus rfl); (focus (simp [go_sem, effAt, ↓IntWalk.iteOmega, *]; (try go_ints); (first | (with_reducible exact effUpon_val) | (with_reducible exact effUpon_skip)))); (focus ((simp only [Act.put, List.setIfInBounds_toArray, List.set_cons_zero, List.set_cons_succ]; rfl)))) | ((with_reducible apply seq_s); (focus rfl); (focus ((simp only [Act.put, List.setIfInBounds_toArray, List.set_cons_zero, List.set_cons_succ]; rfl)))) | with_reducible apply wp_block | with_reducible apply wp_skip | with_reducible apply wp_exit | with_reducible apply wp_ret | ((with_reducible apply wp_cond_true); (focus (first | rfl | (simp [go_sem, *]; done)))) | ((with_reducible apply wp_cond_false); (focus (first | rfl | (simp [go_sem, *]; done)))) | (simp only [Exit.then, Exit.inBlock, ↓reduceIte, Nat.reduceEqDiff]))
      go_ret
      exact ⟨rfl, hb.trans (Below.mono (by assumption) hb.size)⟩
    case pos =>
      have hlt' : (i : Int) < (n : Int) := by omega
      obtain ⟨c, hce⟩ : ∃ c, l[i]? = some c := ⟨_, List.getElem?_eq_getElem (by omega)⟩
      obtain ⟨a, ga, o, rfl, hao, hag, c0, c1, c2, d1, d2, d3⟩ := HC.out i c hce
      clear hce
      obtain ⟨d, id, nn⟩ := c
      dsimp only at c0 c1 c2 d1 d2 d3
      have C0 := Lib.hid c0
      have C1 := Lib.hid c1
      have C2 := Lib.hid c2
      clear c0 c1 c2
      obtain ⟨m, hm⟩ : ∃ m, d % 5 = m := ⟨_, rfl⟩
      have hmI : Int.tmod (d : Int) 5 = (m : Int) := by rw [← hm]; rfl
      have hdI : (d : Int) < 256 := by omega
      have hidI : (id : Int) < 256 := by omega
      have hm5 : (m : Int) < 5 := by omega
      have hb := hS.bel
      have c0 := (hb.cell (p := ⟨ga, o, none⟩) hag).trans C0.out
      clear hm
      by_cases hm0 : m = 0
      case pos =>
        subst hm0
        by_cases hn : nn < 1 ∨ 65535 < nn
        case pos =>
          skip
          have Fwr : Below wr.heap.size wr wr := Below.refl _ _
          repeat (first | with_reducible apply wpList_nil | with_reducible apply seq_region | with_reducible apply wp_region_lit | with_reducible apply wp_seq | ((with_reducible apply seq_q); (focus rfl); (focus (simp [go_sem, effAt, ↓IntWalk.iteOmega, *]; (try go_ints); (first | (with_reducible exact effUpon_val) | (with_reducible exact effUpon_skip)))); (focus ((simp only [Act.put, List.setIfInBounds_toArray, List.set_cons_zero, List.set_cons_succ]; rfl)))) | ((with_reducible apply seq_s); (focus rfl); (focus ((simp only [Act.put, List.setIfInBounds_toArray, List.set_cons_zero, List.set_cons_succ]; rfl)))) | with_reducible apply wp_block | with_reducible apply wp_skip | with_reducible apply wp_exit | with_reducible apply wp_ret | ((with_reducible apply wp_cond_true); (focus (first | rfl | (simp [go_sem, *]; done)))) | ((with_reducible apply wp_cond_false); (focus (first | rfl | (simp [go_sem, *]; done)))) | (simp only [Exit.then, Exit.inBlock, ↓reduceIte, Nat.reduceEqDiff]))
          refine wp_region_eff (S := Below w.heap.size w) (I := (· = World.drew wr)) (E := fun i => [11, 23].contains i) (by kernel_rfl) (by kernel_rfl) rfl (fun _ h => by subst h; exact hS.bel.drew) ?_
          repeat (first | ((with_reducible apply lex_q); (focus rfl); (focus rfl); (focus (intro w' hS; have c0 := (hS.cell (p := ⟨ga, o, none⟩) hag).trans C0.out; have c1 := (hS.cell (p := ⟨ga, o + 1, none⟩) hag).trans C1.out; have c2 := (hS.cell (p := ⟨ga, o + 2, none⟩) hag).trans C2.out; simp [go_sem, effAt, ↓IntWalk.iteOmega, *]; (try go_ints); (first | (with_reducible exact effUpon_val) | (with_reducible exact effUpon_skip)))); (focus ((simp only [Act.put, List.setIfInBounds_toArray, List.set_cons_zero, List.set_cons_succ]; rfl)))) | ((with_reducible apply lex_s); (focus rfl); (focus ((simp only [Act.put, List.setIfInBounds_toArray, List.set_cons_zero, List.set_cons_succ]; rfl)))))
          with_reducible apply lex_e (fun w' => TwN w w' p q L L)
          (focus (first | exact wanted_none rfl | exact wanted_yes rfl rfl rfl))
          focus rfl
          focus
            intro w' hw
            subst hw
            simp only [effAt]
            simp [go_sem]
            (with_reducible exact effUpon_enter (tset_no (x := (id : Int)) (hS.below (Below.refl _ _).drew) hn))
          focus exact fun _ h => h.bel
          (focus (first | (apply put_some rfl; focus (conv => lhs; dsimp only [List.set_cons_zero, List.set_cons_succ]) <;> rfl) | exact put_none rfl))
          repeat (first | ((with_reducible apply lex_q); (focus rfl); (focus rfl); (focus (intro w' hS; have c0 := (hS.cell (p := ⟨ga, o, none⟩) hag).trans C0.out; have c1 := (hS.cell (p := ⟨ga, o + 1, none⟩) hag).trans C1.out; have c2 := (hS.cell (p := ⟨ga, o + 2, none⟩) hag).trans C2.out; simp [go_sem, effAt, ↓IntWalk.iteOmega, *]; (try go_ints); (first | (with_reducible exact effUpon_val) | (with_reducible exact effUpon_skip)))); (focus ((simp only [Act.put, List.setIfInBounds_toArray, List.set_cons_zero, List.set_cons_succ]; rfl)))) | ((with_reducible apply lex_s); (focus rfl); (focus ((simp only [Act.put, List.setIfInBounds_toArray, List.set_cons_zero, List.set_cons_succ]; rfl)))))
          with_reducible apply lex_e (fun w' => TwN w w' p q L L)
          (focus (first | exact wanted_none rfl | exact wanted_yes rfl rfl rfl))
          focus rfl
          focus
            intro w' hw
            simp only [effAt]
            simp [go_sem]
            (with_reducible exact effUpon_enter (tset_no' (x := (id : Int)) hw hn))
          focus exact fun _ h => h.bel
          (focus (first | (apply put_some rfl; focus (conv => lhs; dsimp only [List.set_cons_zero, List.set_cons_succ]) <;> rfl) | exact put_none rfl))
          repeat (first | ((with_reducible apply lex_q); (focus rfl); (focus rfl); (focus (intro w' hS; have c0 := (hS.cell (p := ⟨ga, o, none⟩) hag).trans C0.out; have c1 := (hS.cell (p := ⟨ga, o + 1, none⟩) hag).trans C1.out; have c2 := (hS.cell (p := ⟨ga, o + 2, none⟩) hag).trans C2.out; simp [go_sem, effAt, ↓IntWalk.iteOmega, *]; (try go_ints); (first | (with_reducible exact effUpon_val) | (with_reducible exact effUpon_skip)))); (focus ((simp only [Act.put, List.setIfInBounds_toArray, List.set_cons_zero, List.set_cons_succ]; rfl)))) | ((with_reducible apply lex_s); (focus rfl); (focus ((simp only [Act.put, List.setIfInBounds_toArray, List.set_cons_zero, List.set_cons_succ]; rfl)))))
          with_reducible apply lex_nil
          rintro u hS2
          clear hS hb c0
          try clear hc1 hc2
          have hS := hS2
          clear hS2
          skip
          have Fu : Below u.heap.size u u := Below.refl _ _
          repeat (first | with_reducible apply wpList_nil | with_reducible apply seq_region | with_reducible apply wp_region_lit | with_reducible apply wp_seq | ((with_reducible apply seq_q); (focus rfl); (focus (simp [go_sem, effAt, ↓IntWalk.iteOmega, *]; (try go_ints); (first | (with_reducible exact effUpon_val) | (with_reducible exact effUpon_skip)))); (focus ((simp only [Act.put, List.setIfInBounds_toArray, List.set_cons_zero, List.set_cons_succ]; rfl)))) | ((with_reducible apply seq_s); (focus rfl); (focus ((simp only [Act.put, List.setIfInBounds_toArray, List.set_cons_zero, List.set_cons_succ]; rfl)))) | with_reducible apply wp_block | with_reducible apply wp_skip | with_reducible apply wp_exit | with_reducible apply wp_ret | ((with_reducible apply wp_cond_true); (focus (first | rfl | (simp [go_sem, *]; done)))) | ((with_reducible apply wp_cond_false); (focus (first | rfl | (simp [go_sem, *]; done)))) | (simp only [Exit.then, Exit.inBlock, ↓reduceIte, Nat.reduceEqDiff]))
          obtain ⟨lv, hlv⟩ : ∃ x, L id = x := ⟨_, rfl⟩
          obtain ⟨cv, hcv⟩ : ∃ x, cnt L = x := ⟨_, rfl⟩
          have hq1 := fun (u : World) (h : TwN w u p q L L) => tcount h
          have hq2 := fun (u : World) (h : TwN w u p q L L) => tcount' h
          have hq3 := fun (u : World) (h : TwN w u p q L L) => tleft (k := id) h
          have hq4 := fun (u : World) (h : TwN w u p q L L) => tleft' (k := id) h
          rw [hcv] at hq1 hq2
          rw [hlv] at hq3 hq4
          clear hlv hcv
          refine wp_region_eff (S := Below w.heap.size w) (I := (· = World.drew u)) (E := fun i => [4, 6, 16, 23].contains i) (by kernel_rfl) (by kernel_rfl) rfl (fun _ h => by subst h; exact hS.bel.drew) ?_
          repeat (first | ((with_reducible apply lex_q); (focus rfl); (focus rfl); (focus (intro w' hS; have c0 := (hS.cell (p := ⟨ga, o, none⟩) hag).trans C0.out; have c1 := (hS.cell (p := ⟨ga, o + 1, none⟩) hag).trans C1.out; have c2 := (hS.cell (p := ⟨ga, o + 2, none⟩) hag).trans C2.out; simp [go_sem, effAt, ↓IntWalk.iteOmega, *]; (try go_ints); (first | (with_reducible exact effUpon_val) | (with_reducible exact effUpon_skip)))); (focus ((simp only [Act.put, List.setIfInBounds_toArray, List.set_cons_zero, List.set_cons_succ]; rfl)))) | ((with_reducible apply lex_s); (focus rfl); (focus ((simp only [Act.put, List.setIfInBounds_toArray, List.set_cons_zero, List.set_cons_succ]; rfl)))))
          with_reducible apply lex_e (fun w' => TwN w w' p q L L)
          (focus (first | exact wanted_none rfl | exact wanted_yes rfl rfl rfl))
          focus rfl
          focus
            intro w' hw
            subst hw
            simp only [effAt]
            simp [go_sem]
            (with_reducible exact effUpon_enter (hq1 _ (hS.below (Below.refl _ _).drew)))
          focus exact fun _ h => h.bel
          (focus (first | (apply put_some rfl; focus (conv => lhs; dsimp only [List.set_cons_zero, List.set_cons_succ]) <;> rfl) | exact put_none rfl))
          repeat (first | ((with_reducible apply lex_q); (focus rfl); (focus rfl); (focus (intro w' hS; have c0 := (hS.cell (p := ⟨ga, o, none⟩) hag).trans C0.out; have c1 := (hS.cell (p := ⟨ga, o + 1, none⟩) hag).trans C1.out; have c2 := (hS.cell (p := ⟨ga, o + 2, none⟩) hag).trans C2.out; simp [go_sem, effAt, ↓IntWalk.iteOmega, *]; (try go_ints); (first | (with_reducible exact effUpon_val) | (with_reducible exact effUpon_skip)))); (focus ((simp only [Act.put, List.setIfInBounds_toArray, List.set_cons_zero, List.set_cons_succ]; rfl)))) | ((with_reducible apply lex_s); (focus rfl); (focus ((simp only [Act.put, List.setIfInBounds_toArray, List.set_cons_zero, List.set_cons_succ]; rfl)))))
          with_reducible apply lex_e (fun w' => TwN w w' p q L L)
          (focus (first | exact wanted_none rfl | exact wanted_yes rfl rfl rfl))
          focus rfl
          focus
            intro w' hw
            simp only [effAt]
            simp [go_sem]
            (with_reducible exact effUpon_enter (hq2 _ hw))
          focus exact fun _ h => h.bel
          (focus (first | (apply put_some rfl; focus (conv => lhs; dsimp only [List.set_cons_zero, List.set_cons_succ]) <;> rfl) | exact put_none rfl))
          repeat (first | ((with_reducible apply lex_q); (focus rfl); (focus rfl); (focus (intro w' hS; have c0 := (hS.cell (p := ⟨ga, o, none⟩) hag).trans C0.out; have c1 := (hS.cell (p := ⟨ga, o + 1, none⟩) hag).trans C1.out; have c2 := (hS.cell (p := ⟨ga, o + 2, none⟩) hag).trans C2.out; simp [go_sem, effAt, ↓IntWalk.iteOmega, *]; (try go_ints); (first | (with_reducible exact effUpon_val) | (with_reducible exact effUpon_skip)))); (focus ((simp only [Act.put, List.setIfInBounds_toArray, List.set_cons_zero, List.set_cons_succ]; rfl)))) | ((with_reducible apply lex_s); (focus rfl); (focus ((simp only [Act.put, List.setIfInBounds_toArray, List.set_cons_zero, List.set_cons_succ]; rfl)))))
          with_reducible apply lex_e (fun w' => TwN w w' p q L L)
          (focus (first | exact wanted_none rfl | exact wanted_yes rfl rfl rfl))
          focus rfl
          focus
            intro w' hw
            simp only [effAt]
            simp [go_sem]
            (with_reducible exact effUpon_enter (hq3 _ hw))
          focus exact fun _ h => h.bel
          (focus (first | (apply put_some rfl; focus (conv => lhs; dsimp only [List.set_cons_zero, List.set_cons_succ]) <;> rfl) | exact put_none rfl))
          repeat (first | ((with_reducible apply lex_q); (focus rfl); (focus rfl); (focus (intro w' hS; have c0 := (hS.cell (p := ⟨ga, o, none⟩) hag).trans C0.out; have c1 := (hS.cell (p := ⟨ga, o + 1, none⟩) hag).trans C1.out; have c2 := (hS.cell (p := ⟨ga, o + 2, none⟩) hag).trans C2.out; simp [go_sem, effAt, ↓IntWalk.iteOmega, *]; (try go_ints); (first | (with_reducible exact effUpon_val) | (with_reducible exact effUpon_skip)))); (focus ((simp only [Act.put, List.setIfInBounds_toArray, List.set_cons_zero, List.set_cons_succ]; rfl)))) | ((with_reducible apply lex_s); (focus rfl); (focus ((simp only [Act.put, List.setIfInBounds_toArray, List.set_cons_zero, List.set_cons_succ]; rfl)))))
          with_reducible apply lex_e (fun w' => TwN w w' p q L L)
          (focus (first | exact wanted_none rfl | exact wanted_yes rfl rfl rfl))
          focus rfl
          focus
            intro w' hw
            simp only [effAt]
            simp [go_sem]
            (with_reducible exact effUpon_enter (hq4 _ hw))
          focus exact fun _ h => h.bel
          (focus (first | (apply put_some rfl; focus (conv => lhs; dsimp only [List.set_cons_zero, List.set_cons_succ]) <;> rfl) | exact put_none rfl))
          repeat (first | ((with_reducible apply lex_q); (focus rfl); (focus rfl); (focus (intro w' hS; have c0 := (hS.cell (p := ⟨ga, o, none⟩) hag).trans C0.out; have c1 := (hS.cell (p := ⟨ga, o + 1, none⟩) hag).trans C1.out; have c2 := (hS.cell (p := ⟨ga, o + 2, none⟩) hag).trans C2.out; simp [go_sem, effAt, ↓IntWalk.iteOmega, *]; (try go_ints); (first | (with_reducible exact effUpon_val) | (with_reducible exact effUpon_skip)))); (focus ((simp only [Act.put, List.setIfInBounds_toArray, List.set_cons_zero, List.set_cons_succ]; rfl)))) | ((with_reducible apply lex_s); (focus rfl); (focus ((simp only [Act.put, List.setIfInBounds_toArray, List.set_cons_zero, List.set_cons_succ]; rfl)))))
          with_reducible apply lex_nil
          rintro y2 hS3
          clear hS hq1 hq2 hq3 hq4
          have Fy2 : Below y2.heap.size y2 y2 := Below.refl _ _
          repeat (first | with_reducible apply wpList_nil | with_reducible apply seq_region | with_reducible apply wp_region_lit | with_reducible apply wp_seq | ((with_reducible apply seq_q); (focus rfl); (focus (simp [go_sem, effAt, ↓IntWalk.iteOmega, *]; (try go_ints); (first | (with_reducible exact effUpon_val) | (with_reducible exact effUpon_skip)))); (focus ((simp only [Act.put, List.setIfInBounds_toArray, List.set_cons_zero, List.set_cons_succ]; rfl)))) | ((with_reducible apply seq_s); (focus rfl); (focus ((simp only [Act.put, List.setIfInBounds_toArray, List.set_cons_zero, List.set_cons_succ]; rfl)))) | with_reducible apply wp_block | with_reducible apply wp_skip | with_reducible apply wp_exit | with_reducible apply wp_ret | ((with_reducible apply wp_cond_true); (focus (first | rfl | (simp [go_sem, *]; done)))) | ((with_reducible apply wp_cond_false); (focus (first | rfl | (simp [go_sem, *]; done)))) | (simp only [Exit.then, Exit.inBlock, ↓reduceIte, Nat.reduceEqDiff]))
          refine hK _ _ (Handed.intro (gk - 1) ?measure (hJ _ _ _ ?_))
          rotate_left
          (repeat apply Exists.intro)
          refine ⟨?rel, rfl⟩
          case rel => exact ⟨i + 1, L, by go_num, by omega, hS3⟩
          case measure => omega
        case neg =>
          obtain ⟨tn, rfl⟩ : ∃ tn : Nat, nn = (tn : Int) := ⟨nn.toNat, by omega⟩
          have ht1 : 1 ≤ tn := by omega
          have ht2 : tn ≤ 65535 := by omega
          clear hn d3
          skip
          have Fwr : Below wr.heap.size wr wr := Below.refl _ _
          repeat (first | with_reducible apply wpList_nil | with_reducible apply seq_region | with_reducible apply wp_region_lit | with_reducible apply wp_seq | ((with_reducible apply seq_q); (focus rfl); (focus (simp [go_sem, effAt, ↓IntWalk.iteOmega, *]; (try go_ints); (first | (with_reducible exact effUpon_val) | (with_reducible exact effUpon_skip)))); (focus ((simp only [Act.put, List.setIfInBounds_toArray, List.set_cons_zero, List.set_cons_succ]; rfl)))) | ((with_reducible apply seq_s); (focus rfl); (focus ((simp only [Act.put, List.setIfInBounds_toArray, List.set_cons_zero, List.set_cons_succ]; rfl)))) | with_reducible apply wp_block | with_reducible apply wp_skip | with_reducible apply wp_exit | with_reducible apply wp_ret | ((with_reducible apply wp_cond_true); (focus (first | rfl | (simp [go_sem, *]; done)))) | ((with_reducible apply wp_cond_false); (focus (first | rfl | (simp [go_sem, *]; done)))) | (simp only [Exit.then, Exit.inBlock, ↓reduceIte, Nat.reduceEqDiff]))
          refine wp_region_eff (S := Below w.heap.size w) (I := (· = World.drew wr)) (E := fun i => [11, 23].contains i) (by kernel_rfl) (by kernel_rfl) rfl (fun _ h => by subst h; exact hS.bel.drew) ?_
          repeat (first | ((with_reducible apply lex_q); (focus rfl); (focus rfl); (focus (intro w' hS; have c0 := (hS.cell (p := ⟨ga, o, none⟩) hag).trans C0.out; have c1 := (hS.cell (p := ⟨ga, o + 1, none⟩) hag).trans C1.out; have c2 := (hS.cell (p := ⟨ga, o + 2, none⟩) hag).trans C2.out; simp [go_sem, effAt, ↓IntWalk.iteOmega, *]; (try go_ints); (first | (with_reducible exact effUpon_val) | (with_reducible exact effUpon_skip)))); (focus ((simp only [Act.put, List.setIfInBounds_toArray, List.set_cons_zero, List.set_cons_succ]; rfl)))) | ((with_reducible apply lex_s); (focus rfl); (focus ((simp only [Act.put, List.setIfInBounds_toArray, List.set_cons_zero, List.set_cons_succ]; rfl)))))
          with_reducible apply lex_e (fun w' => TwN w w' p q (upd L id tn) L)
          (focus (first | exact wanted_none rfl | exact wanted_yes rfl rfl rfl))
          focus rfl
          focus
            intro w' hw
            subst hw
            simp only [effAt]
            simp [go_sem]
            (with_reducible exact effUpon_enter (tset (hS.below (Below.refl _ _).drew) d2 ht1 ht2))
          focus exact fun _ h => h.bel
          (focus (first | (apply put_some rfl; focus (conv => lhs; dsimp only [List.set_cons_zero, List.set_cons_succ]) <;> rfl) | exact put_none rfl))
          repeat (first | ((with_reducible apply lex_q); (focus rfl); (focus rfl); (focus (intro w' hS; have c0 := (hS.cell (p := ⟨ga, o, none⟩) hag).trans C0.out; have c1 := (hS.cell (p := ⟨ga, o + 1, none⟩) hag).trans C1.out; have c2 := (hS.cell (p := ⟨ga, o + 2, none⟩) hag).trans C2.out; simp [go_sem, effAt, ↓IntWalk.iteOmega, *]; (try go_ints); (first | (with_reducible exact effUpon_val) | (with_reducible exact effUpon_skip)))); (focus ((simp only [Act.put, List.setIfInBounds_toArray, List.set_cons_zero, List.set_cons_succ]; rfl)))) | ((with_reducible apply lex_s); (focus rfl); (focus ((simp only [Act.put, List.setIfInBounds_toArray, List.set_cons_zero, List.set_cons_succ]; rfl)))))
          with_reducible apply lex_e (fun w' => TwN w w' p q (upd L id tn) (upd L id tn))
          (focus (first | exact wanted_none rfl | exact wanted_yes rfl rfl rfl))
          focus rfl
          focus
            intro w' hw
            simp only [effAt]
            simp [go_sem]
            (with_reducible exact effUpon_enter (tset' hw d2 ht1 ht2))
          focus exact fun _ h => h.bel
          (focus (first | (apply put_some rfl; focus (conv => lhs; dsimp only [List.set_cons_zero, List.set_cons_succ]) <;> rfl) | exact put_none rfl))
          repeat (first | ((with_reducible apply lex_q); (focus rfl); (focus rfl); (focus (intro w' hS; have c0 := (hS.cell (p := ⟨ga, o, none⟩) hag).trans C0.out; have c1 := (hS.cell (p := ⟨ga, o + 1, none⟩) hag).trans C1.out; have c2 := (hS.cell (p := ⟨ga, o + 2, none⟩) hag).trans C2.out; simp [go_sem, effAt, ↓IntWalk.iteOmega, *]; (try go_ints); (first | (with_reducible exact effUpon_val) | (with_reducible exact effUpon_skip)))); (focus ((simp only [Act.put, List.setIfInBounds_toArray, List.set_cons_zero, List.set_cons_succ]; rfl)))) | ((with_reducible apply lex_s); (focus rfl); (focus ((simp only [Act.put, List.setIfInBounds_toArray, List.set_cons_zero, List.set_cons_succ]; rfl)))))
          with_reducible apply lex_nil
          rintro u hS2
          clear hS hb c0
          try clear hc1 hc2
          have hS := hS2
          clear hS2
          skip
          have Fu : Below u.heap.size u u := Below.refl _ _
          repeat (first | with_reducible apply wpList_nil | with_reducible apply seq_region | with_reducible apply wp_region_lit | with_reducible apply wp_seq | ((with_reducible apply seq_q); (focus rfl); (focus (simp [go_sem, effAt, ↓IntWalk.iteOmega, *]; (try go_ints); (first | (with_reducible exact effUpon_val) | (with_reducible exact effUpon_skip)))); (focus ((simp only [Act.put, List.setIfInBounds_toArray, List.set_cons_zero, List.set_cons_succ]; rfl)))) | ((with_reducible apply seq_s); (focus rfl); (focus ((simp only [Act.put, List.setIfInBounds_toArray, List.set_cons_zero, List.set_cons_succ]; rfl)))) | with_reducible apply wp_block | with_reducible apply wp_skip | with_reducible apply wp_exit | with_reducible apply wp_ret | ((with_reducible apply wp_cond_true); (focus (first | rfl | (simp [go_sem, *]; done)))) | ((with_reducible apply wp_cond_false); (focus (first | rfl | (simp [go_sem, *]; done)))) | (simp only [Exit.then, Exit.inBlock, ↓reduceIte, Nat.reduceEqDiff]))
          obtain ⟨lv, hlv⟩ : ∃ x, (upd L id tn) id = x := ⟨_, rfl⟩
          obtain ⟨cv, hcv⟩ : ∃ x, cnt (upd L id tn) = x := ⟨_, rfl⟩
          have hq1 := fun (u : World) (h : TwN w u p q (upd L id tn) (upd L id tn)) => tcount h
          have hq2 := fun (u : World) (h : TwN w u p q (upd L id tn) (upd L id tn)) => tcount' h
          have hq3 := fun (u : World) (h : TwN w u p q (upd L id tn) (upd L id tn)) => tleft (k := id) h
          have hq4 := fun (u : World) (h : TwN w u p q (upd L id tn) (upd L id tn)) => tleft' (k := id) h
          rw [hcv] at hq1 hq2
          rw [hlv] at hq3 hq4
          clear hlv hcv
          refine wp_region_eff (S := Below w.heap.size w) (I := (· = World.drew u)) (E := fun i => [4, 6, 16, 23].contains i) (by kernel_rfl) (by kernel_rfl) rfl (fun _ h => by subst h; exact hS.bel.drew) ?_
          repeat (first | ((with_reducible apply lex_q); (focus rfl); (focus rfl); (focus (intro w' hS; have c0 := (hS.cell (p := ⟨ga, o, none⟩) hag).trans C0.out; have c1 := (hS.cell (p := ⟨ga, o + 1, none⟩) hag).trans C1.out; have c2 := (hS.cell (p := ⟨ga, o + 2, none⟩) hag).trans C2.out; simp [go_sem, effAt, ↓IntWalk.iteOmega, *]; (try go_ints); (first | (with_reducible exact effUpon_val) | (with_reducible exact effUpon_skip)))); (focus ((simp only [Act.put, List.setIfInBounds_toArray, List.set_cons_zero, List.set_cons_succ]; rfl)))) | ((with_reducible apply lex_s); (focus rfl); (focus ((simp only [Act.put, List.setIfInBounds_toArray, List.set_cons_zero, List.set_cons_succ]; rfl)))))
          with_reducible apply lex_e (fun w' => TwN w w' p q (upd L id tn) (upd L id tn))
          (focus (first | exact wanted_none rfl | exact wanted_yes rfl rfl rfl))
          focus rfl
          focus
            intro w' hw
            subst hw
            simp only [effAt]
            simp [go_sem]
            (with_reducible exact effUpon_enter (hq1 _ (hS.below (Below.refl _ _).drew)))
          focus exact fun _ h => h.bel
          (focus (first | (apply put_some rfl; focus (conv => lhs; dsimp only [List.set_cons_zero, List.set_cons_succ]) <;> rfl) | exact put_none rfl))
          repeat (first | ((with_reducible apply lex_q); (focus rfl); (focus rfl); (focus (intro w' hS; have c0 := (hS.cell (p := ⟨ga, o, none⟩) hag).trans C0.out; have c1 := (hS.cell (p := ⟨ga, o + 1, none⟩) hag).trans C1.out; have c2 := (hS.cell (p := ⟨ga, o + 2, none⟩) hag).trans C2.out; simp [go_sem, effAt, ↓IntWalk.iteOmega, *]; (try go_ints); (first | (with_reducible exact effUpon_val) | (with_reducible exact effUpon_skip)))); (focus ((simp only [Act.put, List.setIfInBounds_toArray, List.set_cons_zero, List.set_cons_succ]; rfl)))) | ((with_reducible apply lex_s); (focus rfl); (focus ((simp only [Act.put, List.setIfInBounds_toArray, List.set_cons_zero, List.set_cons_succ]; rfl)))))
          with_reducible apply lex_e (fun w' => TwN w w' p q (upd L id tn) (upd L id tn))
          (focus (first | exact wanted_none rfl | exact wanted_yes rfl rfl rfl))
          focus rfl
          focus
            intro w' hw
            simp only [effAt]
            simp [go_sem]
            (with_reducible exact effUpon_enter (hq2 _ hw))
          focus exact fun _ h => h.bel
          (focus (first | (apply put_some rfl; focus (conv => lhs; dsimp only [List.set_cons_zero, List.set_cons_succ]) <;> rfl) | exact put_none rfl))
          repeat (first | ((with_reducible apply lex_q); (focus rfl); (focus rfl); (focus (intro w' hS; have c0 := (hS.cell (p := ⟨ga, o, none⟩) hag).trans C0.out; have c1 := (hS.cell (p := ⟨ga, o + 1, none⟩) hag).trans C1.out; have c2 := (hS.cell (p := ⟨ga, o + 2, none⟩) hag).trans C2.out; simp [go_sem, effAt, ↓IntWalk.iteOmega, *]; (try go_ints); (first | (with_reducible exact effUpon_val) | (with_reducible exact effUpon_skip)))); (focus ((simp only [Act.put, List.setIfInBounds_toArray, List.set_cons_zero, List.set_cons_succ]; rfl)))) | ((with_reducible apply lex_s); (focus rfl); (focus ((simp only [Act.put, List.setIfInBounds_toArray, List.set_cons_zero, List.set_cons_succ]; rfl)))))
          with_reducible apply lex_e (fun w' => TwN w w' p q (upd L id tn) (upd L id tn))
          (focus (first | exact wanted_none rfl | exact wanted_yes rfl rfl rfl))
          focus rfl
          focus
            intro w' hw
            simp only [effAt]
            simp [go_sem]
            (with_reducible exact effUpon_enter (hq3 _ hw))
          focus exact fun _ h => h.bel
          (focus (first | (apply put_some rfl; focus (conv => lhs; dsimp only [List.set_cons_zero, List.set_cons_succ]) <;> rfl) | exact put_none rfl))
          repeat (first | ((with_reducible apply lex_q); (focus rfl); (focus rfl); (focus (intro w' hS; have c0 := (hS.cell (p := ⟨ga, o, none⟩) hag).trans C0.out; have c1 := (hS.cell (p := ⟨ga, o + 1, none⟩) hag).trans C1.out; have c2 := (hS.cell (p := ⟨ga, o + 2, none⟩) hag).trans C2.out; simp [go_sem, effAt, ↓IntWalk.iteOmega, *]; (try go_ints); (first | (with_reducible exact effUpon_val) | (with_reducible exact effUpon_skip)))); (focus ((simp only [Act.put, List.setIfInBounds_toArray, List.set_cons_zero, List.set_cons_succ]; rfl)))) | ((with_reducible apply lex_s); (focus rfl); (focus ((simp only [Act.put, List.setIfInBounds_toArray, List.set_cons_zero, List.set_cons_succ]; rfl)))))
          with_reducible apply lex_e (fun w' => TwN w w' p q (upd L id tn) (upd L id tn))
          (focus (first | exact wanted_none rfl | exact wanted_yes rfl rfl rfl))
          focus rfl
          focus
            intro w' hw
            simp only [effAt]
            simp [go_sem]
            (with_reducible exact effUpon_enter (hq4 _ hw))
          focus exact fun _ h => h.bel
          (focus (first | (apply put_some rfl; focus (conv => lhs; dsimp only [List.set_cons_zero, List.set_cons_succ]) <;> rfl) | exact put_none rfl))
          repeat (first | ((with_reducible apply lex_q); (focus rfl); (focus rfl); (focus (intro w' hS; have c0 := (hS.cell (p := ⟨ga, o, none⟩) hag).trans C0.out; have c1 := (hS.cell (p := ⟨ga, o + 1, none⟩) hag).trans C1.out; have c2 := (hS.cell (p := ⟨ga, o + 2, none⟩) hag).trans C2.out; simp [go_sem, effAt, ↓IntWalk.iteOmega, *]; (try go_ints); (first | (with_reducible exact effUpon_val) | (with_reducible exact effUpon_skip)))); (focus ((simp only [Act.put, List.setIfInBounds_toArray, List.set_cons_zero, List.set_cons_succ]; rfl)))) | ((with_reducible apply lex_s); (focus rfl); (focus ((simp only [Act.put, List.setIfInBounds_toArray, List.set_cons_zero, List.set_cons_succ]; rfl)))))
          with_reducible apply lex_nil
          rintro y2 hS3
          clear hS hq1 hq2 hq3 hq4
          have Fy2 : Below y2.heap.size y2 y2 := Below.refl _ _
          repeat (first | with_reducible apply wpList_nil | with_reducible apply seq_region | with_reducible apply wp_region_lit | with_reducible apply wp_seq | ((with_reducible apply seq_q); (focus rfl); (focus (simp [go_sem, effAt, ↓IntWalk.iteOmega, *]; (try go_ints); (first | (with_reducible exact effUpon_val) | (with_reducible exact effUpon_skip)))); (focus ((simp only [Act.put, List.setIfInBounds_toArray, List.set_cons_zero, List.set_cons_succ]; rfl)))) | ((with_reducible apply seq_s); (focus rfl); (focus ((simp only [Act.put, List.setIfInBounds_toArray, List.set_cons_zero, List.set_cons_succ]; rfl)))) | with_reducible apply wp_block | with_reducible apply wp_skip | with_reducible apply wp_exit | with_reducible apply wp_ret | ((with_reducible apply wp_cond_true); (focus (first | rfl | (simp [go_sem, *]; done)))) | ((with_reducible apply wp_cond_false); (focus (first | rfl | (simp [go_sem, *]; done)))) | (simp only [Exit.then, Exit.inBlock, ↓reduceIte, Nat.reduceEqDiff]))
          refine hK _ _ (Handed.intro (gk - 1) ?measure (hJ _ _ _ ?_))
          rotate_left
          (repeat apply Exists.intro)
          refine ⟨?rel, rfl⟩
          case rel => exact ⟨i + 1, (upd L id tn), by go_num, by omega, hS3⟩
          case measure => omega
      case neg =>
        have e0 : ((m : Int) == 0) = false := by simpa using hm0
        by_cases hm1 : m = 1
        case pos =>
          subst hm1
          obtain ⟨bo, hbo⟩ : ∃ b, decide (L id ≠ 0) = b := ⟨_, rfl⟩
          have hc1 := fun (u : World) (M : Nat → Nat) (h : TwN w u p q L M) => tstop (k := id) h
          have hc2 := fun (u : World) (M : Nat → Nat) (h : TwN w u p q M L) => tstop' (k := id) h
          rw [hbo] at hc1 hc2
          clear hbo
          skip
          have Fwr : Below wr.heap.size wr wr := Below.refl _ _
          repeat (first | with_reducible apply wpList_nil | with_reducible apply seq_region | with_reducible apply wp_region_lit | with_reducible apply wp_seq | ((with_reducible apply seq_q); (focus rfl); (focus (simp [go_sem, effAt, ↓IntWalk.iteOmega, *]; (try go_ints); (first | (with_reducible exact effUpon_val) | (with_reducible exact effUpon_skip)))); (focus ((simp only [Act.put, List.setIfInBounds_toArray, List.set_cons_zero, List.set_cons_succ]; rfl)))) | ((with_reducible apply seq_s); (focus rfl); (focus ((simp only [Act.put, List.setIfInBounds_toArray, List.set_cons_zero, List.set_cons_succ]; rfl)))) | with_reducible apply wp_block | with_reducible apply wp_skip | with_reducible apply wp_exit | with_reducible apply wp_ret | ((with_reducible apply wp_cond_true); (focus (first | rfl | (simp [go_sem, *]; done)))) | ((with_reducible apply wp_cond_false); (focus (first | rfl | (simp [go_sem, *]; done)))) | (simp only [Exit.then, Exit.inBlock, ↓reduceIte, Nat.reduceEqDiff]))
          refine wp_region_eff (S := Below w.heap.size w) (I := (· = World.drew wr)) (E := fun i => [6, 13].contains i) (by kernel_rfl) (by kernel_rfl) rfl (fun _ h => by subst h; exact hS.bel.drew) ?_
          repeat (first | ((with_reducible apply lex_q); (focus rfl); (focus rfl); (focus (intro w' hS; have c0 := (hS.cell (p := ⟨ga, o, none⟩) hag).trans C0.out; have c1 := (hS.cell (p := ⟨ga, o + 1, none⟩) hag).trans C1.out; have c2 := (hS.cell (p := ⟨ga, o + 2, none⟩) hag).trans C2.out; simp [go_sem, effAt, ↓IntWalk.iteOmega, *]; (try go_ints); (first | (with_reducible exact effUpon_val) | (with_reducible exact effUpon_skip)))); (focus ((simp only [Act.put, List.setIfInBounds_toArray, List.set_cons_zero, List.set_cons_succ]; rfl)))) | ((with_reducible apply lex_s); (focus rfl); (focus ((simp only [Act.put, List.setIfInBounds_toArray, List.set_cons_zero, List.set_cons_succ]; rfl)))))
          with_reducible apply lex_e (fun w' => TwN w w' p q (upd L id 0) L)
          (focus (first | exact wanted_none rfl | exact wanted_yes rfl rfl rfl))
          focus rfl
          focus
            intro w' hw
            subst hw
            simp only [effAt]
            simp [go_sem]
            (with_reducible exact effUpon_enter (hc1 _ _ (hS.below (Below.refl _ _).drew)))
          focus exact fun _ h => h.bel
          (focus (first | (apply put_some rfl; focus (conv => lhs; dsimp only [List.set_cons_zero, List.set_cons_succ]) <;> rfl) | exact put_none rfl))
          repeat (first | ((with_reducible apply lex_q); (focus rfl); (focus rfl); (focus (intro w' hS; have c0 := (hS.cell (p := ⟨ga, o, none⟩) hag).trans C0.out; have c1 := (hS.cell (p := ⟨ga, o + 1, none⟩) hag).trans C1.out; have c2 := (hS.cell (p := ⟨ga, o + 2, none⟩) hag).trans C2.out; simp [go_sem, effAt, ↓IntWalk.iteOmega, *]; (try go_ints); (first | (with_reducible exact effUpon_val) | (with_reducible exact effUpon_skip)))); (focus ((simp only [Act.put, List.setIfInBounds_toArray, List.set_cons_zero, List.set_cons_succ]; rfl)))) | ((with_reducible apply lex_s); (focus rfl); (focus ((simp only [Act.put, List.setIfInBounds_toArray, List.set_cons_zero, List.set_cons_succ]; rfl)))))
          with_reducible apply lex_e (fun w' => TwN w w' p q (upd L id 0) (upd L id 0))
          (focus (first | exact wanted_none rfl | exact wanted_yes rfl rfl rfl))
          focus rfl
          focus
            intro w' hw
            simp only [effAt]
            simp [go_sem]
            (with_reducible exact effUpon_enter (hc2 _ _ hw))
          focus exact fun _ h => h.bel
          (focus (first | (apply put_some rfl; focus (conv => lhs; dsimp only [List.set_cons_zero, List.set_cons_succ]) <;> rfl) | exact put_none rfl))
          repeat (first | ((with_reducible apply lex_q); (focus rfl); (focus rfl); (focus (intro w' hS; have c0 := (hS.cell (p := ⟨ga, o, none⟩) hag).trans C0.out; have c1 := (hS.cell (p := ⟨ga, o + 1, none⟩) hag).trans C1.out; have c2 := (hS.cell (p := ⟨ga, o + 2, none⟩) hag).trans C2.out; simp [go_sem, effAt, ↓IntWalk.iteOmega, *]; (try go_ints); (first | (with_reducible exact effUpon_val) | (with_reducible exact effUpon_skip)))); (focus ((simp only [Act.put, List.setIfInBounds_toArray, List.set_cons_zero, List.set_cons_succ]; rfl)))) | ((with_reducible apply lex_s); (focus rfl); (focus ((simp only [Act.put, List.setIfInBounds_toArray, List.set_cons_zero, List.set_cons_succ]; rfl)))))
          with_reducible apply lex_nil
          rintro u hS2
          clear hS hb c0
          try clear hc1 hc2
          have hS := hS2
          clear hS2
          skip
          have Fu : Below u.heap.size u u := Below.refl _ _
          repeat (first | with_reducible apply wpList_nil | with_reducible apply seq_region | with_reducible apply wp_region_lit | with_reducible apply wp_seq | ((with_reducible apply seq_q); (focus rfl); (focus (simp [go_sem, effAt, ↓IntWalk.iteOmega, *]; (try go_ints); (first | (with_reducible exact effUpon_val) | (with_reducible exact effUpon_skip)))); (focus ((simp only [Act.put, List.setIfInBounds_toArray, List.set_cons_zero, List.set_cons_succ]; rfl)))) | ((with_reducible apply seq_s); (focus rfl); (focus ((simp only [Act.put, List.setIfInBounds_toArray, List.set_cons_zero, List.set_cons_succ]; rfl)))) | with_reducible apply wp_block | with_reducible apply wp_skip | with_reducible apply wp_exit | with_reducible apply wp_ret | ((with_reducible apply wp_cond_true); (focus (first | rfl | (simp [go_sem, *]; done)))) | ((with_reducible apply wp_cond_false); (focus (first | rfl | (simp [go_sem, *]; done)))) | (simp only [Exit.then, Exit.inBlock, ↓reduceIte, Nat.reduceEqDiff]))
          obtain ⟨lv, hlv⟩ : ∃ x, (upd L id 0) id = x := ⟨_, rfl⟩
          obtain ⟨cv, hcv⟩ : ∃ x, cnt (upd L id 0) = x := ⟨_, rfl⟩
          have hq1 := fun (u : World) (h : TwN w u p q (upd L id 0) (upd L id 0)) => tcount h
          have hq2 := fun (u : World) (h : TwN w u p q (upd L id 0) (upd L id 0)) => tcount' h
          have hq3 := fun (u : World) (h : TwN w u p q (upd L id 0) (upd L id 0)) => tleft (k := id) h
          have hq4 := fun (u : World) (h : TwN w u p q (upd L id 0) (upd L id 0)) => tleft' (k := id) h
          rw [hcv] at hq1 hq2
          rw [hlv] at hq3 hq4
          clear hlv hcv
          refine wp_region_eff (S := Below w.heap.size w) (I := (· = World.drew u)) (E := fun i => [4, 6, 16, 23].contains i) (by kernel_rfl) (by kernel_rfl) rfl (fun _ h => by subst h; exact hS.bel.drew) ?_
          repeat (first | ((with_reducible apply lex_q); (focus rfl); (focus rfl); (focus (intro w' hS; have c0 := (hS.cell (p := ⟨ga, o, none⟩) hag).trans C0.out; have c1 := (hS.cell (p := ⟨ga, o + 1, none⟩) hag).trans C1.out; have c2 := (hS.cell (p := ⟨ga, o + 2, none⟩) hag).trans C2.out; simp [go_sem, effAt, ↓IntWalk.iteOmega, *]; (try go_ints); (first | (with_reducible exact effUpon_val) | (with_reducible exact effUpon_skip)))); (focus ((simp only [Act.put, List.setIfInBounds_toArray, List.set_cons_zero, List.set_cons_succ]; rfl)))) | ((with_reducible apply lex_s); (focus rfl); (focus ((simp only [Act.put, List.setIfInBounds_toArray, List.set_cons_zero, List.set_cons_succ]; rfl)))))
          with_reducible apply lex_e (fun w' => TwN w w' p q (upd L id 0) (upd L id 0))
          (focus (first | exact wanted_none rfl | exact wanted_yes rfl rfl rfl))
          focus rfl
          focus
            intro w' hw
            subst hw
            simp only [effAt]
            simp [go_sem]
            (with_reducible exact effUpon_enter (hq1 _ (hS.below (Below.refl _ _).drew)))
          focus exact fun _ h => h.bel
          (focus (first | (apply put_some rfl; focus (conv => lhs; dsimp only [List.set_cons_zero, List.set_cons_succ]) <;> rfl) | exact put_none rfl))
          repeat (first | ((with_reducible apply lex_q); (focus rfl); (focus rfl); (focus (intro w' hS; have c0 := (hS.cell (p := ⟨ga, o, none⟩) hag).trans C0.out; have c1 := (hS.cell (p := ⟨ga, o + 1, none⟩) hag).trans C1.out; have c2 := (hS.cell (p := ⟨ga, o + 2, none⟩) hag).trans C2.out; simp [go_sem, effAt, ↓IntWalk.iteOmega, *]; (try go_ints); (first | (with_reducible exact effUpon_val) | (with_reducible exact effUpon_skip)))); (focus ((simp only [Act.put, List.setIfInBounds_toArray, List.set_cons_zero, List.set_cons_succ]; rfl)))) | ((with_reducible apply lex_s); (focus rfl); (focus ((simp only [Act.put, List.setIfInBounds_toArray, List.set_cons_zero, List.set_cons_succ]; rfl)))))
          with_reducible apply lex_e (fun w' => TwN w w' p q (upd L id 0) (upd L id 0))
          (focus (first | exact wanted_none rfl | exact wanted_yes rfl rfl rfl))
          focus rfl
          focus
            intro w' hw
            simp only [effAt]
            simp [go_sem]
            (with_reducible exact effUpon_enter (hq2 _ hw))
          focus exact fun _ h => h.bel
          (focus (first | (apply put_some rfl; focus (conv => lhs; dsimp only [List.set_cons_zero, List.set_cons_succ]) <;> rfl) | exact put_none rfl))
          repeat (first | ((with_reducible apply lex_q); (focus rfl); (focus rfl); (focus (intro w' hS; have c0 := (hS.cell (p := ⟨ga, o, none⟩) hag).trans C0.out; have c1 := (hS.cell (p := ⟨ga, o + 1, none⟩) hag).trans C1.out; have c2 := (hS.cell (p := ⟨ga, o + 2, none⟩) hag).trans C2.out; simp [go_sem, effAt, ↓IntWalk.iteOmega, *]; (try go_ints); (first | (with_reducible exact effUpon_val) | (with_reducible exact effUpon_skip)))); (focus ((simp only [Act.put, List.setIfInBounds_toArray, List.set_cons_zero, List.set_cons_succ]; rfl)))) | ((with_reducible apply lex_s); (focus rfl); (focus ((simp only [Act.put, List.setIfInBounds_toArray, List.set_cons_zero, List.set_cons_succ]; rfl)))))
          with_reducible apply lex_e (fun w' => TwN w w' p q (upd L id 0) (upd L id 0))
          (focus (first | exact wanted_none rfl | exact wanted_yes rfl rfl rfl))
          focus rfl
          focus
            intro w' hw
            simp only [effAt]
            simp [go_sem]
            (with_reducible exact effUpon_enter (hq3 _ hw))
          focus exact fun _ h => h.bel
          (focus (first | (apply put_some rfl; focus (conv => lhs; dsimp only [List.set_cons_zero, List.set_cons_succ]) <;> rfl) | exact put_none rfl))
          repeat (first | ((with_reducible apply lex_q); (focus rfl); (focus rfl); (focus (intro w' hS; have c0 := (hS.cell (p := ⟨ga, o, none⟩) hag).trans C0.out; have c1 := (hS.cell (p := ⟨ga, o + 1, none⟩) hag).trans C1.out; have c2 := (hS.cell (p := ⟨ga, o + 2, none⟩) hag).trans C2.out; simp [go_sem, effAt, ↓IntWalk.iteOmega, *]; (try go_ints); (first | (with_reducible exact effUpon_val) | (with_reducible exact effUpon_skip)))); (focus ((simp only [Act.put, List.setIfInBounds_toArray, List.set_cons_zero, List.set_cons_succ]; rfl)))) | ((with_reducible apply lex_s); (focus rfl); (focus ((simp only [Act.put, List.setIfInBounds_toArray, List.set_cons_zero, List.set_cons_succ]; rfl)))))
          with_reducible apply lex_e (fun w' => TwN w w' p q (upd L id 0) (upd L id 0))
          (focus (first | exact wanted_none rfl | exact wanted_yes rfl rfl rfl))
          focus rfl
          focus
            intro w' hw
            simp only [effAt]
            simp [go_sem]
            (with_reducible exact effUpon_enter (hq4 _ hw))
          focus exact fun _ h => h.bel
          (focus (first | (apply put_some rfl; focus (conv => lhs; dsimp only [List.set_cons_zero, List.set_cons_succ]) <;> rfl) | exact put_none rfl))
          repeat (first | ((with_reducible apply lex_q); (focus rfl); (focus rfl); (focus (intro w' hS; have c0 := (hS.cell (p := ⟨ga, o, none⟩) hag).trans C0.out; have c1 := (hS.cell (p := ⟨ga, o + 1, none⟩) hag).trans C1.out; have c2 := (hS.cell (p := ⟨ga, o + 2, none⟩) hag).trans C2.out; simp [go_sem, effAt, ↓IntWalk.iteOmega, *]; (try go_ints); (first | (with_reducible exact effUpon_val) | (with_reducible exact effUpon_skip)))); (focus ((simp only [Act.put, List.setIfInBounds_toArray, List.set_cons_zero, List.set_cons_succ]; rfl)))) | ((with_reducible apply lex_s); (focus rfl); (focus ((simp only [Act.put, List.setIfInBounds_toArray, List.set_cons_zero, List.set_cons_succ]; rfl)))))
          with_reducible apply lex_nil
          rintro y2 hS3
          clear hS hq1 hq2 hq3 hq4
          have Fy2 : Below y2.heap.size y2 y2 := Below.refl _ _
          repeat (first | with_reducible apply wpList_nil | with_reducible apply seq_region | with_reducible apply wp_region_lit | with_reducible apply wp_seq | ((with_reducible apply seq_q); (focus rfl); (focus (simp [go_sem, effAt, ↓IntWalk.iteOmega, *]; (try go_ints); (first | (with_reducible exact effUpon_val) | (with_reducible exact effUpon_skip)))); (focus ((simp only [Act.put, List.setIfInBounds_toArray, List.set_cons_zero, List.set_cons_succ]; rfl)))) | ((with_reducible apply seq_s); (focus rfl); (focus ((simp only [Act.put, List.setIfInBounds_toArray, List.set_cons_zero, List.set_cons_succ]; rfl)))) | with_reducible apply wp_block | with_reducible apply wp_skip | with_reducible apply wp_exit | with_reducible apply wp_ret | ((with_reducible apply wp_cond_true); (focus (first | rfl | (simp [go_sem, *]; done)))) | ((with_reducible apply wp_cond_false); (focus (first | rfl | (simp [go_sem, *]; done)))) | (simp only [Exit.then, Exit.inBlock, ↓reduceIte, Nat.reduceEqDiff]))
          refine hK _ _ (Handed.intro (gk - 1) ?measure (hJ _ _ _ ?_))
          rotate_left
          (repeat apply Exists.intro)
          refine ⟨?rel, rfl⟩
          case rel => exact ⟨i + 1, (upd L id 0), by go_num, by omega, hS3⟩
          case measure => omega
        case neg =>
          have e1 : ((m : Int) == 1) = false := by simp; omega
          obtain ⟨F, G, hT⟩ := hS
          have hGl := hT.wy.2
          have hlen := dueL_len L
          skip
          have Fwr : Below wr.heap.size wr wr := Below.refl _ _
          repeat (first | with_reducible apply wpList_nil | with_reducible apply seq_region | with_reducible apply wp_region_lit | with_reducible apply wp_seq | ((with_reducible apply seq_q); (focus rfl); (focus (simp [go_sem, effAt, ↓IntWalk.iteOmega, *]; (try go_ints); (first | (with_reducible exact effUpon_val) | (with_reducible exact effUpon_skip)))); (focus ((simp only [Act.put, List.setIfInBounds_toArray, List.set_cons_zero, List.set_cons_succ]; rfl)))) | ((with_reducible apply seq_s); (focus rfl); (focus ((simp only [Act.put, List.setIfInBounds_toArray, List.set_cons_zero, List.set_cons_succ]; rfl)))) | with_reducible apply wp_block | with_reducible apply wp_skip | with_reducible apply wp_exit | with_reducible apply wp_ret | ((with_reducible apply wp_cond_true); (focus (first | rfl | (simp [go_sem, *]; done)))) | ((with_reducible apply wp_cond_false); (focus (first | rfl | (simp [go_sem, *]; done)))) | (simp only [Exit.then, Exit.inBlock, ↓reduceIte, Nat.reduceEqDiff]))
          with_reducible refine seq_ev2 (ttick hT) ?hw ?hrun ?_
          case hw => first | exact wanted_none rfl | exact wanted_yes rfl rfl rfl
          case hrun => simp [go_sem]
          rintro v1 u1 ⟨⟨hS1, hT1⟩, hD1⟩
          obtain ⟨ao, ca, hv1, _⟩ := octs_slice hD1.octs
          rw [List.length_map] at hv1
          subst hv1
          (with_reducible apply ex_put)
          (focus ((simp only [Act.put, List.setIfInBounds_toArray, List.set_cons_zero, List.set_cons_succ]; rfl)))
          clear hT c0
          have Fu1 : Below u1.heap.size u1 u1 := Below.refl _ _
          repeat (first | with_reducible apply wpList_nil | with_reducible apply seq_region | with_reducible apply wp_region_lit | with_reducible apply wp_seq | ((with_reducible apply seq_q); (focus rfl); (focus (simp [go_sem, effAt, ↓IntWalk.iteOmega, *]; (try go_ints); (first | (with_reducible exact effUpon_val) | (with_reducible exact effUpon_skip)))); (focus ((simp only [Act.put, List.setIfInBounds_toArray, List.set_cons_zero, List.set_cons_succ]; rfl)))) | ((with_reducible apply seq_s); (focus rfl); (focus ((simp only [Act.put, List.setIfInBounds_toArray, List.set_cons_zero, List.set_cons_succ]; rfl)))) | with_reducible apply wp_block | with_reducible apply wp_skip | with_reducible apply wp_exit | with_reducible apply wp_ret | ((with_reducible apply wp_cond_true); (focus (first | rfl | (simp [go_sem, *]; done)))) | ((with_reducible apply wp_cond_false); (focus (first | rfl | (simp [go_sem, *]; done)))) | (simp only [Exit.then, Exit.inBlock, ↓reduceIte, Nat.reduceEqDiff]))
          with_reducible refine seq_ev2 (ttick hS1.swap) ?hw ?hrun ?_
          case hw => first | exact wanted_none rfl | exact wanted_yes rfl rfl rfl
          case hrun => simp [go_sem]
          rintro v2 u2 ⟨⟨hS2, hT2⟩, hD2⟩
          have zT1 := hT1.size
          have hD3 := hD1.kept hT2 (fun j h1 h2 e => by rcases e with e | e; (have := hGl j e; omega); omega)
          have hO2 := hD2.octs
          obtain ⟨bo, cb, hv2, _⟩ := octs_slice hO2
          rw [List.length_map] at hv2
          subst hv2
          (with_reducible apply ex_put)
          (focus ((simp only [Act.put, List.setIfInBounds_toArray, List.set_cons_zero, List.set_cons_succ]; rfl)))
          have hSm := same_yes (va := .slice ao (dueL L).length ca) (vb := .slice bo (dueL L).length cb) (zs := (dueL L).map fun (k : Nat) => (k : Int)) hD3.octs hO2 (by rw [List.length_map]; omega)
          have hS2 : TwN w u2 p q (dec L) (dec L) := ⟨F, G, hS2.swap⟩
          generalize (dueL L).length = ln at *
          clear hS1 hT1 hD1 hT2 hD2 hD3 hO2
          have Fu2 : Below u2.heap.size u2 u2 := Below.refl _ _
          repeat (first | with_reducible apply wpList_nil | with_reducible apply seq_region | with_reducible apply wp_region_lit | with_reducible apply wp_seq | ((with_reducible apply seq_q); (focus rfl); (focus (simp [go_sem, effAt, ↓IntWalk.iteOmega, *]; (try go_ints); (first | (with_reducible exact effUpon_val) | (with_reducible exact effUpon_skip)))); (focus ((simp only [Act.put, List.setIfInBounds_toArray, List.set_cons_zero, List.set_cons_succ]; rfl)))) | ((with_reducible apply seq_s); (focus rfl); (focus ((simp only [Act.put, List.setIfInBounds_toArray, List.set_cons_zero, List.set_cons_succ]; rfl)))) | with_reducible apply wp_block | with_reducible apply wp_skip | with_reducible apply wp_exit | with_reducible apply wp_ret | ((with_reducible apply wp_cond_true); (focus (first | rfl | (simp [go_sem, *]; done)))) | ((with_reducible apply wp_cond_false); (focus (first | rfl | (simp [go_sem, *]; done)))) | (simp only [Exit.then, Exit.inBlock, ↓reduceIte, Nat.reduceEqDiff]))
          with_reducible apply seq_e (fun w' => TwN w w' p q (dec L) (dec L))
          (focus (first | exact wanted_none rfl | exact wanted_yes rfl rfl rfl))
          (focus (simp only [effAt]; simp [go_sem]; (with_reducible exact effUpon_enter (ret_mono hSm (fun _ hb => hS2.below hb)))))
          (focus ((simp only [Act.put, List.setIfInBounds_toArray, List.set_cons_zero, List.set_cons_succ]; rfl)))
          intro u hS
          clear hS2 hSm hb
          generalize dec L = L2 at hS ⊢
          skip
          have Fu : Below u.heap.size u u := Below.refl _ _
          repeat (first | with_reducible apply wpList_nil | with_reducible apply seq_region | with_reducible apply wp_region_lit | with_reducible apply wp_seq | ((with_reducible apply seq_q); (focus rfl); (focus (simp [go_sem, effAt, ↓IntWalk.iteOmega, *]; (try go_ints); (first | (with_reducible exact effUpon_val) | (with_reducible exact effUpon_skip)))); (focus ((simp only [Act.put, List.setIfInBounds_toArray, List.set_cons_zero, List.set_cons_succ]; rfl)))) | ((with_reducible apply seq_s); (focus rfl); (focus ((simp only [Act.put, List.setIfInBounds_toArray, List.set_cons_zero, List.set_cons_succ]; rfl)))) | with_reducible apply wp_block | with_reducible apply wp_skip | with_reducible apply wp_exit | with_reducible apply wp_ret | ((with_reducible apply wp_cond_true); (focus (first | rfl | (simp [go_sem, *]; done)))) | ((with_reducible apply wp_cond_false); (focus (first | rfl | (simp [go_sem, *]; done)))) | (simp only [Exit.then, Exit.inBlock, ↓reduceIte, Nat.reduceEqDiff]))
          obtain ⟨lv, hlv⟩ : ∃ x, L2 id = x := ⟨_, rfl⟩
          obtain ⟨cv, hcv⟩ : ∃ x, cnt L2 = x := ⟨_, rfl⟩
          have hq1 := fun (u : World) (h : TwN w u p q L2 L2) => tcount h
          have hq2 := fun (u : World) (h : TwN w u p q L2 L2) => tcount' h
          have hq3 := fun (u : World) (h : TwN w u p q L2 L2) => tleft (k := id) h
          have hq4 := fun (u : World) (h : TwN w u p q L2 L2) => tleft' (k := id) h
          rw [hcv] at hq1 hq2
          rw [hlv] at hq3 hq4
          clear hlv hcv
          refine wp_region_eff (S := Below w.heap.size w) (I := (· = World.drew u)) (E := fun i => [4, 6, 16, 23].contains i) (by kernel_rfl) (by kernel_rfl) rfl (fun _ h => by subst h; exact hS.bel.drew) ?_
          repeat (first | ((with_reducible apply lex_q); (focus rfl); (focus rfl); (focus (intro w' hS; have c0 := (hS.cell (p := ⟨ga, o, none⟩) hag).trans C0.out; have c1 := (hS.cell (p := ⟨ga, o + 1, none⟩) hag).trans C1.out; have c2 := (hS.cell (p := ⟨ga, o + 2, none⟩) hag).trans C2.out; simp [go_sem, effAt, ↓IntWalk.iteOmega, *]; (try go_ints); (first | (with_reducible exact effUpon_val) | (with_reducible exact effUpon_skip)))); (focus ((simp only [Act.put, List.setIfInBounds_toArray, List.set_cons_zero, List.set_cons_succ]; rfl)))) | ((with_reducible apply lex_s); (focus rfl); (focus ((simp only [Act.put, List.setIfInBounds_toArray, List.set_cons_zero, List.set_cons_succ]; rfl)))))
          with_reducible apply lex_e (fun w' => TwN w w' p q L2 L2)
          (focus (first | exact wanted_none rfl | exact wanted_yes rfl rfl rfl))
          focus rfl
          focus
            intro w' hw
            subst hw
            simp only [effAt]
            simp [go_sem]
            (with_reducible exact effUpon_enter (hq1 _ (hS.below (Below.refl _ _).drew)))
          focus exact fun _ h => h.bel
          (focus (first | (apply put_some rfl; focus (conv => lhs; dsimp only [List.set_cons_zero, List.set_cons_succ]) <;> rfl) | exact put_none rfl))
          repeat (first | ((with_reducible apply lex_q); (focus rfl); (focus rfl); (focus (intro w' hS; have c0 := (hS.cell (p := ⟨ga, o, none⟩) hag).trans C0.out; have c1 := (hS.cell (p := ⟨ga, o + 1, none⟩) hag).trans C1.out; have c2 := (hS.cell (p := ⟨ga, o + 2, none⟩) hag).trans C2.out; simp [go_sem, effAt, ↓IntWalk.iteOmega, *]; (try go_ints); (first | (with_reducible exact effUpon_val) | (with_reducible exact effUpon_skip)))); (focus ((simp only [Act.put, List.setIfInBounds_toArray, List.set_cons_zero, List.set_cons_succ]; rfl)))) | ((with_reducible apply lex_s); (focus rfl); (focus ((simp only [Act.put, List.setIfInBounds_toArray, List.set_cons_zero, List.set_cons_succ]; rfl)))))
          with_reducible apply lex_e (fun w' => TwN w w' p q L2 L2)
          (focus (first | exact wanted_none rfl | exact wanted_yes rfl rfl rfl))
          focus rfl
          focus
            intro w' hw
            simp only [effAt]
            simp [go_sem]
            (with_reducible exact effUpon_enter (hq2 _ hw))
          focus exact fun _ h => h.bel
          (focus (first | (apply put_some rfl; focus (conv => lhs; dsimp only [List.set_cons_zero, List.set_cons_succ]) <;> rfl) | exact put_none rfl))
          repeat (first | ((with_reducible apply lex_q); (focus rfl); (focus rfl); (focus (intro w' hS; have c0 := (hS.cell (p := ⟨ga, o, none⟩) hag).trans C0.out; have c1 := (hS.cell (p := ⟨ga, o + 1, none⟩) hag).trans C1.out; have c2 := (hS.cell (p := ⟨ga, o + 2, none⟩) hag).trans C2.out; simp [go_sem, effAt, ↓IntWalk.iteOmega, *]; (try go_ints); (first | (with_reducible exact effUpon_val) | (with_reducible exact effUpon_skip)))); (focus ((simp only [Act.put, List.setIfInBounds_toArray, List.set_cons_zero, List.set_cons_succ]; rfl)))) | ((with_reducible apply lex_s); (focus rfl); (focus ((simp only [Act.put, List.setIfInBounds_toArray, List.set_cons_zero, List.set_cons_succ]; rfl)))))
          with_reducible apply lex_e (fun w' => TwN w w' p q L2 L2)
          (focus (first | exact wanted_none rfl | exact wanted_yes rfl rfl rfl))
          focus rfl
          focus
            intro w' hw
            simp only [effAt]
            simp [go_sem]
            (with_reducible exact effUpon_enter (hq3 _ hw))
          focus exact fun _ h => h.bel
          (focus (first | (apply put_some rfl; focus (conv => lhs; dsimp only [List.set_cons_zero, List.set_cons_succ]) <;> rfl) | exact put_none rfl))
          repeat (first | ((with_reducible apply lex_q); (focus rfl); (focus rfl); (focus (intro w' hS; have c0 := (hS.cell (p := ⟨ga, o, none⟩) hag).trans C0.out; have c1 := (hS.cell (p := ⟨ga, o + 1, none⟩) hag).trans C1.out; have c2 := (hS.cell (p := ⟨ga, o + 2, none⟩) hag).trans C2.out; simp [go_sem, effAt, ↓IntWalk.iteOmega, *]; (try go_ints); (first | (with_reducible exact effUpon_val) | (with_reducible exact effUpon_skip)))); (focus ((simp only [Act.put, List.setIfInBounds_toArray, List.set_cons_zero, List.set_cons_succ]; rfl)))) | ((with_reducible apply lex_s); (focus rfl); (focus ((simp only [Act.put, List.setIfInBounds_toArray, List.set_cons_zero, List.set_cons_succ]; rfl)))))
          with_reducible apply lex_e (fun w' => TwN w w' p q L2 L2)
          (focus (first | exact wanted_none rfl | exact wanted_yes rfl rfl rfl))
          focus rfl
          focus
            intro w' hw
            simp only [effAt]
            simp [go_sem]
            (with_reducible exact effUpon_enter (hq4 _ hw))
          focus exact fun _ h => h.bel
          (focus (first | (apply put_some rfl; focus (conv => lhs; dsimp only [List.set_cons_zero, List.set_cons_succ]) <;> rfl) | exact put_none rfl))
          repeat (first | ((with_reducible apply lex_q); (focus rfl); (focus rfl); (focus (intro w' hS; have c0 := (hS.cell (p := ⟨ga, o, none⟩) hag).trans C0.out; have c1 := (hS.cell (p := ⟨ga, o + 1, none⟩) hag).trans C1.out; have c2 := (hS.cell (p := ⟨ga, o + 2, none⟩) hag).trans C2.out; simp [go_sem, effAt, ↓IntWalk.iteOmega, *]; (try go_ints); (first | (with_reducible exact effUpon_val) | (with_reducible exact effUpon_skip)))); (focus ((simp only [Act.put, List.setIfInBounds_toArray, List.set_cons_zero, List.set_cons_succ]; rfl)))) | ((with_reducible apply lex_s); (focus rfl); (focus ((simp only [Act.put, List.setIfInBounds_toArray, List.set_cons_zero, List.set_cons_succ]; rfl)))))
          with_reducible apply lex_nil
          rintro y2 hS3
          clear hS hq1 hq2 hq3 hq4
          have Fy2 : Below y2.heap.size y2 y2 := Below.refl _ _
          repeat (first | with_reducible apply wpList_nil | with_reducible apply seq_region | with_reducible apply wp_region_lit | with_reducible apply wp_seq | ((with_reducible apply seq_q); (focus rfl); (focus (simp [go_sem, effAt, ↓IntWalk.iteOmega, *]; (try go_ints); (first | (with_reducible exact effUpon_val) | (with_reducible exact effUpon_skip)))); (focus ((simp only [Act.put, List.setIfInBounds_toArray, List.set_cons_zero, List.set_cons_succ]; rfl)))) | ((with_reducible apply seq_s); (focus rfl); (focus ((simp only [Act.put, List.setIfInBounds_toArray, List.set_cons_zero, List.set_cons_succ]; rfl)))) | with_reducible apply wp_block | with_reducible apply wp_skip | with_reducible apply wp_exit | with_reducible apply wp_ret | ((with_reducible apply wp_cond_true); (focus (first | rfl | (simp [go_sem, *]; done)))) | ((with_reducible apply wp_cond_false); (focus (first | rfl | (simp [go_sem, *]; done)))) | (simp only [Exit.then, Exit.inBlock, ↓reduceIte, Nat.reduceEqDiff]))
          refine hK _ _ (Handed.intro (gk - 1) ?measure (hJ _ _ _ ?_))
          rotate_left
          (repeat apply Exists.intro)
          refine ⟨?rel, rfl⟩
          case rel => exact ⟨i + 1, L2, by go_num, by omega, hS3⟩
          case measure => omega
end Go.Proofs.Ytckjgdlceckhpaa
