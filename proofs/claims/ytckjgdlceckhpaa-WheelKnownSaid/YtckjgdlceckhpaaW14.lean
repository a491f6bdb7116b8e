/- A wheel beside the document's; the walk of does. -/
import Derived.Test.YtckjgdlceckhpaaW13
set_option linter.unusedSimpArgs false
set_option linter.unusedVariables false
namespace Go.Proofs.Ytckjgdlceckhpaa
open Go.RowKit Go.Eff
attribute [local irreducible] Go.wpList
structure St (F : Nat → Prop) (w : World) (p r la : Nat) (L M : Nat → Nat) : Prop where
  wh : Wheel F w p L
  rf : RefW w r la M
  nr : ¬ F r
  nl : ¬ F la
/-- from u to w: what may have turned; what the wheel's footprint is now -/
def Ev (F : Nat → Prop) (u : World) (F' : Nat → Prop) (w : World) (r la : Nat) : Prop := Turn (fun j => F j ∨ j = r ∨ j = la ∨ u.heap.size ≤ j) u w ∧ ∀ j, F' j → F j ∨ u.heap.size ≤ j
section
variable {F F' F'' : Nat → Prop} {w w' u : World} {p r la k t : Nat} {L M : Nat → Nat}
theorem Ev.refl : Ev F u F u r la := ⟨Turn.refl _, fun j hj => .inl hj⟩
theorem Ev.trans (h : Ev F u F' w r la) (k : Ev F' w F'' w' r la) : Ev F u F'' w' r la := by
  have hz := h.1.size
  refine ⟨h.1.trans (k.1.mono fun j hj => ?_), fun j hj => ?_⟩
  · rcases hj with hj | hj | hj | hj
    · rcases h.2 j hj with h | h
      · exact .inl h
      · exact .inr (.inr (.inr h))
    · exact .inr (.inl hj)
    · exact .inr (.inr (.inl hj))
    · exact .inr (.inr (.inr (by omega)))
  · rcases k.2 j hj with hj | hj
    · exact h.2 j hj
    · exact .inr (by omega)
theorem St.lts (h : St F w p r la L M) : r < w.heap.size ∧ la < w.heap.size := ⟨h.rf.hr.lt, h.rf.hl.lt⟩
theorem St.turn {T : Nat → Prop} (h : St F w p r la L M) (hT : Turn T w w') (hF : ∀ j, F j → ¬ T j) (hr : ¬ T r) (hl : ¬ T la) : St F w' p r la L M := ⟨h.wh.turn hT hF, h.rf.turn hT hr hl, h.nr, h.nl⟩
theorem St.below (h : St F w p r la L M) (hb : Below w.heap.size w w') : St F w' p r la L M := ⟨h.wh.below hb, h.rf.below hb, h.nr, h.nl⟩
theorem St.drew (h : St F w p r la L M) : St F w.drew p r la L M := h.below (Below.refl _ _).drew
theorem Ev.of_below (hb : Below u.heap.size u w) : Ev F u F w r la := ⟨Turn.of_below hb, fun j hj => .inl hj⟩
theorem Ev.undrew (h : Ev F u.drew F' w r la) : Ev F u F' w r la := ⟨h.1.undrew, h.2⟩
theorem Wheel.le (h : Wheel F w p L) (k : Nat) : L k ≤ 65535 := by
  obtain ⟨⟨s, _, _, _, h4⟩, _⟩ := h
  exact h4 k
theorem St.of_wheel (h : St F u p r la L M) {L' : Nat → Nat} (hw : Wheel F' w p L') (hT : Turn (fun j => F j ∨ u.heap.size ≤ j) u w) (hF : ∀ j, F' j → F j ∨ u.heap.size ≤ j) : St F' w p r la L' M ∧ Ev F u F' w r la := by
  obtain ⟨l1, l2⟩ := h.lts
  refine ⟨⟨hw, h.rf.turn hT (fun e => by rcases e with e | e; exact h.nr e; omega) (fun e => by rcases e with e | e; exact h.nl e; omega), fun e => ?_, fun e => ?_⟩, hT.mono (fun j hj => by rcases hj with hj | hj; exact .inl hj; exact .inr (.inr (.inr hj))), hF⟩
  · rcases hF r e with e | e
    · exact h.nr e
    · omega
  · rcases hF la e with e | e
    · exact h.nl e
    · omega
theorem sset (h : St F u p r la L M) (hk : k < 256) (ht : 1 ≤ t) (ht2 : t ≤ 65535) : Calls Try.prog 14 #[ptr p, .int .u8 (k : Int), .int .i64 (t : Int)] u (Ret (.int .i64 0) fun w' => ∃ F', St F' w' p r la (upd L k t) M ∧ Ev F u F' w' r la) := by
  refine (set_abs h.wh hk ht ht2).mono ?_
  rintro e w' ⟨he, hw, hT⟩
  exact ⟨he, _, h.of_wheel hw hT (fun j hj => by rcases hj with hj | hj; exact .inl hj; exact .inr hj.1)⟩
theorem sset_no (h : St F u p r la L M) {x n : Int} (hn : n < 1 ∨ 65535 < n) : Calls Try.prog 14 #[ptr p, .int .u8 x, .int .i64 n] u (Ret (.int .i64 2) fun w' => ∃ F', St F' w' p r la L M ∧ Ev F u F' w' r la) :=
  ret_mono (set_no p x n hn u) fun _ hb => ⟨F, h.below hb, Ev.of_below hb⟩
theorem sstop (h : St F u p r la L M) : Calls Try.prog 15 #[ptr p, .int .u8 (k : Int)] u (Ret (.bool (decide (L k ≠ 0))) fun w' => ∃ F', St F' w' p r la (upd L k 0) M ∧ Ev F u F' w' r la) := by
  refine (stop_abs h.wh).mono ?_
  rintro e w' ⟨he, hw, hT⟩
  exact ⟨he, _, h.of_wheel hw hT (fun j hj => .inl hj)⟩
theorem St.of_ref (h : St F u p r la L M) {M' : Nat → Nat} (hr : RefW w r la M') (hg : u.grownBy w (some la)) : St F w p r la L M' ∧ Ev F u F w r la := by
  have hT : Turn (fun j => j = la) u w := Turn.of_grown hg rfl
  exact ⟨⟨h.wh.turn hT (fun j hj e => h.nl (e ▸ hj)), hr, h.nr, h.nl⟩, hT.mono (fun j hj => .inr (.inr (.inl hj))), fun j hj => .inl hj⟩
theorem srset (h : St F u p r la L M) (hk : k < 256) (ht : 1 ≤ t) (ht2 : t ≤ 65535) : Calls Try.prog 18 #[ptr r, .int .u8 (k : Int), .int .i64 (t : Int)] u (Ret (.int .i64 0) fun w' => ∃ F', St F' w' p r la L (upd M k t) ∧ Ev F u F' w' r la) :=
  ret_mono (rset_yes h.rf hk ht ht2) fun _ hb => ⟨F, h.of_ref hb.1 hb.2⟩
theorem srset_no (h : St F u p r la L M) {x n : Int} (hn : n < 1 ∨ 65535 < n) : Calls Try.prog 18 #[ptr r, .int .u8 x, .int .i64 n] u (Ret (.int .i64 2) fun w' => ∃ F', St F' w' p r la L M ∧ Ev F u F' w' r la) :=
  ret_mono (rset_no r x n hn u) fun _ hb => ⟨F, h.below hb, Ev.of_below hb⟩
theorem srstop (h : St F u p r la L M) (hk : k < 256) : Calls Try.prog 19 #[ptr r, .int .u8 (k : Int)] u (Ret (.bool (decide (M k ≠ 0))) fun w' => ∃ F', St F' w' p r la L (upd M k 0) ∧ Ev F u F' w' r la) :=
  ret_mono (rstop_any h.rf hk) fun _ hb => ⟨F, h.of_ref hb.1 hb.2⟩
theorem stick (h : St F u p r la L M) : Calls Try.prog 16 #[ptr p] u (fun e w' => ∃ v, e = .returned v ∧ St F w' p r la (dec L) M ∧ Ev F u F w' r la ∧ DueR u.heap.size w' v (dueL L)) := by
  refine (tick_abs h.wh).mono ?_
  rintro e w' ⟨v, he, hw, hT, hd⟩
  obtain ⟨h1, h2⟩ := h.of_wheel hw hT (fun j hj => .inl hj)
  exact ⟨v, he, h1, h2, hd⟩
theorem srtick (h : St F u p r la L M) (hM : ∀ k, M k ≤ 65535) : Calls Try.prog 20 #[ptr r] u (fun e w' => ∃ v, e = .returned v ∧ (St F w' p r la L (dec M) ∧ Ev F u F w' r la ∧ u.grownBy w' (some la)) ∧ DueR u.heap.size w' v (dueL M)) := by
  refine (rtick_any h.rf hM).mono ?_
  rintro e w' ⟨v, he, hr, hg, hd⟩
  obtain ⟨h1, h2⟩ := h.of_ref hr hg
  exact ⟨v, he, ⟨h1, h2, hg⟩, hd⟩
end
theorem DueR.kept {base : Nat} {w w' : World} {v : Value} {ds : List Nat} {T : Nat → Prop} (h : DueR base w v ds) (hT : Turn T w w') (hn : ∀ j, base ≤ j → j < w.heap.size → ¬ T j) : DueR base w' v ds := by
  rcases h with h | ⟨g, cap, pad, h1, h2, h3⟩
  · exact .inl h
  · exact .inr ⟨g, cap, pad, h1, h2, h3.turn hT (hn g h2 h3.lt)⟩
theorem dueL_len (L : Nat → Nat) : (dueL L).length ≤ 256 := Nat.le_trans (List.length_filter_le _ _) (by simp)
def stepL (L : Nat → Nat) (d id : Nat) (n : Int) : Nat → Nat :=
  if d % 5 = 0 then (if n < 1 ∨ 65535 < n then L else upd L id n.toNat) else if d % 5 = 1 then upd L id 0 else dec L
set_option maxRecDepth 100000 in
set_option maxHeartbeats 8000000 in
theorem does_any {F : Nat → Prop} {w : World} {p r la d id : Nat} {n : Int} {L : Nat → Nat} (h : St F w p r la L L) (hd : d < 256) (hid : id < 256) (hn1 : -9223372036854775808 ≤ n) (hn2 : n ≤ 9223372036854775807) :
    Calls Try.prog 10 #[ptr p, ptr r, .agg #[.int .u8 (d : Int), .int .u8 (id : Int), .int .i64 n]] w (Ret (.bool true) fun w' => ∃ F', St F' w' p r la (stepL L d id n) (stepL L d id n) ∧ Ev F w F' w' r la) := by
  obtain ⟨m, hm⟩ : ∃ m, d % 5 = m := ⟨_, rfl⟩
  have hmI : Int.tmod (d : Int) 5 = (m : Int) := by rw [← hm]; rfl
  have hdI : (d : Int) < 256 := by omega
  have hm5 : (m : Int) < 5 := by omega
  unfold stepL
  rw [hm]
  clear hm
  go_enter Try.func10, Try.ntmps10
  have F0 : Below w.heap.size w w := Below.refl _ _
  with_reducible apply seq_region
  ((with_reducible apply seq_box); (focus rfl); (focus (simp [go_sem, effAt]; exact ⟨rfl, rfl⟩)); (focus ((simp only [Act.put, List.setIfInBounds_toArray, List.set_cons_zero, List.set_cons_succ]; rfl))))
  intro w1 hB_x hs
  have Fw1 := F0.trans (hs.mono F0.size)
  clear hs F0
  have hc_x := hB_x.cell
  have hx1 := hB_x.lt
  obtain ⟨xb, hxb⟩ : ∃ b, w.heap.size = b := ⟨_, rfl⟩
  have hEv0 : Ev F w F w1 r la := Ev.of_below Fw1
  have h1 := h.below Fw1
  have hnx : ¬ (F xb ∨ xb = r ∨ xb = la ∨ w1.heap.size ≤ xb) := by
    have := h.lts
    rintro (e | e | e | e)
    · have := h.wh.2 xb e; omega
    · omega
    · omega
    · omega
  rw [hxb] at hB_x hc_x ⊢
  have HNX := Lib.hid hnx
  clear hnx h
  by_cases hm0 : m = 0
  case pos =>
    subst hm0
    rw [if_pos rfl]
    by_cases hn : n < 1 ∨ 65535 < n
    case pos =>
      rw [if_pos hn]
      repeat (first | with_reducible apply wpList_nil | with_reducible apply seq_region | with_reducible apply wp_region_lit | with_reducible apply wp_seq | ((with_reducible apply seq_q); (focus rfl); (focus (simp [go_sem, effAt, ↓IntWalk.iteOmega, *]; (try go_ints); (first | (with_reducible exact effUpon_val) | (with_reducible exact effUpon_skip)))); (focus ((simp only [Act.put, List.setIfInBounds_toArray, List.set_cons_zero, List.set_cons_succ]; rfl)))) | ((with_reducible apply seq_s); (focus rfl); (focus ((simp only [Act.put, List.setIfInBounds_toArray, List.set_cons_zero, List.set_cons_succ]; rfl)))) | with_reducible apply wp_block | with_reducible apply wp_skip | with_reducible apply wp_exit | with_reducible apply wp_ret | ((with_reducible apply wp_cond_true); (focus (first | rfl | (simp [go_sem, *]; done)))) | ((with_reducible apply wp_cond_false); (focus (first | rfl | (simp [go_sem, *]; done)))) | (simp only [Exit.then, Exit.inBlock, ↓reduceIte, Nat.reduceEqDiff]))
      refine wp_region_eff (S := Turn (fun j => F j ∨ j = r ∨ j = la ∨ w1.heap.size ≤ j) w1) (I := (· = World.drew w1)) (E := fun i => [5, 11].contains i) (by kernel_rfl) (by kernel_rfl) rfl (fun _ h => by subst h; exact (Turn.refl _).drew) ?_
      repeat (first | ((with_reducible apply lex_q); (focus rfl); (focus rfl); (focus (intro w' hS; have hc_x := (hB_x.turn hS HNX.out).cell; simp [go_sem, effAt, ↓IntWalk.iteOmega, *]; (try go_ints); (first | (with_reducible exact effUpon_val) | (with_reducible exact effUpon_skip)))); (focus ((simp only [Act.put, List.setIfInBounds_toArray, List.set_cons_zero, List.set_cons_succ]; rfl)))) | ((with_reducible apply lex_s); (focus rfl); (focus ((simp only [Act.put, List.setIfInBounds_toArray, List.set_cons_zero, List.set_cons_succ]; rfl)))))
      with_reducible apply lex_e (fun w' => ∃ F', St F' w' p r la L L ∧ Ev F w1 F' w' r la)
      (focus (first | exact wanted_none rfl | exact wanted_yes rfl rfl rfl))
      focus rfl
      focus
        intro w' hS
        subst hS
        simp only [effAt]
        simp [go_sem]
        (with_reducible exact effUpon_enter (ret_mono ((sset_no (x := (id : Int)) h1.drew hn : _)) (fun _ h => by obtain ⟨F2, h2, e2⟩ := h; exact ⟨F2, h2, e2.undrew⟩)))
      focus
        rintro w' ⟨_, _, h⟩
        exact h.1
      (simp only [Act.put, List.setIfInBounds_toArray, List.set_cons_zero, List.set_cons_succ]; rfl)
      repeat (first | ((with_reducible apply lex_q); (focus rfl); (focus rfl); (focus (intro w' hS; have hc_x := (hB_x.turn hS HNX.out).cell; simp [go_sem, effAt, ↓IntWalk.iteOmega, *]; (try go_ints); (first | (with_reducible exact effUpon_val) | (with_reducible exact effUpon_skip)))); (focus ((simp only [Act.put, List.setIfInBounds_toArray, List.set_cons_zero, List.set_cons_succ]; rfl)))) | ((with_reducible apply lex_s); (focus rfl); (focus ((simp only [Act.put, List.setIfInBounds_toArray, List.set_cons_zero, List.set_cons_succ]; rfl)))))
      with_reducible apply lex_e (fun w' => ∃ F', St F' w' p r la L L ∧ Ev F w1 F' w' r la)
      (focus (first | exact wanted_none rfl | exact wanted_yes rfl rfl rfl))
      focus rfl
      focus
        rintro w' ⟨F1, hS1, hE1⟩
        simp only [effAt]
        simp [go_sem]
        (with_reducible exact effUpon_enter (ret_mono ((srset_no (x := (id : Int)) hS1 hn : _)) (fun _ h => by obtain ⟨F2, h2, e2⟩ := h; exact ⟨F2, h2, hE1.trans e2⟩)))
      focus
        rintro w' ⟨_, _, h⟩
        exact h.1
      (simp only [Act.put, List.setIfInBounds_toArray, List.set_cons_zero, List.set_cons_succ]; rfl)
      repeat (first | ((with_reducible apply lex_q); (focus rfl); (focus rfl); (focus (intro w' hS; have hc_x := (hB_x.turn hS HNX.out).cell; simp [go_sem, effAt, ↓IntWalk.iteOmega, *]; (try go_ints); (first | (with_reducible exact effUpon_val) | (with_reducible exact effUpon_skip)))); (focus ((simp only [Act.put, List.setIfInBounds_toArray, List.set_cons_zero, List.set_cons_succ]; rfl)))) | ((with_reducible apply lex_s); (focus rfl); (focus ((simp only [Act.put, List.setIfInBounds_toArray, List.set_cons_zero, List.set_cons_succ]; rfl)))))
      with_reducible apply lex_nil
      rintro u ⟨F2, hS2, hE2⟩
      clear hB_x hc_x h1
      have Fu : Below u.heap.size u u := Below.refl _ _
      repeat (first | with_reducible apply wpList_nil | with_reducible apply seq_region | with_reducible apply wp_region_lit | with_reducible apply wp_seq | ((with_reducible apply seq_q); (focus rfl); (focus (simp [go_sem, effAt, ↓IntWalk.iteOmega, *]; (try go_ints); (first | (with_reducible exact effUpon_val) | (with_reducible exact effUpon_skip)))); (focus ((simp only [Act.put, List.setIfInBounds_toArray, List.set_cons_zero, List.set_cons_succ]; rfl)))) | ((with_reducible apply seq_s); (focus rfl); (focus ((simp only [Act.put, List.setIfInBounds_toArray, List.set_cons_zero, List.set_cons_succ]; rfl)))) | with_reducible apply wp_block | with_reducible apply wp_skip | with_reducible apply wp_exit | with_reducible apply wp_ret | ((with_reducible apply wp_cond_true); (focus (first | rfl | (simp [go_sem, *]; done)))) | ((with_reducible apply wp_cond_false); (focus (first | rfl | (simp [go_sem, *]; done)))) | (simp only [Exit.then, Exit.inBlock, ↓reduceIte, Nat.reduceEqDiff]))
      go_ret
      exact ⟨rfl, F2, hS2, hEv0.trans hE2⟩
    case neg =>
      rw [if_neg hn]
      obtain ⟨tn, rfl⟩ : ∃ tn : Nat, n = (tn : Int) := ⟨n.toNat, by omega⟩
      have ht1 : 1 ≤ tn := by omega
      have ht2 : tn ≤ 65535 := by omega
      rw [Int.toNat_natCast]
      clear hn
      repeat (first | with_reducible apply wpList_nil | with_reducible apply seq_region | with_reducible apply wp_region_lit | with_reducible apply wp_seq | ((with_reducible apply seq_q); (focus rfl); (focus (simp [go_sem, effAt, ↓IntWalk.iteOmega, *]; (try go_ints); (first | (with_reducible exact effUpon_val) | (with_reducible exact effUpon_skip)))); (focus ((simp only [Act.put, List.setIfInBounds_toArray, List.set_cons_zero, List.set_cons_succ]; rfl)))) | ((with_reducible apply seq_s); (focus rfl); (focus ((simp only [Act.put, List.setIfInBounds_toArray, List.set_cons_zero, List.set_cons_succ]; rfl)))) | with_reducible apply wp_block | with_reducible apply wp_skip | with_reducible apply wp_exit | with_reducible apply wp_ret | ((with_reducible apply wp_cond_true); (focus (first | rfl | (simp [go_sem, *]; done)))) | ((with_reducible apply wp_cond_false); (focus (first | rfl | (simp [go_sem, *]; done)))) | (simp only [Exit.then, Exit.inBlock, ↓reduceIte, Nat.reduceEqDiff]))
      refine wp_region_eff (S := Turn (fun j => F j ∨ j = r ∨ j = la ∨ w1.heap.size ≤ j) w1) (I := (· = World.drew w1)) (E := fun i => [5, 11].contains i) (by kernel_rfl) (by kernel_rfl) rfl (fun _ h => by subst h; exact (Turn.refl _).drew) ?_
      repeat (first | ((with_reducible apply lex_q); (focus rfl); (focus rfl); (focus (intro w' hS; have hc_x := (hB_x.turn hS HNX.out).cell; simp [go_sem, effAt, ↓IntWalk.iteOmega, *]; (try go_ints); (first | (with_reducible exact effUpon_val) | (with_reducible exact effUpon_skip)))); (focus ((simp only [Act.put, List.setIfInBounds_toArray, List.set_cons_zero, List.set_cons_succ]; rfl)))) | ((with_reducible apply lex_s); (focus rfl); (focus ((simp only [Act.put, List.setIfInBounds_toArray, List.set_cons_zero, List.set_cons_succ]; rfl)))))
      with_reducible apply lex_e (fun w' => ∃ F', St F' w' p r la (upd L id tn) L ∧ Ev F w1 F' w' r la)
      (focus (first | exact wanted_none rfl | exact wanted_yes rfl rfl rfl))
      focus rfl
      focus
        intro w' hS
        subst hS
        simp only [effAt]
        simp [go_sem]
        (with_reducible exact effUpon_enter (ret_mono (sset h1.drew hid ht1 ht2) (fun _ h => by obtain ⟨F2, h2, e2⟩ := h; exact ⟨F2, h2, e2.undrew⟩)))
      focus
        rintro w' ⟨_, _, h⟩
        exact h.1
      (simp only [Act.put, List.setIfInBounds_toArray, List.set_cons_zero, List.set_cons_succ]; rfl)
      repeat (first | ((with_reducible apply lex_q); (focus rfl); (focus rfl); (focus (intro w' hS; have hc_x := (hB_x.turn hS HNX.out).cell; simp [go_sem, effAt, ↓IntWalk.iteOmega, *]; (try go_ints); (first | (with_reducible exact effUpon_val) | (with_reducible exact effUpon_skip)))); (focus ((simp only [Act.put, List.setIfInBounds_toArray, List.set_cons_zero, List.set_cons_succ]; rfl)))) | ((with_reducible apply lex_s); (focus rfl); (focus ((simp only [Act.put, List.setIfInBounds_toArray, List.set_cons_zero, List.set_cons_succ]; rfl)))))
      with_reducible apply lex_e (fun w' => ∃ F', St F' w' p r la (upd L id tn) (upd L id tn) ∧ Ev F w1 F' w' r la)
      (focus (first | exact wanted_none rfl | exact wanted_yes rfl rfl rfl))
      focus rfl
      focus
        rintro w' ⟨F1, hS1, hE1⟩
        simp only [effAt]
        simp [go_sem]
        (with_reducible exact effUpon_enter (ret_mono (srset hS1 hid ht1 ht2) (fun _ h => by obtain ⟨F2, h2, e2⟩ := h; exact ⟨F2, h2, hE1.trans e2⟩)))
      focus
        rintro w' ⟨_, _, h⟩
        exact h.1
      (simp only [Act.put, List.setIfInBounds_toArray, List.set_cons_zero, List.set_cons_succ]; rfl)
      repeat (first | ((with_reducible apply lex_q); (focus rfl); (focus rfl); (focus (intro w' hS; have hc_x := (hB_x.turn hS HNX.out).cell; simp [go_sem, effAt, ↓IntWalk.iteOmega, *]; (try go_ints); (first | (with_reducible exact effUpon_val) | (with_reducible exact effUpon_skip)))); (focus ((simp only [Act.put, List.setIfInBounds_toArray, List.set_cons_zero, List.set_cons_succ]; rfl)))) | ((with_reducible apply lex_s); (focus rfl); (focus ((simp only [Act.put, List.setIfInBounds_toArray, List.set_cons_zero, List.set_cons_succ]; rfl)))))
      with_reducible apply lex_nil
      rintro u ⟨F2, hS2, hE2⟩
      clear hB_x hc_x h1
      have Fu : Below u.heap.size u u := Below.refl _ _
      repeat (first | with_reducible apply wpList_nil | with_reducible apply seq_region | with_reducible apply wp_region_lit | with_reducible apply wp_seq | ((with_reducible apply seq_q); (focus rfl); (focus (simp [go_sem, effAt, ↓IntWalk.iteOmega, *]; (try go_ints); (first | (with_reducible exact effUpon_val) | (with_reducible exact effUpon_skip)))); (focus ((simp only [Act.put, List.setIfInBounds_toArray, List.set_cons_zero, List.set_cons_succ]; rfl)))) | ((with_reducible apply seq_s); (focus rfl); (focus ((simp only [Act.put, List.setIfInBounds_toArray, List.set_cons_zero, List.set_cons_succ]; rfl)))) | with_reducible apply wp_block | with_reducible apply wp_skip | with_reducible apply wp_exit | with_reducible apply wp_ret | ((with_reducible apply wp_cond_true); (focus (first | rfl | (simp [go_sem, *]; done)))) | ((with_reducible apply wp_cond_false); (focus (first | rfl | (simp [go_sem, *]; done)))) | (simp only [Exit.then, Exit.inBlock, ↓reduceIte, Nat.reduceEqDiff]))
      go_ret
      exact ⟨rfl, F2, hS2, hEv0.trans hE2⟩
  case neg =>
    rw [if_neg hm0]
    have e0 : ((m : Int) == 0) = false := by simpa using hm0
    by_cases hm1 : m = 1
    case pos =>
      subst hm1
      rw [if_pos rfl]
      obtain ⟨bo, hbo⟩ : ∃ b, decide (L id ≠ 0) = b := ⟨_, rfl⟩
      have hc1 := fun (u : World) (FF : Nat → Prop) (M : Nat → Nat) (h : St FF u p r la L M) => sstop (k := id) h
      have hc2 := fun (u : World) (FF : Nat → Prop) (M : Nat → Nat) (h : St FF u p r la M L) => srstop h hid
      rw [hbo] at hc1 hc2
      clear hbo
      repeat (first | with_reducible apply wpList_nil | with_reducible apply seq_region | with_reducible apply wp_region_lit | with_reducible apply wp_seq | ((with_reducible apply seq_q); (focus rfl); (focus (simp [go_sem, effAt, ↓IntWalk.iteOmega, *]; (try go_ints); (first | (with_reducible exact effUpon_val) | (with_reducible exact effUpon_skip)))); (focus ((simp only [Act.put, List.setIfInBounds_toArray, List.set_cons_zero, List.set_cons_succ]; rfl)))) | ((with_reducible apply seq_s); (focus rfl); (focus ((simp only [Act.put, List.setIfInBounds_toArray, List.set_cons_zero, List.set_cons_succ]; rfl)))) | with_reducible apply wp_block | with_reducible apply wp_skip | with_reducible apply wp_exit | with_reducible apply wp_ret | ((with_reducible apply wp_cond_true); (focus (first | rfl | (simp [go_sem, *]; done)))) | ((with_reducible apply wp_cond_false); (focus (first | rfl | (simp [go_sem, *]; done)))) | (simp only [Exit.then, Exit.inBlock, ↓reduceIte, Nat.reduceEqDiff]))
      refine wp_region_eff (S := Turn (fun j => F j ∨ j = r ∨ j = la ∨ w1.heap.size ≤ j) w1) (I := (· = World.drew w1)) (E := fun i => [3, 7].contains i) (by kernel_rfl) (by kernel_rfl) rfl (fun _ h => by subst h; exact (Turn.refl _).drew) ?_
      repeat (first | ((with_reducible apply lex_q); (focus rfl); (focus rfl); (focus (intro w' hS; have hc_x := (hB_x.turn hS HNX.out).cell; simp [go_sem, effAt, ↓IntWalk.iteOmega, *]; (try go_ints); (first | (with_reducible exact effUpon_val) | (with_reducible exact effUpon_skip)))); (focus ((simp only [Act.put, List.setIfInBounds_toArray, List.set_cons_zero, List.set_cons_succ]; rfl)))) | ((with_reducible apply lex_s); (focus rfl); (focus ((simp only [Act.put, List.setIfInBounds_toArray, List.set_cons_zero, List.set_cons_succ]; rfl)))))
      with_reducible apply lex_e (fun w' => ∃ F', St F' w' p r la (upd L id 0) L ∧ Ev F w1 F' w' r la)
      (focus (first | exact wanted_none rfl | exact wanted_yes rfl rfl rfl))
      focus rfl
      focus
        intro w' hS
        subst hS
        simp only [effAt]
        simp [go_sem]
        (with_reducible exact effUpon_enter (ret_mono (hc1 _ _ _ h1.drew) (fun _ h => by obtain ⟨F2, h2, e2⟩ := h; exact ⟨F2, h2, e2.undrew⟩)))
      focus
        rintro w' ⟨_, _, h⟩
        exact h.1
      (simp only [Act.put, List.setIfInBounds_toArray, List.set_cons_zero, List.set_cons_succ]; rfl)
      repeat (first | ((with_reducible apply lex_q); (focus rfl); (focus rfl); (focus (intro w' hS; have hc_x := (hB_x.turn hS HNX.out).cell; simp [go_sem, effAt, ↓IntWalk.iteOmega, *]; (try go_ints); (first | (with_reducible exact effUpon_val) | (with_reducible exact effUpon_skip)))); (focus ((simp only [Act.put, List.setIfInBounds_toArray, List.set_cons_zero, List.set_cons_succ]; rfl)))) | ((with_reducible apply lex_s); (focus rfl); (focus ((simp only [Act.put, List.setIfInBounds_toArray, List.set_cons_zero, List.set_cons_succ]; rfl)))))
      with_reducible apply lex_e (fun w' => ∃ F', St F' w' p r la (upd L id 0) (upd L id 0) ∧ Ev F w1 F' w' r la)
      (focus (first | exact wanted_none rfl | exact wanted_yes rfl rfl rfl))
      focus rfl
      focus
        rintro w' ⟨F1, hS1, hE1⟩
        simp only [effAt]
        simp [go_sem]
        (with_reducible exact effUpon_enter (ret_mono (hc2 _ _ _ hS1) (fun _ h => by obtain ⟨F2, h2, e2⟩ := h; exact ⟨F2, h2, hE1.trans e2⟩)))
      focus
        rintro w' ⟨_, _, h⟩
        exact h.1
      (simp only [Act.put, List.setIfInBounds_toArray, List.set_cons_zero, List.set_cons_succ]; rfl)
      repeat (first | ((with_reducible apply lex_q); (focus rfl); (focus rfl); (focus (intro w' hS; have hc_x := (hB_x.turn hS HNX.out).cell; simp [go_sem, effAt, ↓IntWalk.iteOmega, *]; (try go_ints); (first | (with_reducible exact effUpon_val) | (with_reducible exact effUpon_skip)))); (focus ((simp only [Act.put, List.setIfInBounds_toArray, List.set_cons_zero, List.set_cons_succ]; rfl)))) | ((with_reducible apply lex_s); (focus rfl); (focus ((simp only [Act.put, List.setIfInBounds_toArray, List.set_cons_zero, List.set_cons_succ]; rfl)))))
      with_reducible apply lex_nil
      rintro u ⟨F2, hS2, hE2⟩
      clear hB_x hc_x h1
      have Fu : Below u.heap.size u u := Below.refl _ _
      repeat (first | with_reducible apply wpList_nil | with_reducible apply seq_region | with_reducible apply wp_region_lit | with_reducible apply wp_seq | ((with_reducible apply seq_q); (focus rfl); (focus (simp [go_sem, effAt, ↓IntWalk.iteOmega, *]; (try go_ints); (first | (with_reducible exact effUpon_val) | (with_reducible exact effUpon_skip)))); (focus ((simp only [Act.put, List.setIfInBounds_toArray, List.set_cons_zero, List.set_cons_succ]; rfl)))) | ((with_reducible apply seq_s); (focus rfl); (focus ((simp only [Act.put, List.setIfInBounds_toArray, List.set_cons_zero, List.set_cons_succ]; rfl)))) | with_reducible apply wp_block | with_reducible apply wp_skip | with_reducible apply wp_exit | with_reducible apply wp_ret | ((with_reducible apply wp_cond_true); (focus (first | rfl | (simp [go_sem, *]; done)))) | ((with_reducible apply wp_cond_false); (focus (first | rfl | (simp [go_sem, *]; done)))) | (simp only [Exit.then, Exit.inBlock, ↓reduceIte, Nat.reduceEqDiff]))
      go_ret
      exact ⟨rfl, F2, hS2, hEv0.trans hE2⟩
    case neg =>
      rw [if_neg hm1]
      have e1 : ((m : Int) == 1) = false := by simp; omega
      have hlen := dueL_len L
      have hLe := h1.wh.le
      have zw1 := Fw1.size
      repeat (first | with_reducible apply wpList_nil | with_reducible apply seq_region | with_reducible apply wp_region_lit | with_reducible apply wp_seq | ((with_reducible apply seq_q); (focus rfl); (focus (simp [go_sem, effAt, ↓IntWalk.iteOmega, *]; (try go_ints); (first | (with_reducible exact effUpon_val) | (with_reducible exact effUpon_skip)))); (focus ((simp only [Act.put, List.setIfInBounds_toArray, List.set_cons_zero, List.set_cons_succ]; rfl)))) | ((with_reducible apply seq_s); (focus rfl); (focus ((simp only [Act.put, List.setIfInBounds_toArray, List.set_cons_zero, List.set_cons_succ]; rfl)))) | with_reducible apply wp_block | with_reducible apply wp_skip | with_reducible apply wp_exit | with_reducible apply wp_ret | ((with_reducible apply wp_cond_true); (focus (first | rfl | (simp [go_sem, *]; done)))) | ((with_reducible apply wp_cond_false); (focus (first | rfl | (simp [go_sem, *]; done)))) | (simp only [Exit.then, Exit.inBlock, ↓reduceIte, Nat.reduceEqDiff]))
      with_reducible refine seq_ev2 (stick h1) ?hw ?hrun ?_
      case hw => first | exact wanted_none rfl | exact wanted_yes rfl rfl rfl
      case hrun => simp [go_sem]
      rintro v u1 ⟨hS1, hE1, hD1⟩
      have hD1' := hD1
      obtain ⟨ao, ca, rfl, hcell⟩ := octs_slice hD1.octs
      rw [List.length_map] at hD1' hcell ⊢
      (with_reducible apply ex_put)
      (focus ((simp only [Act.put, List.setIfInBounds_toArray, List.set_cons_zero, List.set_cons_succ]; rfl)))
      clear hB_x hc_x hD1
      have Fu1 : Below u1.heap.size u1 u1 := Below.refl _ _
      repeat (first | with_reducible apply wpList_nil | with_reducible apply seq_region | with_reducible apply wp_region_lit | with_reducible apply wp_seq | ((with_reducible apply seq_q); (focus rfl); (focus (simp [go_sem, effAt, ↓IntWalk.iteOmega, *]; (try go_ints); (first | (with_reducible exact effUpon_val) | (with_reducible exact effUpon_skip)))); (focus ((simp only [Act.put, List.setIfInBounds_toArray, List.set_cons_zero, List.set_cons_succ]; rfl)))) | ((with_reducible apply seq_s); (focus rfl); (focus ((simp only [Act.put, List.setIfInBounds_toArray, List.set_cons_zero, List.set_cons_succ]; rfl)))) | with_reducible apply wp_block | with_reducible apply wp_skip | with_reducible apply wp_exit | with_reducible apply wp_ret | ((with_reducible apply wp_cond_true); (focus (first | rfl | (simp [go_sem, *]; done)))) | ((with_reducible apply wp_cond_false); (focus (first | rfl | (simp [go_sem, *]; done)))) | (simp only [Exit.then, Exit.inBlock, ↓reduceIte, Nat.reduceEqDiff]))
      with_reducible refine seq_ev2 (srtick hS1 hLe) ?hw ?hrun ?_
      case hw => first | exact wanted_none rfl | exact wanted_yes rfl rfl rfl
      case hrun => simp [go_sem]
      rintro v2 u2 ⟨⟨hS2, hE2, hg2⟩, hD2⟩
      have hD3 := hD1'.kept (Turn.of_grown (T := fun j => j = la) hg2 rfl) (fun j hj _ e => by have := h1.lts; omega)
      have hO2 := hD2.octs
      obtain ⟨bo, cb, rfl, _⟩ := octs_slice hO2
      rw [List.length_map] at hO2 ⊢
      (with_reducible apply ex_put)
      (focus ((simp only [Act.put, List.setIfInBounds_toArray, List.set_cons_zero, List.set_cons_succ]; rfl)))
      have hSm := same_yes (va := .slice ao (dueL L).length ca) (vb := .slice bo (dueL L).length cb) (zs := (dueL L).map fun (k : Nat) => (k : Int)) hD3.octs hO2 (by rw [List.length_map]; omega)
      have hE12 := hEv0.trans (hE1.trans hE2)
      have zE1 := hE1.1.size
      have zE2 := hE2.1.size
      have hl1 := h1.lts
      have hF1 := h1.wh.2
      obtain ⟨ln, hln⟩ : ∃ x, (dueL L).length = x := ⟨_, rfl⟩
      rw [hln] at hlen hSm hcell ⊢
      have HLN := Lib.hid hln
      have hlnI : (ln : Int) ≤ 256 := by omega
      clear hS1 hD1' hO2 hE1 hE2 hg2 hD2 hln
      skip
      have Fu2 : Below u2.heap.size u2 u2 := Below.refl _ _
      repeat (first | with_reducible apply wpList_nil | with_reducible apply seq_region | with_reducible apply wp_region_lit | with_reducible apply wp_seq | ((with_reducible apply seq_q); (focus rfl); (focus (simp [go_sem, effAt, ↓IntWalk.iteOmega, *]; (try go_ints); (first | (with_reducible exact effUpon_val) | (with_reducible exact effUpon_skip)))); (focus ((simp only [Act.put, List.setIfInBounds_toArray, List.set_cons_zero, List.set_cons_succ]; rfl)))) | ((with_reducible apply seq_s); (focus rfl); (focus ((simp only [Act.put, List.setIfInBounds_toArray, List.set_cons_zero, List.set_cons_succ]; rfl)))) | with_reducible apply wp_block | with_reducible apply wp_skip | with_reducible apply wp_exit | with_reducible apply wp_ret | ((with_reducible apply wp_cond_true); (focus (first | rfl | (simp [go_sem, *]; done)))) | ((with_reducible apply wp_cond_false); (focus (first | rfl | (simp [go_sem, *]; done)))) | (simp only [Exit.then, Exit.inBlock, ↓reduceIte, Nat.reduceEqDiff]))
      with_reducible apply seq_e (fun w' => Below u2.heap.size u2 w')
      (focus (first | exact wanted_none rfl | exact wanted_yes rfl rfl rfl))
      (focus (simp only [effAt]; simp [go_sem]; (with_reducible exact effUpon_enter (hSm))))
      (focus ((simp only [Act.put, List.setIfInBounds_toArray, List.set_cons_zero, List.set_cons_succ]; rfl)))
      intro w9 Fw9
      clear hSm
      have hS3 := hS2.below Fw9
      have hEv3 : Ev F w F w9 r la := hE12.trans (Ev.of_below Fw9)
      have hD4 := hD3.kept (T := fun _ => False) (Turn.of_below Fw9) (fun _ _ _ h => h)
      have zE3 := Fw9.size
      clear hS2 hD3 hE12
      have FB := Fw9
      clear Fw9
      have Fw9 : Below w9.heap.size w9 w9 := Below.refl _ _
      repeat (first | with_reducible apply wpList_nil | with_reducible apply seq_region | with_reducible apply wp_region_lit | with_reducible apply wp_seq | ((with_reducible apply seq_q); (focus rfl); (focus (simp [go_sem, effAt, ↓IntWalk.iteOmega, *]; (try go_ints); (first | (with_reducible exact effUpon_val) | (with_reducible exact effUpon_skip)))); (focus ((simp only [Act.put, List.setIfInBounds_toArray, List.set_cons_zero, List.set_cons_succ]; rfl)))) | ((with_reducible apply seq_s); (focus rfl); (focus ((simp only [Act.put, List.setIfInBounds_toArray, List.set_cons_zero, List.set_cons_succ]; rfl)))) | with_reducible apply wp_block | with_reducible apply wp_skip | with_reducible apply wp_exit | with_reducible apply wp_ret | ((with_reducible apply wp_cond_true); (focus (first | rfl | (simp [go_sem, *]; done)))) | ((with_reducible apply wp_cond_false); (focus (first | rfl | (simp [go_sem, *]; done)))) | (simp only [Exit.then, Exit.inBlock, ↓reduceIte, Nat.reduceEqDiff]))
      go_loopg [8] ln (fun q v8 wr => ∃ i : Nat, v8 = .int .i64 (i : Int) ∧ i + q = ln ∧ (ln = 0 ∨ ∃ g pad zs, ao = some ⟨g, 0, none⟩ ∧ w1.heap.size ≤ g ∧ zs.size = ln ∧ SB wr g pad zs) ∧ Turn (fun j => w1.heap.size ≤ j) w9 wr)
      case atStart =>
        refine ⟨0, rfl, by omega, ?_, Turn.refl _⟩
        rcases hD4 with ⟨hv, hn⟩ | ⟨g, cap, pad, hv, hgb, hB⟩
        · exact .inl (by rw [← HLN.out, hn]; rfl)
        · injection hv with e1 e2 e3
          exact .inr ⟨g, pad, _, e1, hgb, by simpa using HLN.out, hB⟩
      case round =>
        rename_i J K hJ hK
        obtain ⟨i, rfl, hi, hrow, hT⟩ := hrel
        by_cases hlt : i < ln
        case neg =>
          have hlt' : ¬ (i : Int) < (ln : Int) := by omega
          clear hJ hK
          skip
          have Fwr : Below wr.heap.size wr wr := Below.refl _ _
          repeat (first | with_reducible apply wpList_nil | with_reducible apply seq_region | with_reducible apply wp_region_lit | with_reducible apply wp_seq | ((with_reducible apply seq_q); (focus rfl); (focus (simp [go_sem, effAt, ↓IntWalk.iteOmega, *]; (try go_ints); (first | (with_reducible exact effUpon_val) | (with_reducible exact effUpon_skip)))); (focus ((simp only [Act.put, List.setIfInBounds_toArray, List.set_cons_zero, List.set_cons_succ]; rfl)))) | ((with_reducible apply seq_s); (focus rfl); (focus ((simp only [Act.put, List.setIfInBounds_toArray, List.set_cons_zero, List.set_cons_succ]; rfl)))) | with_reducible apply wp_block | with_reducible apply wp_skip | with_reducible apply wp_exit | with_reducible apply wp_ret | ((with_reducible apply wp_cond_true); (focus (first | rfl | (simp [go_sem, *]; done)))) | ((with_reducible apply wp_cond_false); (focus (first | rfl | (simp [go_sem, *]; done)))) | (simp only [Exit.then, Exit.inBlock, ↓reduceIte, Nat.reduceEqDiff]))
          go_ret
          refine ⟨rfl, F, hS3.turn hT (fun j hj => by have := hF1 j hj; omega) (by omega) (by omega), ⟨hEv3.1.trans (hT.mono (fun j hj => .inr (.inr (.inr (by omega))))), hEv3.2⟩⟩
        case pos =>
          have hlt' : (i : Int) < (ln : Int) := by omega
          rcases hrow with h0 | ⟨g, pad, zs, rfl, hgb, hzs, hB_d⟩
          · omega
          have ec := cellsS_get pad (show i < zs.size by omega) rfl
          obtain ⟨z0, hz0⟩ : ∃ z, zs[i]! = z := ⟨_, rfl⟩
          rw [hz0] at ec
          have es := cellsS_set pad (show i < zs.size by omega) 9
          have ES := Lib.hid es
          have HZS := Lib.hid hzs
          clear es hzs hz0
          skip
          have Fwr : Below wr.heap.size wr wr := Below.refl _ _
          have hc_d := hB_d.cell
          repeat (first | with_reducible apply wpList_nil | with_reducible apply seq_region | with_reducible apply wp_region_lit | with_reducible apply wp_seq | ((with_reducible apply seq_q); (focus rfl); (focus (simp [go_sem, effAt, ↓IntWalk.iteOmega, *]; (try go_ints); (first | (with_reducible exact effUpon_val) | (with_reducible exact effUpon_skip)))); (focus ((simp only [Act.put, List.setIfInBounds_toArray, List.set_cons_zero, List.set_cons_succ]; rfl)))) | ((with_reducible apply seq_s); (focus rfl); (focus ((simp only [Act.put, List.setIfInBounds_toArray, List.set_cons_zero, List.set_cons_succ]; rfl)))) | with_reducible apply wp_block | with_reducible apply wp_skip | with_reducible apply wp_exit | with_reducible apply wp_ret | ((with_reducible apply wp_cond_true); (focus (first | rfl | (simp [go_sem, *]; done)))) | ((with_reducible apply wp_cond_false); (focus (first | rfl | (simp [go_sem, *]; done)))) | (simp only [Exit.then, Exit.inBlock, ↓reduceIte, Nat.reduceEqDiff]))
          with_reducible apply seq_e (fun w' => SB w' g pad (zs.setIfInBounds i 9) ∧ wr.grownBy w' (some g))
          (focus (first | exact wanted_none rfl | exact wanted_yes rfl rfl rfl))
          focus
            have hf_d := hB_d.frozen
            simp [go_sem, effAt, *]
            exact ⟨rfl, by have h9 := hB_d.set_ i (.int .u8 9); rw [ES.out] at h9; exact h9, grown_set (World.grownBy.refl _ _)⟩
          (simp only [Act.put, List.setIfInBounds_toArray, List.set_cons_zero, List.set_cons_succ]; rfl)
          rintro u ⟨hB_n, hg_n⟩
          have hT2 := hT.trans (Turn.of_grown hg_n hgb)
          clear hB_d hc_d hT
          have Fu : Below u.heap.size u u := Below.refl _ _
          repeat (first | with_reducible apply wpList_nil | with_reducible apply seq_region | with_reducible apply wp_region_lit | with_reducible apply wp_seq | ((with_reducible apply seq_q); (focus rfl); (focus (simp [go_sem, effAt, ↓IntWalk.iteOmega, *]; (try go_ints); (first | (with_reducible exact effUpon_val) | (with_reducible exact effUpon_skip)))); (focus ((simp only [Act.put, List.setIfInBounds_toArray, List.set_cons_zero, List.set_cons_succ]; rfl)))) | ((with_reducible apply seq_s); (focus rfl); (focus ((simp only [Act.put, List.setIfInBounds_toArray, List.set_cons_zero, List.set_cons_succ]; rfl)))) | with_reducible apply wp_block | with_reducible apply wp_skip | with_reducible apply wp_exit | with_reducible apply wp_ret | ((with_reducible apply wp_cond_true); (focus (first | rfl | (simp [go_sem, *]; done)))) | ((with_reducible apply wp_cond_false); (focus (first | rfl | (simp [go_sem, *]; done)))) | (simp only [Exit.then, Exit.inBlock, ↓reduceIte, Nat.reduceEqDiff]))
          refine hK _ _ (Handed.intro (gk - 1) ?measure (hJ _ _ _ ?_))
          rotate_left
          (repeat apply Exists.intro)
          refine ⟨?rel, rfl⟩
          case rel => exact ⟨i + 1, by go_num, by omega, .inr ⟨g, pad, _, rfl, hgb, by rw [Array.size_setIfInBounds]; exact HZS.out, hB_n⟩, hT2⟩
          case measure => omega
end Go.Proofs.Ytckjgdlceckhpaa
