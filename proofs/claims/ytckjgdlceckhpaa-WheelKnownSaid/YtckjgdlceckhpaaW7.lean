/- Set, over the wheel's state; the wheel as how many ticks each timer has left. -/
import Derived.Test.YtckjgdlceckhpaaW6
set_option linter.unusedSimpArgs false
set_option linter.unusedVariables false
namespace Go.Proofs.Ytckjgdlceckhpaa
open Go.RowKit Go.Eff
attribute [local irreducible] Go.wpList
/-- the footprint, and what was made since -/
def Grow (F : Nat → Prop) (w w' : World) (j : Nat) : Prop := F j ∨ (w.heap.size ≤ j ∧ j < w'.heap.size)
theorem rowV_blk {s : Wh} {p i g : Nat} (hi : i < s.n) : (s.rowV i).ownBlock = some g ↔ s.blk p (.R i) = some g := by
  rw [blk_R]
  cases hG : s.G i with
  | none => simp [Wh.rowV, hG, Value.ownBlock]
  | some x => simp [Wh.rowV, hG, Value.ownBlock, hi]; exact ⟨fun h => ⟨x.2, by rw [← h]⟩, fun ⟨pad, h⟩ => by rw [h]⟩
theorem set_yes {F : Nat → Prop} {w : World} {p k t : Nat} {s : Wh} (h : WI F w p s) (hk8 : k < 256) (ht : 1 ≤ t) (ht2 : t ≤ 65535) :
    Calls Try.prog 14 #[ptr p, .int .u8 (k : Int), .int .i64 (t : Int)] w (Ret (.int .i64 0) fun w' => (∃ b g pad, WI (Grow F w w') w' p ((s.del k).set k ((s.tt + t) % s.n) (((t - 1) / s.n : Nat) : Int) b g pad)) ∧ Turn (fun j => F j ∨ w.heap.size ≤ j) w w') := by
  obtain ⟨f1, f2, f3, f4⟩ := del_fields s k
  have hk := not_mem_del (k := k) h.nd
  have hn1 := h.n1
  have hn2 := h.n2
  have htt := h.t
  have hin : (s.tt + t) % s.n < s.n := Nat.mod_lt _ hn1
  have hin' : (s.tt + t) % s.n < (s.del k).n := by rw [f1]; exact hin
  have hst := stop_any (k := k) h
  have hi : Int.tmod ((s.tt : Int) + (t : Int)) (s.n : Int) = (((s.tt + t) % s.n : Nat) : Int) := by
    rw [← Int.natCast_add]
    rfl
  have hr : Int.tdiv ((t : Int) - 1) (s.n : Int) = (((t - 1) / s.n : Nat) : Int) := by
    rw [show (t : Int) - 1 = ((t - 1 : Nat) : Int) by omega]
    rfl
  have hr2 : (t - 1) / s.n ≤ 100000 := Nat.le_trans (Nat.div_le_self _ _) (by omega)
  refine (set_walk (n := s.n) (tt := s.tt) (sb := (s.del k).sb) (mb := (s.del k).mb) (v := (s.del k).rowV ((s.tt + t) % s.n)) (ps := ((s.del k).R ((s.tt + t) % s.n)).map (s.del k).B) (rows := ((List.range s.n).map (s.del k).rowV).toArray) hst
    (fun w1 h1 => by have := h1.1.preS hin'; rw [f1, f2] at this; exact this) (fun w1 h1 => h1.1.hm) hk ht ht2 hn2 hn1 htt hi hr hin hr2).mono ?_
  rintro e w' ⟨rfl, w1, es, c, u, b, g', pad', ⟨h1, T1⟩, rfl, hMu, hE, T2, hb0, hg, hgb, hBb, hBg, hmx, hBs⟩
  have hP := h1.preS hin'
  have z1 := T1.size
  have z2 := T2.size
  have lm := h1.ft .M _ rfl
  have lss := h1.ft .S _ rfl
  have ne : b ≠ (s.del k).mb := by have := lm.2; omega
  have hgm : g' ≠ (s.del k).mb := fun e => by
    rcases hg with hg | hg
    · exact hP.v_m (e ▸ hg)
    · have := lm.2; omega
  have hR : ∀ j, ((s.del k).rowV ((s.tt + t) % s.n)).ownBlock = some j ↔ (s.del k).blk p (.R ((s.tt + t) % s.n)) = some j := fun j => rowV_blk hin'
  refine ⟨rfl, ⟨b, g', pad', ?_⟩, ?_⟩
  · refine h1.set hk hk8 hin' hb0 ?_ hgb ?_ ?_ (fun x hx => .inl hx) (fun x hx hlt n1 n2 n3 => ?_) ?_ ?_ ?_ ?_ ?_ ⟨_, _, setB_same hMu, ents_push hE hk⟩
    · rcases hg with hg | hg
      · exact .inl ((hR _).1 hg)
      · exact .inr hg
    · exact .inr ⟨by omega, by rw [setB_size]; exact hBb.lt⟩
    · rcases hg with hg | hg
      · exact .inl (h1.ft _ _ ((hR _).1 hg)).1
      · exact .inr ⟨by omega, by rw [setB_size]; exact hBg.lt⟩
    · rw [setB_other hMu n3]
      exact T2.block x hlt (fun hh => by
        rcases hh with hh | hh | hh
        · exact n1 ((hR x).1 hh)
        · exact n2 hh
        · omega)
    · rw [setB_size]; exact z2
    · exact (setB_other hMu ne).trans hBb
    · have := hBg
      unfold rowL at this
      rw [List.map_append, List.map_map, List.append_assoc] at this
      exact (setB_other hMu hgm).trans this
    · rw [List.length_map] at hmx; exact hmx
    · have := hBs
      rw [List.length_map] at this
      rw [f1]
      exact (setB_other hMu (Ne.symm hP.m_s)).trans this
  · have hF2 : Turn (fun j => F j ∨ w.heap.size ≤ j) w1 u := T2.mono (fun j hj => by
      rcases hj with hj | hj | hj
      · exact .inl (h1.ft _ _ ((hR j).1 hj)).1
      · exact .inl (hj ▸ lss.1)
      · exact .inr (by omega))
    refine (T1.trans hF2).trans ⟨rfl, rfl, rfl, by rw [setB_size]; omega, fun i hi hn => setB_other hMu (fun e => hn (.inl (e ▸ lm.1)))⟩
/-! ### how many ticks are left -/
def Can (s : Wh) (L : Nat → Nat) : Prop := (∀ k, k ∈ s.M ↔ L k ≠ 0) ∧ (∀ k, k ∈ s.M → s.Sl k = (s.tt + L k) % s.n ∧ s.Rd k = (((L k - 1) / s.n : Nat) : Int)) ∧ ∀ k, L k ≤ 65535
/-- a wheel at p, within F, of which timer k has L k ticks left (0: it is not set) -/
def Wheel (F : Nat → Prop) (w : World) (p : Nat) (L : Nat → Nat) : Prop := (∃ s, WI F w p s ∧ Can s L) ∧ ∀ j, F j → j < w.heap.size
theorem WI.bound {F : Nat → Prop} {w : World} {p : Nat} {s : Wh} (h : WI F w p s) : WI (fun j => F j ∧ j < w.heap.size) w p s :=
  ⟨h.n1, h.n2, h.t, h.hp, h.hs, h.hm, h.he, h.hr, h.hr0, h.mem, h.nd, h.ndr, h.lt, h.ap, fun x g hx => ⟨h.ft x g hx, (h.ft x g hx).2⟩⟩
theorem Wheel.frame {F : Nat → Prop} {w w' : World} {p : Nat} {L : Nat → Nat} (h : Wheel F w p L) (hF : ∀ j, F j → w'.heap[j]? = w.heap[j]?) (hz : w.heap.size ≤ w'.heap.size) : Wheel F w' p L := by
  obtain ⟨⟨s, h1, h2⟩, h3⟩ := h
  exact ⟨⟨s, h1.frame (fun g hg _ => hF g hg) hz (fun _ h => h), h2⟩, fun j hj => Nat.lt_of_lt_of_le (h3 j hj) hz⟩
theorem Wheel.below {F : Nat → Prop} {w w' : World} {p : Nat} {L : Nat → Nat} (h : Wheel F w p L) (hb : Below w.heap.size w w') : Wheel F w' p L := h.frame (fun j hj => hb.block j (h.2 j hj)) hb.size
theorem Wheel.turn {F T : Nat → Prop} {w w' : World} {p : Nat} {L : Nat → Nat} (h : Wheel F w p L) (hT : Turn T w w') (hn : ∀ j, F j → ¬ T j) : Wheel F w' p L := h.frame (fun j hj => hT.block j (h.2 j hj) (hn j hj)) hT.size
def cnt (L : Nat → Nat) : Nat := ((List.range 256).filter (fun k => decide (L k ≠ 0))).length
theorem len_sub : ∀ (l1 l2 : List Nat), l1.Nodup → (∀ x ∈ l1, x ∈ l2) → l1.length ≤ l2.length
  | [], _, _, _ => by simp
  | a :: l1, l2, hnd, hs => by
    rw [List.nodup_cons] at hnd
    have ha := hs a (by simp)
    have h1 := len_sub l1 (l2.erase a) hnd.2 (fun x hx => (List.mem_erase_of_ne (fun e => hnd.1 (by rw [← e]; exact hx))).2 (hs x (by simp [hx])))
    have := List.length_erase_of_mem ha
    have := List.length_pos_of_mem ha
    simp only [List.length_cons]
    omega
theorem mem_len {M : List Nat} {L : Nat → Nat} (hnd : M.Nodup) (hM : ∀ k, k ∈ M ↔ L k ≠ 0) (hlt : ∀ k ∈ M, k < 256) : M.length = cnt L := by
  unfold cnt
  have hnd2 : ((List.range 256).filter (fun k => decide (L k ≠ 0))).Nodup := List.nodup_range.filter _
  refine Nat.le_antisymm ?_ ?_
  · exact len_sub _ _ hnd (fun x hx => by simp [(hM x).1 hx, hlt x hx])
  · exact len_sub _ _ hnd2 (fun x hx => by simp at hx; exact (hM x).2 hx.2)
theorem slot_left {n tt l : Nat} (hn : 1 ≤ n) (ht : tt < n) (hl : 1 ≤ l) : Int.tmod ((((tt + l) % n : Nat) : Int) - (tt : Int) - 1 + (n : Int)) (n : Int) = (((l - 1) % n : Nat) : Int) := by
  obtain ⟨x, rfl⟩ : ∃ x, l = x + 1 := ⟨l - 1, by omega⟩
  have hx := Nat.div_add_mod x n
  have hm : x % n < n := Nat.mod_lt _ hn
  generalize x % n = y at *
  generalize x / n = q at *
  have h1 : (tt + (x + 1)) % n = (tt + 1 + y) % n := by
    rw [← hx, show tt + (n * q + y + 1) = tt + 1 + y + n * q by omega, Nat.add_mul_mod_self_left]
  rw [h1, Nat.add_sub_cancel]
  by_cases hc : tt + 1 + y < n
  · rw [Nat.mod_eq_of_lt hc, show (((tt + 1 + y : Nat) : Int) - (tt : Int) - 1 + (n : Int)) = ((y + n : Nat) : Int) by omega]
    show (((y + n) % n : Nat) : Int) = _
    rw [Nat.add_mod_right, Nat.mod_eq_of_lt hm, ← hx, Nat.mul_add_mod, Nat.mod_eq_of_lt hm]
  · rw [Nat.mod_eq_sub_mod (by omega), Nat.mod_eq_of_lt (by omega), show (((tt + 1 + y - n : Nat) : Int) - (tt : Int) - 1 + (n : Int)) = ((y : Nat) : Int) by omega]
    show ((y % n : Nat) : Int) = _
    rw [Nat.mod_eq_of_lt hm, ← hx, Nat.mul_add_mod, Nat.mod_eq_of_lt hm]
theorem left_abs {F : Nat → Prop} {w : World} {p k : Nat} {L : Nat → Nat} (h : Wheel F w p L) : Calls Try.prog 13 #[ptr p, .int .u8 (k : Int)] w (Ret (.int .i64 (L k : Int)) (Below w.heap.size w)) := by
  obtain ⟨⟨s, h1, h2, h3, h4⟩, _⟩ := h
  by_cases hk : k ∈ s.M
  · obtain ⟨e1, e2⟩ := h3 k hk
    have hl := (h2 k).1 hk
    have h5 := h4 k
    have hn := h1.n1
    have hn2 := h1.n2
    have hq := slot_left hn h1.t (show 1 ≤ L k by omega)
    have hx := Nat.div_add_mod (L k - 1) s.n
    have hx2 : (L k - 1) / s.n * s.n + (L k - 1) % s.n = L k - 1 := by rw [Nat.mul_comm]; exact hx
    have hm : (L k - 1) % s.n < s.n := Nat.mod_lt _ hn
    have hy := left_yes h1 hk e2 e1 hq (x := (L k - 1) / s.n * s.n) (by rw [Int.natCast_mul]) (by omega) (by omega)
    rw [show ((((L k - 1) / s.n * s.n : Nat) : Int) + (((L k - 1) % s.n : Nat) : Int) + 1) = (L k : Int) by omega] at hy
    exact hy
  · have h0 : L k = 0 := by
      rcases Nat.eq_zero_or_pos (L k) with h | h
      · exact h
      · exact absurd ((h2 k).2 (by omega)) hk
    rw [h0]
    exact left_no h1 hk
theorem count_abs {F : Nat → Prop} {w : World} {p : Nat} {L : Nat → Nat} (h : Wheel F w p L) : Calls Try.prog 11 #[ptr p] w (Ret (.int .i64 (cnt L : Int)) (Below w.heap.size w)) := by
  obtain ⟨⟨s, h1, h2, h3, h4⟩, _⟩ := h
  rw [← mem_len h1.nd h2 (fun k hk => (h1.lt k hk).1)]
  exact count_raw h1
theorem Can.del {s : Wh} {L : Nat → Nat} (h : Can s L) (hnd : s.M.Nodup) (k : Nat) : Can (s.del k) (upd L k 0) := by
  obtain ⟨h2, h3, h4⟩ := h
  obtain ⟨f1, f2, f3, f4⟩ := del_fields s k
  have hM : ∀ x, x ∈ (s.del k).M ↔ x ≠ k ∧ x ∈ s.M := by
    intro x
    unfold Wh.del
    by_cases hk : k ∈ s.M
    · rw [if_pos hk]
      simp only [Wh.stop]
      exact hnd.mem_erase_iff
    · rw [if_neg hk]
      exact ⟨fun hx => ⟨fun e => hk (e ▸ hx), hx⟩, fun hx => hx.2⟩
  refine ⟨fun x => ?_, fun x hx => ?_, fun x => ?_⟩
  · rw [hM x, h2 x]
    by_cases hx : x = k
    · subst hx; simp [upd_same]
    · rw [upd_ne _ _ hx]; exact ⟨fun h => h.2, fun h => ⟨hx, h⟩⟩
  · have hx2 := (hM x).1 hx
    rw [upd_ne _ _ hx2.1, f1, f2, f3, f4]
    exact h3 x hx2.2
  · by_cases hx : x = k
    · subst hx; rw [upd_same]; omega
    · rw [upd_ne _ _ hx]; exact h4 x
theorem Can.set {s : Wh} {L : Nat → Nat} {k t b g : Nat} {pad : List Value} (h : Can s L) (hk : k ∉ s.M) (ht : 1 ≤ t) (ht2 : t ≤ 65535) : Can (s.set k ((s.tt + t) % s.n) (((t - 1) / s.n : Nat) : Int) b g pad) (upd L k t) := by
  obtain ⟨h2, h3, h4⟩ := h
  refine ⟨fun x => ?_, fun x hx => ?_, fun x => ?_⟩
  · by_cases hx : x = k
    · subst hx; simp [Wh.set, upd_same]; omega
    · rw [upd_ne _ _ hx, ← h2 x]; simp [Wh.set, hx]
  · by_cases hxk : x = k
    · subst hxk; simp only [Wh.set, upd_same]; exact ⟨trivial, trivial⟩
    · have hx' : x ∈ s.M := by simpa [Wh.set, hxk] using hx
      simp only [Wh.set, upd_ne _ _ hxk]
      exact h3 x hx'
  · by_cases hx : x = k
    · subst hx; rw [upd_same]; exact ht2
    · rw [upd_ne _ _ hx]; exact h4 x
theorem stop_abs {F : Nat → Prop} {w : World} {p k : Nat} {L : Nat → Nat} (h : Wheel F w p L) :
    Calls Try.prog 15 #[ptr p, .int .u8 (k : Int)] w (Ret (.bool (decide (L k ≠ 0))) fun w' => Wheel F w' p (upd L k 0) ∧ Turn (fun j => F j ∨ w.heap.size ≤ j) w w') := by
  obtain ⟨⟨s, h1, h2⟩, h5⟩ := h
  have hs := stop_any (k := k) h1
  rw [show decide (k ∈ s.M) = decide (L k ≠ 0) from decide_eq_decide.2 (h2.1 k)] at hs
  exact hs.mono fun e w' ⟨he, hw, hT⟩ => ⟨he, ⟨⟨_, hw, h2.del h1.nd k⟩, fun j hj => Nat.lt_of_lt_of_le (h5 j hj) hT.size⟩, hT⟩
theorem set_abs {F : Nat → Prop} {w : World} {p k t : Nat} {L : Nat → Nat} (h : Wheel F w p L) (hk8 : k < 256) (ht : 1 ≤ t) (ht2 : t ≤ 65535) :
    Calls Try.prog 14 #[ptr p, .int .u8 (k : Int), .int .i64 (t : Int)] w (Ret (.int .i64 0) fun w' => Wheel (Grow F w w') w' p (upd L k t) ∧ Turn (fun j => F j ∨ w.heap.size ≤ j) w w') := by
  obtain ⟨⟨s, h1, h2⟩, h5⟩ := h
  obtain ⟨f1, f2, f3, f4⟩ := del_fields s k
  refine (set_yes h1 hk8 ht ht2).mono ?_
  rintro e w' ⟨he, ⟨b, g, pad, hw⟩, hT⟩
  have hz := hT.size
  refine ⟨he, ⟨⟨_, hw, ?_⟩, fun j hj => ?_⟩, hT⟩
  · have := (h2.del h1.nd k).set (b := b) (g := g) (pad := pad) (not_mem_del h1.nd) ht ht2
    rw [f1, f2] at this
    have he2 : upd (upd L k 0) k t = upd L k t := by
      funext x
      by_cases hx : x = k
      · subst hx; rw [upd_same, upd_same]
      · rw [upd_ne _ _ hx, upd_ne _ _ hx, upd_ne _ _ hx]
    rw [he2] at this
    exact this
  · rcases hj with hj | hj
    · have := h5 j hj; omega
    · exact hj.2
theorem new_abs (n : Nat) (h1 : 1 ≤ n) (h2 : n ≤ 256) (w : World) : Calls Try.prog 8 #[.int .i64 (n : Int)] w (Ret (ptr (w.heap.size + 2)) fun w' => Wheel (fun j => w.heap.size ≤ j ∧ j < w'.heap.size) w' (w.heap.size + 2) (fun _ => 0) ∧ Below w.heap.size w w') := by
  refine (new_any n h1 h2 w).mono ?_
  rintro e w' ⟨he, hw, hb⟩
  exact ⟨he, ⟨⟨_, hw.bound, fun k => by simp [Wh.zero], fun k hk => by simp [Wh.zero] at hk, fun k => Nat.zero_le _⟩, fun j hj => hj.2⟩, hb⟩
end Go.Proofs.Ytckjgdlceckhpaa
