/- Tick, by how many ticks are left. -/
import Derived.Test.YtckjgdlceckhpaaW8
set_option linter.unusedSimpArgs false
set_option linter.unusedVariables false
namespace Go.Proofs.Ytckjgdlceckhpaa
open Go.RowKit Go.Eff
attribute [local irreducible] Go.wpList
/-- the timers that are due at the next tick -/
def dueL (L : Nat → Nat) : List Nat := (List.range 256).filter (fun k => decide (L k = 1))
/-- a row of octets in a block made since base, or nil -/
def DueR (base : Nat) (w : World) (v : Value) (ds : List Nat) : Prop := (v = .slice none 0 0 ∧ ds = []) ∨ ∃ g cap pad, v = .slice (some ⟨g, 0, none⟩) ds.length cap ∧ base ≤ g ∧ SB w g pad (ds.map fun (k : Nat) => (k : Int)).toArray
def dec (L : Nat → Nat) (k : Nat) : Nat := L k - 1
theorem mod_shift {a x n : Nat} (h : (a + x) % n = a % n) : x % n = 0 := by
  have := Nat.sub_mod_eq_zero_of_mod_eq h
  rwa [Nat.add_sub_cancel_left] at this
theorem div_pred {y n : Nat} (hn : 1 ≤ n) (hy : 1 ≤ y) : (y - 1) / n = if y % n = 0 then y / n - 1 else y / n := by
  have hx := Nat.div_add_mod y n
  have hm : y % n < n := Nat.mod_lt _ hn
  generalize y % n = r at *
  generalize y / n = q at *
  subst hx
  by_cases hr : r = 0
  · subst hr
    rw [if_pos rfl]
    obtain ⟨q, rfl⟩ : ∃ x, q = x + 1 := ⟨q - 1, by
      rcases Nat.eq_zero_or_pos q with h | h
      · subst h; simp at hy
      · omega⟩
    rw [show n * (q + 1) + 0 - 1 = n * q + (n - 1) by rw [Nat.mul_add]; omega, Nat.mul_add_div hn, Nat.div_eq_of_lt (by omega)]
    rfl
  · rw [if_neg hr, show n * q + r - 1 = n * q + (r - 1) by omega, Nat.mul_add_div hn, Nat.div_eq_of_lt (by omega)]
    rfl
theorem pw_weak {α : Type} {R S : α → α → Prop} (h : ∀ a b, R a b → S a b) : ∀ l : List α, l.Pairwise R → l.Pairwise S
  | [], _ => List.Pairwise.nil
  | a :: l, hl => by
    rw [List.pairwise_cons] at hl ⊢
    exact ⟨fun b hb => h a b (hl.1 b hb), pw_weak h l hl.2⟩
theorem sorted_due {D E : List Nat} (hD : D.Nodup) (hE : E.Pairwise (· < ·)) (h : ∀ k, k ∈ D ↔ k ∈ E) : (D.map fun (k : Nat) => (k : Int)).mergeSort (fun x y => decide (x ≤ y)) = E.map fun (k : Nat) => (k : Int) := by
  have hEn : E.Nodup := pw_weak (fun _ _ h => Nat.ne_of_lt h) _ hE
  have hp : D.Perm E := (List.perm_ext_iff_of_nodup hD hEn).2 h
  refine List.Perm.eq_of_pairwise (le := fun x y : Int => x ≤ y) (fun a b _ _ h1 h2 => Int.le_antisymm h1 h2) ?_ ?_ ((List.mergeSort_perm _ _).trans (hp.map _))
  · have := List.pairwise_mergeSort (le := fun x y : Int => decide (x ≤ y)) (fun a b c h1 h2 => by simp at *; omega) (fun a b => by simp; omega) (D.map fun (k : Nat) => (k : Int))
    exact pw_weak (fun _ _ h => by simpa using h) _ this
  · rw [List.pairwise_map]
    exact pw_weak (fun _ _ h => by omega) _ hE
theorem dueL_sorted (L : Nat → Nat) : (dueL L).Pairwise (· < ·) := List.pairwise_lt_range.filter _
theorem tick_abs {F : Nat → Prop} {w : World} {p : Nat} {L : Nat → Nat} (h : Wheel F w p L) :
    Calls Try.prog 16 #[ptr p] w (fun e w' => ∃ v, e = .returned v ∧ Wheel F w' p (dec L) ∧ Turn (fun j => F j ∨ w.heap.size ≤ j) w w' ∧ DueR w.heap.size w' v (dueL L)) := by
  obtain ⟨⟨s, h1, h2, h3, h4⟩, h5⟩ := h
  have hn := h1.n1
  have htl : (s.tt + 1) % s.n < s.n := Nat.mod_lt _ hn
  have hrd : ∀ k ∈ s.M, 0 ≤ s.Rd k ∧ s.Rd k ≤ 65535 := fun k hk => by
    rw [(h3 k hk).2]
    have h8 := Nat.div_le_self (L k - 1) s.n
    have h9 := h4 k
    generalize (L k - 1) / s.n = q at *
    omega
  have hxs : ∀ k, k ∈ s.R ((s.tt + 1) % s.n) ↔ k ∈ s.M ∧ s.Sl k = (s.tt + 1) % s.n := h1.mem _ htl
  have hdue : ∀ k, k ∈ dueOf s.Rd (s.R ((s.tt + 1) % s.n)) (s.R ((s.tt + 1) % s.n)).length ↔ L k = 1 := by
    intro k
    unfold dueOf
    rw [List.take_length, List.mem_filter, hxs]
    constructor
    · rintro ⟨⟨hk, hs⟩, hr⟩
      have e1 := h3 k hk
      have hl := (h2 k).1 hk
      rw [e1.1] at hs
      simp only [decide_eq_true_eq] at hr
      rw [e1.2] at hr
      have hd : (L k - 1) / s.n = 0 := by omega
      have hlt : L k - 1 < s.n := by
        rcases Nat.lt_or_ge (L k - 1) s.n with h | h
        · exact h
        · have := Nat.div_pos h hn; omega
      have hm := mod_shift (a := s.tt + 1) (x := L k - 1) (n := s.n) (by rw [show s.tt + 1 + (L k - 1) = s.tt + L k by omega]; exact hs)
      rw [Nat.mod_eq_of_lt hlt] at hm
      omega
    · intro hl
      have hk := (h2 k).2 (by omega)
      have e1 := h3 k hk
      refine ⟨⟨hk, by rw [e1.1, hl]⟩, ?_⟩
      simp only [decide_eq_true_eq]
      rw [e1.2, hl]
      simp
  refine (tick_walk h1 h5 rfl hrd).mono ?_
  rintro e w' ⟨v, s', pad, he, hw, f1, f2, f3, f4, hM, hT, hv⟩
  refine ⟨v, he, ⟨⟨s', hw, fun k => ?_, fun k hk => ?_, fun k => ?_⟩, fun j hj => Nat.lt_of_lt_of_le (h5 j hj) hT.size⟩, hT, ?_⟩
  · rw [hM k, hdue k, h2 k]
    unfold dec
    omega
  · have hk2 := (hM k).1 hk
    rw [hdue k] at hk2
    have hl := (h2 k).1 hk2.1
    obtain ⟨e1, e2⟩ := h3 k hk2.1
    obtain ⟨y, hy⟩ : ∃ y, L k = y + 1 := ⟨L k - 1, by omega⟩
    have hdk : dec L k = y := by unfold dec; omega
    have hsl : (s.tt + 1 + y) % s.n = s.Sl k := by rw [e1, hy]; congr 1; omega
    rw [f1, f2, f3, f4, hdk]
    refine ⟨?_, ?_⟩
    · rw [Nat.mod_add_mod]; exact hsl.symm
    · unfold rdAt
      rw [List.take_length, div_pred hn (by omega), e2, hy, Nat.add_sub_cancel]
      by_cases hx : k ∈ s.R ((s.tt + 1) % s.n)
      · have h6 := ((hxs k).1 hx).2
        rw [← hsl] at h6
        have hm := mod_shift h6
        rw [if_pos hx, if_pos hm]
        have hq : 1 ≤ y / s.n := by
          have hxx := Nat.div_add_mod y s.n
          rw [hm] at hxx
          rcases Nat.eq_zero_or_pos (y / s.n) with h | h
          · rw [h] at hxx; omega
          · exact h
        omega
      · rw [if_neg hx, if_neg]
        intro hm
        apply hx
        rw [hxs]
        refine ⟨hk2.1, ?_⟩
        rw [← hsl, Nat.add_mod, hm, Nat.add_zero, Nat.mod_mod]
  · unfold dec
    have := h4 k
    omega
  · have hDn : (dueOf s.Rd (s.R ((s.tt + 1) % s.n)) (s.R ((s.tt + 1) % s.n)).length).Nodup := by
      unfold dueOf
      rw [List.take_length]
      exact (h1.ndr _ htl).filter _
    have hmem : ∀ k, k ∈ dueOf s.Rd (s.R ((s.tt + 1) % s.n)) (s.R ((s.tt + 1) % s.n)).length ↔ k ∈ dueL L := by
      intro k
      rw [hdue k]
      unfold dueL
      rw [List.mem_filter, List.mem_range]
      simp only [decide_eq_true_eq]
      exact ⟨fun h => ⟨(h1.lt k ((h2 k).2 (by omega))).1, h⟩, fun h => h.2⟩
    have hs := sorted_due hDn (dueL_sorted L) hmem
    have hp : (dueOf s.Rd (s.R ((s.tt + 1) % s.n)) (s.R ((s.tt + 1) % s.n)).length).length = (dueL L).length :=
      ((List.perm_ext_iff_of_nodup hDn (pw_weak (fun _ _ h => Nat.ne_of_lt h) _ (dueL_sorted L))).2 hmem).length_eq
    rw [hs, hp] at hv
    rcases hv with ⟨hv, hd⟩ | ⟨g, cap, hv, hg, hb⟩
    · refine .inl ⟨hv, ?_⟩
      rw [hd] at hp
      exact List.eq_nil_of_length_eq_zero hp.symm
    · exact .inr ⟨g, cap, pad, hv, hg, hb⟩
/-- a call whose value is not known ahead -/
theorem seq_ev {P : Program} {ops : Array Oper} {Q : Exit → Act → World → Prop} {o : Oper} {rest : List Oper} {a : Act} {w : World} {f : FuncId} {args : Array Value} {X : Value → World → Prop}
    (hw : Region.wanted o (yielded ops a.tmps) = true) (h : (execOp a.eval o).run P w = .ok (.enter f args) w) (hc : Calls P f args w (fun e w' => ∃ v, e = .returned v ∧ X v w'))
    (hn : ∀ v w', X v w' → wpList P ops Q rest (a.put o.dst v) w') : wpList P ops Q (o :: rest) a w := by
  unfold wpList
  rw [if_pos hw]
  refine .inl ?_
  unfold Oper.wp
  rw [h]
  exact hc.mono fun e w' ⟨v, he, hx⟩ => by subst he; exact hn v w' hx
end Go.Proofs.Ytckjgdlceckhpaa
