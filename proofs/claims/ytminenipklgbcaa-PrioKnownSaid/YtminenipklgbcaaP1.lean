/- Picks in a row; what is ready in a greater class: the plain laws of PrioFair and PrioApart. -/
import Derived.Test.YtminenipklgbcaaP0
set_option linter.unusedSimpArgs false
set_option linter.unusedVariables false
namespace Go.Proofs.Ytminenipklgbcaa
theorem at_inj {l : Int} {i j : Nat} (hl : -1 ≤ l ∧ l < 64) (hi : i < 64) (hj : j < 64) (h : at_ l i = at_ l j) : i = j := by unfold at_ at h; omega
theorem at_at {l : Int} (hl : -1 ≤ l ∧ l < 64) (r j : Nat) : at_ (at_ l r) j = at_ l (r + 1 + j) := by unfold at_; omega
theorem least_nat (p : Nat → Prop) [DecidablePred p] : ∀ n, p n → ∃ m, m ≤ n ∧ p m ∧ ∀ k, k < m → ¬ p k := by
  intro n
  induction n using Nat.strongRecOn with
  | _ n ih =>
    intro hn
    by_cases h : ∃ k, k < n ∧ p k
    · obtain ⟨k, hk, hp⟩ := h
      obtain ⟨m, h1, h2, h3⟩ := ih k hk hp
      exact ⟨m, by omega, h2, h3⟩
    · exact ⟨n, Nat.le_refl _, hn, fun k hk hp => h ⟨k, hk, hp⟩⟩
/-- who is left: from rank R on, told from l0 -/
def Left (s : PS) (l0 : Int) (R : Nat) (x : Nat) : Prop := ∃ q, R ≤ q ∧ q < 64 ∧ at_ l0 q = x ∧ mayP s x
/-- l is where the search begins now -/
def Now (s : PS) (l0 : Int) (R : Nat) : Prop := ∃ l : Int, (-1 ≤ l ∧ l < 64) ∧ (∀ e, mayP s e → lastOf s e = l) ∧ ∀ j, at_ l j = at_ l0 (R + j)
theorem fair_next {s : PS} {l0 : Int} {R d : Nat} (hl0 : -1 ≤ l0 ∧ l0 < 64) (hN : Now s l0 R) (hp : isPick s d) (hex : ∃ x, Left s l0 R x) :
    ∃ q, R ≤ q ∧ q < 64 ∧ at_ l0 q = d ∧ ∀ x, Left s l0 (q + 1) x ↔ (Left s l0 R x ∧ x ≠ d) := by
  obtain ⟨l, hl, hla, hat⟩ := hN
  obtain ⟨x, q0, h1, h2, h3, h4⟩ := hex
  have h5 : mayP s (at_ l (q0 - R)) := by rw [hat, show R + (q0 - R) = q0 by omega, h3]; exact h4
  obtain ⟨j, hj, hm, hno⟩ := least_nat (fun j => mayP s (at_ l j)) (q0 - R) h5
  have h6 := round_pick (s := s) hl (by omega) hm (hla _ hm) hno
  have h7 := pick_unique hp h6
  refine ⟨R + j, by omega, by omega, by rw [← hat, h7], fun y => ⟨?_, ?_⟩⟩
  · rintro ⟨q, a1, a2, a3, a4⟩
    refine ⟨⟨q, by omega, a2, a3, a4⟩, fun e => ?_⟩
    have := at_inj hl0 a2 (show R + j < 64 by omega) (by rw [a3, e, h7, hat])
    omega
  · rintro ⟨⟨q, a1, a2, a3, a4⟩, hne⟩
    refine ⟨q, ?_, a2, a3, a4⟩
    by_cases hq : q < R + j
    · exfalso
      refine hno (q - R) (by omega) ?_
      rw [hat, show R + (q - R) = q by omega, a3]
      exact a4
    · by_cases hq2 : q = R + j
      · exfalso
        refine hne ?_
        rw [← a3, hq2, h7, hat]
      · omega
theorem now_next {s : PS} (hs : s.Ok) {l0 : Int} {d q : Nat} (hl0 : -1 ≤ l0 ∧ l0 < 64) (hd : mayP s d) (hq : at_ l0 q = d) : Now (s.take d) l0 (q + 1) :=
  ⟨d, by have := hd.1; omega, fun e he => take_last hs hd ((take_may s d e).1 he), fun j => by rw [← hq]; exact at_at hl0 q j⟩
theorem left_take (s : PS) (d : Nat) (l0 : Int) (R x : Nat) : Left (s.take d) l0 R x ↔ Left s l0 R x := Iff.rfl
/-- at first all are left -/
theorem left_all {s : PS} {l0 : Int} (hl0 : -1 ≤ l0 ∧ l0 < 64) (x : Nat) : Left s l0 0 x ↔ mayP s x := by
  constructor
  · rintro ⟨_, _, _, _, h⟩; exact h
  · intro h
    obtain ⟨i, hi, e⟩ := round_ex (s := s) hl0 h
    exact ⟨i, Nat.zero_le _, hi, e, h⟩
theorem now_first {s : PS} (hs : s.Ok) {d : Nat} (hd : mayP s d) : Now s (lastOf s d) 0 ∧ (-1 ≤ lastOf s d ∧ lastOf s d < 64) := by
  have h1 := hs.clr d hd.1
  have h2 := hs.lar (s.c d).toNat (by omega)
  exact ⟨⟨lastOf s d, h2, fun e he => may_last he hd, fun j => by rw [Nat.zero_add]⟩, h2⟩
/-- a list of marks and how many are left -/
theorem count_set : ∀ {l : List Bool} {d : Nat}, l[d]? = some true → (l.set d false).count true + 1 = l.count true
  | [], d, h => by simp at h
  | b :: l, 0, h => by
    have : b = true := by simpa using h
    subst this
    simp
  | b :: l, d + 1, h => by
    have := count_set (l := l) (d := d) (by simpa using h)
    simp only [List.set_cons_succ, List.count_cons]
    omega
theorem count_ex {l : List Bool} (h : 0 < l.count true) : ∃ d : Nat, l[d]? = some true := by
  have := List.count_pos_iff.1 h
  exact List.getElem?_of_mem this
/-- the same, and dl ready, of a greater class than all that are -/
structure Apart (s s' : PS) (dl : Nat) : Prop where
  cl : s'.cl = s.cl
  la : s'.la = s.la
  rd : s'.rd = s.rd.set dl true
  not : s.r dl = false
  some : ∃ d, d < 64 ∧ s.r d = true
  lt : ∀ d, d < 64 → s.r d = true → s.c d < s.c dl
theorem Apart.c {s s' : PS} {dl : Nat} (h : Apart s s' dl) (d : Nat) : s'.c d = s.c d := by unfold PS.c; rw [h.cl]
theorem Apart.r_ne {s s' : PS} {dl d : Nat} (h : Apart s s' dl) (hd : d ≠ dl) : s'.r d = s.r d := by
  unfold PS.r
  rw [h.rd]
  simp [List.getD_eq_getElem?_getD, List.getElem?_set, Ne.symm hd]
theorem Apart.may {s s' : PS} {dl : Nat} (h : Apart s s' dl) (d : Nat) : mayP s' d ↔ mayP s d := by
  constructor
  · rintro ⟨h1, h2, h3⟩
    have hne : d ≠ dl := by
      rintro rfl
      obtain ⟨e, he, hr⟩ := h.some
      have hlt := h.lt e he hr
      have hed : e ≠ d := by rintro rfl; omega
      have := h3 e he (by rw [h.r_ne hed]; exact hr)
      rw [h.c, h.c] at this
      omega
    refine ⟨h1, by rw [← h.r_ne hne]; exact h2, fun e he hr => ?_⟩
    have hed : e ≠ dl := by rintro rfl; rw [h.not] at hr; cases hr
    have := h3 e he (by rw [h.r_ne hed]; exact hr)
    rw [h.c, h.c] at this
    exact this
  · rintro ⟨h1, h2, h3⟩
    have hne : d ≠ dl := by rintro rfl; rw [h.not] at h2; cases h2
    refine ⟨h1, by rw [h.r_ne hne]; exact h2, fun e he hr => ?_⟩
    rw [h.c, h.c]
    by_cases hed : e = dl
    · subst hed
      have := h.lt d h1 h2
      omega
    · exact h3 e he (by rw [← h.r_ne hed]; exact hr)
theorem Apart.last {s s' : PS} {dl : Nat} (h : Apart s s' dl) (d : Nat) : lastOf s' d = lastOf s d := by
  unfold lastOf PS.l
  rw [h.c, h.la]
theorem Apart.pick {s s' : PS} {dl d : Nat} (h : Apart s s' dl) : isPick s' d ↔ isPick s d := by
  unfold isPick
  simp only [h.may, h.last]
theorem Apart.take {s s' : PS} {dl : Nat} (h : Apart s s' dl) (d : Nat) : Apart (s.take d) (s'.take d) dl :=
  ⟨h.cl, by show s'.la.set (s'.c d).toNat d = s.la.set (s.c d).toNat d; rw [h.c, h.la], h.rd, h.not, h.some, h.lt⟩
theorem Apart.no {s s' : PS} {dl : Nat} (h : Apart s s' dl) : ¬ mayP s' dl := by
  rw [h.may]
  rintro ⟨_, h2, _⟩
  rw [h.not] at h2
  cases h2
end Go.Proofs.Ytminenipklgbcaa
