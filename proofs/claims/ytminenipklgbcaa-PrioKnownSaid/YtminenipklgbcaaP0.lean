/- Whose turn it is: the plain law (no program in sight). -/
import Derived.WalkKit
set_option linter.unusedSimpArgs false
set_option linter.unusedVariables false
namespace Go.Proofs.Ytminenipklgbcaa
/-- classes, who is ready, who took the last turn of each class (-1: none) -/
structure PS where
  cl : List Int
  rd : List Bool
  la : List Int
def PS.c (s : PS) (d : Nat) : Int := s.cl.getD d 0
def PS.r (s : PS) (d : Nat) : Bool := s.rd.getD d false
def PS.l (s : PS) (c : Nat) : Int := s.la.getD c 0
structure PS.Ok (s : PS) : Prop where
  cl64 : s.cl.length = 64
  rd64 : s.rd.length = 64
  la64 : s.la.length = 64
  clr : ∀ i, i < 64 → 0 ≤ s.c i ∧ s.c i < 64
  lar : ∀ i, i < 64 → -1 ≤ s.l i ∧ s.l i < 64
/-- d may take a turn -/
def mayP (s : PS) (d : Nat) : Prop := d < 64 ∧ s.r d = true ∧ ∀ e, e < 64 → s.r e = true → ¬ s.c e < s.c d
instance (s : PS) (d : Nat) : Decidable (mayP s d) := by unfold mayP; infer_instance
/-- the last turn of d's class -/
def lastOf (s : PS) (d : Nat) : Int := s.l (s.c d).toNat
theorem may_class {s : PS} {d e : Nat} (hd : mayP s d) (he : mayP s e) : s.c d = s.c e := by
  have h1 := hd.2.2 e he.1 he.2.1
  have h2 := he.2.2 d hd.1 hd.2.1
  omega
theorem may_last {s : PS} {d e : Nat} (hd : mayP s d) (he : mayP s e) : lastOf s d = lastOf s e := by
  unfold lastOf
  rw [may_class hd he]
/-- d is the one that is picked -/
def isPick (s : PS) (d : Nat) : Prop := mayP s d ∧
  ((lastOf s d < d ∧ ∀ e, mayP s e → lastOf s d < e → d ≤ e) ∨ (¬ lastOf s d < d ∧ (∀ e, mayP s e → ¬ lastOf s d < e) ∧ ∀ e, mayP s e → d ≤ e))
theorem pick_unique {s : PS} {d e : Nat} (hd : isPick s d) (he : isPick s e) : d = e := by
  obtain ⟨md, hd⟩ := hd
  obtain ⟨me, he⟩ := he
  have hl := may_last md me
  rcases hd with ⟨d1, d2⟩ | ⟨d1, d2, d3⟩ <;> rcases he with ⟨e1, e2⟩ | ⟨e1, e2, e3⟩
  · have h1 := d2 e me (by omega)
    have h2 := e2 d md (by omega)
    omega
  · exact absurd (by omega) (e2 d md)
  · exact absurd (by omega) (d2 e me)
  · have h1 := d3 e me
    have h2 := e3 d md
    omega
/-- one of least class is there, if any is ready -/
theorem may_some (s : PS) : ∀ n, n ≤ 64 → (∃ d, d < n ∧ s.r d = true) → ∃ d, d < n ∧ s.r d = true ∧ ∀ e, e < n → s.r e = true → ¬ s.c e < s.c d := by
  intro n
  induction n with
  | zero => rintro _ ⟨d, h, _⟩; omega
  | succ n ih =>
    intro hn hex
    by_cases hp : ∃ d, d < n ∧ s.r d = true
    · obtain ⟨d, hd, hr, hm⟩ := ih (by omega) hp
      by_cases hq : s.r n = true ∧ s.c n < s.c d
      · refine ⟨n, by omega, hq.1, fun e he hre => ?_⟩
        by_cases hen : e = n
        · subst hen; omega
        · have := hm e (by omega) hre
          omega
      · refine ⟨d, by omega, hr, fun e he hre => ?_⟩
        by_cases hen : e = n
        · subst hen
          intro hc
          exact hq ⟨hre, hc⟩
        · exact hm e (by omega) hre
    · obtain ⟨d, hd, hr⟩ := hex
      have hdn : d = n := by
        by_cases h : d < n
        · exact absurd ⟨d, h, hr⟩ hp
        · omega
      subst hdn
      refine ⟨d, by omega, hr, fun e he hre => ?_⟩
      by_cases hen : e = d
      · subst hen; omega
      · exact absurd ⟨e, by omega, hre⟩ hp
theorem may_ex {s : PS} (h : ∃ d, d < 64 ∧ s.r d = true) : ∃ d, mayP s d := by
  obtain ⟨d, h1, h2, h3⟩ := may_some s 64 (Nat.le_refl _) h
  exact ⟨d, h1, h2, h3⟩
/-- the search goes round from the one behind the last turn's -/
def at_ (l : Int) (i : Nat) : Nat := ((l + 1 + i) % 64).toNat
theorem at_lt (l : Int) (i : Nat) : at_ l i < 64 := by unfold at_; omega
theorem round_pick {s : PS} {l : Int} {i : Nat} (hl : -1 ≤ l ∧ l < 64) (hi : i < 64) (hm : mayP s (at_ l i)) (hla : lastOf s (at_ l i) = l) (hno : ∀ j, j < i → ¬ mayP s (at_ l j)) : isPick s (at_ l i) := by
  refine ⟨hm, ?_⟩
  rw [hla]
  have back : ∀ e, e < 64 → ∃ j, j < 64 ∧ at_ l j = e ∧ (l < e → (j : Int) = e - l - 1) ∧ (¬ l < e → (j : Int) = 64 - l - 1 + e) := by
    intro e he
    by_cases h : l < e
    · exact ⟨(e - l - 1).toNat, by omega, by unfold at_; omega, fun _ => by omega, fun h' => absurd h h'⟩
    · exact ⟨(64 - l - 1 + e).toNat, by omega, by unfold at_; omega, fun h' => absurd h' h, fun _ => by omega⟩
  have hd := at_lt l i
  have hi' : (l < at_ l i → (i : Int) = at_ l i - l - 1) ∧ (¬ l < at_ l i → (i : Int) = 64 - l - 1 + at_ l i) := by unfold at_; omega
  by_cases h : l < at_ l i
  · refine .inl ⟨h, fun e he hle => ?_⟩
    obtain ⟨j, hj, hje, h1, _⟩ := back e he.1
    by_cases hji : j < i
    · rw [← hje] at he; exact absurd he (hno j hji)
    · have := h1 hle
      have := hi'.1 h
      omega
  · refine .inr ⟨h, fun e he hle => ?_, fun e he => ?_⟩
    · obtain ⟨j, hj, hje, h1, _⟩ := back e he.1
      have h2 := h1 hle
      have h3 := hi'.2 h
      have h4 := he.1
      rw [← hje] at he
      exact hno j (by omega) he
    · obtain ⟨j, hj, hje, h1, h2⟩ := back e he.1
      by_cases hji : j < i
      · rw [← hje] at he; exact absurd he (hno j hji)
      · by_cases hle : l < e
        · have := h1 hle
          have := hi'.2 h
          omega
        · have := h2 hle
          have := hi'.2 h
          omega
theorem round_ex {s : PS} {l : Int} {d : Nat} (hl : -1 ≤ l ∧ l < 64) (hd : mayP s d) : ∃ i, i < 64 ∧ at_ l i = d := by
  have := hd.1
  by_cases h : l < d
  · exact ⟨(d - l - 1).toNat, by omega, by unfold at_; omega⟩
  · exact ⟨(64 - l - 1 + d).toNat, by omega, by unfold at_; omega⟩
/-- the document's: the first one, and the first one above the last turn's -/
theorem doc_pick {s : PS} {f a : Nat} (hf : mayP s f) (hf0 : ∀ e, e < f → ¬ mayP s e) (ha : mayP s a) (ha1 : lastOf s a < a) (ha0 : ∀ e, e < a → mayP s e → ¬ lastOf s e < e) : isPick s a := by
  refine ⟨ha, .inl ⟨ha1, fun e he hle => ?_⟩⟩
  by_cases h : e < a
  · exact absurd (by rw [may_last he ha]; exact hle) (ha0 e h he)
  · omega
theorem doc_pick0 {s : PS} {f : Nat} (hf : mayP s f) (hf0 : ∀ e, e < f → ¬ mayP s e) (hno : ∀ e, e < 64 → mayP s e → ¬ lastOf s e < e) : isPick s f := by
  refine ⟨hf, .inr ⟨hno f hf.1 hf, fun e he => ?_, fun e he => ?_⟩⟩
  · rw [may_last hf he]; exact hno e he.1 he
  · by_cases h : e < f
    · exact absurd he (hf0 e h)
    · omega
/-- a turn is taken -/
def PS.take (s : PS) (d : Nat) : PS := { s with la := s.la.set (s.c d).toNat d }
theorem take_may (s : PS) (d e : Nat) : mayP (s.take d) e ↔ mayP s e := Iff.rfl
theorem take_last {s : PS} (hs : s.Ok) {d e : Nat} (hd : mayP s d) (he : mayP s e) : lastOf (s.take d) e = d := by
  have h1 := may_class hd he
  have h2 := hs.clr d hd.1
  have h3 := hs.la64
  unfold lastOf PS.take PS.l
  show (s.la.set (s.c d).toNat (d : Int)).getD ((s.c e).toNat) 0 = d
  rw [← h1]
  have : (s.c d).toNat < s.la.length := by omega
  simp [List.getD_eq_getElem?_getD, List.getElem?_set, this]
theorem take_ok {s : PS} (hs : s.Ok) {d : Nat} (hd : d < 64) : (s.take d).Ok := by
  refine ⟨hs.cl64, hs.rd64, by simpa [PS.take] using hs.la64, hs.clr, fun i hi => ?_⟩
  have h := hs.lar i hi
  unfold PS.take PS.l at *
  show -1 ≤ (s.la.set (s.c d).toNat (d : Int)).getD i 0 ∧ _
  simp only [List.getD_eq_getElem?_getD, List.getElem?_set] at *
  split
  · split <;> simp <;> omega
  · exact h
end Go.Proofs.Ytminenipklgbcaa
