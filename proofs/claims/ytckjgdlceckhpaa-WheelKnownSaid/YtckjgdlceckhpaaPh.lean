/- A region that draws its order, in two stretches: all that comes behind an operation waits for it; behind it the rest is walked once in the order of the text, under what holds there. No condition. -/
import Derived.Test.YtckjgdlceckhpaaOg
namespace Go.Eff
open Go
section
variable {P : Program} {ops : Array Oper} {Q : Exit → Act → World → Prop} {md : Region.Mode} {S : World → Prop} {L : Nat → Bool}
theorem late_rest : ∀ (fuel : Nat) (listed : Array Bool) (a : Act) (w : World), ((List.range ops.size).all fun i => listed.getD i true || L i) = true → wpAny P md ops Q fuel listed a w → wpAnyG P md ops Q S L fuel listed a w
  | 0, _, _, _, _, h => h
  | fuel + 1, listed, a, w, hall, h => by
    refine ⟨h.1, fun i hi => wpOp_mono (fun a' w' h' => ⟨?_, late_rest fuel _ a' w' ?_ h'⟩) (h.2 i hi)⟩
    · obtain ⟨hun, oj, hoj, _⟩ := mem_ready.1 hi
      have hlt : i < ops.size := (Array.getElem?_eq_some_iff.1 hoj).1
      have h1 := List.all_eq_true.1 hall i (by simpa using hlt)
      rw [hun] at h1
      exact .inl (by simpa using h1)
    · rw [List.all_eq_true] at hall ⊢
      intro j hj
      have h1 := hall j hj
      by_cases hij : i = j
      · subst hij
        by_cases hs : i < listed.size
        · simp [Array.getD, hs]
        · simp [Array.getD, hs]
      · rw [getD_set_ne true hij]
        exact h1
theorem any_lex {I : World → Prop} {E A : Nat → Bool} {fuel : Nat} {listed : Array Bool} {a : Act} {w : World} (k : Nat) {l : List Oper} (hl : l = ops.toList.drop k) (hf : l.length = fuel) (hs : Region.noSelect ops = true) (hsz : listed.size = ops.size)
    (hB : lexE md ops E A (Region.before ops) l.length k listed = true) (hI : I w) (hS : ∀ w, I w → S w) (h : wpLexA P ops S E A (fun a' I' => ∀ w', I' w' → Q .normal a' w') k l a I) : wpAny P md ops Q fuel listed a w := by
  subst hf
  refine wpAny_of_E (E := E) (A := A) (S := S) (Q := fun a' I' => ∀ w', I' w' → Q .normal a' w') (fun a I w hw h => h w hw) _ _ _ I _ hI hS ?_
  exact wpAnyE_lex hs l k listed a I hsz (fun j => by rw [hl, List.getElem?_drop, Array.getElem?_toList]) hB h
end
end Go.Eff
