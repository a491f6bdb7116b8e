/- Walks of long functions: what follows a statement stands behind a name, so that a goal does not hold the whole rest of the code twice over. No condition. -/
import Derived.WalkKit
import Derived.WalkSpells
namespace Go.Eff
open Go
/-- what follows: K holds wherever y's walk does; no proposition, so that no simp takes it up -/
structure Kf (P : Program) (Q : Exit → Act → World → Prop) (y : Code) (K : Act → World → Prop) : Type where
  out : ∀ a w, y.wp P Q a w → K a w
section
variable {P : Program} {Q : Exit → Act → World → Prop} {x y : Code} {K : Act → World → Prop} {a : Act} {w : World}
theorem seq_k (h : ∀ K (_ : Kf P Q y K), x.wp P (Exit.then K Q) a w) : (Code.seq x y).wp P Q a w := wp_seq (h _ ⟨fun _ _ h => h⟩)
theorem kf_out (k : Kf P Q y K) (h : y.wp P Q a w) : K a w := k.out _ _ h
theorem region_k {id : Nat} {l : List Oper} (h : ∀ K (_ : Kf P Q y K), wpList P l.toArray (Exit.then K Q) l a w) : (Code.seq (.region id l.toArray false) y).wp P Q a w :=
  wp_seq (wp_region_lit (h _ ⟨fun _ _ h => h⟩))
end
/-! whether an operation is passed over: by its guard, step by step (the whole of it at once costs the elaborator minutes) -/
section
variable {ops : Array Oper} {o : Oper} {tm : Array Value} {k : Nat} {b c : Bool} {t : Tmp}
theorem wanted_none (hg : o.guard = none) : Region.wanted o (yielded ops tm) = true := by unfold Region.wanted; rw [hg]
theorem wanted_yes (hg : o.guard = some (k, b)) (hd : (ops[k]?).bind (·.dst) = some t) (hv : tm[t]? = some (.bool b)) : Region.wanted o (yielded ops tm) = true := by
  unfold Region.wanted; rw [hg]; unfold yielded; simp only [hd, Option.bind_some, hv]; simp
theorem wanted_no (hg : o.guard = some (k, b)) (hd : (ops[k]?).bind (·.dst) = some t) (hv : tm[t]? = some (.bool !b)) : Region.wanted o (yielded ops tm) = false := by
  unfold Region.wanted; rw [hg]; unfold yielded; simp only [hd, Option.bind_some, hv]; cases b <;> rfl
theorem wanted_undef (hg : o.guard = some (k, b)) (hd : (ops[k]?).bind (·.dst) = some t) (hv : tm[t]? = some undef) : Region.wanted o (yielded ops tm) = false := by
  unfold Region.wanted; rw [hg]; unfold yielded; simp only [hd, Option.bind_some, hv]; rfl
end
/-! a slot set, without a chain of rewrites -/
section
variable {l : List Value} {ds : List Deferred} {dst : Option Tmp} {n : Nat} {v : Value} {a' a : Act}
theorem put_some (hd : dst = some n) (ha : (⟨(l.set n v).toArray, ds⟩ : Act) = a') : Act.put ⟨l.toArray, ds⟩ dst v = a' := by
  subst hd
  subst ha
  simp [Act.put]
theorem put_none (hd : dst = none) : Act.put a dst v = a := by
  subst hd
  rfl
end
end Go.Eff
