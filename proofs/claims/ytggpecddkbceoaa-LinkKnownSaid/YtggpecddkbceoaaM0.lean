/- Two links that hear one another: the plain law of LinkMeets (no program in sight). -/
import Derived.Test.YtggpecddkbceoaaL5
set_option linter.unusedSimpArgs false
set_option linter.unusedVariables false
namespace Go.Proofs.Ytggpecddkbceoaa
/-- two links, and what each has not heard yet -/
structure TS where
  l0 : LS
  l1 : LS
  q0 : List AT
  q1 : List AT
/-- what a side says lies before the other one -/
def saidF (t : TS) (side : Bool) (a : AT) : TS := if a.1 = 0 then t else if side = true then { t with q0 := t.q0 ++ [a] } else { t with q1 := t.q1 ++ [a] }
/-- a side hears the first that lies before it -/
def hearsF (t : TS) (side : Bool) : TS :=
  if side = true then (match t.q1 with
    | [] => t
    | a :: r => saidF { t with q1 := r, l1 := (hearF t.l1 a.1 a.2.2.1 a.2.1).2 } true (hearF t.l1 a.1 a.2.2.1 a.2.1).1)
  else (match t.q0 with
    | [] => t
    | a :: r => saidF { t with q0 := r, l0 := (hearF t.l0 a.1 a.2.2.1 a.2.1).2 } false (hearF t.l0 a.1 a.2.2.1 a.2.1).1)
/-- whose turn it is -/
def sideF (first : Bool) (t : TS) : Bool := (first && !t.q1.isEmpty) || t.q0.isEmpty
def stopF (first : Bool) (t : TS) : Bool := if sideF first t = true then t.q1.isEmpty else t.q0.isEmpty
def runF (first : Bool) : Nat → TS → TS
  | 0, t => t
  | n + 1, t => if stopF first t = true then t else runF first n (hearsF t (sideF first t))
theorem run_step {first : Bool} {n : Nat} {t t' : TS} (h : stopF first t = false) (h' : hearsF t (sideF first t) = t') : runF first (n + 1) t = runF first n t' := by
  subst h'
  show (if stopF first t = true then t else _) = _
  rw [h]
  rfl
theorem run_stop {first : Bool} {n : Nat} {t : TS} (h : stopF first t = true) : runF first n t = t := by
  cases n with
  | zero => rfl
  | succ n => show (if stopF first t = true then t else _) = _; rw [h]; rfl
/-- asked to open: one of them, or both -/
def openedF (both : Bool) (a b : LS) : TS :=
  let t := saidF ⟨(evF a .opens).2, ⟨b.s, true, b.tr, b.mo⟩, [], []⟩ false (evF a .opens).1
  if both = true then saidF { t with l1 := (evF t.l1 .opens).2 } true (evF t.l1 .opens).1 else t
def closedF (both : Bool) (u : TS) : TS :=
  let t := saidF { u with l0 := (evF u.l0 .closes).2 } false (evF u.l0 .closes).1
  if both = true then saidF { t with l1 := (evF t.l1 .closes).2 } true (evF t.l1 .closes).1 else t
theorem meets_up (both first : Bool) (a b : LS) (ha : a.s = 1 ∨ a.s = 5) (hb : b.s = 1 ∨ b.s = 5) : (runF first 100 (openedF both a b)).l0.s = 3 ∧ (runF first 100 (openedF both a b)).l1.s = 3 ∧ (runF first 100 (openedF both a b)).q0 = [] ∧ (runF first 100 (openedF both a b)).q1 = [] := by
  obtain ⟨sa, la, ta, ma⟩ := a
  obtain ⟨sb, lb, tb, mb⟩ := b
  dsimp only at ha hb
  rcases ha with rfl | rfl <;> rcases hb with rfl | rfl <;> cases both <;> cases first <;> (refine ⟨?_, ?_, ?_, ?_⟩ <;> kernel_rfl)
theorem meets_down (both first : Bool) (u : TS) (h0 : u.l0.s = 3) (h1 : u.l1.s = 3) (h2 : u.q0 = []) (h3 : u.q1 = []) : (runF first 100 (closedF both u)).l0.s = 1 ∧ (runF first 100 (closedF both u)).l1.s = 1 := by
  obtain ⟨⟨sa, la, ta, ma⟩, ⟨sb, lb, tb, mb⟩, q0, q1⟩ := u
  dsimp only at h0 h1 h2 h3
  subst h0 h1 h2 h3
  cases both <;> cases first <;> (refine ⟨?_, ?_⟩ <;> kernel_rfl)
end Go.Proofs.Ytggpecddkbceoaa
