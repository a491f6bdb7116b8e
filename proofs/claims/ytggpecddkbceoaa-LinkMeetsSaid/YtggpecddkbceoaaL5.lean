/- What is done to a link, as a function of its fields; the link's contracts by it. -/
import Derived.Test.YtggpecddkbceoaaL4
set_option linter.unusedSimpArgs false
set_option linter.unusedVariables false
namespace Go.Proofs.Ytggpecddkbceoaa
open Go.RowKit Go.Eff
/-- an answer: Kind, Command, PF, Timer, Fact -/
abbrev AT := Int × Bool × Bool × Int × Int
abbrev aV (x : AT) : Value := actV x.1 x.2.1 x.2.2.1 x.2.2.2.1 x.2.2.2.2
/-- a link's fields: state, listens, tries, most -/
structure LS where
  s : Int
  ls : Bool
  tr : Int
  mo : Int
/-- what is done to a link: opens, closes, due, a response of this kind, a command of this kind with this answer -/
abbrev Ev := Option (Option (Option (Int ⊕ Int × Int)))
abbrev Ev.opens : Ev := none
abbrev Ev.closes : Ev := some none
abbrev Ev.due : Ev := some (some none)
abbrev Ev.resp (k : Int) : Ev := some (some (some (.inl k)))
abbrev Ev.cmd (k a : Int) : Ev := some (some (some (.inr (k, a))))
def evV : Ev → Value
  | none => .iface 62 (.agg #[])
  | some none => .iface 63 (.agg #[])
  | some (some none) => .iface 68 (.agg #[])
  | some (some (some (.inl k))) => .iface 67 (.agg #[.int .u8 k])
  | some (some (some (.inr (k, a)))) => .iface 75 (.agg #[.int .u8 k, .int .u8 a])
abbrev N0 : AT := (0, false, false, 0, 0)
def beginF (l : LS) (s k : Int) : AT × LS := ((k, true, true, 1, 0), ⟨s, l.ls, 0, l.mo⟩)
def againF (l : LS) (k : Int) : AT × LS := if l.tr < l.mo then ((k, true, true, 1, 0), ⟨l.s, l.ls, l.tr + 1, l.mo⟩) else ((0, false, false, 2, 6), ⟨5, l.ls, l.tr, l.mo⟩)
def goF (l : LS) (s : Int) (a : AT) : AT × LS := (a, ⟨s, l.ls, l.tr, l.mo⟩)
def downF (l : LS) : Ev → AT × LS
  | none => beginF l 2 1
  | some (some (some (.inr (k, a)))) => if k = 1 then (if l.ls = true then goF l 3 (2, false, false, 0, 2) else goF l l.s (a, false, false, 0, 0)) else goF l l.s (a, false, false, 0, 0)
  | _ => goF l l.s N0
def openingF (l : LS) : Ev → AT × LS
  | some none => beginF l 4 4
  | some (some none) => againF l 1
  | some (some (some (.inl k))) => if k = 2 then goF l 3 (0, false, false, 2, 1) else goF l 1 (0, false, false, 2, 4)
  | some (some (some (.inr (k, a)))) => if k = 1 then goF l l.s (2, false, false, 0, 0) else if k = 4 then goF l 1 (3, false, false, 2, 4) else goF l l.s N0
  | none => goF l l.s N0
def upF (l : LS) : Ev → AT × LS
  | some none => beginF l 4 4
  | some (some (some (.inr (k, a)))) => if k = 1 then goF l l.s (2, false, false, 0, 3) else if k = 4 then goF l 1 (2, false, false, 0, 5) else goF l l.s N0
  | _ => goF l l.s N0
def closingF (l : LS) : Ev → AT × LS
  | some (some none) => againF l 4
  | some (some (some (.inl k))) => goF l 1 (0, false, false, 2, 5)
  | some (some (some (.inr (k, a)))) => if k = 1 then goF l l.s (3, false, false, 0, 0) else if k = 4 then goF l l.s (2, false, false, 0, 0) else goF l l.s N0
  | _ => goF l l.s N0
def evF (l : LS) (e : Ev) : AT × LS := if l.s = 2 then openingF l e else if l.s = 3 then upF l e else if l.s = 4 then closingF l e else downF l e
/-- a command that is heard -/
def ansOf (k : Int) (p : Bool) : Int := if p = true then 3 else if k = 1 then 3 else if k = 4 then 3 else 0
def bitF (p : Bool) (x : AT × LS) : AT × LS := ((x.1.1, x.1.2.1, p && x.1.1 != 0, x.1.2.2.2.1, x.1.2.2.2.2), x.2)
def heardF (l : LS) (k : Int) (p : Bool) : AT × LS := bitF p (evF l (.cmd k (ansOf k p)))
def hearF (l : LS) (k : Int) (pf cmd : Bool) : AT × LS :=
  if k < 1 then goF l l.s N0 else if 10 < k then goF l l.s N0 else
  if k = 2 then (if cmd = true then goF l l.s N0 else if pf = true then evF l (.resp 2) else goF l l.s N0)
  else if k = 3 then (if cmd = true then goF l l.s N0 else if l.s = 3 then goF l 1 (0, false, false, 0, 5) else if pf = true then evF l (.resp 3) else goF l l.s N0)
  else if cmd = true then heardF l k pf else goF l l.s N0
def doF (l : LS) (m k : Int) (pf cmd : Bool) : AT × LS :=
  if m = 0 then evF l .opens else if m = 1 then evF l .closes else if m = 2 then evF l .due else if m = 3 then (N0, ⟨l.s, pf, l.tr, l.mo⟩) else hearF l k pf cmd
/-- fields that may be -/
def Good (l : LS) : Prop := (l.s = 1 ∨ l.s = 2 ∨ l.s = 3 ∨ l.s = 4 ∨ l.s = 5) ∧ 0 ≤ l.tr ∧ l.tr ≤ l.mo ∧ l.mo ≤ 255
theorem good_go {l : LS} (h : Good l) {s : Int} (hs : s = 1 ∨ s = 2 ∨ s = 3 ∨ s = 4 ∨ s = 5) (a : AT) : Good (goF l s a).2 := ⟨hs, h.2⟩
theorem good_begin {l : LS} (h : Good l) {s : Int} (hs : s = 1 ∨ s = 2 ∨ s = 3 ∨ s = 4 ∨ s = 5) (k : Int) : Good (beginF l s k).2 := by
  obtain ⟨_, h1, h2, h3⟩ := h
  exact ⟨hs, Int.le_refl _, by show (0 : Int) ≤ l.mo; omega, h3⟩
theorem good_again {l : LS} (h : Good l) (k : Int) : Good (againF l k).2 := by
  obtain ⟨h0, h1, h2, h3⟩ := h
  unfold againF
  split
  · exact ⟨h0, by show 0 ≤ l.tr + 1; omega, by show l.tr + 1 ≤ l.mo; omega, h3⟩
  · exact ⟨.inr (.inr (.inr (.inr rfl))), h1, h2, h3⟩
theorem good_ev {l : LS} (h : Good l) (e : Ev) : Good (evF l e).2 := by
  unfold evF openingF upF closingF downF
  repeat' split
  all_goals first | exact good_begin h (by omega) _ | exact good_again h _ | exact good_go h (by omega) _ | exact good_go h h.1 _
theorem good_hear {l : LS} (h : Good l) (k : Int) (pf cmd : Bool) : Good (hearF l k pf cmd).2 := by
  unfold hearF
  repeat' split
  all_goals first | exact good_ev h _ | exact good_go h (by omega) _ | exact good_go h h.1 _
theorem good_do {l : LS} (h : Good l) (m k : Int) (pf cmd : Bool) : Good (doF l m k pf cmd).2 := by
  unfold doF
  repeat' split
  all_goals first | exact good_ev h _ | exact good_hear h _ _ _ | exact h
/-- block g is a link of these fields -/
def LL (w : World) (g : Nat) (l : LS) : Prop := LB w g l.s l.ls l.tr l.mo
/-- a call that leaves the link as told, and answers so -/
abbrev Does (f : FuncId) (args : Array Value) (g : Nat) (x : AT × LS) (w : World) : Prop := Calls Try.prog f args w (Ret (aV x.1) fun w' => LL w' g x.2 ∧ w.grownBy w' (some g))
theorem ev_any (g : Nat) (l : LS) (hg : Good l) (e : Ev) (w : World) (h : LL w g l) : Does 28 #[.pointer (some ⟨g, 0, none⟩), evV e] g (evF l e) w := by
  obtain ⟨s, ls, tr, mo⟩ := l
  obtain ⟨hs, ht1, ht2, ht3⟩ := hg
  dsimp only at hs ht1 ht2 ht3
  rcases hs with rfl | rfl | rfl | rfl | rfl
  · rcases e with _ | _ | _ | k | ⟨k, a⟩
    · rw [show evF ⟨1, ls, tr, mo⟩ .opens = ((1, true, true, 1, 0), ⟨2, ls, 0, mo⟩) from by simp [evF, downF, openingF, upF, closingF, beginF, againF, goF]]
      exact does_1 g ls tr mo _ w h (fun w h => down_opens g 1 ls tr mo w h)
    · rw [show evF ⟨1, ls, tr, mo⟩ .closes = ((0, false, false, 0, 0), ⟨1, ls, tr, mo⟩) from by simp [evF, downF, openingF, upF, closingF, beginF, againF, goF]]
      exact does_1 g ls tr mo _ w h (fun w h => down_closes g 1 ls tr mo w h)
    · rw [show evF ⟨1, ls, tr, mo⟩ .due = ((0, false, false, 0, 0), ⟨1, ls, tr, mo⟩) from by simp [evF, downF, openingF, upF, closingF, beginF, againF, goF]]
      exact does_1 g ls tr mo _ w h (fun w h => down_due g 1 ls tr mo w h)
    · rw [show evF ⟨1, ls, tr, mo⟩ (.resp k) = ((0, false, false, 0, 0), ⟨1, ls, tr, mo⟩) from by simp [evF, downF, openingF, upF, closingF, beginF, againF, goF]]
      exact does_1 g ls tr mo _ w h (fun w h => down_resp g 1 ls tr mo k w h)
    · by_cases h1 : k = 1
      · subst h1
        cases ls
        · rw [show evF ⟨1, false, tr, mo⟩ (.cmd 1 a) = ((a, false, false, 0, 0), ⟨1, false, tr, mo⟩) from by simp [evF, downF, goF]]
          exact does_1 g false tr mo _ w h (fun w h => down_cmd1f g 1 false tr mo a w h rfl)
        · rw [show evF ⟨1, true, tr, mo⟩ (.cmd 1 a) = ((2, false, false, 0, 2), ⟨3, true, tr, mo⟩) from by simp [evF, downF, goF]]
          exact does_1 g true tr mo _ w h (fun w h => down_cmd1t g 1 true tr mo a w h rfl)
      rw [show evF ⟨1, ls, tr, mo⟩ (.cmd k a) = ((a, false, false, 0, 0), ⟨1, ls, tr, mo⟩) from by simp [evF, downF, openingF, upF, closingF, beginF, againF, goF, h1]]
      exact does_1 g ls tr mo _ w h (fun w h => down_cmdo g 1 ls tr mo k a w h h1)
  · rcases e with _ | _ | _ | k | ⟨k, a⟩
    · rw [show evF ⟨2, ls, tr, mo⟩ .opens = ((0, false, false, 0, 0), ⟨2, ls, tr, mo⟩) from by simp [evF, downF, openingF, upF, closingF, beginF, againF, goF]]
      exact does_2 g ls tr mo _ w h (fun w h => opening_opens g 2 ls tr mo w h)
    · rw [show evF ⟨2, ls, tr, mo⟩ .closes = ((4, true, true, 1, 0), ⟨4, ls, 0, mo⟩) from by simp [evF, downF, openingF, upF, closingF, beginF, againF, goF]]
      exact does_2 g ls tr mo _ w h (fun w h => opening_closes g 2 ls tr mo w h)
    · by_cases hd : tr < mo
      · rw [show evF ⟨2, ls, tr, mo⟩ .due = ((1, true, true, 1, 0), ⟨2, ls, (tr + 1), mo⟩) from by simp [evF, downF, openingF, upF, closingF, beginF, againF, goF, hd]]
        exact does_2 g ls tr mo _ w h (fun w h => opening_dueM g 2 ls tr mo w h hd ⟨ht1, ht3⟩)
      · rw [show evF ⟨2, ls, tr, mo⟩ .due = ((0, false, false, 2, 6), ⟨5, ls, tr, mo⟩) from by simp [evF, downF, openingF, upF, closingF, beginF, againF, goF, hd]]
        exact does_2 g ls tr mo _ w h (fun w h => opening_dueE g 2 ls tr mo w h hd)
    · by_cases h2 : k = 2
      · subst h2
        rw [show evF ⟨2, ls, tr, mo⟩ (.resp 2) = ((0, false, false, 2, 1), ⟨3, ls, tr, mo⟩) from by simp [evF, downF, openingF, upF, closingF, beginF, againF, goF]]
        exact does_2 g ls tr mo _ w h (fun w h => opening_resp2 g 2 ls tr mo w h)
      rw [show evF ⟨2, ls, tr, mo⟩ (.resp k) = ((0, false, false, 2, 4), ⟨1, ls, tr, mo⟩) from by simp [evF, downF, openingF, upF, closingF, beginF, againF, goF, h2]]
      exact does_2 g ls tr mo _ w h (fun w h => opening_respo g 2 ls tr mo k w h h2)
    · by_cases h1 : k = 1
      · subst h1
        rw [show evF ⟨2, ls, tr, mo⟩ (.cmd 1 a) = ((2, false, false, 0, 0), ⟨2, ls, tr, mo⟩) from by simp [evF, downF, openingF, upF, closingF, beginF, againF, goF]]
        exact does_2 g ls tr mo _ w h (fun w h => opening_cmd1 g 2 ls tr mo a w h)
      by_cases h4 : k = 4
      · subst h4
        rw [show evF ⟨2, ls, tr, mo⟩ (.cmd 4 a) = ((3, false, false, 2, 4), ⟨1, ls, tr, mo⟩) from by simp [evF, downF, openingF, upF, closingF, beginF, againF, goF]]
        exact does_2 g ls tr mo _ w h (fun w h => opening_cmd4 g 2 ls tr mo a w h)
      rw [show evF ⟨2, ls, tr, mo⟩ (.cmd k a) = ((0, false, false, 0, 0), ⟨2, ls, tr, mo⟩) from by simp [evF, downF, openingF, upF, closingF, beginF, againF, goF, h1, h4]]
      exact does_2 g ls tr mo _ w h (fun w h => opening_cmdo g 2 ls tr mo k a w h h1 h4)
  · rcases e with _ | _ | _ | k | ⟨k, a⟩
    · rw [show evF ⟨3, ls, tr, mo⟩ .opens = ((0, false, false, 0, 0), ⟨3, ls, tr, mo⟩) from by simp [evF, downF, openingF, upF, closingF, beginF, againF, goF]]
      exact does_3 g ls tr mo _ w h (fun w h => up_opens g 3 ls tr mo w h)
    · rw [show evF ⟨3, ls, tr, mo⟩ .closes = ((4, true, true, 1, 0), ⟨4, ls, 0, mo⟩) from by simp [evF, downF, openingF, upF, closingF, beginF, againF, goF]]
      exact does_3 g ls tr mo _ w h (fun w h => up_closes g 3 ls tr mo w h)
    · rw [show evF ⟨3, ls, tr, mo⟩ .due = ((0, false, false, 0, 0), ⟨3, ls, tr, mo⟩) from by simp [evF, downF, openingF, upF, closingF, beginF, againF, goF]]
      exact does_3 g ls tr mo _ w h (fun w h => up_due g 3 ls tr mo w h)
    · rw [show evF ⟨3, ls, tr, mo⟩ (.resp k) = ((0, false, false, 0, 0), ⟨3, ls, tr, mo⟩) from by simp [evF, downF, openingF, upF, closingF, beginF, againF, goF]]
      exact does_3 g ls tr mo _ w h (fun w h => up_resp g 3 ls tr mo k w h)
    · by_cases h1 : k = 1
      · subst h1
        rw [show evF ⟨3, ls, tr, mo⟩ (.cmd 1 a) = ((2, false, false, 0, 3), ⟨3, ls, tr, mo⟩) from by simp [evF, downF, openingF, upF, closingF, beginF, againF, goF]]
        exact does_3 g ls tr mo _ w h (fun w h => up_cmd1 g 3 ls tr mo a w h)
      by_cases h4 : k = 4
      · subst h4
        rw [show evF ⟨3, ls, tr, mo⟩ (.cmd 4 a) = ((2, false, false, 0, 5), ⟨1, ls, tr, mo⟩) from by simp [evF, downF, openingF, upF, closingF, beginF, againF, goF]]
        exact does_3 g ls tr mo _ w h (fun w h => up_cmd4 g 3 ls tr mo a w h)
      rw [show evF ⟨3, ls, tr, mo⟩ (.cmd k a) = ((0, false, false, 0, 0), ⟨3, ls, tr, mo⟩) from by simp [evF, downF, openingF, upF, closingF, beginF, againF, goF, h1, h4]]
      exact does_3 g ls tr mo _ w h (fun w h => up_cmdo g 3 ls tr mo k a w h h1 h4)
  · rcases e with _ | _ | _ | k | ⟨k, a⟩
    · rw [show evF ⟨4, ls, tr, mo⟩ .opens = ((0, false, false, 0, 0), ⟨4, ls, tr, mo⟩) from by simp [evF, downF, openingF, upF, closingF, beginF, againF, goF]]
      exact does_4 g ls tr mo _ w h (fun w h => closing_opens g 4 ls tr mo w h)
    · rw [show evF ⟨4, ls, tr, mo⟩ .closes = ((0, false, false, 0, 0), ⟨4, ls, tr, mo⟩) from by simp [evF, downF, openingF, upF, closingF, beginF, againF, goF]]
      exact does_4 g ls tr mo _ w h (fun w h => closing_closes g 4 ls tr mo w h)
    · by_cases hd : tr < mo
      · rw [show evF ⟨4, ls, tr, mo⟩ .due = ((4, true, true, 1, 0), ⟨4, ls, (tr + 1), mo⟩) from by simp [evF, downF, openingF, upF, closingF, beginF, againF, goF, hd]]
        exact does_4 g ls tr mo _ w h (fun w h => closing_dueM g 4 ls tr mo w h hd ⟨ht1, ht3⟩)
      · rw [show evF ⟨4, ls, tr, mo⟩ .due = ((0, false, false, 2, 6), ⟨5, ls, tr, mo⟩) from by simp [evF, downF, openingF, upF, closingF, beginF, againF, goF, hd]]
        exact does_4 g ls tr mo _ w h (fun w h => closing_dueE g 4 ls tr mo w h hd)
    · rw [show evF ⟨4, ls, tr, mo⟩ (.resp k) = ((0, false, false, 2, 5), ⟨1, ls, tr, mo⟩) from by simp [evF, downF, openingF, upF, closingF, beginF, againF, goF]]
      exact does_4 g ls tr mo _ w h (fun w h => closing_resp g 4 ls tr mo k w h)
    · by_cases h1 : k = 1
      · subst h1
        rw [show evF ⟨4, ls, tr, mo⟩ (.cmd 1 a) = ((3, false, false, 0, 0), ⟨4, ls, tr, mo⟩) from by simp [evF, downF, openingF, upF, closingF, beginF, againF, goF]]
        exact does_4 g ls tr mo _ w h (fun w h => closing_cmd1 g 4 ls tr mo a w h)
      by_cases h4 : k = 4
      · subst h4
        rw [show evF ⟨4, ls, tr, mo⟩ (.cmd 4 a) = ((2, false, false, 0, 0), ⟨4, ls, tr, mo⟩) from by simp [evF, downF, openingF, upF, closingF, beginF, againF, goF]]
        exact does_4 g ls tr mo _ w h (fun w h => closing_cmd4 g 4 ls tr mo a w h)
      rw [show evF ⟨4, ls, tr, mo⟩ (.cmd k a) = ((0, false, false, 0, 0), ⟨4, ls, tr, mo⟩) from by simp [evF, downF, openingF, upF, closingF, beginF, againF, goF, h1, h4]]
      exact does_4 g ls tr mo _ w h (fun w h => closing_cmdo g 4 ls tr mo k a w h h1 h4)
  · rcases e with _ | _ | _ | k | ⟨k, a⟩
    · rw [show evF ⟨5, ls, tr, mo⟩ .opens = ((1, true, true, 1, 0), ⟨2, ls, 0, mo⟩) from by simp [evF, downF, openingF, upF, closingF, beginF, againF, goF]]
      exact does_5 g ls tr mo _ w h (fun w h => down_opens g 5 ls tr mo w h)
    · rw [show evF ⟨5, ls, tr, mo⟩ .closes = ((0, false, false, 0, 0), ⟨5, ls, tr, mo⟩) from by simp [evF, downF, openingF, upF, closingF, beginF, againF, goF]]
      exact does_5 g ls tr mo _ w h (fun w h => down_closes g 5 ls tr mo w h)
    · rw [show evF ⟨5, ls, tr, mo⟩ .due = ((0, false, false, 0, 0), ⟨5, ls, tr, mo⟩) from by simp [evF, downF, openingF, upF, closingF, beginF, againF, goF]]
      exact does_5 g ls tr mo _ w h (fun w h => down_due g 5 ls tr mo w h)
    · rw [show evF ⟨5, ls, tr, mo⟩ (.resp k) = ((0, false, false, 0, 0), ⟨5, ls, tr, mo⟩) from by simp [evF, downF, openingF, upF, closingF, beginF, againF, goF]]
      exact does_5 g ls tr mo _ w h (fun w h => down_resp g 5 ls tr mo k w h)
    · by_cases h1 : k = 1
      · subst h1
        cases ls
        · rw [show evF ⟨5, false, tr, mo⟩ (.cmd 1 a) = ((a, false, false, 0, 0), ⟨5, false, tr, mo⟩) from by simp [evF, downF, goF]]
          exact does_5 g false tr mo _ w h (fun w h => down_cmd1f g 5 false tr mo a w h rfl)
        · rw [show evF ⟨5, true, tr, mo⟩ (.cmd 1 a) = ((2, false, false, 0, 2), ⟨3, true, tr, mo⟩) from by simp [evF, downF, goF]]
          exact does_5 g true tr mo _ w h (fun w h => down_cmd1t g 5 true tr mo a w h rfl)
      rw [show evF ⟨5, ls, tr, mo⟩ (.cmd k a) = ((a, false, false, 0, 0), ⟨5, ls, tr, mo⟩) from by simp [evF, downF, openingF, upF, closingF, beginF, againF, goF, h1]]
      exact does_5 g ls tr mo _ w h (fun w h => down_cmdo g 5 ls tr mo k a w h h1)
theorem heard_any (g : Nat) (l : LS) (hg : Good l) (k : Int) (p : Bool) (w : World) (h : LL w g l) : Does 29 #[.pointer (some ⟨g, 0, none⟩), .int .u8 k, .bool p] g (heardF l k p) w := by
  have hE := fun w h => ev_any g l hg (.cmd k (ansOf k p)) w h
  unfold heardF
  generalize evF l (.cmd k (ansOf k p)) = x at hE ⊢
  cases p with
  | true => exact heard_p g l.s l.ls l.tr l.mo k w h hE
  | false =>
    by_cases h1 : k = 1
    · subst h1
      exact heard_1 g l.s l.ls l.tr l.mo w h hE
    by_cases h4 : k = 4
    · subst h4
      exact heard_4 g l.s l.ls l.tr l.mo w h hE
    rw [show ansOf k false = 0 from by simp [ansOf, h1, h4]] at hE
    exact heard_o g l.s l.ls l.tr l.mo k w h h1 h4 hE
theorem hear_any (g : Nat) (l : LS) (hg : Good l) (k : Int) (pf cmd : Bool) (w : World) (h : LL w g l) : Does 21 #[.pointer (some ⟨g, 0, none⟩), .int .u8 k, .bool pf, .bool cmd] g (hearF l k pf cmd) w := by
  unfold hearF
  by_cases h1 : k < 1
  · rw [if_pos h1]
    exact hear_low g l.s l.ls l.tr l.mo k pf cmd w h h1
  rw [if_neg h1]
  by_cases h10 : 10 < k
  · rw [if_pos h10]
    exact hear_up g l.s l.ls l.tr l.mo k pf cmd w h h1 h10
  rw [if_neg h10]
  by_cases h2 : k = 2
  · rw [if_pos h2]
    subst h2
    cases cmd with
    | true => exact hear_own2 g l.s l.ls l.tr l.mo pf w h
    | false =>
      cases pf with
      | true => exact hear_r2p g l.s l.ls l.tr l.mo w h (fun w h => ev_any g l hg (.resp 2) w h)
      | false => exact hear_r2n g l.s l.ls l.tr l.mo w h
  rw [if_neg h2]
  by_cases h3 : k = 3
  · rw [if_pos h3]
    subst h3
    cases cmd with
    | true => exact hear_own3 g l.s l.ls l.tr l.mo pf w h
    | false =>
      rw [if_neg (by simp)]
      by_cases hs : l.s = 3
      · rw [if_pos hs]
        obtain ⟨s, ls, tr, mo⟩ := l
        dsimp only at hs
        subst hs
        exact hear_dm g ls tr mo pf w h
      rw [if_neg hs]
      cases pf with
      | true => exact hear_r3p g l.s l.ls l.tr l.mo w h hs (fun w h => ev_any g l hg (.resp 3) w h)
      | false => exact hear_r3n g l.s l.ls l.tr l.mo w h hs
  rw [if_neg h3]
  cases cmd with
  | true => exact hear_cmd g l.s l.ls l.tr l.mo k pf w h h1 h10 h2 h3 (fun w h => heard_any g l hg k pf w h)
  | false => exact hear_res g l.s l.ls l.tr l.mo k pf w h h1 h10 h2 h3
theorem ldo_any (g : Nat) (l : LS) (hg : Good l) (kd k : Int) (pf cmd : Bool) (hk : Fit kd) (w : World) (h : LL w g l) : Does 13 #[.pointer (some ⟨g, 0, none⟩), .agg #[.int .i64 kd, .int .u8 k, .bool pf, .bool cmd]] g (doF l (kd % 6) k pf cmd) w := by
  unfold doF
  rcases (by omega : kd % 6 = 0 ∨ kd % 6 = 1 ∨ kd % 6 = 2 ∨ kd % 6 = 3 ∨ kd % 6 = 4 ∨ kd % 6 = 5) with hm | hm | hm | hm | hm | hm
  · rw [if_pos hm]
    exact ldoes_0 g l.s l.ls l.tr l.mo kd k pf cmd w h hk hm (fun w h => open_any g l.s l.ls l.tr l.mo w h (fun w h => ev_any g l hg .opens w h))
  · rw [if_neg (by omega), if_pos hm]
    exact ldoes_1 g l.s l.ls l.tr l.mo kd k pf cmd w h hk hm (fun w h => close_any g l.s l.ls l.tr l.mo w h (fun w h => ev_any g l hg .closes w h))
  · rw [if_neg (by omega), if_neg (by omega), if_pos hm]
    exact ldoes_2 g l.s l.ls l.tr l.mo kd k pf cmd w h hk hm (fun w h => due_any g l.s l.ls l.tr l.mo w h (fun w h => ev_any g l hg .due w h))
  · rw [if_neg (by omega), if_neg (by omega), if_neg (by omega), if_pos hm]
    exact ldoes_3 g l.s l.ls l.tr l.mo kd k pf cmd (k1 := 0) (c1 := false) (p1 := false) (t1 := 0) (f1 := 0) w h hk hm (fun w h => listen_any g l.s l.ls pf l.tr l.mo w h)
  · rw [if_neg (by omega), if_neg (by omega), if_neg (by omega), if_neg (by omega)]
    exact ldoes_4 g l.s l.ls l.tr l.mo kd k pf cmd w h hk hm (fun w h => hear_any g l hg k pf cmd w h)
  · rw [if_neg (by omega), if_neg (by omega), if_neg (by omega), if_neg (by omega)]
    exact ldoes_5 g l.s l.ls l.tr l.mo kd k pf cmd w h hk hm (fun w h => hear_any g l hg k pf cmd w h)
