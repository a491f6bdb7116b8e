/- Laws for a walk, over any program: a region that draws its order, with calls, walked once in the order of the text (wp_region_eff); steps of a walk, each operation a lemma; a block that is known whole. No condition beyond what each law states. -/
import Derived.WalkKit
import Derived.WalkSpells
import Derived.WalkLawsBesides
import Derived.KernelRfl
import Derived.Still
import Derived.StillTail
import Derived.Lib.Hide
namespace Go.Eff
open Go

section
variable {P : Program} {ops : Array Oper} {md : Region.Mode} {S : World → Prop} {E A : Nat → Bool}

/-- what one operation must come to: the value v, a world with I' -/
def effUpon (P : Program) (v : Value) (I' : World → Prop) : Result Next → Prop
  | .ok (.value u) w' => u = v ∧ I' w'
  | .ok .skip w' => undef = v ∧ I' w'
  | .ok (.enter f args) w' => Calls P f args w' (fun e w'' => e = .returned v ∧ I' w'')
  | _ => False

def effAt (P : Program) (o : Oper) (a : Act) (w : World) (v : Value) (I' : World → Prop) : Prop := effUpon P v I' ((execOp a.eval o).run P w)

theorem wp_of_effAt {o : Oper} {a : Act} {w : World} {v : Value} {I' : World → Prop} {K : Act → World → Prop} {Q : Exit → Act → World → Prop}
    (h : effAt P o a w v I') (hk : ∀ w', I' w' → K (a.put o.dst v) w') : o.wp P a w K Q := by
  unfold effAt at h
  unfold Oper.wp
  generalize (execOp a.eval o).run P w = r at *
  cases r with
  | ok n w' =>
    cases n <;> simp only [effUpon] at h <;> simp only [Oper.upon]
    case value u => obtain ⟨rfl, h⟩ := h; exact hk _ h
    case skip => obtain ⟨rfl, h⟩ := h; exact hk _ h
    case enter f args => exact h.mono fun e w'' ⟨he, hw⟩ => by subst he; exact hk _ hw
  | halt x w' => exact h.elim

/-- operation i comes up in state a, the world known as I -/
def sOp (P : Program) (ops : Array Oper) (S : World → Prop) (E A : Nat → Bool) (i : Nat) (K : Act → (World → Prop) → Prop) (a : Act) (I : World → Prop) : Prop :=
  match ops[i]? with
  | none => K a I
  | some o =>
    if Region.wanted o (yielded ops a.tmps) then
      (if E i then ∃ v I', (∀ w, I w → effAt P o a w v I') ∧ (∀ w, I' w → S w) ∧ K (a.put o.dst v) I'
       else if A i then ∃ v, (∀ w, I w → effAt P o a w v (· = w)) ∧ K (a.put o.dst v) I
       else ∃ v, (∀ w, S w → effAt P o a w v (· = w)) ∧ K (a.put o.dst v) I)
    else K (a.put o.dst undef) I

theorem sOp_mono {i : Nat} {a : Act} {I : World → Prop} {K K' : Act → (World → Prop) → Prop} (h : ∀ a I, K a I → K' a I) (hh : sOp P ops S E A i K a I) : sOp P ops S E A i K' a I := by
  unfold sOp at *
  split
  · exact h _ _ (by simpa [*] using hh)
  · rename_i o ho
    simp only [ho] at hh
    split
    · rename_i hw
      simp only [hw, if_true] at hh
      split
      · rename_i hE
        simp only [hE, if_true] at hh
        obtain ⟨v, I', h1, h2, h3⟩ := hh
        exact ⟨v, I', h1, h2, h _ _ h3⟩
      · rename_i hE
        simp only [hE] at hh
        split
        · rename_i hA
          simp only [hA, if_true] at hh
          obtain ⟨v, h1, h3⟩ := hh
          exact ⟨v, h1, h _ _ h3⟩
        · rename_i hA
          simp only [hA] at hh
          obtain ⟨v, h1, h3⟩ := hh
          exact ⟨v, h1, h _ _ h3⟩
    · rename_i hw; simp only [hw] at hh; exact h _ _ hh

def wpAnyE (P : Program) (md : Region.Mode) (ops : Array Oper) (S : World → Prop) (E A : Nat → Bool) (Q : Act → (World → Prop) → Prop) : Nat → Array Bool → Act → (World → Prop) → Prop
  | 0, listed, a, I => Region.ready md ops listed = [] ∧ Q a I
  | fuel + 1, listed, a, I =>
    (Region.ready md ops listed = [] → Q a I) ∧
    ∀ i ∈ Region.ready md ops listed, sOp P ops S E A i (wpAnyE P md ops S E A Q fuel (listed.setIfInBounds i true)) a I

theorem wpOp_of_sOp {i : Nat} {a : Act} {I : World → Prop} {K : Act → (World → Prop) → Prop} {K' : Act → World → Prop} {Q' : Exit → Act → World → Prop} {w : World}
    (hI : I w) (hS : ∀ w, I w → S w) (h : ∀ a I' w', I' w' → (∀ w, I' w → S w) → K a I' → K' a w') (hh : sOp P ops S E A i K a I) : wpOp P ops Q' i K' a w := by
  unfold sOp at hh
  unfold wpOp
  split
  · rename_i ho; simp only [ho] at hh; exact h _ _ _ hI hS hh
  · rename_i o ho
    simp only [ho] at hh
    split
    · rename_i hw
      simp only [hw, if_true] at hh
      refine .inl ?_
      split at hh
      · obtain ⟨v, I', h1, h2, h3⟩ := hh
        exact wp_of_effAt (h1 w hI) fun w' hw' => h _ _ _ hw' h2 h3
      · split at hh
        · obtain ⟨v, h1, h3⟩ := hh
          exact wp_of_effAt (h1 w hI) fun w' hw' => by subst hw'; exact h _ _ _ hI hS h3
        · obtain ⟨v, h1, h3⟩ := hh
          exact wp_of_effAt (h1 w (hS w hI)) fun w' hw' => by subst hw'; exact h _ _ _ hI hS h3
    · rename_i hw; simp only [hw] at hh; exact h _ _ _ hI hS hh

theorem wpAny_of_E {Q : Act → (World → Prop) → Prop} {Q' : Exit → Act → World → Prop} (hQ : ∀ a I w, I w → Q a I → Q' .normal a w) : ∀ (fuel : Nat) (listed : Array Bool) (a : Act) (I : World → Prop) (w : World), I w → (∀ w, I w → S w) →
    wpAnyE P md ops S E A Q fuel listed a I → wpAny P md ops Q' fuel listed a w
  | 0, _, _, _, _, hw, _, h => ⟨h.1, hQ _ _ _ hw h.2⟩
  | fuel + 1, _, _, _, _, hw, hS, h => ⟨fun h0 => hQ _ _ _ hw (h.1 h0), fun i hi => wpOp_of_sOp hw hS (fun a' I' w' hw' hS' => wpAny_of_E hQ fuel _ a' I' w' hw' hS') (h.2 i hi)⟩

/-- o, in state a, yields v in every world of S and leaves it, or is passed over -/
def YieldsQ (P : Program) (ops : Array Oper) (S : World → Prop) (o : Oper) (v : Value) (a : Act) : Prop :=
  (Region.wanted o (yielded ops a.tmps) = true ∧ ∀ w, S w → effAt P o a w v (· = w)) ∨
  (Region.wanted o (yielded ops a.tmps) = false ∧ v = undef)

theorem YieldsQ.sOp {i : Nat} {o : Oper} {v : Value} {a : Act} {I : World → Prop} (hi : ops[i]? = some o) (hE : Region.wanted o (yielded ops a.tmps) = true → E i = false ∧ A i = false) (hy : YieldsQ P ops S o v a) {K : Act → (World → Prop) → Prop} (h : K (a.put o.dst v) I) : sOp P ops S E A i K a I := by
  unfold Eff.sOp
  simp only [hi]
  rcases hy with ⟨hw, hv⟩ | ⟨hw, rfl⟩
  · simp only [hw, if_true, (hE hw).1, (hE hw).2, Bool.false_eq_true, if_false]; exact ⟨v, hv, h⟩
  · simp only [hw, Bool.false_eq_true, if_false]; exact h

theorem YieldsQ.of_same {o : Oper} {v : Value} {a a' : Act} (hy : YieldsQ P ops S o v a) (he : execOp a'.eval o = execOp a.eval o)
    (hw : Region.wanted o (yielded ops a'.tmps) = Region.wanted o (yielded ops a.tmps)) : YieldsQ P ops S o v a' := by
  unfold YieldsQ effAt at *
  rw [he, hw]
  exact hy

/-- an operation oj that is apart from oi goes the same ahead of oi's value as behind it; R is what is kept of oi -/
theorem sOp_put {j : Nat} {oi oj : Oper} {v : Value} (hj : ops[j]? = some oj) (hap : oi.apart ops oj = true)
    (hsi : ∀ cs b, oi.op ≠ .select cs b) (hsj : ∀ cs b, oj.op ≠ .select cs b) {K : Act → (World → Prop) → Prop} {a : Act} {I I1 : World → Prop} {R : Act → Prop}
    (hR : ∀ (a a' : Act), R a → execOp a'.eval oi = execOp a.eval oi → Region.wanted oi (yielded ops a'.tmps) = Region.wanted oi (yielded ops a.tmps) → R a')
    (hEj : E j = true ∨ A j = true → Region.wanted oj (yielded ops a.tmps) = true → I = I1)
    (hy : R a) (h : sOp P ops S E A j K (a.put oi.dst v) I1) :
    sOp P ops S E A j (fun a' I' => R a' ∧ ∃ I2, (I' = I ∧ I2 = I1 ∨ I' = I2) ∧ K (a'.put oi.dst v) I2) a I := by
  obtain ⟨h1, h2, h3⟩ := Oper.apart_spec hap
  have keep : ∀ (a : Act), R a → ∀ u, R (a.put oj.dst u) := fun a hy u =>
    hR a _ hy (execOp_put oi hsi a oj.dst u h3) (wanted_put oi a oj.dst u h3)
  unfold Eff.sOp at *
  simp only [hj] at *
  rw [wanted_put oj a oi.dst v h1] at h
  split
  · rename_i hw
    simp only [hw, if_true] at h
    split
    · rename_i hE
      simp only [hE, if_true] at h
      have hII := hEj (.inl hE) hw
      obtain ⟨u, I', hu, hS, hn⟩ := h
      refine ⟨u, I', fun w hw' => ?_, hS, keep a hy u, I', .inr rfl, by rw [← Act.put_comm a v u h2]; exact hn⟩
      rw [hII] at hw'
      have := hu w hw'
      unfold effAt at *
      rwa [execOp_put oj hsj a oi.dst v h1] at this
    · rename_i hE
      simp only [hE] at h
      split
      · rename_i hA
        simp only [hA, if_true] at h
        have hII := hEj (.inr hA) hw
        obtain ⟨u, hu, hn⟩ := h
        refine ⟨u, fun w hw' => ?_, keep a hy u, I1, .inl (by simp), by rw [← Act.put_comm a v u h2]; exact hn⟩
        rw [hII] at hw'
        have := hu w hw'
        unfold effAt at *
        rwa [execOp_put oj hsj a oi.dst v h1] at this
      · rename_i hA
        simp only [hA] at h
        obtain ⟨u, hu, hn⟩ := h
        refine ⟨u, fun w hw' => ?_, keep a hy u, I1, .inl (by simp), by rw [← Act.put_comm a v u h2]; exact hn⟩
        have := hu w hw'
        unfold effAt at *
        rwa [execOp_put oj hsj a oi.dst v h1] at this
  · rename_i hw
    simp only [hw] at h
    exact ⟨keep a hy _, I1, .inl (by simp), by rw [← Act.put_comm a v undef h2]; exact h⟩

theorem not_on {i : Nat} {oj : Oper} {listed : Array Bool} (hr : i ∈ Region.ready md ops listed) (hall : ∀ e ∈ oj.after, Region.binds md e = true → listed.getD e.on false = true) :
    ∀ e ∈ oj.after, Region.binds md e = true → e.on ≠ i := fun e he hb heq => by
  have h1 := hall e he hb
  have h0 := (mem_ready.1 hr).1
  rw [heq] at h1
  rcases Nat.lt_or_ge i listed.size with h' | h'
  · simp [h'] at h0 h1; rw [h0] at h1; cases h1
  · simp [Array.getElem?_eq_none h'] at h1

theorem free_keep {i j : Nat} {oi : Oper} {listed : Array Bool} (hjun : listed.getD j true = false)
    (hfree : ∀ j oj, ops[j]? = some oj → j ≠ i → listed.getD j true = false → (∀ e ∈ oj.after, Region.binds md e = true → e.on ≠ i) → oi.apart ops oj = true) :
    ∀ k ok, ops[k]? = some ok → k ≠ i → (listed.setIfInBounds j true).getD k true = false →
          (∀ e ∈ ok.after, Region.binds md e = true → e.on ≠ i) → oi.apart ops ok = true := fun k ok hk hki hun hno => by
  refine hfree k ok hk hki ?_ hno
  by_cases hjk : j = k
  · subst hjk; exact hjun
  · rw [getD_set_ne true hjk] at hun; exact hun

theorem wpAnyE_first {Q : Act → (World → Prop) → Prop} {i : Nat} {oi : Oper} {v : Value} (hi : ops[i]? = some oi) (hsel : ∀ (j : Nat) (o : Oper) cs b, ops[j]? = some o → o.op ≠ .select cs b) :
    ∀ (fuel : Nat) (listed : Array Bool) (a : Act) (I : World → Prop),
      (∀ j oj, ops[j]? = some oj → j ≠ i → listed.getD j true = false → (∀ e ∈ oj.after, Region.binds md e = true → e.on ≠ i) → oi.apart ops oj = true) →
      i ∈ Region.ready md ops listed → (YieldsQ P ops S oi v a ∧ (Region.wanted oi (yielded ops a.tmps) = true → E i = false ∧ A i = false)) →
      wpAnyE P md ops S E A Q fuel (listed.setIfInBounds i true) (a.put oi.dst v) I → wpAnyE P md ops S E A Q (fuel + 1) listed a I := by
  intro fuel
  induction fuel with
  | zero =>
    intro listed a I _ hr hy H
    refine ⟨fun h => (by rw [h] at hr; cases hr), fun j hj => ?_⟩
    by_cases hji : j = i
    · subst hji; exact hy.1.sOp hi hy.2 H
    · have := ready_mono hj hji
      rw [H.1] at this
      cases this
  | succ fuel ih =>
    intro listed a I hfree hr hy H
    refine ⟨fun h => (by rw [h] at hr; cases hr), fun j hj => ?_⟩
    by_cases hji : j = i
    · subst hji; exact hy.1.sOp hi hy.2 H
    · have h1 := H.2 j (ready_mono hj hji)
      obtain ⟨hjun, oj, hoj, hall⟩ := mem_ready.1 hj
      have h2 := sOp_put (R := fun a => YieldsQ P ops S oi v a ∧ (Region.wanted oi (yielded ops a.tmps) = true → E i = false ∧ A i = false)) hoj (hfree j oj hoj hji hjun (not_on hr hall)) (fun cs b => hsel i oi cs b hi) (fun cs b => hsel j oj cs b hoj)
        (fun a a' h he hw => ⟨h.1.of_same he hw, fun h' => h.2 (hw ▸ h')⟩) (fun _ _ => rfl) hy h1
      refine sOp_mono (fun a' I' h3 => ih (listed.setIfInBounds j true) a' I' (free_keep hjun hfree) (ready_mono hr (Ne.symm hji)) h3.1 ?_) h2
      obtain ⟨_, I2, hI, h4⟩ := h3
      rw [Array.setIfInBounds_comm _ _ hji]
      rcases hI with ⟨e1, e2⟩ | e
      · rw [e1, ← e2]; exact h4
      · rw [e]; exact h4

/-- the effect oi, in state a, from I to I' -/
theorem wpAnyE_first_eff {Q : Act → (World → Prop) → Prop} {i : Nat} {oi : Oper} {v : Value} {I I' : World → Prop} {m : Nat → Bool} (hi : ops[i]? = some oi) (hsel : ∀ (j : Nat) (o : Oper) cs b, ops[j]? = some o → o.op ≠ .select cs b)
    (hE : E i = true) (hIS : ∀ w, I' w → S w)
    (hm1 : ∀ j oj, ops[j]? = some oj → m j = true → j ≠ i → ∃ e ∈ oj.after, Region.binds md e = true ∧ m e.on = true) :
    ∀ (fuel : Nat) (listed : Array Bool) (a : Act),
      (∀ j oj, ops[j]? = some oj → j ≠ i → listed.getD j true = false → (∀ e ∈ oj.after, Region.binds md e = true → e.on ≠ i) → oi.apart ops oj = true) →
      (∀ j, listed.getD j false = true → m j = false) → (∀ j oj, ops[j]? = some oj → listed.getD j true = false → E j = true → j ≠ i → m j = true) → (∀ j oj, ops[j]? = some oj → listed.getD j true = false → A j = false) →
      i ∈ Region.ready md ops listed → (Region.wanted oi (yielded ops a.tmps) = true ∧ ∀ w, I w → effAt P oi a w v I') →
      wpAnyE P md ops S E A Q fuel (listed.setIfInBounds i true) (a.put oi.dst v) I' → wpAnyE P md ops S E A Q (fuel + 1) listed a I := by
  intro fuel
  induction fuel with
  | zero =>
    intro listed a _ _ _ _ hr hy H
    refine ⟨fun h => (by rw [h] at hr; cases hr), fun j hj => ?_⟩
    by_cases hji : j = i
    · subst hji; unfold sOp; simp only [hi, hy.1, hE, if_true]; exact ⟨v, I', hy.2, hIS, H⟩
    · have := ready_mono hj hji
      rw [H.1] at this
      cases this
  | succ fuel ih =>
    intro listed a hfree hl hE2 hA2 hr hy H
    refine ⟨fun h => (by rw [h] at hr; cases hr), fun j hj => ?_⟩
    by_cases hji : j = i
    · subst hji; unfold sOp; simp only [hi, hy.1, hE, if_true]; exact ⟨v, I', hy.2, hIS, H⟩
    · have h1 := H.2 j (ready_mono hj hji)
      obtain ⟨hjun, oj, hoj, hall⟩ := mem_ready.1 hj
      have hmj : m j = false := by
        cases hc : m j with
        | false => rfl
        | true =>
          obtain ⟨e, he, hb, hme⟩ := hm1 j oj hoj hc hji
          rw [hl _ (hall e he hb)] at hme
          cases hme
      have hEj : E j = false := by
        cases hc : E j with
        | false => rfl
        | true => rw [hE2 j oj hoj hjun hc hji] at hmj; cases hmj
      have hAj : A j = false := hA2 j oj hoj hjun
      have h2 := sOp_put (I := I) (R := fun a => Region.wanted oi (yielded ops a.tmps) = true ∧ ∀ w, I w → effAt P oi a w v I') hoj (hfree j oj hoj hji hjun (not_on hr hall)) (fun cs b => hsel i oi cs b hi) (fun cs b => hsel j oj cs b hoj)
        (fun a a' h he hw => ⟨hw ▸ h.1, by unfold effAt at *; rw [he]; exact h.2⟩) (fun h => by rw [hEj, hAj] at h; rcases h with h | h <;> cases h) hy h1
      have h2' : sOp P ops S E A j (fun a' I'' => I'' = I ∧ (Region.wanted oi (yielded ops a'.tmps) = true ∧ ∀ w, I w → effAt P oi a' w v I') ∧ wpAnyE P md ops S E A Q fuel ((listed.setIfInBounds i true).setIfInBounds j true) (a'.put oi.dst v) I') a I := by
        unfold sOp at h2 h1 ⊢
        simp only [hoj, hEj, hAj, Bool.false_eq_true, if_false] at h2 h1 ⊢
        split
        · rename_i hw
          simp only [hw, if_true] at h2
          have hw1 : Region.wanted oj (yielded ops (a.put oi.dst v).tmps) = true := by
            rw [wanted_put oj a oi.dst v (Oper.apart_spec (hfree j oj hoj hji hjun (not_on hr hall))).1]; exact hw
          simp only [hw1, if_true] at h1
          obtain ⟨u, hu, hn⟩ := h1
          refine ⟨u, fun w hw' => ?_, by first | rfl | trivial, ?_, ?_⟩
          · have := hu w hw'
            unfold effAt at *
            rwa [execOp_put oj (fun cs b => hsel j oj cs b hoj) a oi.dst v (Oper.apart_spec (hfree j oj hoj hji hjun (not_on hr hall))).1] at this
          · obtain ⟨_, _, h3, _⟩ := h2
            have keep := Oper.apart_spec (hfree j oj hoj hji hjun (not_on hr hall))
            refine ⟨by rw [wanted_put oi a oj.dst u keep.2.2]; exact hy.1, ?_⟩
            unfold effAt at *
            rw [execOp_put oi (fun cs b => hsel i oi cs b hi) a oj.dst u keep.2.2]
            exact hy.2
          · rw [← Act.put_comm a v u (Oper.apart_spec (hfree j oj hoj hji hjun (not_on hr hall))).2.1]
            exact hn
        · rename_i hw
          simp only [hw] at h2
          have hw1 : Region.wanted oj (yielded ops (a.put oi.dst v).tmps) = false := by
            rw [wanted_put oj a oi.dst v (Oper.apart_spec (hfree j oj hoj hji hjun (not_on hr hall))).1]; simpa using hw
          simp only [hw1, Bool.false_eq_true, if_false] at h1
          refine ⟨by first | rfl | trivial, h2.1, ?_⟩
          rw [← Act.put_comm a v undef (Oper.apart_spec (hfree j oj hoj hji hjun (not_on hr hall))).2.1]
          exact h1
      refine sOp_mono (fun a' I'' h3 => ?_) h2'
      obtain ⟨rfl, h3, h4⟩ := h3
      have hne : ∀ k, (listed.setIfInBounds j true).getD k false = true → m k = false := fun k hk => by
        by_cases hjk : j = k
        · subst hjk; exact hmj
        · rw [getD_set_ne false hjk] at hk; exact hl k hk
      refine ih (listed.setIfInBounds j true) a' (free_keep hjun hfree) hne (fun k ok hk hun hEk hki => ?_) (fun k ok hk hun => ?_) (ready_mono hr (Ne.symm hji)) h3 ?_
      · by_cases hjk : j = k
        · subst hjk; rw [hEj] at hEk; cases hEk
        · rw [getD_set_ne true hjk] at hun; exact hE2 k ok hk hun hEk hki
      · by_cases hjk : j = k
        · subst hjk; exact hAj
        · rw [getD_set_ne true hjk] at hun; exact hA2 k ok hk hun
      · rw [Array.setIfInBounds_comm _ _ hji]; exact h4

theorem sOp_stays {j : Nat} {K : Act → (World → Prop) → Prop} {a : Act} {I : World → Prop} (hE : Region.wanted (ops[j]?.getD default) (yielded ops a.tmps) = true → E j = false) (h : sOp P ops S E A j K a I) :
    sOp P ops S E A j (fun a' I' => I' = I ∧ K a' I') a I := by
  unfold sOp at *
  split
  · rename_i ho; simp only [ho] at h; (first | exact ⟨rfl, h⟩ | exact ⟨trivial, h⟩)
  · rename_i o ho
    simp only [ho, Option.getD_some] at h hE
    split
    · rename_i hw
      simp only [hw, if_true, hE hw, Bool.false_eq_true, if_false] at h ⊢
      split
      · rename_i hA
        simp only [hA, if_true] at h
        obtain ⟨v, h1, h2⟩ := h
        (first | exact ⟨v, h1, rfl, h2⟩ | exact ⟨v, h1, trivial, h2⟩)
      · rename_i hA
        simp only [hA] at h
        obtain ⟨v, h1, h2⟩ := h
        (first | exact ⟨v, h1, rfl, h2⟩ | exact ⟨v, h1, trivial, h2⟩)
    · rename_i hw
      simp only [hw] at h
      (first | exact ⟨rfl, h⟩ | exact ⟨trivial, h⟩)

/-- an early read oi, in state a: all effects wait for it -/
theorem wpAnyE_first_A {Q : Act → (World → Prop) → Prop} {i : Nat} {oi : Oper} {v : Value} {I : World → Prop} {m : Nat → Bool} (hi : ops[i]? = some oi) (hsel : ∀ (j : Nat) (o : Oper) cs b, ops[j]? = some o → o.op ≠ .select cs b)
    (hE : E i = false) (hA : A i = true)
    (hm1 : ∀ j oj, ops[j]? = some oj → m j = true → j ≠ i → ∃ e ∈ oj.after, Region.binds md e = true ∧ m e.on = true) :
    ∀ (fuel : Nat) (listed : Array Bool) (a : Act),
      (∀ j oj, ops[j]? = some oj → j ≠ i → listed.getD j true = false → (∀ e ∈ oj.after, Region.binds md e = true → e.on ≠ i) → oi.apart ops oj = true) →
      (∀ j, listed.getD j false = true → m j = false) → (∀ j oj, ops[j]? = some oj → listed.getD j true = false → E j = true → j ≠ i → m j = true) →
      i ∈ Region.ready md ops listed → (Region.wanted oi (yielded ops a.tmps) = true ∧ ∀ w, I w → effAt P oi a w v (· = w)) →
      wpAnyE P md ops S E A Q fuel (listed.setIfInBounds i true) (a.put oi.dst v) I → wpAnyE P md ops S E A Q (fuel + 1) listed a I := by
  intro fuel
  induction fuel with
  | zero =>
    intro listed a _ _ _ hr hy H
    refine ⟨fun h => (by rw [h] at hr; cases hr), fun j hj => ?_⟩
    by_cases hji : j = i
    · subst hji; unfold sOp; simp only [hi, hy.1, hE, hA, if_true, Bool.false_eq_true, if_false]; exact ⟨v, hy.2, H⟩
    · have := ready_mono hj hji
      rw [H.1] at this
      cases this
  | succ fuel ih =>
    intro listed a hfree hl hE2 hr hy H
    refine ⟨fun h => (by rw [h] at hr; cases hr), fun j hj => ?_⟩
    by_cases hji : j = i
    · subst hji; unfold sOp; simp only [hi, hy.1, hE, hA, if_true, Bool.false_eq_true, if_false]; exact ⟨v, hy.2, H⟩
    · have h1 := H.2 j (ready_mono hj hji)
      obtain ⟨hjun, oj, hoj, hall⟩ := mem_ready.1 hj
      have hmj : m j = false := by
        cases hc : m j with
        | false => rfl
        | true =>
          obtain ⟨e, he, hb, hme⟩ := hm1 j oj hoj hc hji
          rw [hl _ (hall e he hb)] at hme
          cases hme
      have hEj : E j = false := by
        cases hc : E j with
        | false => rfl
        | true => rw [hE2 j oj hoj hjun hc hji] at hmj; cases hmj
      have h2 := sOp_stays (fun _ => hEj) (sOp_put (I := I) (R := fun a => Region.wanted oi (yielded ops a.tmps) = true ∧ ∀ w, I w → effAt P oi a w v (· = w)) hoj (hfree j oj hoj hji hjun (not_on hr hall)) (fun cs b => hsel i oi cs b hi) (fun cs b => hsel j oj cs b hoj)
        (fun a a' h he hw => ⟨hw ▸ h.1, by unfold effAt at *; rw [he]; exact h.2⟩) (fun _ _ => rfl) hy h1)
      have hne : ∀ k, (listed.setIfInBounds j true).getD k false = true → m k = false := fun k hk => by
        by_cases hjk : j = k
        · subst hjk; exact hmj
        · rw [getD_set_ne false hjk] at hk; exact hl k hk
      refine sOp_mono (fun a' I'' h3 => ?_) h2
      obtain ⟨rfl, h3, I2, hI, h4⟩ := h3
      refine ih (listed.setIfInBounds j true) a' (free_keep hjun hfree) hne (fun k ok hk hun hEk hki => ?_) (ready_mono hr (Ne.symm hji)) h3 ?_
      · by_cases hjk : j = k
        · subst hjk; rw [hEj] at hEk; cases hEk
        · rw [getD_set_ne true hjk] at hun; exact hE2 k ok hk hun hEk hki
      · rw [Array.setIfInBounds_comm _ _ hji]
        rcases hI with ⟨_, e2⟩ | e
        · rw [← e2]; exact h4
        · rw [e]; exact h4

/-- the lexical walk -/
def wpLex (P : Program) (ops : Array Oper) (S : World → Prop) (E : Nat → Bool) (Q : Act → (World → Prop) → Prop) : Nat → List Oper → Act → (World → Prop) → Prop
  | _, [], a, I => Q a I
  | k, o :: rest, a, I =>
    if Region.wanted o (yielded ops a.tmps) then
      (if E k then ∃ v I', (∀ w, I w → effAt P o a w v I') ∧ (∀ w, I' w → S w) ∧ wpLex P ops S E Q (k + 1) rest (a.put o.dst v) I'
       else ∃ v, (∀ w, S w → effAt P o a w v (· = w)) ∧ wpLex P ops S E Q (k + 1) rest (a.put o.dst v) I)
    else wpLex P ops S E Q (k + 1) rest (a.put o.dst undef) I

/-- the same, with early reads -/
def wpLexA (P : Program) (ops : Array Oper) (S : World → Prop) (E A : Nat → Bool) (Q : Act → (World → Prop) → Prop) : Nat → List Oper → Act → (World → Prop) → Prop
  | _, [], a, I => Q a I
  | k, o :: rest, a, I =>
    if Region.wanted o (yielded ops a.tmps) then
      (if E k then ∃ v I', (∀ w, I w → effAt P o a w v I') ∧ (∀ w, I' w → S w) ∧ wpLexA P ops S E A Q (k + 1) rest (a.put o.dst v) I'
       else if A k then ∃ v, (∀ w, I w → effAt P o a w v (· = w)) ∧ wpLexA P ops S E A Q (k + 1) rest (a.put o.dst v) I
       else ∃ v, (∀ w, S w → effAt P o a w v (· = w)) ∧ wpLexA P ops S E A Q (k + 1) rest (a.put o.dst v) I)
    else wpLexA P ops S E A Q (k + 1) rest (a.put o.dst undef) I

theorem wpLexA_of {Q : Act → (World → Prop) → Prop} : ∀ (l : List Oper) (k : Nat) (a : Act) (I : World → Prop), wpLex P ops S E Q k l a I → wpLexA P ops S E (fun _ => false) Q k l a I
  | [], _, _, _, h => h
  | o :: l, k, a, I, h => by
    unfold wpLex at h
    unfold wpLexA
    split at h
    · rename_i hw
      rw [if_pos hw]
      split at h
      · rename_i hE
        rw [if_pos hE]
        obtain ⟨v, I', h1, h2, h3⟩ := h
        exact ⟨v, I', h1, h2, wpLexA_of l _ _ _ h3⟩
      · rename_i hE
        rw [if_neg hE, if_neg Bool.false_ne_true]
        obtain ⟨v, h1, h3⟩ := h
        exact ⟨v, h1, wpLexA_of l _ _ _ h3⟩
    · rename_i hw
      rw [if_neg hw]
      exact wpLexA_of l _ _ _ h

/-- the mask of an effect: what waits for it -/
def maskOf (bef : Array Nat) (k : Nat) (j : Nat) : Bool := j == k || (bef.getD j 0).testBit k
def maskOk (md : Region.Mode) (ops : Array Oper) (E : Nat → Bool) (bef : Array Nat) (k : Nat) (listed : Array Bool) : Bool :=
  (List.range ops.size).all fun j =>
    (!maskOf bef k j || j == k || ((ops[j]?).map fun o => o.after.any fun e => Region.binds md e && maskOf bef k e.on).getD true) &&
    (!listed.getD j false || !maskOf bef k j) && (listed.getD j true || !E j || maskOf bef k j)
def lexE (md : Region.Mode) (ops : Array Oper) (E A : Nat → Bool) (bef : Array Nat) : Nat → Nat → Array Bool → Bool
  | 0, _, listed => (Region.ready md ops listed).isEmpty
  | fuel + 1, k, listed => (Region.ready md ops listed).contains k && Region.free md ops listed k && (!(E k || A k) || maskOk md ops E bef k listed) &&
      (!E k || (List.range ops.size).all fun j => listed.getD j true || !A j) && lexE md ops E A bef fuel (k + 1) (listed.setIfInBounds k true)
def lexEA (md : Region.Mode) (ops : Array Oper) (E A : Nat → Bool) : Bool := Region.noSelect ops && lexE md ops E A (Region.before ops) ops.size 0 (Array.replicate ops.size false)
def lexEB (md : Region.Mode) (ops : Array Oper) (E : Nat → Bool) : Bool := lexEA md ops E (fun _ => false)

theorem maskOk_spec {bef : Array Nat} {k : Nat} {listed : Array Bool} (hsz : listed.size = ops.size) (hM : maskOk md ops E bef k listed = true) :
    (∀ j oj, ops[j]? = some oj → maskOf bef k j = true → j ≠ k → ∃ e ∈ oj.after, Region.binds md e = true ∧ maskOf bef k e.on = true) ∧
    (∀ j, listed.getD j false = true → maskOf bef k j = false) ∧ (∀ j oj, ops[j]? = some oj → listed.getD j true = false → E j = true → j ≠ k → maskOf bef k j = true) := by
  simp only [maskOk, List.all_eq_true, List.mem_range, Bool.and_eq_true] at hM
  refine ⟨fun j oj hj hmj hjk => ?_, fun j hj => ?_, fun j oj hj hun hEj _ => ?_⟩
  · have hlt : j < ops.size := (Array.getElem?_eq_some_iff.1 hj).1
    have h5 := (hM j hlt).1.1
    have hb : (j == k) = false := by simpa using hjk
    rw [hmj, hj, hb] at h5
    simp only [Bool.not_true, Bool.false_or, Option.map_some, Option.getD_some] at h5
    rw [Array.any_eq_true'] at h5
    obtain ⟨e, he, h6⟩ := h5
    simp only [Bool.and_eq_true] at h6
    exact ⟨e, he, h6.1, h6.2⟩
  · have hlt : j < ops.size := by
      rcases Nat.lt_or_ge j listed.size with h' | h'
      · omega
      · simp [Array.getElem?_eq_none h'] at hj
    have h5 := (hM j hlt).1.2
    rw [hj] at h5
    simpa using h5
  · have hlt : j < ops.size := (Array.getElem?_eq_some_iff.1 hj).1
    have h5 := (hM j hlt).2
    rw [hun, hEj] at h5
    simpa using h5

theorem wpAnyE_lex {Q : Act → (World → Prop) → Prop} {bef : Array Nat} (hs : Region.noSelect ops = true) : ∀ (l : List Oper) (k : Nat) (listed : Array Bool) (a : Act) (I : World → Prop), listed.size = ops.size → (∀ j, l[j]? = ops[k + j]?) →
    lexE md ops E A bef l.length k listed = true → wpLexA P ops S E A Q k l a I → wpAnyE P md ops S E A Q l.length listed a I
  | [], _, _, _, _, _, _, hB, h => ⟨by simpa [lexE] using hB, h⟩
  | o :: l, k, listed, a, I, hsz, hl, hB, h => by
    have h0 : ops[k]? = some o := by simpa using (hl 0).symm
    simp only [List.length_cons, lexE, Bool.and_eq_true] at hB
    obtain ⟨⟨⟨⟨hr, hf⟩, hM⟩, hM2⟩, hB'⟩ := hB
    have hn := fun a I => wpAnyE_lex (Q := Q) hs l (k + 1) (listed.setIfInBounds k true) a I (by simpa using hsz) (fun j => by have := hl (j + 1); simpa [Nat.add_assoc, Nat.add_comm 1 j] using this) hB'
    have hr' : k ∈ Region.ready md ops listed := by simpa using hr
    unfold wpLexA at h
    split at h
    · rename_i hw
      split at h
      · rename_i hE
        obtain ⟨v, I', h1, h2, h3⟩ := h
        rw [hE] at hM hM2
        simp only [Bool.true_or, Bool.not_true, Bool.false_or] at hM hM2
        obtain ⟨m1, m2, m3⟩ := maskOk_spec hsz hM
        refine wpAnyE_first_eff (m := maskOf bef k) h0 (Region.noSelect_spec hs) hE h2 m1 l.length listed a (Region.free_spec h0 hf) m2 m3 (fun j oj hj hun => ?_) hr' ⟨hw, h1⟩ (hn _ _ h3)
        have hlt : j < ops.size := (Array.getElem?_eq_some_iff.1 hj).1
        simp only [List.all_eq_true, List.mem_range] at hM2
        have h5 := hM2 j hlt
        rw [hun] at h5
        simpa using h5
      · rename_i hE
        split at h
        · rename_i hA
          obtain ⟨v, h1, h3⟩ := h
          rw [hA] at hM
          simp only [Bool.or_true, Bool.not_true, Bool.false_or] at hM
          obtain ⟨m1, m2, m3⟩ := maskOk_spec hsz hM
          exact wpAnyE_first_A (m := maskOf bef k) h0 (Region.noSelect_spec hs) (by simpa using hE) hA m1 l.length listed a (Region.free_spec h0 hf) m2 m3 hr' ⟨hw, h1⟩ (hn _ _ h3)
        · rename_i hA
          obtain ⟨v, h1, h3⟩ := h
          exact wpAnyE_first h0 (Region.noSelect_spec hs) l.length listed a I (Region.free_spec h0 hf) hr' ⟨.inl ⟨hw, h1⟩, fun _ => ⟨by simpa using hE, by simpa using hA⟩⟩ (hn _ _ h3)
    · rename_i hw
      exact wpAnyE_first h0 (Region.noSelect_spec hs) l.length listed a I (Region.free_spec h0 hf) hr' ⟨.inr ⟨by simpa using hw, rfl⟩, fun h' => absurd h' hw⟩ (hn _ _ h)

/-- A REGION THAT DRAWS ITS ORDER, with early reads (numbers in A): they read under what holds where the walk comes to them, and all later effects wait for them -/
theorem wp_region_effA {id : Nat} {Q : Exit → Act → World → Prop} {a : Act} {w : World} {l : List Oper} {S I : World → Prop} {E A : Nat → Bool} (hm : P.follows .mixedOrders = true) (hB : lexEA .any l.toArray E A = true)
    (hI : I w.drew) (hS : ∀ w', I w' → S w')
    (h : wpLexA P l.toArray S E A (fun a' I' => ∀ w', I' w' → Q .normal a' w') 0 l a I) : (Code.region id l.toArray true).wp P Q a w := by
  simp only [lexEA, Bool.and_eq_true] at hB
  refine wp_region_any hm (wpAny_of_E (E := E) (A := A) (Q := fun a' I' => ∀ w', I' w' → Q .normal a' w') (fun a I w hw h => h w hw) _ _ _ I _ hI hS ?_)
  have := wpAnyE_lex (P := P) (S := S) (E := E) (A := A) (md := .any) hB.1 l 0 (Array.replicate l.toArray.size false) a I (by simp) (by simp) (by simpa using hB.2) h
  simpa using this

/-- A REGION THAT DRAWS ITS ORDER, walked once in the order of the text: what is no effect yields the same in every world of S; the effects (numbers in E) stand in one order. -/
theorem wp_region_eff {id : Nat} {Q : Exit → Act → World → Prop} {a : Act} {w : World} {l : List Oper} {S I : World → Prop} {E : Nat → Bool} (hm : P.follows .mixedOrders = true) (hB : lexEB .any l.toArray E = true)
    (hI : I w.drew) (hS : ∀ w', I w' → S w')
    (h : wpLex P l.toArray S E (fun a' I' => ∀ w', I' w' → Q .normal a' w') 0 l a I) : (Code.region id l.toArray true).wp P Q a w :=
  wp_region_effA hm hB hI hS (wpLexA_of _ _ _ _ h)

end

/-- a block that is known whole -/
def Blk (w : World) (g : Nat) (t : TypeId) (cs : Array Value) : Prop := w.heap[g]? = some (.cells cs t (0, 0))
section
open Go.RowKit
variable {w w' : World} {g : Nat} {t : TypeId} {cs : Array Value}
theorem Blk.lt (h : Blk w g t cs) : g < w.heap.size := by
  rcases Nat.lt_or_ge g w.heap.size with hlt | hge
  · exact hlt
  · unfold Blk at h; rw [Array.getElem?_eq_none hge] at h; cases h
theorem Blk.cell (h : Blk w g t cs) (i : Nat) : w.cell? ⟨g, i, none⟩ = cs[i]? := cell_of_row w g i cs t (0, 0) h
theorem Blk.frozen (h : Blk w g t cs) (i : Nat) : w.frozen? ⟨g, i, none⟩ = false := by
  unfold Blk at h
  simp [World.frozen?, h]
theorem Blk.new (w : World) (t : TypeId) (cs : Array Value) : Blk (w.alloc (.cells cs t)) w.heap.size t cs := heap_alloc_new w _
theorem Blk.drew (h : Blk w g t cs) : Blk w.drew g t cs := h
theorem Blk.alloc (h : Blk w g t cs) (o : Obj) : Blk (w.alloc o) g t cs := (Below.heap_alloc w o g h.lt).trans h
theorem Blk.set_ (h : Blk w g t cs) (i : Nat) (u : Value) : Blk (w.setCell ⟨g, i, none⟩ u) g t (cs.setIfInBounds i u) := by
  unfold Blk at h ⊢
  simp [World.setCell, Array.getElem?_modify, h]
theorem Blk.far (h : Blk w g t cs) {p : Addr} (hp : g ≠ p.block) (u : Value) : Blk (w.setCell p u) g t cs := (Below.heap_setCell w p u g hp).trans h
theorem Blk.below {B : Nat} (h : Blk w g t cs) (hb : Below B w w') (hg : g < B) : Blk w' g t cs := (hb.block g hg).trans h
theorem Blk.grown {row : Option Nat} (h : Blk w g t cs) (hb : w.grownBy w' row) (hg : some g ≠ row) : Blk w' g t cs := (hb.block g h.lt hg).trans h
theorem grown_set {g i : Nat} {u : Value} (h : w.grownBy w' (some g)) : w.grownBy (w'.setCell ⟨g, i, none⟩ u) (some g) :=
  ⟨h.os, h.tape, h.output, by simpa [World.setCell] using h.size, fun k hk hne => (Below.heap_setCell w' ⟨g, i, none⟩ u k (fun e => hne (by rw [e]))).trans (h.block k hk hne)⟩
/-- 'string(b)' where b's cells are these numbers -/
theorem run_string_of_blk {P : Program} {g : Nat} {e src dst : TypeId} {xs : List Int} {n : Nat} (hB : Blk w g e (xs.map (Value.int .u8)).toArray) (cap : Nat) (hs : P.underlying src = some (.slice e)) (he : P.underlying e = some (.int .u8)) (hd : P.underlying dst = some .string) (hn : xs.length = n) :
    (convert src dst (.slice (some ⟨g, 0, none⟩) n cap)).run P w = .ok (.string (strOfNums xs)) w :=
  run_convert_bytes_arg w src e hs he g 0 n cap xs hn (fun i hi => by
    rw [Nat.zero_add, hB.cell]
    simp [List.getD, List.getElem?_eq_getElem (show i < xs.length by omega)]) dst hd
end

/-- what a call hands back, and what is known of the world behind it -/
def Ret (v : Value) (X : World → Prop) (e : Ending) (w' : World) : Prop := e = .returned v ∧ X w'

section
variable {P : Program} {ops : Array Oper} {S : World → Prop} {E A : Nat → Bool} {Q : Act → (World → Prop) → Prop} {k : Nat} {o : Oper} {rest : List Oper} {a a' : Act} {I : World → Prop} {v : Value}
theorem lex_nil (h : Q a I) : wpLex P ops S E Q k [] a I := h
theorem lex_q (hw : Region.wanted o (yielded ops a.tmps) = true) (hE : E k = false) (h : ∀ w, S w → effAt P o a w v (· = w)) (ha : a.put o.dst v = a') (hn : wpLex P ops S E Q (k + 1) rest a' I) : wpLex P ops S E Q k (o :: rest) a I := by
  subst ha
  unfold wpLex
  rw [if_pos hw, if_neg (by rw [hE]; exact Bool.false_ne_true)]
  exact ⟨v, h, hn⟩
theorem lex_e (I' : World → Prop) (hw : Region.wanted o (yielded ops a.tmps) = true) (hE : E k = true) (h : ∀ w, I w → effAt P o a w v I') (hS : ∀ w, I' w → S w) (ha : a.put o.dst v = a') (hn : wpLex P ops S E Q (k + 1) rest a' I') : wpLex P ops S E Q k (o :: rest) a I := by
  subst ha
  unfold wpLex
  rw [if_pos hw, if_pos hE]
  exact ⟨v, I', h, hS, hn⟩
theorem lex_s (hw : Region.wanted o (yielded ops a.tmps) = false) (ha : a.put o.dst undef = a') (hn : wpLex P ops S E Q (k + 1) rest a' I) : wpLex P ops S E Q k (o :: rest) a I := by
  subst ha
  unfold wpLex
  rw [if_neg (by rw [hw]; exact Bool.false_ne_true)]
  exact hn
end

section
variable {P : Program} {ops : Array Oper} {S : World → Prop} {E A : Nat → Bool} {Q : Act → (World → Prop) → Prop} {k : Nat} {o : Oper} {rest : List Oper} {a a' : Act} {I : World → Prop} {v : Value}
theorem lexA_nil (h : Q a I) : wpLexA P ops S E A Q k [] a I := h
theorem lexA_q (hw : Region.wanted o (yielded ops a.tmps) = true) (hE : E k = false) (hA : A k = false) (h : ∀ w, S w → effAt P o a w v (· = w)) (ha : a.put o.dst v = a') (hn : wpLexA P ops S E A Q (k + 1) rest a' I) : wpLexA P ops S E A Q k (o :: rest) a I := by
  subst ha
  unfold wpLexA
  rw [if_pos hw, if_neg (by rw [hE]; exact Bool.false_ne_true), if_neg (by rw [hA]; exact Bool.false_ne_true)]
  exact ⟨v, h, hn⟩
theorem lexA_a (hw : Region.wanted o (yielded ops a.tmps) = true) (hE : E k = false) (hA : A k = true) (h : ∀ w, I w → effAt P o a w v (· = w)) (ha : a.put o.dst v = a') (hn : wpLexA P ops S E A Q (k + 1) rest a' I) : wpLexA P ops S E A Q k (o :: rest) a I := by
  subst ha
  unfold wpLexA
  rw [if_pos hw, if_neg (by rw [hE]; exact Bool.false_ne_true), if_pos hA]
  exact ⟨v, h, hn⟩
theorem lexA_e (I' : World → Prop) (hw : Region.wanted o (yielded ops a.tmps) = true) (hE : E k = true) (h : ∀ w, I w → effAt P o a w v I') (hS : ∀ w, I' w → S w) (ha : a.put o.dst v = a') (hn : wpLexA P ops S E A Q (k + 1) rest a' I') : wpLexA P ops S E A Q k (o :: rest) a I := by
  subst ha
  unfold wpLexA
  rw [if_pos hw, if_pos hE]
  exact ⟨v, I', h, hS, hn⟩
theorem lexA_s (hw : Region.wanted o (yielded ops a.tmps) = false) (ha : a.put o.dst undef = a') (hn : wpLexA P ops S E A Q (k + 1) rest a' I) : wpLexA P ops S E A Q k (o :: rest) a I := by
  subst ha
  unfold wpLexA
  rw [if_neg (by rw [hw]; exact Bool.false_ne_true)]
  exact hn
end

section
open Go.RowKit
variable {P : Program} {ops : Array Oper} {Q : Exit → Act → World → Prop} {o : Oper} {rest : List Oper} {a a' : Act} {w : World} {v : Value}

theorem effAt_build {t : TypeId} {ps : Array (Nat × Operand)} {pv : Array (Nat × Value)} (ho : o.op = .build t ps) (hp : (ps.map fun (i, x) => (i, a.eval x)) = pv) (h : (Instr.build t pv).run P w = .ok v w) : effAt P o a w v (· = w) := by
  unfold effAt execOp
  simp only [ho, hp, Sem.run_bind, h, Result.andThen_ok, Sem.run_pure]
  exact ⟨rfl, rfl⟩
theorem effUpon_val {u : Value} : effUpon P u (fun x => x = w) (.ok (.value u) w) := ⟨rfl, rfl⟩
theorem effUpon_skip : effUpon P undef (fun x => x = w) (.ok .skip w) := ⟨rfl, rfl⟩
theorem effUpon_enter {f : FuncId} {args : Array Value} {I' : World → Prop} (h : Calls P f args w (Ret v I')) : effUpon P v I' (.ok (.enter f args) w) := h
/-- a callee that leaves what was there as it was -/
theorem eff_call {W : World} {f : FuncId} {args : Array Value} (hb : Below W.heap.size W w) (h : Calls P f args w (Ret v (Below w.heap.size w))) : effUpon P v (Below W.heap.size W) (.ok (.enter f args) w) :=
  h.mono fun _ _ ⟨he, hw⟩ => ⟨he, hb.trans (hw.mono hb.size)⟩

theorem seq_e (I' : World → Prop) (hw : Region.wanted o (yielded ops a.tmps) = true) (h : effAt P o a w v I') (ha : a.put o.dst v = a') (hn : ∀ w', I' w' → wpList P ops Q rest a' w') : wpList P ops Q (o :: rest) a w := by
  subst ha
  unfold wpList
  rw [if_pos hw]
  exact .inl (wp_of_effAt h hn)
theorem seq_q (hw : Region.wanted o (yielded ops a.tmps) = true) (h : effAt P o a w v (· = w)) (ha : a.put o.dst v = a') (hn : wpList P ops Q rest a' w) : wpList P ops Q (o :: rest) a w :=
  seq_e _ hw h ha fun _ h => by subst h; exact hn
theorem seq_s (hw : Region.wanted o (yielded ops a.tmps) = false) (ha : a.put o.dst undef = a') (hn : wpList P ops Q rest a' w) : wpList P ops Q (o :: rest) a w := by
  subst ha
  exact wpList_skip hw hn
theorem seq_region {id : Nat} {l : List Oper} {y : Code} (h : wpList P l.toArray (Exit.then (y.wp P Q) Q) l a w) : (Code.seq (.region id l.toArray false) y).wp P Q a w :=
  wp_seq (wp_region_lit h)

/-- a new block: 'box', 'alloc', 'buildSlice' -/
theorem seq_box {t : TypeId} {cs : Array Value} (hw : Region.wanted o (yielded ops a.tmps) = true) (h : effAt P o a w v (· = w.alloc (.cells cs t))) (ha : a.put o.dst v = a')
    (hn : ∀ w', Blk w' w.heap.size t cs → Below w.heap.size w w' → wpList P ops Q rest a' w') : wpList P ops Q (o :: rest) a w :=
  seq_e _ hw h ha fun _ h => by subst h; exact hn _ (Blk.new _ _ _) ((Below.refl _ _).alloc (Nat.le_refl _) _)
/-- a drawn region all of whose effects are calls that leave what was there as it was -/
theorem wp_region_pure {id : Nat} {l : List Oper} {E : Nat → Bool} (hm : P.follows .mixedOrders = true) (hB : lexEB .any l.toArray E = true)
    (h : wpLex P l.toArray (Below w.heap.size w) E (fun a' I' => ∀ w', I' w' → Q .normal a' w') 0 l a (Below w.heap.size w)) : (Code.region id l.toArray true).wp P Q a w :=
  wp_region_eff hm hB (Below.refl _ _).drew (fun _ h => h) h
end

@[go_sem] theorem ite_max (x y : Int) : (if x < y then y else x) = max x y := by split <;> omega
@[go_sem] theorem ite_min (x y : Int) : (if x < y then x else y) = min x y := by split <;> omega
@[go_sem] theorem ite_next_bool (c : Prop) [Decidable c] (x y : Bool) (w : World) :
    (if c then Result.ok (Next.value (Value.bool x)) w else Result.ok (Next.value (Value.bool y)) w) = Result.ok (Next.value (Value.bool (if c then x else y))) w := by split <;> rfl


/-! ### Regions that only read, and then write: the reads in whatever order, then the rest in the order of the text -/
section
open Go.RowKit
variable {P : Program} {ops : Array Oper} {o : Oper} {rest : List Oper} {a a' : Act} {w : World} {v : Value} {Lq : Act → Prop}
def stUpon (w : World) (v : Value) : Result Next → Prop
  | .ok (.value u) w' => u = v ∧ w' = w
  | .ok .skip w' => undef = v ∧ w' = w
  | _ => False
def stAt (P : Program) (o : Oper) (a : Act) (w : World) (v : Value) : Prop := stUpon w v ((execOp a.eval o).run P w)
theorem stUpon_val {u : Value} : stUpon w u (.ok (.value u) w) := ⟨rfl, rfl⟩
theorem stUpon_skip : stUpon w undef (.ok .skip w) := ⟨rfl, rfl⟩
theorem still_q (hw : Region.wanted o (yielded ops a.tmps) = true) (h : stAt P o a w v) (ha : a.put o.dst v = a') (hn : wpStill P ops w Lq rest a') : wpStill P ops w Lq (o :: rest) a := by
  subst ha
  unfold wpStill
  rw [if_pos hw]
  unfold stAt at h
  unfold Oper.still
  generalize (execOp a.eval o).run P w = r at *
  cases r with
  | ok n w' =>
    cases n <;> simp only [stUpon] at h <;> simp only [Oper.stillUpon]
    case value u => obtain ⟨rfl, h⟩ := h; exact ⟨h, hn⟩
    case skip => obtain ⟨rfl, h⟩ := h; exact ⟨h, hn⟩
  | halt x w' => exact h.elim
theorem still_s (hw : Region.wanted o (yielded ops a.tmps) = false) (ha : a.put o.dst undef = a') (hn : wpStill P ops w Lq rest a') : wpStill P ops w Lq (o :: rest) a := by
  subst ha
  unfold wpStill
  rw [if_neg (by rw [hw]; exact Bool.false_ne_true)]
  exact hn
theorem wp_region_tail {id : Nat} {Q : Exit → Act → World → Prop} {l : List Oper} (n : Nat) (hm : P.follows .mixedOrders = true) (hB : Region.lexTailB .any l.toArray n = true)
    (h : wpStill P l.toArray w.drew (fun a' => wpList P l.toArray Q (l.drop n) a' w.drew) (l.take n) a) : (Code.region id l.toArray true).wp P Q a w := wp_region_still_tail n hm hB h

/-! ### Only one block of old memory turns -/
theorem grown_below {w w' : World} (h : Below w.heap.size w w') (row : Option Nat) : w.grownBy w' row := ⟨h.os, h.tape, h.output, h.size, fun i hi _ => h.block i hi⟩
theorem grown_undrew' {w w' : World} {row : Option Nat} (h : w.grownBy w'.drew row) : w.grownBy w' row := ⟨h.os, h.tape, h.output, h.size, h.block⟩
theorem grown_trans {a b c : World} {row : Option Nat} (h : a.grownBy b row) (k : b.grownBy c row) : a.grownBy c row :=
  ⟨k.os.trans h.os, k.tape.trans h.tape, k.output.trans h.output, Nat.le_trans h.size k.size, fun i hi hne => (k.block i (Nat.lt_of_lt_of_le hi h.size) hne).trans (h.block i hi hne)⟩
theorem grown_undrew {w w' : World} {row : Option Nat} (h : w.drew.grownBy w' row) : w.grownBy w' row := ⟨h.os, h.tape, h.output, h.size, h.block⟩
end
attribute [irreducible] wpLex wpLexA
/-! Short names, for texts that would be too long (expand.py with SHRINK=1) -/
abbrev Xa := @wpList_nil
abbrev Xb := @seq_region
abbrev Xc := @wp_region_lit
abbrev Xd := @wp_seq
abbrev Xe := @wp_block
abbrev Xf := @wp_skip
abbrev Xg := @wp_exit
abbrev Xh := @wp_ret
abbrev Xi := @wp_cond_true
abbrev Xj := @wp_cond_false
abbrev Xk := @seq_q
abbrev Xl := @seq_s
abbrev Xm := @effUpon_val
abbrev Xn := @effUpon_skip
theorem Xo {a : Act} {d : Tmp} {v : Value} : Act.put a (some d) v = { a with tmps := a.tmps.setIfInBounds d v } := rfl
theorem Xp {a : Act} {v : Value} : Act.put a none v = a := rfl
theorem Xq {α : Type} (l : List α) (i : Nat) (a : α) : l.toArray.setIfInBounds i a = (l.set i a).toArray := List.setIfInBounds_toArray ..
theorem Xr {α : Type} (x y : α) (l : List α) : (x :: l).set 0 y = y :: l := rfl
theorem Xs {α : Type} (x y : α) (n : Nat) (l : List α) : (x :: l).set (n + 1) y = x :: l.set n y := rfl
abbrev Xt := @seq_e
abbrev Xu := @seq_box
end Go.Eff
