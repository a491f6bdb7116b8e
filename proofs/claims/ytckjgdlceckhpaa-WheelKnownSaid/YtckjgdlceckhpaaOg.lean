/- Steps in a region that draws its order and whose last operations (numbers in L) change what earlier ones read: what is read waits for none of these, and these wait for it. No condition. -/
import Derived.OrdersHeld
import Derived.Test.YtckjgdlceckhpaaBase
import Derived.Test.YtckjgdlceckhpaaOv
namespace Go.Eff
open Go
section
variable {P : Program} {ops : Array Oper} {Q : Exit → Act → World → Prop} {md : Region.Mode} {S : World → Prop} {L : Nat → Bool} {o : Oper} {v : Value} {fuel : Nat} {listed : Array Bool} {a a' : Act} {w : World}
/-- whatever comes up next; S holds behind every operation but the late ones -/
def wpAnyG (P : Program) (md : Region.Mode) (ops : Array Oper) (Q : Exit → Act → World → Prop) (S : World → Prop) (L : Nat → Bool) : Nat → Array Bool → Act → World → Prop
  | 0, listed, a, w => Region.ready md ops listed = [] ∧ Q .normal a w
  | fuel + 1, listed, a, w =>
    (Region.ready md ops listed = [] → Q .normal a w) ∧
    ∀ i ∈ Region.ready md ops listed, wpOp P ops Q i (fun a' w' => (L i = true ∨ S w') ∧ wpAnyG P md ops Q S L fuel (listed.setIfInBounds i true) a' w') a w
theorem wpAny_of_G : ∀ (fuel : Nat) (listed : Array Bool) (a : Act) (w : World), wpAnyG P md ops Q S L fuel listed a w → wpAny P md ops Q fuel listed a w
  | 0, _, _, _, h => h
  | fuel + 1, _, _, _, h => ⟨h.1, fun i hi => wpOp_mono (fun a' w' h' => wpAny_of_G fuel _ a' w' h'.2) (h.2 i hi)⟩
theorem wpAnyG_first {i : Nat} {oi : Oper} {m : Nat → Bool} (hi : ops[i]? = some oi) (hsel : ∀ (j : Nat) (o : Oper) cs b, ops[j]? = some o → o.op ≠ .select cs b)
    (hQ : ∀ c a w, Q (.panic c) (a.put oi.dst v) w → Q (.panic c) a w) (hLi : L i = false)
    (hm1 : ∀ j oj, ops[j]? = some oj → m j = true → j ≠ i → ∃ e ∈ oj.after, Region.binds md e = true ∧ m e.on = true) :
    ∀ (fuel : Nat) (listed : Array Bool) (a : Act) (w : World),
      (∀ j oj, ops[j]? = some oj → j ≠ i → listed.getD j true = false → (∀ e ∈ oj.after, Region.binds md e = true → e.on ≠ i) → oi.apart ops oj = true) →
      (∀ j, listed.getD j false = true → m j = false) → (∀ j oj, ops[j]? = some oj → listed.getD j true = false → L j = true → j ≠ i → m j = true) →
      i ∈ Region.ready md ops listed → YieldsIf P ops S oi v a → S w →
      wpAnyG P md ops Q S L fuel (listed.setIfInBounds i true) (a.put oi.dst v) w → wpAnyG P md ops Q S L (fuel + 1) listed a w := by
  intro fuel
  induction fuel with
  | zero =>
    intro listed a w _ _ _ hr hy hS H
    refine ⟨fun h => (by rw [h] at hr; cases hr), fun j hj => ?_⟩
    by_cases hji : j = i
    · subst hji; exact hy.wpOp hi hS ⟨.inr hS, H⟩
    · have := ready_mono hj hji
      rw [H.1] at this
      cases this
  | succ fuel ih =>
    intro listed a w hfree hl hL2 hr hy hS H
    refine ⟨fun h => (by rw [h] at hr; cases hr), fun j hj => ?_⟩
    by_cases hji : j = i
    · subst hji; exact hy.wpOp hi hS ⟨.inr hS, H⟩
    · have h1 := H.2 j (ready_mono hj hji)
      obtain ⟨hjun, oj, hoj, hall⟩ := mem_ready.1 hj
      have hmj : m j = false := by
        cases hc : m j with
        | false => rfl
        | true =>
          obtain ⟨e, he, hb, hme⟩ := hm1 j oj hoj hc hji
          rw [hl _ (hall e he hb)] at hme
          cases hme
      have hLj : L j = false := by
        cases hc : L j with
        | false => rfl
        | true => rw [hL2 j oj hoj hjun hc hji] at hmj; cases hmj
      have h2 := wpOp_putIf hoj (hfree j oj hoj hji hjun (not_on hr hall)) (fun cs b => hsel i oi cs b hi) (fun cs b => hsel j oj cs b hoj) hQ hy h1
      have hne : ∀ k, (listed.setIfInBounds j true).getD k false = true → m k = false := fun k hk => by
        by_cases hjk : j = k
        · subst hjk; exact hmj
        · rw [getD_set_ne false hjk] at hk; exact hl k hk
      refine wpOp_mono (fun a' w' h3 => ?_) h2
      obtain ⟨h3, h4, h5⟩ := h3
      have hS' : S w' := by
        rcases h4 with h4 | h4
        · rw [hLj] at h4; cases h4
        · exact h4
      refine ⟨.inr hS', ih (listed.setIfInBounds j true) a' w' (free_keep hjun hfree) hne (fun k ok hk hun hLk hki => ?_) (ready_mono hr (Ne.symm hji)) h3 hS' ?_⟩
      · by_cases hjk : j = k
        · subst hjk; rw [hLj] at hLk; cases hLk
        · rw [getD_set_ne true hjk] at hun; exact hL2 k ok hk hun hLk hki
      · rw [Array.setIfInBounds_comm _ _ hji]; exact h5
theorem late_region {id : Nat} {l : List Oper} (n : Nat) (S : World → Prop) (L : Nat → Bool) (hm : P.follows .mixedOrders = true) (hsz : l.toArray.size = n) (h : wpAnyG P .any l.toArray Q S L n (Array.replicate n false) a w.drew) : (Code.region id l.toArray true).wp P Q a w := by
  subst hsz
  exact wp_region_any hm (wpAny_of_G _ _ _ _ h)
theorem late_v (i : Nat) (hi : ops[i]? = some o) (hs : Region.noSelect ops = true) (hf : Region.free md ops listed i = true) (hr : (Region.ready md ops listed).contains i = true) (hsz : listed.size = ops.size)
    (hM : maskOk md ops L (Region.before ops) i listed = true) (hLi : L i = false)
    (hQ : ∀ c a w, Q (.panic c) (a.put o.dst v) w → Q (.panic c) a w) (hw : Region.wanted o (yielded ops a.tmps) = true) (h : ∀ w, S w → valAt P o a w v) (hS : S w) (ha : a.put o.dst v = a')
    (hn : wpAnyG P md ops Q S L fuel (listed.setIfInBounds i true) a' w) : wpAnyG P md ops Q S L (fuel + 1) listed a w := by
  subst ha
  obtain ⟨m1, m2, m3⟩ := maskOk_spec hsz hM
  exact wpAnyG_first (m := maskOf (Region.before ops) i) hi (Region.noSelect_spec hs) hQ hLi m1 fuel listed a w (Region.free_spec hi hf) m2 m3 (by simpa using hr) (.inl ⟨hw, fun w hw' => run_of_valAt (h w hw')⟩) hS hn
theorem late_all {rs : List Nat} (hr : Region.ready md ops listed = rs) (hne : rs ≠ [])
    (h : ∀ i ∈ rs, wpOp P ops Q i (fun a' w' => (L i = true ∨ S w') ∧ wpAnyG P md ops Q S L fuel (listed.setIfInBounds i true) a' w') a w) : wpAnyG P md ops Q S L (fuel + 1) listed a w :=
  ⟨fun h0 => absurd (hr ▸ h0) hne, hr ▸ h⟩
theorem late_e {i : Nat} (I' : World → Prop) (hi : ops[i]? = some o) (hw : Region.wanted o (yielded ops a.tmps) = true) (h : effAt P o a w v I') (ha : a.put o.dst v = a') (hS : ∀ w', I' w' → L i = true ∨ S w')
    (hn : ∀ w', I' w' → wpAnyG P md ops Q S L fuel (listed.setIfInBounds i true) a' w') : wpOp P ops Q i (fun a' w' => (L i = true ∨ S w') ∧ wpAnyG P md ops Q S L fuel (listed.setIfInBounds i true) a' w') a w := by
  subst ha
  unfold wpOp
  simp only [hi]
  rw [if_pos hw]
  exact .inl (wp_of_effAt h fun w' hw' => ⟨hS w' hw', hn w' hw'⟩)
theorem late_done (hr : Region.ready md ops listed = []) (h : Q .normal a w) : wpAnyG P md ops Q S L fuel listed a w := by
  cases fuel with
  | zero => exact ⟨hr, h⟩
  | succ n => exact ⟨fun _ => h, by rw [hr]; simp⟩
end
end Go.Eff
