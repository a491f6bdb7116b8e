/- Steps in a region that draws its order and makes memory (over the kit's wpAnyH): quiet ones first; then whichever comes up. No condition. -/
import Derived.OrdersHeld
import Derived.Test.YtcnckejeepkflaaBase
import Derived.Test.YtcnckejeepkflaaKf
namespace Go.Eff
open Go
section
variable {P : Program} {ops : Array Oper} {Q : Exit → Act → World → Prop} {md : Region.Mode} {S : World → Prop} {o : Oper} {v : Value} {fuel : Nat} {listed : Array Bool} {a a' : Act} {w : World}
theorem held_region {id : Nat} {l : List Oper} (n : Nat) (S : World → Prop) (hm : P.follows .mixedOrders = true) (hsz : l.toArray.size = n) (h : wpAnyH P .any l.toArray Q S n (Array.replicate n false) a w.drew) : (Code.region id l.toArray true).wp P Q a w := by
  subst hsz
  exact wp_region_held (S := S) hm h
theorem held_q (i : Nat) (v : Value) (hi : ops[i]? = some o) (hs : Region.noSelect ops = true) (hf : Region.free md ops listed i = true) (hr : (Region.ready md ops listed).contains i = true)
    (hQ : ∀ c a w, Q (.panic c) (a.put o.dst v) w → Q (.panic c) a w) (hg : o.guard = none) (h : ∀ w, S w → (execOp a.eval o).run P w = .ok (.value v) w) (hS : S w) (ha : a.put o.dst v = a')
    (hn : wpAnyH P md ops Q S fuel (listed.setIfInBounds i true) a' w) : wpAnyH P md ops Q S (fuel + 1) listed a w := by
  subst ha
  exact wpAnyH_take hi hs hf hr hQ (.inl ⟨wanted_none hg, h⟩) hS hn
theorem held_e {i : Nat} (I' : World → Prop) (hi : ops[i]? = some o) (hg : o.guard = none) (h : effAt P o a w v I') (ha : a.put o.dst v = a') (hS : ∀ w', I' w' → S w')
    (hn : ∀ w', I' w' → wpAnyH P md ops Q S fuel (listed.setIfInBounds i true) a' w') : wpOp P ops Q i (fun a' w' => S w' ∧ wpAnyH P md ops Q S fuel (listed.setIfInBounds i true) a' w') a w := by
  subst ha
  unfold wpOp
  simp only [hi]
  rw [if_pos (wanted_none hg)]
  exact .inl (wp_of_effAt h fun w' hw' => ⟨hS w' hw', hn w' hw'⟩)
theorem held_done (hr : Region.ready md ops listed = []) (h : Q .normal a w) : wpAnyH P md ops Q S fuel listed a w := wpAnyH_done hr h fuel
end
/-! a struct of eight cells stored whole -/
section
variable {w : World} {g : Nat} {t : TypeId} {c0 c1 c2 c3 c4 c5 c6 c7 v0 v1 v2 v3 v4 v5 v6 v7 : Value}
theorem store8 (h : Blk w g t #[c0, c1, c2, c3, c4, c5, c6, c7]) : Blk ((((((((w.setCell ⟨g, 0, none⟩ v0).setCell ⟨g, 1, none⟩ v1).setCell ⟨g, 2, none⟩ v2).setCell ⟨g, 3, none⟩ v3).setCell ⟨g, 4, none⟩ v4).setCell ⟨g, 5, none⟩ v5).setCell ⟨g, 6, none⟩ v6).setCell ⟨g, 7, none⟩ v7) g t #[v0, v1, v2, v3, v4, v5, v6, v7] := by
  have := (((((((h.set_ 0 v0).set_ 1 v1).set_ 2 v2).set_ 3 v3).set_ 4 v4).set_ 5 v5).set_ 6 v6).set_ 7 v7
  simpa using this
theorem grown8 : w.grownBy ((((((((w.setCell ⟨g, 0, none⟩ v0).setCell ⟨g, 1, none⟩ v1).setCell ⟨g, 2, none⟩ v2).setCell ⟨g, 3, none⟩ v3).setCell ⟨g, 4, none⟩ v4).setCell ⟨g, 5, none⟩ v5).setCell ⟨g, 6, none⟩ v6).setCell ⟨g, 7, none⟩ v7) (some g) := grown_set (grown_set (grown_set (grown_set (grown_set (grown_set (grown_set (grown_set (World.grownBy.refl _ _))))))))
end
end Go.Eff
