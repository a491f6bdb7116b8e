/- Steps in a region that draws its order, with guards (over the kit's wpAnyH). No condition. -/
import Derived.OrdersHeld
import Derived.Test.YtckjgdlceckhpaaBase
import Derived.Test.YtckjgdlceckhpaaKf
namespace Go.Eff
open Go
section
variable {P : Program} {ops : Array Oper} {Q : Exit → Act → World → Prop} {md : Region.Mode} {S : World → Prop} {o : Oper} {v : Value} {fuel : Nat} {listed : Array Bool} {a a' : Act} {w : World}
def valUpon (w : World) (v : Value) : Result Next → Prop
  | .ok (.value u) w' => u = v ∧ w' = w
  | _ => False
def valAt (P : Program) (o : Oper) (a : Act) (w : World) (v : Value) : Prop := valUpon w v ((execOp a.eval o).run P w)
theorem valUpon_val {u : Value} : valUpon w u (.ok (.value u) w) := ⟨rfl, rfl⟩
theorem run_of_valAt (h : valAt P o a w v) : (execOp a.eval o).run P w = .ok (.value v) w := by
  unfold valAt at h
  generalize (execOp a.eval o).run P w = r at *
  cases r with
  | ok n w' =>
    cases n <;> simp only [valUpon] at h
    obtain ⟨rfl, rfl⟩ := h
    rfl
  | halt x w' => exact h.elim
theorem drawn_region {id : Nat} {l : List Oper} (n : Nat) (S : World → Prop) (hm : P.follows .mixedOrders = true) (hsz : l.toArray.size = n) (h : wpAnyH P .any l.toArray Q S n (Array.replicate n false) a w.drew) : (Code.region id l.toArray true).wp P Q a w := by
  subst hsz
  exact wp_region_held (S := S) hm h
theorem drawn_v (i : Nat) (hi : ops[i]? = some o) (hs : Region.noSelect ops = true) (hf : Region.free md ops listed i = true) (hr : (Region.ready md ops listed).contains i = true)
    (hQ : ∀ c a w, Q (.panic c) (a.put o.dst v) w → Q (.panic c) a w) (hw : Region.wanted o (yielded ops a.tmps) = true) (h : ∀ w, S w → valAt P o a w v) (hS : S w) (ha : a.put o.dst v = a')
    (hn : wpAnyH P md ops Q S fuel (listed.setIfInBounds i true) a' w) : wpAnyH P md ops Q S (fuel + 1) listed a w := by
  subst ha
  exact wpAnyH_take hi hs hf hr hQ (.inl ⟨hw, fun w hw' => run_of_valAt (h w hw')⟩) hS hn
theorem drawn_s (i : Nat) (hi : ops[i]? = some o) (hs : Region.noSelect ops = true) (hf : Region.free md ops listed i = true) (hr : (Region.ready md ops listed).contains i = true)
    (hQ : ∀ c a w, Q (.panic c) (a.put o.dst undef) w → Q (.panic c) a w) (hw : Region.wanted o (yielded ops a.tmps) = false) (hS : S w) (ha : a.put o.dst undef = a')
    (hn : wpAnyH P md ops Q S fuel (listed.setIfInBounds i true) a' w) : wpAnyH P md ops Q S (fuel + 1) listed a w := by
  subst ha
  exact wpAnyH_take hi hs hf hr hQ (.inr ⟨hw, rfl⟩) hS hn
theorem drawn_e {i : Nat} (I' : World → Prop) (hi : ops[i]? = some o) (hw : Region.wanted o (yielded ops a.tmps) = true) (h : effAt P o a w v I') (ha : a.put o.dst v = a') (hS : ∀ w', I' w' → S w')
    (hn : ∀ w', I' w' → wpAnyH P md ops Q S fuel (listed.setIfInBounds i true) a' w') : wpOp P ops Q i (fun a' w' => S w' ∧ wpAnyH P md ops Q S fuel (listed.setIfInBounds i true) a' w') a w := by
  subst ha
  unfold wpOp
  simp only [hi]
  rw [if_pos hw]
  exact .inl (wp_of_effAt h fun w' hw' => ⟨hS w' hw', hn w' hw'⟩)
theorem drawn_done (hr : Region.ready md ops listed = []) (h : Q .normal a w) : wpAnyH P md ops Q S fuel listed a w := wpAnyH_done hr h fuel
end
end Go.Eff
