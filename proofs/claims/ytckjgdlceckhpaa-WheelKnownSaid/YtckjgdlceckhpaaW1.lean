/- Steps of a walk over a map, 'clear' of one cell; the walks of the closure in Stop, of IndexFunc and of DeleteFunc. -/
import Derived.Test.YtckjgdlceckhpaaS0
import Derived.Test.YtckjgdlceckhpaaW0
import Derived.Maps.AppendAt
import Derived.LaidEqlPtr
set_option linter.unusedSimpArgs false
set_option linter.unusedVariables false
namespace Go.Proofs.Ytckjgdlceckhpaa
open Go.RowKit Go.Eff
attribute [local irreducible] Go.wpList
section
variable {o : Oper} {a : Act} {w : World} {mb c k b : Nat} {es : List MapEntry} {M : List Nat} {B : Nat → Nat} {x y z : Operand}
theorem zero50 (w : World) : (zeroValue 50).run Try.prog w = .ok (.pointer none) w := by
  kernel_rfl
theorem eff_lookup {v : Value} (ho : o.op = .lookup 47 x y false) (hx : a.eval x = .map (some mb)) (hy : a.eval y = .int .u8 (k : Int)) (hM : MapAt w mb es c) (hE : EntsOf es M B) (hv : (if k ∈ M then ptr (B k) else .pointer none) = v) : effAt Try.prog o a w v (· = w) := by
  subst hv
  unfold effAt execOp
  simp only [ho, hx, hy, Sem.run_bind, run_lookup Try.underlying47 Try.underlying5 (zero50 w) hM hE, Result.andThen_ok, Sem.run_pure]
  exact ⟨rfl, rfl⟩
theorem eff_delete (ho : o.op = .call { callee := .builtin .delete, args := #[x, y], argTypes := #[47, 5] }) (hx : a.eval x = .map (some mb)) (hy : a.eval y = .int .u8 (k : Int)) (hM : MapAt w mb es c) (hE : EntsOf es M B) (hk : k ∈ M) :
    effAt Try.prog o a w (.tuple #[]) (fun w' => w' = setB w mb (.map (es.eraseIdx (M.idxOf k)).toArray c)) := by
  unfold effAt execOp
  simp only [ho, resolve, invoke, builtin, Sem.run_bind, Sem.run_pure, Result.andThen_ok, List.map_toArray, List.map_cons, List.map_nil, hx, hy, run_delete _ Try.underlying47 Try.underlying5 hM hE hk]
  exact ⟨rfl, rfl⟩
theorem eff_update (ho : o.op = .mapUpdate 47 x y z) (hx : a.eval x = .map (some mb)) (hy : a.eval y = .int .u8 (k : Int)) (hz : a.eval z = ptr b) (hM : MapAt w mb es c) (hE : EntsOf es M B) (hk : k ∉ M) :
    effAt Try.prog o a w undef (fun w' => w' = setB w mb (.map (es ++ [(⟨.int .u8 (k : Int), ptr b, c⟩ : MapEntry)]).toArray (c + 1))) := by
  unfold effAt execOp
  simp only [ho, hx, hy, hz, Sem.run_bind, run_update Try.underlying47 Try.underlying5 hM hE hk, Result.andThen_ok, Sem.run_pure]
  exact ⟨rfl, rfl⟩
theorem eff_maplen {n : Nat} (ho : o.op = .call { callee := .builtin .len, args := #[x], argTypes := #[47] }) (hx : a.eval x = .map (some mb)) (hM : MapAt w mb es c) (hn : es.length = n) : effAt Try.prog o a w (.int .i64 (n : Int)) (· = w) := by
  have hb : w.heap[mb]? = some (.map es.toArray c) := hM
  subst hn
  unfold effAt execOp
  simp [ho, resolve, invoke, builtin, Builtin.len_, run_underlying Try.underlying47, MapKept.run_getObj_map hb, hx, goInt, Result.andThen, effUpon]
theorem eff_clear1 {g i n : Nat} {cs : Array Value} (ho : o.op = .call { callee := .builtin .clear, args := #[x], argTypes := #[53] }) (hx : a.eval x = .slice (some ⟨g, i, none⟩) 1 n) (hB : Blk w g 50 cs) (hi : i < cs.size) :
    effAt Try.prog o a w (.tuple #[]) (fun w' => Blk w' g 50 (cs.setIfInBounds i (.pointer none)) ∧ w.grownBy w' (some g)) := by
  have hst := run_storeCells_at (P := Try.prog) g i 50 [.pointer none] 0 cs w hB (by simp; omega) (by simp [Value.oneCell'])
  unfold effAt execOp
  simp only [ho, resolve, invoke, builtin, Sem.run_bind, Sem.run_pure, Result.andThen_ok, List.map_toArray, List.map_cons, List.map_nil, hx]
  simp [Builtin.clear_, run_underlying Try.underlying53, zero50, Builtin.zeroCells, Value.cells, hst, Result.andThen, effUpon]
  refine ⟨?_, rfl, rfl, rfl, by simp, fun j _ hj => setRow_other w g j _ (fun e => hj (by rw [e]))⟩
  have h := setRow_heap w g cs (cs.toList.take i ++ Value.pointer none :: cs.toList.drop (i + 1)).toArray 50 _ hB
  unfold Blk
  rw [h]
  congr 2
  apply Array.ext'
  simp [List.set_eq_take_append_cons_drop, hi]
theorem info52m : (Try.prog.info? 52).map (fun i => i.size) = some 3 := by kernel_rfl
theorem info52 : ∃ i0, Try.prog.info? 52 = some i0 ∧ i0.size ≠ 0 := by
  have h := info52m
  cases hi : Try.prog.info? 52 with
  | none => rw [hi] at h; cases h
  | some i0 => rw [hi] at h; simp at h; exact ⟨i0, rfl, by omega⟩
theorem eff_eqp {c1 c2 : Array Value} {t1 t2 : TypeId} {bb cc : Nat} (ho : o.op = .binOp .eql 50 x y 50) (hx : a.eval x = ptr cc) (hy : a.eval y = ptr bb) (h1 : Blk w cc t1 c1) (h2 : Blk w bb t2 c2) : effAt Try.prog o a w (.bool (decide (cc = bb))) (· = w) := by
  obtain ⟨i0, hi, hs⟩ := info52
  unfold effAt execOp
  by_cases h : cc = bb
  · subst h
    simp [ho, hx, hy, eqGuard, run_eql_ptr_same (P := Try.prog) w ⟨cc, 0, none⟩ Try.underlying50 hi, Result.andThen, effUpon]
  · simp [ho, hx, hy, eqGuard, run_eql_ptr_other (P := Try.prog) w Try.underlying50 hi hs (show (⟨cc, 0, none⟩ : Addr) ≠ ⟨bb, 0, none⟩ by simp [h]) h1 h2, Result.andThen, effUpon, h]
end
theorem eq_any (c b xb : Nat) {t1 t2 : TypeId} {c1 c2 : Array Value} (w : World) (h1 : Blk w c t1 c1) (h2 : Blk w b t2 c2) (hB_x : Blk w xb 50 #[ptr b]) : Calls Try.prog 22 #[ptr c, ptr xb] w (Ret (.bool (decide (c = b))) (Below w.heap.size w)) := by
  obtain ⟨e, he⟩ : ∃ e, decide (c = b) = e := ⟨_, rfl⟩
  rw [he]
  go_enter Try.func22, Try.ntmps22
  have F0 : Below w.heap.size w w := Below.refl _ _
  have hc_x := hB_x.cell
  repeat (first | ((with_reducible apply seq_q); (focus rfl); (focus (exact eff_eqp rfl rfl rfl h1 h2)); (focus ((simp only [Act.put, List.setIfInBounds_toArray, List.set_cons_zero, List.set_cons_succ]; rfl)))) | with_reducible apply wpList_nil | with_reducible apply seq_region | with_reducible apply wp_region_lit | with_reducible apply wp_seq | ((with_reducible apply seq_q); (focus rfl); (focus (simp [go_sem, effAt, ↓IntWalk.iteOmega, *]; (try go_ints); (first | (with_reducible exact effUpon_val) | (with_reducible exact effUpon_skip)))); (focus ((simp only [Act.put, List.setIfInBounds_toArray, List.set_cons_zero, List.set_cons_succ]; rfl)))) | ((with_reducible apply seq_s); (focus rfl); (focus ((simp only [Act.put, List.setIfInBounds_toArray, List.set_cons_zero, List.set_cons_succ]; rfl)))) | with_reducible apply wp_block | with_reducible apply wp_skip | with_reducible apply wp_exit | with_reducible apply wp_ret | ((with_reducible apply wp_cond_true); (focus (first | rfl | (simp [go_sem, *]; done)))) | ((with_reducible apply wp_cond_false); (focus (first | rfl | (simp [go_sem, *]; done)))) | (simp only [Exit.then, Exit.inBlock, ↓reduceIte, Nat.reduceEqDiff]))
  go_ret
  exact ⟨by simp [he], by assumption⟩
def rowL (ps : List Nat) (pad : List Value) : Array Value := (ps.map ptr ++ pad).toArray
theorem rowL_get {ps : List Nat} {pad : List Value} {i c : Nat} (h : ps[i]? = some c) : (rowL ps pad)[i]? = some (ptr c) := by
  have hi : i < ps.length := by
    rcases Nat.lt_or_ge i ps.length with h1 | h1
    · exact h1
    · rw [List.getElem?_eq_none h1] at h; cases h
  unfold rowL
  rw [List.getElem?_toArray, List.getElem?_append_left (by simpa using hi), List.getElem?_map, h]
  rfl
theorem idx_min {b : Nat} : ∀ (ps : List Nat) (i c : Nat), i < ps.idxOf b → ps[i]? = some c → c ≠ b
  | [], i, c, _, h => by simp at h
  | p :: ps, 0, c, hi, h => by
    rintro rfl
    simp only [List.getElem?_cons_zero, Option.some.injEq] at h
    subst h
    simp at hi
  | p :: ps, i + 1, c, hi, h => by
    by_cases hp : p = b
    · subst hp; simp at hi
    · have hp' : (p == b) = false := by simpa using hp
      rw [List.idxOf_cons, hp'] at hi
      exact idx_min ps i c (by simpa using hi) (by simpa using h)
theorem idx_any (g cap n b xb : Nat) (ps : List Nat) (pad : List Value) (w : World) (hn : ps.length = n) (hn2 : n ≤ 1000) (hB_d : Blk w g 50 (rowL ps pad)) (hB_x : Blk w xb 50 #[ptr b]) (hb : b ∈ ps) (hE : ∀ c ∈ ps, ∃ t cs, Blk w c t cs) :
    Calls Try.prog 24 #[.slice (some ⟨g, 0, none⟩) n cap, .func (.func 22) #[] #[ptr xb]] w (Ret (.int .i64 ((ps.idxOf b : Nat) : Int)) (Below w.heap.size w)) := by
  have hI1 := List.idxOf_lt_length_of_mem hb
  have hI2 := idx_min (b := b) ps
  have hI3 : ps[ps.idxOf b]? = some b := by
    rw [List.getElem?_eq_getElem hI1, List.getElem_idxOf]
  generalize ps.idxOf b = I at *
  rw [hn] at hI1
  have HN := Lib.hid hn
  clear hn
  have b1 : (n : Int) ≤ 1000 := by omega
  go_enter Try.func24, Try.ntmps24
  have F0 : Below w.heap.size w w := Below.refl _ _
  repeat (first | with_reducible apply wpList_nil | with_reducible apply seq_region | with_reducible apply wp_region_lit | with_reducible apply wp_seq | ((with_reducible apply seq_q); (focus rfl); (focus (simp [go_sem, effAt, ↓IntWalk.iteOmega, *]; (try go_ints); (first | (with_reducible exact effUpon_val) | (with_reducible exact effUpon_skip)))); (focus ((simp only [Act.put, List.setIfInBounds_toArray, List.set_cons_zero, List.set_cons_succ]; rfl)))) | ((with_reducible apply seq_s); (focus rfl); (focus ((simp only [Act.put, List.setIfInBounds_toArray, List.set_cons_zero, List.set_cons_succ]; rfl)))) | with_reducible apply wp_block | with_reducible apply wp_skip | with_reducible apply wp_exit | with_reducible apply wp_ret | ((with_reducible apply wp_cond_true); (focus (first | rfl | (simp [go_sem, *]; done)))) | ((with_reducible apply wp_cond_false); (focus (first | rfl | (simp [go_sem, *]; done)))) | (simp only [Exit.then, Exit.inBlock, ↓reduceIte, Nat.reduceEqDiff]))
  go_loopg [8] n (fun q v8 wr => ∃ j : Nat, v8 = .int .i64 (j : Int) ∧ j ≤ I ∧ j + q = n ∧ Below w.heap.size w wr)
  case atStart => exact ⟨0, rfl, Nat.zero_le _, by omega, Below.refl _ _⟩
  case round =>
    rename_i J K hJ hK
    clear F0
    obtain ⟨j, rfl, hj, hq, F1⟩ := hrel
    have hlt : (j : Int) < (n : Int) := by omega
    obtain ⟨c, hc⟩ : ∃ c, ps[j]? = some c := ⟨_, List.getElem?_eq_getElem (by have := HN.out; omega)⟩
    have ec := rowL_get (pad := pad) hc
    obtain ⟨t1, c1, hB1⟩ := hE c (List.mem_of_getElem? hc)
    obtain ⟨t2, c2, hB2⟩ := hE b hb
    replace hB1 := hB1.below F1 hB1.lt
    replace hB2 := hB2.below F1 hB2.lt
    have hE := fun u hu => eq_any (t1 := t1) (t2 := t2) (c1 := c1) (c2 := c2) c b xb u (hB1.below hu hB1.lt) (hB2.below hu hB2.lt)
    replace hB_d := hB_d.below F1 hB_d.lt
    replace hB_x := hB_x.below F1 hB_x.lt
    by_cases hcb : c = b
    case pos =>
      have hjI : j = I := by
        rcases Nat.lt_or_ge j I with h | h
        · exact absurd hcb (hI2 j c h hc)
        · omega
      have hd : decide (c = b) = true := by simpa using hcb
      rw [hd] at hE
      subst hjI
      clear hcb hd hc hI3 hJ hK
      skip
      have Fwr : Below wr.heap.size wr wr := Below.refl _ _
      have hc_d := hB_d.cell
      have hc_x := hB_x.cell
      repeat (first | with_reducible apply wpList_nil | with_reducible apply seq_region | with_reducible apply wp_region_lit | with_reducible apply wp_seq | ((with_reducible apply seq_q); (focus rfl); (focus (simp [go_sem, effAt, ↓IntWalk.iteOmega, *]; (try go_ints); (first | (with_reducible exact effUpon_val) | (with_reducible exact effUpon_skip)))); (focus ((simp only [Act.put, List.setIfInBounds_toArray, List.set_cons_zero, List.set_cons_succ]; rfl)))) | ((with_reducible apply seq_s); (focus rfl); (focus ((simp only [Act.put, List.setIfInBounds_toArray, List.set_cons_zero, List.set_cons_succ]; rfl)))) | with_reducible apply wp_block | with_reducible apply wp_skip | with_reducible apply wp_exit | with_reducible apply wp_ret | ((with_reducible apply wp_cond_true); (focus (first | rfl | (simp [go_sem, *]; done)))) | ((with_reducible apply wp_cond_false); (focus (first | rfl | (simp [go_sem, *]; done)))) | (simp only [Exit.then, Exit.inBlock, ↓reduceIte, Nat.reduceEqDiff]))
      ((with_reducible apply seq_e (Below wr.heap.size wr)); (focus rfl); (focus (simp only [effAt]; simp [go_sem]; (with_reducible exact effUpon_enter (hE _ (Below.refl _ _) hB_x)))); (focus ((simp only [Act.put, List.setIfInBounds_toArray, List.set_cons_zero, List.set_cons_succ]; rfl))))
      intro w1 hs
      have Fw1 := Fwr.trans (hs.mono Fwr.size)
      replace hB_d := hB_d.below hs hB_d.lt
      replace hB_x := hB_x.below hs hB_x.lt
      clear hs Fwr
      clear hc_d; have hc_d := hB_d.cell
      clear hc_x; have hc_x := hB_x.cell
      repeat (first | with_reducible apply wpList_nil | with_reducible apply seq_region | with_reducible apply wp_region_lit | with_reducible apply wp_seq | ((with_reducible apply seq_q); (focus rfl); (focus (simp [go_sem, effAt, ↓IntWalk.iteOmega, *]; (try go_ints); (first | (with_reducible exact effUpon_val) | (with_reducible exact effUpon_skip)))); (focus ((simp only [Act.put, List.setIfInBounds_toArray, List.set_cons_zero, List.set_cons_succ]; rfl)))) | ((with_reducible apply seq_s); (focus rfl); (focus ((simp only [Act.put, List.setIfInBounds_toArray, List.set_cons_zero, List.set_cons_succ]; rfl)))) | with_reducible apply wp_block | with_reducible apply wp_skip | with_reducible apply wp_exit | with_reducible apply wp_ret | ((with_reducible apply wp_cond_true); (focus (first | rfl | (simp [go_sem, *]; done)))) | ((with_reducible apply wp_cond_false); (focus (first | rfl | (simp [go_sem, *]; done)))) | (simp only [Exit.then, Exit.inBlock, ↓reduceIte, Nat.reduceEqDiff]))
      go_ret
      exact ⟨rfl, F1.trans (Below.mono (by assumption) F1.size)⟩
    case neg =>
      have hjI : j < I := by
        rcases Nat.lt_or_ge j I with h | h
        · exact h
        · have : j = I := by omega
          rw [this, hI3] at hc
          injection hc with hc
          exact absurd hc.symm hcb
      have hd : decide (c = b) = false := by simpa using hcb
      rw [hd] at hE
      clear hcb hd hc hI3
      skip
      have Fwr : Below wr.heap.size wr wr := Below.refl _ _
      have hc_d := hB_d.cell
      have hc_x := hB_x.cell
      repeat (first | with_reducible apply wpList_nil | with_reducible apply seq_region | with_reducible apply wp_region_lit | with_reducible apply wp_seq | ((with_reducible apply seq_q); (focus rfl); (focus (simp [go_sem, effAt, ↓IntWalk.iteOmega, *]; (try go_ints); (first | (with_reducible exact effUpon_val) | (with_reducible exact effUpon_skip)))); (focus ((simp only [Act.put, List.setIfInBounds_toArray, List.set_cons_zero, List.set_cons_succ]; rfl)))) | ((with_reducible apply seq_s); (focus rfl); (focus ((simp only [Act.put, List.setIfInBounds_toArray, List.set_cons_zero, List.set_cons_succ]; rfl)))) | with_reducible apply wp_block | with_reducible apply wp_skip | with_reducible apply wp_exit | with_reducible apply wp_ret | ((with_reducible apply wp_cond_true); (focus (first | rfl | (simp [go_sem, *]; done)))) | ((with_reducible apply wp_cond_false); (focus (first | rfl | (simp [go_sem, *]; done)))) | (simp only [Exit.then, Exit.inBlock, ↓reduceIte, Nat.reduceEqDiff]))
      ((with_reducible apply seq_e (Below wr.heap.size wr)); (focus rfl); (focus (simp only [effAt]; simp [go_sem]; (with_reducible exact effUpon_enter (hE _ (Below.refl _ _) hB_x)))); (focus ((simp only [Act.put, List.setIfInBounds_toArray, List.set_cons_zero, List.set_cons_succ]; rfl))))
      intro w1 hs
      have Fw1 := Fwr.trans (hs.mono Fwr.size)
      replace hB_d := hB_d.below hs hB_d.lt
      replace hB_x := hB_x.below hs hB_x.lt
      clear hs Fwr
      clear hc_d; have hc_d := hB_d.cell
      clear hc_x; have hc_x := hB_x.cell
      repeat (first | with_reducible apply wpList_nil | with_reducible apply seq_region | with_reducible apply wp_region_lit | with_reducible apply wp_seq | ((with_reducible apply seq_q); (focus rfl); (focus (simp [go_sem, effAt, ↓IntWalk.iteOmega, *]; (try go_ints); (first | (with_reducible exact effUpon_val) | (with_reducible exact effUpon_skip)))); (focus ((simp only [Act.put, List.setIfInBounds_toArray, List.set_cons_zero, List.set_cons_succ]; rfl)))) | ((with_reducible apply seq_s); (focus rfl); (focus ((simp only [Act.put, List.setIfInBounds_toArray, List.set_cons_zero, List.set_cons_succ]; rfl)))) | with_reducible apply wp_block | with_reducible apply wp_skip | with_reducible apply wp_exit | with_reducible apply wp_ret | ((with_reducible apply wp_cond_true); (focus (first | rfl | (simp [go_sem, *]; done)))) | ((with_reducible apply wp_cond_false); (focus (first | rfl | (simp [go_sem, *]; done)))) | (simp only [Exit.then, Exit.inBlock, ↓reduceIte, Nat.reduceEqDiff]))
      refine hK _ _ (Handed.intro (gk - 1) ?measure (hJ _ _ _ ?_))
      rotate_left
      (repeat apply Exists.intro)
      refine ⟨?rel, rfl⟩
      case rel => exact ⟨j + 1, by go_num, by omega, by omega, F1.trans (Below.mono (by assumption) F1.size)⟩
      case measure => omega
end Go.Proofs.Ytckjgdlceckhpaa
