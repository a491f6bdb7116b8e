/- The walk of Stop. -/
import Derived.Test.YtckjgdlceckhpaaW4
set_option linter.unusedSimpArgs false
set_option linter.unusedVariables false
namespace Go.Eff
theorem Blk.turn {T : Nat → Prop} {w w' : World} {g : Nat} {t : TypeId} {cs : Array Value} (h : Blk w g t cs) (hT : Turn T w w') (hn : ¬ T g) : Blk w' g t cs := (hT.block g h.lt hn).trans h
end Go.Eff
namespace Go.Proofs.Ytckjgdlceckhpaa
open Go.RowKit Go.Eff
attribute [local irreducible] Go.wpList
theorem MapAt.turn {T : Nat → Prop} {w w' : World} {g c : Nat} {es : List MapEntry} (h : MapAt w g es c) (hT : Turn T w w') (hn : ¬ T g) : MapAt w' g es c := (hT.block g h.lt hn).trans h
theorem erase_map {B : Nat → Nat} {k : Nat} : ∀ l : List Nat, (∀ x ∈ l, B x = B k → x = k) → (l.map B).erase (B k) = (l.erase k).map B
  | [], _ => rfl
  | x :: l, h => by
    by_cases hx : x = k
    · subst hx; simp
    · have h1 : (B x == B k) = false := by
        simp only [beq_eq_false_iff_ne, ne_eq]
        exact fun e => hx (h x (by simp) e)
      have h2 : (x == k) = false := by simpa using hx
      rw [List.map_cons, List.erase_cons, h1, List.erase_cons, h2]
      simp only [Bool.false_eq_true, if_false, List.map_cons]
      rw [erase_map l (fun y hy => h y (by simp [hy]))]
theorem stop_nil (k : Int) (w : World) : Calls Try.prog 15 #[.pointer none, .int .u8 k] w (Ret (.bool false) (Below w.heap.size w)) := by
  go_enter Try.func15, Try.ntmps15
  have F0 : Below w.heap.size w w := Below.refl _ _
  repeat (first | with_reducible apply wpList_nil | with_reducible apply seq_region | with_reducible apply wp_region_lit | with_reducible apply wp_seq | ((with_reducible apply seq_q); (focus rfl); (focus (simp [go_sem, effAt, ↓IntWalk.iteOmega, *]; (try go_ints); (first | (with_reducible exact effUpon_val) | (with_reducible exact effUpon_skip)))); (focus ((simp only [Act.put, List.setIfInBounds_toArray, List.set_cons_zero, List.set_cons_succ]; rfl)))) | ((with_reducible apply seq_s); (focus rfl); (focus ((simp only [Act.put, List.setIfInBounds_toArray, List.set_cons_zero, List.set_cons_succ]; rfl)))) | with_reducible apply wp_block | with_reducible apply wp_skip | with_reducible apply wp_exit | with_reducible apply wp_ret | ((with_reducible apply wp_cond_true); (focus (first | rfl | (simp [go_sem, *]; done)))) | ((with_reducible apply wp_cond_false); (focus (first | rfl | (simp [go_sem, *]; done)))) | (simp only [Exit.then, Exit.inBlock, ↓reduceIte, Nat.reduceEqDiff]))
  go_ret
  exact ⟨rfl, by assumption⟩
theorem stop_no {F : Nat → Prop} {w : World} {p k : Nat} {s : Wh} (h : WI F w p s) (hk : k ∉ s.M) : Calls Try.prog 15 #[ptr p, .int .u8 (k : Int)] w (Ret (.bool false) (Below w.heap.size w)) := by
  obtain ⟨es, c, hM, hE⟩ := h.hm
  have hB_p := h.hp
  have hv : (if k ∈ s.M then ptr (s.B k) else .pointer none) = .pointer none := if_neg hk
  go_enter Try.func15, Try.ntmps15
  have F0 : Below w.heap.size w w := Below.refl _ _
  have hc_p := hB_p.cell
  repeat (first | ((with_reducible apply seq_q); (focus rfl); (focus (exact eff_lookup rfl rfl rfl hM hE hv)); (focus ((simp only [Act.put, List.setIfInBounds_toArray, List.set_cons_zero, List.set_cons_succ]; rfl)))) | with_reducible apply wpList_nil | with_reducible apply seq_region | with_reducible apply wp_region_lit | with_reducible apply wp_seq | ((with_reducible apply seq_q); (focus rfl); (focus (simp [go_sem, effAt, ↓IntWalk.iteOmega, *]; (try go_ints); (first | (with_reducible exact effUpon_val) | (with_reducible exact effUpon_skip)))); (focus ((simp only [Act.put, List.setIfInBounds_toArray, List.set_cons_zero, List.set_cons_succ]; rfl)))) | ((with_reducible apply seq_s); (focus rfl); (focus ((simp only [Act.put, List.setIfInBounds_toArray, List.set_cons_zero, List.set_cons_succ]; rfl)))) | with_reducible apply wp_block | with_reducible apply wp_skip | with_reducible apply wp_exit | with_reducible apply wp_ret | ((with_reducible apply wp_cond_true); (focus (first | rfl | (simp [go_sem, *]; done)))) | ((with_reducible apply wp_cond_false); (focus (first | rfl | (simp [go_sem, *]; done)))) | (simp only [Exit.then, Exit.inBlock, ↓reduceIte, Nat.reduceEqDiff]))
  go_ret
  exact ⟨rfl, by assumption⟩
/-- what stands in the blocks about timer k -/
structure AtK (w : World) (p n tt sb mb g b i k : Nat) (ps : List Nat) (pad : List Value) (rows : Array Value) (r : Int) : Prop where
  p_g : p ≠ g
  p_s : p ≠ sb
  s_g : sb ≠ g
  m_g : mb ≠ g
  m_s : mb ≠ sb
  b_g : b ≠ g
  b_s : b ≠ sb
  hp : Blk w p 49 #[.slice (some ⟨sb, 0, none⟩) n n, .int .i64 (tt : Int), .map (some mb)]
  hs : Blk w sb 53 rows
  row : rows[i]? = some (.slice (some ⟨g, 0, none⟩) ps.length (ps.length + pad.length))
  he : Blk w b 52 #[.int .u8 (k : Int), .int .i64 (i : Int), .int .i64 r]
  hd : Blk w g 50 (rowL ps pad)
  hn : n ≤ 256
  hi : i < n
  nd : ps.Nodup
  bp : b ∈ ps
  len : ps.length ≤ 256
  ents : ∀ c ∈ ps, c ≠ g ∧ c ≠ sb ∧ ∃ t cs, Blk w c t cs
theorem nodup_len : ∀ (n : Nat) (l : List Nat), l.Nodup → (∀ x ∈ l, x < n) → l.length ≤ n
  | 0, l, _, h => by
    cases l with
    | nil => simp
    | cons a l => exact absurd (h a (by simp)) (by omega)
  | n + 1, l, hnd, h => by
    have h1 := nodup_len n (l.erase n) (hnd.erase n) (fun x hx => by
      rw [hnd.mem_erase_iff] at hx
      have := h x hx.2
      omega)
    by_cases hm : n ∈ l
    · have := List.length_erase_of_mem hm
      omega
    · rw [List.erase_of_not_mem hm] at h1
      omega
theorem nodup_len256 {l : List Nat} (h : l.Nodup) (hl : ∀ x ∈ l, x < 256) : l.length ≤ 256 := nodup_len 256 l h hl
theorem nodup_map_on {B : Nat → Nat} : ∀ {l : List Nat}, l.Nodup → (∀ x ∈ l, ∀ y ∈ l, B x = B y → x = y) → (l.map B).Nodup
  | [], _, _ => List.nodup_nil
  | a :: l, h, hi => by
    rw [List.nodup_cons] at h
    rw [List.map_cons, List.nodup_cons]
    refine ⟨fun hm => ?_, nodup_map_on h.2 (fun x hx y hy => hi x (by simp [hx]) y (by simp [hy]))⟩
    obtain ⟨x, hx, he⟩ := List.mem_map.1 hm
    have := hi x (by simp [hx]) a (by simp) he
    exact h.1 (this ▸ hx)
theorem WI.atK {F : Nat → Prop} {w : World} {p k g : Nat} {s : Wh} {pad : List Value} (h : WI F w p s) (hk : k ∈ s.M) (hG : s.G (s.Sl k) = some (g, pad)) :
    AtK w p s.n s.tt s.sb s.mb g (s.B k) (s.Sl k) k ((s.R (s.Sl k)).map s.B) pad ((List.range s.n).map s.rowV).toArray (s.Rd k) := by
  have hin := (h.lt k hk).2
  have hgR : s.blk p (.R (s.Sl k)) = some g := blk_R.2 ⟨hin, pad, hG⟩
  have hE : ∀ j ∈ s.M, s.blk p (.E j) = some (s.B j) := fun j hj => blk_E.2 ⟨hj, rfl⟩
  have ne : ∀ x y a b, s.blk p x = some a → s.blk p y = some b → x ≠ y → a ≠ b := fun x y a b h1 h2 hxy e => hxy (h.ap x y a h1 (e ▸ h2))
  have hsub : ∀ j ∈ s.R (s.Sl k), j ∈ s.M := fun j hj => ((h.mem _ hin j).1 hj).1
  refine ⟨ne .P (.R _) _ _ rfl hgR (by simp), ne .P .S _ _ rfl rfl (by simp), ne .S (.R _) _ _ rfl hgR (by simp), ne .M (.R _) _ _ rfl hgR (by simp), ne .M .S _ _ rfl rfl (by simp), ne (.E k) (.R _) _ _ (hE k hk) hgR (by simp), ne (.E k) .S _ _ (hE k hk) rfl (by simp),
    h.hp, h.hs, ?_, h.he k hk, ?_, h.n2, hin, ?_, List.mem_map.2 ⟨k, (h.mem _ hin k).2 ⟨hk, rfl⟩, rfl⟩, ?_, ?_⟩
  · rw [rowV_get _ hin]
    simp only [Wh.rowV, hG, List.length_map]
  · have := (h.hr _ _ _ hin hG).1
    unfold Wh.rowC at this
    unfold rowL
    rw [List.map_map]
    exact this
  · exact nodup_map_on (h.ndr _ hin) (fun x hx y hy e => by
      have := h.ap (.E x) (.E y) (s.B x) (hE x (hsub x hx)) (e ▸ hE y (hsub y hy))
      simpa using this)
  · rw [List.length_map]
    exact nodup_len256 (h.ndr _ hin) (fun x hx => (h.lt x (hsub x hx)).1)
  · intro c hc
    obtain ⟨x, hx, rfl⟩ := List.mem_map.1 hc
    exact ⟨ne (.E x) (.R _) _ _ (hE x (hsub x hx)) hgR (by simp), ne (.E x) .S _ _ (hE x (hsub x hx)) rfl (by simp), _, _, h.he x (hsub x hx)⟩
set_option maxRecDepth 100000 in
set_option maxHeartbeats 4000000 in
theorem stop_walk {w : World} {p n tt sb mb g b i k c : Nat} {ps : List Nat} {pad : List Value} {rows : Array Value} {r : Int} {M : List Nat} {B : Nat → Nat} {es : List MapEntry} (hA : AtK w p n tt sb mb g b i k ps pad rows r)
    (hM : MapAt w mb es c) (hE : EntsOf es M B) (hk : k ∈ M) (hb : B k = b) :
    Calls Try.prog 15 #[ptr p, .int .u8 (k : Int)] w (Ret (.bool true) fun w' => ∃ u, w' = setB u mb (.map (es.eraseIdx (M.idxOf k)).toArray c) ∧ MapAt u mb es c ∧ Turn (fun j => j = g ∨ j = sb ∨ w.heap.size ≤ j) w u ∧
      Blk u g 50 (rowL (ps.erase b) (.pointer none :: pad)) ∧ Blk u sb 53 (rows.setIfInBounds i (.slice (some ⟨g, 0, none⟩) (ps.length - 1) (ps.length + pad.length)))) := by
  obtain ⟨pg, pS, sg, mg, mS, bg, bS, hB_p, hB_s, hrow, hB_e, hB_d, hn, hi, nd, bp, len, ents⟩ := hA
  have hv : (if k ∈ M then ptr (B k) else .pointer none) = ptr b := by rw [if_pos hk, hb]
  have b1 : (n : Int) ≤ 256 := by omega
  have b2 : (i : Int) < (n : Int) := by omega
  obtain ⟨len0, hlen⟩ : ∃ l, ps.length = l := ⟨_, rfl⟩
  rw [hlen] at hrow len ⊢
  have HL := Lib.hid hlen
  clear hlen
  have hMlt := hM.lt
  go_enter Try.func15, Try.ntmps15
  have F0 : Below w.heap.size w w := Below.refl _ _
  have hc_p := hB_p.cell
  have hc_s := hB_s.cell
  have hc_e := hB_e.cell
  have hc_d := hB_d.cell
  repeat (first | ((with_reducible apply seq_q); (focus rfl); (focus (exact eff_lookup rfl rfl rfl hM hE hv)); (focus ((simp only [Act.put, List.setIfInBounds_toArray, List.set_cons_zero, List.set_cons_succ]; rfl)))) | with_reducible apply wpList_nil | with_reducible apply seq_region | with_reducible apply wp_region_lit | with_reducible apply wp_seq | ((with_reducible apply seq_q); (focus rfl); (focus (simp [go_sem, effAt, ↓IntWalk.iteOmega, *]; (try go_ints); (first | (with_reducible exact effUpon_val) | (with_reducible exact effUpon_skip)))); (focus ((simp only [Act.put, List.setIfInBounds_toArray, List.set_cons_zero, List.set_cons_succ]; rfl)))) | ((with_reducible apply seq_s); (focus rfl); (focus ((simp only [Act.put, List.setIfInBounds_toArray, List.set_cons_zero, List.set_cons_succ]; rfl)))) | with_reducible apply wp_block | with_reducible apply wp_skip | with_reducible apply wp_exit | with_reducible apply wp_ret | ((with_reducible apply wp_cond_true); (focus (first | rfl | (simp [go_sem, *]; done)))) | ((with_reducible apply wp_cond_false); (focus (first | rfl | (simp [go_sem, *]; done)))) | (simp only [Exit.then, Exit.inBlock, ↓reduceIte, Nat.reduceEqDiff]))
  have lt_p_x := hB_p.lt
  have lt_s_x := hB_s.lt
  have lt_e_x := hB_e.lt
  have lt_d_x := hB_d.lt
  ((with_reducible apply seq_box); (focus rfl); (focus (simp [go_sem, effAt]; exact ⟨rfl, rfl⟩)); (focus ((simp only [Act.put, List.setIfInBounds_toArray, List.set_cons_zero, List.set_cons_succ]; rfl))))
  intro w1 hB_x hs
  have Fw1 := F0.trans (hs.mono F0.size)
  replace hB_p := hB_p.below hs hB_p.lt
  replace hB_s := hB_s.below hs hB_s.lt
  replace hB_e := hB_e.below hs hB_e.lt
  replace hB_d := hB_d.below hs hB_d.lt
  clear hs F0
  clear hc_p; have hc_p := hB_p.cell
  clear hc_s; have hc_s := hB_s.cell
  clear hc_e; have hc_e := hB_e.cell
  clear hc_d; have hc_d := hB_d.cell
  have hc_x := hB_x.cell
  repeat (first | with_reducible apply wpList_nil | with_reducible apply seq_region | with_reducible apply wp_region_lit | with_reducible apply wp_seq | ((with_reducible apply seq_q); (focus rfl); (focus (simp [go_sem, effAt, ↓IntWalk.iteOmega, *]; (try go_ints); (first | (with_reducible exact effUpon_val) | (with_reducible exact effUpon_skip)))); (focus ((simp only [Act.put, List.setIfInBounds_toArray, List.set_cons_zero, List.set_cons_succ]; rfl)))) | ((with_reducible apply seq_s); (focus rfl); (focus ((simp only [Act.put, List.setIfInBounds_toArray, List.set_cons_zero, List.set_cons_succ]; rfl)))) | with_reducible apply wp_block | with_reducible apply wp_skip | with_reducible apply wp_exit | with_reducible apply wp_ret | ((with_reducible apply wp_cond_true); (focus (first | rfl | (simp [go_sem, *]; done)))) | ((with_reducible apply wp_cond_false); (focus (first | rfl | (simp [go_sem, *]; done)))) | (simp only [Exit.then, Exit.inBlock, ↓reduceIte, Nat.reduceEqDiff]))
  have hf_x := hB_x.frozen
  ((with_reducible apply seq_e (fun w' => Blk w' _ _ _ ∧ w1.grownBy w' (some _))); (focus rfl); (focus (simp [go_sem, effAt, *]; exact ⟨rfl, (hB_x.set_ 0 _), (grown_set (World.grownBy.refl _ _))⟩)); (focus ((simp only [Act.put, List.setIfInBounds_toArray, List.set_cons_zero, List.set_cons_succ]; rfl))))
  clear hf_x hc_x hB_x
  intro w2 hs
  obtain ⟨hB_x, hs⟩ := hs
  simp only [List.setIfInBounds_toArray, List.set_cons_zero, List.set_cons_succ] at hB_x
  have Fw2 := Fw1.grown hs Fw1.size (by intro k hk; first | (injection hk with hk; subst hk; first | exact Nat.le_refl _ | exact Fw1.size | omega) | omega)
  replace hB_p := hB_p.grown hs (by intro hk; injection hk with hk; have := hB_p.lt; have := hB_x.lt; omega)
  replace hB_s := hB_s.grown hs (by intro hk; injection hk with hk; have := hB_s.lt; have := hB_x.lt; omega)
  replace hB_e := hB_e.grown hs (by intro hk; injection hk with hk; have := hB_e.lt; have := hB_x.lt; omega)
  replace hB_d := hB_d.grown hs (by intro hk; injection hk with hk; have := hB_d.lt; have := hB_x.lt; omega)
  clear hs Fw1
  clear hc_p; have hc_p := hB_p.cell
  clear hc_s; have hc_s := hB_s.cell
  clear hc_e; have hc_e := hB_e.cell
  clear hc_d; have hc_d := hB_d.cell
  have hc_x := hB_x.cell
  repeat (first | with_reducible apply wpList_nil | with_reducible apply seq_region | with_reducible apply wp_region_lit | with_reducible apply wp_seq | ((with_reducible apply seq_q); (focus rfl); (focus (simp [go_sem, effAt, ↓IntWalk.iteOmega, *]; (try go_ints); (first | (with_reducible exact effUpon_val) | (with_reducible exact effUpon_skip)))); (focus ((simp only [Act.put, List.setIfInBounds_toArray, List.set_cons_zero, List.set_cons_succ]; rfl)))) | ((with_reducible apply seq_s); (focus rfl); (focus ((simp only [Act.put, List.setIfInBounds_toArray, List.set_cons_zero, List.set_cons_succ]; rfl)))) | with_reducible apply wp_block | with_reducible apply wp_skip | with_reducible apply wp_exit | with_reducible apply wp_ret | ((with_reducible apply wp_cond_true); (focus (first | rfl | (simp [go_sem, *]; done)))) | ((with_reducible apply wp_cond_false); (focus (first | rfl | (simp [go_sem, *]; done)))) | (simp only [Exit.then, Exit.inBlock, ↓reduceIte, Nat.reduceEqDiff]))
  obtain ⟨xb, hxb⟩ : ∃ xb, w.heap.size = xb := ⟨_, rfl⟩
  rw [hxb] at hB_x hc_x ⊢
  have lx := hB_x.lt
  have T0 : ∀ u : World, Turn (fun j => j = g ∨ j = sb ∨ w2.heap.size ≤ j) w2 u → Blk u p 49 #[.slice (some ⟨sb, 0, none⟩) n n, .int .i64 (tt : Int), .map (some mb)] ∧ Blk u b 52 #[.int .u8 (k : Int), .int .i64 (i : Int), .int .i64 r] ∧ Blk u xb 50 #[ptr b] := fun u hT =>
    ⟨hB_p.turn hT (by have := hB_p.lt; omega), hB_e.turn hT (by have := hB_e.lt; omega), hB_x.turn hT (by omega)⟩
  have T1 := Lib.hid T0
  clear T0
  refine wp_region_effA (S := Turn (fun j => j = g ∨ j = sb ∨ w2.heap.size ≤ j) w2) (I := (· = World.drew w2)) (E := fun i => [19, 21].contains i) (A := fun i => [17].contains i) (by kernel_rfl) (by kernel_rfl) rfl (fun _ h => by subst h; exact (Turn.refl _).drew) ?_
  repeat (first | ((with_reducible apply lexA_q); (focus rfl); (focus rfl); (focus rfl); (focus (intro w' hS; have hc_p := (T1.out _ hS).1.cell; have hc_e := (T1.out _ hS).2.1.cell; have hc_x := (T1.out _ hS).2.2.cell; simp [go_sem, effAt, ↓IntWalk.iteOmega, *]; (try go_ints); (first | (with_reducible exact effUpon_val) | (with_reducible exact effUpon_skip)))); (focus ((simp only [Act.put, List.setIfInBounds_toArray, List.set_cons_zero, List.set_cons_succ]; rfl)))) | ((with_reducible apply lexA_s); (focus rfl); (focus ((simp only [Act.put, List.setIfInBounds_toArray, List.set_cons_zero, List.set_cons_succ]; rfl)))))
  ((with_reducible apply lexA_a); (focus rfl); (focus rfl); (focus rfl); (focus (intro w' hS; subst hS; have hc_s := hB_s.drew.cell; simp [go_sem, effAt, ↓IntWalk.iteOmega, *]; (try go_ints); (first | (with_reducible exact effUpon_val) | (with_reducible exact effUpon_skip)))); (focus ((simp only [Act.put, List.setIfInBounds_toArray, List.set_cons_zero, List.set_cons_succ]; rfl))))
  repeat (first | ((with_reducible apply lexA_q); (focus rfl); (focus rfl); (focus rfl); (focus (intro w' hS; have hc_p := (T1.out _ hS).1.cell; have hc_e := (T1.out _ hS).2.1.cell; have hc_x := (T1.out _ hS).2.2.cell; simp [go_sem, effAt, ↓IntWalk.iteOmega, *]; (try go_ints); (first | (with_reducible exact effUpon_val) | (with_reducible exact effUpon_skip)))); (focus ((simp only [Act.put, List.setIfInBounds_toArray, List.set_cons_zero, List.set_cons_succ]; rfl)))) | ((with_reducible apply lexA_s); (focus rfl); (focus ((simp only [Act.put, List.setIfInBounds_toArray, List.set_cons_zero, List.set_cons_succ]; rfl)))))
  have hdel := del_any g (len0 + pad.length) len0 b xb ps pad w2.drew HL.out (by omega) (by omega) hB_d.drew hB_x.drew (by omega) bp nd (fun c hc => ⟨(ents c hc).1, by obtain ⟨t, cs, h⟩ := (ents c hc).2.2; exact ⟨t, cs, (h.below Fw2 h.lt).drew⟩⟩)
  with_reducible apply lexA_e (fun w' => Blk w' g 50 (rowL (ps.erase b) (.pointer none :: pad)) ∧ World.grownBy w2.drew w' (some g))
  (focus (first | exact wanted_none rfl | exact wanted_yes rfl rfl rfl))
  focus rfl
  focus
    intro w' hS
    subst hS
    simp only [effAt]
    simp [go_sem]
    (with_reducible exact effUpon_enter hdel)
  focus
    rintro w' ⟨_, h⟩
    exact Turn.of_grown (grown_undrew h) (.inl rfl)
  (simp only [Act.put, List.setIfInBounds_toArray, List.set_cons_zero, List.set_cons_succ]; rfl)
  clear hdel
  repeat (first | ((with_reducible apply lexA_q); (focus rfl); (focus rfl); (focus rfl); (focus (intro w' hS; have hc_p := (T1.out _ hS).1.cell; have hc_e := (T1.out _ hS).2.1.cell; have hc_x := (T1.out _ hS).2.2.cell; simp [go_sem, effAt, ↓IntWalk.iteOmega, *]; (try go_ints); (first | (with_reducible exact effUpon_val) | (with_reducible exact effUpon_skip)))); (focus ((simp only [Act.put, List.setIfInBounds_toArray, List.set_cons_zero, List.set_cons_succ]; rfl)))) | ((with_reducible apply lexA_s); (focus rfl); (focus ((simp only [Act.put, List.setIfInBounds_toArray, List.set_cons_zero, List.set_cons_succ]; rfl)))))
  with_reducible apply lexA_e (fun w' => Blk w' g 50 (rowL (ps.erase b) (.pointer none :: pad)) ∧ Blk w' sb 53 (rows.setIfInBounds i (.slice (some ⟨g, 0, none⟩) (len0 - 1) (len0 + pad.length))) ∧ Turn (fun j => j = g ∨ j = sb ∨ w2.heap.size ≤ j) w2 w')
  (focus (first | exact wanted_none rfl | exact wanted_yes rfl rfl rfl))
  focus rfl
  focus
    rintro w' ⟨hB', hg'⟩
    have hs' := hB_s.drew.grown hg' (by simpa using sg)
    have hf_s := hs'.frozen
    have hc_s' := hs'.cell
    simp [go_sem, effAt, *]
    exact ⟨rfl, hB'.far (Ne.symm sg) _, hs'.set_ i _, (Turn.of_grown (grown_undrew hg') (.inl rfl)).trans (Turn.of_grown (grown_set (World.grownBy.refl _ _)) (.inr (.inl rfl)))⟩
  focus
    rintro w' h
    exact h.2.2
  (simp only [Act.put, List.setIfInBounds_toArray, List.set_cons_zero, List.set_cons_succ]; rfl)
  with_reducible apply lexA_nil
  rintro u ⟨hB_d2, hB_s2, hT⟩
  have hp2 := (T1.out u hT).1
  have hM2 := (hM.below Fw2).turn hT (by have := Fw2.size; omega)
  have hTT : Turn (fun j => j = g ∨ j = sb ∨ w.heap.size ≤ j) w u := (Turn.of_below Fw2).trans (hT.mono (fun j hj => by have := Fw2.size; omega))
  clear hB_p hB_s hB_e hB_d hB_x hc_p hc_s hc_e hc_d hc_x T1
  have hB_p := hp2
  clear hp2
  rw [hxb] at hTT
  have Fu : Below u.heap.size u u := Below.refl _ _
  have hc_p := hB_p.cell
  repeat (first | with_reducible apply wpList_nil | with_reducible apply seq_region | with_reducible apply wp_region_lit | with_reducible apply wp_seq | ((with_reducible apply seq_q); (focus rfl); (focus (simp [go_sem, effAt, ↓IntWalk.iteOmega, *]; (try go_ints); (first | (with_reducible exact effUpon_val) | (with_reducible exact effUpon_skip)))); (focus ((simp only [Act.put, List.setIfInBounds_toArray, List.set_cons_zero, List.set_cons_succ]; rfl)))) | ((with_reducible apply seq_s); (focus rfl); (focus ((simp only [Act.put, List.setIfInBounds_toArray, List.set_cons_zero, List.set_cons_succ]; rfl)))) | with_reducible apply wp_block | with_reducible apply wp_skip | with_reducible apply wp_exit | with_reducible apply wp_ret | ((with_reducible apply wp_cond_true); (focus (first | rfl | (simp [go_sem, *]; done)))) | ((with_reducible apply wp_cond_false); (focus (first | rfl | (simp [go_sem, *]; done)))) | (simp only [Exit.then, Exit.inBlock, ↓reduceIte, Nat.reduceEqDiff]))
  with_reducible apply seq_e (fun w' => w' = setB u mb (.map (es.eraseIdx (M.idxOf k)).toArray c))
  (focus (first | exact wanted_none rfl | exact wanted_yes rfl rfl rfl))
  focus exact eff_delete rfl rfl rfl hM2 hE hk
  (simp only [Act.put, List.setIfInBounds_toArray, List.set_cons_zero, List.set_cons_succ]; rfl)
  intro w3 e3
  have Fw3 : Below w3.heap.size w3 w3 := Below.refl _ _
  repeat (first | with_reducible apply wpList_nil | with_reducible apply seq_region | with_reducible apply wp_region_lit | with_reducible apply wp_seq | ((with_reducible apply seq_q); (focus rfl); (focus (simp [go_sem, effAt, ↓IntWalk.iteOmega, *]; (try go_ints); (first | (with_reducible exact effUpon_val) | (with_reducible exact effUpon_skip)))); (focus ((simp only [Act.put, List.setIfInBounds_toArray, List.set_cons_zero, List.set_cons_succ]; rfl)))) | ((with_reducible apply seq_s); (focus rfl); (focus ((simp only [Act.put, List.setIfInBounds_toArray, List.set_cons_zero, List.set_cons_succ]; rfl)))) | with_reducible apply wp_block | with_reducible apply wp_skip | with_reducible apply wp_exit | with_reducible apply wp_ret | ((with_reducible apply wp_cond_true); (focus (first | rfl | (simp [go_sem, *]; done)))) | ((with_reducible apply wp_cond_false); (focus (first | rfl | (simp [go_sem, *]; done)))) | (simp only [Exit.then, Exit.inBlock, ↓reduceIte, Nat.reduceEqDiff]))
  go_ret
  exact ⟨rfl, u, e3, hM2, hTT, hB_d2, hB_s2⟩
theorem stop_yes {F : Nat → Prop} {w : World} {p k : Nat} {s : Wh} (h : WI F w p s) (hk : k ∈ s.M) :
    Calls Try.prog 15 #[ptr p, .int .u8 (k : Int)] w (Ret (.bool true) fun w' => WI F w' p (s.stop k) ∧ Turn (fun j => F j ∨ w.heap.size ≤ j) w w') := by
  obtain ⟨g, pad, hG⟩ := h.row_some hk
  obtain ⟨es, c, hM, hE⟩ := h.hm
  have hA := h.atK hk hG
  refine (stop_walk hA hM hE hk rfl).mono ?_
  rintro e w' ⟨rfl, u, rfl, hMu, hT, hB_d, hB_s⟩
  have hin := (h.lt k hk).2
  have hgR : s.blk p (.R (s.Sl k)) = some g := blk_R.2 ⟨hin, pad, hG⟩
  have hsub : ∀ j ∈ s.R (s.Sl k), j ∈ s.M := fun j hj => ((h.mem _ hin j).1 hj).1
  have hem : ((s.R (s.Sl k)).map s.B).erase (s.B k) = ((s.R (s.Sl k)).erase k).map s.B := erase_map _ (fun x hx e => by
    have := h.ap (.E x) (.E k) (s.B x) (blk_E.2 ⟨hsub x hx, rfl⟩) (blk_E.2 ⟨hk, e.symm⟩)
    simpa using this)
  have fg := h.ft _ _ hgR
  have fs := h.ft .S _ rfl
  have fm := h.ft .M _ rfl
  refine ⟨rfl, h.stop hk hG (fun b hb hlt n1 n2 n3 => ?_) ?_ ?_ ?_ ⟨_, c, setB_same hMu, ents_erase _ _ hE hk⟩, ?_⟩
  · rw [setB_other hMu n3]
    exact hT.block b hlt (by omega)
  · rw [setB_size]; exact hT.size
  · have := hB_d
    rw [hem] at this
    unfold rowL at this
    rw [List.map_map] at this
    exact (setB_other hMu (Ne.symm hA.m_g)).trans this
  · have := hB_s
    rw [List.length_map] at this
    exact (setB_other hMu (Ne.symm hA.m_s)).trans this
  · refine ⟨hT.os, hT.tape, hT.output, by rw [setB_size]; exact hT.size, fun i hi hn => ?_⟩
    have h3 : i ≠ s.mb := fun e => hn (.inl (e ▸ fm.1))
    have h4 : i ≠ g := fun e => hn (.inl (e ▸ fg.1))
    have h5 : i ≠ s.sb := fun e => hn (.inl (e ▸ fs.1))
    rw [setB_other hMu h3]
    exact hT.block i hi (by omega)
end Go.Proofs.Ytckjgdlceckhpaa
