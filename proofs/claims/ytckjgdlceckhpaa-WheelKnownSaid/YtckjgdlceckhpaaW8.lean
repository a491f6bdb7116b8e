/- The walk of Tick. -/
import Derived.Test.YtckjgdlceckhpaaW7
import Derived.Test.YtckjgdlceckhpaaS12
set_option linter.unusedSimpArgs false
set_option linter.unusedVariables false
namespace Go.Proofs.Ytckjgdlceckhpaa
open Go.RowKit Go.Eff
attribute [local irreducible] Go.wpList
theorem info5m : (Try.prog.info? 5).map (fun i => (i.zero, i.size, i.bytes)) = some (some (.int .u8 0), 1, 1) := by kernel_rfl
theorem info5 : ∃ i0, Try.prog.info? 5 = some i0 ∧ i0.zero = some (.int .u8 0) ∧ i0.size = 1 ∧ i0.bytes = 1 := by
  have h := info5m
  cases hi : Try.prog.info? 5 with
  | none => rw [hi] at h; cases h
  | some i0 =>
    rw [hi] at h
    simp only [Option.map_some, Option.some.injEq, Prod.mk.injEq] at h
    exact ⟨i0, rfl, h.1, h.2.1, h.2.2⟩
/-- a row of octets that lies in a block made since base, or nil -/
def DueAt (base : Nat) (w : World) (v : Value) (ds : List Nat) : Prop := w.ownsRow base 5 1 v ds.length (ds.map fun (k : Nat) => Value.int .u8 (k : Int))
theorem due_append {u : World} {base s k : Nat} {v : Value} {ds : List Nat} (h : DueAt base u v ds) (hs : Blk u s 5 #[.int .u8 (k : Int)]) (hq : ds.length ≤ 1000) (hb : base ≤ u.heap.size) :
    ∃ v' u', (Builtin.append_ #[41, 41] 41 #[v, .slice (some ⟨s, 0, none⟩) 1 1]).run Try.prog u = .ok v' u' ∧ DueAt base u' v' (ds ++ [k]) ∧ u.grownBy u' v.ownBlock ∧ ∃ ao l c, v' = .slice ao l c := by
  obtain ⟨i0, hi, hz, h1, hb0⟩ := info5
  have hnews : ∀ j x, [Value.int .u8 (k : Int)][j]? = some x → u.cell? ((⟨s, 0, none⟩ : Addr).add j) = some x := fun j x hj => by
    rw [Addr.add_lit, Nat.zero_add, hs.cell]
    simpa using hj
  obtain ⟨v', u', hr, ho, hg, _, hat⟩ := run_append_own_at (P := Try.prog) u base 41 41 5 i0 (.int .u8 0) 1 1 Try.underlying41 hi hz h1 hb0 rfl (by omega) v ds.length _ h ⟨s, 0, none⟩ 1 1 [.int .u8 (k : Int)] rfl hnews (by simp [Value.oneCell']) (by simp only [maxLen]; omega) (by omega) hb
  refine ⟨v', u', hr, ?_, hg, ?_⟩
  · unfold DueAt
    rw [List.length_append, List.map_append]
    exact ho
  · rcases ho.2 with ⟨rfl, _⟩ | ⟨g', cap', cur, rfl, _⟩
    · exact ⟨_, _, _, rfl⟩
    · exact ⟨_, _, _, rfl⟩
theorem DueAt.kept {base : Nat} {w w' : World} {v : Value} {ds : List Nat} {T : Nat → Prop} (h : DueAt base w v ds) (hT : Turn T w w') (hn : ∀ j, base ≤ j → j < w.heap.size → ¬ T j) : DueAt base w' v ds := by
  refine ⟨h.1, ?_⟩
  rcases h.2 with hx | ⟨g, cap, cur, rfl, hb, hgg, rest⟩
  · exact .inl hx
  · have hlt := (Array.getElem?_eq_some_iff.1 hgg).1
    exact .inr ⟨g, cap, cur, rfl, hb, by rw [hT.block g hlt (hn g hb hlt)]; exact hgg, rest⟩
theorem tick_nil (w : World) : Calls Try.prog 16 #[.pointer none] w (Ret (.slice none 0 0) (Below w.heap.size w)) := by
  go_enter Try.func16, Try.ntmps16
  have F0 : Below w.heap.size w w := Below.refl _ _
  repeat (first | with_reducible apply wpList_nil | with_reducible apply seq_region | with_reducible apply wp_region_lit | with_reducible apply wp_seq | ((with_reducible apply seq_q); (focus rfl); (focus (simp [go_sem, effAt, ↓IntWalk.iteOmega, *]; (try go_ints); (first | (with_reducible exact effUpon_val) | (with_reducible exact effUpon_skip)))); (focus ((simp only [Act.put, List.setIfInBounds_toArray, List.set_cons_zero, List.set_cons_succ]; rfl)))) | ((with_reducible apply seq_s); (focus rfl); (focus ((simp only [Act.put, List.setIfInBounds_toArray, List.set_cons_zero, List.set_cons_succ]; rfl)))) | with_reducible apply wp_block | with_reducible apply wp_skip | with_reducible apply wp_exit | with_reducible apply wp_ret | ((with_reducible apply wp_cond_true); (focus (first | rfl | (simp [go_sem, *]; done)))) | ((with_reducible apply wp_cond_false); (focus (first | rfl | (simp [go_sem, *]; done)))) | (simp only [Exit.then, Exit.inBlock, ↓reduceIte, Nat.reduceEqDiff]))
  go_ret
  exact ⟨rfl, by assumption⟩
/-- rounds, when so many of the row are counted down -/
def rdAt (Rd : Nat → Int) (xs : List Nat) (j : Nat) (k : Nat) : Int := if k ∈ xs.take j then Rd k - 1 else Rd k
theorem rdAt_zero (Rd : Nat → Int) (xs : List Nat) : rdAt Rd xs 0 = Rd := by
  funext k
  simp [rdAt]
theorem not_mem_take {xs : List Nat} (hnd : xs.Nodup) {j k : Nat} (hk : xs[j]? = some k) : k ∉ xs.take j := by
  have hj : j < xs.length := (List.getElem?_eq_some_iff.1 hk).1
  have h : xs.take j ++ xs.drop j = xs := List.take_append_drop j xs
  have hd : xs.drop j = k :: xs.drop (j + 1) := by
    rw [List.drop_eq_getElem_cons hj]
    rw [(List.getElem?_eq_some_iff.1 hk).2]
  rw [← h, hd, List.nodup_append] at hnd
  exact fun hm => hnd.2.2 k hm k (by simp) rfl
theorem take_next {xs : List Nat} {j k : Nat} (hk : xs[j]? = some k) : xs.take (j + 1) = xs.take j ++ [k] := by
  rw [List.take_add_one, hk]
  rfl
theorem rdAt_next {Rd : Nat → Int} {xs : List Nat} {j k : Nat} (hnd : xs.Nodup) (hk : xs[j]? = some k) : upd (rdAt Rd xs j) k (Rd k - 1) = rdAt Rd xs (j + 1) := by
  funext x
  unfold rdAt
  rw [take_next hk]
  by_cases hx : x = k
  · subst hx; simp [upd_same]
  · rw [upd_ne _ _ hx]; simp [hx]
theorem rdAt_same {Rd : Nat → Int} {xs : List Nat} {j k : Nat} (hnd : xs.Nodup) (hk : xs[j]? = some k) : rdAt Rd xs j k = Rd k := by
  unfold rdAt
  rw [if_neg (not_mem_take hnd hk)]
def dueOf (Rd : Nat → Int) (xs : List Nat) (j : Nat) : List Nat := (xs.take j).filter (fun k => decide (Rd k = 0))
theorem dueOf_yes {Rd : Nat → Int} {xs : List Nat} {j k : Nat} (hk : xs[j]? = some k) (h : Rd k = 0) : dueOf Rd xs (j + 1) = dueOf Rd xs j ++ [k] := by
  unfold dueOf
  rw [take_next hk, List.filter_append]
  simp [h]
theorem dueOf_no {Rd : Nat → Int} {xs : List Nat} {j k : Nat} (hk : xs[j]? = some k) (h : ¬ Rd k = 0) : dueOf Rd xs (j + 1) = dueOf Rd xs j := by
  unfold dueOf
  rw [take_next hk, List.filter_append]
  simp [h]
theorem dueOf_len (Rd : Nat → Int) (xs : List Nat) (j : Nat) : (dueOf Rd xs j).length ≤ xs.length := by
  unfold dueOf
  exact Nat.le_trans (List.length_filter_le _ _) (by simp; omega)
theorem WI.inner {F : Nat → Prop} {w w' : World} {p base : Nat} {s : Wh} {T : Nat → Prop} (h : WI F w p s) (hF : ∀ j, F j → j < base) (hT : Turn T w w') (hn : ∀ j, T j → base ≤ j) : WI F w' p s :=
  h.frame (fun g hg hlt => hT.block g hlt (fun e => by have := hn g e; have := hF g hg; omega)) hT.size (fun _ h => h)
theorem mem_del {s : Wh} {k x : Nat} (hnd : s.M.Nodup) : x ∈ (s.del k).M ↔ x ≠ k ∧ x ∈ s.M := by
  unfold Wh.del
  by_cases hk : k ∈ s.M
  · rw [if_pos hk]
    simp only [Wh.stop]
    exact hnd.mem_erase_iff
  · rw [if_neg hk]
    exact ⟨fun hx => ⟨fun e => hk (e ▸ hx), hx⟩, fun hx => hx.2⟩
theorem DueAt.toB {base : Nat} {w : World} {v : Value} {ds : List Nat} (h : DueAt base w v ds) : (v = .slice none 0 0 ∧ ds = []) ∨ ∃ g cap pad, v = .slice (some ⟨g, 0, none⟩) ds.length cap ∧ base ≤ g ∧ SB w g pad (ds.map fun (k : Nat) => (k : Int)).toArray := by
  rcases h.2 with ⟨hv, hn⟩ | ⟨g, cap, cur, hv, hb, hgg, hnc, hcm, hcs, htake⟩
  · exact .inl ⟨hv, List.eq_nil_of_length_eq_zero hn⟩
  · refine .inr ⟨g, cap, cur.toList.drop ds.length, hv, hb, ?_⟩
    have hcur : cellsS (cur.toList.drop ds.length) (ds.map fun (k : Nat) => (k : Int)).toArray = cur := by
      unfold cellsS
      apply Array.ext'
      have ht : cur.toList.take ds.length = ds.map fun (k : Nat) => Value.int .u8 (k : Int) := by rw [Nat.mul_one] at htake; exact htake
      simp only [List.map_map]
      show ds.map (fun (k : Nat) => Value.int .u8 (k : Int)) ++ cur.toList.drop ds.length = cur.toList
      rw [← ht, List.take_append_drop]
    unfold SB Blk
    rw [hcur]
    exact hgg
set_option maxRecDepth 100000 in
set_option maxHeartbeats 8000000 in
theorem tick_walk {F : Nat → Prop} {w : World} {p tn : Nat} {s : Wh} (h : WI F w p s) (hF : ∀ j, F j → j < w.heap.size) (htn : (s.tt + 1) % s.n = tn) (hrd : ∀ k ∈ s.M, 0 ≤ s.Rd k ∧ s.Rd k ≤ 65535) :
    Calls Try.prog 16 #[ptr p] w (fun e w' => ∃ v s' pad, e = .returned v ∧ WI F w' p s' ∧ s'.n = s.n ∧ s'.tt = tn ∧ s'.Sl = s.Sl ∧ s'.Rd = rdAt s.Rd (s.R tn) (s.R tn).length ∧ (∀ k, k ∈ s'.M ↔ k ∈ s.M ∧ k ∉ dueOf s.Rd (s.R tn) (s.R tn).length) ∧ Turn (fun j => F j ∨ w.heap.size ≤ j) w w' ∧
      ((v = .slice none 0 0 ∧ dueOf s.Rd (s.R tn) (s.R tn).length = []) ∨ ∃ g cap, v = .slice (some ⟨g, 0, none⟩) (dueOf s.Rd (s.R tn) (s.R tn).length).length cap ∧ w.heap.size ≤ g ∧ SB w' g pad (((dueOf s.Rd (s.R tn) (s.R tn).length).map fun (k : Nat) => (k : Int)).mergeSort (fun x y => decide (x ≤ y))).toArray)) := by
  obtain ⟨base, hbase⟩ : ∃ b, w.heap.size = b := ⟨_, rfl⟩
  rw [hbase] at hF ⊢
  have htl : tn < s.n := by rw [← htn]; exact Nat.mod_lt _ h.n1
  obtain ⟨xs, hxs⟩ : ∃ xs, s.R tn = xs := ⟨_, rfl⟩
  rw [hxs]
  have hnd : xs.Nodup := by rw [← hxs]; exact h.ndr tn htl
  have hsub : ∀ k ∈ xs, k ∈ s.M := fun k hk => ((h.mem tn htl k).1 (by rw [hxs]; exact hk)).1
  have hlen : xs.length ≤ 256 := nodup_len256 hnd (fun k hk => (h.lt k (hsub k hk)).1)
  obtain ⟨ao, l, cv, hv, hl, hao⟩ : ∃ ao l cv, s.rowV tn = .slice ao l cv ∧ l = xs.length ∧ ∀ j, j < l → ∃ g pad, ao = some ⟨g, 0, none⟩ ∧ s.G tn = some (g, pad) ∧ cv = l + pad.length := by
    cases hG : s.G tn with
    | none =>
      refine ⟨none, 0, 0, by simp [Wh.rowV, hG], ?_, fun j hj => by omega⟩
      rw [← hxs, h.hr0 tn htl hG]; rfl
    | some x => exact ⟨some ⟨x.1, 0, none⟩, xs.length, xs.length + x.2.length, by simp [Wh.rowV, hG, hxs], rfl, fun j hj => ⟨x.1, x.2, rfl, rfl, rfl⟩⟩
  have HAO := Lib.hid hao
  have HL := Lib.hid hl
  have HXS := Lib.hid hxs
  have hl256 : l ≤ 256 := by omega
  rw [← hl]
  clear hao hl hxs
  have hB_p := h.hp
  have hB_s := h.hs
  have hrow := rowV_get s.rowV htl
  rw [hv] at hrow
  have hmod : Int.tmod ((s.tt : Int) + 1) (s.n : Int) = (tn : Int) := by
    rw [← htn, show (s.tt : Int) + 1 = ((s.tt + 1 : Nat) : Int) from rfl]
    rfl
  have b1 : (s.n : Int) ≤ 256 := by have := h.n2; omega
  have b2 : (s.tt : Int) < (s.n : Int) := by have := h.t; omega
  have b3 : (tn : Int) < (s.n : Int) := by omega
  have b6 : 1 ≤ (s.n : Int) := by have := h.n1; omega
  have b7 : ((s.n : Int) == 0) = false := by simp; omega
  have b8 : (l : Int) ≤ 256 := by omega
  have dps : p ≠ s.sb := fun e => by have := h.ap .P .S p rfl (by rw [e]; rfl); cases this
  obtain ⟨n, hn⟩ : ∃ n, s.n = n := ⟨_, rfl⟩
  obtain ⟨tt, htt⟩ : ∃ n, s.tt = n := ⟨_, rfl⟩
  obtain ⟨sb, hsb⟩ : ∃ n, s.sb = n := ⟨_, rfl⟩
  obtain ⟨mb, hmb⟩ : ∃ n, s.mb = n := ⟨_, rfl⟩
  obtain ⟨rows, hrows⟩ : ∃ n, ((List.range s.n).map s.rowV).toArray = n := ⟨_, rfl⟩
  rw [hrows] at hB_s hrow
  rw [hn, htt] at hmod
  rw [hn] at b1 b2 b3 b6 b7 htl hB_p
  rw [htt] at b2 hB_p
  rw [hsb] at hB_s dps hB_p
  rw [hmb] at hB_p
  have HN := Lib.hid hn
  have HTT := Lib.hid htt
  have HSB := Lib.hid hsb
  have HMB := Lib.hid hmb
  have H0 := Lib.hid h
  clear hn htt hsb hmb hrows hv h htn
  go_enter Try.func16, Try.ntmps16
  have F0 : Below w.heap.size w w := Below.refl _ _
  have hc_p := hB_p.cell
  have hc_s := hB_s.cell
  repeat (first | with_reducible apply wpList_nil | with_reducible apply seq_region | with_reducible apply wp_region_lit | with_reducible apply wp_seq | ((with_reducible apply seq_q); (focus rfl); (focus (simp [go_sem, effAt, ↓IntWalk.iteOmega, *]; (try go_ints); (first | (with_reducible exact effUpon_val) | (with_reducible exact effUpon_skip)))); (focus ((simp only [Act.put, List.setIfInBounds_toArray, List.set_cons_zero, List.set_cons_succ]; rfl)))) | ((with_reducible apply seq_s); (focus rfl); (focus ((simp only [Act.put, List.setIfInBounds_toArray, List.set_cons_zero, List.set_cons_succ]; rfl)))) | with_reducible apply wp_block | with_reducible apply wp_skip | with_reducible apply wp_exit | with_reducible apply wp_ret | ((with_reducible apply wp_cond_true); (focus (first | rfl | (simp [go_sem, *]; done)))) | ((with_reducible apply wp_cond_false); (focus (first | rfl | (simp [go_sem, *]; done)))) | (simp only [Exit.then, Exit.inBlock, ↓reduceIte, Nat.reduceEqDiff]))
  refine wp_region_effA (S := fun w' : World => w'.cell? ⟨p, 0, none⟩ = some (.slice (some ⟨sb, 0, none⟩) n n)) (I := (· = World.drew w)) (E := fun i => [14].contains i) (A := fun i => [4].contains i) (by kernel_rfl) (by kernel_rfl) rfl (fun _ h => by subst h; rw [hB_p.drew.cell]; rfl) ?_
  repeat (first | ((with_reducible apply lexA_q); (focus rfl); (focus rfl); (focus rfl); (focus (intro w' hS; skip; simp [go_sem, effAt, ↓IntWalk.iteOmega, *]; (try go_ints); (first | (with_reducible exact effUpon_val) | (with_reducible exact effUpon_skip)))); (focus ((simp only [Act.put, List.setIfInBounds_toArray, List.set_cons_zero, List.set_cons_succ]; rfl)))) | ((with_reducible apply lexA_s); (focus rfl); (focus ((simp only [Act.put, List.setIfInBounds_toArray, List.set_cons_zero, List.set_cons_succ]; rfl)))))
  ((with_reducible apply lexA_a); (focus rfl); (focus rfl); (focus rfl); (focus (intro w' hS; subst hS; have hc_p := hB_p.drew.cell; simp [go_sem, effAt, ↓IntWalk.iteOmega, *]; (try go_ints); (first | (with_reducible exact effUpon_val) | (with_reducible exact effUpon_skip)))); (focus ((simp only [Act.put, List.setIfInBounds_toArray, List.set_cons_zero, List.set_cons_succ]; rfl))))
  repeat (first | ((with_reducible apply lexA_q); (focus rfl); (focus rfl); (focus rfl); (focus (intro w' hS; skip; simp [go_sem, effAt, ↓IntWalk.iteOmega, *]; (try go_ints); (first | (with_reducible exact effUpon_val) | (with_reducible exact effUpon_skip)))); (focus ((simp only [Act.put, List.setIfInBounds_toArray, List.set_cons_zero, List.set_cons_succ]; rfl)))) | ((with_reducible apply lexA_s); (focus rfl); (focus ((simp only [Act.put, List.setIfInBounds_toArray, List.set_cons_zero, List.set_cons_succ]; rfl)))))
  with_reducible apply lexA_e (fun w' => Blk w' p 49 #[.slice (some ⟨sb, 0, none⟩) n n, .int .i64 (tn : Int), .map (some mb)] ∧ w.grownBy w' (some p))
  (focus (first | exact wanted_none rfl | exact wanted_yes rfl rfl rfl))
  focus rfl
  focus
    rintro w' hS
    subst hS
    have hf_p := hB_p.drew.frozen
    have hc_p' := hB_p.drew.cell
    simp [go_sem, effAt, *]
    exact ⟨rfl, by have h9 := (hB_p.set_ 1 (.int .i64 (tn : Int))).drew; simpa using h9, by have h9 := grown_set (g := p) (i := 1) (u := .int .i64 (tn : Int)) (World.grownBy.refl w (some p)); exact ⟨h9.os, h9.tape, h9.output, h9.size, h9.block⟩⟩
  focus
    rintro w' ⟨h9, _⟩
    rw [h9.cell]
    rfl
  (simp only [Act.put, List.setIfInBounds_toArray, List.set_cons_zero, List.set_cons_succ]; rfl)
  with_reducible apply lexA_nil
  rintro wa ⟨hB_p1, hg1⟩
  have hB_s1 := hB_s.grown hg1 (by simpa using Ne.symm dps)
  have hFp : F p := (H0.out.ft .P p rfl).1
  have hW1 : WI F wa p { s with tt := tn, Rd := rdAt s.Rd xs 0 } := by
    rw [rdAt_zero]
    refine H0.out.tick (by rw [HN.out]; exact htl) (fun g hg hlt hne => hg1.block g hlt (fun e => hne (by injection e))) hg1.size ?_
    rw [HSB.out, HMB.out, HN.out]
    exact hB_p1
  have hT1 : Turn (fun j => F j ∨ base ≤ j) w wa := Turn.of_grown hg1 (.inl hFp)
  clear hB_p hc_p hB_s hc_s F0
  have hB_p := hB_p1
  have hB_s := hB_s1
  clear hB_p1 hB_s1 hg1
  skip
  have Fwa : Below wa.heap.size wa wa := Below.refl _ _
  have hc_p := hB_p.cell
  have hc_s := hB_s.cell
  repeat (first | with_reducible apply wpList_nil | with_reducible apply seq_region | with_reducible apply wp_region_lit | with_reducible apply wp_seq | ((with_reducible apply seq_q); (focus rfl); (focus (simp [go_sem, effAt, ↓IntWalk.iteOmega, *]; (try go_ints); (first | (with_reducible exact effUpon_val) | (with_reducible exact effUpon_skip)))); (focus ((simp only [Act.put, List.setIfInBounds_toArray, List.set_cons_zero, List.set_cons_succ]; rfl)))) | ((with_reducible apply seq_s); (focus rfl); (focus ((simp only [Act.put, List.setIfInBounds_toArray, List.set_cons_zero, List.set_cons_succ]; rfl)))) | with_reducible apply wp_block | with_reducible apply wp_skip | with_reducible apply wp_exit | with_reducible apply wp_ret | ((with_reducible apply wp_cond_true); (focus (first | rfl | (simp [go_sem, *]; done)))) | ((with_reducible apply wp_cond_false); (focus (first | rfl | (simp [go_sem, *]; done)))) | (simp only [Exit.then, Exit.inBlock, ↓reduceIte, Nat.reduceEqDiff]))
  refine wp_region_pure (E := fun i => [].contains i) (by kernel_rfl) (by kernel_rfl) ?_
  repeat (first | ((with_reducible apply lex_q); (focus rfl); (focus rfl); (focus (intro w' hS; have hc_p := (hB_p.below hS hB_p.lt).cell; have hc_s := (hB_s.below hS hB_s.lt).cell; simp [go_sem, effAt, ↓IntWalk.iteOmega, *]; (try go_ints); (first | (with_reducible exact effUpon_val) | (with_reducible exact effUpon_skip)))); (focus ((simp only [Act.put, List.setIfInBounds_toArray, List.set_cons_zero, List.set_cons_succ]; rfl)))) | ((with_reducible apply lex_s); (focus rfl); (focus ((simp only [Act.put, List.setIfInBounds_toArray, List.set_cons_zero, List.set_cons_succ]; rfl)))))
  with_reducible apply lex_nil
  intro w1 hs
  have Fw1 := Fwa.trans (hs.mono Fwa.size)
  replace hB_p := hB_p.below hs hB_p.lt
  replace hB_s := hB_s.below hs hB_s.lt
  clear hs Fwa
  clear hc_p; have hc_p := hB_p.cell
  clear hc_s; have hc_s := hB_s.cell
  repeat (first | with_reducible apply wpList_nil | with_reducible apply seq_region | with_reducible apply wp_region_lit | with_reducible apply wp_seq | ((with_reducible apply seq_q); (focus rfl); (focus (simp [go_sem, effAt, ↓IntWalk.iteOmega, *]; (try go_ints); (first | (with_reducible exact effUpon_val) | (with_reducible exact effUpon_skip)))); (focus ((simp only [Act.put, List.setIfInBounds_toArray, List.set_cons_zero, List.set_cons_succ]; rfl)))) | ((with_reducible apply seq_s); (focus rfl); (focus ((simp only [Act.put, List.setIfInBounds_toArray, List.set_cons_zero, List.set_cons_succ]; rfl)))) | with_reducible apply wp_block | with_reducible apply wp_skip | with_reducible apply wp_exit | with_reducible apply wp_ret | ((with_reducible apply wp_cond_true); (focus (first | rfl | (simp [go_sem, *]; done)))) | ((with_reducible apply wp_cond_false); (focus (first | rfl | (simp [go_sem, *]; done)))) | (simp only [Exit.then, Exit.inBlock, ↓reduceIte, Nat.reduceEqDiff]))
  have hW2 := hW1.inner hF (T := fun j => base ≤ j) (Turn.of_below Fw1) (fun j hj => hj)
  have hT2 := hT1.trans (Turn.of_below Fw1)
  clear hW1 hT1 hB_p hB_s hc_p hc_s
  go_loopg [3, 35] l (fun q v3 v35 wr => ∃ j : Nat, v35 = .int .i64 (j : Int) ∧ j + q = l ∧ (∃ ao3 l3 c3, v3 = .slice ao3 l3 c3) ∧ WI F wr p { s with tt := tn, Rd := rdAt s.Rd xs j } ∧ DueAt base wr v3 (dueOf s.Rd xs j) ∧ Turn (fun j => F j ∨ base ≤ j) w wr)
  case atStart => exact ⟨0, rfl, by omega, ⟨_, _, _, rfl⟩, hW2, World.ownsRow_nil _ _ _ _, hT2⟩
  case round =>
    rename_i J K hJ hK
    clear hW2 hT2
    obtain ⟨j, rfl, hj, ⟨ao3, l3, c3, rfl⟩, hW, hD, hT⟩ := hrel
    by_cases hlt : j < l
    case pos =>
      have hlt' : (j : Int) < (l : Int) := by omega
      obtain ⟨g, pad, rfl, hG, rfl⟩ := HAO.out j hlt
      obtain ⟨k, hk⟩ : ∃ k, xs[j]? = some k := ⟨_, List.getElem?_eq_getElem (by have := HL.out; omega)⟩
      have hkM := hsub k (List.mem_of_getElem? hk)
      have hB_d := (hW.hr tn g pad (by rw [HN.out]; exact htl) hG).1
      have hB_e := hW.he k hkM
      have hFb := (hW.ft (.E k) (s.B k) (blk_E.2 ⟨hkM, rfl⟩)).1
      have hrb := hrd k hkM
      dsimp only at hB_e
      rw [rdAt_same hnd hk] at hB_e
      have ec : (Wh.rowC { s with tt := tn, Rd := rdAt s.Rd xs j } tn pad)[j]? = some (ptr (s.B k)) := by
        unfold Wh.rowC
        dsimp only
        rw [HXS.out, List.getElem?_toArray, List.getElem?_append_left (by rw [List.length_map, ← HL.out]; exact hlt), List.getElem?_map, hk]
        rfl
      obtain ⟨cells, hcl⟩ : ∃ cells, Wh.rowC { s with tt := tn, Rd := rdAt s.Rd xs j } tn pad = cells := ⟨_, rfl⟩
      rw [hcl] at ec hB_d
      obtain ⟨b, hb⟩ : ∃ b, s.B k = b := ⟨_, rfl⟩
      rw [hb] at hB_e hFb ec
      have hbb := hF b hFb
      obtain ⟨sl, hsl⟩ : ∃ b, s.Sl k = b := ⟨_, rfl⟩
      rw [hsl] at hB_e
      obtain ⟨r, hr⟩ : ∃ b, s.Rd k = b := ⟨_, rfl⟩
      rw [hr] at hB_e hrb
      have hr1 : 0 ≤ r := hrb.1
      have hr2 : r ≤ 65535 := hrb.2
      have HBK := Lib.hid hb
      have HSK := Lib.hid hsl
      have HRK := Lib.hid hr
      have HLT := Lib.hid hlt
      have hdl := dueOf_len s.Rd xs j
      clear hcl hb hsl hr hrb hlt
      by_cases hr0 : r = 0
      case pos =>
        subst hr0
        have hdy := dueOf_yes (Rd := s.Rd) hk HRK.out
        have hne : ∀ i, (Value.slice ao3 l3 c3).ownBlock = some i → base ≤ i := fun i hi => (World.ownsRow.lt hD i hi).1
        have zw := hT.size
        skip
        have Fwr : Below wr.heap.size wr wr := Below.refl _ _
        have hc_d := hB_d.cell
        have hc_e := hB_e.cell
        repeat (first | with_reducible apply wpList_nil | with_reducible apply seq_region | with_reducible apply wp_region_lit | with_reducible apply wp_seq | ((with_reducible apply seq_q); (focus rfl); (focus (simp [go_sem, effAt, ↓IntWalk.iteOmega, *]; (try go_ints); (first | (with_reducible exact effUpon_val) | (with_reducible exact effUpon_skip)))); (focus ((simp only [Act.put, List.setIfInBounds_toArray, List.set_cons_zero, List.set_cons_succ]; rfl)))) | ((with_reducible apply seq_s); (focus rfl); (focus ((simp only [Act.put, List.setIfInBounds_toArray, List.set_cons_zero, List.set_cons_succ]; rfl)))) | with_reducible apply wp_block | with_reducible apply wp_skip | with_reducible apply wp_exit | with_reducible apply wp_ret | ((with_reducible apply wp_cond_true); (focus (first | rfl | (simp [go_sem, *]; done)))) | ((with_reducible apply wp_cond_false); (focus (first | rfl | (simp [go_sem, *]; done)))) | (simp only [Exit.then, Exit.inBlock, ↓reduceIte, Nat.reduceEqDiff]))
        have lt_d_y := hB_d.lt
        have lt_e_y := hB_e.lt
        ((with_reducible apply seq_box); (focus rfl); (focus (simp [go_sem, effAt]; exact ⟨rfl, rfl⟩)); (focus ((simp only [Act.put, List.setIfInBounds_toArray, List.set_cons_zero, List.set_cons_succ]; rfl))))
        intro w1 hB_y hs
        have Fw1 := Fwr.trans (hs.mono Fwr.size)
        replace hB_d := hB_d.below hs hB_d.lt
        replace hB_e := hB_e.below hs hB_e.lt
        clear hs Fwr
        clear hc_d; have hc_d := hB_d.cell
        clear hc_e; have hc_e := hB_e.cell
        have hc_y := hB_y.cell
        repeat (first | with_reducible apply wpList_nil | with_reducible apply seq_region | with_reducible apply wp_region_lit | with_reducible apply wp_seq | ((with_reducible apply seq_q); (focus rfl); (focus (simp [go_sem, effAt, ↓IntWalk.iteOmega, *]; (try go_ints); (first | (with_reducible exact effUpon_val) | (with_reducible exact effUpon_skip)))); (focus ((simp only [Act.put, List.setIfInBounds_toArray, List.set_cons_zero, List.set_cons_succ]; rfl)))) | ((with_reducible apply seq_s); (focus rfl); (focus ((simp only [Act.put, List.setIfInBounds_toArray, List.set_cons_zero, List.set_cons_succ]; rfl)))) | with_reducible apply wp_block | with_reducible apply wp_skip | with_reducible apply wp_exit | with_reducible apply wp_ret | ((with_reducible apply wp_cond_true); (focus (first | rfl | (simp [go_sem, *]; done)))) | ((with_reducible apply wp_cond_false); (focus (first | rfl | (simp [go_sem, *]; done)))) | (simp only [Exit.then, Exit.inBlock, ↓reduceIte, Nat.reduceEqDiff]))
        have hB_y' := hB_y
        obtain ⟨v', u2, hap, hDu, hgu, ⟨ao', l', c', rfl⟩⟩ := due_append (hD.kept (T := fun _ => False) (Turn.of_below (by assumption)) (fun _ _ _ h => h)) hB_y' (by omega) (by have := Below.size (by assumption : Below wr.heap.size wr w1); omega)
        have Tu : Turn (fun i => base ≤ i) wr u2 := (Turn.of_below (by assumption : Below wr.heap.size wr w1)).trans ⟨hgu.os, hgu.tape, hgu.output, hgu.size, fun i hi hn => hgu.block i hi (fun e => hn (hne i e.symm))⟩
        have hWu := hW.inner hF Tu (fun j h => h)
        have hB_e2 := hB_e.grown hgu (fun e => by have := hne b e.symm; omega)
        have hTu := hT.trans (Tu.mono (T' := fun j => F j ∨ base ≤ j) (fun _ h => .inr h))
        rw [← hdy] at hDu
        with_reducible apply seq_e (fun w' => w' = u2)
        (focus (first | exact wanted_none rfl | exact wanted_yes rfl rfl rfl))
        focus exact eff_append rfl rfl rfl hap
        (simp only [Act.put, List.setIfInBounds_toArray, List.set_cons_zero, List.set_cons_succ]; rfl)
        intro x hx
        obtain rfl : u2 = x := hx.symm
        clear hap hB_y hB_y' hc_y hB_d hc_d hB_e hc_e hW hD hT hdy hne hgu ec Tu
        have hB_e := hB_e2
        clear hB_e2
        have Fu2 : Below u2.heap.size u2 u2 := Below.refl _ _
        have hc_e := hB_e.cell
        repeat (first | with_reducible apply wpList_nil | with_reducible apply seq_region | with_reducible apply wp_region_lit | with_reducible apply wp_seq | ((with_reducible apply seq_q); (focus rfl); (focus (simp [go_sem, effAt, ↓IntWalk.iteOmega, *]; (try go_ints); (first | (with_reducible exact effUpon_val) | (with_reducible exact effUpon_skip)))); (focus ((simp only [Act.put, List.setIfInBounds_toArray, List.set_cons_zero, List.set_cons_succ]; rfl)))) | ((with_reducible apply seq_s); (focus rfl); (focus ((simp only [Act.put, List.setIfInBounds_toArray, List.set_cons_zero, List.set_cons_succ]; rfl)))) | with_reducible apply wp_block | with_reducible apply wp_skip | with_reducible apply wp_exit | with_reducible apply wp_ret | ((with_reducible apply wp_cond_true); (focus (first | rfl | (simp [go_sem, *]; done)))) | ((with_reducible apply wp_cond_false); (focus (first | rfl | (simp [go_sem, *]; done)))) | (simp only [Exit.then, Exit.inBlock, ↓reduceIte, Nat.reduceEqDiff]))
        with_reducible apply seq_e (fun w' => Blk w' b 52 #[.int .u8 (k : Int), .int .i64 (sl : Int), .int .i64 (-1)] ∧ World.grownBy u2 w' (some b))
        (focus (first | exact wanted_none rfl | exact wanted_yes rfl rfl rfl))
        focus
          have hf_e := hB_e.frozen
          simp [go_sem, effAt, *]
          exact ⟨rfl, by have h9 := hB_e.set_ 2 (.int .i64 (-1)); simpa using h9, grown_set (World.grownBy.refl _ _)⟩
        (focus (first | (apply put_some rfl; focus (conv => lhs; dsimp only [List.set_cons_zero, List.set_cons_succ]) <;> rfl) | exact put_none rfl))
        rintro u3 ⟨hB_n, hg_n⟩
        have hW3 := hWu.rounds (k := k) (r := s.Rd k - 1) hkM (fun x hx hlt2 hne2 => hg_n.block x hlt2 (fun e => by injection e with e; exact hne2 (e.trans HBK.out.symm))) hg_n.size (by dsimp only; rw [HBK.out, HSK.out, HRK.out]; exact hB_n)
        dsimp only at hW3
        rw [rdAt_next hnd hk] at hW3
        have hD3 : DueAt base u3 _ _ := hDu.kept (Turn.of_grown (T := fun i => i = b) hg_n rfl) (fun i hi _ e => by omega)
        have hT3 := hTu.trans (Turn.of_grown (T := fun j => F j ∨ base ≤ j) hg_n (.inl hFb))
        clear hB_e hc_e hWu hDu hTu
        have Fu3 : Below u3.heap.size u3 u3 := Below.refl _ _
        repeat (first | with_reducible apply wpList_nil | with_reducible apply seq_region | with_reducible apply wp_region_lit | with_reducible apply wp_seq | ((with_reducible apply seq_q); (focus rfl); (focus (simp [go_sem, effAt, ↓IntWalk.iteOmega, *]; (try go_ints); (first | (with_reducible exact effUpon_val) | (with_reducible exact effUpon_skip)))); (focus ((simp only [Act.put, List.setIfInBounds_toArray, List.set_cons_zero, List.set_cons_succ]; rfl)))) | ((with_reducible apply seq_s); (focus rfl); (focus ((simp only [Act.put, List.setIfInBounds_toArray, List.set_cons_zero, List.set_cons_succ]; rfl)))) | with_reducible apply wp_block | with_reducible apply wp_skip | with_reducible apply wp_exit | with_reducible apply wp_ret | ((with_reducible apply wp_cond_true); (focus (first | rfl | (simp [go_sem, *]; done)))) | ((with_reducible apply wp_cond_false); (focus (first | rfl | (simp [go_sem, *]; done)))) | (simp only [Exit.then, Exit.inBlock, ↓reduceIte, Nat.reduceEqDiff]))
        refine hK _ _ (Handed.intro (gk - 1) ?measure (hJ _ _ _ ?_))
        rotate_left
        (repeat apply Exists.intro)
        refine ⟨?rel, rfl⟩
        case rel => exact ⟨j + 1, by go_num, by have := HLT.out; omega, ⟨_, _, _, rfl⟩, hW3, hD3, hT3⟩
        case measure => have := HLT.out; omega
      case neg =>
        have hr0' : (r == 0) = false := by simpa using hr0
        have hdn := dueOf_no (Rd := s.Rd) hk (by rw [HRK.out]; exact hr0)
        have hWu := hW
        have hDu := hD
        have hTu := hT
        rw [← hdn] at hDu
        clear hW hD hT hdn hr0
        skip
        have Fwr : Below wr.heap.size wr wr := Below.refl _ _
        have hc_d := hB_d.cell
        have hc_e := hB_e.cell
        repeat (first | with_reducible apply wpList_nil | with_reducible apply seq_region | with_reducible apply wp_region_lit | with_reducible apply wp_seq | ((with_reducible apply seq_q); (focus rfl); (focus (simp [go_sem, effAt, ↓IntWalk.iteOmega, *]; (try go_ints); (first | (with_reducible exact effUpon_val) | (with_reducible exact effUpon_skip)))); (focus ((simp only [Act.put, List.setIfInBounds_toArray, List.set_cons_zero, List.set_cons_succ]; rfl)))) | ((with_reducible apply seq_s); (focus rfl); (focus ((simp only [Act.put, List.setIfInBounds_toArray, List.set_cons_zero, List.set_cons_succ]; rfl)))) | with_reducible apply wp_block | with_reducible apply wp_skip | with_reducible apply wp_exit | with_reducible apply wp_ret | ((with_reducible apply wp_cond_true); (focus (first | rfl | (simp [go_sem, *]; done)))) | ((with_reducible apply wp_cond_false); (focus (first | rfl | (simp [go_sem, *]; done)))) | (simp only [Exit.then, Exit.inBlock, ↓reduceIte, Nat.reduceEqDiff]))
        have Fwr : Below wr.heap.size wr wr := Below.refl _ _
        have hc_e := hB_e.cell
        repeat (first | with_reducible apply wpList_nil | with_reducible apply seq_region | with_reducible apply wp_region_lit | with_reducible apply wp_seq | ((with_reducible apply seq_q); (focus rfl); (focus (simp [go_sem, effAt, ↓IntWalk.iteOmega, *]; (try go_ints); (first | (with_reducible exact effUpon_val) | (with_reducible exact effUpon_skip)))); (focus ((simp only [Act.put, List.setIfInBounds_toArray, List.set_cons_zero, List.set_cons_succ]; rfl)))) | ((with_reducible apply seq_s); (focus rfl); (focus ((simp only [Act.put, List.setIfInBounds_toArray, List.set_cons_zero, List.set_cons_succ]; rfl)))) | with_reducible apply wp_block | with_reducible apply wp_skip | with_reducible apply wp_exit | with_reducible apply wp_ret | ((with_reducible apply wp_cond_true); (focus (first | rfl | (simp [go_sem, *]; done)))) | ((with_reducible apply wp_cond_false); (focus (first | rfl | (simp [go_sem, *]; done)))) | (simp only [Exit.then, Exit.inBlock, ↓reduceIte, Nat.reduceEqDiff]))
        with_reducible apply seq_e (fun w' => Blk w' b 52 #[.int .u8 (k : Int), .int .i64 (sl : Int), .int .i64 (r - 1)] ∧ World.grownBy wr w' (some b))
        (focus (first | exact wanted_none rfl | exact wanted_yes rfl rfl rfl))
        focus
          have hf_e := hB_e.frozen
          simp [go_sem, effAt, *]
          exact ⟨rfl, by have h9 := hB_e.set_ 2 (.int .i64 (r - 1)); simpa using h9, grown_set (World.grownBy.refl _ _)⟩
        (focus (first | (apply put_some rfl; focus (conv => lhs; dsimp only [List.set_cons_zero, List.set_cons_succ]) <;> rfl) | exact put_none rfl))
        rintro u3 ⟨hB_n, hg_n⟩
        have hW3 := hWu.rounds (k := k) (r := s.Rd k - 1) hkM (fun x hx hlt2 hne2 => hg_n.block x hlt2 (fun e => by injection e with e; exact hne2 (e.trans HBK.out.symm))) hg_n.size (by dsimp only; rw [HBK.out, HSK.out, HRK.out]; exact hB_n)
        dsimp only at hW3
        rw [rdAt_next hnd hk] at hW3
        have hD3 : DueAt base u3 _ _ := hDu.kept (Turn.of_grown (T := fun i => i = b) hg_n rfl) (fun i hi _ e => by omega)
        have hT3 := hTu.trans (Turn.of_grown (T := fun j => F j ∨ base ≤ j) hg_n (.inl hFb))
        clear hB_e hc_e hWu hDu hTu
        have Fu3 : Below u3.heap.size u3 u3 := Below.refl _ _
        repeat (first | with_reducible apply wpList_nil | with_reducible apply seq_region | with_reducible apply wp_region_lit | with_reducible apply wp_seq | ((with_reducible apply seq_q); (focus rfl); (focus (simp [go_sem, effAt, ↓IntWalk.iteOmega, *]; (try go_ints); (first | (with_reducible exact effUpon_val) | (with_reducible exact effUpon_skip)))); (focus ((simp only [Act.put, List.setIfInBounds_toArray, List.set_cons_zero, List.set_cons_succ]; rfl)))) | ((with_reducible apply seq_s); (focus rfl); (focus ((simp only [Act.put, List.setIfInBounds_toArray, List.set_cons_zero, List.set_cons_succ]; rfl)))) | with_reducible apply wp_block | with_reducible apply wp_skip | with_reducible apply wp_exit | with_reducible apply wp_ret | ((with_reducible apply wp_cond_true); (focus (first | rfl | (simp [go_sem, *]; done)))) | ((with_reducible apply wp_cond_false); (focus (first | rfl | (simp [go_sem, *]; done)))) | (simp only [Exit.then, Exit.inBlock, ↓reduceIte, Nat.reduceEqDiff]))
        refine hK _ _ (Handed.intro (gk - 1) ?measure (hJ _ _ _ ?_))
        rotate_left
        (repeat apply Exists.intro)
        refine ⟨?rel, rfl⟩
        case rel => exact ⟨j + 1, by go_num, by have := HLT.out; omega, ⟨_, _, _, rfl⟩, hW3, hD3, hT3⟩
        case measure => have := HLT.out; omega
    case neg =>
      obtain rfl : j = l := by omega
      have hlt' : ¬ (j : Int) < (j : Int) := by omega
      clear hJ hK
      skip
      have Fwr : Below wr.heap.size wr wr := Below.refl _ _
      repeat (first | with_reducible apply wpList_nil | with_reducible apply seq_region | with_reducible apply wp_region_lit | with_reducible apply wp_seq | ((with_reducible apply seq_q); (focus rfl); (focus (simp [go_sem, effAt, ↓IntWalk.iteOmega, *]; (try go_ints); (first | (with_reducible exact effUpon_val) | (with_reducible exact effUpon_skip)))); (focus ((simp only [Act.put, List.setIfInBounds_toArray, List.set_cons_zero, List.set_cons_succ]; rfl)))) | ((with_reducible apply seq_s); (focus rfl); (focus ((simp only [Act.put, List.setIfInBounds_toArray, List.set_cons_zero, List.set_cons_succ]; rfl)))) | with_reducible apply wp_block | with_reducible apply wp_skip | with_reducible apply wp_exit | with_reducible apply wp_ret | ((with_reducible apply wp_cond_true); (focus (first | rfl | (simp [go_sem, *]; done)))) | ((with_reducible apply wp_cond_false); (focus (first | rfl | (simp [go_sem, *]; done)))) | (simp only [Exit.then, Exit.inBlock, ↓reduceIte, Nat.reduceEqDiff]))
      obtain ⟨D, hDD⟩ : ∃ D, dueOf s.Rd xs j = D := ⟨_, rfl⟩
      have hDl := dueOf_len s.Rd xs j
      have hDM : ∀ k ∈ D, k ∈ s.M := by
        rw [← hDD]
        exact fun k hk => hsub k (List.mem_of_mem_take (List.mem_filter.1 hk).1)
      rw [hDD] at hD hDl ⊢
      have hl3 : l3 = D.length := by
        rcases hD.toB with ⟨hv, hn⟩ | ⟨g, cap, pad, hv, _⟩
        · injection hv with _ h2 _; rw [h2, hn]; rfl
        · injection hv
      have hl3I : (l3 : Int) ≤ 256 := by omega
      have HL3 := Lib.hid hl3
      have HLEN := Lib.hid hDl
      clear hl3 hDl hlt hlt' hDD
      go_loopg [61] l3 (fun q v61 wr => ∃ i : Nat, v61 = .int .i64 (i : Int) ∧ i + q = l3 ∧ (∃ sj, WI F wr p sj ∧ sj.n = s.n ∧ sj.tt = tn ∧ sj.Sl = s.Sl ∧ sj.Rd = rdAt s.Rd xs j ∧ ∀ k, k ∈ sj.M ↔ k ∈ s.M ∧ k ∉ D.take i) ∧ DueAt base wr (.slice ao3 l3 c3) D ∧ Turn (fun j => F j ∨ base ≤ j) w wr)
      case atStart => exact ⟨0, rfl, by omega, ⟨_, hW, rfl, rfl, rfl, rfl, fun k => by simp⟩, hD, hT⟩
      case round =>
        rename_i J K hJ hK
        clear hW hD hT
        obtain ⟨i, rfl, hi, ⟨sj, hW, f1, f2, f3, f4, hM⟩, hD, hT⟩ := hrel
        by_cases hlt : i < l3
        case pos =>
          have hlt' : (i : Int) < (l3 : Int) := by omega
          rcases hD.toB with ⟨hv, hn⟩ | ⟨g, cap, pad, hv, hgb, hB_d⟩
          · have := HL3.out; rw [hn] at this; simp at this; omega
          injection hv with h1 h2 h3
          subst h1 h3
          clear h2
          obtain ⟨k, hk⟩ : ∃ k, D[i]? = some k := ⟨_, List.getElem?_eq_getElem (by have := HL3.out; omega)⟩
          have ec := cellsS_get (d := (D.map fun (k : Nat) => (k : Int)).toArray) (i := i) (x := (k : Int)) pad (by have := HL3.out; simp; omega) (by
            have hi2 : i < D.length := by have := HL3.out; omega
            rw [List.getElem?_eq_getElem hi2] at hk
            injection hk with hk
            rw [getElem!_pos _ i (by simpa using hi2)]
            simp [hk])
          have hst := stop_any (k := k) hW
          obtain ⟨d1, d2, d3, d4⟩ := del_fields sj k
          obtain ⟨bo, hbo⟩ : ∃ b, decide (k ∈ sj.M) = b := ⟨_, rfl⟩
          rw [hbo] at hst
          have HLT := Lib.hid hlt
          have HK9 := Lib.hid hk
          have hnd9 := hW.nd
          have zw := hT.size
          clear hlt hbo hk
          skip
          have Fwr : Below wr.heap.size wr wr := Below.refl _ _
          have hc_d := hB_d.cell
          repeat (first | with_reducible apply wpList_nil | with_reducible apply seq_region | with_reducible apply wp_region_lit | with_reducible apply wp_seq | ((with_reducible apply seq_q); (focus rfl); (focus (simp [go_sem, effAt, ↓IntWalk.iteOmega, *]; (try go_ints); (first | (with_reducible exact effUpon_val) | (with_reducible exact effUpon_skip)))); (focus ((simp only [Act.put, List.setIfInBounds_toArray, List.set_cons_zero, List.set_cons_succ]; rfl)))) | ((with_reducible apply seq_s); (focus rfl); (focus ((simp only [Act.put, List.setIfInBounds_toArray, List.set_cons_zero, List.set_cons_succ]; rfl)))) | with_reducible apply wp_block | with_reducible apply wp_skip | with_reducible apply wp_exit | with_reducible apply wp_ret | ((with_reducible apply wp_cond_true); (focus (first | rfl | (simp [go_sem, *]; done)))) | ((with_reducible apply wp_cond_false); (focus (first | rfl | (simp [go_sem, *]; done)))) | (simp only [Exit.then, Exit.inBlock, ↓reduceIte, Nat.reduceEqDiff]))
          with_reducible apply seq_e (fun w' => WI F w' p (sj.del k) ∧ Turn (fun j => F j ∨ wr.heap.size ≤ j) wr w')
          (focus (first | exact wanted_none rfl | exact wanted_yes rfl rfl rfl))
          (focus (simp only [effAt]; simp [go_sem]; (with_reducible exact effUpon_enter hst)))
          (simp only [Act.put, List.setIfInBounds_toArray, List.set_cons_zero, List.set_cons_succ]; rfl)
          rintro u ⟨hWu, hTu⟩
          have hDu : DueAt base u _ _ := hD.kept hTu (fun x hx hlt2 e => by rcases e with e | e; (have := hF x e; omega); omega)
          have hTu2 := hT.trans (hTu.mono (T' := fun j => F j ∨ base ≤ j) (fun x hx => by rcases hx with hx | hx; exact .inl hx; exact .inr (by omega)))
          clear hW hD hT hTu hst hB_d hc_d
          have Fu : Below u.heap.size u u := Below.refl _ _
          repeat (first | with_reducible apply wpList_nil | with_reducible apply seq_region | with_reducible apply wp_region_lit | with_reducible apply wp_seq | ((with_reducible apply seq_q); (focus rfl); (focus (simp [go_sem, effAt, ↓IntWalk.iteOmega, *]; (try go_ints); (first | (with_reducible exact effUpon_val) | (with_reducible exact effUpon_skip)))); (focus ((simp only [Act.put, List.setIfInBounds_toArray, List.set_cons_zero, List.set_cons_succ]; rfl)))) | ((with_reducible apply seq_s); (focus rfl); (focus ((simp only [Act.put, List.setIfInBounds_toArray, List.set_cons_zero, List.set_cons_succ]; rfl)))) | with_reducible apply wp_block | with_reducible apply wp_skip | with_reducible apply wp_exit | with_reducible apply wp_ret | ((with_reducible apply wp_cond_true); (focus (first | rfl | (simp [go_sem, *]; done)))) | ((with_reducible apply wp_cond_false); (focus (first | rfl | (simp [go_sem, *]; done)))) | (simp only [Exit.then, Exit.inBlock, ↓reduceIte, Nat.reduceEqDiff]))
          refine hK _ _ (Handed.intro (gk - 1) ?measure (hJ _ _ _ ?_))
          rotate_left
          (repeat apply Exists.intro)
          refine ⟨?rel, rfl⟩
          case rel =>
            refine ⟨i + 1, by go_num, by have := HLT.out; omega, ⟨_, hWu, by rw [d1, f1], by rw [d2, f2], by rw [d3, f3], by rw [d4, f4], fun x => ?_⟩, hDu, hTu2⟩
            rw [mem_del hnd9, hM x, take_next HK9.out]
            simp only [List.mem_append, List.mem_singleton, not_or]
            exact ⟨fun ⟨a, b, c⟩ => ⟨b, c, a⟩, fun ⟨b, c, a⟩ => ⟨a, b, c⟩⟩
          case measure => have := HLT.out; omega
        case neg =>
          have hlt' : ¬ (i : Int) < (l3 : Int) := by omega
          have hil : i = l3 := by omega
          have hM2 : ∀ k, k ∈ sj.M ↔ k ∈ s.M ∧ k ∉ D := fun k => by
            rw [hM k, hil, HL3.out, List.take_length]
          clear hJ hK hlt hil hi
          rcases hD.toB with ⟨hv, hn⟩ | ⟨g, cap, pad, hv, hgb, hB_d⟩
          · injection hv with h1 h2 h3
            subst h1 h2 h3 hn
            have hs := sort_nil
            skip
            have Fwr : Below wr.heap.size wr wr := Below.refl _ _
            repeat (first | with_reducible apply wpList_nil | with_reducible apply seq_region | with_reducible apply wp_region_lit | with_reducible apply wp_seq | ((with_reducible apply seq_q); (focus rfl); (focus (simp [go_sem, effAt, ↓IntWalk.iteOmega, *]; (try go_ints); (first | (with_reducible exact effUpon_val) | (with_reducible exact effUpon_skip)))); (focus ((simp only [Act.put, List.setIfInBounds_toArray, List.set_cons_zero, List.set_cons_succ]; rfl)))) | ((with_reducible apply seq_s); (focus rfl); (focus ((simp only [Act.put, List.setIfInBounds_toArray, List.set_cons_zero, List.set_cons_succ]; rfl)))) | with_reducible apply wp_block | with_reducible apply wp_skip | with_reducible apply wp_exit | with_reducible apply wp_ret | ((with_reducible apply wp_cond_true); (focus (first | rfl | (simp [go_sem, *]; done)))) | ((with_reducible apply wp_cond_false); (focus (first | rfl | (simp [go_sem, *]; done)))) | (simp only [Exit.then, Exit.inBlock, ↓reduceIte, Nat.reduceEqDiff]))
            ((with_reducible apply seq_e (Below wr.heap.size wr)); (focus rfl); (focus (simp only [effAt]; simp [go_sem]; (with_reducible exact effUpon_enter (hs _)))); (focus ((simp only [Act.put, List.setIfInBounds_toArray, List.set_cons_zero, List.set_cons_succ]; rfl))))
            intro w1 hs
            have Fw1 := Fwr.trans (hs.mono Fwr.size)
            clear hs Fwr
            repeat (first | with_reducible apply wpList_nil | with_reducible apply seq_region | with_reducible apply wp_region_lit | with_reducible apply wp_seq | ((with_reducible apply seq_q); (focus rfl); (focus (simp [go_sem, effAt, ↓IntWalk.iteOmega, *]; (try go_ints); (first | (with_reducible exact effUpon_val) | (with_reducible exact effUpon_skip)))); (focus ((simp only [Act.put, List.setIfInBounds_toArray, List.set_cons_zero, List.set_cons_succ]; rfl)))) | ((with_reducible apply seq_s); (focus rfl); (focus ((simp only [Act.put, List.setIfInBounds_toArray, List.set_cons_zero, List.set_cons_succ]; rfl)))) | with_reducible apply wp_block | with_reducible apply wp_skip | with_reducible apply wp_exit | with_reducible apply wp_ret | ((with_reducible apply wp_cond_true); (focus (first | rfl | (simp [go_sem, *]; done)))) | ((with_reducible apply wp_cond_false); (focus (first | rfl | (simp [go_sem, *]; done)))) | (simp only [Exit.then, Exit.inBlock, ↓reduceIte, Nat.reduceEqDiff]))
            go_ret
            exact ⟨_, sj, [], rfl, hW.inner hF (T := fun j => base ≤ j) (Turn.of_below Fw1) (fun j hj => hj), f1, f2, f3, f4, hM2, hT.trans (Turn.of_below Fw1), .inl ⟨rfl, by first | trivial | rfl⟩⟩
          · injection hv with h1 h2 h3
            subst h1 h3
            have hs := fun (u : World) (hu : SB u g pad (D.map fun (k : Nat) => (k : Int)).toArray) => sort_any g c3 l3 pad (D.map fun (k : Nat) => (k : Int)) u (by rw [List.length_map]; exact h2.symm) (by omega) hu
            have zg := hB_d.lt
            rw [← h2]
            generalize (D.map fun (k : Nat) => (k : Int)).mergeSort (fun x y => decide (x ≤ y)) = Z at hs ⊢
            clear h2
            skip
            have Fwr : Below wr.heap.size wr wr := Below.refl _ _
            have hc_d := hB_d.cell
            repeat (first | with_reducible apply wpList_nil | with_reducible apply seq_region | with_reducible apply wp_region_lit | with_reducible apply wp_seq | ((with_reducible apply seq_q); (focus rfl); (focus (simp [go_sem, effAt, ↓IntWalk.iteOmega, *]; (try go_ints); (first | (with_reducible exact effUpon_val) | (with_reducible exact effUpon_skip)))); (focus ((simp only [Act.put, List.setIfInBounds_toArray, List.set_cons_zero, List.set_cons_succ]; rfl)))) | ((with_reducible apply seq_s); (focus rfl); (focus ((simp only [Act.put, List.setIfInBounds_toArray, List.set_cons_zero, List.set_cons_succ]; rfl)))) | with_reducible apply wp_block | with_reducible apply wp_skip | with_reducible apply wp_exit | with_reducible apply wp_ret | ((with_reducible apply wp_cond_true); (focus (first | rfl | (simp [go_sem, *]; done)))) | ((with_reducible apply wp_cond_false); (focus (first | rfl | (simp [go_sem, *]; done)))) | (simp only [Exit.then, Exit.inBlock, ↓reduceIte, Nat.reduceEqDiff]))
            with_reducible apply seq_e (fun w' => SB w' g pad Z.toArray ∧ wr.grownBy w' (some g))
            (focus (first | exact wanted_none rfl | exact wanted_yes rfl rfl rfl))
            (focus (simp only [effAt]; simp [go_sem]; (with_reducible exact effUpon_enter (hs _ hB_d))))
            (simp only [Act.put, List.setIfInBounds_toArray, List.set_cons_zero, List.set_cons_succ]; rfl)
            rintro u ⟨hB_n, hg_n⟩
            have hWu := hW.inner hF (T := fun j => base ≤ j) (Turn.of_grown hg_n hgb) (fun j hj => hj)
            have hTu := hT.trans (Turn.of_grown (T := fun j => F j ∨ base ≤ j) hg_n (.inr hgb))
            clear hW hT hB_d hc_d hg_n hs hD
            have Fu : Below u.heap.size u u := Below.refl _ _
            repeat (first | with_reducible apply wpList_nil | with_reducible apply seq_region | with_reducible apply wp_region_lit | with_reducible apply wp_seq | ((with_reducible apply seq_q); (focus rfl); (focus (simp [go_sem, effAt, ↓IntWalk.iteOmega, *]; (try go_ints); (first | (with_reducible exact effUpon_val) | (with_reducible exact effUpon_skip)))); (focus ((simp only [Act.put, List.setIfInBounds_toArray, List.set_cons_zero, List.set_cons_succ]; rfl)))) | ((with_reducible apply seq_s); (focus rfl); (focus ((simp only [Act.put, List.setIfInBounds_toArray, List.set_cons_zero, List.set_cons_succ]; rfl)))) | with_reducible apply wp_block | with_reducible apply wp_skip | with_reducible apply wp_exit | with_reducible apply wp_ret | ((with_reducible apply wp_cond_true); (focus (first | rfl | (simp [go_sem, *]; done)))) | ((with_reducible apply wp_cond_false); (focus (first | rfl | (simp [go_sem, *]; done)))) | (simp only [Exit.then, Exit.inBlock, ↓reduceIte, Nat.reduceEqDiff]))
            go_ret
            exact ⟨_, sj, pad, rfl, hWu, f1, f2, f3, f4, hM2, hTu, .inr ⟨g, c3, rfl, hgb, hB_n⟩⟩
end Go.Proofs.Ytckjgdlceckhpaa
