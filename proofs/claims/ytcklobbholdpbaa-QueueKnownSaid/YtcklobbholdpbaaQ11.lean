/- The walk of QueueKnown. -/
import Derived.Test.YtcklobbholdpbaaQ10
set_option linter.unusedSimpArgs false
set_option linter.unusedVariables false
namespace Go.Proofs.Ytcklobbholdpbaa
open Go.RowKit Go.Eff
theorem flat_get {α : Type} (f : α → List Value) (k : Nat) (hk : ∀ a, (f a).length = k) (j : Nat) (hj : j < k) : ∀ (l : List α) (i : Nat), (l.flatMap f)[i * k + j]? = (l[i]?).bind fun a => (f a)[j]?
  | [], i => by simp
  | a :: l, 0 => by
    rw [List.flatMap_cons, Nat.zero_mul, Nat.zero_add, List.getElem?_append_left (by rw [hk]; exact hj)]
    simp
  | a :: l, i + 1 => by
    rw [List.flatMap_cons, List.getElem?_append_right (by rw [hk, Nat.add_mul]; omega), hk, show (i + 1) * k + j - k = i * k + j by rw [Nat.add_mul]; omega, flat_get f k hk j hj l i]
    simp
/-- a call's cells -/
def cellsOf3 (c : Cll) : List Value := [.int .i64 c.1, .string c.2.1, .int .i64 c.2.2]
theorem arg_of_blk {w : World} {g : Nat} {l : List Cll} {n : Nat} (hB : Blk w g 31 (l.flatMap cellsOf3).toArray) (hn : l.length = n) (hmax : n ≤ 1000)
    (hf : ∀ c ∈ l, c.2.1.size ≤ 9223372036854775807 ∧ (-9223372036854775808 ≤ c.1 ∧ c.1 ≤ 9223372036854775807) ∧ (-9223372036854775808 ≤ c.2.2 ∧ c.2.2 ≤ 9223372036854775807)) : Arg w (.slice (some ⟨g, 0, none⟩) n n) l := by
  subst hn
  refine ⟨some ⟨g, 0, none⟩, l.length, rfl, by omega, fun i c hi => ⟨⟨g, 0, none⟩, g, i * 3, rfl, ?_, hB.lt, ?_, ?_, ?_, hf c (List.mem_of_getElem? hi)⟩⟩
  · unfold Addr.add; split <;> simp_all
  · have := flat_get cellsOf3 3 (fun _ => rfl) 0 (by omega) l i
    rw [hB.cell, List.getElem?_toArray]
    simpa [hi, cellsOf3] using this
  · have := flat_get cellsOf3 3 (fun _ => rfl) 1 (by omega) l i
    rw [hB.cell, List.getElem?_toArray]
    simpa [hi, cellsOf3] using this
  · have := flat_get cellsOf3 3 (fun _ => rfl) 2 (by omega) l i
    rw [hB.cell, List.getElem?_toArray]
    simpa [hi, cellsOf3] using this
theorem strOf_size (xs : List Int) : (strOfNums xs).size = xs.length := by
  unfold strOfNums
  simp [ByteArray.size]
theorem set_bytes (xs : List Int) (i : Nat) (v : Int) : ((xs.map (Value.int .u8)).toArray).setIfInBounds i (.int .u8 v) = ((xs.set i v).map (Value.int .u8)).toArray := by
  simp [List.map_set]
theorem made_bytes (k : Nat) : madeCells #[.int .u8 0] k = ((List.replicate k (0 : Int)).map (Value.int .u8)).toArray := by
  apply Array.ext_getElem?
  intro i
  by_cases h : i < k
  · simp [madeCells, List.getElem?_replicate, h, Nat.mod_one]
  · simp [madeCells, List.getElem?_replicate, h]
theorem rooms_get (i : Nat) (h : i < 10) : ∃ x : Int, (#[Value.int .i64 (-9223372036854775808), .int .i64 0, .int .i64 1, .int .i64 2, .int .i64 3, .int .i64 5, .int .i64 4095, .int .i64 4096, .int .i64 4097, .int .i64 9223372036854775807] : Array Value)[i]? = some (.int .i64 x) :=
  match i, h with
  | 0, _ => ⟨_, rfl⟩ | 1, _ => ⟨_, rfl⟩ | 2, _ => ⟨_, rfl⟩ | 3, _ => ⟨_, rfl⟩ | 4, _ => ⟨_, rfl⟩ | 5, _ => ⟨_, rfl⟩ | 6, _ => ⟨_, rfl⟩ | 7, _ => ⟨_, rfl⟩ | 8, _ => ⟨_, rfl⟩ | 9, _ => ⟨_, rfl⟩
theorem make_long (u : World) : (Instr.makeSlice 39 (.int .i64 5000) (.int .i64 5000)).run Try.prog u =
      .ok (.slice (some ⟨u.heap.size, 0, none⟩) 5000 5000) (u.alloc (.cells (madeCells #[.int .u8 0] 5000) 5)) := by
  obtain ⟨i0, hi, hz0, hz1, hz2⟩ := info_parts info5m
  have h := run_make (P := Try.prog) u 39 5 i0 (.int .u8 0) Try.underlying39 hi hz0 .i64 .i64 (5000 : Int) (5000 : Int) (by omega) (Int.le_refl _) (by rw [hz2]; omega) (by omega)
  simpa [hz1, Value.cells] using h
set_option maxRecDepth 100000 in
set_option maxHeartbeats 4000000 in
theorem known_any (w : World) : Calls Try.prog 6 #[] w (Ret (.bool true) (Below w.heap.size w)) := by
  have hmk := make_long
  obtain ⟨lg, hlg⟩ : ∃ lg, w.heap.size = lg := ⟨_, rfl⟩
  go_enter Try.func6, Try.ntmps6
  have F0 : Below w.heap.size w w := Below.refl _ _
  repeat (first | with_reducible apply wpList_nil | with_reducible apply seq_region | with_reducible apply wp_region_lit | ((with_reducible apply seq_q); (focus rfl); (focus (simp [go_sem, effAt, ↓IntWalk.iteOmega, *]; (try go_ints); (first | (with_reducible exact effUpon_val) | (with_reducible exact effUpon_skip)))); (focus ((simp only [Act.put, List.setIfInBounds_toArray, List.set_cons_zero, List.set_cons_succ]; rfl)))) | ((with_reducible apply seq_s); (focus rfl); (focus ((simp only [Act.put, List.setIfInBounds_toArray, List.set_cons_zero, List.set_cons_succ]; rfl)))) | with_reducible apply wp_seq | with_reducible apply wp_block | with_reducible apply wp_skip | with_reducible apply wp_exit | with_reducible apply wp_ret | ((with_reducible apply wp_cond_true); (focus (first | rfl | (simp [go_sem, *]; done)))) | ((with_reducible apply wp_cond_false); (focus (first | rfl | (simp [go_sem, *]; done)))) | (simp only [Exit.then, Exit.inBlock, ↓reduceIte, Nat.reduceEqDiff]))
  ((with_reducible apply seq_box); (focus rfl); (focus (simp [go_sem, effAt, hmk]; exact ⟨rfl, rfl⟩)); (focus ((simp only [Act.put, List.setIfInBounds_toArray, List.set_cons_zero, List.set_cons_succ]; rfl))))
  intro w1 hB_o hs
  have Fw1 := F0.trans (hs.mono F0.size)
  clear hs F0
  have hc_o := hB_o.cell
  clear hmk
  rw [made_bytes] at hB_o hc_o
  repeat (first | with_reducible apply wpList_nil | with_reducible apply seq_region | with_reducible apply wp_region_lit | ((with_reducible apply seq_q); (focus rfl); (focus (simp [go_sem, effAt, ↓IntWalk.iteOmega, *]; (try go_ints); (first | (with_reducible exact effUpon_val) | (with_reducible exact effUpon_skip)))); (focus ((simp only [Act.put, List.setIfInBounds_toArray, List.set_cons_zero, List.set_cons_succ]; rfl)))) | ((with_reducible apply seq_s); (focus rfl); (focus ((simp only [Act.put, List.setIfInBounds_toArray, List.set_cons_zero, List.set_cons_succ]; rfl)))) | with_reducible apply wp_seq | with_reducible apply wp_block | with_reducible apply wp_skip | with_reducible apply wp_exit | with_reducible apply wp_ret | ((with_reducible apply wp_cond_true); (focus (first | rfl | (simp [go_sem, *]; done)))) | ((with_reducible apply wp_cond_false); (focus (first | rfl | (simp [go_sem, *]; done)))) | (simp only [Exit.then, Exit.inBlock, ↓reduceIte, Nat.reduceEqDiff]))
  rw [hlg] at hB_o ⊢
  go_loopg [2] 5000 (fun q v2 wr => ∃ (i : Nat) (xs : List Int), v2 = .int .i64 (i : Int) ∧ i + q = 5000 ∧ xs.length = 5000 ∧ Blk wr lg 5 (xs.map (Value.int .u8)).toArray ∧ Below lg w wr)
  case atStart => exact ⟨0, _, rfl, by omega, by simp, hB_o, hlg ▸ Fw1⟩
  case round =>
    rename_i J K hJ hK
    clear hB_o hc_o Fw1
    obtain ⟨i, xs, rfl, hi, hlen, hB_o, hF⟩ := hrel
    by_cases hlt : i < 5000
    case pos =>
      have hlt' : (i : Int) < 5000 := by omega
      have hf_o := hB_o.frozen
      have hc_o := hB_o.cell
      have hin : i < (xs.map (Value.int .u8)).toArray.size := by simp; omega
      have hget : ∃ v, (xs.map (Value.int .u8)).toArray[i]? = some v := ⟨_, Array.getElem?_eq_getElem hin⟩
      obtain ⟨v, hv⟩ := hget
      repeat (first | with_reducible apply wpList_nil | with_reducible apply seq_region | with_reducible apply wp_region_lit | ((with_reducible apply seq_q); (focus rfl); (focus (simp [go_sem, effAt, ↓IntWalk.iteOmega, *]; (try go_ints); (first | (with_reducible exact effUpon_val) | (with_reducible exact effUpon_skip)))); (focus ((simp only [Act.put, List.setIfInBounds_toArray, List.set_cons_zero, List.set_cons_succ]; rfl)))) | ((with_reducible apply seq_s); (focus rfl); (focus ((simp only [Act.put, List.setIfInBounds_toArray, List.set_cons_zero, List.set_cons_succ]; rfl)))) | with_reducible apply wp_seq | with_reducible apply wp_block | with_reducible apply wp_skip | with_reducible apply wp_exit | with_reducible apply wp_ret | ((with_reducible apply wp_cond_true); (focus (first | rfl | (simp [go_sem, *]; done)))) | ((with_reducible apply wp_cond_false); (focus (first | rfl | (simp [go_sem, *]; done)))) | (simp only [Exit.then, Exit.inBlock, ↓reduceIte, Nat.reduceEqDiff]))
      with_reducible apply seq_e (fun w' => (∃ ys : List Int, ys.length = 5000 ∧ Blk w' lg 5 (ys.map (Value.int .u8)).toArray) ∧ wr.grownBy w' (some lg))
      focus rfl
      focus
        simp [go_sem, effAt, hc_o, hf_o, hv]
        refine ⟨rfl, ⟨xs.set i ((↑i * 13) % 256), by simpa using hlen, ?_⟩, grown_set (World.grownBy.refl _ _)⟩
        rw [← set_bytes]
        exact hB_o.set_ _ _
      (simp only [Act.put, List.setIfInBounds_toArray, List.set_cons_zero, List.set_cons_succ]; rfl)
      rintro w2 ⟨⟨ys, hy, hB2⟩, hg2⟩
      clear hc_o hf_o hv hin
      repeat (first | with_reducible apply wpList_nil | with_reducible apply seq_region | with_reducible apply wp_region_lit | ((with_reducible apply seq_q); (focus rfl); (focus (simp [go_sem, effAt, ↓IntWalk.iteOmega, *]; (try go_ints); (first | (with_reducible exact effUpon_val) | (with_reducible exact effUpon_skip)))); (focus ((simp only [Act.put, List.setIfInBounds_toArray, List.set_cons_zero, List.set_cons_succ]; rfl)))) | ((with_reducible apply seq_s); (focus rfl); (focus ((simp only [Act.put, List.setIfInBounds_toArray, List.set_cons_zero, List.set_cons_succ]; rfl)))) | with_reducible apply wp_seq | with_reducible apply wp_block | with_reducible apply wp_skip | with_reducible apply wp_exit | with_reducible apply wp_ret | ((with_reducible apply wp_cond_true); (focus (first | rfl | (simp [go_sem, *]; done)))) | ((with_reducible apply wp_cond_false); (focus (first | rfl | (simp [go_sem, *]; done)))) | (simp only [Exit.then, Exit.inBlock, ↓reduceIte, Nat.reduceEqDiff]))
      refine hK _ _ (Handed.intro (gk - 1) ?measure (hJ _ _ _ ?_))
      rotate_left
      (repeat apply Exists.intro)
      refine ⟨?rel, rfl⟩
      case rel => exact ⟨i + 1, ys, by go_num, by omega, hy, hB2, hF.grown hg2 (by rw [← hlg]; exact hF.size) (by intro j hj; injection hj with hj; omega)⟩
      case measure => omega
    case neg =>
      have hlt' : ¬ (i : Int) < 5000 := by omega
      clear hlt hi
      have Fwr : Below wr.heap.size wr wr := Below.refl _ _
      have hc_o := hB_o.cell
      repeat (first | with_reducible apply wpList_nil | with_reducible apply seq_region | with_reducible apply wp_region_lit | ((with_reducible apply seq_q); (focus rfl); (focus (simp [go_sem, effAt, ↓IntWalk.iteOmega, *]; (try go_ints); (first | (with_reducible exact effUpon_val) | (with_reducible exact effUpon_skip)))); (focus ((simp only [Act.put, List.setIfInBounds_toArray, List.set_cons_zero, List.set_cons_succ]; rfl)))) | ((with_reducible apply seq_s); (focus rfl); (focus ((simp only [Act.put, List.setIfInBounds_toArray, List.set_cons_zero, List.set_cons_succ]; rfl)))) | with_reducible apply wp_seq | with_reducible apply wp_block | with_reducible apply wp_skip | with_reducible apply wp_exit | with_reducible apply wp_ret | ((with_reducible apply wp_cond_true); (focus (first | rfl | (simp [go_sem, *]; done)))) | ((with_reducible apply wp_cond_false); (focus (first | rfl | (simp [go_sem, *]; done)))) | (simp only [Exit.then, Exit.inBlock, ↓reduceIte, Nat.reduceEqDiff]))
      have lt_o_r := hB_o.lt
      ((with_reducible apply seq_box); (focus rfl); (focus (simp [go_sem, effAt]; exact ⟨rfl, rfl⟩)); (focus ((simp only [Act.put, List.setIfInBounds_toArray, List.set_cons_zero, List.set_cons_succ]; rfl))))
      intro w2 hB_r hs
      have Fw2 := Fwr.trans (hs.mono Fwr.size)
      replace hB_o := hB_o.below hs hB_o.lt
      clear hs Fwr
      clear hc_o; have hc_o := hB_o.cell
      have hc_r := hB_r.cell
      obtain ⟨rg, hrg⟩ : ∃ rg, wr.heap.size = rg := ⟨_, rfl⟩
      rw [hrg] at hB_r hc_r
      repeat (first | with_reducible apply wpList_nil | with_reducible apply seq_region | with_reducible apply wp_region_lit | ((with_reducible apply seq_q); (focus rfl); (focus (simp [go_sem, effAt, ↓IntWalk.iteOmega, *]; (try go_ints); (first | (with_reducible exact effUpon_val) | (with_reducible exact effUpon_skip)))); (focus ((simp only [Act.put, List.setIfInBounds_toArray, List.set_cons_zero, List.set_cons_succ]; rfl)))) | ((with_reducible apply seq_s); (focus rfl); (focus ((simp only [Act.put, List.setIfInBounds_toArray, List.set_cons_zero, List.set_cons_succ]; rfl)))) | with_reducible apply wp_seq | with_reducible apply wp_block | with_reducible apply wp_skip | with_reducible apply wp_exit | with_reducible apply wp_ret | ((with_reducible apply wp_cond_true); (focus (first | rfl | (simp [go_sem, *]; done)))) | ((with_reducible apply wp_cond_false); (focus (first | rfl | (simp [go_sem, *]; done)))) | (simp only [Exit.then, Exit.inBlock, ↓reduceIte, Nat.reduceEqDiff]))
      rw [hrg]
      have hrl : lg < rg := by have := lt_o_r; omega
      have hroom := rooms_get
      generalize (#[Value.int .i64 (-9223372036854775808), .int .i64 0, .int .i64 1, .int .i64 2, .int .i64 3, .int .i64 5, .int .i64 4095, .int .i64 4096, .int .i64 4097, .int .i64 9223372036854775807] : Array Value) = cs at hB_r hroom
      have hF2 := hF.trans (Fw2.mono (by rw [← hlg]; exact hF.size))
      have HR := Lib.hid hroom
      clear hroom hc_r hc_o hrg lt_o_r Fw2 hF
      go_loopg [22] 10 (fun q v22 wr => ∃ i : Nat, v22 = .int .i64 (i : Int) ∧ i + q = 10 ∧ Blk wr lg 5 (xs.map (Value.int .u8)).toArray ∧ Blk wr rg 3 cs ∧ Below lg w wr)
      case atStart => exact ⟨0, rfl, by omega, hB_o, hB_r, hF2⟩
      case round =>
        rename_i J K hJ hK
        clear hB_o hB_r hF2
        obtain ⟨i, rfl, hi, hB_o, hB_r, hF⟩ := hrel
        by_cases hlt : i < 10
        case neg =>
          have hlt' : ¬ (i : Int) < 10 := by omega
          have Fwr : Below wr.heap.size wr wr := Below.refl _ _
          repeat (first | with_reducible apply wpList_nil | with_reducible apply seq_region | with_reducible apply wp_region_lit | ((with_reducible apply seq_q); (focus rfl); (focus (simp [go_sem, effAt, ↓IntWalk.iteOmega, *]; (try go_ints); (first | (with_reducible exact effUpon_val) | (with_reducible exact effUpon_skip)))); (focus ((simp only [Act.put, List.setIfInBounds_toArray, List.set_cons_zero, List.set_cons_succ]; rfl)))) | ((with_reducible apply seq_s); (focus rfl); (focus ((simp only [Act.put, List.setIfInBounds_toArray, List.set_cons_zero, List.set_cons_succ]; rfl)))) | with_reducible apply wp_seq | with_reducible apply wp_block | with_reducible apply wp_skip | with_reducible apply wp_exit | with_reducible apply wp_ret | ((with_reducible apply wp_cond_true); (focus (first | rfl | (simp [go_sem, *]; done)))) | ((with_reducible apply wp_cond_false); (focus (first | rfl | (simp [go_sem, *]; done)))) | (simp only [Exit.then, Exit.inBlock, ↓reduceIte, Nat.reduceEqDiff]))
          ((with_reducible apply seq_e (Below wr.heap.size wr)); (focus rfl); (focus (simp only [effAt]; simp [go_sem]; (with_reducible exact effUpon_enter (works_any _)))); (focus ((simp only [Act.put, List.setIfInBounds_toArray, List.set_cons_zero, List.set_cons_succ]; rfl))))
          intro w3 hs
          have Fw3 := Fwr.trans (hs.mono Fwr.size)
          clear hs Fwr
          repeat (first | with_reducible apply wpList_nil | with_reducible apply seq_region | with_reducible apply wp_region_lit | ((with_reducible apply seq_q); (focus rfl); (focus (simp [go_sem, effAt, ↓IntWalk.iteOmega, *]; (try go_ints); (first | (with_reducible exact effUpon_val) | (with_reducible exact effUpon_skip)))); (focus ((simp only [Act.put, List.setIfInBounds_toArray, List.set_cons_zero, List.set_cons_succ]; rfl)))) | ((with_reducible apply seq_s); (focus rfl); (focus ((simp only [Act.put, List.setIfInBounds_toArray, List.set_cons_zero, List.set_cons_succ]; rfl)))) | with_reducible apply wp_seq | with_reducible apply wp_block | with_reducible apply wp_skip | with_reducible apply wp_exit | with_reducible apply wp_ret | ((with_reducible apply wp_cond_true); (focus (first | rfl | (simp [go_sem, *]; done)))) | ((with_reducible apply wp_cond_false); (focus (first | rfl | (simp [go_sem, *]; done)))) | (simp only [Exit.then, Exit.inBlock, ↓reduceIte, Nat.reduceEqDiff]))
          go_ret
          exact ⟨rfl, hF.trans (Below.mono (by assumption) (by rw [← hlg]; exact hF.size))⟩
        case pos =>
          have hlt' : (i : Int) < 10 := by omega
          obtain ⟨x, hx⟩ := HR.out i hlt
          have hc_r := hB_r.cell
          repeat (first | with_reducible apply wpList_nil | with_reducible apply seq_region | with_reducible apply wp_region_lit | ((with_reducible apply seq_q); (focus rfl); (focus (simp [go_sem, effAt, ↓IntWalk.iteOmega, *]; (try go_ints); (first | (with_reducible exact effUpon_val) | (with_reducible exact effUpon_skip)))); (focus ((simp only [Act.put, List.setIfInBounds_toArray, List.set_cons_zero, List.set_cons_succ]; rfl)))) | ((with_reducible apply seq_s); (focus rfl); (focus ((simp only [Act.put, List.setIfInBounds_toArray, List.set_cons_zero, List.set_cons_succ]; rfl)))) | with_reducible apply wp_seq | with_reducible apply wp_block | with_reducible apply wp_skip | with_reducible apply wp_exit | with_reducible apply wp_ret | ((with_reducible apply wp_cond_true); (focus (first | rfl | (simp [go_sem, *]; done)))) | ((with_reducible apply wp_cond_false); (focus (first | rfl | (simp [go_sem, *]; done)))) | (simp only [Exit.then, Exit.inBlock, ↓reduceIte, Nat.reduceEqDiff]))
          clear hc_r hx
          go_loopg [5] 9 (fun q v5 wr => ∃ m : Int, v5 = .int .i64 m ∧ m + q = 8 ∧ -1 ≤ m ∧ Blk wr lg 5 (xs.map (Value.int .u8)).toArray ∧ Blk wr rg 3 cs ∧ Below lg w wr)
          case atStart => exact ⟨-1, rfl, by omega, by omega, hB_o, hB_r, hF⟩
          case round =>
            rename_i J2 K2 hJ2 hK2
            clear hB_o hB_r hF
            obtain ⟨m, rfl, hm, hm1, hB_o, hB_r, hF⟩ := hrel
            by_cases hlt2 : m < 8
            case neg =>
              repeat (first | with_reducible apply wpList_nil | with_reducible apply seq_region | with_reducible apply wp_region_lit | ((with_reducible apply seq_q); (focus rfl); (focus (simp [go_sem, effAt, ↓IntWalk.iteOmega, *]; (try go_ints); (first | (with_reducible exact effUpon_val) | (with_reducible exact effUpon_skip)))); (focus ((simp only [Act.put, List.setIfInBounds_toArray, List.set_cons_zero, List.set_cons_succ]; rfl)))) | ((with_reducible apply seq_s); (focus rfl); (focus ((simp only [Act.put, List.setIfInBounds_toArray, List.set_cons_zero, List.set_cons_succ]; rfl)))) | with_reducible apply wp_seq | with_reducible apply wp_block | with_reducible apply wp_skip | with_reducible apply wp_exit | with_reducible apply wp_ret | ((with_reducible apply wp_cond_true); (focus (first | rfl | (simp [go_sem, *]; done)))) | ((with_reducible apply wp_cond_false); (focus (first | rfl | (simp [go_sem, *]; done)))) | (simp only [Exit.then, Exit.inBlock, ↓reduceIte, Nat.reduceEqDiff]))
              refine hK _ _ (Handed.intro (9 - i) ?measure (hJ _ _ _ ?_))
              rotate_left
              (repeat apply Exists.intro)
              refine ⟨?rel, rfl⟩
              case rel => exact ⟨i + 1, by go_num, by omega, hB_o, hB_r, hF⟩
              case measure => omega
            case pos =>
              have hst := run_string_of_blk (P := Try.prog) (src := 39) (dst := 9) (n := 5000) hB_o 5000 Try.underlying39 Try.underlying5 Try.underlying9 hlen
              have hsz := strOf_size xs
              generalize strOfNums xs = str at hst hsz
              have Fwr : Below wr.heap.size wr wr := Below.refl _ _
              have hc_o := hB_o.cell
              have hc_r := hB_r.cell
              repeat (first | with_reducible apply wpList_nil | with_reducible apply seq_region | with_reducible apply wp_region_lit | ((with_reducible apply seq_q); (focus rfl); (focus (simp [go_sem, effAt, ↓IntWalk.iteOmega, *]; (try go_ints); (first | (with_reducible exact effUpon_val) | (with_reducible exact effUpon_skip)))); (focus ((simp only [Act.put, List.setIfInBounds_toArray, List.set_cons_zero, List.set_cons_succ]; rfl)))) | ((with_reducible apply seq_s); (focus rfl); (focus ((simp only [Act.put, List.setIfInBounds_toArray, List.set_cons_zero, List.set_cons_succ]; rfl)))) | with_reducible apply wp_seq | with_reducible apply wp_block | with_reducible apply wp_skip | with_reducible apply wp_exit | with_reducible apply wp_ret | ((with_reducible apply wp_cond_true); (focus (first | rfl | (simp [go_sem, *]; done)))) | ((with_reducible apply wp_cond_false); (focus (first | rfl | (simp [go_sem, *]; done)))) | (simp only [Exit.then, Exit.inBlock, ↓reduceIte, Nat.reduceEqDiff]))
              have lt_o_l := hB_o.lt
              have lt_r_l := hB_r.lt
              ((with_reducible apply seq_box); (focus rfl); (focus (simp [go_sem, effAt]; exact ⟨rfl, rfl⟩)); (focus ((simp only [Act.put, List.setIfInBounds_toArray, List.set_cons_zero, List.set_cons_succ]; rfl))))
              intro w4 hB_l hs
              have Fw4 := Fwr.trans (hs.mono Fwr.size)
              replace hB_o := hB_o.below hs hB_o.lt
              replace hB_r := hB_r.below hs hB_r.lt
              clear hs Fwr
              clear hc_o; have hc_o := hB_o.cell
              clear hc_r; have hc_r := hB_r.cell
              have hc_l := hB_l.cell
              have hArg := arg_of_blk (l := [(0, ⟨#[97, 98, 99]⟩, 0), (2, ⟨#[]⟩, m), (0, ⟨#[100, 101, 102, 103]⟩, 0), (4, ⟨#[]⟩, m), (2, ⟨#[]⟩, 1), (0, str, 0), (3, ⟨#[]⟩, m * 700), (0, ⟨#[120, 121, 122]⟩, 0), (5, ⟨#[]⟩, m), (0, str, 0), (2, ⟨#[]⟩, 9223372036854775807), (2, ⟨#[]⟩, -9223372036854775808)]) (n := 12) hB_l rfl (by omega) (by
                have z0 : (⟨#[]⟩ : ByteArray).size = 0 := rfl
                have z1 : (⟨#[97, 98, 99]⟩ : ByteArray).size = 3 := rfl
                have z2 : (⟨#[100, 101, 102, 103]⟩ : ByteArray).size = 4 := rfl
                have z3 : (⟨#[120, 121, 122]⟩ : ByteArray).size = 3 := rfl
                simp [z0, z1, z2, z3]; omega)
              clear hst
              have hF4 := hF.trans (Fw4.mono (by have := hF.size; omega))
              clear hc_l hc_o hc_r lt_o_l lt_r_l hsz hF hB_l Fw4
              have hPl := plays_any x _ _ _ hArg
              have hOr := fun w' hb => order_any x _ _ w' (Arg.below hArg hb)
              have hNo := none_any ⟨#[97]⟩ m (by decide)
              clear hArg
              have Fw4 : Below w4.heap.size w4 w4 := Below.refl _ _
              have hc_o := hB_o.cell
              have hc_r := hB_r.cell
              repeat (first | with_reducible apply wpList_nil | with_reducible apply seq_region | with_reducible apply wp_region_lit | ((with_reducible apply seq_q); (focus rfl); (focus (simp [go_sem, effAt, ↓IntWalk.iteOmega, *]; (try go_ints); (first | (with_reducible exact effUpon_val) | (with_reducible exact effUpon_skip)))); (focus ((simp only [Act.put, List.setIfInBounds_toArray, List.set_cons_zero, List.set_cons_succ]; rfl)))) | ((with_reducible apply seq_s); (focus rfl); (focus ((simp only [Act.put, List.setIfInBounds_toArray, List.set_cons_zero, List.set_cons_succ]; rfl)))) | with_reducible apply wp_seq | with_reducible apply wp_block | with_reducible apply wp_skip | with_reducible apply wp_exit | with_reducible apply wp_ret | ((with_reducible apply wp_cond_true); (focus (first | rfl | (simp [go_sem, *]; done)))) | ((with_reducible apply wp_cond_false); (focus (first | rfl | (simp [go_sem, *]; done)))) | (simp only [Exit.then, Exit.inBlock, ↓reduceIte, Nat.reduceEqDiff]))
              ((with_reducible apply seq_e (Below w4.heap.size w4)); (focus rfl); (focus (simp only [effAt]; simp [go_sem]; (with_reducible exact effUpon_enter (hPl)))); (focus ((simp only [Act.put, List.setIfInBounds_toArray, List.set_cons_zero, List.set_cons_succ]; rfl))))
              intro w5 hs
              have Fw5 := Fw4.trans (hs.mono Fw4.size)
              replace hB_o := hB_o.below hs hB_o.lt
              replace hB_r := hB_r.below hs hB_r.lt
              clear hs Fw4
              clear hc_o; have hc_o := hB_o.cell
              clear hc_r; have hc_r := hB_r.cell
              clear hPl
              repeat (first | with_reducible apply wpList_nil | with_reducible apply seq_region | with_reducible apply wp_region_lit | ((with_reducible apply seq_q); (focus rfl); (focus (simp [go_sem, effAt, ↓IntWalk.iteOmega, *]; (try go_ints); (first | (with_reducible exact effUpon_val) | (with_reducible exact effUpon_skip)))); (focus ((simp only [Act.put, List.setIfInBounds_toArray, List.set_cons_zero, List.set_cons_succ]; rfl)))) | ((with_reducible apply seq_s); (focus rfl); (focus ((simp only [Act.put, List.setIfInBounds_toArray, List.set_cons_zero, List.set_cons_succ]; rfl)))) | with_reducible apply wp_seq | with_reducible apply wp_block | with_reducible apply wp_skip | with_reducible apply wp_exit | with_reducible apply wp_ret | ((with_reducible apply wp_cond_true); (focus (first | rfl | (simp [go_sem, *]; done)))) | ((with_reducible apply wp_cond_false); (focus (first | rfl | (simp [go_sem, *]; done)))) | (simp only [Exit.then, Exit.inBlock, ↓reduceIte, Nat.reduceEqDiff]))
              ((with_reducible apply seq_e (Below w5.heap.size w5)); (focus rfl); (focus (simp only [effAt]; simp [go_sem]; (with_reducible exact effUpon_enter (hOr _ Fw5)))); (focus ((simp only [Act.put, List.setIfInBounds_toArray, List.set_cons_zero, List.set_cons_succ]; rfl))))
              intro w6 hs
              have Fw6 := Fw5.trans (hs.mono Fw5.size)
              replace hB_o := hB_o.below hs hB_o.lt
              replace hB_r := hB_r.below hs hB_r.lt
              clear hs Fw5
              clear hc_o; have hc_o := hB_o.cell
              clear hc_r; have hc_r := hB_r.cell
              clear hOr
              repeat (first | with_reducible apply wpList_nil | with_reducible apply seq_region | with_reducible apply wp_region_lit | ((with_reducible apply seq_q); (focus rfl); (focus (simp [go_sem, effAt, ↓IntWalk.iteOmega, *]; (try go_ints); (first | (with_reducible exact effUpon_val) | (with_reducible exact effUpon_skip)))); (focus ((simp only [Act.put, List.setIfInBounds_toArray, List.set_cons_zero, List.set_cons_succ]; rfl)))) | ((with_reducible apply seq_s); (focus rfl); (focus ((simp only [Act.put, List.setIfInBounds_toArray, List.set_cons_zero, List.set_cons_succ]; rfl)))) | with_reducible apply wp_seq | with_reducible apply wp_block | with_reducible apply wp_skip | with_reducible apply wp_exit | with_reducible apply wp_ret | ((with_reducible apply wp_cond_true); (focus (first | rfl | (simp [go_sem, *]; done)))) | ((with_reducible apply wp_cond_false); (focus (first | rfl | (simp [go_sem, *]; done)))) | (simp only [Exit.then, Exit.inBlock, ↓reduceIte, Nat.reduceEqDiff]))
              ((with_reducible apply seq_e (Below w6.heap.size w6)); (focus rfl); (focus (simp only [effAt]; simp [go_sem]; (with_reducible exact effUpon_enter (hNo _)))); (focus ((simp only [Act.put, List.setIfInBounds_toArray, List.set_cons_zero, List.set_cons_succ]; rfl))))
              intro w7 hs
              have Fw7 := Fw6.trans (hs.mono Fw6.size)
              replace hB_o := hB_o.below hs hB_o.lt
              replace hB_r := hB_r.below hs hB_r.lt
              clear hs Fw6
              clear hc_o; have hc_o := hB_o.cell
              clear hc_r; have hc_r := hB_r.cell
              clear hNo
              repeat (first | with_reducible apply wpList_nil | with_reducible apply seq_region | with_reducible apply wp_region_lit | ((with_reducible apply seq_q); (focus rfl); (focus (simp [go_sem, effAt, ↓IntWalk.iteOmega, *]; (try go_ints); (first | (with_reducible exact effUpon_val) | (with_reducible exact effUpon_skip)))); (focus ((simp only [Act.put, List.setIfInBounds_toArray, List.set_cons_zero, List.set_cons_succ]; rfl)))) | ((with_reducible apply seq_s); (focus rfl); (focus ((simp only [Act.put, List.setIfInBounds_toArray, List.set_cons_zero, List.set_cons_succ]; rfl)))) | with_reducible apply wp_seq | with_reducible apply wp_block | with_reducible apply wp_skip | with_reducible apply wp_exit | with_reducible apply wp_ret | ((with_reducible apply wp_cond_true); (focus (first | rfl | (simp [go_sem, *]; done)))) | ((with_reducible apply wp_cond_false); (focus (first | rfl | (simp [go_sem, *]; done)))) | (simp only [Exit.then, Exit.inBlock, ↓reduceIte, Nat.reduceEqDiff]))
              refine hK2 _ _ (Handed.intro (gk - 1) ?measure (hJ2 _ _ _ ?_))
              rotate_left
              (repeat apply Exists.intro)
              refine ⟨?rel, rfl⟩
              case rel => exact ⟨m + 1, by go_num, by omega, by omega, hB_o, hB_r, hF4.trans (Below.mono (by assumption) (by have := hF4.size; omega))⟩
              case measure => omega
