/- The walk of BufferKeeps. -/
import Derived.Test.YtmkolifnpnaepaaA12
set_option linter.unusedSimpArgs false
set_option linter.unusedVariables false
namespace Go.Proofs.Ytmkolifnpnaepaa
open Go.RowKit Go.Eff
/-- what is known between the calls: the buffer holds t -/
def One (w0 : World) (g r m : Nat) (t : ByteArray) (w : World) : Prop := Buf w g r m t ∧ Below w0.heap.size w0 w
section
variable {v : Value} {w0 w1 : World} {g r m : Nat} {t t' : ByteArray} {f : FuncId} {args : Array Value}
theorem One.b (h : One w0 g r m t w1) : Buf w1 g r m t := h.1
theorem One.o (h : One w0 g r m t w1) : Below w0.heap.size w0 w1 := h.2
theorem one_b (hw : One w0 g r m t w1) (h0 : w0.heap.size ≤ g) (hc : Calls Try.prog f args w1 (Ret v fun w' => Buf w' g r m t' ∧ w1.grownBy w' (some g))) : Calls Try.prog f args w1 (Ret v (One w0 g r m t')) :=
  own_step (Nat.le_refl _) hw.2 h0 rfl hc
theorem one_read (hw : One w0 g r m t w1) (hc : Calls Try.prog f args w1 (Ret v (Below w1.heap.size w1))) : Calls Try.prog f args w1 (Ret v (One w0 g r m t)) :=
  own_read (Nat.le_refl _) hw.2 hw.1 hc
end
theorem app_size (a b : ByteArray) : (a ++ b).size = a.size + b.size := by simp
theorem app_cut (t : ByteArray) (k : Nat) : t.extract 0 k ++ t.extract k t.size = t := by
  apply ByteArray.ext
  rw [ByteArray.data_append, ByteArray.data_extract, ByteArray.data_extract]
  apply Array.toList_inj.1
  rw [Array.toList_append, Array.toList_extract, Array.toList_extract, List.extract, List.extract]
  simp only [Nat.sub_zero, List.drop_zero]
  rw [List.take_of_length_le (l := t.data.toList.drop k) (by rw [List.length_drop, data_len]; omega)]
  exact List.take_append_drop k _
theorem app_head (a b : ByteArray) : (a ++ b).extract 0 a.size = a := by
  apply ByteArray.ext
  rw [ByteArray.data_extract, ByteArray.data_append]
  apply Array.toList_inj.1
  rw [Array.toList_extract, List.extract, Array.toList_append, List.drop_zero, Nat.sub_zero]
  exact List.take_left' (data_len a)
theorem cut_all (t : ByteArray) : t.extract 0 t.size = t := by
  have := app_cut t t.size
  apply ByteArray.ext
  rw [ByteArray.data_extract]
  apply Array.toList_inj.1
  rw [Array.toList_extract, List.extract, List.drop_zero, Nat.sub_zero]
  exact List.take_of_length_le (by rw [data_len]; omega)
theorem cut_none (t : ByteArray) : t.extract t.size t.size = ⟨#[]⟩ := by
  apply ByteArray.ext
  rw [ByteArray.data_extract]
  apply Array.toList_inj.1
  rw [Array.toList_extract, List.extract, Nat.sub_self, List.take_zero]
theorem get_all (g r m : Nat) (t : ByteArray) (w : World) (hB : Buf w g r m t) : Calls Try.prog 11 #[.pointer (some ⟨g, 0, none⟩), .int .i64 (r : Int)] w (Ret (.string t) fun w' => Buf w' g r m ⟨#[]⟩ ∧ w.grownBy w' (some g)) := by
  have hr := hB.room
  have := get_buf g r m t r t.size w hB (by omega)
  rw [cut_all, cut_none] at this
  exact this
theorem len_none (g r m : Nat) (w : World) (hB : Buf w g r m ⟨#[]⟩) : Calls Try.prog 17 #[.pointer (some ⟨g, 0, none⟩)] w (Ret (.int .i64 0) (Below w.heap.size w)) := len_buf g r m ⟨#[]⟩ w hB
theorem one_new {r m g : Nat} (w : World) (h : NewP r m) (hg : w.heap.size = g) : Calls Try.prog 9 #[.int .i64 (r : Int), .int .i64 (m : Int)] w (Ret (.pointer (some ⟨g, 0, none⟩)) (One w g r m ⟨#[]⟩)) := by
  subst hg
  exact Buf.new w h
set_option maxRecDepth 100000 in
set_option maxHeartbeats 2000000 in
theorem keeps_any (room : Int) (v : Value) (l : List Cll) (w : World) (hr0 : 0 ≤ room ∧ room ≤ 65535) (h : Arg w v l) : Calls Try.prog 4 #[.int .u16 room, v] w (Ret (.bool true) (Below w.heap.size w)) := by
  obtain ⟨r, hr⟩ : ∃ r : Nat, 1 + room % 4096 = (r : Int) := ⟨(1 + room % 4096).toNat, by omega⟩
  have hr1 : 1 ≤ r ∧ r ≤ 4096 := by omega
  obtain ⟨m, hm⟩ : ∃ m : Nat, Int.tdiv (r : Int) 3 = (m : Int) := ⟨r / 3, by simp⟩
  have hm1 : m ≤ r := by
    have h3 : ((r / 3 : Nat) : Int) = Int.tdiv (r : Int) 3 := Int.ofNat_tdiv r 3
    omega
  have hn : NewP (r : Int) (m : Int) := ⟨by omega, by omega, by omega, by omega⟩
  have htm : Int.tmod room 4096 = room % 4096 := Int.tmod_eq_emod_of_nonneg hr0.1
  have hrb : 0 ≤ room % 4096 ∧ room % 4096 < 4096 := by omega
  obtain ⟨g, hg⟩ : ∃ g, w.heap.size = g := ⟨_, rfl⟩
  have g0 : w.heap.size ≤ g := by omega
  by_cases hf : FewP l
  case neg =>
    go_enter Try.func4, Try.ntmps4
    have F0 : Below w.heap.size w w := Below.refl _ _
    repeat (first | with_reducible apply wpList_nil | with_reducible apply seq_region | with_reducible apply wp_region_lit | ((with_reducible apply seq_q); (focus rfl); (focus (simp [go_sem, effAt, ↓IntWalk.iteOmega, *]; (try go_ints); (first | (with_reducible exact effUpon_val) | (with_reducible exact effUpon_skip)))); (focus ((simp only [Act.put, List.setIfInBounds_toArray, List.set_cons_zero, List.set_cons_succ]; rfl)))) | ((with_reducible apply seq_s); (focus rfl); (focus ((simp only [Act.put, List.setIfInBounds_toArray, List.set_cons_zero, List.set_cons_succ]; rfl)))) | with_reducible apply wp_seq | with_reducible apply wp_block | with_reducible apply wp_skip | with_reducible apply wp_exit | with_reducible apply wp_ret | ((with_reducible apply wp_cond_true); (focus (first | rfl | (simp [go_sem, *]; done)))) | ((with_reducible apply wp_cond_false); (focus (first | rfl | (simp [go_sem, *]; done)))) | (simp only [Exit.then, Exit.inBlock, ↓reduceIte, Nat.reduceEqDiff]))
    with_reducible apply seq_e (One w g r m ⟨#[]⟩)
    focus rfl
    focus (simp only [effAt]; simp [go_sem]; (with_reducible exact effUpon_enter (one_new w hn hg)))
    (simp only [Act.put, List.setIfInBounds_toArray, List.set_cons_zero, List.set_cons_succ]; rfl)
    rintro x1 hO1
    clear F0
    repeat (first | with_reducible apply wpList_nil | with_reducible apply seq_region | with_reducible apply wp_region_lit | ((with_reducible apply seq_q); (focus rfl); (focus (simp [go_sem, effAt, ↓IntWalk.iteOmega, *]; (try go_ints); (first | (with_reducible exact effUpon_val) | (with_reducible exact effUpon_skip)))); (focus ((simp only [Act.put, List.setIfInBounds_toArray, List.set_cons_zero, List.set_cons_succ]; rfl)))) | ((with_reducible apply seq_s); (focus rfl); (focus ((simp only [Act.put, List.setIfInBounds_toArray, List.set_cons_zero, List.set_cons_succ]; rfl)))) | with_reducible apply wp_seq | with_reducible apply wp_block | with_reducible apply wp_skip | with_reducible apply wp_exit | with_reducible apply wp_ret | ((with_reducible apply wp_cond_true); (focus (first | rfl | (simp [go_sem, *]; done)))) | ((with_reducible apply wp_cond_false); (focus (first | rfl | (simp [go_sem, *]; done)))) | (simp only [Exit.then, Exit.inBlock, ↓reduceIte, Nat.reduceEqDiff]))
    with_reducible apply seq_e (One w g r m ⟨#[]⟩)
    focus rfl
    focus (simp only [effAt]; simp [go_sem]; (with_reducible exact effUpon_enter (one_read hO1 (few_no v l _ (h.below hO1.o) hf))))
    (simp only [Act.put, List.setIfInBounds_toArray, List.set_cons_zero, List.set_cons_succ]; rfl)
    rintro x2 hO2
    clear hO1
    repeat (first | with_reducible apply wpList_nil | with_reducible apply seq_region | with_reducible apply wp_region_lit | ((with_reducible apply seq_q); (focus rfl); (focus (simp [go_sem, effAt, ↓IntWalk.iteOmega, *]; (try go_ints); (first | (with_reducible exact effUpon_val) | (with_reducible exact effUpon_skip)))); (focus ((simp only [Act.put, List.setIfInBounds_toArray, List.set_cons_zero, List.set_cons_succ]; rfl)))) | ((with_reducible apply seq_s); (focus rfl); (focus ((simp only [Act.put, List.setIfInBounds_toArray, List.set_cons_zero, List.set_cons_succ]; rfl)))) | with_reducible apply wp_seq | with_reducible apply wp_block | with_reducible apply wp_skip | with_reducible apply wp_exit | with_reducible apply wp_ret | ((with_reducible apply wp_cond_true); (focus (first | rfl | (simp [go_sem, *]; done)))) | ((with_reducible apply wp_cond_false); (focus (first | rfl | (simp [go_sem, *]; done)))) | (simp only [Exit.then, Exit.inBlock, ↓reduceIte, Nat.reduceEqDiff]))
    with_reducible apply seq_e (One w g r m ⟨#[]⟩)
    focus rfl
    focus (simp only [effAt]; simp [go_sem]; (with_reducible exact effUpon_enter (one_read hO2 (works_any _))))
    (simp only [Act.put, List.setIfInBounds_toArray, List.set_cons_zero, List.set_cons_succ]; rfl)
    rintro x3 hO3
    clear hO2
    repeat (first | with_reducible apply wpList_nil | with_reducible apply seq_region | with_reducible apply wp_region_lit | ((with_reducible apply seq_q); (focus rfl); (focus (simp [go_sem, effAt, ↓IntWalk.iteOmega, *]; (try go_ints); (first | (with_reducible exact effUpon_val) | (with_reducible exact effUpon_skip)))); (focus ((simp only [Act.put, List.setIfInBounds_toArray, List.set_cons_zero, List.set_cons_succ]; rfl)))) | ((with_reducible apply seq_s); (focus rfl); (focus ((simp only [Act.put, List.setIfInBounds_toArray, List.set_cons_zero, List.set_cons_succ]; rfl)))) | with_reducible apply wp_seq | with_reducible apply wp_block | with_reducible apply wp_skip | with_reducible apply wp_exit | with_reducible apply wp_ret | ((with_reducible apply wp_cond_true); (focus (first | rfl | (simp [go_sem, *]; done)))) | ((with_reducible apply wp_cond_false); (focus (first | rfl | (simp [go_sem, *]; done)))) | (simp only [Exit.then, Exit.inBlock, ↓reduceIte, Nat.reduceEqDiff]))
    go_ret
    exact ⟨rfl, hO3.o⟩
  go_enter Try.func4, Try.ntmps4
  have F0 : Below w.heap.size w w := Below.refl _ _
  repeat (first | with_reducible apply wpList_nil | with_reducible apply seq_region | with_reducible apply wp_region_lit | ((with_reducible apply seq_q); (focus rfl); (focus (simp [go_sem, effAt, ↓IntWalk.iteOmega, *]; (try go_ints); (first | (with_reducible exact effUpon_val) | (with_reducible exact effUpon_skip)))); (focus ((simp only [Act.put, List.setIfInBounds_toArray, List.set_cons_zero, List.set_cons_succ]; rfl)))) | ((with_reducible apply seq_s); (focus rfl); (focus ((simp only [Act.put, List.setIfInBounds_toArray, List.set_cons_zero, List.set_cons_succ]; rfl)))) | with_reducible apply wp_seq | with_reducible apply wp_block | with_reducible apply wp_skip | with_reducible apply wp_exit | with_reducible apply wp_ret | ((with_reducible apply wp_cond_true); (focus (first | rfl | (simp [go_sem, *]; done)))) | ((with_reducible apply wp_cond_false); (focus (first | rfl | (simp [go_sem, *]; done)))) | (simp only [Exit.then, Exit.inBlock, ↓reduceIte, Nat.reduceEqDiff]))
  with_reducible apply seq_e (One w g r m ⟨#[]⟩)
  focus rfl
  focus (simp only [effAt]; simp [go_sem]; (with_reducible exact effUpon_enter (one_new w hn hg)))
  (simp only [Act.put, List.setIfInBounds_toArray, List.set_cons_zero, List.set_cons_succ]; rfl)
  rintro x4 hO4
  clear F0
  repeat (first | with_reducible apply wpList_nil | with_reducible apply seq_region | with_reducible apply wp_region_lit | ((with_reducible apply seq_q); (focus rfl); (focus (simp [go_sem, effAt, ↓IntWalk.iteOmega, *]; (try go_ints); (first | (with_reducible exact effUpon_val) | (with_reducible exact effUpon_skip)))); (focus ((simp only [Act.put, List.setIfInBounds_toArray, List.set_cons_zero, List.set_cons_succ]; rfl)))) | ((with_reducible apply seq_s); (focus rfl); (focus ((simp only [Act.put, List.setIfInBounds_toArray, List.set_cons_zero, List.set_cons_succ]; rfl)))) | with_reducible apply wp_seq | with_reducible apply wp_block | with_reducible apply wp_skip | with_reducible apply wp_exit | with_reducible apply wp_ret | ((with_reducible apply wp_cond_true); (focus (first | rfl | (simp [go_sem, *]; done)))) | ((with_reducible apply wp_cond_false); (focus (first | rfl | (simp [go_sem, *]; done)))) | (simp only [Exit.then, Exit.inBlock, ↓reduceIte, Nat.reduceEqDiff]))
  with_reducible apply seq_e (One w g r m ⟨#[]⟩)
  focus rfl
  focus (simp only [effAt]; simp [go_sem]; (with_reducible exact effUpon_enter (one_read hO4 (few_yes v l _ (h.below hO4.o) hf))))
  (simp only [Act.put, List.setIfInBounds_toArray, List.set_cons_zero, List.set_cons_succ]; rfl)
  rintro x5 hO5
  clear hO4
  repeat (first | with_reducible apply wpList_nil | with_reducible apply seq_region | with_reducible apply wp_region_lit | ((with_reducible apply seq_q); (focus rfl); (focus (simp [go_sem, effAt, ↓IntWalk.iteOmega, *]; (try go_ints); (first | (with_reducible exact effUpon_val) | (with_reducible exact effUpon_skip)))); (focus ((simp only [Act.put, List.setIfInBounds_toArray, List.set_cons_zero, List.set_cons_succ]; rfl)))) | ((with_reducible apply seq_s); (focus rfl); (focus ((simp only [Act.put, List.setIfInBounds_toArray, List.set_cons_zero, List.set_cons_succ]; rfl)))) | with_reducible apply wp_seq | with_reducible apply wp_block | with_reducible apply wp_skip | with_reducible apply wp_exit | with_reducible apply wp_ret | ((with_reducible apply wp_cond_true); (focus (first | rfl | (simp [go_sem, *]; done)))) | ((with_reducible apply wp_cond_false); (focus (first | rfl | (simp [go_sem, *]; done)))) | (simp only [Exit.then, Exit.inBlock, ↓reduceIte, Nat.reduceEqDiff]))
  obtain ⟨p, cap, rfl, hmax, hc⟩ := h
  obtain ⟨n, hn'⟩ : ∃ n, l.length = n := ⟨_, rfl⟩
  obtain ⟨f1, f2⟩ := hf
  rw [hn'] at hmax f1 ⊢
  have HC := Lib.hid hc
  have HF := Lib.hid f2
  clear hc f2 hn hm htm hrb hr0 hr hm1 hg
  go_loopg [9, 7, 8] n (fun q v9 v7 v8 wr => ∃ (i : Nat) (got took t : ByteArray), v9 = .int .i64 (i : Int) ∧ i + q = n ∧ v7 = .string took ∧ v8 = .string got ∧ took = got ++ t ∧ took.size ≤ i * 200 ∧ One w g r m t wr)
  case atStart => exact ⟨0, ⟨#[]⟩, ⟨#[]⟩, ⟨#[]⟩, rfl, by omega, rfl, rfl, by decide +kernel, by decide, hO5⟩
  case round =>
    rename_i J K hJ hK
    clear hO5
    obtain ⟨i, got, took, t, rfl, hi, rfl, rfl, htk, hsz2, hO⟩ := hrel
    have hrt := hO.b.room
    by_cases hlt : i < n
    case neg =>
      have htk' : got ++ t = took := htk.symm
      have n7 : ¬ 9223372036854775807 < got.size + t.size := by
        have : took.size = got.size + t.size := by rw [htk]; exact app_size _ _
        omega
      clear htk hsz2
      repeat (first | with_reducible apply wpList_nil | with_reducible apply seq_region | with_reducible apply wp_region_lit | ((with_reducible apply seq_q); (focus rfl); (focus (simp [go_sem, effAt, ↓IntWalk.iteOmega, *]; (try go_ints); (first | (with_reducible exact effUpon_val) | (with_reducible exact effUpon_skip)))); (focus ((simp only [Act.put, List.setIfInBounds_toArray, List.set_cons_zero, List.set_cons_succ]; rfl)))) | ((with_reducible apply seq_s); (focus rfl); (focus ((simp only [Act.put, List.setIfInBounds_toArray, List.set_cons_zero, List.set_cons_succ]; rfl)))) | with_reducible apply wp_seq | with_reducible apply wp_block | with_reducible apply wp_skip | with_reducible apply wp_exit | with_reducible apply wp_ret | ((with_reducible apply wp_cond_true); (focus (first | rfl | (simp [go_sem, *]; done)))) | ((with_reducible apply wp_cond_false); (focus (first | rfl | (simp [go_sem, *]; done)))) | (simp only [Exit.then, Exit.inBlock, ↓reduceIte, Nat.reduceEqDiff]))
      with_reducible apply seq_e (One w g r m ⟨#[]⟩)
      focus rfl
      focus (simp only [effAt]; simp [go_sem]; (with_reducible exact effUpon_enter (one_b hO g0 (get_all g r m t _ hO.b))))
      (simp only [Act.put, List.setIfInBounds_toArray, List.set_cons_zero, List.set_cons_succ]; rfl)
      rintro x6 hO6
      clear hO
      repeat (first | with_reducible apply wpList_nil | with_reducible apply seq_region | with_reducible apply wp_region_lit | ((with_reducible apply seq_q); (focus rfl); (focus (simp [go_sem, effAt, ↓IntWalk.iteOmega, *]; (try go_ints); (first | (with_reducible exact effUpon_val) | (with_reducible exact effUpon_skip)))); (focus ((simp only [Act.put, List.setIfInBounds_toArray, List.set_cons_zero, List.set_cons_succ]; rfl)))) | ((with_reducible apply seq_s); (focus rfl); (focus ((simp only [Act.put, List.setIfInBounds_toArray, List.set_cons_zero, List.set_cons_succ]; rfl)))) | with_reducible apply wp_seq | with_reducible apply wp_block | with_reducible apply wp_skip | with_reducible apply wp_exit | with_reducible apply wp_ret | ((with_reducible apply wp_cond_true); (focus (first | rfl | (simp [go_sem, *]; done)))) | ((with_reducible apply wp_cond_false); (focus (first | rfl | (simp [go_sem, *]; done)))) | (simp only [Exit.then, Exit.inBlock, ↓reduceIte, Nat.reduceEqDiff]))
      with_reducible apply seq_e (One w g r m ⟨#[]⟩)
      focus rfl
      focus (simp only [effAt]; simp [go_sem]; (with_reducible exact effUpon_enter (one_read hO6 (len_none g r m _ hO6.b))))
      (simp only [Act.put, List.setIfInBounds_toArray, List.set_cons_zero, List.set_cons_succ]; rfl)
      rintro x7 hO7
      clear hO6
      repeat (first | with_reducible apply wpList_nil | with_reducible apply seq_region | with_reducible apply wp_region_lit | ((with_reducible apply seq_q); (focus rfl); (focus (simp [go_sem, effAt, ↓IntWalk.iteOmega, *]; (try go_ints); (first | (with_reducible exact effUpon_val) | (with_reducible exact effUpon_skip)))); (focus ((simp only [Act.put, List.setIfInBounds_toArray, List.set_cons_zero, List.set_cons_succ]; rfl)))) | ((with_reducible apply seq_s); (focus rfl); (focus ((simp only [Act.put, List.setIfInBounds_toArray, List.set_cons_zero, List.set_cons_succ]; rfl)))) | with_reducible apply wp_seq | with_reducible apply wp_block | with_reducible apply wp_skip | with_reducible apply wp_exit | with_reducible apply wp_ret | ((with_reducible apply wp_cond_true); (focus (first | rfl | (simp [go_sem, *]; done)))) | ((with_reducible apply wp_cond_false); (focus (first | rfl | (simp [go_sem, *]; done)))) | (simp only [Exit.then, Exit.inBlock, ↓reduceIte, Nat.reduceEqDiff]))
      with_reducible apply seq_e (One w g r m ⟨#[]⟩)
      focus rfl
      focus (simp only [effAt]; simp [go_sem]; (with_reducible exact effUpon_enter (one_read hO7 (works_any _))))
      (simp only [Act.put, List.setIfInBounds_toArray, List.set_cons_zero, List.set_cons_succ]; rfl)
      rintro x8 hO8
      clear hO7
      repeat (first | with_reducible apply wpList_nil | with_reducible apply seq_region | with_reducible apply wp_region_lit | ((with_reducible apply seq_q); (focus rfl); (focus (simp [go_sem, effAt, ↓IntWalk.iteOmega, *]; (try go_ints); (first | (with_reducible exact effUpon_val) | (with_reducible exact effUpon_skip)))); (focus ((simp only [Act.put, List.setIfInBounds_toArray, List.set_cons_zero, List.set_cons_succ]; rfl)))) | ((with_reducible apply seq_s); (focus rfl); (focus ((simp only [Act.put, List.setIfInBounds_toArray, List.set_cons_zero, List.set_cons_succ]; rfl)))) | with_reducible apply wp_seq | with_reducible apply wp_block | with_reducible apply wp_skip | with_reducible apply wp_exit | with_reducible apply wp_ret | ((with_reducible apply wp_cond_true); (focus (first | rfl | (simp [go_sem, *]; done)))) | ((with_reducible apply wp_cond_false); (focus (first | rfl | (simp [go_sem, *]; done)))) | (simp only [Exit.then, Exit.inBlock, ↓reduceIte, Nat.reduceEqDiff]))
      go_ret
      exact ⟨rfl, hO8.o⟩
    case pos =>
      obtain ⟨c, hce⟩ : ∃ c, l[i]? = some c := ⟨_, List.getElem?_eq_getElem (by omega)⟩
      obtain ⟨a, ga, o, rfl, hao, ha, c0, c1, c2, hsz⟩ := HC.out i c hce
      have hs2 := HF.out i c hce
      clear hce
      obtain ⟨b, n0, s⟩ := c
      dsimp only at c0 c1 c2 hsz hs2
      have d0 := (hO.o.cell (p := ⟨ga, o, none⟩) ha).trans c0
      have d1 := (hO.o.cell (p := ⟨ga, o + 1, none⟩) ha).trans c1
      have d2 := (hO.o.cell (p := ⟨ga, o + 2, none⟩) ha).trans c2
      have n7 : got.size + t.size ≤ 20000 ∧ took.size ≤ 20000 := by
        have : took.size = got.size + t.size := by rw [htk]; exact app_size _ _
        omega
      have HT := Lib.hid htk
      have HZ := Lib.hid hsz2
      clear c0 htk hsz2
      cases b
      case true =>
        obtain ⟨kk, hk1⟩ : ∃ kk : Nat, max 0 (min (t.size : Int) n0) = (kk : Int) := ⟨(max 0 (min (t.size : Int) n0)).toNat, by omega⟩
        repeat (first | with_reducible apply wpList_nil | with_reducible apply seq_region | with_reducible apply wp_region_lit | ((with_reducible apply seq_q); (focus rfl); (focus (simp [go_sem, effAt, ↓IntWalk.iteOmega, *]; (try go_ints); (first | (with_reducible exact effUpon_val) | (with_reducible exact effUpon_skip)))); (focus ((simp only [Act.put, List.setIfInBounds_toArray, List.set_cons_zero, List.set_cons_succ]; rfl)))) | ((with_reducible apply seq_s); (focus rfl); (focus ((simp only [Act.put, List.setIfInBounds_toArray, List.set_cons_zero, List.set_cons_succ]; rfl)))) | with_reducible apply wp_seq | with_reducible apply wp_block | with_reducible apply wp_skip | with_reducible apply wp_exit | with_reducible apply wp_ret | ((with_reducible apply wp_cond_true); (focus (first | rfl | (simp [go_sem, *]; done)))) | ((with_reducible apply wp_cond_false); (focus (first | rfl | (simp [go_sem, *]; done)))) | (simp only [Exit.then, Exit.inBlock, ↓reduceIte, Nat.reduceEqDiff]))
        with_reducible apply seq_e (One w g r m (t.extract kk t.size))
        focus rfl
        focus (simp only [effAt]; simp [go_sem]; (with_reducible exact effUpon_enter (one_b hO g0 (get_buf g r m t n0 kk _ hO.b hk1))))
        (simp only [Act.put, List.setIfInBounds_toArray, List.set_cons_zero, List.set_cons_succ]; rfl)
        rintro x9 hO9
        clear hO hk1 d0 d1 d2
        have HT2 : Hid (took = got ++ t.extract 0 kk ++ t.extract kk t.size) := Lib.hid (by rw [HT.out, ByteArray.append_assoc, app_cut])
        have HZ2 : Hid (took.size ≤ (i + 1) * 200) := Lib.hid (by have := HZ.out; omega)
        clear HT HZ
        obtain ⟨got2, hgot⟩ : ∃ got2, got ++ t.extract 0 kk = got2 := ⟨_, rfl⟩
        obtain ⟨t2, ht2⟩ : ∃ t2, t.extract kk t.size = t2 := ⟨_, rfl⟩
        rw [hgot, ht2] at HT2
        rw [ht2] at hO9
        clear ht2
        obtain ⟨took2, htk2⟩ : ∃ x, x = took := ⟨_, rfl⟩
        subst htk2
        have hsz3 : took2.size = got2.size + t2.size := by rw [HT2.out]; exact app_size _ _
        have hx : took2.extract 0 got2.size = got2 := by rw [HT2.out]; exact app_head _ _
        have hrt2 := hO9.b.room
        have hz2 := HZ2.out
        have l1 : ¬ (took2.size : Int) < (got2.size : Int) := by omega
        have l2 : (took2.size : Int) - (got2.size : Int) = (t2.size : Int) := by omega
        have l3 : ¬ (r : Int) < (t2.size : Int) := by omega
        have l4 : (t2.size : Int) + ((r : Int) - (t2.size : Int)) = (r : Int) := by omega
        have l5 : (got2.size : Int) ≤ (took2.size : Int) := by omega
        have l6 : (took2.size : Int) ≤ 40000 := by omega
        have HS3 := Lib.hid hsz3
        clear hsz3 hz2
        repeat (first | with_reducible apply wpList_nil | with_reducible apply seq_region | with_reducible apply wp_region_lit | ((with_reducible apply seq_q); (focus rfl); (focus (simp [go_sem, effAt, ↓IntWalk.iteOmega, *]; (try go_ints); (first | (with_reducible exact effUpon_val) | (with_reducible exact effUpon_skip)))); (focus ((simp only [Act.put, List.setIfInBounds_toArray, List.set_cons_zero, List.set_cons_succ]; rfl)))) | ((with_reducible apply seq_s); (focus rfl); (focus ((simp only [Act.put, List.setIfInBounds_toArray, List.set_cons_zero, List.set_cons_succ]; rfl)))) | with_reducible apply wp_seq | with_reducible apply wp_block | with_reducible apply wp_skip | with_reducible apply wp_exit | with_reducible apply wp_ret | ((with_reducible apply wp_cond_true); (focus (first | rfl | (simp [go_sem, *]; done)))) | ((with_reducible apply wp_cond_false); (focus (first | rfl | (simp [go_sem, *]; done)))) | (simp only [Exit.then, Exit.inBlock, ↓reduceIte, Nat.reduceEqDiff]))
        with_reducible apply seq_e (One w g r m t2)
        focus rfl
        focus (simp only [effAt]; simp [go_sem]; (with_reducible exact effUpon_enter (one_read hO9 (len_buf g r m t2 _ hO9.b))))
        (simp only [Act.put, List.setIfInBounds_toArray, List.set_cons_zero, List.set_cons_succ]; rfl)
        rintro x10 hO10
        clear hO9
        repeat (first | with_reducible apply wpList_nil | with_reducible apply seq_region | with_reducible apply wp_region_lit | ((with_reducible apply seq_q); (focus rfl); (focus (simp [go_sem, effAt, ↓IntWalk.iteOmega, *]; (try go_ints); (first | (with_reducible exact effUpon_val) | (with_reducible exact effUpon_skip)))); (focus ((simp only [Act.put, List.setIfInBounds_toArray, List.set_cons_zero, List.set_cons_succ]; rfl)))) | ((with_reducible apply seq_s); (focus rfl); (focus ((simp only [Act.put, List.setIfInBounds_toArray, List.set_cons_zero, List.set_cons_succ]; rfl)))) | with_reducible apply wp_seq | with_reducible apply wp_block | with_reducible apply wp_skip | with_reducible apply wp_exit | with_reducible apply wp_ret | ((with_reducible apply wp_cond_true); (focus (first | rfl | (simp [go_sem, *]; done)))) | ((with_reducible apply wp_cond_false); (focus (first | rfl | (simp [go_sem, *]; done)))) | (simp only [Exit.then, Exit.inBlock, ↓reduceIte, Nat.reduceEqDiff]))
        with_reducible apply seq_e (One w g r m t2)
        focus rfl
        focus (simp only [effAt]; simp [go_sem]; (with_reducible exact effUpon_enter (one_read hO10 (len_buf g r m t2 _ hO10.b))))
        (simp only [Act.put, List.setIfInBounds_toArray, List.set_cons_zero, List.set_cons_succ]; rfl)
        rintro x11 hO11
        clear hO10
        repeat (first | with_reducible apply wpList_nil | with_reducible apply seq_region | with_reducible apply wp_region_lit | ((with_reducible apply seq_q); (focus rfl); (focus (simp [go_sem, effAt, ↓IntWalk.iteOmega, *]; (try go_ints); (first | (with_reducible exact effUpon_val) | (with_reducible exact effUpon_skip)))); (focus ((simp only [Act.put, List.setIfInBounds_toArray, List.set_cons_zero, List.set_cons_succ]; rfl)))) | ((with_reducible apply seq_s); (focus rfl); (focus ((simp only [Act.put, List.setIfInBounds_toArray, List.set_cons_zero, List.set_cons_succ]; rfl)))) | with_reducible apply wp_seq | with_reducible apply wp_block | with_reducible apply wp_skip | with_reducible apply wp_exit | with_reducible apply wp_ret | ((with_reducible apply wp_cond_true); (focus (first | rfl | (simp [go_sem, *]; done)))) | ((with_reducible apply wp_cond_false); (focus (first | rfl | (simp [go_sem, *]; done)))) | (simp only [Exit.then, Exit.inBlock, ↓reduceIte, Nat.reduceEqDiff]))
        with_reducible apply seq_e (One w g r m t2)
        focus rfl
        focus (simp only [effAt]; simp [go_sem]; (with_reducible exact effUpon_enter (one_read hO11 (len_buf g r m t2 _ hO11.b))))
        (simp only [Act.put, List.setIfInBounds_toArray, List.set_cons_zero, List.set_cons_succ]; rfl)
        rintro x12 hO12
        clear hO11
        repeat (first | with_reducible apply wpList_nil | with_reducible apply seq_region | with_reducible apply wp_region_lit | ((with_reducible apply seq_q); (focus rfl); (focus (simp [go_sem, effAt, ↓IntWalk.iteOmega, *]; (try go_ints); (first | (with_reducible exact effUpon_val) | (with_reducible exact effUpon_skip)))); (focus ((simp only [Act.put, List.setIfInBounds_toArray, List.set_cons_zero, List.set_cons_succ]; rfl)))) | ((with_reducible apply seq_s); (focus rfl); (focus ((simp only [Act.put, List.setIfInBounds_toArray, List.set_cons_zero, List.set_cons_succ]; rfl)))) | with_reducible apply wp_seq | with_reducible apply wp_block | with_reducible apply wp_skip | with_reducible apply wp_exit | with_reducible apply wp_ret | ((with_reducible apply wp_cond_true); (focus (first | rfl | (simp [go_sem, *]; done)))) | ((with_reducible apply wp_cond_false); (focus (first | rfl | (simp [go_sem, *]; done)))) | (simp only [Exit.then, Exit.inBlock, ↓reduceIte, Nat.reduceEqDiff]))
        with_reducible apply seq_e (One w g r m t2)
        focus rfl
        focus (simp only [effAt]; simp [go_sem]; (with_reducible exact effUpon_enter (one_read hO12 (free_buf g r m t2 _ hO12.b))))
        (simp only [Act.put, List.setIfInBounds_toArray, List.set_cons_zero, List.set_cons_succ]; rfl)
        rintro x13 hO13
        clear hO12
        repeat (first | with_reducible apply wpList_nil | with_reducible apply seq_region | with_reducible apply wp_region_lit | ((with_reducible apply seq_q); (focus rfl); (focus (simp [go_sem, effAt, ↓IntWalk.iteOmega, *]; (try go_ints); (first | (with_reducible exact effUpon_val) | (with_reducible exact effUpon_skip)))); (focus ((simp only [Act.put, List.setIfInBounds_toArray, List.set_cons_zero, List.set_cons_succ]; rfl)))) | ((with_reducible apply seq_s); (focus rfl); (focus ((simp only [Act.put, List.setIfInBounds_toArray, List.set_cons_zero, List.set_cons_succ]; rfl)))) | with_reducible apply wp_seq | with_reducible apply wp_block | with_reducible apply wp_skip | with_reducible apply wp_exit | with_reducible apply wp_ret | ((with_reducible apply wp_cond_true); (focus (first | rfl | (simp [go_sem, *]; done)))) | ((with_reducible apply wp_cond_false); (focus (first | rfl | (simp [go_sem, *]; done)))) | (simp only [Exit.then, Exit.inBlock, ↓reduceIte, Nat.reduceEqDiff]))
        refine hK _ _ (Handed.intro (gk - 1) ?measure (hJ _ _ _ ?_))
        rotate_left
        (repeat apply Exists.intro)
        refine ⟨?rel, rfl⟩
        case rel => exact ⟨i + 1, got2, took2, t2, by go_num, by omega, rfl, rfl, HT2.out, by have := HZ2.out; omega, hO13⟩
        case measure => omega
      case false =>
        obtain ⟨kk, hk1⟩ : ∃ kk : Nat, min s.size (r - t.size) = kk := ⟨_, rfl⟩
        repeat (first | with_reducible apply wpList_nil | with_reducible apply seq_region | with_reducible apply wp_region_lit | ((with_reducible apply seq_q); (focus rfl); (focus (simp [go_sem, effAt, ↓IntWalk.iteOmega, *]; (try go_ints); (first | (with_reducible exact effUpon_val) | (with_reducible exact effUpon_skip)))); (focus ((simp only [Act.put, List.setIfInBounds_toArray, List.set_cons_zero, List.set_cons_succ]; rfl)))) | ((with_reducible apply seq_s); (focus rfl); (focus ((simp only [Act.put, List.setIfInBounds_toArray, List.set_cons_zero, List.set_cons_succ]; rfl)))) | with_reducible apply wp_seq | with_reducible apply wp_block | with_reducible apply wp_skip | with_reducible apply wp_exit | with_reducible apply wp_ret | ((with_reducible apply wp_cond_true); (focus (first | rfl | (simp [go_sem, *]; done)))) | ((with_reducible apply wp_cond_false); (focus (first | rfl | (simp [go_sem, *]; done)))) | (simp only [Exit.then, Exit.inBlock, ↓reduceIte, Nat.reduceEqDiff]))
        with_reducible apply seq_e (One w g r m (t ++ s.extract 0 kk))
        focus rfl
        focus (simp only [effAt]; simp [go_sem]; (with_reducible exact effUpon_enter (one_b hO g0 (put_buf g r m t s kk _ hO.b hs2 hk1))))
        (simp only [Act.put, List.setIfInBounds_toArray, List.set_cons_zero, List.set_cons_succ]; rfl)
        rintro x14 hO14
        clear hO d0 d1
        have hkb : kk ≤ s.size ∧ kk ≤ r - t.size := by omega
        have HT2 : Hid (took ++ s.extract 0 kk = got ++ (t ++ s.extract 0 kk)) := Lib.hid (by rw [HT.out, ByteArray.append_assoc])
        have HZ2 : Hid ((took ++ s.extract 0 kk).size ≤ (i + 1) * 200) := Lib.hid (by
          have h1 := HZ.out
          have h2 : (s.extract 0 kk).size = kk := by simp; omega
          rw [app_size, h2]
          omega)
        have hz0 : (t ++ s.extract 0 kk).size = t.size + kk := by
          have h2 : (s.extract 0 kk).size = kk := by simp; omega
          rw [app_size, h2]
        clear HT HZ
        obtain ⟨took2, hgot⟩ : ∃ took2, took ++ s.extract 0 kk = took2 := ⟨_, rfl⟩
        obtain ⟨t2, ht2⟩ : ∃ t2, t ++ s.extract 0 kk = t2 := ⟨_, rfl⟩
        rw [hgot, ht2] at HT2
        rw [hgot] at HZ2
        rw [ht2] at hO14 hz0
        clear ht2
        obtain ⟨got2, htk2⟩ : ∃ x, x = got := ⟨_, rfl⟩
        subst htk2
        have n1 : ¬ (kk : Int) < 0 := by omega
        have n2 : ¬ (s.size : Int) < (kk : Int) := by omega
        have d3 := (hO14.o.cell (p := ⟨ga, o + 2, none⟩) ha).trans c2
        clear d2
        by_cases hks : (kk : Int) < (s.size : Int)
        case pos =>
          have n3 : (r : Int) - (t2.size : Int) = 0 := by omega
          clear hk1 hz0
          repeat (first | with_reducible apply wpList_nil | with_reducible apply seq_region | with_reducible apply wp_region_lit | ((with_reducible apply seq_q); (focus rfl); (focus (simp [go_sem, effAt, ↓IntWalk.iteOmega, *]; (try go_ints); (first | (with_reducible exact effUpon_val) | (with_reducible exact effUpon_skip)))); (focus ((simp only [Act.put, List.setIfInBounds_toArray, List.set_cons_zero, List.set_cons_succ]; rfl)))) | ((with_reducible apply seq_s); (focus rfl); (focus ((simp only [Act.put, List.setIfInBounds_toArray, List.set_cons_zero, List.set_cons_succ]; rfl)))) | with_reducible apply wp_seq | with_reducible apply wp_block | with_reducible apply wp_skip | with_reducible apply wp_exit | with_reducible apply wp_ret | ((with_reducible apply wp_cond_true); (focus (first | rfl | (simp [go_sem, *]; done)))) | ((with_reducible apply wp_cond_false); (focus (first | rfl | (simp [go_sem, *]; done)))) | (simp only [Exit.then, Exit.inBlock, ↓reduceIte, Nat.reduceEqDiff]))
          with_reducible apply seq_e (One w g r m t2)
          focus rfl
          focus (simp only [effAt]; simp [go_sem]; (with_reducible exact effUpon_enter (one_read hO14 (free_buf g r m t2 _ hO14.b))))
          (simp only [Act.put, List.setIfInBounds_toArray, List.set_cons_zero, List.set_cons_succ]; rfl)
          rintro x15 hO15
          clear hO14
          have d4 := (hO15.o.cell (p := ⟨ga, o + 2, none⟩) ha).trans c2
          clear d3
          have hsz3 : took2.size = got2.size + t2.size := by rw [HT2.out]; exact app_size _ _
          have hx : took2.extract 0 got2.size = got2 := by rw [HT2.out]; exact app_head _ _
          have hrt2 := hO15.b.room
          have hz2 := HZ2.out
          have l1 : ¬ (took2.size : Int) < (got2.size : Int) := by omega
          have l2 : (took2.size : Int) - (got2.size : Int) = (t2.size : Int) := by omega
          have l3 : ¬ (r : Int) < (t2.size : Int) := by omega
          have l4 : (t2.size : Int) + ((r : Int) - (t2.size : Int)) = (r : Int) := by omega
          have l5 : (got2.size : Int) ≤ (took2.size : Int) := by omega
          have l6 : (took2.size : Int) ≤ 40000 := by omega
          have HS3 := Lib.hid hsz3
          clear hsz3 hz2
          repeat (first | with_reducible apply wpList_nil | with_reducible apply seq_region | with_reducible apply wp_region_lit | ((with_reducible apply seq_q); (focus rfl); (focus (simp [go_sem, effAt, ↓IntWalk.iteOmega, *]; (try go_ints); (first | (with_reducible exact effUpon_val) | (with_reducible exact effUpon_skip)))); (focus ((simp only [Act.put, List.setIfInBounds_toArray, List.set_cons_zero, List.set_cons_succ]; rfl)))) | ((with_reducible apply seq_s); (focus rfl); (focus ((simp only [Act.put, List.setIfInBounds_toArray, List.set_cons_zero, List.set_cons_succ]; rfl)))) | with_reducible apply wp_seq | with_reducible apply wp_block | with_reducible apply wp_skip | with_reducible apply wp_exit | with_reducible apply wp_ret | ((with_reducible apply wp_cond_true); (focus (first | rfl | (simp [go_sem, *]; done)))) | ((with_reducible apply wp_cond_false); (focus (first | rfl | (simp [go_sem, *]; done)))) | (simp only [Exit.then, Exit.inBlock, ↓reduceIte, Nat.reduceEqDiff]))
          clear n3
          with_reducible apply seq_e (One w g r m t2)
          focus rfl
          focus (simp only [effAt]; simp [go_sem]; (with_reducible exact effUpon_enter (one_read hO15 (len_buf g r m t2 _ hO15.b))))
          (simp only [Act.put, List.setIfInBounds_toArray, List.set_cons_zero, List.set_cons_succ]; rfl)
          rintro x16 hO16
          clear hO15
          repeat (first | with_reducible apply wpList_nil | with_reducible apply seq_region | with_reducible apply wp_region_lit | ((with_reducible apply seq_q); (focus rfl); (focus (simp [go_sem, effAt, ↓IntWalk.iteOmega, *]; (try go_ints); (first | (with_reducible exact effUpon_val) | (with_reducible exact effUpon_skip)))); (focus ((simp only [Act.put, List.setIfInBounds_toArray, List.set_cons_zero, List.set_cons_succ]; rfl)))) | ((with_reducible apply seq_s); (focus rfl); (focus ((simp only [Act.put, List.setIfInBounds_toArray, List.set_cons_zero, List.set_cons_succ]; rfl)))) | with_reducible apply wp_seq | with_reducible apply wp_block | with_reducible apply wp_skip | with_reducible apply wp_exit | with_reducible apply wp_ret | ((with_reducible apply wp_cond_true); (focus (first | rfl | (simp [go_sem, *]; done)))) | ((with_reducible apply wp_cond_false); (focus (first | rfl | (simp [go_sem, *]; done)))) | (simp only [Exit.then, Exit.inBlock, ↓reduceIte, Nat.reduceEqDiff]))
          with_reducible apply seq_e (One w g r m t2)
          focus rfl
          focus (simp only [effAt]; simp [go_sem]; (with_reducible exact effUpon_enter (one_read hO16 (len_buf g r m t2 _ hO16.b))))
          (simp only [Act.put, List.setIfInBounds_toArray, List.set_cons_zero, List.set_cons_succ]; rfl)
          rintro x17 hO17
          clear hO16
          repeat (first | with_reducible apply wpList_nil | with_reducible apply seq_region | with_reducible apply wp_region_lit | ((with_reducible apply seq_q); (focus rfl); (focus (simp [go_sem, effAt, ↓IntWalk.iteOmega, *]; (try go_ints); (first | (with_reducible exact effUpon_val) | (with_reducible exact effUpon_skip)))); (focus ((simp only [Act.put, List.setIfInBounds_toArray, List.set_cons_zero, List.set_cons_succ]; rfl)))) | ((with_reducible apply seq_s); (focus rfl); (focus ((simp only [Act.put, List.setIfInBounds_toArray, List.set_cons_zero, List.set_cons_succ]; rfl)))) | with_reducible apply wp_seq | with_reducible apply wp_block | with_reducible apply wp_skip | with_reducible apply wp_exit | with_reducible apply wp_ret | ((with_reducible apply wp_cond_true); (focus (first | rfl | (simp [go_sem, *]; done)))) | ((with_reducible apply wp_cond_false); (focus (first | rfl | (simp [go_sem, *]; done)))) | (simp only [Exit.then, Exit.inBlock, ↓reduceIte, Nat.reduceEqDiff]))
          with_reducible apply seq_e (One w g r m t2)
          focus rfl
          focus (simp only [effAt]; simp [go_sem]; (with_reducible exact effUpon_enter (one_read hO17 (len_buf g r m t2 _ hO17.b))))
          (simp only [Act.put, List.setIfInBounds_toArray, List.set_cons_zero, List.set_cons_succ]; rfl)
          rintro x18 hO18
          clear hO17
          repeat (first | with_reducible apply wpList_nil | with_reducible apply seq_region | with_reducible apply wp_region_lit | ((with_reducible apply seq_q); (focus rfl); (focus (simp [go_sem, effAt, ↓IntWalk.iteOmega, *]; (try go_ints); (first | (with_reducible exact effUpon_val) | (with_reducible exact effUpon_skip)))); (focus ((simp only [Act.put, List.setIfInBounds_toArray, List.set_cons_zero, List.set_cons_succ]; rfl)))) | ((with_reducible apply seq_s); (focus rfl); (focus ((simp only [Act.put, List.setIfInBounds_toArray, List.set_cons_zero, List.set_cons_succ]; rfl)))) | with_reducible apply wp_seq | with_reducible apply wp_block | with_reducible apply wp_skip | with_reducible apply wp_exit | with_reducible apply wp_ret | ((with_reducible apply wp_cond_true); (focus (first | rfl | (simp [go_sem, *]; done)))) | ((with_reducible apply wp_cond_false); (focus (first | rfl | (simp [go_sem, *]; done)))) | (simp only [Exit.then, Exit.inBlock, ↓reduceIte, Nat.reduceEqDiff]))
          with_reducible apply seq_e (One w g r m t2)
          focus rfl
          focus (simp only [effAt]; simp [go_sem]; (with_reducible exact effUpon_enter (one_read hO18 (free_buf g r m t2 _ hO18.b))))
          (simp only [Act.put, List.setIfInBounds_toArray, List.set_cons_zero, List.set_cons_succ]; rfl)
          rintro x19 hO19
          clear hO18
          repeat (first | with_reducible apply wpList_nil | with_reducible apply seq_region | with_reducible apply wp_region_lit | ((with_reducible apply seq_q); (focus rfl); (focus (simp [go_sem, effAt, ↓IntWalk.iteOmega, *]; (try go_ints); (first | (with_reducible exact effUpon_val) | (with_reducible exact effUpon_skip)))); (focus ((simp only [Act.put, List.setIfInBounds_toArray, List.set_cons_zero, List.set_cons_succ]; rfl)))) | ((with_reducible apply seq_s); (focus rfl); (focus ((simp only [Act.put, List.setIfInBounds_toArray, List.set_cons_zero, List.set_cons_succ]; rfl)))) | with_reducible apply wp_seq | with_reducible apply wp_block | with_reducible apply wp_skip | with_reducible apply wp_exit | with_reducible apply wp_ret | ((with_reducible apply wp_cond_true); (focus (first | rfl | (simp [go_sem, *]; done)))) | ((with_reducible apply wp_cond_false); (focus (first | rfl | (simp [go_sem, *]; done)))) | (simp only [Exit.then, Exit.inBlock, ↓reduceIte, Nat.reduceEqDiff]))
          refine hK _ _ (Handed.intro (gk - 1) ?measure (hJ _ _ _ ?_))
          rotate_left
          (repeat apply Exists.intro)
          refine ⟨?rel, rfl⟩
          case rel => exact ⟨i + 1, got2, took2, t2, by go_num, by omega, rfl, rfl, HT2.out, by have := HZ2.out; omega, hO19⟩
          case measure => omega
        case neg =>
          clear hk1 hz0
          have hsz3 : took2.size = got2.size + t2.size := by rw [HT2.out]; exact app_size _ _
          have hx : took2.extract 0 got2.size = got2 := by rw [HT2.out]; exact app_head _ _
          have hrt2 := hO14.b.room
          have hz2 := HZ2.out
          have l1 : ¬ (took2.size : Int) < (got2.size : Int) := by omega
          have l2 : (took2.size : Int) - (got2.size : Int) = (t2.size : Int) := by omega
          have l3 : ¬ (r : Int) < (t2.size : Int) := by omega
          have l4 : (t2.size : Int) + ((r : Int) - (t2.size : Int)) = (r : Int) := by omega
          have l5 : (got2.size : Int) ≤ (took2.size : Int) := by omega
          have l6 : (took2.size : Int) ≤ 40000 := by omega
          have HS3 := Lib.hid hsz3
          clear hsz3 hz2
          repeat (first | with_reducible apply wpList_nil | with_reducible apply seq_region | with_reducible apply wp_region_lit | ((with_reducible apply seq_q); (focus rfl); (focus (simp [go_sem, effAt, ↓IntWalk.iteOmega, *]; (try go_ints); (first | (with_reducible exact effUpon_val) | (with_reducible exact effUpon_skip)))); (focus ((simp only [Act.put, List.setIfInBounds_toArray, List.set_cons_zero, List.set_cons_succ]; rfl)))) | ((with_reducible apply seq_s); (focus rfl); (focus ((simp only [Act.put, List.setIfInBounds_toArray, List.set_cons_zero, List.set_cons_succ]; rfl)))) | with_reducible apply wp_seq | with_reducible apply wp_block | with_reducible apply wp_skip | with_reducible apply wp_exit | with_reducible apply wp_ret | ((with_reducible apply wp_cond_true); (focus (first | rfl | (simp [go_sem, *]; done)))) | ((with_reducible apply wp_cond_false); (focus (first | rfl | (simp [go_sem, *]; done)))) | (simp only [Exit.then, Exit.inBlock, ↓reduceIte, Nat.reduceEqDiff]))
          with_reducible apply seq_e (One w g r m t2)
          focus rfl
          focus (simp only [effAt]; simp [go_sem]; (with_reducible exact effUpon_enter (one_read hO14 (len_buf g r m t2 _ hO14.b))))
          (simp only [Act.put, List.setIfInBounds_toArray, List.set_cons_zero, List.set_cons_succ]; rfl)
          rintro x20 hO20
          clear hO14
          repeat (first | with_reducible apply wpList_nil | with_reducible apply seq_region | with_reducible apply wp_region_lit | ((with_reducible apply seq_q); (focus rfl); (focus (simp [go_sem, effAt, ↓IntWalk.iteOmega, *]; (try go_ints); (first | (with_reducible exact effUpon_val) | (with_reducible exact effUpon_skip)))); (focus ((simp only [Act.put, List.setIfInBounds_toArray, List.set_cons_zero, List.set_cons_succ]; rfl)))) | ((with_reducible apply seq_s); (focus rfl); (focus ((simp only [Act.put, List.setIfInBounds_toArray, List.set_cons_zero, List.set_cons_succ]; rfl)))) | with_reducible apply wp_seq | with_reducible apply wp_block | with_reducible apply wp_skip | with_reducible apply wp_exit | with_reducible apply wp_ret | ((with_reducible apply wp_cond_true); (focus (first | rfl | (simp [go_sem, *]; done)))) | ((with_reducible apply wp_cond_false); (focus (first | rfl | (simp [go_sem, *]; done)))) | (simp only [Exit.then, Exit.inBlock, ↓reduceIte, Nat.reduceEqDiff]))
          with_reducible apply seq_e (One w g r m t2)
          focus rfl
          focus (simp only [effAt]; simp [go_sem]; (with_reducible exact effUpon_enter (one_read hO20 (len_buf g r m t2 _ hO20.b))))
          (simp only [Act.put, List.setIfInBounds_toArray, List.set_cons_zero, List.set_cons_succ]; rfl)
          rintro x21 hO21
          clear hO20
          repeat (first | with_reducible apply wpList_nil | with_reducible apply seq_region | with_reducible apply wp_region_lit | ((with_reducible apply seq_q); (focus rfl); (focus (simp [go_sem, effAt, ↓IntWalk.iteOmega, *]; (try go_ints); (first | (with_reducible exact effUpon_val) | (with_reducible exact effUpon_skip)))); (focus ((simp only [Act.put, List.setIfInBounds_toArray, List.set_cons_zero, List.set_cons_succ]; rfl)))) | ((with_reducible apply seq_s); (focus rfl); (focus ((simp only [Act.put, List.setIfInBounds_toArray, List.set_cons_zero, List.set_cons_succ]; rfl)))) | with_reducible apply wp_seq | with_reducible apply wp_block | with_reducible apply wp_skip | with_reducible apply wp_exit | with_reducible apply wp_ret | ((with_reducible apply wp_cond_true); (focus (first | rfl | (simp [go_sem, *]; done)))) | ((with_reducible apply wp_cond_false); (focus (first | rfl | (simp [go_sem, *]; done)))) | (simp only [Exit.then, Exit.inBlock, ↓reduceIte, Nat.reduceEqDiff]))
          with_reducible apply seq_e (One w g r m t2)
          focus rfl
          focus (simp only [effAt]; simp [go_sem]; (with_reducible exact effUpon_enter (one_read hO21 (len_buf g r m t2 _ hO21.b))))
          (simp only [Act.put, List.setIfInBounds_toArray, List.set_cons_zero, List.set_cons_succ]; rfl)
          rintro x22 hO22
          clear hO21
          repeat (first | with_reducible apply wpList_nil | with_reducible apply seq_region | with_reducible apply wp_region_lit | ((with_reducible apply seq_q); (focus rfl); (focus (simp [go_sem, effAt, ↓IntWalk.iteOmega, *]; (try go_ints); (first | (with_reducible exact effUpon_val) | (with_reducible exact effUpon_skip)))); (focus ((simp only [Act.put, List.setIfInBounds_toArray, List.set_cons_zero, List.set_cons_succ]; rfl)))) | ((with_reducible apply seq_s); (focus rfl); (focus ((simp only [Act.put, List.setIfInBounds_toArray, List.set_cons_zero, List.set_cons_succ]; rfl)))) | with_reducible apply wp_seq | with_reducible apply wp_block | with_reducible apply wp_skip | with_reducible apply wp_exit | with_reducible apply wp_ret | ((with_reducible apply wp_cond_true); (focus (first | rfl | (simp [go_sem, *]; done)))) | ((with_reducible apply wp_cond_false); (focus (first | rfl | (simp [go_sem, *]; done)))) | (simp only [Exit.then, Exit.inBlock, ↓reduceIte, Nat.reduceEqDiff]))
          with_reducible apply seq_e (One w g r m t2)
          focus rfl
          focus (simp only [effAt]; simp [go_sem]; (with_reducible exact effUpon_enter (one_read hO22 (free_buf g r m t2 _ hO22.b))))
          (simp only [Act.put, List.setIfInBounds_toArray, List.set_cons_zero, List.set_cons_succ]; rfl)
          rintro x23 hO23
          clear hO22
          repeat (first | with_reducible apply wpList_nil | with_reducible apply seq_region | with_reducible apply wp_region_lit | ((with_reducible apply seq_q); (focus rfl); (focus (simp [go_sem, effAt, ↓IntWalk.iteOmega, *]; (try go_ints); (first | (with_reducible exact effUpon_val) | (with_reducible exact effUpon_skip)))); (focus ((simp only [Act.put, List.setIfInBounds_toArray, List.set_cons_zero, List.set_cons_succ]; rfl)))) | ((with_reducible apply seq_s); (focus rfl); (focus ((simp only [Act.put, List.setIfInBounds_toArray, List.set_cons_zero, List.set_cons_succ]; rfl)))) | with_reducible apply wp_seq | with_reducible apply wp_block | with_reducible apply wp_skip | with_reducible apply wp_exit | with_reducible apply wp_ret | ((with_reducible apply wp_cond_true); (focus (first | rfl | (simp [go_sem, *]; done)))) | ((with_reducible apply wp_cond_false); (focus (first | rfl | (simp [go_sem, *]; done)))) | (simp only [Exit.then, Exit.inBlock, ↓reduceIte, Nat.reduceEqDiff]))
          refine hK _ _ (Handed.intro (gk - 1) ?measure (hJ _ _ _ ?_))
          rotate_left
          (repeat apply Exists.intro)
          refine ⟨?rel, rfl⟩
          case rel => exact ⟨i + 1, got2, took2, t2, by go_num, by omega, rfl, rfl, HT2.out, by have := HZ2.out; omega, hO23⟩
          case measure => omega
