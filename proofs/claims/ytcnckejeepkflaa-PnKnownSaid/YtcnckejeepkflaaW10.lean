/- What is put is got, what is got is put; what is agreed: the plain laws of PnBack. No condition but the bounds of octets. -/
import Derived.Test.YtcnckejeepkflaaW9
import Derived.Test.YtcnckejeepkflaaKf
set_option linter.unusedSimpArgs false
set_option linter.unusedVariables false
namespace Go.Proofs.Ytcnckejeepkflaa
open Go.RowKit Go.Eff
theorem oct_nums (xs : List Int) (i : Nat) (h : i < xs.length) (hb : 0 ≤ xs[i] ∧ xs[i] ≤ 255) : oct (strOfNums xs) i = xs[i] := by
  unfold oct
  rw [strOfNums_data]
  simp only [List.getD_eq_getElem?_getD, List.getElem?_map, List.getElem?_eq_getElem h, Option.map_some, Option.getD_some]
  have e : (UInt8.ofNat xs[i].toNat).toNat = xs[i].toNat := by
    simp only [UInt8.toNat_ofNat']
    omega
  rw [e]
  omega
/-- what is put is got -/
theorem put_got {d f c p t n m k : Int} (h : MayP d f c p t n m k) (hf : 0 ≤ f) (hc : 0 ≤ c) (hp : 0 ≤ p) :
    (octs d f c p t n m k).size = 8 ∧ GetP (octs d f c p t n m k) ∧ oct (octs d f c p t n m k) 0 = d ∧ oct (octs d f c p t n m k) 1 % 16 = f ∧ oct (octs d f c p t n m k) 1 / 16 = c ∧ oct (octs d f c p t n m k) 2 = p ∧ oct (octs d f c p t n m k) 3 = t ∧
      oct (octs d f c p t n m k) 4 + 256 * oct (octs d f c p t n m k) 5 = n ∧ oct (octs d f c p t n m k) 6 = m ∧ oct (octs d f c p t n m k) 7 = k := by
  have h' := h
  obtain ⟨d1, d2, f2, c2, p2, t1, t2, n1, n2, m1, m2, k1, k2⟩ := h
  have e0 : oct (octs d f c p t n m k) 0 = d := oct_nums _ 0 (by simp) ⟨by show 0 ≤ d; omega, by show d ≤ 255; omega⟩
  have e1 : oct (octs d f c p t n m k) 1 = c * 16 + f := oct_nums _ 1 (by simp) ⟨by show 0 ≤ c * 16 + f; omega, by show c * 16 + f ≤ 255; omega⟩
  have e2 : oct (octs d f c p t n m k) 2 = p := oct_nums _ 2 (by simp) ⟨by show 0 ≤ p; omega, by show p ≤ 255; omega⟩
  have e3 : oct (octs d f c p t n m k) 3 = t := oct_nums _ 3 (by simp) ⟨by show 0 ≤ t; omega, by show t ≤ 255; omega⟩
  have e4 : oct (octs d f c p t n m k) 4 = n % 256 := oct_nums _ 4 (by simp) ⟨by show 0 ≤ n % 256; omega, by show n % 256 ≤ 255; omega⟩
  have e5 : oct (octs d f c p t n m k) 5 = n / 256 := oct_nums _ 5 (by simp) ⟨by show 0 ≤ n / 256; omega, by show n / 256 ≤ 255; omega⟩
  have e6 : oct (octs d f c p t n m k) 6 = m := oct_nums _ 6 (by simp) ⟨by show 0 ≤ m; omega, by show m ≤ 255; omega⟩
  have e7 : oct (octs d f c p t n m k) 7 = k := oct_nums _ 7 (by simp) ⟨by show 0 ≤ k; omega, by show k ≤ 255; omega⟩
  have f1 : oct (octs d f c p t n m k) 1 % 16 = f := by rw [e1]; omega
  have f3 : oct (octs d f c p t n m k) 1 / 16 = c := by rw [e1]; omega
  have f4 : oct (octs d f c p t n m k) 4 + 256 * oct (octs d f c p t n m k) 5 = n := by rw [e4, e5]; omega
  refine ⟨strOfNums_size _, ?_, e0, f1, f3, e2, e3, f4, e6, e7⟩
  unfold GetP
  rw [f1, f3, f4, e0, e2, e3, e6, e7]
  exact h'
/-- what is got is put -/
theorem got_put (v : ByteArray) (h : v.size = 8) : octs (oct v 0) (oct v 1 % 16) (oct v 1 / 16) (oct v 2) (oct v 3) (oct v 4 + 256 * oct v 5) (oct v 6) (oct v 7) = v := by
  obtain ⟨⟨l⟩⟩ := v
  match l, h with
  | [b0, b1, b2, b3, b4, b5, b6, b7], _ =>
    have r : ∀ (b : UInt8), UInt8.ofNat ((b.toNat : Int)).toNat = b := fun b => by simp
    have r1 : ∀ (b c : UInt8), ((b.toNat : Int) + 256 * (c.toNat : Int)) % 256 = b.toNat := fun b c => by have := b.toNat_lt; omega
    have r2 : ∀ (b c : UInt8), ((b.toNat : Int) + 256 * (c.toNat : Int)) / 256 = c.toNat := fun b c => by have := b.toNat_lt; omega
    have r3 : ∀ (b : UInt8), ((b.toNat : Int) / 16 * 16 + (b.toNat : Int) % 16) = b.toNat := fun b => by omega
    show (⟨(List.map (fun n : Int => UInt8.ofNat n.toNat) [(b0.toNat : Int), (b1.toNat : Int) / 16 * 16 + (b1.toNat : Int) % 16, (b2.toNat : Int), (b3.toNat : Int), ((b4.toNat : Int) + 256 * (b5.toNat : Int)) % 256, ((b4.toNat : Int) + 256 * (b5.toNat : Int)) / 256, (b6.toNat : Int), (b7.toNat : Int)]).toArray⟩ : ByteArray) = _
    rw [r1, r2, r3]
    simp only [List.map_cons, List.map_nil, r]
/-- params -/
def PV (d f c p t n m k : Int) : Value := .agg #[.int .u8 d, .int .u8 f, .int .u8 c, .int .u8 p, .int .i64 t, .int .i64 n, .int .i64 m, .int .i64 k]
/-- the first half's facts -/
theorem back_first (d f c p t n m k : Int) (hd : 0 ≤ d ∧ d ≤ 255) (hf : 0 ≤ f) (hc : 0 ≤ c) (hp : 0 ≤ p) : ∃ (S : ByteArray) (e x : Int),
    (∀ w, Calls Try.prog 8 #[.agg #[.int .u8 d, .int .u8 f, .int .u8 c, .int .u8 p, .int .i64 t, .int .i64 n, .int .i64 m, .int .i64 k]] w (Ret (.tuple #[.string S, .int .i64 e]) (Below w.heap.size w))) ∧
    (∃ d1 f1 c1 p1 t1 n1 m1 k1, (∀ w, Calls Try.prog 11 #[.string S] w (Ret (.tuple #[.agg #[.int .u8 d1, .int .u8 f1, .int .u8 c1, .int .u8 p1, .int .i64 t1, .int .i64 n1, .int .i64 m1, .int .i64 k1], .int .i64 x]) (Below w.heap.size w))) ∧
      ((e = 0 ∧ x = 0 ∧ mayB d f c p t n m k = true ∧ d1 = d ∧ f1 = f ∧ c1 = c ∧ p1 = p ∧ t1 = t ∧ n1 = n ∧ m1 = m ∧ k1 = k) ∨ (e = 2 ∧ S = ⟨#[]⟩ ∧ mayB d f c p t n m k = false))) := by
  by_cases h : MayP d f c p t n m k
  · obtain ⟨h8, hG, e0, e1, e2, e3, e4, e5, e6, e7⟩ := put_got h hf hc hp
    refine ⟨octs d f c p t n m k, 0, 0, fun w => put_t _ _ _ _ _ _ _ _ w h hd hf hc hp, d, f, c, p, t, n, m, k, fun w => ?_, .inl ⟨rfl, rfl, mayB_t h, rfl, rfl, rfl, rfl, rfl, rfl, rfl, rfl⟩⟩
    have := get_ok (octs d f c p t n m k) w (by omega) (by omega) hG
    rw [e0, e1, e2, e3, e4, e5, e6, e7] at this
    exact this
  · exact ⟨⟨#[]⟩, 2, 20, fun w => put_f _ _ _ _ _ _ _ _ w h, 0, 0, 0, 0, 0, 0, 0, 0, fun w => get_short _ w (by decide), .inr ⟨rfl, rfl, mayB_f h⟩⟩
/-- the second half's -/
theorem back_second (v : ByteArray) (h' : v.size ≤ 9223372036854775807) : ∃ (g h d f c p t n m k : Int) (T : ByteArray),
    (∀ w, Calls Try.prog 11 #[.string v] w (Ret (.tuple #[.agg #[.int .u8 d, .int .u8 f, .int .u8 c, .int .u8 p, .int .i64 t, .int .i64 n, .int .i64 m, .int .i64 k], .int .i64 g]) (Below w.heap.size w))) ∧
    (∀ w, Calls Try.prog 8 #[.agg #[.int .u8 d, .int .u8 f, .int .u8 c, .int .u8 p, .int .i64 t, .int .i64 n, .int .i64 m, .int .i64 k]] w (Ret (.tuple #[.string T, .int .i64 h]) (Below w.heap.size w))) ∧
    ((g = 0 ∧ h = 0 ∧ T = v) ∨ ((g == 0) = false ∧ (g != 0) = true ∧ d = 0 ∧ f = 0 ∧ c = 0 ∧ p = 0 ∧ t = 0 ∧ n = 0 ∧ m = 0 ∧ k = 0)) := by
  have hz : ¬ MayP 0 0 0 0 0 0 0 0 := by unfold MayP; omega
  by_cases h1 : v.size < 8
  · exact ⟨20, 2, 0, 0, 0, 0, 0, 0, 0, 0, ⟨#[]⟩, fun w => get_short v w h1, fun w => put_f _ _ _ _ _ _ _ _ w hz, .inr ⟨rfl, rfl, rfl, rfl, rfl, rfl, rfl, rfl, rfl, rfl⟩⟩
  by_cases h2 : 8 < v.size
  · exact ⟨70, 2, 0, 0, 0, 0, 0, 0, 0, 0, ⟨#[]⟩, fun w => get_long v w h2 h', fun w => put_f _ _ _ _ _ _ _ _ w hz, .inr ⟨rfl, rfl, rfl, rfl, rfl, rfl, rfl, rfl, rfl, rfl⟩⟩
  by_cases h3 : GetP v
  · refine ⟨0, 0, _, _, _, _, _, _, _, _, v, fun w => get_ok v w (by omega) (by omega) h3, fun w => ?_, .inl ⟨rfl, rfl, rfl⟩⟩
    have h4 := got_put v (by omega)
    have h0 := oct_le v 0
    have h1 := oct_le v 1
    have h2 := oct_le v 2
    have := put_t _ _ _ _ _ _ _ _ w h3 h0 (by omega) (by omega) (by omega)
    rw [h4] at this
    exact this
  · exact ⟨70, 2, 0, 0, 0, 0, 0, 0, 0, 0, ⟨#[]⟩, fun w => get_bad v w (by omega) (by omega) h3, fun w => put_f _ _ _ _ _ _ _ _ w hz, .inr ⟨rfl, rfl, rfl, rfl, rfl, rfl, rfl, rfl, rfl, rfl⟩⟩
/-- what is agreed may be -/
theorem may_agreed {d f c p t n m k d' f' c' p' t' n' m' k' : Int} (h : MayP d f c p t n m k) (h' : MayP d' f' c' p' t' n' m' k') : MayP d' f' c' p' t' (min n n') m' (min k k') := by
  unfold MayP at *
  omega
theorem low_agreed (n k d' f' c' p' t' n' m' k' : Int) : lowB d' f' c' p' t' (min n n') m' (min k k') d' f' c' p' t' n' m' k' = true := lowB_t ⟨rfl, rfl, rfl, rfl, rfl, rfl, by omega, by omega⟩
end Go.Proofs.Ytcnckejeepkflaa
