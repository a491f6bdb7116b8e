/- One round of pdqsortOrdered, as a plain law; the sort's contracts over a row of any length. -/
import Derived.Test.YtckjgdlceckhpaaS4
import Derived.Test.YtckjgdlceckhpaaS9
import Derived.Sort.Walk13a
set_option linter.unusedSimpArgs false
set_option linter.unusedVariables false
namespace Go.Proofs.Ytckjgdlceckhpaa
open Go.RowKit Go.Eff
open Go.Sort (swp ltInt insertionSort heapSort partialInsertionSort breakPatterns reverseRange choosePivot Hint partition partitionEqual pdq rd rd_facts)
attribute [local irreducible] Go.wpList
structure PdqR (d : Array Int) (a b lim n : Nat) (wb wp : Bool) (D1 D2 D3 : Array Int) (lm cp pv : Nat) (ch hh : Hint) (pd : Bool) : Prop where
  brk : wb = false → breakPatterns d a b = D1 ∧ lim - 1 = lm
  nob : wb = true → d = D1 ∧ lim = lm
  n1 : D1.size = n
  cpv : choosePivot ltInt D1 a b = (cp, ch)
  rev : ch = .decreasing → reverseRange D1 a b = D2 ∧ (b - 1) - (cp - a) = pv ∧ hh = .increasing
  nor : ch ≠ .decreasing → D1 = D2 ∧ cp = pv ∧ ch = hh
  n2 : D2.size = n
  pa : a ≤ cp ∧ cp < b
  pb : a ≤ pv ∧ pv < b
  pin : wb = true → wp = true → hh = .increasing → partialInsertionSort ltInt D2 a b = (D3, pd)
  nop : ¬ (wb = true ∧ wp = true ∧ hh = .increasing) → D2 = D3 ∧ pd = false
  n3 : D3.size = n
  lm_le : lm ≤ lim
  done : pd = true → pdq ltInt d a b lim wb wp = D3
  peq : pd = false → 0 < a → ltInt D3[a - 1]! D3[pv]! = false → ∃ mid d4, partitionEqual ltInt D3 a b pv = (mid, d4) ∧ a < mid ∧ mid ≤ b ∧ d4.size = n ∧ Go.Sort.Below ltInt mid b d4 ∧ pdq ltInt d a b lim wb wp = pdq ltInt d4 mid b lm wb wp
  prt : pd = false → (a = 0 ∨ ltInt D3[a - 1]! D3[pv]! = true) → ∃ mid ap d4, partition ltInt D3 a b pv = (mid, ap, d4) ∧ a ≤ mid ∧ mid < b ∧ d4.size = n ∧ Go.Sort.Below ltInt a mid d4 ∧ Go.Sort.Below ltInt (mid + 1) b d4 ∧
    (mid - a < b - mid → ∃ L, pdq ltInt d4 a mid lm true true = L ∧ L.size = n ∧ Go.Sort.Below ltInt (mid + 1) b L ∧ pdq ltInt d a b lim wb wp = pdq ltInt L (mid + 1) b lm (decide (mid - a ≥ (b - a) / 8)) ap) ∧
    (¬ mid - a < b - mid → ∃ L, pdq ltInt d4 (mid + 1) b lm true true = L ∧ L.size = n ∧ Go.Sort.Below ltInt a mid L ∧ pdq ltInt d a b lim wb wp = pdq ltInt L a mid lm (decide (b - mid ≥ (b - a) / 8)) ap)
theorem pdq_round {d : Array Int} {a b lim n : Nat} {wb wp : Bool} (hn : d.size = n) (hab : a < b) (hb : b ≤ n) (hB : Go.Sort.Below ltInt a b d) (h12 : ¬ b - a ≤ 12) (h0 : ¬ lim = 0) :
    ∃ D1 D2 D3 lm cp pv ch hh pd, PdqR d a b lim n wb wp D1 D2 D3 lm cp pv ch hh pd := by
  subst hn
  obtain ⟨s1, B1, hc1, s2, B2, hpv, s3, B3⟩ := rd_facts (lt := ltInt) (d := d) (a := a) (b := b) (limit := lim) (wb := wb) (wp := wp) Go.Sort.swo_ltInt Go.Sort.partialInsertionSort_holds Go.Sort.reverseRange_holds hab hb hB
  refine ⟨(rd ltInt d a b lim wb wp).d1, (rd ltInt d a b lim wb wp).d2, (rd ltInt d a b lim wb wp).pi.1, (rd ltInt d a b lim wb wp).lim, (rd ltInt d a b lim wb wp).c.1, (rd ltInt d a b lim wb wp).pivot, (rd ltInt d a b lim wb wp).c.2, (rd ltInt d a b lim wb wp).hint, (rd ltInt d a b lim wb wp).pi.2, ?_⟩
  refine ⟨?_, ?_, s1, rfl, ?_, ?_, s2, hc1, hpv, ?_, ?_, s3, Go.Sort.rd_lim_le, ?_, ?_, ?_⟩
  · rintro rfl; exact ⟨Go.Sort.rd_false.1.symm, Go.Sort.rd_false.2.symm⟩
  · rintro rfl; exact ⟨Go.Sort.rd_true.1.symm, Go.Sort.rd_true.2.symm⟩
  · intro h; have := Go.Sort.rd_dec h; exact ⟨this.1.symm, this.2.1.symm, this.2.2⟩
  · intro h; have := Go.Sort.rd_not h; exact ⟨this.1.symm, this.2.1.symm, this.2.2.symm⟩
  · intro h1 h2 h3; rw [Go.Sort.rd_pi_yes (by rw [h3, h1, h2]; rfl)]
  · intro h
    have hc : (wb && wp && decide ((rd ltInt d a b lim wb wp).hint = .increasing)) = false := by
      cases hw : (wb && wp && decide ((rd ltInt d a b lim wb wp).hint = .increasing)) with
      | false => rfl
      | true => simp only [Bool.and_eq_true, decide_eq_true_eq] at hw; exact absurd ⟨hw.1.1, hw.1.2, hw.2⟩ h
    rw [Go.Sort.rd_pi_no hc]
    exact ⟨rfl, rfl⟩
  · intro h; exact Go.Sort.pdq_done h12 h0 h
  · intro h1 ha hl
    obtain ⟨mid, d4, hx⟩ : ∃ mid d4, partitionEqual ltInt (rd ltInt d a b lim wb wp).pi.1 a b (rd ltInt d a b lim wb wp).pivot = (mid, d4) := ⟨_, _, rfl⟩
    obtain ⟨r1, r2, r3, r4, _⟩ := Go.Sort.round_eq Go.Sort.swo_ltInt (Go.Sort.partitionEqual_holds ltInt) ha hpv.1 hpv.2 (by omega) B3 hl hx
    refine ⟨mid, d4, hx, r1, r2, r3.trans s3, r4, ?_⟩
    rw [Go.Sort.pdq_eq h12 h0 h1 (by rw [hl]; simpa using ha) (by rw [hx]; exact ⟨r1, r2⟩), hx]
  · intro h1 hl
    obtain ⟨mid, ap, d4, hx⟩ : ∃ mid ap d4, partition ltInt (rd ltInt d a b lim wb wp).pi.1 a b (rd ltInt d a b lim wb wp).pivot = (mid, ap, d4) := ⟨_, _, _, rfl⟩
    obtain ⟨r1, r2, r3, r4, r5, r6, r7⟩ := Go.Sort.round_part Go.Sort.swo_ltInt (Go.Sort.partition_holds ltInt) hpv.1 hpv.2 (by omega) B3 hx
    have hl2 : (decide (a > 0) && !ltInt (rd ltInt d a b lim wb wp).pi.1[a - 1]! (rd ltInt d a b lim wb wp).pi.1[(rd ltInt d a b lim wb wp).pivot]!) = false := by
      rcases hl with h | h
      · simp [h]
      · simp [h]
    refine ⟨mid, ap, d4, hx, r1, r2, r3.trans s3, r4, r5, fun h4 => ?_, fun h4 => ?_⟩
    · obtain ⟨pL, sL⟩ := Go.Sort.pdq_sorts ltInt Go.Sort.swo_ltInt d4 a mid (rd ltInt d a b lim wb wp).lim true true r1 (by omega) r4
      refine ⟨_, rfl, pL.1.trans (r3.trans s3), (r6 _ pL sL).1, ?_⟩
      rw [Go.Sort.pdq_left h12 h0 h1 hl2 (by rw [hx]; exact ⟨r1, r2⟩) (by rw [hx]; exact h4), hx]
    · obtain ⟨pL, sL⟩ := Go.Sort.pdq_sorts ltInt Go.Sort.swo_ltInt d4 (mid + 1) b (rd ltInt d a b lim wb wp).lim true true (by omega) (by omega) r5
      refine ⟨_, rfl, pL.1.trans (r3.trans s3), (r7 _ pL sL).1, ?_⟩
      rw [Go.Sort.pdq_right h12 h0 h1 hl2 (by rw [hx]; exact ⟨r1, r2⟩) (by rw [hx]; exact h4), hx]
section
variable {g cap a b n : Nat} {pad : List Value} {d D : Array Int} {w : World}
theorem ins_n (hn : d.size = n) (hD : insertionSort ltInt d a b = D) (hab : a ≤ b) (hb : b ≤ n) (hsz : n ≤ 1000) (hB : SB w g pad d) :
    Calls Try.prog 27 #[.slice (some ⟨g, 0, none⟩) n cap, .int .i64 a, .int .i64 b] w (Ret (.tuple #[]) fun w' => SB w' g pad D ∧ w.grownBy w' (some g)) := by
  subst hn hD
  exact ins_any g cap a b pad d w hB hab hb hsz
theorem heap_n (hn : d.size = n) (hD : heapSort ltInt d a b = D) (hab : a < b) (hb : b ≤ n) (hsz : n ≤ 1000) (hB : SB w g pad d) :
    Calls Try.prog 28 #[.slice (some ⟨g, 0, none⟩) n cap, .int .i64 a, .int .i64 b] w (Ret (.tuple #[]) fun w' => SB w' g pad D ∧ w.grownBy w' (some g)) := by
  subst hn hD
  exact heap_any g cap a b pad d w hB hab hb hsz
theorem brk_n (hn : d.size = n) (hD : breakPatterns d a b = D) (hab : a ≤ b) (hb : b ≤ n) (hsz : n ≤ 1000) (hB : SB w g pad d) :
    Calls Try.prog 29 #[.slice (some ⟨g, 0, none⟩) n cap, .int .i64 a, .int .i64 b] w (Ret (.tuple #[]) fun w' => SB w' g pad D ∧ w.grownBy w' (some g)) := by
  subst hn hD
  exact brk_any g cap a b pad d w hB hab hb hsz
theorem rev_n (hn : d.size = n) (hD : reverseRange d a b = D) (hab : a < b) (hb : b ≤ n) (hsz : n ≤ 1000) (hB : SB w g pad d) :
    Calls Try.prog 31 #[.slice (some ⟨g, 0, none⟩) n cap, .int .i64 a, .int .i64 b] w (Ret (.tuple #[]) fun w' => SB w' g pad D ∧ w.grownBy w' (some g)) := by
  subst hn hD
  exact rev_any g cap a b pad d w hB hab hb hsz
theorem pin_n {pd : Bool} (hn : d.size = n) (hD : partialInsertionSort ltInt d a b = (D, pd)) (hab : a < b) (hb : b ≤ n) (hsz : n ≤ 1000) (hB : SB w g pad d) :
    Calls Try.prog 32 #[.slice (some ⟨g, 0, none⟩) n cap, .int .i64 a, .int .i64 b] w (Ret (.bool pd) fun w' => SB w' g pad D ∧ w.grownBy w' (some g)) := by
  subst hn
  have h := pin_any g cap a b pad d w hB hab hb hsz
  rw [hD] at h
  exact h
theorem peq_n {pv mid : Nat} (hn : d.size = n) (hD : partitionEqual ltInt d a b pv = (mid, D)) (hap : a ≤ pv) (hpb : pv < b) (hb : b ≤ n) (hsz : n ≤ 1000) (hB : SB w g pad d) :
    Calls Try.prog 34 #[.slice (some ⟨g, 0, none⟩) n cap, .int .i64 a, .int .i64 b, .int .i64 pv] w (Ret (.int .i64 mid) fun w' => SB w' g pad D ∧ w.grownBy w' (some g)) := by
  subst hn
  have h := peq_any g cap a b pv pad d w hB hap hpb hb hsz
  rw [hD] at h
  exact h
theorem prt_n {pv mid : Nat} {ap : Bool} (hn : d.size = n) (hD : partition ltInt d a b pv = (mid, ap, D)) (hap : a ≤ pv) (hpb : pv < b) (hb : b ≤ n) (hsz : n ≤ 1000) (hB : SB w g pad d) :
    Calls Try.prog 35 #[.slice (some ⟨g, 0, none⟩) n cap, .int .i64 a, .int .i64 b, .int .i64 pv] w (Ret (.tuple #[.int .i64 mid, .bool ap]) fun w' => SB w' g pad D ∧ w.grownBy w' (some g)) := by
  subst hn
  have h := prt_any g cap a b pv pad d w hB hap hpb hb hsz
  rw [hD] at h
  exact h
end
end Go.Proofs.Ytckjgdlceckhpaa
