/- The document's link does as the same function tells. -/
import Derived.Test.YtggpecddkbceoaaL6b
import Derived.Test.YtggpecddkbceoaaKf
set_option linter.unusedSimpArgs false
set_option linter.unusedVariables false
namespace Go.Proofs.Ytggpecddkbceoaa
open Go.RowKit Go.Eff
attribute [local irreducible] Go.wpList
def RL (w : World) (h : Nat) (l : LS) : Prop := RB w h l.s l.ls l.tr l.mo
abbrev DoesR (f : FuncId) (args : Array Value) (h : Nat) (x : AT × LS) (w : World) : Prop := Calls Try.prog f args w (Ret (aV x.1) fun w' => RL w' h x.2 ∧ w.grownBy w' (some h))
theorem ropen_any (h : Nat) (l : LS) (hg : Good l) (w : World) (hR : RL w h l) : DoesR 24 #[.pointer (some ⟨h, 0, none⟩)] h (evF l .opens) w := by
  obtain ⟨s, ls, tr, mo⟩ := l
  obtain ⟨hs, ht1, ht2, ht3⟩ := hg
  dsimp only at hs ht1 ht2 ht3
  rcases hs with rfl | rfl | rfl | rfl | rfl
  · rw [show evF ⟨1, ls, tr, mo⟩ .opens = ((1, true, true, 1, 0), ⟨2, ls, 0, mo⟩) from by simp [evF, downF, openingF, upF, closingF, beginF, againF, goF]]
    exact ropen_1 h ls tr mo w hR
  · rw [show evF ⟨2, ls, tr, mo⟩ .opens = ((0, false, false, 0, 0), ⟨2, ls, tr, mo⟩) from by simp [evF, downF, openingF, upF, closingF, beginF, againF, goF]]
    exact ropen_2 h ls tr mo w hR
  · rw [show evF ⟨3, ls, tr, mo⟩ .opens = ((0, false, false, 0, 0), ⟨3, ls, tr, mo⟩) from by simp [evF, downF, openingF, upF, closingF, beginF, againF, goF]]
    exact ropen_3 h ls tr mo w hR
  · rw [show evF ⟨4, ls, tr, mo⟩ .opens = ((0, false, false, 0, 0), ⟨4, ls, tr, mo⟩) from by simp [evF, downF, openingF, upF, closingF, beginF, againF, goF]]
    exact ropen_4 h ls tr mo w hR
  · rw [show evF ⟨5, ls, tr, mo⟩ .opens = ((1, true, true, 1, 0), ⟨2, ls, 0, mo⟩) from by simp [evF, downF, openingF, upF, closingF, beginF, againF, goF]]
    exact ropen_5 h ls tr mo w hR
theorem rclose_any (h : Nat) (l : LS) (hg : Good l) (w : World) (hR : RL w h l) : DoesR 25 #[.pointer (some ⟨h, 0, none⟩)] h (evF l .closes) w := by
  obtain ⟨s, ls, tr, mo⟩ := l
  obtain ⟨hs, ht1, ht2, ht3⟩ := hg
  dsimp only at hs ht1 ht2 ht3
  rcases hs with rfl | rfl | rfl | rfl | rfl
  · rw [show evF ⟨1, ls, tr, mo⟩ .closes = ((0, false, false, 0, 0), ⟨1, ls, tr, mo⟩) from by simp [evF, downF, openingF, upF, closingF, beginF, againF, goF]]
    exact rclose_1 h ls tr mo w hR
  · rw [show evF ⟨2, ls, tr, mo⟩ .closes = ((4, true, true, 1, 0), ⟨4, ls, 0, mo⟩) from by simp [evF, downF, openingF, upF, closingF, beginF, againF, goF]]
    exact rclose_2 h ls tr mo w hR
  · rw [show evF ⟨3, ls, tr, mo⟩ .closes = ((4, true, true, 1, 0), ⟨4, ls, 0, mo⟩) from by simp [evF, downF, openingF, upF, closingF, beginF, againF, goF]]
    exact rclose_3 h ls tr mo w hR
  · rw [show evF ⟨4, ls, tr, mo⟩ .closes = ((0, false, false, 0, 0), ⟨4, ls, tr, mo⟩) from by simp [evF, downF, openingF, upF, closingF, beginF, againF, goF]]
    exact rclose_4 h ls tr mo w hR
  · rw [show evF ⟨5, ls, tr, mo⟩ .closes = ((0, false, false, 0, 0), ⟨5, ls, tr, mo⟩) from by simp [evF, downF, openingF, upF, closingF, beginF, againF, goF]]
    exact rclose_5 h ls tr mo w hR
theorem rdue_any (h : Nat) (l : LS) (hg : Good l) (w : World) (hR : RL w h l) : DoesR 26 #[.pointer (some ⟨h, 0, none⟩)] h (evF l .due) w := by
  obtain ⟨s, ls, tr, mo⟩ := l
  obtain ⟨hs, ht1, ht2, ht3⟩ := hg
  dsimp only at hs ht1 ht2 ht3
  rcases hs with rfl | rfl | rfl | rfl | rfl
  · rw [show evF ⟨1, ls, tr, mo⟩ .due = ((0, false, false, 0, 0), ⟨1, ls, tr, mo⟩) from by simp [evF, downF, openingF, upF, closingF, beginF, againF, goF]]
    exact rdue_1 h ls tr mo w hR
  · by_cases hd : tr < mo
    · rw [show evF ⟨2, ls, tr, mo⟩ .due = ((1, true, true, 1, 0), ⟨2, ls, (tr + 1), mo⟩) from by simp [evF, downF, openingF, upF, closingF, beginF, againF, goF, hd]]
      exact rdue_2M h ls tr mo w hR hd ⟨ht1, ht3⟩
    · rw [show evF ⟨2, ls, tr, mo⟩ .due = ((0, false, false, 2, 6), ⟨5, ls, tr, mo⟩) from by simp [evF, downF, openingF, upF, closingF, beginF, againF, goF, hd]]
      exact rdue_2E h ls tr mo w hR hd
  · rw [show evF ⟨3, ls, tr, mo⟩ .due = ((0, false, false, 0, 0), ⟨3, ls, tr, mo⟩) from by simp [evF, downF, openingF, upF, closingF, beginF, againF, goF]]
    exact rdue_3 h ls tr mo w hR
  · by_cases hd : tr < mo
    · rw [show evF ⟨4, ls, tr, mo⟩ .due = ((4, true, true, 1, 0), ⟨4, ls, (tr + 1), mo⟩) from by simp [evF, downF, openingF, upF, closingF, beginF, againF, goF, hd]]
      exact rdue_4M h ls tr mo w hR hd ⟨ht1, ht3⟩
    · rw [show evF ⟨4, ls, tr, mo⟩ .due = ((0, false, false, 2, 6), ⟨5, ls, tr, mo⟩) from by simp [evF, downF, openingF, upF, closingF, beginF, againF, goF, hd]]
      exact rdue_4E h ls tr mo w hR hd
  · rw [show evF ⟨5, ls, tr, mo⟩ .due = ((0, false, false, 0, 0), ⟨5, ls, tr, mo⟩) from by simp [evF, downF, openingF, upF, closingF, beginF, againF, goF]]
    exact rdue_5 h ls tr mo w hR
theorem rcmd_any (h : Nat) (l : LS) (hg : Good l) (k : Int) (p : Bool) (w : World) (hR : RL w h l) : DoesR 33 #[.pointer (some ⟨h, 0, none⟩), .int .u8 k, .bool p] h (heardF l k p) w := by
  obtain ⟨s, ls, tr, mo⟩ := l
  obtain ⟨hs, ht1, ht2, ht3⟩ := hg
  dsimp only at hs ht1 ht2 ht3
  rcases hs with rfl | rfl | rfl | rfl | rfl
  · by_cases h1 : k = 1
    · subst h1
      cases ls
      · rw [show heardF ⟨1, false, tr, mo⟩ 1 p = ((3, false, p, 0, 0), ⟨1, false, tr, mo⟩) from by simp [evF, downF, openingF, upF, closingF, beginF, againF, goF, heardF, bitF, ansOf]]
        exact rcmd_1_1f h tr mo p w hR
      · rw [show heardF ⟨1, true, tr, mo⟩ 1 p = ((2, false, p, 0, 2), ⟨3, true, tr, mo⟩) from by simp [evF, downF, openingF, upF, closingF, beginF, againF, goF, heardF, bitF, ansOf]]
        exact rcmd_1_1t h tr mo p w hR
    by_cases h4 : k = 4
    · subst h4
      rw [show heardF ⟨1, ls, tr, mo⟩ 4 p = ((3, false, p, 0, 0), ⟨1, ls, tr, mo⟩) from by simp [evF, downF, openingF, upF, closingF, beginF, againF, goF, heardF, bitF, ansOf]]
      exact rcmd_1_4 h ls tr mo p w hR
    cases p
    · rw [show heardF ⟨1, ls, tr, mo⟩ k false = ((0, false, false, 0, 0), ⟨1, ls, tr, mo⟩) from by simp [evF, downF, openingF, upF, closingF, beginF, againF, goF, heardF, bitF, ansOf, h1, h4]]
      exact rcmd_1_on h ls tr mo k w hR h1 h4
    · rw [show heardF ⟨1, ls, tr, mo⟩ k true = ((3, false, true, 0, 0), ⟨1, ls, tr, mo⟩) from by simp [evF, downF, openingF, upF, closingF, beginF, againF, goF, heardF, bitF, ansOf, h1, h4]]
      exact rcmd_1_op h ls tr mo k w hR h1 h4
  · by_cases h1 : k = 1
    · subst h1
      rw [show heardF ⟨2, ls, tr, mo⟩ 1 p = ((2, false, p, 0, 0), ⟨2, ls, tr, mo⟩) from by simp [evF, downF, openingF, upF, closingF, beginF, againF, goF, heardF, bitF, ansOf]]
      exact rcmd_2_1 h ls tr mo p w hR
    by_cases h4 : k = 4
    · subst h4
      rw [show heardF ⟨2, ls, tr, mo⟩ 4 p = ((3, false, p, 2, 4), ⟨1, ls, tr, mo⟩) from by simp [evF, downF, openingF, upF, closingF, beginF, againF, goF, heardF, bitF, ansOf]]
      exact rcmd_2_4 h ls tr mo p w hR
    rw [show heardF ⟨2, ls, tr, mo⟩ k p = ((0, false, false, 0, 0), ⟨2, ls, tr, mo⟩) from by simp [evF, downF, openingF, upF, closingF, beginF, againF, goF, heardF, bitF, ansOf, h1, h4]]
    exact rcmd_2_o h ls tr mo p k w hR h1 h4
  · by_cases h1 : k = 1
    · subst h1
      rw [show heardF ⟨3, ls, tr, mo⟩ 1 p = ((2, false, p, 0, 3), ⟨3, ls, tr, mo⟩) from by simp [evF, downF, openingF, upF, closingF, beginF, againF, goF, heardF, bitF, ansOf]]
      exact rcmd_3_1 h ls tr mo p w hR
    by_cases h4 : k = 4
    · subst h4
      rw [show heardF ⟨3, ls, tr, mo⟩ 4 p = ((2, false, p, 0, 5), ⟨1, ls, tr, mo⟩) from by simp [evF, downF, openingF, upF, closingF, beginF, againF, goF, heardF, bitF, ansOf]]
      exact rcmd_3_4 h ls tr mo p w hR
    rw [show heardF ⟨3, ls, tr, mo⟩ k p = ((0, false, false, 0, 0), ⟨3, ls, tr, mo⟩) from by simp [evF, downF, openingF, upF, closingF, beginF, againF, goF, heardF, bitF, ansOf, h1, h4]]
    exact rcmd_3_o h ls tr mo p k w hR h1 h4
  · by_cases h1 : k = 1
    · subst h1
      rw [show heardF ⟨4, ls, tr, mo⟩ 1 p = ((3, false, p, 0, 0), ⟨4, ls, tr, mo⟩) from by simp [evF, downF, openingF, upF, closingF, beginF, againF, goF, heardF, bitF, ansOf]]
      exact rcmd_4_1 h ls tr mo p w hR
    by_cases h4 : k = 4
    · subst h4
      rw [show heardF ⟨4, ls, tr, mo⟩ 4 p = ((2, false, p, 0, 0), ⟨4, ls, tr, mo⟩) from by simp [evF, downF, openingF, upF, closingF, beginF, againF, goF, heardF, bitF, ansOf]]
      exact rcmd_4_4 h ls tr mo p w hR
    rw [show heardF ⟨4, ls, tr, mo⟩ k p = ((0, false, false, 0, 0), ⟨4, ls, tr, mo⟩) from by simp [evF, downF, openingF, upF, closingF, beginF, againF, goF, heardF, bitF, ansOf, h1, h4]]
    exact rcmd_4_o h ls tr mo p k w hR h1 h4
  · by_cases h1 : k = 1
    · subst h1
      cases ls
      · rw [show heardF ⟨5, false, tr, mo⟩ 1 p = ((3, false, p, 0, 0), ⟨5, false, tr, mo⟩) from by simp [evF, downF, openingF, upF, closingF, beginF, againF, goF, heardF, bitF, ansOf]]
        exact rcmd_5_1f h tr mo p w hR
      · rw [show heardF ⟨5, true, tr, mo⟩ 1 p = ((2, false, p, 0, 2), ⟨3, true, tr, mo⟩) from by simp [evF, downF, openingF, upF, closingF, beginF, againF, goF, heardF, bitF, ansOf]]
        exact rcmd_5_1t h tr mo p w hR
    by_cases h4 : k = 4
    · subst h4
      rw [show heardF ⟨5, ls, tr, mo⟩ 4 p = ((3, false, p, 0, 0), ⟨5, ls, tr, mo⟩) from by simp [evF, downF, openingF, upF, closingF, beginF, againF, goF, heardF, bitF, ansOf]]
      exact rcmd_5_4 h ls tr mo p w hR
    cases p
    · rw [show heardF ⟨5, ls, tr, mo⟩ k false = ((0, false, false, 0, 0), ⟨5, ls, tr, mo⟩) from by simp [evF, downF, openingF, upF, closingF, beginF, againF, goF, heardF, bitF, ansOf, h1, h4]]
      exact rcmd_5_on h ls tr mo k w hR h1 h4
    · rw [show heardF ⟨5, ls, tr, mo⟩ k true = ((3, false, true, 0, 0), ⟨5, ls, tr, mo⟩) from by simp [evF, downF, openingF, upF, closingF, beginF, againF, goF, heardF, bitF, ansOf, h1, h4]]
      exact rcmd_5_op h ls tr mo k w hR h1 h4
theorem rhear_any (h : Nat) (l : LS) (hg : Good l) (k : Int) (pf cmd : Bool) (w : World) (hR : RL w h l) : DoesR 27 #[.pointer (some ⟨h, 0, none⟩), .int .u8 k, .bool pf, .bool cmd] h (hearF l k pf cmd) w := by
  unfold hearF
  by_cases h1 : k < 1
  · rw [if_pos h1]
    exact rhear_low h l.s l.ls l.tr l.mo k pf cmd w hR h1
  rw [if_neg h1]
  by_cases h10 : 10 < k
  · rw [if_pos h10]
    exact rhear_up h l.s l.ls l.tr l.mo k pf cmd w hR h1 h10
  rw [if_neg h10]
  by_cases h2 : k = 2
  · rw [if_pos h2]
    subst h2
    cases cmd with
    | true => exact rhear_own2 h l.s l.ls l.tr l.mo pf w hR
    | false =>
      obtain ⟨s, ls, tr, mo⟩ := l
      obtain ⟨hs, ht1, ht2, ht3⟩ := hg
      dsimp only at hs ht1 ht2 ht3
      rcases hs with rfl | rfl | rfl | rfl | rfl <;> cases pf
      · exact rhear_1_2n h ls tr mo w hR
      · exact rhear_1_2p h ls tr mo w hR
      · exact rhear_2_2n h ls tr mo w hR
      · exact rhear_2_2p h ls tr mo w hR
      · exact rhear_3_2n h ls tr mo w hR
      · exact rhear_3_2p h ls tr mo w hR
      · exact rhear_4_2n h ls tr mo w hR
      · exact rhear_4_2p h ls tr mo w hR
      · exact rhear_5_2n h ls tr mo w hR
      · exact rhear_5_2p h ls tr mo w hR
  rw [if_neg h2]
  by_cases h3 : k = 3
  · rw [if_pos h3]
    subst h3
    cases cmd with
    | true => exact rhear_own3 h l.s l.ls l.tr l.mo pf w hR
    | false =>
      obtain ⟨s, ls, tr, mo⟩ := l
      obtain ⟨hs, ht1, ht2, ht3⟩ := hg
      dsimp only at hs ht1 ht2 ht3
      rcases hs with rfl | rfl | rfl | rfl | rfl <;> cases pf
      · exact rhear_1_3n h ls tr mo w hR
      · exact rhear_1_3p h ls tr mo w hR
      · exact rhear_2_3n h ls tr mo w hR
      · exact rhear_2_3p h ls tr mo w hR
      · exact rhear_3_3n h ls tr mo w hR
      · exact rhear_3_3p h ls tr mo w hR
      · exact rhear_4_3n h ls tr mo w hR
      · exact rhear_4_3p h ls tr mo w hR
      · exact rhear_5_3n h ls tr mo w hR
      · exact rhear_5_3p h ls tr mo w hR
  rw [if_neg h3]
  cases cmd with
  | true => exact rhear_cmd h l.s l.ls l.tr l.mo k pf w hR h1 h10 h2 h3 (fun w hR => rcmd_any h l hg k pf w hR)
  | false =>
    by_cases h4 : k = 1
    · subst h4
      exact rhear_res1 h l.s l.ls l.tr l.mo pf w hR
    by_cases h5 : k = 4
    · subst h5
      exact rhear_res4 h l.s l.ls l.tr l.mo pf w hR
    obtain ⟨s, ls, tr, mo⟩ := l
    obtain ⟨hs, ht1, ht2, ht3⟩ := hg
    dsimp only at hs ht1 ht2 ht3
    rcases hs with rfl | rfl | rfl | rfl | rfl
    · exact rhear_reso_1 h ls tr mo k pf w hR h1 h10 h2 h3 h4 h5
    · exact rhear_reso_2 h ls tr mo k pf w hR h1 h10 h2 h3 h4 h5
    · exact rhear_reso_3 h ls tr mo k pf w hR h1 h10 h2 h3 h4 h5
    · exact rhear_reso_4 h ls tr mo k pf w hR h1 h10 h2 h3 h4 h5
    · exact rhear_reso_5 h ls tr mo k pf w hR h1 h10 h2 h3 h4 h5
theorem rdo_any (h : Nat) (l : LS) (hg : Good l) (kd k : Int) (pf cmd : Bool) (hk : Fit kd) (w : World) (hR : RL w h l) : DoesR 14 #[.pointer (some ⟨h, 0, none⟩), .agg #[.int .i64 kd, .int .u8 k, .bool pf, .bool cmd]] h (doF l (kd % 6) k pf cmd) w := by
  unfold doF
  rcases (by omega : kd % 6 = 0 ∨ kd % 6 = 1 ∨ kd % 6 = 2 ∨ kd % 6 = 3 ∨ kd % 6 = 4 ∨ kd % 6 = 5) with hm | hm | hm | hm | hm | hm
  · rw [if_pos hm]
    exact rdoes_0 h l.s l.ls l.tr l.mo kd k pf cmd w hR hk hm (fun w hR => ropen_any h l hg w hR)
  · rw [if_neg (by omega), if_pos hm]
    exact rdoes_1 h l.s l.ls l.tr l.mo kd k pf cmd w hR hk hm (fun w hR => rclose_any h l hg w hR)
  · rw [if_neg (by omega), if_neg (by omega), if_pos hm]
    exact rdoes_2 h l.s l.ls l.tr l.mo kd k pf cmd w hR hk hm (fun w hR => rdue_any h l hg w hR)
  · rw [if_neg (by omega), if_neg (by omega), if_neg (by omega), if_pos hm]
    exact rdoes_3 h l.s l.ls l.tr l.mo kd k pf cmd w hR hk hm
  · rw [if_neg (by omega), if_neg (by omega), if_neg (by omega), if_neg (by omega)]
    exact rdoes_4 h l.s l.ls l.tr l.mo kd k pf cmd w hR hk hm (fun w hR => rhear_any h l hg k pf cmd w hR)
  · rw [if_neg (by omega), if_neg (by omega), if_neg (by omega), if_neg (by omega)]
    exact rdoes_5 h l.s l.ls l.tr l.mo kd k pf cmd w hR hk hm (fun w hR => rhear_any h l hg k pf cmd w hR)
