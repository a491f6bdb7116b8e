/- PnBack: for every input the law returns true, and each argument reads afterwards as it read before. No condition. -/
import Derived.Test.YtcnckejeepkflaaW11
import Derived.Test.YtcnckejeepkflaaFr
set_option linter.unusedSimpArgs false
set_option linter.unusedVariables false
namespace Go.Proofs.Ytcnckejeepkflaa.pnBack
open Go.ChangeShapes Go.WideShapes Go.ChangeAt Go.RowKit Go.Joins Go.Deep Go.Eff Go.Fr
open Go.ChangeMaps (open_string shut_string)

theorem own : ownKnob Try.prog.godebug = none := by kernel_rfl
theorem laidOut : laidOutB Try.prog = true := by kernel_rfl
set_option maxRecDepth 100000 in
theorem lifted (os : Os) (started : os.Started) (H : Type) (enc : TypeId × Value → H) :
    ReturnsInHanded {} Try.checked os 5 .any (Rows.pnBackSpec.pre6 enc Try.prog Try.f5 Rows.pnBackRow.domain false) (Rows.pnBackSpec.post enc Try.prog Try.f5 false true false false) := by
  refine returnsInHanded_of_change (C := Try.checked) own started (by kernel_rfl) Try.func5
    (ChangeSpec.witness6 (enc := enc) (C := Try.checked) false ⟨#[], #[.agg #[.int .u8 0, .int .u8 0, .int .u8 0, .int .u8 0, .int .i64 0, .int .i64 0, .int .i64 0, .int .i64 0], .agg #[.int .u8 0, .int .u8 0, .int .u8 0, .int .u8 0, .int .i64 0, .int .i64 0, .int .i64 0, .int .i64 0], .string .empty], []⟩ 8 (by kernel_rfl) (by kernel_rfl) (by kernel_rfl) (by kernel_rfl)) ?_
  intro W base args ds gs before hval0 hW hcnd _
  have hval : ∀ (j : Nat) t v, Try.f5.params[j]? = some t → args[j]? = some v → Value.okWide Try.prog W .any base t v := hval0
  have hW' := hW
  obtain ⟨p, q, hA0, hV, rfl, hfz, hnd⟩ := hW
  have hA : DataW.TrodAll enc Try.prog W 0 (fun _ => true) true Try.f5.params.toList args.toList ds p := hA0
  rw [Try.params5] at hA hval
  obtain ⟨v0, vs0, d0, ds0, p0, q0, hargs, rfl, rfl, h0, r0⟩ := trodAll_cons hA
  obtain ⟨v1, vs1, d1, ds1, p1, q1, rfl, rfl, rfl, h1, r1⟩ := trodAll_cons r0
  obtain ⟨v2, vs2, d2, ds2, p2, q2, rfl, rfl, rfl, h2, r2⟩ := trodAll_cons r1
  obtain ⟨rfl, rfl, rfl⟩ := trodAll_nil r2
  obtain rfl : args = #[v0, v1, v2] := by cases args; simp_all
  obtain ⟨rfl, rfl⟩ := trodVars_none hV
  have k0 := h0
  have lt0 : ∀ x ∈ p0, x.block < W.heap.size := by obtain ⟨m, hm⟩ := k0; exact DataW.trod_lt m _ _ _ hm
  have k1 := h1
  have lt1 : ∀ x ∈ p1, x.block < W.heap.size := by obtain ⟨m, hm⟩ := k1; exact DataW.trod_lt m _ _ _ hm
  have k2 := h2
  have lt2 : ∀ x ∈ p2, x.block < W.heap.size := by obtain ⟨m, hm⟩ := k2; exact DataW.trod_lt m _ _ _ hm
  obtain ⟨c00, c10, c20, c30, c40, c50, c60, c70, y00, y10, y20, y30, y40, y50, y60, y70, n0, rfl, z00, z10, z20, z30, z40, z50, z60, z70⟩ := open_agg8 Try.underlying23 (by kernel_rfl) (by kernel_rfl) (hval 0 23 v0 rfl rfl) h0
  obtain ⟨dx0, rfl, edx0⟩ := field_int (k := .u8) Try.underlying5 z00
  have bdx0 := wf_u8 edx0
  obtain ⟨fx0, rfl, efx0⟩ := field_int (k := .u8) Try.underlying5 z10
  have bfx0 := wf_u8 efx0
  obtain ⟨cx0, rfl, ecx0⟩ := field_int (k := .u8) Try.underlying5 z20
  have bcx0 := wf_u8 ecx0
  obtain ⟨px0, rfl, epx0⟩ := field_int (k := .u8) Try.underlying5 z30
  have bpx0 := wf_u8 epx0
  obtain ⟨tx0, rfl, etx0⟩ := field_int (k := .i64) Try.underlying3 z40
  have btx0 := wf_i64 etx0
  obtain ⟨nx0, rfl, enx0⟩ := field_int (k := .i64) Try.underlying3 z50
  have bnx0 := wf_i64 enx0
  obtain ⟨mx0, rfl, emx0⟩ := field_int (k := .i64) Try.underlying3 z60
  have bmx0 := wf_i64 emx0
  obtain ⟨kx0, rfl, ekx0⟩ := field_int (k := .i64) Try.underlying3 z70
  have bkx0 := wf_i64 ekx0
  obtain ⟨c01, c11, c21, c31, c41, c51, c61, c71, y01, y11, y21, y31, y41, y51, y61, y71, n1, rfl, z01, z11, z21, z31, z41, z51, z61, z71⟩ := open_agg8 Try.underlying23 (by kernel_rfl) (by kernel_rfl) (hval 1 23 v1 rfl rfl) h1
  obtain ⟨dx1, rfl, edx1⟩ := field_int (k := .u8) Try.underlying5 z01
  have bdx1 := wf_u8 edx1
  obtain ⟨fx1, rfl, efx1⟩ := field_int (k := .u8) Try.underlying5 z11
  have bfx1 := wf_u8 efx1
  obtain ⟨cx1, rfl, ecx1⟩ := field_int (k := .u8) Try.underlying5 z21
  have bcx1 := wf_u8 ecx1
  obtain ⟨px1, rfl, epx1⟩ := field_int (k := .u8) Try.underlying5 z31
  have bpx1 := wf_u8 epx1
  obtain ⟨tx1, rfl, etx1⟩ := field_int (k := .i64) Try.underlying3 z41
  have btx1 := wf_i64 etx1
  obtain ⟨nx1, rfl, enx1⟩ := field_int (k := .i64) Try.underlying3 z51
  have bnx1 := wf_i64 enx1
  obtain ⟨mx1, rfl, emx1⟩ := field_int (k := .i64) Try.underlying3 z61
  have bmx1 := wf_i64 emx1
  obtain ⟨kx1, rfl, ekx1⟩ := field_int (k := .i64) Try.underlying3 z71
  have bkx1 := wf_i64 ekx1
  obtain ⟨s, rfl, rfl, rfl, hmaxs⟩ := open_string Try.underlying9 (hval 2 9 v2 rfl rfl) h2
  unfold maxLen at hmaxs
  clear hA0 hval0
  refine (back_any dx0 fx0 cx0 px0 tx0 nx0 mx0 kx0 dx1 fx1 cx1 px1 tx1 nx1 mx1 kx1 s W bdx1 bfx1.1 bcx1.1 bpx1.1 (by omega)).mono fun e W' ⟨he, bel⟩ => ?_
  subst he
  exact ⟨_, rfl, _, _, _, [], _, [], hW', trodAll_mk1 (shut_bool Try.underlying4 _), (trodAll_cons_mk (Below.trod laidOut (by kernel_rfl) (of_decide_eq_true (by kernel_rfl)) k0 bel lt0) (trodAll_cons_mk (Below.trod laidOut (by kernel_rfl) (of_decide_eq_true (by kernel_rfl)) k1 bel lt1) (trodAll_cons_mk (Below.trod laidOut (by kernel_rfl) (of_decide_eq_true (by kernel_rfl)) k2 bel lt2) trodAll_mk0))), rfl, bel.frame _, fun h => by cases h⟩
theorem proved : Rows.PnBackSaid :=
  OpenClaim.holds_of_wide 5 Try.f5 rfl rfl rfl rfl rfl rfl rfl ⟨rfl, rfl, rfl, rfl, rfl⟩ rfl rfl rfl rfl rfl (by kernel_rfl) Try.func5 (by kernel_rfl)
    (of_decide_eq_true (by kernel_rfl)) (by unfold Func.isWrapper; first | (rw [if_pos (by decide +kernel)]; kernel_rfl) | (rw [if_neg (by decide +kernel)]; exact ⟨rfl, rfl⟩))
    (fun os started H enc _ => lifted os started H enc)
#print axioms proved
end Go.Proofs.Ytcnckejeepkflaa.pnBack
