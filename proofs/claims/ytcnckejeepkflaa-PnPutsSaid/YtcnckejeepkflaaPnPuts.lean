/- PnPuts: for every input the law returns true, and each argument reads afterwards as it read before. No condition. -/
import Derived.Test.YtcnckejeepkflaaW9
import Derived.Test.YtcnckejeepkflaaFr
set_option linter.unusedSimpArgs false
set_option linter.unusedVariables false
namespace Go.Proofs.Ytcnckejeepkflaa.pnPuts
open Go.ChangeShapes Go.WideShapes Go.ChangeAt Go.RowKit Go.Joins Go.Deep Go.Eff Go.Fr
open Go.ChangeMaps (open_string shut_string)

theorem own : ownKnob Try.prog.godebug = none := by kernel_rfl
theorem laidOut : laidOutB Try.prog = true := by kernel_rfl
set_option maxRecDepth 100000 in
theorem lifted (os : Os) (started : os.Started) (H : Type) (enc : TypeId × Value → H) :
    ReturnsInHanded {} Try.checked os 3 .any (Rows.pnPutsSpec.pre6 enc Try.prog Try.f3 Rows.pnPutsRow.domain false) (Rows.pnPutsSpec.post enc Try.prog Try.f3 false true false false) := by
  refine returnsInHanded_of_change (C := Try.checked) own started (by kernel_rfl) Try.func3
    (ChangeSpec.witness6 (enc := enc) (C := Try.checked) false ⟨#[], #[.agg #[.int .u8 0, .int .u8 0, .int .u8 0, .int .u8 0, .int .i64 0, .int .i64 0, .int .i64 0, .int .i64 0], .string .empty], []⟩ 8 (by kernel_rfl) (by kernel_rfl) (by kernel_rfl) (by kernel_rfl)) ?_
  intro W base args ds gs before hval0 hW hcnd _
  have hval : ∀ (j : Nat) t v, Try.f3.params[j]? = some t → args[j]? = some v → Value.okWide Try.prog W .any base t v := hval0
  have hW' := hW
  obtain ⟨p, q, hA0, hV, rfl, hfz, hnd⟩ := hW
  have hA : DataW.TrodAll enc Try.prog W 0 (fun _ => true) true Try.f3.params.toList args.toList ds p := hA0
  rw [Try.params3] at hA hval
  obtain ⟨v0, vs0, d0, ds0, p0, q0, hargs, rfl, rfl, h0, r0⟩ := trodAll_cons hA
  obtain ⟨v1, vs1, d1, ds1, p1, q1, rfl, rfl, rfl, h1, r1⟩ := trodAll_cons r0
  obtain ⟨rfl, rfl, rfl⟩ := trodAll_nil r1
  obtain rfl : args = #[v0, v1] := by cases args; simp_all
  obtain ⟨rfl, rfl⟩ := trodVars_none hV
  have k0 := h0
  have lt0 : ∀ x ∈ p0, x.block < W.heap.size := by obtain ⟨m, hm⟩ := k0; exact DataW.trod_lt m _ _ _ hm
  have k1 := h1
  have lt1 : ∀ x ∈ p1, x.block < W.heap.size := by obtain ⟨m, hm⟩ := k1; exact DataW.trod_lt m _ _ _ hm
  obtain ⟨c00, c10, c20, c30, c40, c50, c60, c70, y00, y10, y20, y30, y40, y50, y60, y70, n0, rfl, z00, z10, z20, z30, z40, z50, z60, z70⟩ := open_agg8 Try.underlying23 (by kernel_rfl) (by kernel_rfl) (hval 0 23 v0 rfl rfl) h0
  obtain ⟨dx0, rfl, edx0⟩ := field_int (k := .u8) Try.underlying5 z00
  have bdx0 := wf_u8 edx0
  obtain ⟨fx0, rfl, efx0⟩ := field_int (k := .u8) Try.underlying5 z10
  have bfx0 := wf_u8 efx0
  obtain ⟨cx0, rfl, ecx0⟩ := field_int (k := .u8) Try.underlying5 z20
  have bcx0 := wf_u8 ecx0
  obtain ⟨px0, rfl, epx0⟩ := field_int (k := .u8) Try.underlying5 z30
  have bpx0 := wf_u8 epx0
  obtain ⟨tx0, rfl, etx0⟩ := field_int (k := .i64) Try.underlying3 z40
  have btx0 := wf_i64 etx0
  obtain ⟨nx0, rfl, enx0⟩ := field_int (k := .i64) Try.underlying3 z50
  have bnx0 := wf_i64 enx0
  obtain ⟨mx0, rfl, emx0⟩ := field_int (k := .i64) Try.underlying3 z60
  have bmx0 := wf_i64 emx0
  obtain ⟨kx0, rfl, ekx0⟩ := field_int (k := .i64) Try.underlying3 z70
  have bkx0 := wf_i64 ekx0
  obtain ⟨s, rfl, rfl, rfl, hmaxs⟩ := open_string Try.underlying9 (hval 1 9 v1 rfl rfl) h1
  unfold maxLen at hmaxs
  clear hA0 hval0
  refine (puts_any dx0 fx0 cx0 px0 tx0 nx0 mx0 kx0 s W bdx0 bfx0.1 bcx0.1 bpx0.1 (by omega)).mono fun e W' ⟨he, bel⟩ => ?_
  subst he
  exact ⟨_, rfl, _, _, _, [], _, [], hW', trodAll_mk1 (shut_bool Try.underlying4 _), (trodAll_cons_mk (Below.trod laidOut (by kernel_rfl) (of_decide_eq_true (by kernel_rfl)) k0 bel lt0) (trodAll_cons_mk (Below.trod laidOut (by kernel_rfl) (of_decide_eq_true (by kernel_rfl)) k1 bel lt1) trodAll_mk0)), rfl, bel.frame _, fun h => by cases h⟩
theorem proved : Rows.PnPutsSaid :=
  OpenClaim.holds_of_wide 3 Try.f3 rfl rfl rfl rfl rfl rfl rfl ⟨rfl, rfl, rfl, rfl, rfl⟩ rfl rfl rfl rfl rfl (by kernel_rfl) Try.func3 (by kernel_rfl)
    (of_decide_eq_true (by kernel_rfl)) (by unfold Func.isWrapper; first | (rw [if_pos (by decide +kernel)]; kernel_rfl) | (rw [if_neg (by decide +kernel)]; exact ⟨rfl, rfl⟩))
    (fun os started H enc _ => lifted os started H enc)
#print axioms proved
end Go.Proofs.Ytcnckejeepkflaa.pnPuts
