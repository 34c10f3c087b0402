/- The row of Shapes: whatever the input, the call returns true, and each argument reads as it did. No condition. -/
import Derived.Test.YtmednnpmkhgfpaaRows
import Derived.Test.YtmednnpmkhgfpaaOpPB
import Derived.Test.YtmednnpmkhgfpaaShOp
import Derived.Test.YtmednnpmkhgfpaaShSh
import Derived.WalkKit
import Derived.ProofKit
import Derived.OpenShut
import Derived.ShutString
import Derived.ChangeOld
import Derived.Below
import Derived.SizedLaws
import Derived.ChangeSlices
namespace Go.Proofs.Ytmednnpmkhgfpaa.shapes
open Go.ChangeShapes Go.WideShapes Go.ChangeAt Go.RowKit Go.Proofs.Ytmednnpmkhgfpaa.Op Go.Proofs.Ytmednnpmkhgfpaa.Opn Go.Proofs.YtmednnpmkhgfpaaW.PrintWords
set_option linter.unusedVariables false
theorem own : ownKnob Try.prog.godebug = none := by kernel_rfl
theorem laid : laidOutB Try.prog = true := by kernel_rfl
set_option maxRecDepth 100000 in
theorem lifted (os : Os) (started : os.Started) (H : Type) (enc : TypeId × Value → H) :
    ReturnsInHanded {} Try.checked os 5 .any (Rows.shapesSpec.pre6 enc Try.prog Try.f5 Rows.shapesRow.domain false) (Rows.shapesSpec.post enc Try.prog Try.f5 false true false false) := by
  refine returnsInHanded_of_change_sized (C := Try.checked) own started (by kernel_rfl) Try.func5
    (ChangeSpec.witness6 (enc := enc) (C := Try.checked) false ⟨#[], #[.agg #[.int .i64 0, .int .i64 0, .slice none 0 0], .agg #[.int .i64 0, .int .i64 0, .slice none 0 0], .agg #[.int .i64 0, .int .i64 0], .agg #[.int .i64 0, .int .i64 0, .int .i64 0, .int .i64 0]], []⟩ 8 (by kernel_rfl) (by kernel_rfl) (by kernel_rfl) (by kernel_rfl)) ?_
  intro W base args ds gs before hval0 hW hcnd hsz0 _
  have hsz : (DataW.weightsEach Try.prog (Try.f5.params.toList ++ Rows.shapesSpec.plain.varTypes Try.prog) (ds ++ gs)).all (· ≤ reachBytes) = true := hsz0
  have hval : ∀ (j : Nat) t v, Try.f5.params[j]? = some t → args[j]? = some v → Value.okWide Try.prog W .any base t v := hval0
  have hW' := hW
  obtain ⟨p, q, hA0, hV, rfl, hfz, hnd⟩ := hW
  have hA : DataW.TrodAll enc Try.prog W 0 (fun _ => true) true Try.f5.params.toList args.toList ds p := hA0
  rw [Try.params5] at hA hval hsz
  obtain ⟨v0, vs0, d0, ds0, p0, q0, hargs, rfl, rfl, h0, r0⟩ := trodAll_cons hA
  obtain ⟨v1, vs1, d1, ds1, p1, q1, rfl, rfl, rfl, h1, r1⟩ := trodAll_cons r0
  obtain ⟨v2, vs2, d2, ds2, p2, q2, rfl, rfl, rfl, h2, r2⟩ := trodAll_cons r1
  obtain ⟨v3, vs3, d3, ds3, p3, q3, rfl, rfl, rfl, h3, r3⟩ := trodAll_cons r2
  obtain ⟨rfl, rfl, rfl⟩ := trodAll_nil r3
  obtain rfl : args = #[v0, v1, v2, v3] := by cases args; simp_all
  obtain ⟨rfl, rfl⟩ := trodVars_none hV
  have k0 := h0
  have lt0 : ∀ x ∈ p0, x.block < W.heap.size := by obtain ⟨m, hm⟩ := k0; exact DataW.trod_lt m _ _ _ hm
  obtain ⟨cs0, rfl, hcs0⟩ := okWide_struct Try.underlying27 (hval 0 27 v0 rfl rfl)
  obtain ⟨x0, hK0, hk0⟩ := opens_arg SH.opensFt h0 hsz (j := 0) rfl rfl
  obtain ⟨A0, c0, e0, hc0, hC0⟩ := SH.kFt_open hK0
  have e02 : cs0.toList = [.int .i64 x0.id, .int .i64 x0.shape, .slice A0 x0.rings.length c0] := by simpa [Value.cells] using e0
  obtain rfl : cs0 = #[.int .i64 x0.id, .int .i64 x0.shape, .slice A0 x0.rings.length c0] := by cases cs0; simpa using e02
  have k1 := h1
  have lt1 : ∀ x ∈ p1, x.block < W.heap.size := by obtain ⟨m, hm⟩ := k1; exact DataW.trod_lt m _ _ _ hm
  obtain ⟨cs1, rfl, hcs1⟩ := okWide_struct Try.underlying27 (hval 1 27 v1 rfl rfl)
  obtain ⟨x1, hK1, hk1⟩ := opens_arg SH.opensFt h1 hsz (j := 1) rfl rfl
  obtain ⟨A1, c1, e1, hc1, hC1⟩ := SH.kFt_open hK1
  have e12 : cs1.toList = [.int .i64 x1.id, .int .i64 x1.shape, .slice A1 x1.rings.length c1] := by simpa [Value.cells] using e1
  obtain rfl : cs1 = #[.int .i64 x1.id, .int .i64 x1.shape, .slice A1 x1.rings.length c1] := by cases cs1; simpa using e12
  obtain ⟨a2_0, a2_1, rfl, rfl, rfl, w2_0, w2_1⟩ := open23 (hval 2 23 v2 rfl rfl) h2
  obtain ⟨a3_0, a3_1, a3_2, a3_3, rfl, rfl, rfl, w3_0, w3_1, w3_2, w3_3⟩ := open30 (hval 3 30 v3 rfl rfl) h3
  clear hA0 hval0 hsz0 hsz
  refine (Go.Proofs.Ytmednnpmkhgfpaa.SH.shapes_law x0 A0 c0 x1 A1 c1 ⟨a2_0, a2_1⟩ ⟨a3_0, a3_1, a3_2, a3_3⟩ W hC0 hc0 hk0 hC1).mono fun e W' ⟨he, bel⟩ => ?_
  subst he
  exact ⟨_, rfl, _, _, _, [], _, [], hW', trodAll_mk1 (shut_bool Try.underlying4 _), (trodAll_cons_mk (Below.trod laid (by kernel_rfl) (of_decide_eq_true (by kernel_rfl)) k0 bel lt0) (trodAll_cons_mk (Below.trod laid (by kernel_rfl) (of_decide_eq_true (by kernel_rfl)) k1 bel lt1) (trodAll_cons_mk (shut23 w2_0 w2_1) (trodAll_cons_mk (shut30 w3_0 w3_1 w3_2 w3_3) trodAll_mk0)))), rfl, bel.frame _, fun h => by cases h⟩
theorem over : Rows.shapesRow.holds Try.pinned (OpenSpec.ofChange Rows.shapesSpec) :=
  OpenClaim.holds_of_wide 5 Try.f5 rfl rfl rfl rfl rfl rfl rfl ⟨rfl, rfl, rfl, rfl, rfl⟩ rfl rfl rfl rfl rfl (by kernel_rfl) Try.func5 (by kernel_rfl)
    (of_decide_eq_true (by kernel_rfl)) (by unfold Func.isWrapper; first | (rw [if_pos (by decide +kernel)]; kernel_rfl) | (rw [if_neg (by decide +kernel)]; exact ⟨rfl, rfl⟩))
    (fun os started H enc _ => lifted os started H enc)
theorem proved : Rows.ShapesSaid := over
#print axioms proved
end Go.Proofs.Ytmednnpmkhgfpaa.shapes
namespace Go.Proofs.Ytmednnpmkhgfpaa
/-- The row, under a short name, for the claim. -/
theorem shapes_holds : Rows.ShapesSaid := shapes.proved
end Go.Proofs.Ytmednnpmkhgfpaa
