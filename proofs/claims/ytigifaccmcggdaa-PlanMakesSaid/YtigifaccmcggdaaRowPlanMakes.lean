/- The row of the law PlanMakes: for every input the call returns true, and each argument reads as before. No condition. -/
import Derived.Test.YtigifaccmcggdaaRows
import Derived.Test.YtigifaccmcggdaaPlanLawMakes
import Derived.WalkKit
import Derived.ProofKit
import Derived.OpenShut
import Derived.ShutString
import Derived.ChangeOld
import Derived.Below
import Derived.SizedLaws
import Derived.Test.YtigifaccmcggdaaAidCfg
namespace Go.Proofs.Ytigifaccmcggdaa.planMakes
open Go.ChangeShapes Go.WideShapes Go.ChangeAt Go.RowKit
open Go.ChangeMaps (open_string shut_string)
set_option linter.unusedVariables false
theorem own : ownKnob Try.prog.godebug = none := by kernel_rfl
theorem laidOut : laidOutB Try.prog = true := by kernel_rfl
set_option maxRecDepth 100000 in
theorem lifted (os : Os) (started : os.Started) (H : Type) (enc : TypeId × Value → H) :
    ReturnsInHanded {} Try.checked os 3 .any (Rows.planMakesSpec.pre6 enc Try.prog Try.f3 Rows.planMakesRow.domain false) (Rows.planMakesSpec.post enc Try.prog Try.f3 false true false false) := by
  refine returnsInHanded_of_change_sized (C := Try.checked) own started (by kernel_rfl) Try.func3
    (ChangeSpec.witness6 (enc := enc) (C := Try.checked) false ⟨#[], #[.agg #[.int .i64 0, .int .i64 0, .int .i64 0, .int .i64 0, .int .i64 0, .int .i64 0, .slice none 0 0, .slice none 0 0, .slice none 0 0]], []⟩ 8 (by kernel_rfl) (by kernel_rfl) (by kernel_rfl) (by kernel_rfl)) ?_
  intro W base args ds gs before hval0 hW hcnd hsz0 _
  have hsz : (DataW.weightsEach Try.prog (Try.f3.params.toList ++ Rows.planMakesSpec.plain.varTypes Try.prog) (ds ++ gs)).all (· ≤ reachBytes) = true := hsz0
  have hval : ∀ (j : Nat) t v, Try.f3.params[j]? = some t → args[j]? = some v → Value.okWide Try.prog W .any base t v := hval0
  have hW' := hW
  obtain ⟨p, q, hA0, hV, rfl, hfz, hnd⟩ := hW
  have hA : DataW.TrodAll enc Try.prog W 0 (fun _ => true) true Try.f3.params.toList args.toList ds p := hA0
  rw [Try.params3] at hA hval hsz
  obtain ⟨v0, vs0, d0, ds0, p0, q0, hargs, rfl, rfl, h0, r0⟩ := trodAll_cons hA
  obtain ⟨rfl, rfl, rfl⟩ := trodAll_nil r0
  obtain rfl : args = #[v0] := by cases args; simp_all
  obtain ⟨rfl, rfl⟩ := trodVars_none hV
  have k0 := h0
  have lt0 : ∀ x ∈ p0, x.block < W.heap.size := by obtain ⟨m, hm⟩ := k0; exact DataW.trod_lt m _ _ _ hm
  obtain ⟨x0, x1, x2, x3, x4, x5, A6, n6, c6, A7, n7, c7, A8, n8, c8, dd, d6_, d7_, d8_, p6_, p7_, p8_, rfl, _, _, _, _, _, _, z6, z7, z8, rfl, e6, e7, e8⟩ := AidCfg.open_cfg Try.underlying26 (by kernel_rfl) (by kernel_rfl) (by kernel_rfl) (by kernel_rfl) (by kernel_rfl) (by kernel_rfl) (by kernel_rfl) (by kernel_rfl) rfl rfl rfl Try.underlying22 Try.underlying23 Try.underlying24 (hval 0 26 v0 rfl rfl) h0
  obtain ⟨cle0, X0, w0⟩ := AidRows.recs_of (Ks := [.i64, .i64, .i64]) Try.underlying23 Try.underlying35 (by kernel_rfl) (by kernel_rfl) (by kernel_rfl) z7
  have y0 : n7 * 24 ≤ 140737488351232 := AidRows.recs_sized (AidCfg.inner_sized hsz (j := 0) rfl rfl Try.underlying26) (j := 7) rfl e7 Try.underlying23 (by kernel_rfl) z7
  clear hA0 hval0 hsz0 hsz
  refine (PlanLawMakes.walk x0 x1 x2 x3 x4 x5 A6 n6 c6 A7 n7 c7 X0 A8 n8 c8 W w0 y0).mono fun e W' ⟨he, bel⟩ => ?_
  subst he
  exact ⟨_, rfl, _, _, _, [], _, [], hW', trodAll_mk1 (shut_bool Try.underlying4 _), (trodAll_cons_mk (Below.trod laidOut (by kernel_rfl) (of_decide_eq_true (by kernel_rfl)) k0 bel lt0) trodAll_mk0), rfl, bel.frame _, fun h => by cases h⟩
theorem over : Rows.planMakesRow.holds Try.pinned (OpenSpec.ofChange Rows.planMakesSpec) :=
  OpenClaim.holds_of_wide 3 Try.f3 rfl rfl rfl rfl rfl rfl rfl ⟨rfl, rfl, rfl, rfl, rfl⟩ rfl rfl rfl rfl rfl (by kernel_rfl) Try.func3 (by kernel_rfl)
    (of_decide_eq_true (by kernel_rfl)) (by unfold Func.isWrapper; first | (rw [if_pos (by decide +kernel)]; kernel_rfl) | (rw [if_neg (by decide +kernel)]; exact ⟨rfl, rfl⟩))
    (fun os started H enc _ => lifted os started H enc)
theorem proved : Rows.PlanMakesSaid := over
end Go.Proofs.Ytigifaccmcggdaa.planMakes
namespace Go.Proofs.Ytigifaccmcggdaa
/-- The row, under a short name, for the claim. -/
theorem planMakes_holds : Rows.PlanMakesSaid := planMakes.proved
#print axioms planMakes_holds
end Go.Proofs.Ytigifaccmcggdaa
