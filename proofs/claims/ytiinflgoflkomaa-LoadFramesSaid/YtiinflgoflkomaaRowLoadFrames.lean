/- The row of the law LoadFrames: for every input the call returns true, and each argument reads as before. No condition. -/
import Derived.Test.YtiinflgoflkomaaRows
import Derived.Test.YtiinflgoflkomaaLawLFrames
import Derived.WalkKit
import Derived.ProofKit
import Derived.OpenShut
import Derived.ShutString
import Derived.ChangeOld
import Derived.Below
import Derived.SizedLaws
import Derived.Test.YtiinflgoflkomaaAidRows
import Derived.Test.YtiinflgoflkomaaAidCfg
import Derived.Test.YtiinflgoflkomaaAidImg
namespace Go.Proofs.Ytiinflgoflkomaa.loadFrames
open Go.ChangeShapes Go.WideShapes Go.ChangeAt Go.RowKit
open Go.ChangeMaps (open_string shut_string)
set_option linter.unusedVariables false
theorem own : ownKnob Try.prog.godebug = none := by kernel_rfl
theorem laidOut : laidOutB Try.prog = true := by kernel_rfl
set_option maxRecDepth 100000 in
theorem lifted (os : Os) (started : os.Started) (H : Type) (enc : TypeId × Value → H) :
    ReturnsInHanded {} Try.checked os 5 .any (Rows.loadFramesSpec.pre6 enc Try.prog Try.f5 Rows.loadFramesRow.domain false) (Rows.loadFramesSpec.post enc Try.prog Try.f5 false true false false) := by
  refine returnsInHanded_of_change_sized (C := Try.checked) own started (by kernel_rfl) Try.func5
    (ChangeSpec.witness6 (enc := enc) (C := Try.checked) false ⟨#[], #[.agg #[.int .u32 0, .slice none 0 0]], []⟩ 8 (by kernel_rfl) (by kernel_rfl) (by kernel_rfl) (by kernel_rfl)) ?_
  intro W base args ds gs before hval0 hW hcnd hsz0 _
  have hsz : (DataW.weightsEach Try.prog (Try.f5.params.toList ++ Rows.loadFramesSpec.plain.varTypes Try.prog) (ds ++ gs)).all (· ≤ reachBytes) = true := hsz0
  have hval : ∀ (j : Nat) t v, Try.f5.params[j]? = some t → args[j]? = some v → Value.okWide Try.prog W .any base t v := hval0
  have hW' := hW
  obtain ⟨p, q, hA0, hV, rfl, hfz, hnd⟩ := hW
  have hA : DataW.TrodAll enc Try.prog W 0 (fun _ => true) true Try.f5.params.toList args.toList ds p := hA0
  rw [Try.params5] at hA hval hsz
  obtain ⟨v0, vs0, d0, ds0, p0, q0, hargs, rfl, rfl, h0, r0⟩ := trodAll_cons hA
  obtain ⟨rfl, rfl, rfl⟩ := trodAll_nil r0
  obtain rfl : args = #[v0] := by cases args; simp_all
  obtain ⟨rfl, rfl⟩ := trodVars_none hV
  have k0 := h0
  have lt0 : ∀ x ∈ p0, x.block < W.heap.size := by obtain ⟨m, hm⟩ := k0; exact DataW.trod_lt m _ _ _ hm
  obtain ⟨x0, A0, n0, c0, dd0, d1_0, p1_0, rfl, f0, z0, rfl, e0⟩ := AidImg.open_img Try.underlying25 (by kernel_rfl) (by kernel_rfl) (by kernel_rfl) rfl Try.underlying23 (hval 0 25 v0 rfl rfl) h0
  have wt0 : ∀ k ∈ d1_0.weights Try.prog 23, k ≤ reachBytes := fun k hk => by simpa using List.all_eq_true.1 (AidCfg.inner_sized hsz (j := 0) rfl rfl Try.underlying25) k (DataW.weights_mem_each (j := 1) rfl e0 k hk)
  obtain ⟨le0, cm0, S0, w0, zz0⟩ := AidImg.secs_of Try.underlying23 Try.underlying45 (by kernel_rfl) (by kernel_rfl) (by kernel_rfl) (by kernel_rfl) rfl Try.underlying27 Try.underlying5 (by kernel_rfl) (by kernel_rfl) z0 wt0
  have y0 : n0 * 40 ≤ 140737488351232 := AidRows.recs_sized (AidCfg.inner_sized hsz (j := 0) rfl rfl Try.underlying25) (j := 1) rfl e0 Try.underlying23 (by kernel_rfl) z0
  clear hA0 hval0 hsz0 hsz
  refine (LawLFrames.walk x0 A0 n0 c0 S0 W f0 w0 y0 le0 zz0).mono fun e W' ⟨he, bel⟩ => ?_
  subst he
  exact ⟨_, rfl, _, _, _, [], _, [], hW', trodAll_mk1 (shut_bool Try.underlying4 _), (trodAll_cons_mk (Below.trod laidOut (by kernel_rfl) (of_decide_eq_true (by kernel_rfl)) k0 bel lt0) trodAll_mk0), rfl, bel.frame _, fun h => by cases h⟩
theorem over : Rows.loadFramesRow.holds Try.pinned (OpenSpec.ofChange Rows.loadFramesSpec) :=
  OpenClaim.holds_of_wide 5 Try.f5 rfl rfl rfl rfl rfl rfl rfl ⟨rfl, rfl, rfl, rfl, rfl⟩ rfl rfl rfl rfl rfl (by kernel_rfl) Try.func5 (by kernel_rfl)
    (of_decide_eq_true (by kernel_rfl)) (by unfold Func.isWrapper; first | (rw [if_pos (by decide +kernel)]; kernel_rfl) | (rw [if_neg (by decide +kernel)]; exact ⟨rfl, rfl⟩))
    (fun os started H enc _ => lifted os started H enc)
theorem proved : Rows.LoadFramesSaid := over
end Go.Proofs.Ytiinflgoflkomaa.loadFrames
namespace Go.Proofs.Ytiinflgoflkomaa
/-- The row, under a short name, for the claim. -/
theorem loadFrames_holds : Rows.LoadFramesSaid := loadFrames.proved
#print axioms loadFrames_holds
end Go.Proofs.Ytiinflgoflkomaa
