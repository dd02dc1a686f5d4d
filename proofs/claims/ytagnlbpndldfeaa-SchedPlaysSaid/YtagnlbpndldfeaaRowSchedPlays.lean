/- The row of the law SchedPlays: for every input the call returns true, and each argument reads as before. No condition. -/
import Derived.Test.YtagnlbpndldfeaaRows
import Derived.Test.YtagnlbpndldfeaaSPlaysWalk
import Derived.WalkKit
import Derived.ProofKit
import Derived.OpenShut
import Derived.ShutString
import Derived.ChangeOld
import Derived.Below
import Derived.SizedLaws
import Derived.Test.YtagnlbpndldfeaaAidRows
import Derived.Test.YtagnlbpndldfeaaAidCfg
namespace Go.Proofs.Ytagnlbpndldfeaa.schedPlays
open Go.ChangeShapes Go.WideShapes Go.ChangeAt Go.RowKit
open Go.ChangeMaps (open_string shut_string)
set_option linter.unusedVariables false
theorem own : ownKnob Try.prog.godebug = none := by kernel_rfl
theorem laidOut : laidOutB Try.prog = true := by kernel_rfl
set_option maxRecDepth 100000 in
theorem lifted (os : Os) (started : os.Started) (H : Type) (enc : TypeId × Value → H) :
    ReturnsInHanded {} Try.checked os 6 .any (Rows.schedPlaysSpec.pre6 enc Try.prog Try.f6 Rows.schedPlaysRow.domain false) (Rows.schedPlaysSpec.post enc Try.prog Try.f6 false true false false) := by
  refine returnsInHanded_of_change_sized (C := Try.checked) own started (by kernel_rfl) Try.func6
    (ChangeSpec.witness6 (enc := enc) (C := Try.checked) false ⟨#[], #[.agg #[.int .i64 0, .int .i64 0, .int .i64 0, .int .i64 0, .int .i64 0, .int .i64 0, .slice none 0 0, .slice none 0 0, .slice none 0 0], .slice none 0 0], []⟩ 8 (by kernel_rfl) (by kernel_rfl) (by kernel_rfl) (by kernel_rfl)) ?_
  intro W base args ds gs before hval0 hW hcnd hsz0 _
  have hsz : (DataW.weightsEach Try.prog (Try.f6.params.toList ++ Rows.schedPlaysSpec.plain.varTypes Try.prog) (ds ++ gs)).all (· ≤ reachBytes) = true := hsz0
  have hval : ∀ (j : Nat) t v, Try.f6.params[j]? = some t → args[j]? = some v → Value.okWide Try.prog W .any base t v := hval0
  have hW' := hW
  obtain ⟨p, q, hA0, hV, rfl, hfz, hnd⟩ := hW
  have hA : DataW.TrodAll enc Try.prog W 0 (fun _ => true) true Try.f6.params.toList args.toList ds p := hA0
  rw [Try.params6] at hA hval hsz
  obtain ⟨v0, vs0, d0, ds0, p0, q0, hargs, rfl, rfl, h0, r0⟩ := trodAll_cons hA
  obtain ⟨v1, vs1, d1, ds1, p1, q1, rfl, rfl, rfl, h1, r1⟩ := trodAll_cons r0
  obtain ⟨rfl, rfl, rfl⟩ := trodAll_nil r1
  obtain rfl : args = #[v0, v1] := by cases args; simp_all
  obtain ⟨rfl, rfl⟩ := trodVars_none hV
  have k0 := h0
  have lt0 : ∀ x ∈ p0, x.block < W.heap.size := by obtain ⟨m, hm⟩ := k0; exact DataW.trod_lt m _ _ _ hm
  obtain ⟨x0, x1, x2, x3, x4, x5, A6, n6, c6, A7, n7, c7, A8, n8, c8, dd, d6_, d7_, d8_, p6_, p7_, p8_, rfl, _, _, _, _, _, _, z6, z7, z8, rfl, e6, e7, e8⟩ := AidCfg.open_cfg Try.underlying26 (by kernel_rfl) (by kernel_rfl) (by kernel_rfl) (by kernel_rfl) (by kernel_rfl) (by kernel_rfl) (by kernel_rfl) (by kernel_rfl) rfl rfl rfl Try.underlying22 Try.underlying23 Try.underlying24 (hval 0 26 v0 rfl rfl) h0
  obtain ⟨cle0, X0, w0⟩ := AidRows.recs_of (Ks := [.i64, .i64, .i64]) Try.underlying23 Try.underlying45 (by kernel_rfl) (by kernel_rfl) (by kernel_rfl) z7
  have y0 : n7 * 24 ≤ 140737488351232 := AidRows.recs_sized (AidCfg.inner_sized hsz (j := 0) rfl rfl Try.underlying26) (j := 7) rfl e7 Try.underlying23 (by kernel_rfl) z7
  obtain ⟨a1, len1, cap1, rfl⟩ := okWide_slice Try.underlying56 (hval 1 56 v1 rfl rfl)
  have k1 := h1
  have lt1 : ∀ x ∈ p1, x.block < W.heap.size := by obtain ⟨m, hm⟩ := k1; exact DataW.trod_lt m _ _ _ hm
  obtain ⟨c1, X1, w1⟩ := AidRows.recs_of (Ks := [.i64, .i64]) Try.underlying56 Try.underlying61 (by kernel_rfl) (by kernel_rfl) (by kernel_rfl) h1
  have y1 : len1 * 16 ≤ 140737488351232 := AidRows.recs_sized hsz (j := 1) (t := 56) rfl rfl Try.underlying56 (by kernel_rfl) h1
  clear hA0 hval0 hsz0 hsz
  refine (SPlaysWalk.walk x0 x1 x2 x3 x4 x5 A6 n6 c6 A7 n7 c7 X0 A8 n8 c8 a1 len1 cap1 X1 W w0 y0 w1 y1).mono fun e W' ⟨he, bel⟩ => ?_
  subst he
  exact ⟨_, rfl, _, _, _, [], _, [], hW', trodAll_mk1 (shut_bool Try.underlying4 _), (trodAll_cons_mk (Below.trod laidOut (by kernel_rfl) (of_decide_eq_true (by kernel_rfl)) k0 bel lt0) (trodAll_cons_mk (Below.trod laidOut (by kernel_rfl) (of_decide_eq_true (by kernel_rfl)) k1 bel lt1) trodAll_mk0)), rfl, bel.frame _, fun h => by cases h⟩
theorem over : Rows.schedPlaysRow.holds Try.pinned (OpenSpec.ofChange Rows.schedPlaysSpec) :=
  OpenClaim.holds_of_wide 6 Try.f6 rfl rfl rfl rfl rfl rfl rfl ⟨rfl, rfl, rfl, rfl, rfl⟩ rfl rfl rfl rfl rfl (by kernel_rfl) Try.func6 (by kernel_rfl)
    (of_decide_eq_true (by kernel_rfl)) (by unfold Func.isWrapper; first | (rw [if_pos (by decide +kernel)]; kernel_rfl) | (rw [if_neg (by decide +kernel)]; exact ⟨rfl, rfl⟩))
    (fun os started H enc _ => lifted os started H enc)
theorem proved : Rows.SchedPlaysSaid := over
end Go.Proofs.Ytagnlbpndldfeaa.schedPlays
namespace Go.Proofs.Ytagnlbpndldfeaa
/-- The row, under a short name, for the claim. -/
theorem schedPlays_holds : Rows.SchedPlaysSaid := schedPlays.proved
#print axioms schedPlays_holds
end Go.Proofs.Ytagnlbpndldfeaa
