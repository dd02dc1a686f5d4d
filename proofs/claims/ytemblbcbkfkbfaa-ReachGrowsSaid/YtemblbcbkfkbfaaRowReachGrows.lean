/- The row of the law ReachGrows: for every input the call returns true, and each argument reads as before. No condition. -/
import Derived.Test.YtemblbcbkfkbfaaRows
import Derived.Test.YtemblbcbkfkbfaaLawGrows
import Derived.WalkKit
import Derived.ProofKit
import Derived.OpenShut
import Derived.ShutString
import Derived.ChangeOld
import Derived.Below
import Derived.SizedLaws
import Derived.Test.YtemblbcbkfkbfaaAidCfg
import Derived.Test.YtemblbcbkfkbfaaAidCfg5
namespace Go.Proofs.Ytemblbcbkfkbfaa.reachGrows
open Go.ChangeShapes Go.WideShapes Go.ChangeAt Go.RowKit
open Go.ChangeMaps (open_string shut_string)
set_option linter.unusedVariables false
theorem own : ownKnob Try.prog.godebug = none := by kernel_rfl
theorem laidOut : laidOutB Try.prog = true := by kernel_rfl
set_option maxRecDepth 100000 in
theorem lifted (os : Os) (started : os.Started) (H : Type) (enc : TypeId × Value → H) :
    ReturnsInHanded {} Try.checked os 5 .any (Rows.reachGrowsSpec.pre6 enc Try.prog Try.f5 Rows.reachGrowsRow.domain false) (Rows.reachGrowsSpec.post enc Try.prog Try.f5 false true false false) := by
  refine returnsInHanded_of_change_sized (C := Try.checked) own started (by kernel_rfl) Try.func5
    (ChangeSpec.witness6 (enc := enc) (C := Try.checked) false ⟨#[], #[.agg #[.int .i64 0, .int .i64 0, .int .i64 0, .int .i64 0, .int .i64 0, .int .i64 0, .slice none 0 0, .slice none 0 0, .slice none 0 0], .agg #[.int .i64 0, .int .i64 0, .int .i64 0, .int .i64 0, .int .i64 0], .int .i64 0], []⟩ 8 (by kernel_rfl) (by kernel_rfl) (by kernel_rfl) (by kernel_rfl)) ?_
  intro W base args ds gs before hval0 hW hcnd hsz0 _
  have hsz : (DataW.weightsEach Try.prog (Try.f5.params.toList ++ Rows.reachGrowsSpec.plain.varTypes Try.prog) (ds ++ gs)).all (· ≤ reachBytes) = true := hsz0
  have hval : ∀ (j : Nat) t v, Try.f5.params[j]? = some t → args[j]? = some v → Value.okWide Try.prog W .any base t v := hval0
  have hW' := hW
  obtain ⟨p, q, hA0, hV, rfl, hfz, hnd⟩ := hW
  have hA : DataW.TrodAll enc Try.prog W 0 (fun _ => true) true Try.f5.params.toList args.toList ds p := hA0
  rw [Try.params5] at hA hval hsz
  obtain ⟨v0, vs0, d0, ds0, p0, q0, hargs, rfl, rfl, h0, r0⟩ := trodAll_cons hA
  obtain ⟨v1, vs1, d1, ds1, p1, q1, rfl, rfl, rfl, h1, r1⟩ := trodAll_cons r0
  obtain ⟨v2, vs2, d2, ds2, p2, q2, rfl, rfl, rfl, h2, r2⟩ := trodAll_cons r1
  obtain ⟨rfl, rfl, rfl⟩ := trodAll_nil r2
  obtain rfl : args = #[v0, v1, v2] := by cases args; simp_all
  obtain ⟨rfl, rfl⟩ := trodVars_none hV
  have k0 := h0
  have lt0 : ∀ x ∈ p0, x.block < W.heap.size := by obtain ⟨m, hm⟩ := k0; exact DataW.trod_lt m _ _ _ hm
  obtain ⟨x0, x1, x2, x3, x4, x5, A6, n6, c6, A7, n7, c7, A8, n8, c8, dd, d6_, d7_, d8_, p6_, p7_, p8_, rfl, _, _, _, _, _, _, z6, z7, z8, rfl, e6, e7, e8⟩ := AidCfg.open_cfg Try.underlying26 (by kernel_rfl) (by kernel_rfl) (by kernel_rfl) (by kernel_rfl) (by kernel_rfl) (by kernel_rfl) (by kernel_rfl) (by kernel_rfl) rfl rfl rfl Try.underlying22 Try.underlying23 Try.underlying24 (hval 0 26 v0 rfl rfl) h0
  obtain ⟨le6, X6, w6⟩ := AidRows.recs_of (Ks := [.i64, .i64, .i64]) Try.underlying22 Try.underlying58 (by kernel_rfl) (by kernel_rfl) (by kernel_rfl) z6
  have y6 : n6 * 24 ≤ 140737488351232 := AidRows.recs_sized (AidCfg.inner_sized hsz (j := 0) rfl rfl Try.underlying26) (j := 6) rfl e6 Try.underlying22 (by kernel_rfl) z6
  obtain ⟨le7, X7, w7⟩ := AidRows.recs_of (Ks := [.i64, .i64, .i64]) Try.underlying23 Try.underlying60 (by kernel_rfl) (by kernel_rfl) (by kernel_rfl) z7
  have y7 : n7 * 24 ≤ 140737488351232 := AidRows.recs_sized (AidCfg.inner_sized hsz (j := 0) rfl rfl Try.underlying26) (j := 7) rfl e7 Try.underlying23 (by kernel_rfl) z7
  obtain ⟨le8, X8, w8⟩ := AidRows.recs_of (Ks := [.i64, .i64, .i64, .i64, .i64]) Try.underlying24 Try.underlying31 (by kernel_rfl) (by kernel_rfl) (by kernel_rfl) z8
  have y8 : n8 * 40 ≤ 140737488351232 := AidRows.recs_sized (AidCfg.inner_sized hsz (j := 0) rfl rfl Try.underlying26) (j := 8) rfl e8 Try.underlying24 (by kernel_rfl) z8
  have k1 := h1
  have lt1 : ∀ x ∈ p1, x.block < W.heap.size := by obtain ⟨m, hm⟩ := k1; exact DataW.trod_lt m _ _ _ hm
  obtain ⟨y0_1, y1_1, y2_1, y3_1, y4_1, rfl⟩ := AidCfg5.open_five Try.underlying31 (by kernel_rfl) (by kernel_rfl) (by kernel_rfl) (by kernel_rfl) (by kernel_rfl) (by kernel_rfl) (by kernel_rfl) (hval 1 31 v1 rfl rfl) h1
  obtain ⟨a2, rfl, rfl, rfl, w2⟩ := open_int Try.underlying3 (hval 2 3 v2 rfl rfl) h2
  clear hA0 hval0 hsz0 hsz
  refine (LawGrows.walk x0 x1 x2 x3 x4 x5 A6 n6 c6 A7 n7 c7 A8 n8 c8 X6 X7 X8 y0_1 y1_1 y2_1 y3_1 y4_1 a2 W w6 y6 le6 w7 y7 le7 w8 y8 le8 w2).mono fun e W' ⟨he, bel⟩ => ?_
  subst he
  exact ⟨_, rfl, _, _, _, [], _, [], hW', trodAll_mk1 (shut_bool Try.underlying4 _), (trodAll_cons_mk (Below.trod laidOut (by kernel_rfl) (of_decide_eq_true (by kernel_rfl)) k0 bel lt0) (trodAll_cons_mk (Below.trod laidOut (by kernel_rfl) (of_decide_eq_true (by kernel_rfl)) k1 bel lt1) (trodAll_cons_mk (shut_int Try.underlying3 w2) trodAll_mk0))), rfl, bel.frame _, fun h => by cases h⟩
theorem over : Rows.reachGrowsRow.holds Try.pinned (OpenSpec.ofChange Rows.reachGrowsSpec) :=
  OpenClaim.holds_of_wide 5 Try.f5 rfl rfl rfl rfl rfl rfl rfl ⟨rfl, rfl, rfl, rfl, rfl⟩ rfl rfl rfl rfl rfl (by kernel_rfl) Try.func5 (by kernel_rfl)
    (of_decide_eq_true (by kernel_rfl)) (by unfold Func.isWrapper; first | (rw [if_pos (by decide +kernel)]; kernel_rfl) | (rw [if_neg (by decide +kernel)]; exact ⟨rfl, rfl⟩))
    (fun os started H enc _ => lifted os started H enc)
theorem proved : Rows.ReachGrowsSaid := over
end Go.Proofs.Ytemblbcbkfkbfaa.reachGrows
namespace Go.Proofs.Ytemblbcbkfkbfaa
/-- The row, under a short name, for the claim. -/
theorem reachGrows_holds : Rows.ReachGrowsSaid := reachGrows.proved
#print axioms reachGrows_holds
end Go.Proofs.Ytemblbcbkfkbfaa
