/- The law's own example. -/
import Derived.Test.YtemblbcbkfkbfaaReachOutG
namespace Go.Proofs.Ytemblbcbkfkbfaa.ReachWorks
open Go.RowKit Go.Proofs.Ytemblbcbkfkbfaa.PReachGrows Go.Proofs.YtemblbcbkfkbfaaW.PrintWords Go.Proofs.YtemblbcbkfkbfaaW.PrintLast Go.Proofs.YtemblbcbkfkbfaaW.PrintMore Go.Proofs.Ytemblbcbkfkbfaa.ReachPlainG Go.Proofs.Ytemblbcbkfkbfaa.ReachOutG Go.Proofs.Ytemblbcbkfkbfaa.Aid
set_option linter.unusedVariables false
set_option linter.unusedSimpArgs false
set_option maxRecDepth 100000
def ex : List S31 := [⟨1, 0, 1, 0, 0⟩, ⟨2, 1, 2, 0, 0⟩]
theorem ex_mem {x : S31} (h : x ∈ ex) : x = ⟨1, 0, 1, 0, 0⟩ ∨ x = ⟨2, 1, 2, 0, 0⟩ := by simpa [ex] using h
theorem ex0 : out 3 ex 0 [0] := by
  refine ⟨fun h => absurd (show inR 3 0 by decide) h, fun _ => ⟨fun p => p == 0, ⟨⟨rfl, fun p hp => ?_, fun T t _ _ p hp => ?_⟩, fun x hx => ?_⟩, by decide⟩⟩
  · have e : p = 0 := by simpa using hp
    subst e
    decide
  · have e : p = 0 := by simpa using hp
    subst e
    exact t
  · rcases ex_mem hx with rfl | rfl
    · exact ⟨fun h _ => absurd h (by decide), fun h => absurd h (by decide)⟩
    · exact ⟨fun h _ => absurd h (by decide), fun _ h => absurd h (by decide)⟩
theorem all3 {p : Int} (h : inR 3 p) : p = 0 ∨ p = 1 ∨ p = 2 := by
  unfold inR at h
  omega
theorem ex_all (q : Int) (hq : q = 1 ∨ q = 2) : out 3 ex q [0, 1, 2] := by
  have hin : inR 3 q := by
    unfold inR
    omega
  refine ⟨fun h => absurd hin h, fun _ => ⟨fun p => decide (inR 3 p), ⟨⟨decide_eq_true hin, fun p hp => of_decide_eq_true hp, fun T t t2 t3 p hp => ?_⟩, fun x hx => ?_⟩, by decide⟩⟩
  · have h1 := t3 ⟨1, 0, 1, 0, 0⟩ (by simp [ex])
    have h2 := t3 ⟨2, 1, 2, 0, 0⟩ (by simp [ex])
    have k1 : T 1 := by
      rcases hq with rfl | rfl
      · exact t
      · exact h2.1 t (by decide)
    have k2 : T 2 := h2.2 rfl k1 (by decide)
    have k0 : T 0 := h1.1 k1 (by decide)
    rcases all3 (of_decide_eq_true hp) with rfl | rfl | rfl
    · exact k0
    · exact k1
    · exact k2
  · rcases ex_mem hx with rfl | rfl
    · exact ⟨fun _ _ => by decide, fun _ _ _ => by decide⟩
    · exact ⟨fun _ _ => by decide, fun _ _ _ => by decide⟩
theorem ex3 : out 3 ex 3 [] := ⟨fun _ => rfl, fun h => absurd h (by decide)⟩
theorem example_is : bulkheadlaw29_example.f = some (0, 0, 0, 0, 0, 0, List.replicate 3 z58, [], ex) := by
  unfold bulkheadlaw29_example.f
  rw [if_pos (by omega)]
  rfl
set_option maxHeartbeats 1600000 in
theorem works_calls (w : World) : Calls Try.prog 9 #[] w fun e w' => e = .returned (.bool true) ∧ Below w.heap.size w w' := by
  go_enter Try.func9, Try.ntmps9
  go_wp2_with fail
  refine (bulkheadlaw29_example.calls 0 0 0 0 0 0 (List.replicate 3 z58) [] ex _ example_is).mono ?_
  rintro e w1 ⟨v6, v7, v8, rfl, h6, h7, h8, hB⟩
  obtain ⟨A6, c6, rfl⟩ : ∃ A c, v6 = .slice A 3 c := by
    obtain ⟨A, c, h, _⟩ := Kd.R_reads h6
    exact ⟨A, c, h⟩
  obtain ⟨A7, c7, rfl⟩ : ∃ A c, v7 = .slice A 0 c := by
    obtain ⟨A, c, h, _⟩ := Kd.R_reads h7
    exact ⟨A, c, h⟩
  obtain ⟨A8, c8, rfl, HC⟩ : ∃ A c, v8 = .slice A 2 c ∧ Aside0 (Kd.C k31 w1 A ex.length ex) := by
    obtain ⟨A, c, h, _, h2⟩ := Kd.R_reads h8
    exact ⟨A, c, h, ⟨h2⟩⟩
  have HB := Aside0.mk hB
  clear hB h6 h7 h8
  go_upto_region 2 with fail
  have BX : Aside0 ((w1.alloc (.cells #[.int .i64 0, .int .i64 0, .int .i64 0, .int .i64 0, .int .i64 0, .int .i64 0, .slice A6 3 c6, .slice A7 0 c7, .slice A8 2 c8] 26)).heap[w1.heap.size]? = some (.cells #[.int .i64 0, .int .i64 0, .int .i64 0, .int .i64 0, .int .i64 0, .int .i64 0, .slice A6 3 c6, .slice A7 0 c7, .slice A8 2 c8] 26 (0, 0))) := ⟨blk_new _ _⟩
  have HB1 : Aside0 (Below w.heap.size w (w1.alloc (.cells #[.int .i64 0, .int .i64 0, .int .i64 0, .int .i64 0, .int .i64 0, .int .i64 0, .slice A6 3 c6, .slice A7 0 c7, .slice A8 2 c8] 26))) := ⟨below_alloc HB.out _⟩
  have HC1 : Aside0 (Kd.C k31 (w1.alloc (.cells #[.int .i64 0, .int .i64 0, .int .i64 0, .int .i64 0, .int .i64 0, .int .i64 0, .slice A6 3 c6, .slice A7 0 c7, .slice A8 2 c8] 26)) A8 ex.length ex) := ⟨Kd.C_alloc HC.out _⟩
  clear HB HC
  generalize w1.alloc (.cells #[.int .i64 0, .int .i64 0, .int .i64 0, .int .i64 0, .int .i64 0, .int .i64 0, .slice A6 3 c6, .slice A7 0 c7, .slice A8 2 c8] 26) = W1 at *
  have HX0 := Aside0.mk (Below.refl W1.heap.size W1)
  have oc0 : W1.cell? ⟨w1.heap.size, 0, none⟩ = some (.int .i64 0) := ((HX0.out.cell (p := ⟨w1.heap.size, 0, none⟩) (blk_lt BX.out)).trans (blk_cell BX.out 0)).trans rfl
  have oc1 : W1.cell? ⟨w1.heap.size, 1, none⟩ = some (.int .i64 0) := ((HX0.out.cell (p := ⟨w1.heap.size, 1, none⟩) (blk_lt BX.out)).trans (blk_cell BX.out 1)).trans rfl
  have oc2 : W1.cell? ⟨w1.heap.size, 2, none⟩ = some (.int .i64 0) := ((HX0.out.cell (p := ⟨w1.heap.size, 2, none⟩) (blk_lt BX.out)).trans (blk_cell BX.out 2)).trans rfl
  have oc3 : W1.cell? ⟨w1.heap.size, 3, none⟩ = some (.int .i64 0) := ((HX0.out.cell (p := ⟨w1.heap.size, 3, none⟩) (blk_lt BX.out)).trans (blk_cell BX.out 3)).trans rfl
  have oc4 : W1.cell? ⟨w1.heap.size, 4, none⟩ = some (.int .i64 0) := ((HX0.out.cell (p := ⟨w1.heap.size, 4, none⟩) (blk_lt BX.out)).trans (blk_cell BX.out 4)).trans rfl
  have oc5 : W1.cell? ⟨w1.heap.size, 5, none⟩ = some (.int .i64 0) := ((HX0.out.cell (p := ⟨w1.heap.size, 5, none⟩) (blk_lt BX.out)).trans (blk_cell BX.out 5)).trans rfl
  have oc6 : W1.cell? ⟨w1.heap.size, 6, none⟩ = some (.slice A6 3 c6) := ((HX0.out.cell (p := ⟨w1.heap.size, 6, none⟩) (blk_lt BX.out)).trans (blk_cell BX.out 6)).trans rfl
  have oc7 : W1.cell? ⟨w1.heap.size, 7, none⟩ = some (.slice A7 0 c7) := ((HX0.out.cell (p := ⟨w1.heap.size, 7, none⟩) (blk_lt BX.out)).trans (blk_cell BX.out 7)).trans rfl
  have oc8 : W1.cell? ⟨w1.heap.size, 8, none⟩ = some (.slice A8 2 c8) := ((HX0.out.cell (p := ⟨w1.heap.size, 8, none⟩) (blk_lt BX.out)).trans (blk_cell BX.out 8)).trans rfl
  go_wp2_with fail
  refine (prog_calls 0 0 0 0 0 0 A6 A7 A8 3 c6 0 c7 c8 ex 0 _ (by decide) (by decide) (Kd.C_below HC1.out HX0.out)).mono ?_
  rintro e a1 ⟨v1, r, rfl, ho, hR, hB⟩
  obtain rfl := out_uniq ex0 ho
  have HR1 := Aside0.mk hR
  have HY1 := Aside0.mk (below_step HX0.out hB)
  clear ho hR hB oc0 oc1 oc2 oc3 oc4 oc5 oc6 oc7 oc8 HX0
  go_wp2_with ((with_reducible refine gate_dst (N := 5) rfl ?_); (try (refine gate_guard (by rfl) ?_; dsimp only)); refine Kd.R_lit (Kd.int .i64) (w0 := a1) a1.heap.size 3 (by rfl) (N := 5) rfl (xs := ([0] : List Int)) (inner := [.int .i64 0]) (ok := fun _ => True) (okp := fun _ => True) (by first | (go_simp; done) | (go_simp; rfl)) (Reps.one (show Kd.M (Kd.int .i64) _ _ _ (0 : Int) [.int .i64 0] from rfl) (Reps.none _ _)) (fun _ hk => hk) trivial (Below.refl _ _) (Nat.le_refl _) (by simp) ?_; intro u1 b1 ho hb hg hat; have HU1 := Aside0.mk ho; have HV1 := Aside0.mk hb; clear ho hb hg hat)
  refine (same_calls (r := [0]) (by decide) (Kd.R_below HR1.out HV1.out) HU1.out).mono ?_
  rintro e d1 ⟨rfl, ⟨m1, rfl⟩⟩
  have HX1 := Aside0.mk (pw_below_drewN (below_step HY1.out HV1.out) m1)
  clear HR1 HY1 HU1 HV1
  generalize b1.drewN m1 = d1 at *
  have oc0 : d1.cell? ⟨w1.heap.size, 0, none⟩ = some (.int .i64 0) := ((HX1.out.cell (p := ⟨w1.heap.size, 0, none⟩) (blk_lt BX.out)).trans (blk_cell BX.out 0)).trans rfl
  have oc1 : d1.cell? ⟨w1.heap.size, 1, none⟩ = some (.int .i64 0) := ((HX1.out.cell (p := ⟨w1.heap.size, 1, none⟩) (blk_lt BX.out)).trans (blk_cell BX.out 1)).trans rfl
  have oc2 : d1.cell? ⟨w1.heap.size, 2, none⟩ = some (.int .i64 0) := ((HX1.out.cell (p := ⟨w1.heap.size, 2, none⟩) (blk_lt BX.out)).trans (blk_cell BX.out 2)).trans rfl
  have oc3 : d1.cell? ⟨w1.heap.size, 3, none⟩ = some (.int .i64 0) := ((HX1.out.cell (p := ⟨w1.heap.size, 3, none⟩) (blk_lt BX.out)).trans (blk_cell BX.out 3)).trans rfl
  have oc4 : d1.cell? ⟨w1.heap.size, 4, none⟩ = some (.int .i64 0) := ((HX1.out.cell (p := ⟨w1.heap.size, 4, none⟩) (blk_lt BX.out)).trans (blk_cell BX.out 4)).trans rfl
  have oc5 : d1.cell? ⟨w1.heap.size, 5, none⟩ = some (.int .i64 0) := ((HX1.out.cell (p := ⟨w1.heap.size, 5, none⟩) (blk_lt BX.out)).trans (blk_cell BX.out 5)).trans rfl
  have oc6 : d1.cell? ⟨w1.heap.size, 6, none⟩ = some (.slice A6 3 c6) := ((HX1.out.cell (p := ⟨w1.heap.size, 6, none⟩) (blk_lt BX.out)).trans (blk_cell BX.out 6)).trans rfl
  have oc7 : d1.cell? ⟨w1.heap.size, 7, none⟩ = some (.slice A7 0 c7) := ((HX1.out.cell (p := ⟨w1.heap.size, 7, none⟩) (blk_lt BX.out)).trans (blk_cell BX.out 7)).trans rfl
  have oc8 : d1.cell? ⟨w1.heap.size, 8, none⟩ = some (.slice A8 2 c8) := ((HX1.out.cell (p := ⟨w1.heap.size, 8, none⟩) (blk_lt BX.out)).trans (blk_cell BX.out 8)).trans rfl
  go_wp2_with fail
  refine (prog_calls 0 0 0 0 0 0 A6 A7 A8 3 c6 0 c7 c8 ex 1 _ (by decide) (by decide) (Kd.C_below HC1.out HX1.out)).mono ?_
  rintro e a2 ⟨v2, r, rfl, ho, hR, hB⟩
  obtain rfl := out_uniq (ex_all 1 (.inl rfl)) ho
  have HR2 := Aside0.mk hR
  have HY2 := Aside0.mk (below_step HX1.out hB)
  clear ho hR hB oc0 oc1 oc2 oc3 oc4 oc5 oc6 oc7 oc8 HX1
  go_wp2_with ((with_reducible refine gate_dst (N := 10) rfl ?_); (try (refine gate_guard (by rfl) ?_; dsimp only)); refine Kd.R_lit (Kd.int .i64) (w0 := a2) a2.heap.size 3 (by rfl) (N := 10) rfl (xs := ([0, 1, 2] : List Int)) (inner := [.int .i64 0, .int .i64 1, .int .i64 2]) (ok := fun _ => True) (okp := fun _ => True) (by first | (go_simp; done) | (go_simp; rfl)) (Reps.one (show Kd.M (Kd.int .i64) _ _ _ (0 : Int) [.int .i64 0] from rfl) (Reps.one (show Kd.M (Kd.int .i64) _ _ _ (1 : Int) [.int .i64 1] from rfl) (Reps.one (show Kd.M (Kd.int .i64) _ _ _ (2 : Int) [.int .i64 2] from rfl) (Reps.none _ _)))) (fun _ hk => hk) trivial (Below.refl _ _) (Nat.le_refl _) (by simp) ?_; intro u2 b2 ho hb hg hat; have HU2 := Aside0.mk ho; have HV2 := Aside0.mk hb; clear ho hb hg hat)
  refine (same_calls (r := [0, 1, 2]) (by decide) (Kd.R_below HR2.out HV2.out) HU2.out).mono ?_
  rintro e d2 ⟨rfl, ⟨m2, rfl⟩⟩
  have HX2 := Aside0.mk (pw_below_drewN (below_step HY2.out HV2.out) m2)
  clear HR2 HY2 HU2 HV2
  generalize b2.drewN m2 = d2 at *
  have oc0 : d2.cell? ⟨w1.heap.size, 0, none⟩ = some (.int .i64 0) := ((HX2.out.cell (p := ⟨w1.heap.size, 0, none⟩) (blk_lt BX.out)).trans (blk_cell BX.out 0)).trans rfl
  have oc1 : d2.cell? ⟨w1.heap.size, 1, none⟩ = some (.int .i64 0) := ((HX2.out.cell (p := ⟨w1.heap.size, 1, none⟩) (blk_lt BX.out)).trans (blk_cell BX.out 1)).trans rfl
  have oc2 : d2.cell? ⟨w1.heap.size, 2, none⟩ = some (.int .i64 0) := ((HX2.out.cell (p := ⟨w1.heap.size, 2, none⟩) (blk_lt BX.out)).trans (blk_cell BX.out 2)).trans rfl
  have oc3 : d2.cell? ⟨w1.heap.size, 3, none⟩ = some (.int .i64 0) := ((HX2.out.cell (p := ⟨w1.heap.size, 3, none⟩) (blk_lt BX.out)).trans (blk_cell BX.out 3)).trans rfl
  have oc4 : d2.cell? ⟨w1.heap.size, 4, none⟩ = some (.int .i64 0) := ((HX2.out.cell (p := ⟨w1.heap.size, 4, none⟩) (blk_lt BX.out)).trans (blk_cell BX.out 4)).trans rfl
  have oc5 : d2.cell? ⟨w1.heap.size, 5, none⟩ = some (.int .i64 0) := ((HX2.out.cell (p := ⟨w1.heap.size, 5, none⟩) (blk_lt BX.out)).trans (blk_cell BX.out 5)).trans rfl
  have oc6 : d2.cell? ⟨w1.heap.size, 6, none⟩ = some (.slice A6 3 c6) := ((HX2.out.cell (p := ⟨w1.heap.size, 6, none⟩) (blk_lt BX.out)).trans (blk_cell BX.out 6)).trans rfl
  have oc7 : d2.cell? ⟨w1.heap.size, 7, none⟩ = some (.slice A7 0 c7) := ((HX2.out.cell (p := ⟨w1.heap.size, 7, none⟩) (blk_lt BX.out)).trans (blk_cell BX.out 7)).trans rfl
  have oc8 : d2.cell? ⟨w1.heap.size, 8, none⟩ = some (.slice A8 2 c8) := ((HX2.out.cell (p := ⟨w1.heap.size, 8, none⟩) (blk_lt BX.out)).trans (blk_cell BX.out 8)).trans rfl
  go_wp2_with fail
  refine (prog_calls 0 0 0 0 0 0 A6 A7 A8 3 c6 0 c7 c8 ex 2 _ (by decide) (by decide) (Kd.C_below HC1.out HX2.out)).mono ?_
  rintro e a3 ⟨v3, r, rfl, ho, hR, hB⟩
  obtain rfl := out_uniq (ex_all 2 (.inr rfl)) ho
  have HR3 := Aside0.mk hR
  have HY3 := Aside0.mk (below_step HX2.out hB)
  clear ho hR hB oc0 oc1 oc2 oc3 oc4 oc5 oc6 oc7 oc8 HX2
  go_wp2_with ((with_reducible refine gate_dst (N := 16) rfl ?_); (try (refine gate_guard (by rfl) ?_; dsimp only)); refine Kd.R_lit (Kd.int .i64) (w0 := a3) a3.heap.size 3 (by rfl) (N := 16) rfl (xs := ([0, 1, 2] : List Int)) (inner := [.int .i64 0, .int .i64 1, .int .i64 2]) (ok := fun _ => True) (okp := fun _ => True) (by first | (go_simp; done) | (go_simp; rfl)) (Reps.one (show Kd.M (Kd.int .i64) _ _ _ (0 : Int) [.int .i64 0] from rfl) (Reps.one (show Kd.M (Kd.int .i64) _ _ _ (1 : Int) [.int .i64 1] from rfl) (Reps.one (show Kd.M (Kd.int .i64) _ _ _ (2 : Int) [.int .i64 2] from rfl) (Reps.none _ _)))) (fun _ hk => hk) trivial (Below.refl _ _) (Nat.le_refl _) (by simp) ?_; intro u3 b3 ho hb hg hat; have HU3 := Aside0.mk ho; have HV3 := Aside0.mk hb; clear ho hb hg hat)
  refine (same_calls (r := [0, 1, 2]) (by decide) (Kd.R_below HR3.out HV3.out) HU3.out).mono ?_
  rintro e d3 ⟨rfl, ⟨m3, rfl⟩⟩
  have HX3 := Aside0.mk (pw_below_drewN (below_step HY3.out HV3.out) m3)
  clear HR3 HY3 HU3 HV3
  generalize b3.drewN m3 = d3 at *
  have oc0 : d3.cell? ⟨w1.heap.size, 0, none⟩ = some (.int .i64 0) := ((HX3.out.cell (p := ⟨w1.heap.size, 0, none⟩) (blk_lt BX.out)).trans (blk_cell BX.out 0)).trans rfl
  have oc1 : d3.cell? ⟨w1.heap.size, 1, none⟩ = some (.int .i64 0) := ((HX3.out.cell (p := ⟨w1.heap.size, 1, none⟩) (blk_lt BX.out)).trans (blk_cell BX.out 1)).trans rfl
  have oc2 : d3.cell? ⟨w1.heap.size, 2, none⟩ = some (.int .i64 0) := ((HX3.out.cell (p := ⟨w1.heap.size, 2, none⟩) (blk_lt BX.out)).trans (blk_cell BX.out 2)).trans rfl
  have oc3 : d3.cell? ⟨w1.heap.size, 3, none⟩ = some (.int .i64 0) := ((HX3.out.cell (p := ⟨w1.heap.size, 3, none⟩) (blk_lt BX.out)).trans (blk_cell BX.out 3)).trans rfl
  have oc4 : d3.cell? ⟨w1.heap.size, 4, none⟩ = some (.int .i64 0) := ((HX3.out.cell (p := ⟨w1.heap.size, 4, none⟩) (blk_lt BX.out)).trans (blk_cell BX.out 4)).trans rfl
  have oc5 : d3.cell? ⟨w1.heap.size, 5, none⟩ = some (.int .i64 0) := ((HX3.out.cell (p := ⟨w1.heap.size, 5, none⟩) (blk_lt BX.out)).trans (blk_cell BX.out 5)).trans rfl
  have oc6 : d3.cell? ⟨w1.heap.size, 6, none⟩ = some (.slice A6 3 c6) := ((HX3.out.cell (p := ⟨w1.heap.size, 6, none⟩) (blk_lt BX.out)).trans (blk_cell BX.out 6)).trans rfl
  have oc7 : d3.cell? ⟨w1.heap.size, 7, none⟩ = some (.slice A7 0 c7) := ((HX3.out.cell (p := ⟨w1.heap.size, 7, none⟩) (blk_lt BX.out)).trans (blk_cell BX.out 7)).trans rfl
  have oc8 : d3.cell? ⟨w1.heap.size, 8, none⟩ = some (.slice A8 2 c8) := ((HX3.out.cell (p := ⟨w1.heap.size, 8, none⟩) (blk_lt BX.out)).trans (blk_cell BX.out 8)).trans rfl
  go_wp2_with fail
  refine (prog_calls 0 0 0 0 0 0 A6 A7 A8 3 c6 0 c7 c8 ex 3 _ (by decide) (by decide) (Kd.C_below HC1.out HX3.out)).mono ?_
  rintro e a4 ⟨v4, r, rfl, ho, hR, hB⟩
  obtain rfl := out_uniq ex3 ho
  obtain ⟨A4, c4, rfl⟩ : ∃ A c, v4 = .slice A 0 c := by
    obtain ⟨A, c, h, _⟩ := Kd.R_reads hR
    exact ⟨A, c, h⟩
  have HE := Aside0.mk (below_step HB1.out (below_step HX3.out hB))
  clear ho hR hB oc0 oc1 oc2 oc3 oc4 oc5 oc6 oc7 oc8 HX3
  go_wp2_with fail
  go_ret
  exact ⟨rfl, HE.out⟩
end Go.Proofs.Ytemblbcbkfkbfaa.ReachWorks
