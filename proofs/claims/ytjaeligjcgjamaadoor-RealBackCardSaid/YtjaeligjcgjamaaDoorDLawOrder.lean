/- Floats without NaN are in one order: the walk of the law. -/
import Derived.Test.YtjaeligjcgjamaaDoorDFacts
namespace Go.Proofs.YtjaeligjcgjamaaDoor.DLawOrder
open Go.RowKit Go.Proofs.YtjaeligjcgjamaaDoor.PRealOrder Go.Proofs.YtjaeligjcgjamaaDoorW.PrintWords Go.Proofs.YtjaeligjcgjamaaDoorW.PrintLast Go.Proofs.YtjaeligjcgjamaaDoorW.PrintMore Go.Proofs.YtjaeligjcgjamaaDoor.Aid Go.Proofs.YtjaeligjcgjamaaDoor.FloatPlain Go.Proofs.YtjaeligjcgjamaaDoor.DRealPure Go.Proofs.YtjaeligjcgjamaaDoor.DRealFl Go.Proofs.YtjaeligjcgjamaaDoor.DRealAr Go.Proofs.YtjaeligjcgjamaaDoor.DRealPick Go.Proofs.YtjaeligjcgjamaaDoor.DLawAriths Go.Proofs.YtjaeligjcgjamaaDoor.DLawCompares Go.Proofs.YtjaeligjcgjamaaDoor.DWorks Go.Proofs.YtjaeligjcgjamaaDoor.DFacts
set_option linter.unusedVariables false
set_option linter.unusedSimpArgs false
/-- The three answers' sum. -/
theorem sums (a b : Nat) : ∃ x y z u W : Int, cR 56 a b = x ∧ cR 55 a b = y ∧ cR 56 b a = z ∧ cR 57 a b = u ∧ 0 ≤ x ∧ x ≤ 1 ∧ 0 ≤ y ∧ y ≤ 1 ∧ 0 ≤ z ∧ z ≤ 1 ∧ x + y + z = W ∧ u = x + y ∧ ((9218868437227405312 < rg a ∨ 9218868437227405312 < rg b) ∧ W = 0 ∨ (rg a ≤ 9218868437227405312 ∧ rg b ≤ 9218868437227405312) ∧ W = 1) := by
  refine ⟨_, _, _, _, _, rfl, rfl, rfl, rfl, (cR_bd _ _ _).1, (cR_bd _ _ _).2, (cR_bd _ _ _).1, (cR_bd _ _ _).2, (cR_bd _ _ _).1, (cR_bd _ _ _).2, rfl, ?_, ?_⟩
  · by_cases h : 9218868437227405312 < rg a ∨ 9218868437227405312 < rg b
    · obtain ⟨h1, h2, h3, h4⟩ := order_none h
      rw [h1, h2, h4]
      rfl
    · exact (order_one (a := a) (b := b) (by omega) (by omega)).2
  · by_cases h : 9218868437227405312 < rg a ∨ 9218868437227405312 < rg b
    · obtain ⟨h1, h2, h3, h4⟩ := order_none h
      left
      rw [h1, h2, h3]
      exact ⟨h, rfl⟩
    · right
      exact ⟨by omega, (order_one (a := a) (b := b) (by omega) (by omega)).1⟩
set_option maxHeartbeats 1600000 in
set_option maxRecDepth 100000 in
theorem law (a b : Nat) (n : Int) (w : World) (ha : a < 18446744073709551616) (hb : b < 18446744073709551616) (n0 : 0 ≤ n) (n1 : n < 4294967296) (hz : w.cell? ⟨6, 15, none⟩ = some (.int .u8 4)) :
    Calls Tryd.prog 8 #[.int .u64 a, .int .u64 b, .int .u32 n] w fun e w' => e = .returned (.bool true) ∧ Below w.heap.size w w' := by
  obtain ⟨x, y, z, u, W, hx, hy, hzz, hu, x0, x1, y0, y1, z0, z1, hW, hu2, hc⟩ := sums a b
  have HX := Aside0.mk hx
  have HY := Aside0.mk hy
  have HZ := Aside0.mk hzz
  have HU := Aside0.mk hu
  have HN := Aside0.mk (to_from_u n0 n1)
  have ea := andNot_rg ha
  have eb := andNot_rg hb
  have r1 : (x + y + z == W) = true := beq_iff_eq.2 hW
  have r2 : (u == x + y) = true := beq_iff_eq.2 hu2
  have hfr : fromR n = ((floatOfInt .f64 (wrap32 n) : Nat) : Int) := rfl
  have HFR := Aside0.mk hfr
  clear hx hy hzz hu hW hu2 hfr
  generalize floatOfInt .f64 (wrap32 n) = fn at *
  go_enter Tryd.func8, Tryd.ntmps8
  go_wp2_with fail
  refine (works_calls w hz).mono ?_
  rintro e w1 ⟨rfl, hB⟩
  have HB := Aside0.mk hB
  clear hB hz
  go_wp2_with fail
  refine (cmp_prog 56 a b _).mono ?_
  rw [HX.out]
  rintro e w2 ⟨rfl, rfl⟩
  go_wp2_with fail
  refine (cmp_prog 55 a b _).mono ?_
  rw [HY.out]
  rintro e w2 ⟨rfl, rfl⟩
  go_wp2_with fail
  refine (cmp_prog 56 b a _).mono ?_
  rw [HZ.out]
  rintro e w2 ⟨rfl, rfl⟩
  go_wp2_with fail
  refine (cmp_prog 57 a b _).mono ?_
  rw [HU.out]
  rintro e w2 ⟨rfl, rfl⟩
  rcases hc with ⟨hn, rfl⟩ | ⟨⟨hna, hnb⟩, rfl⟩
  · by_cases h1 : 9218868437227405312 < rg a
    · have t1 : decide ((9218868437227405312 : Int) < ((rg a : Nat) : Int)) = true := decide_eq_true (by omega)
      have t1' : decide (9218868437227405312 < rg a) = true := decide_eq_true h1
      go_wp2_with fail
      refine (from_prog n _).mono ?_
      rw [HFR.out]
      rintro e w3 ⟨rfl, rfl⟩
      go_wp2_with fail
      refine (to_prog fn _).mono ?_
      rw [HN.out]
      rintro e w3 ⟨rfl, rfl⟩
      go_wp2_with fail
      go_ret
      exact ⟨rfl, HB.out⟩
    · have t1 : decide ((9218868437227405312 : Int) < ((rg a : Nat) : Int)) = false := decide_eq_false (by omega)
      have t2 : decide ((9218868437227405312 : Int) < ((rg b : Nat) : Int)) = true := decide_eq_true (by omega)
      go_wp2_with fail
      refine (from_prog n _).mono ?_
      rw [HFR.out]
      rintro e w3 ⟨rfl, rfl⟩
      go_wp2_with fail
      refine (to_prog fn _).mono ?_
      rw [HN.out]
      rintro e w3 ⟨rfl, rfl⟩
      go_wp2_with fail
      go_ret
      exact ⟨rfl, HB.out⟩
  · have t1 : decide ((9218868437227405312 : Int) < ((rg a : Nat) : Int)) = false := decide_eq_false (by omega)
    have t2 : decide ((9218868437227405312 : Int) < ((rg b : Nat) : Int)) = false := decide_eq_false (by omega)
    go_wp2_with fail
    refine (from_prog n _).mono ?_
    rw [HFR.out]
    rintro e w3 ⟨rfl, rfl⟩
    go_wp2_with fail
    refine (to_prog fn _).mono ?_
    rw [HN.out]
    rintro e w3 ⟨rfl, rfl⟩
    go_wp2_with fail
    go_ret
    exact ⟨rfl, HB.out⟩
end Go.Proofs.YtjaeligjcgjamaaDoor.DLawOrder
