/- Noughts and halves: the walk of the law. -/
import Derived.Test.YtjaeligjcgjamaaDoorDFacts2
namespace Go.Proofs.YtjaeligjcgjamaaDoor.DLawZeros
open Ieee Go.RowKit Go.Proofs.YtjaeligjcgjamaaDoor.PRealOrder Go.Proofs.YtjaeligjcgjamaaDoorW.PrintWords Go.Proofs.YtjaeligjcgjamaaDoorW.PrintLast Go.Proofs.YtjaeligjcgjamaaDoorW.PrintMore Go.Proofs.YtjaeligjcgjamaaDoor.Aid Go.Proofs.YtjaeligjcgjamaaDoor.FloatPlain Go.Proofs.YtjaeligjcgjamaaDoor.FloatExact Go.Proofs.YtjaeligjcgjamaaDoor.DRealPure Go.Proofs.YtjaeligjcgjamaaDoor.DRealFl Go.Proofs.YtjaeligjcgjamaaDoor.DRealAr Go.Proofs.YtjaeligjcgjamaaDoor.DRealPick Go.Proofs.YtjaeligjcgjamaaDoor.DLawAriths Go.Proofs.YtjaeligjcgjamaaDoor.DLawCompares Go.Proofs.YtjaeligjcgjamaaDoor.DWorks Go.Proofs.YtjaeligjcgjamaaDoor.DFacts Go.Proofs.YtjaeligjcgjamaaDoor.DFacts2
set_option linter.unusedVariables false
set_option linter.unusedSimpArgs false
theorem half_from {n : Int} (n0 : 0 ≤ n) (n1 : n < 4294967296) : ∃ f x : Nat, fromR (n / 2) = (f : Int) ∧ f < 18446744073709551616 ∧ x < 18446744073709551616 ∧ res (fop .quo f 4611686018427387904) = x ∧ res (fop .add x x) = f := by
  obtain ⟨x, h1, h2, h3⟩ := half_r (N := (n / 2).toNat) (by omega)
  refine ⟨double.nearest false (n / 2).toNat 0, x, ?_, Nat.lt_of_lt_of_le (nearest_lt _ _ _).1 (by decide), h2, h1, h3⟩
  show ((floatOfInt .f64 (wrap32 (n / 2)) : Nat) : Int) = _
  rw [from_nat (by omega) (by omega)]
set_option maxHeartbeats 1600000 in
set_option maxRecDepth 100000 in
theorem law (a : Nat) (n : Int) (w : World) (ha : a < 18446744073709551616) (n0 : 0 ≤ n) (n1 : n < 4294967296) (hz : w.cell? ⟨6, 15, none⟩ = some (.int .u8 4)) :
    Calls Tryd.prog 7 #[.int .u64 a, .int .u32 n] w fun e w' => e = .returned (.bool true) ∧ Below w.heap.size w w' := by
  obtain ⟨f, x, hf, hfl, hxl, hx1, hx2⟩ := half_from n0 n1
  have HF := Aside0.mk hf
  have HX1 := Aside0.mk hx1
  have HX2 := Aside0.mk hx2
  have ea := andNot_rg ha
  have es := and_sign ha
  clear hf hx1 hx2
  go_enter Tryd.func7, Tryd.ntmps7
  go_wp2_with fail
  refine (works_calls w hz).mono ?_
  rintro e w1 ⟨rfl, hB⟩
  have HB1 := Aside0.mk hB
  clear hB hz
  by_cases hi : 9218868437227405312 ≤ rg a
  · have t1 : decide ((9218868437227405312 : Int) ≤ ((rg a : Nat) : Int)) = true := decide_eq_true (by omega)
    go_wp2_with fail
    go_ret
    exact ⟨rfl, HB1.out⟩
  have hr : rg a < 9218868437227405312 := by omega
  have t1 : decide ((9218868437227405312 : Int) ≤ ((rg a : Nat) : Int)) = false := decide_eq_false (by omega)
  have HR1 := Aside0.mk (sub_self_r hr)
  have HR2 := Aside0.mk (div_one_r ha hr)
  have HR3 := Aside0.mk (mul_zero_r hr)
  have HR4 := Aside0.mk (add_zero_r ha hr)
  generalize Ieee.double.word (sg a) 0 = z at *
  go_wp2_with fail
  refine (prog47 ha ha _).mono ?_
  rw [HR1.out]
  rintro e w2 ⟨rfl, k, hw⟩
  have HB2 : Aside0 (Below w.heap.size w w2) := ⟨by rw [hw]; exact pw_below_drewN HB1.out k⟩
  clear hw HB1
  go_wp2_with fail
  refine (prog49 ha (b := 4607182418800017408) (by decide) _).mono ?_
  rw [HR2.out]
  rintro e w3 ⟨rfl, k, hw⟩
  have HB3 : Aside0 (Below w.heap.size w w3) := ⟨by rw [hw]; exact pw_below_drewN HB2.out k⟩
  clear hw HB2
  go_wp2_with fail
  refine (prog48 ha (b := 0) (by decide) _).mono ?_
  rw [HR3.out]
  rintro e w4 ⟨rfl, k, hw⟩
  have HB4 : Aside0 (Below w.heap.size w w4) := ⟨by rw [hw]; exact pw_below_drewN HB3.out k⟩
  clear hw HB3
  go_wp2_with fail
  refine (prog46 ha (b := 0) (by decide) _).mono ?_
  rw [HR4.out]
  rintro e w5 ⟨rfl, k, hw⟩
  have HB5 : Aside0 (Below w.heap.size w w5) := ⟨by rw [hw]; exact pw_below_drewN HB4.out k⟩
  clear hw HB4
  by_cases h0 : rg a = 0
  · rw [if_pos h0]
    have q1 : (((rg a : Nat) : Int) != 0) = false := by simp [h0]
    have q2 : (((rg a : Nat) : Int) == 0) = true := by simp [h0]
    have q3 : decide (rg a = 0) = true := decide_eq_true h0
    go_wp2_with fail
    refine (from_prog (n / 2) _).mono ?_
    rw [HF.out]
    rintro e w6 ⟨rfl, rfl⟩
    go_wp2_with fail
    refine (prog49 hfl (b := 4611686018427387904) (by decide) _).mono ?_
    rw [HX1.out]
    rintro e w7 ⟨rfl, k, hw⟩
    have HB6 : Aside0 (Below w.heap.size w w7) := ⟨by rw [hw]; exact pw_below_drewN HB5.out k⟩
    clear hw HB5
    go_wp2_with fail
    refine (prog46 hxl hxl _).mono ?_
    rw [HX2.out]
    rintro e w8 ⟨rfl, k, hw⟩
    have HB7 : Aside0 (Below w.heap.size w w8) := ⟨by rw [hw]; exact pw_below_drewN HB6.out k⟩
    clear hw HB6
    go_wp2_with fail
    refine (num_calls _ _).mono ?_
    rintro e w9 ⟨rfl, rfl⟩
    go_wp2_with fail
    go_ret
    exact ⟨rfl, HB7.out⟩
  · rw [if_neg h0]
    have q1 : (((rg a : Nat) : Int) != 0) = true := by simp [h0]
    have q2 : (((rg a : Nat) : Int) == 0) = false := by simp [h0]
    have q3 : decide (rg a = 0) = false := decide_eq_false h0
    go_wp2_with fail
    refine (from_prog (n / 2) _).mono ?_
    rw [HF.out]
    rintro e w6 ⟨rfl, rfl⟩
    go_wp2_with fail
    refine (prog49 hfl (b := 4611686018427387904) (by decide) _).mono ?_
    rw [HX1.out]
    rintro e w7 ⟨rfl, k, hw⟩
    have HB6 : Aside0 (Below w.heap.size w w7) := ⟨by rw [hw]; exact pw_below_drewN HB5.out k⟩
    clear hw HB5
    go_wp2_with fail
    refine (prog46 hxl hxl _).mono ?_
    rw [HX2.out]
    rintro e w8 ⟨rfl, k, hw⟩
    have HB7 : Aside0 (Below w.heap.size w w8) := ⟨by rw [hw]; exact pw_below_drewN HB6.out k⟩
    clear hw HB6
    go_wp2_with fail
    refine (num_calls _ _).mono ?_
    rintro e w9 ⟨rfl, rfl⟩
    go_wp2_with fail
    go_ret
    exact ⟨rfl, HB7.out⟩
end Go.Proofs.YtjaeligjcgjamaaDoor.DLawZeros
