/- Compare: the program's and the document's; the ways to whole numbers and back. -/
import Derived.Test.YtjaeligjcgjamaaPRealComparesx0
import Derived.Test.YtjaeligjcgjamaaRealPure
namespace Go.Proofs.Ytjaeligjcgjamaa.RealCmp
open Go.RowKit Go.Proofs.Ytjaeligjcgjamaa.PRealCompares Go.Proofs.YtjaeligjcgjamaaW.PrintWords Go.Proofs.YtjaeligjcgjamaaW.PrintLast Go.Proofs.Ytjaeligjcgjamaa.Aid Go.Proofs.Ytjaeligjcgjamaa.FloatPlain Go.Proofs.Ytjaeligjcgjamaa.RealPure
set_option linter.unusedVariables false
set_option linter.unusedSimpArgs false
theorem isnan_calls {a : Nat} (h : a < 18446744073709551616) (w : World) : Calls Try.prog 16 #[.int .u64 a] w fun e w' => e = .returned (.bool (decide (9218868437227405312 < rg a))) ∧ w' = w := by
  have E := Aside0.mk (andNot_rg h)
  clear h
  go_enter Try.func16, Try.ntmps16
  go_wp2
  go_ret
  refine ⟨?_, rfl⟩
  show Ending.returned (.bool _) = _
  rw [E.out]
  refine congrArg Ending.returned (congrArg Value.bool ?_)
  exact decide_eq_decide.2 (by omega)
theorem zero_calls {a : Nat} (h : a < 18446744073709551616) (w : World) : Calls Try.prog 17 #[.int .u64 a] w fun e w' => e = .returned (.bool (decide (rg a = 0))) ∧ w' = w := by
  have E := Aside0.mk (andNot_rg h)
  clear h
  go_enter Try.func17, Try.ntmps17
  go_wp2
  go_ret
  refine ⟨?_, rfl⟩
  show Ending.returned (.bool _) = _
  rw [E.out]
  refine congrArg Ending.returned (congrArg Value.bool ?_)
  by_cases c : rg a = 0
  · rw [c]
    rfl
  · rw [decide_eq_false c]
    exact beq_eq_false_iff_ne.2 (by omega)
theorem order_calls {a : Nat} (h : a < 18446744073709551616) (w : World) : Calls Try.prog 27 #[.int .u64 a] w fun e w' => e = .returned (.int .i64 (ord a)) ∧ w' = w := by
  have E := Aside0.mk (andNot_rg h)
  have hr : rg a < 9223372036854775808 := by
    unfold rg
    omega
  by_cases c : 9223372036854775808 ≤ a
  · have t : decide (9223372036854775808 ≤ (a : Int)) = true := decide_eq_true (by omega)
    have e : ord a = -(rg a : Int) - 1 := by
      unfold ord
      rw [if_pos c]
    rw [e]
    have E' := E.out
    generalize hp : ((rg a : Nat) : Int) = p at *
    have hp0 : 0 ≤ p := by omega
    have hp1 : p < 9223372036854775808 := by omega
    clear h c e hp hr
    go_enter Try.func27, Try.ntmps27
    go_wp2
    go_ret
    refine ⟨?_, rfl⟩
    first | rfl | (rw [E.out]; rfl)
  · have t : decide (9223372036854775808 ≤ (a : Int)) = false := decide_eq_false (by omega)
    have e : ord a = a := by
      unfold ord
      rw [if_neg c]
    rw [e]
    clear e
    go_enter Try.func27, Try.ntmps27
    go_wp2
    go_ret
    exact ⟨rfl, rfl⟩
theorem less_calls {a b : Nat} (ha : a < 18446744073709551616) (hb : b < 18446744073709551616) (w : World) : Calls Try.prog 18 #[.int .u64 a, .int .u64 b] w fun e w' => e = .returned (.bool (decide (key a < key b))) ∧ w' = w := by
  have HA := Aside0.mk ha
  have HB := Aside0.mk hb
  have HK := Aside0.mk (key_lt_iff ha hb)
  clear ha hb
  go_enter Try.func18, Try.ntmps18
  go_wp2_with fail
  refine (zero_calls HA.out _).mono ?_
  rintro e w1 ⟨rfl, rfl⟩
  cases hz : decide (rg a = 0) with
  | true =>
    go_wp2_with fail
    refine (zero_calls HB.out _).mono ?_
    rintro e w1 ⟨rfl, rfl⟩
    cases hy : decide (rg b = 0) with
    | true =>
      go_wp2_with fail
      go_ret
      refine ⟨?_, rfl⟩
      refine congrArg Ending.returned (congrArg Value.bool (a₁ := false) (a₂ := decide (key a < key b)) ?_)
      refine (decide_eq_false fun h => ?_).symm
      exact (HK.out.1 h).1 ⟨of_decide_eq_true hz, of_decide_eq_true hy⟩
    | false =>
      go_wp2_with fail
      refine (order_calls HA.out _).mono ?_
      rintro e w1 ⟨rfl, rfl⟩
      go_wp2_with fail
      refine (order_calls HB.out _).mono ?_
      rintro e w1 ⟨rfl, rfl⟩
      go_wp2_with fail
      go_ret
      refine ⟨?_, rfl⟩
      refine congrArg Ending.returned (congrArg Value.bool (a₁ := decide (ord a < ord b)) (a₂ := decide (key a < key b)) ?_)
      refine decide_eq_decide.2 ?_
      rw [HK.out]
      exact ⟨fun h => ⟨fun hh => of_decide_eq_false hy hh.2, h⟩, fun h => h.2⟩
  | false =>
    go_wp2_with fail
    refine (order_calls HA.out _).mono ?_
    rintro e w1 ⟨rfl, rfl⟩
    go_wp2_with fail
    refine (order_calls HB.out _).mono ?_
    rintro e w1 ⟨rfl, rfl⟩
    go_wp2_with fail
    go_ret
    refine ⟨?_, rfl⟩
    refine congrArg Ending.returned (congrArg Value.bool (a₁ := decide (ord a < ord b)) (a₂ := decide (key a < key b)) ?_)
    refine decide_eq_decide.2 ?_
    rw [HK.out]
    exact ⟨fun h => ⟨fun hh => of_decide_eq_false hz hh.1, h⟩, fun h => h.2⟩
end Go.Proofs.Ytjaeligjcgjamaa.RealCmp
