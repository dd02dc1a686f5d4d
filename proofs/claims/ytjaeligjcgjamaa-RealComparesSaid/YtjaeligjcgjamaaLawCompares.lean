/- Every comparison and class, and the ways to a whole number and back: the walk of the law. -/
import Derived.Test.YtjaeligjcgjamaaRealRef
import Derived.Laws.Cover2
import Derived.BigQuiet
namespace Go.Proofs.Ytjaeligjcgjamaa.LawCompares
open Go.RowKit Go.Proofs.Ytjaeligjcgjamaa.PRealCompares Go.Proofs.YtjaeligjcgjamaaW.PrintWords Go.Proofs.YtjaeligjcgjamaaW.PrintLast Go.Proofs.Ytjaeligjcgjamaa.Aid Go.Proofs.Ytjaeligjcgjamaa.FloatPlain Go.Proofs.Ytjaeligjcgjamaa.RealPure Go.Proofs.Ytjaeligjcgjamaa.RealCmp Go.Proofs.Ytjaeligjcgjamaa.RealFl Go.Proofs.Ytjaeligjcgjamaa.RealRef
set_option linter.unusedVariables false
set_option linter.unusedSimpArgs false
theorem order_self {a : Nat} (h : rg a ≤ 9218868437227405312) : Ieee.double.order a a = some .eq := by
  rw [order_eq h h]
  simp
theorem cR_nan {op : Int} {a b : Nat} (h : 9218868437227405312 < rg a ∨ 9218868437227405312 < rg b) : cR op a b = 0 := by
  unfold cR
  rw [order_nan h]
  simp
theorem cR_num {op : Int} {a b : Nat} (ha : rg a ≤ 9218868437227405312) (hb : rg b ≤ 9218868437227405312) (h1 : a < 18446744073709551616) (h2 : b < 18446744073709551616) :
    cR op a b = if op = 55 then (if a = b ∨ (rg a = 0 ∧ rg b = 0) then 1 else 0) else if op = 56 then (if key a < key b then 1 else 0) else if op = 57 then (if key a < key b ∨ (a = b ∨ (rg a = 0 ∧ rg b = 0)) then 1 else 0) else 0 := by
  unfold cR
  rw [order_eq ha hb]
  have e1 : (some (compare (key a) (key b)) = some Ordering.eq) ↔ (a = b ∨ (rg a = 0 ∧ rg b = 0)) := by
    rw [← key_eq_iff h1 h2]
    constructor
    · intro h
      exact Int.compare_eq_eq.1 (Option.some.inj h)
    · intro h
      rw [Int.compare_eq_eq.2 h]
  have e2 : (some (compare (key a) (key b)) = some Ordering.lt) ↔ key a < key b := by
    constructor
    · intro h
      exact Int.compare_eq_lt.1 (Option.some.inj h)
    · intro h
      rw [Int.compare_eq_lt.2 h]
  simp only [e1, e2]
/-- What ToInt tells. -/
def toR (a : Nat) : Int :=
  if 9218868437227405312 < rg a then 2147483647
  else if Ieee.double.order a 4746794007248502784 = some .gt ∨ Ieee.double.order a 4746794007248502784 = some .eq then 2147483647
  else if Ieee.double.order a 13970166044103278592 = some .lt ∨ Ieee.double.order a 13970166044103278592 = some .eq then 2147483648
  else match (Ieee.double.read a).toInt .zero with
    | some n => n % 4294967296
    | none => 0
theorem rest {a : Nat} (h : ¬ 9218868437227405312 < rg a) (h1 : ¬ (Ieee.double.order a 4746794007248502784 = some .gt ∨ Ieee.double.order a 4746794007248502784 = some .eq)) (h2 : ¬ (Ieee.double.order a 13970166044103278592 = some .lt ∨ Ieee.double.order a 13970166044103278592 = some .eq)) :
    ∃ n : Int, (Ieee.double.read a).toInt .zero = some n ∧ -2147483648 ≤ n ∧ n ≤ 2147483647 := by
  refine in_range (by omega) ?_ ?_
  · rw [order_eq (by omega) (by decide)] at h1 ⊢
    cases hc : compare (key a) (key 4746794007248502784) with
    | lt => rfl
    | eq => exact absurd (.inr (by rw [hc])) h1
    | gt => exact absurd (.inl (by rw [hc])) h1
  · rw [order_eq (by omega) (by decide)] at h2 ⊢
    cases hc : compare (key a) (key 13970166044103278592) with
    | gt => rfl
    | eq => exact absurd (.inr (by rw [hc])) h2
    | lt => exact absurd (.inl (by rw [hc])) h2
theorem or_bool {x y : Option Ordering} {p q : Option Ordering} (h : x = p ∨ y = q) : (x == p || y == q) = true := by
  rcases h with rfl | rfl <;> simp
theorem nor_bool {x y : Option Ordering} {p q : Option Ordering} (h : ¬ (x = p ∨ y = q)) : (x == p || y == q) = false := by
  have h1 : ¬ x = p := fun e => h (.inl e)
  have h2 : ¬ y = q := fun e => h (.inr e)
  simp [h1, h2]
set_option maxHeartbeats 1600000 in
theorem to_prog (a : Nat) (w : World) : Calls Try.prog 11 #[.int .u64 a] w fun e w' => e = .returned (.int .u32 (toR a)) ∧ w' = w := by
  by_cases h0 : 9218868437227405312 < rg a
  · have t : (FloatKind.f64.format.order a a != some .eq) = true := by
      show (Ieee.double.order a a != some .eq) = true
      rw [order_nan (.inl h0)]
      rfl
    have e : toR a = 2147483647 := by
      unfold toR
      rw [if_pos h0]
    rw [e]
    clear e
    go_enter Try.func11, Try.ntmps11
    go_wp2_with fail
    refine (float_calls a _).mono ?_
    rintro e w1 ⟨rfl, rfl⟩
    go_wp2_with fail
    go_ret
    exact ⟨rfl, rfl⟩
  · have t : (FloatKind.f64.format.order a a != some .eq) = false := by
      show (Ieee.double.order a a != some .eq) = false
      rw [order_self (by omega)]
      rfl
    by_cases h1 : Ieee.double.order a 4746794007248502784 = some .gt ∨ Ieee.double.order a 4746794007248502784 = some .eq
    · have t1 : (FloatKind.f64.format.order a 4746794007248502784 == some .gt || FloatKind.f64.format.order a 4746794007248502784 == some .eq) = true := or_bool h1
      have e : toR a = 2147483647 := by
        unfold toR
        rw [if_neg h0, if_pos h1]
      rw [e]
      clear e
      go_enter Try.func11, Try.ntmps11
      go_wp2_with fail
      refine (float_calls a _).mono ?_
      rintro e w1 ⟨rfl, rfl⟩
      go_wp2_with fail
      go_ret
      exact ⟨rfl, rfl⟩
    · have t1 : (FloatKind.f64.format.order a 4746794007248502784 == some .gt || FloatKind.f64.format.order a 4746794007248502784 == some .eq) = false := nor_bool h1
      by_cases h2 : Ieee.double.order a 13970166044103278592 = some .lt ∨ Ieee.double.order a 13970166044103278592 = some .eq
      · have t2 : (FloatKind.f64.format.order a 13970166044103278592 == some .lt || FloatKind.f64.format.order a 13970166044103278592 == some .eq) = true := or_bool h2
        have e : toR a = 2147483648 := by
          unfold toR
          rw [if_neg h0, if_neg h1, if_pos h2]
        rw [e]
        clear e
        go_enter Try.func11, Try.ntmps11
        go_wp2_with fail
        refine (float_calls a _).mono ?_
        rintro e w1 ⟨rfl, rfl⟩
        go_wp2_with fail
        go_ret
        exact ⟨rfl, rfl⟩
      · have t2 : (FloatKind.f64.format.order a 13970166044103278592 == some .lt || FloatKind.f64.format.order a 13970166044103278592 == some .eq) = false := nor_bool h2
        obtain ⟨n, hn, n0, n1⟩ := rest h0 h1 h2
        have e : toR a = n % 4294967296 := by
          unfold toR
          rw [if_neg h0, if_neg h1, if_neg h2, hn]
        rw [e]
        have hc := fun w => conv_in hn n0 n1 w
        clear e
        go_enter Try.func11, Try.ntmps11
        go_wp2_with fail
        refine (float_calls a _).mono ?_
        rintro e w1 ⟨rfl, rfl⟩
        go_wp2_with fail
        go_ret
        exact ⟨rfl, rfl⟩
/-- The document's. -/
theorem mark : True := trivial
theorem refC_eq {op : Nat} {a b : Nat} (hop : op = 55 ∨ op = 56 ∨ op = 57) (ha : a < 18446744073709551616) (hb : b < 18446744073709551616) : refC op (decide (9218868437227405312 < rg a)) (decide (9218868437227405312 < rg b)) ((a : Int) == (b : Int)) (decide (rg a = 0)) (decide (rg b = 0)) (decide (key a < key b)) = cR op a b := by
  by_cases h1 : 9218868437227405312 < rg a
  · rw [cR_nan (.inl h1), decide_eq_true h1]
    rfl
  · by_cases h2 : 9218868437227405312 < rg b
    · rw [cR_nan (.inr h2), decide_eq_false h1, decide_eq_true h2]
      rfl
    · rw [cR_num (by omega) (by omega) ha hb, decide_eq_false h1, decide_eq_false h2]
      have hq : ((a : Int) == (b : Int)) = decide (a = b) := by
        rw [Bool.eq_iff_iff]
        simp
        omega
      rw [hq]
      have kk : ∀ (P Z1 Z2 L : Prop) [Decidable P] [Decidable Z1] [Decidable Z2] [Decidable L], refC op false false (decide P) (decide Z1) (decide Z2) (decide L) = if (op : Int) = 55 then (if P ∨ (Z1 ∧ Z2) then 1 else 0) else if (op : Int) = 56 then (if L then 1 else 0) else if (op : Int) = 57 then (if L ∨ (P ∨ (Z1 ∧ Z2)) then 1 else 0) else 0 := by
        intro P Z1 Z2 L _ _ _ _
        rcases hop with rfl | rfl | rfl <;> by_cases c1 : P <;> by_cases c2 : Z1 <;> by_cases c3 : Z2 <;> by_cases c4 : L <;> simp [refC, b1, c1, c2, c3, c4]
      exact kk _ _ _ _
theorem cmp_ref {a b : Nat} (op : Int) (ha : a < 18446744073709551616) (hb : b < 18446744073709551616) (w : World) : Calls Try.prog 6 #[.int .i64 op, .int .u64 a, .int .u64 b] w fun e w' => e = .returned (.tuple #[.int .u32 (cR op a b), .int .i64 (cE op)]) ∧ w' = w := by
  by_cases h1 : op = 55
  · subst h1
    have e := refC_eq (op := 55) (.inl rfl) ha hb
    refine (ref55 ⟨ha⟩ ⟨hb⟩ w _ _ _ _ _ _ ⟨rfl⟩ ⟨rfl⟩ ⟨rfl⟩ ⟨rfl⟩ ⟨rfl⟩ ⟨rfl⟩).mono ?_
    rintro e' w' ⟨rfl, rfl⟩
    rw [e]
    exact ⟨rfl, rfl⟩
  · by_cases h2 : op = 56
    · subst h2
      have e := refC_eq (op := 56) (.inr (.inl rfl)) ha hb
      refine (ref56 ⟨ha⟩ ⟨hb⟩ w _ _ _ _ _ _ ⟨rfl⟩ ⟨rfl⟩ ⟨rfl⟩ ⟨rfl⟩ ⟨rfl⟩ ⟨rfl⟩).mono ?_
      rintro e' w' ⟨rfl, rfl⟩
      rw [e]
      exact ⟨rfl, rfl⟩
    · by_cases h3 : op = 57
      · subst h3
        have e := refC_eq (op := 57) (.inr (.inr rfl)) ha hb
        refine (ref57 ⟨ha⟩ ⟨hb⟩ w _ _ _ _ _ _ ⟨rfl⟩ ⟨rfl⟩ ⟨rfl⟩ ⟨rfl⟩ ⟨rfl⟩ ⟨rfl⟩).mono ?_
        rintro e' w' ⟨rfl, rfl⟩
        rw [e]
        exact ⟨rfl, rfl⟩
      · have e1 : cR op a b = 0 := by simp [cR, h1, h2, h3]
        have e2 : cE op = 5 := by simp [cE, h1, h2, h3]
        rw [e1, e2]
        have t1 : (op != 55) = true := bne_iff_ne.2 h1
        have t2 : (op != 56) = true := bne_iff_ne.2 h2
        have t3 : (op != 57) = true := bne_iff_ne.2 h3
        clear e1 e2
        go_enter Try.func6, Try.ntmps6
        go_wp2_with fail
        go_ret2
        exact ⟨rfl, rfl⟩
set_option maxHeartbeats 1600000 in
theorem to_ref {a : Nat} (ha : a < 18446744073709551616) (w : World) : Calls Try.prog 12 #[.int .u64 a] w fun e w' => e = .returned (.int .u32 (toR a)) ∧ w' = w := by
  have hf : ∀ w, (callFunc 20 #[.int .u64 a]).run Try.prog w = .ok (.value (.float .f64 a)) w := fun w => frombits a w
  have HA := Aside0.mk ha
  clear ha
  by_cases h0 : 9218868437227405312 < rg a
  · have t : (FloatKind.f64.format.order a a != some .eq) = true := by
      show (Ieee.double.order a a != some .eq) = true
      rw [order_nan (.inl h0)]
      rfl
    have e : toR a = 2147483647 := by
      unfold toR
      rw [if_pos h0]
    rw [e]
    clear e
    go_enter Try.func12, Try.ntmps12
    go_wp2_with fail
    refine (isnan_calls HA.out _).mono ?_
    rintro e w1 ⟨rfl, rfl⟩
    first | rw [decide_eq_true h0] | rw [decide_eq_false h0]
    go_wp2_with fail
    go_ret
    exact ⟨rfl, rfl⟩
  · have t : (FloatKind.f64.format.order a a != some .eq) = false := by
      show (Ieee.double.order a a != some .eq) = false
      rw [order_self (by omega)]
      rfl
    by_cases h1 : Ieee.double.order a 4746794007248502784 = some .gt ∨ Ieee.double.order a 4746794007248502784 = some .eq
    · have t1 : (FloatKind.f64.format.order a 4746794007248502784 == some .gt || FloatKind.f64.format.order a 4746794007248502784 == some .eq) = true := or_bool h1
      have e : toR a = 2147483647 := by
        unfold toR
        rw [if_neg h0, if_pos h1]
      rw [e]
      clear e
      go_enter Try.func12, Try.ntmps12
      go_wp2_with fail
      refine (isnan_calls HA.out _).mono ?_
      rintro e w1 ⟨rfl, rfl⟩
      first | rw [decide_eq_true h0] | rw [decide_eq_false h0]
      go_wp2_with fail
      go_ret
      exact ⟨rfl, rfl⟩
    · have t1 : (FloatKind.f64.format.order a 4746794007248502784 == some .gt || FloatKind.f64.format.order a 4746794007248502784 == some .eq) = false := nor_bool h1
      by_cases h2 : Ieee.double.order a 13970166044103278592 = some .lt ∨ Ieee.double.order a 13970166044103278592 = some .eq
      · have t2 : (FloatKind.f64.format.order a 13970166044103278592 == some .lt || FloatKind.f64.format.order a 13970166044103278592 == some .eq) = true := or_bool h2
        have e : toR a = 2147483648 := by
          unfold toR
          rw [if_neg h0, if_neg h1, if_pos h2]
        rw [e]
        clear e
        go_enter Try.func12, Try.ntmps12
        go_wp2_with fail
        refine (isnan_calls HA.out _).mono ?_
        rintro e w1 ⟨rfl, rfl⟩
        first | rw [decide_eq_true h0] | rw [decide_eq_false h0]
        go_wp2_with fail
        go_ret
        exact ⟨rfl, rfl⟩
      · have t2 : (FloatKind.f64.format.order a 13970166044103278592 == some .lt || FloatKind.f64.format.order a 13970166044103278592 == some .eq) = false := nor_bool h2
        obtain ⟨n, hn, n0, n1⟩ := rest h0 h1 h2
        have e : toR a = n % 4294967296 := by
          unfold toR
          rw [if_neg h0, if_neg h1, if_neg h2, hn]
        rw [e]
        have hc := fun w => conv_in hn n0 n1 w
        clear e
        go_enter Try.func12, Try.ntmps12
        go_wp2_with fail
        refine (isnan_calls HA.out _).mono ?_
        rintro e w1 ⟨rfl, rfl⟩
        first | rw [decide_eq_true h0] | rw [decide_eq_false h0]
        go_wp2_with fail
        go_ret
        exact ⟨rfl, rfl⟩
set_option maxHeartbeats 1600000 in
theorem law (op : Int) (a b : Nat) (n : Int) (w : World) (ha : a < 18446744073709551616) (hb : b < 18446744073709551616) : Calls Try.prog 3 #[.int .i64 op, .int .u64 a, .int .u64 b, .int .u32 n] w fun e w' => e = .returned (.bool true) ∧ Below w.heap.size w w' := by
  have HA := Aside0.mk ha
  have HB := Aside0.mk hb
  clear ha hb
  go_enter Try.func3, Try.ntmps3
  go_wp2_with fail
  refine (cmp_prog op a b _).mono ?_
  rintro e w1 ⟨rfl, rfl⟩
  go_wp2_with fail
  refine (cmp_ref op HA.out HB.out _).mono ?_
  rintro e w1 ⟨rfl, rfl⟩
  go_wp2_with fail
  refine (class_prog HA.out _).mono ?_
  rintro e w1 ⟨rfl, rfl⟩
  go_wp2_with fail
  refine (class_ref HA.out _).mono ?_
  rintro e w1 ⟨rfl, rfl⟩
  go_wp2_with fail
  refine (from_prog n _).mono ?_
  rintro e w1 ⟨rfl, rfl⟩
  go_wp2_with fail
  refine (from_ref n _).mono ?_
  rintro e w1 ⟨rfl, rfl⟩
  go_wp2_with fail
  refine (to_prog a _).mono ?_
  rintro e w1 ⟨rfl, rfl⟩
  go_wp2_with fail
  refine (to_ref HA.out _).mono ?_
  rintro e w1 ⟨rfl, rfl⟩
  go_wp2_with fail
  go_ret
  exact ⟨rfl, Below.refl _ _⟩
theorem walk (op a b n : Int) (w : World) (h0 : (Lit.int .i64 op).wf = true) (h1 : (Lit.int .u64 a).wf = true) (h2 : (Lit.int .u64 b).wf = true) (h3 : (Lit.int .u32 n).wf = true) :
    Calls Try.prog 3 #[.int .i64 op, .int .u64 a, .int .u64 b, .int .u32 n] w fun e w' => e = .returned (.bool true) ∧ Below w.heap.size w w' := by
  have ha := u64_bd h1
  have hb := u64_bd h2
  obtain ⟨x, rfl⟩ := Int.eq_ofNat_of_zero_le ha.1
  obtain ⟨y, rfl⟩ := Int.eq_ofNat_of_zero_le hb.1
  exact law op x y n w (by omega) (by omega)
end Go.Proofs.Ytjaeligjcgjamaa.LawCompares
