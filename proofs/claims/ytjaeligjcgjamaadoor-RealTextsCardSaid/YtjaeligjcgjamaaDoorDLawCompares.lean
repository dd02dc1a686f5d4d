/- Every comparison and class, and the ways to a whole number and back: the walk of the law. -/
import Derived.Test.YtjaeligjcgjamaaDoorDRealFl
import Derived.Laws.Cover2
import Derived.BigQuiet
namespace Go.Proofs.YtjaeligjcgjamaaDoor.DLawCompares
open Go.RowKit Go.Proofs.YtjaeligjcgjamaaDoor.PRealOrder Go.Proofs.YtjaeligjcgjamaaDoorW.PrintWords Go.Proofs.YtjaeligjcgjamaaDoorW.PrintLast Go.Proofs.YtjaeligjcgjamaaDoor.Aid Go.Proofs.YtjaeligjcgjamaaDoor.FloatPlain Go.Proofs.YtjaeligjcgjamaaDoor.DRealPure Go.Proofs.YtjaeligjcgjamaaDoor.DRealCmp Go.Proofs.YtjaeligjcgjamaaDoor.DRealFl
set_option linter.unusedVariables false
set_option linter.unusedSimpArgs false
theorem order_self {a : Nat} (h : rg a ≤ 9218868437227405312) : Ieee.double.order a a = some .eq := by
  rw [order_eq h h]
  simp
theorem cR_nan {op : Int} {a b : Nat} (h : 9218868437227405312 < rg a ∨ 9218868437227405312 < rg b) : cR op a b = 0 := by
  unfold cR
  rw [order_nan h]
  simp
theorem cR_num {op : Int} {a b : Nat} (ha : rg a ≤ 9218868437227405312) (hb : rg b ≤ 9218868437227405312) (h1 : a < 18446744073709551616) (h2 : b < 18446744073709551616) :
    cR op a b = if op = 55 then (if a = b ∨ (rg a = 0 ∧ rg b = 0) then 1 else 0) else if op = 56 then (if key a < key b then 1 else 0) else if op = 57 then (if key a < key b ∨ (a = b ∨ (rg a = 0 ∧ rg b = 0)) then 1 else 0) else 0 := by
  unfold cR
  rw [order_eq ha hb]
  have e1 : (some (compare (key a) (key b)) = some Ordering.eq) ↔ (a = b ∨ (rg a = 0 ∧ rg b = 0)) := by
    rw [← key_eq_iff h1 h2]
    constructor
    · intro h
      exact Int.compare_eq_eq.1 (Option.some.inj h)
    · intro h
      rw [Int.compare_eq_eq.2 h]
  have e2 : (some (compare (key a) (key b)) = some Ordering.lt) ↔ key a < key b := by
    constructor
    · intro h
      exact Int.compare_eq_lt.1 (Option.some.inj h)
    · intro h
      rw [Int.compare_eq_lt.2 h]
  simp only [e1, e2]
/-- What ToInt tells. -/
def toR (a : Nat) : Int :=
  if 9218868437227405312 < rg a then 2147483647
  else if Ieee.double.order a 4746794007248502784 = some .gt ∨ Ieee.double.order a 4746794007248502784 = some .eq then 2147483647
  else if Ieee.double.order a 13970166044103278592 = some .lt ∨ Ieee.double.order a 13970166044103278592 = some .eq then 2147483648
  else match (Ieee.double.read a).toInt .zero with
    | some n => n % 4294967296
    | none => 0
theorem rest {a : Nat} (h : ¬ 9218868437227405312 < rg a) (h1 : ¬ (Ieee.double.order a 4746794007248502784 = some .gt ∨ Ieee.double.order a 4746794007248502784 = some .eq)) (h2 : ¬ (Ieee.double.order a 13970166044103278592 = some .lt ∨ Ieee.double.order a 13970166044103278592 = some .eq)) :
    ∃ n : Int, (Ieee.double.read a).toInt .zero = some n ∧ -2147483648 ≤ n ∧ n ≤ 2147483647 := by
  refine in_range (by omega) ?_ ?_
  · rw [order_eq (by omega) (by decide)] at h1 ⊢
    cases hc : compare (key a) (key 4746794007248502784) with
    | lt => rfl
    | eq => exact absurd (.inr (by rw [hc])) h1
    | gt => exact absurd (.inl (by rw [hc])) h1
  · rw [order_eq (by omega) (by decide)] at h2 ⊢
    cases hc : compare (key a) (key 13970166044103278592) with
    | gt => rfl
    | eq => exact absurd (.inr (by rw [hc])) h2
    | lt => exact absurd (.inl (by rw [hc])) h2
theorem or_bool {x y : Option Ordering} {p q : Option Ordering} (h : x = p ∨ y = q) : (x == p || y == q) = true := by
  rcases h with rfl | rfl <;> simp
theorem nor_bool {x y : Option Ordering} {p q : Option Ordering} (h : ¬ (x = p ∨ y = q)) : (x == p || y == q) = false := by
  have h1 : ¬ x = p := fun e => h (.inl e)
  have h2 : ¬ y = q := fun e => h (.inr e)
  simp [h1, h2]
set_option maxHeartbeats 1600000 in
theorem to_prog (a : Nat) (w : World) : Calls Tryd.prog 19 #[.int .u64 a] w fun e w' => e = .returned (.int .u32 (toR a)) ∧ w' = w := by
  by_cases h0 : 9218868437227405312 < rg a
  · have t : (FloatKind.f64.format.order a a != some .eq) = true := by
      show (Ieee.double.order a a != some .eq) = true
      rw [order_nan (.inl h0)]
      rfl
    have e : toR a = 2147483647 := by
      unfold toR
      rw [if_pos h0]
    rw [e]
    clear e
    go_enter Tryd.func19, Tryd.ntmps19
    go_wp2_with fail
    refine (float_calls a _).mono ?_
    rintro e w1 ⟨rfl, rfl⟩
    go_wp2_with fail
    go_ret
    exact ⟨rfl, rfl⟩
  · have t : (FloatKind.f64.format.order a a != some .eq) = false := by
      show (Ieee.double.order a a != some .eq) = false
      rw [order_self (by omega)]
      rfl
    by_cases h1 : Ieee.double.order a 4746794007248502784 = some .gt ∨ Ieee.double.order a 4746794007248502784 = some .eq
    · have t1 : (FloatKind.f64.format.order a 4746794007248502784 == some .gt || FloatKind.f64.format.order a 4746794007248502784 == some .eq) = true := or_bool h1
      have e : toR a = 2147483647 := by
        unfold toR
        rw [if_neg h0, if_pos h1]
      rw [e]
      clear e
      go_enter Tryd.func19, Tryd.ntmps19
      go_wp2_with fail
      refine (float_calls a _).mono ?_
      rintro e w1 ⟨rfl, rfl⟩
      go_wp2_with fail
      go_ret
      exact ⟨rfl, rfl⟩
    · have t1 : (FloatKind.f64.format.order a 4746794007248502784 == some .gt || FloatKind.f64.format.order a 4746794007248502784 == some .eq) = false := nor_bool h1
      by_cases h2 : Ieee.double.order a 13970166044103278592 = some .lt ∨ Ieee.double.order a 13970166044103278592 = some .eq
      · have t2 : (FloatKind.f64.format.order a 13970166044103278592 == some .lt || FloatKind.f64.format.order a 13970166044103278592 == some .eq) = true := or_bool h2
        have e : toR a = 2147483648 := by
          unfold toR
          rw [if_neg h0, if_neg h1, if_pos h2]
        rw [e]
        clear e
        go_enter Tryd.func19, Tryd.ntmps19
        go_wp2_with fail
        refine (float_calls a _).mono ?_
        rintro e w1 ⟨rfl, rfl⟩
        go_wp2_with fail
        go_ret
        exact ⟨rfl, rfl⟩
      · have t2 : (FloatKind.f64.format.order a 13970166044103278592 == some .lt || FloatKind.f64.format.order a 13970166044103278592 == some .eq) = false := nor_bool h2
        obtain ⟨n, hn, n0, n1⟩ := rest h0 h1 h2
        have e : toR a = n % 4294967296 := by
          unfold toR
          rw [if_neg h0, if_neg h1, if_neg h2, hn]
        rw [e]
        have hc := fun w => conv_in hn n0 n1 w
        clear e
        go_enter Tryd.func19, Tryd.ntmps19
        go_wp2_with fail
        refine (float_calls a _).mono ?_
        rintro e w1 ⟨rfl, rfl⟩
        go_wp2_with fail
        go_ret
        exact ⟨rfl, rfl⟩
end Go.Proofs.YtjaeligjcgjamaaDoor.DLawCompares
