/- Class: what both say. -/
import Derived.Test.YtjaeligjcgjamaaDoorPRealOrderx0
import Derived.Test.YtjaeligjcgjamaaDoorAid
import Derived.Test.YtjaeligjcgjamaaDoorFloatPlain
namespace Go.Proofs.YtjaeligjcgjamaaDoor.DRealPure
open Go.RowKit Go.Proofs.YtjaeligjcgjamaaDoor.PRealOrder Go.Proofs.YtjaeligjcgjamaaDoorW.PrintWords Go.Proofs.YtjaeligjcgjamaaDoorW.PrintLast Go.Proofs.YtjaeligjcgjamaaDoor.Aid Go.Proofs.YtjaeligjcgjamaaDoor.FloatPlain
set_option linter.unusedVariables false
set_option linter.unusedSimpArgs false
theorem andNot_rg {a : Nat} (h : a < 18446744073709551616) : Go.bits .andNot .u64 (a : Int) 9223372036854775808 = ((rg a : Nat) : Int) := by
  have h1 := u64_andNot_nat a 9223372036854775808 h (by decide)
  refine h1.trans ?_
  have e : 18446744073709551615 - 9223372036854775808 = 9223372036854775807 := rfl
  rw [e, nat_mask63]
  rfl
theorem nat_and_pow (a i : Nat) : a &&& 2 ^ i = a / 2 ^ i % 2 * 2 ^ i := by
  have h := Nat.toNat_testBit a i
  rw [← h]
  refine Nat.eq_of_testBit_eq fun j => ?_
  rw [Nat.testBit_and, Nat.testBit_two_pow]
  cases hb : a.testBit i with
  | true =>
    rw [Bool.toNat_true, Nat.one_mul, Nat.testBit_two_pow]
    by_cases hj : i = j
    · subst hj
      simp [hb]
    · simp [hj]
  | false =>
    rw [Bool.toNat_false, Nat.zero_mul, Nat.zero_testBit]
    by_cases hj : i = j
    · subst hj
      simp [hb]
    · simp [hj]
theorem and_pow {a : Nat} (h : a < 18446744073709551616) (i : Nat) (hi : i < 64) : Go.bits .and .u64 (a : Int) ((2 ^ i : Nat) : Int) = ((a / 2 ^ i % 2 * 2 ^ i : Nat) : Int) := by
  have hp : 2 ^ i < 18446744073709551616 := Nat.pow_lt_pow_right (a := 2) (by decide) hi
  rw [u64_and_nat a (2 ^ i) h hp, nat_and_pow]
theorem and_low {a : Nat} (h : a < 18446744073709551616) (i : Nat) (hi : i < 64) : Go.bits .and .u64 (a : Int) ((2 ^ i - 1 : Nat) : Int) = ((a % 2 ^ i : Nat) : Int) := by
  have hp : 2 ^ i < 18446744073709551616 := Nat.pow_lt_pow_right (a := 2) (by decide) hi
  rw [u64_and_nat a (2 ^ i - 1) h (by omega), Nat.and_two_pow_sub_one_eq_mod]
def cls (a : Nat) : Int :=
  if 9218868437227405312 < rg a then (if rg a / 2251799813685248 % 2 = 1 then 512 else 256)
  else if rg a = 9218868437227405312 then (if 9223372036854775808 ≤ a then 1 else 128)
  else if 4503599627370496 ≤ rg a then (if 9223372036854775808 ≤ a then 2 else 64)
  else if 0 < rg a then (if 9223372036854775808 ≤ a then 4 else 32)
  else (if 9223372036854775808 ≤ a then 8 else 16)
set_option maxHeartbeats 1600000 in
theorem class_prog {a : Nat} (h : a < 18446744073709551616) (w : World) : Calls Tryd.prog 15 #[.int .u64 a] w fun e w' => e = .returned (.int .u32 (cls a)) ∧ w' = w := by
  have e1 := and_low (a := a / 4503599627370496) (by omega) 11 (by omega)
  have e2 := and_low h 52 (by omega)
  have e3 := and_pow h 63 (by omega)
  have e11 : ((2 ^ 11 - 1 : Nat) : Int) = 2047 := by decide
  have e21 : ((2 ^ 52 - 1 : Nat) : Int) = 4503599627370495 := by decide
  have e31 : ((2 ^ 63 : Nat) : Int) = 9223372036854775808 := by decide
  have e0 : (a : Int) / 4503599627370496 = ((a / 4503599627370496 : Nat) : Int) := by omega
  rw [e11, ← e0] at e1
  rw [e21] at e2
  rw [e31] at e3
  have E1 := Aside0.mk e1
  have E2 := Aside0.mk e2
  have E3 := Aside0.mk e3
  have H := Aside0.mk h
  clear e1 e2 e3 e11 e21 e31 e0 h
  cases h1 : (Go.bits .and .u64 ((a : Int) / 4503599627370496) 2047 == 2047) <;> cases h2 : (Go.bits .and .u64 (a : Int) 4503599627370495 / 2251799813685248 == 1) <;> cases h3 : (Go.bits .and .u64 (a : Int) 4503599627370495 != 0) <;> cases h4 : (Go.bits .and .u64 ((a : Int) / 4503599627370496) 2047 != 0) <;> cases h5 : (Go.bits .and .u64 (a : Int) 9223372036854775808 != 0)
  all_goals
    go_enter Tryd.func15, Tryd.ntmps15
    go_wp2
    go_ret
    refine ⟨?_, rfl⟩
    have h := H.out
    rw [E1.out] at h1 h4
    rw [E2.out] at h2 h3
    rw [E3.out] at h5
    clear E1 E2 E3
    congr 2
    simp only [beq_iff_eq, bne_iff_ne, ne_eq, beq_eq_false_iff_ne, bne_eq_false_iff_eq] at h1 h2 h3 h4 h5
    unfold cls rg
    repeat' split
    all_goals first | rfl | (exfalso; omega)
end Go.Proofs.YtjaeligjcgjamaaDoor.DRealPure
