/- Words are extended with and without sign. No condition. -/
import Derived.Test.YthhhebdcccfgkaaPWordExtendsx1
import Derived.Test.YthhhebdcccfgkaaAid
namespace Go.Proofs.Ythhhebdcccfgkaa.Pure
open Go.RowKit Go.Proofs.Ythhhebdcccfgkaa.PWordExtends Go.Proofs.YthhhebdcccfgkaaW.PrintWords Go.Proofs.YthhhebdcccfgkaaW.PrintLast Go.Proofs.Ythhhebdcccfgkaa.Aid

theorem two_pows {n : Nat} (h1 : 1 ≤ n) (h2 : n ≤ 31) : ∃ h q : Int, (2 : Int) ^ n = 2 * h ∧ (2 : Int) ^ (32 - n) = q ∧ 0 < h ∧ 0 < q ∧ h * q = 2147483648 ∧ 2 * h ≤ 2147483648 := by
  have e : (2 : Int) * (2 : Int) ^ (n - 1) = (2 : Int) ^ n := by
    rw [Int.mul_comm, ← Int.pow_succ]
    congr 1
    omega
  refine ⟨(2 : Int) ^ (n - 1), (2 : Int) ^ (32 - n), e.symm, rfl, Int.pow_pos (by decide), Int.pow_pos (by decide), ?_, ?_⟩
  · rw [← Int.pow_add]
    have : n - 1 + (32 - n) = 31 := by omega
    rw [this]
    rfl
  · have : 2 ^ n ≤ 2147483648 := Nat.pow_le_pow_right (n := 2) (by decide) h2
    rw [e, ← pow_cast]
    omega
theorem shl_mod {a p q : Int} (hq : 0 < q) : (a * q) % (p * q) = a % p * q := by
  rw [Int.mul_comm a, Int.mul_comm p, Int.mul_emod_mul_of_pos _ _ hq, Int.mul_comm]
theorem shl_u {a h q : Int} (hq : 0 < q) (e : h * q = 2147483648) : (a * q) % 4294967296 / q = a % (2 * h) := by
  have : (4294967296 : Int) = 2 * h * q := by rw [Int.mul_assoc, e]; rfl
  rw [this, shl_mod hq, Int.mul_ediv_cancel _ (by omega)]
theorem shl_s {a h q : Int} (hh : 0 < h) (hq : 0 < q) (e : h * q = 2147483648) : wrap32 ((a * q) % 4294967296) / q = if a % (2 * h) ≥ h then a % (2 * h) - 2 * h else a % (2 * h) := by
  have e2 : (4294967296 : Int) = 2 * h * q := by rw [Int.mul_assoc, e]; rfl
  have r0 := Int.emod_nonneg a (show 2 * h ≠ 0 by omega)
  have r1 := Int.emod_lt_of_pos a (show 0 < 2 * h by omega)
  have e3 : (a * q) % 4294967296 = a % (2 * h) * q := by rw [e2, shl_mod hq]
  rw [e3, w32_of]
  generalize a % (2 * h) = r at *
  split
  · rename_i hr
    have h1 : h * q ≤ r * q := Int.mul_le_mul_of_nonneg_right hr (by omega)
    have h2 : r * q < 2 * h * q := Int.mul_lt_mul_of_pos_right r1 hq
    have h3 : (r * q + 2147483648) % 4294967296 - 2147483648 = (r - 2 * h) * q := by
      rw [Int.sub_mul]
      omega
    rw [h3, Int.mul_ediv_cancel _ (by omega)]
  · rename_i hr
    have h1 : r * q < h * q := Int.mul_lt_mul_of_pos_right (by omega) hq
    have h2 : 0 ≤ r * q := Int.mul_nonneg r0 (by omega)
    have h3 : (r * q + 2147483648) % 4294967296 - 2147483648 = r * q := by omega
    rw [h3, Int.mul_ediv_cancel _ (by omega)]
theorem word_eq (x : Int) : bulkheadref01_Word.f x = some (x % 4294967296) := by
  unfold bulkheadref01_Word.f
  rw [and_low]
theorem ext_prog {a : Int} {n : Nat} (h1 : 1 ≤ n) (h2 : n ≤ 31) (s : Bool) :
    word_Extend.f a (n : Int) s = some ((if s = true ∧ a % 2 ^ n ≥ 2 ^ n / 2 then a % 2 ^ n - 2 ^ n else a % 2 ^ n) % 4294967296) := by
  obtain ⟨h, q, ep, eq, hh, hq, e, hb⟩ := two_pows h1 h2
  unfold word_Extend.f
  rw [w64 (x := 32 - (n : Int)) (by omega) (by omega), if_neg (by omega), if_neg (by omega)]
  have em : min (32 - (n : Int)).toNat IntKind.u32.bits = 32 - n := by
    simp only [IntKind.bits]
    omega
  have em2 : min (32 - (n : Int)).toNat IntKind.i32.bits = 32 - n := em
  unfold shl shr
  rw [em, em2, eq, ep, u32w]
  have r0 := Int.emod_nonneg a (show 2 * h ≠ 0 by omega)
  have r1 := Int.emod_lt_of_pos a (show 0 < 2 * h by omega)
  have eh : 2 * h / 2 = h := by omega
  rw [eh]
  cases s with
  | true =>
    simp only [if_true, true_and]
    rw [if_pos (by omega), shl_s hh hq e]
  | false =>
    simp only [Bool.false_eq_true, if_false, false_and]
    rw [if_pos (by omega), shl_u hq e]
    congr 1
    omega
theorem ext_ref {a : Int} (a0 : 0 ≤ a) (a1 : a < 4294967296) {n : Nat} (h1 : 1 ≤ n) (h2 : n ≤ 31) (s : Bool) :
    bulkheadref01_Extend.f a (n : Int) s = some ((if s = true ∧ a % 2 ^ n ≥ 2 ^ n / 2 then a % 2 ^ n - 2 ^ n else a % 2 ^ n) % 4294967296) := by
  obtain ⟨h, q, ep, eq, hh, hq, e, hb⟩ := two_pows h1 h2
  unfold bulkheadref01_Extend.f
  have es : shl .i64 1 (n : Int) = 2 * h := by
    unfold shl
    have em : min (n : Int).toNat IntKind.i64.bits = n := by
      simp only [IntKind.bits]
      omega
    rw [em, ep, Int.one_mul, IntWalk.i64_left, w64 (by omega) (by omega)]
  have r0 := Int.emod_nonneg a (show 2 * h ≠ 0 by omega)
  have r1 := Int.emod_lt_of_pos a (show 0 < 2 * h by omega)
  have et : Int.tdiv (2 * h) 2 = h := by rw [Int.tdiv_eq_ediv_of_nonneg (by omega)]; omega
  have eh : 2 * h / 2 = h := by omega
  rw [es, w64 (x := a) (by omega) (by omega), Int.tmod_eq_emod_of_nonneg a0, ep, et, eh, w64 (x := h) (by omega) (by omega), if_neg (by omega), if_neg (by omega), if_pos (by omega), if_neg (by omega)]
  simp only [word_eq, Option.bind_some]
  cases s with
  | true =>
    simp only [if_true, true_and]
    split
    · rw [w64 (by omega) (by omega)]
    · rfl
  | false =>
    simp only [Bool.false_eq_true, if_false, false_and]
theorem WordExtends : bulkheadlaw01_WordExtends.Pure := by
  intro a n s ha hn
  obtain ⟨a0, a1⟩ := u32_bd ha
  unfold bulkheadlaw01_WordExtends.f
  by_cases h1 : n < 1
  · unfold word_Extend.f bulkheadref01_Extend.f
    rw [if_pos h1, if_pos h1]
    simp
  by_cases h2 : n > 31
  · unfold word_Extend.f bulkheadref01_Extend.f
    rw [if_neg h1, if_neg h1, if_pos h2, if_pos h2]
    simp
  obtain ⟨m, rfl⟩ := Int.eq_ofNat_of_zero_le (show 0 ≤ n by omega)
  rw [ext_prog (by omega) (by omega), ext_ref a0 a1 (by omega) (by omega)]
  simp

end Go.Proofs.Ythhhebdcccfgkaa.Pure
