/- The document's root, bit by bit: it is the model's. -/
import Derived.Test.YtjaeligjcgjamaaDoorDRealAr
namespace Go.Proofs.YtjaeligjcgjamaaDoor.DRealRootW
open Go.RowKit Go.Proofs.YtjaeligjcgjamaaDoor.PRealOrder Go.Proofs.YtjaeligjcgjamaaDoorW.PrintWords Go.Proofs.YtjaeligjcgjamaaDoorW.PrintLast Go.Proofs.YtjaeligjcgjamaaDoor.Aid Go.Proofs.YtjaeligjcgjamaaDoor.FloatPlain Go.Proofs.YtjaeligjcgjamaaDoor.DRealPure Go.Proofs.YtjaeligjcgjamaaDoor.DRealCmp Go.Proofs.YtjaeligjcgjamaaDoor.DRealFl Go.Proofs.YtjaeligjcgjamaaDoor.RealRoot Go.Proofs.YtjaeligjcgjamaaDoor.DRealAr
set_option linter.unusedVariables false
set_option linter.unusedSimpArgs false
theorem and1 (x : Int) : Go.bits .and .i64 x 1 = x % 2 := by
  have h : (BitVec.ofInt 64 x &&& BitVec.ofInt 64 1).toNat = (x % 2).toNat := by
    rw [BitVec.toNat_and]
    have e : (BitVec.ofInt 64 1).toNat = 2 ^ 1 - 1 := by decide
    rw [e, Nat.and_two_pow_sub_one_eq_mod, BitVec.toNat_ofInt]
    omega
  have h2 : Go.bits .and .i64 x 1 = IntKind.i64.wrap ((BitVec.ofInt 64 x &&& BitVec.ofInt 64 1).toNat : Int) := rfl
  rw [h2, h, IntWalk.i64_left, w64_of]
  omega
theorem canon_num {r : Nat} (h : rg r ≤ 9218868437227405312) : canon r = r := by
  unfold canon
  rw [if_neg (by omega)]
theorem ret_u64 {a b : Int} (h : a = b) : Ending.returned (.int .u64 a) = .returned (.int .u64 b) := by rw [h]
theorem val_u64 {a b : Int} (h : a = b) : Value.int .u64 a = Value.int .u64 b := by rw [h]
theorem val_i64 {a b : Int} (h : a = b) : Value.int .i64 a = Value.int .i64 b := by rw [h]
/-- What holds at the digits' loop: the number, what is left, the root so far, the digit that comes. -/
def Dig (M m q r : Nat) : Prop := (∃ k, k ≤ 53 ∧ r = 2 ^ k ∧ m * r + q * q = M ∧ M < (q + 2 * r) * (q + 2 * r) ∧ q + 2 * r ≤ 18014398509481984) ∨ (r = 0 ∧ IsRoot M q ∧ m = 2 * (M - q * q) ∧ q ≤ 18014398509481984)
theorem left_lt {M m q r : Nat} (h : m * r + q * q = M) (h1 : M < (q + 2 * r) * (q + 2 * r)) : m < 4 * q + 4 * r := by
  rcases Nat.lt_or_ge m (4 * q + 4 * r) with c | c
  · exact c
  · exfalso
    have h2 := Nat.mul_le_mul_right r c
    rw [Nat.add_mul, Nat.mul_assoc, Nat.mul_assoc] at h2
    rw [sq_add, Nat.mul_left_comm q 2, Nat.mul_mul_mul_comm] at h1
    omega
theorem dig_yes {M m q r k : Nat} (hr : r = 2 ^ k) (h : m * r + q * q = M) (h1 : M < (q + 2 * r) * (q + 2 * r)) (h2 : q + 2 * r ≤ 18014398509481984) (hk : k ≤ 53) (ht : 2 * q + r ≤ m) : Dig M ((m - (2 * q + r)) * 2) (q + r) (r / 2) := by
  have e0 : (m - (2 * q + r)) * r + (q + r) * (q + r) = M := by
    rw [Nat.sub_mul, sq_add, Nat.add_mul]
    have h3 := Nat.mul_le_mul_right r ht
    rw [Nat.add_mul] at h3
    have h4 : 2 * q * r = 2 * (q * r) := Nat.mul_assoc _ _ _
    omega
  have e3 : q + 2 * r = q + r + r := by omega
  rw [e3] at h1
  generalize q + r = p at e0 h1 e3 ⊢
  generalize m - (2 * q + r) = n at e0
  cases k with
  | zero =>
    rw [Nat.pow_zero] at hr
    subst hr
    right
    refine ⟨rfl, ⟨by omega, h1⟩, by omega, by omega⟩
  | succ k =>
    left
    have h5 : r / 2 = 2 ^ k := by
      rw [hr, Nat.pow_succ]
      omega
    have h6 : r = 2 * (r / 2) := by
      rw [hr, Nat.pow_succ]
      omega
    generalize hs : r / 2 = s at h5 h6
    refine ⟨k, by omega, h5, ?_, ?_, by omega⟩
    · rw [Nat.mul_assoc, ← h6]
      exact e0
    · rw [← h6]
      exact h1
theorem dig_no {M m q r k : Nat} (hr : r = 2 ^ k) (h : m * r + q * q = M) (h1 : M < (q + 2 * r) * (q + 2 * r)) (h2 : q + 2 * r ≤ 18014398509481984) (hk : k ≤ 53) (ht : m < 2 * q + r) : Dig M (m * 2) q (r / 2) := by
  have hr0 : 0 < r := by
    rw [hr]
    exact Nat.pow_pos (by decide)
  have e0 : M < (q + r) * (q + r) := by
    rw [sq_add]
    have h3 := Nat.mul_lt_mul_of_pos_right ht hr0
    rw [Nat.add_mul] at h3
    have h4 : 2 * q * r = 2 * (q * r) := Nat.mul_assoc _ _ _
    omega
  cases k with
  | zero =>
    rw [Nat.pow_zero] at hr
    subst hr
    right
    refine ⟨rfl, ⟨by omega, e0⟩, by omega, by omega⟩
  | succ k =>
    left
    have h5 : r / 2 = 2 ^ k := by
      rw [hr, Nat.pow_succ]
      omega
    have h6 : r = 2 * (r / 2) := by
      rw [hr, Nat.pow_succ]
      omega
    generalize hs : r / 2 = s at h5 h6
    refine ⟨k, by omega, h5, ?_, ?_, by omega⟩
    · rw [Nat.mul_assoc, ← h6]
      exact h
    · rw [← h6]
      exact e0
theorem and_one {q : Nat} (h : q < 18446744073709551616) : Go.bits .and .u64 (q : Int) 1 = ((q % 2 : Nat) : Int) := and_low h 1 (by omega)
theorem dig_start {N : Nat} (h : N < 36028797018963968) : Dig (N * 9007199254740992) N 0 9007199254740992 := by
  left
  refine ⟨53, by omega, by decide, by omega, ?_, by omega⟩
  have : (0 + 2 * 9007199254740992) * (0 + 2 * 9007199254740992) = 36028797018963968 * 9007199254740992 := by decide
  rw [this]
  exact Nat.mul_lt_mul_of_pos_right h (by decide)
theorem sqrt_pos {a m : Nat} {i : Int} (hread : Ieee.double.read a = .number false m i) (m0 : 0 < m) (m1 : m < 9007199254740992) (z : Nat) (z0 : 4503599627370496 ≤ m * 2 ^ z) (z1 : m * 2 ^ z < 9007199254740992) (E : Int) (hE : E = i + 52 - z) (r : Nat) (hr : E % 2 = r) (M : Nat) (hM : m * 2 ^ z * 2 ^ r * 18014398509481984 = M)
    (i0 : -1100 ≤ E) (i1 : E ≤ 1100) (q : Nat) (hq : IsRoot M q) : res (Ieee.double.sqrt a) = (E / 2 + 1022).toNat * 4503599627370496 + (q / 2 + q % 2) := by
  have h := root_eq m0 m1 z z0 z1 E hE r hr q (by rw [hM]; exact hq) (by omega) (by omega)
  have hs : Ieee.double.sqrt a = ((Ieee.double.read a).root 54).map Ieee.double.write := rfl
  rw [hs, hread, h]
  show canon _ = _
  refine canon_num ?_
  have hq2 : q < 18014398509481984 := by
    have h2 := hq.1
    have h3 : q * q < 324518553658426726783156020576256 := by
      have hr2 : r = 0 ∨ r = 1 := by omega
      rw [← hM] at h2
      rcases hr2 with rfl | rfl <;> omega
    exact lt_of_sq (b := 18014398509481984) (Nat.lt_of_lt_of_le h3 (Nat.le_of_eq (by decide)))
  have : (E / 2 + 1022).toNat ≤ 1600 := by omega
  unfold rg
  omega
theorem even_root {M q : Nat} (hM : M % 2 = 0) (h : 2 * (M - q * q) = 0) (hq : q * q ≤ M) : q % 2 = 0 := by
  rcases Nat.mod_two_eq_zero_or_one q with c | c
  · exact c
  · have := odd_sq c
    omega

end Go.Proofs.YtjaeligjcgjamaaDoor.DRealRootW
