/- What the laws of floats say, in words. No program is walked here. -/
import Derived.Test.YtjaeligjcgjamaaDoorDWorks
import Derived.Test.YtjaeligjcgjamaaDoorFloatFacts
namespace Go.Proofs.YtjaeligjcgjamaaDoor.DFacts
open Ieee Go.RowKit Go.Proofs.YtjaeligjcgjamaaDoor.Aid Go.Proofs.YtjaeligjcgjamaaDoor.FloatPlain Go.Proofs.YtjaeligjcgjamaaDoor.FloatExact Go.Proofs.YtjaeligjcgjamaaDoor.FloatFacts Go.Proofs.YtjaeligjcgjamaaDoor.DRealFl Go.Proofs.YtjaeligjcgjamaaDoor.DRealAr Go.Proofs.YtjaeligjcgjamaaDoor.DRealPick Go.Proofs.YtjaeligjcgjamaaDoor.DLawCompares
set_option linter.unusedVariables false
set_option linter.unusedSimpArgs false
theorem canon_of {r : Nat} (h : rg r ≤ 9218868437227405312) : canon r = r := by
  unfold canon
  rw [if_neg (by omega)]
theorem canon_near (s : Bool) (m : Nat) (p : Int) : canon (double.nearest s m p) = double.nearest s m p := canon_of (nearest_lt s m p).2
/-- How a whole number stands to 2 ^ 31, or to its opposite. -/
theorem order_whole {a c N k : Nat} {s t : Bool} (ha : double.read a = .number s (N * 2 ^ k) (-(k : Int))) (hc : double.read c = .number t (2147483648 * 2 ^ 21) (-(21 : Nat) : Int)) : double.order a c = some (compare (sgn s N) (sgn t 2147483648)) := by
  unfold Format.order
  rw [ha, hc]
  simp only [Datum.order]
  congr 1
  obtain ⟨K, hK⟩ : ∃ K : Nat, max k 21 = K := ⟨_, rfl⟩
  have e0 : min (-(k : Int)) (-(21 : Nat) : Int) = -(K : Int) := by omega
  rw [e0]
  have e1 : (-(k : Int) - -(K : Int)).toNat = K - k := by omega
  have e2 : ((-(21 : Nat) : Int) - -(K : Int)).toNat = K - 21 := by omega
  rw [e1, e2, signed_eq, signed_eq, Nat.mul_assoc, Nat.mul_assoc, ← Nat.pow_add, ← Nat.pow_add]
  have e3 : k + (K - k) = K := by omega
  have e4 : 21 + (K - 21) = K := by omega
  rw [e3, e4, ← signed_eq, ← signed_eq]
  have h := cmp_scale s t N 2147483648 0 0 K
  rw [Nat.zero_add, signed_eq, signed_eq, Nat.pow_zero, Nat.mul_one, Nat.mul_one] at h
  exact h.symm
theorem read_hi : double.read 4746794007248502784 = .number false (2147483648 * 2 ^ 21) (-(21 : Nat) : Int) := by decide
theorem read_lo : double.read 13970166044103278592 = .number true (2147483648 * 2 ^ 21) (-(21 : Nat) : Int) := by decide
theorem sgn_abs (m : Int) : sgn (decide (m < 0)) m.natAbs = m := by
  unfold sgn
  by_cases h : m < 0
  · rw [decide_eq_true h, if_pos rfl]
    omega
  · rw [decide_eq_false h, if_neg Bool.false_ne_true]
    omega
/-- A whole number comes back. -/
theorem to_from {m : Int} (h0 : -2147483648 ≤ m) (h1 : m ≤ 2147483647) : toR (double.nearest (m < 0) m.natAbs 0) = m % 4294967296 := by
  by_cases hm : m = 0
  · subst hm
    decide
  obtain ⟨k, hk, a, b, hr⟩ := read_whole (decide (m < 0)) (show 0 < m.natAbs by omega) (show m.natAbs < 9007199254740992 by omega)
  have hi := order_whole hr read_hi
  have lo := order_whole hr read_lo
  rw [sgn_abs] at hi lo
  have hw := to_whole h0 h1
  obtain ⟨_, hn⟩ := nearest_lt (decide (m < 0)) m.natAbs 0
  unfold toR
  rw [if_neg (by omega), hi, lo, hw]
  have c1 : compare m (sgn false 2147483648) = .lt := Int.compare_eq_lt.2 (by simp [sgn]; omega)
  rw [c1, if_neg (by simp)]
  by_cases hl : m = -2147483648
  · have c2 : compare m (sgn true 2147483648) = .eq := Int.compare_eq_eq.2 (by simp [sgn]; omega)
    rw [c2, if_pos (by simp), hl]
    rfl
  · have c2 : compare m (sgn true 2147483648) = .gt := Int.compare_eq_gt.2 (by simp [sgn]; omega)
    rw [c2, if_neg (by simp)]
theorem from_near (n : Int) : floatOfInt .f64 n = double.nearest (n < 0) n.natAbs 0 := rfl
theorem to_from_u {n : Int} (h0 : 0 ≤ n) (h1 : n < 4294967296) : toR (floatOfInt .f64 (wrap32 n)) = n := by
  have hb := w32_bd n
  rw [from_near, to_from hb.1 hb.2, w32_of]
  omega
/-- Of two that are no NaN just one of less, equal, greater is so. -/
theorem order_one {a b : Nat} (ha : rg a ≤ 9218868437227405312) (hb : rg b ≤ 9218868437227405312) : cR 56 a b + cR 55 a b + cR 56 b a = 1 ∧ cR 57 a b = cR 56 a b + cR 55 a b := by
  unfold cR
  rw [order_eq ha hb, order_eq hb ha]
  rcases Int.lt_trichotomy (key a) (key b) with h | h | h
  · rw [Int.compare_eq_lt.2 h, Int.compare_eq_gt.2 h]
    decide
  · rw [Int.compare_eq_eq.2 h, Int.compare_eq_eq.2 h.symm]
    decide
  · rw [Int.compare_eq_gt.2 h, Int.compare_eq_lt.2 h]
    decide
theorem order_none {a b : Nat} (h : 9218868437227405312 < rg a ∨ 9218868437227405312 < rg b) : cR 56 a b = 0 ∧ cR 55 a b = 0 ∧ cR 56 b a = 0 ∧ cR 57 a b = 0 := by
  unfold cR
  rw [order_nan h, order_nan h.symm]
  decide
theorem cR_bd (op : Int) (a b : Nat) : 0 ≤ cR op a b ∧ cR op a b ≤ 1 := by
  unfold cR
  split
  · split <;> omega
  · split
    · split <;> omega
    · split
      · split <;> omega
      · omega
end Go.Proofs.YtjaeligjcgjamaaDoor.DFacts
