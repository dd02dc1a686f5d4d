/- Numbers that a double has are written as they are. No program here. -/
import Derived.Test.YtjaeligjcgjamaaDoorRealRoot
namespace Go.Proofs.YtjaeligjcgjamaaDoor.FloatExact
open Ieee Go.Proofs.YtjaeligjcgjamaaDoor.FloatPlain Go.Proofs.YtjaeligjcgjamaaDoor.RealRoot
set_option linter.unusedVariables false
theorem cut_eq (s : Bool) (n d : Nat) : Toward.even.cut s n d = n / 2 ^ min d (n.log2 + 2) + (decide (2 ^ min d (n.log2 + 2) < 2 * (n % 2 ^ min d (n.log2 + 2))) || (2 ^ min d (n.log2 + 2) == 2 * (n % 2 ^ min d (n.log2 + 2)) && n / 2 ^ min d (n.log2 + 2) % 2 == 1)).toNat := by
  unfold Toward.cut
  rw [Nat.one_shiftLeft]
theorem cut_zero (s : Bool) (n : Nat) : Toward.even.cut s n 0 = n := by
  rw [cut_eq, Nat.zero_min, Nat.pow_zero, Nat.div_one, Nat.mod_one]
  simp
theorem log2_scale {m : Nat} (h : m ≠ 0) (k : Nat) : (m * 2 ^ k).log2 = m.log2 + k := by
  refine log2_of ?_ ?_
  · rw [Nat.pow_add]
    exact Nat.mul_le_mul_right _ (Nat.log2_self_le h)
  · have h1 : m < 2 ^ (m.log2 + 1) := Nat.lt_log2_self
    have e : 2 ^ (m.log2 + k + 1) = 2 ^ (m.log2 + 1) * 2 ^ k := by
      rw [← Nat.pow_add]
      congr 1
      omega
    rw [e]
    exact Nat.mul_lt_mul_of_pos_right h1 (Nat.pow_pos (by decide))
theorem scale_ne {m : Nat} (h : m ≠ 0) (k : Nat) : m * 2 ^ k ≠ 0 := by
  have := Nat.pow_pos (n := k) (show 0 < 2 by decide)
  exact Nat.mul_ne_zero h (by omega)
theorem cut_scale {m : Nat} (h : m ≠ 0) (s : Bool) (d k : Nat) : Toward.even.cut s (m * 2 ^ k) (d + k) = Toward.even.cut s m d := by
  rw [cut_eq, cut_eq, log2_scale h]
  have e : min (d + k) (m.log2 + k + 2) = min d (m.log2 + 2) + k := by omega
  rw [e, Nat.pow_add]
  generalize 2 ^ min d (m.log2 + 2) = g
  have hk : 0 < 2 ^ k := Nat.pow_pos (by decide)
  generalize 2 ^ k = K at hk
  rw [Nat.mul_div_mul_right _ _ hk, Nat.mul_mod_mul_right]
  have e1 : 2 * (m % g * K) = 2 * (m % g) * K := by rw [Nat.mul_assoc]
  rw [e1]
  have e2 : (g * K < 2 * (m % g) * K) = (g < 2 * (m % g)) := propext ⟨fun h => Nat.lt_of_mul_lt_mul_right h, fun h => Nat.mul_lt_mul_of_pos_right h hk⟩
  have e3 : (g * K == 2 * (m % g) * K) = (g == 2 * (m % g)) := by
    rw [Bool.eq_iff_iff, beq_iff_eq, beq_iff_eq]
    exact ⟨fun h => Nat.eq_of_mul_eq_mul_right hk h, fun h => congrArg (· * K) h⟩
  rw [e3]
  simp only [e2]
theorem cut_exact {m : Nat} (h : m ≠ 0) (s : Bool) (d k : Nat) (hd : d ≤ k) : Toward.even.cut s (m * 2 ^ k) d = m * 2 ^ (k - d) := by
  have e : m * 2 ^ k = m * 2 ^ (k - d) * 2 ^ d := by
    rw [Nat.mul_assoc, ← Nat.pow_add]
    congr 2
    omega
  have := cut_scale (scale_ne h (k - d)) s 0 d
  rw [Nat.zero_add] at this
  rw [e, this, cut_zero]
theorem least : double.leastPlace = -1074 := by decide
theorem fbits : double.fractionBits = 52 := rfl
theorem nearest_zero (s : Bool) (p : Int) : double.nearest s 0 p = double.word s 0 := by
  unfold Format.nearest
  rw [if_pos rfl]
theorem nearest_pos {m : Nat} (h : m ≠ 0) (s : Bool) (p : Int) : double.nearest s m p = double.word s (min ((max (p + m.log2 - 52) (-1074) + 1074).toNat * 4503599627370496 + Toward.even.cut s (m * 2 ^ (p - max (p + m.log2 - 52) (-1074)).toNat) (max (p + m.log2 - 52) (-1074) - p).toNat) 9218868437227405312) := by
  unfold Format.nearest
  rw [if_neg h]
  simp only [least, fbits, Nat.shiftLeft_eq]
  rfl
/-- A number's digits may be written lower, with noughts behind them. -/
theorem nearest_scale {m : Nat} (s : Bool) (p : Int) (k : Nat) : double.nearest s (m * 2 ^ k) p = double.nearest s m (p + k) := by
  by_cases h : m = 0
  · subst h
    rw [Nat.zero_mul, nearest_zero, nearest_zero]
  rw [nearest_pos h, nearest_pos (scale_ne h k), log2_scale h]
  have e : p + ((m.log2 + k : Nat) : Int) - 52 = p + (k : Int) + (m.log2 : Int) - 52 := by omega
  rw [e]
  generalize max (p + (k : Int) + (m.log2 : Int) - 52) (-1074) = L
  congr 2
  congr 1
  rw [Nat.mul_assoc, ← Nat.pow_add]
  by_cases h1 : L ≤ p
  · have d1 : (L - p).toNat = 0 := by omega
    have d2 : (L - (p + (k : Int))).toNat = 0 := by omega
    have d3 : k + (p - L).toNat = (p + (k : Int) - L).toNat := by omega
    rw [d1, d2, d3]
  · have d0 : (p - L).toNat = 0 := by omega
    rw [d0, Nat.add_zero]
    by_cases h2 : L ≤ p + k
    · have d2 : (L - (p + (k : Int))).toNat = 0 := by omega
      rw [d2, cut_zero, cut_exact h _ _ _ (by omega)]
      congr 2
      omega
    · have d2 : (p + (k : Int) - L).toNat = 0 := by omega
      have d3 : (L - p).toNat = (L - (p + (k : Int))).toNat + k := by omega
      rw [d2, d3, cut_scale h, Nat.pow_zero, Nat.mul_one]
/-- A number of 53 digits. -/
theorem nearest_norm {m : Nat} (s : Bool) (p : Int) (h0 : 4503599627370496 ≤ m) (h1 : m < 9007199254740992) (p0 : -1074 ≤ p) (p1 : p ≤ 971) : double.nearest s m p = double.word s ((p + 1074).toNat * 4503599627370496 + m) := by
  have hm : m ≠ 0 := by omega
  have hl : m.log2 = 52 := log2_of (by omega) (by omega)
  rw [nearest_pos hm, hl]
  have e : max (p + ((52 : Nat) : Int) - 52) (-1074) = p := by omega
  rw [e]
  have e2 : (p - p).toNat = 0 := by omega
  rw [e2, Nat.pow_zero, Nat.mul_one, cut_zero]
  congr 1
  have : (p + 1074).toNat ≤ 2045 := by omega
  omega
theorem nearest_low {m : Nat} (s : Bool) (h1 : m < 4503599627370496) : double.nearest s m (-1074) = double.word s m := by
  by_cases hm : m = 0
  · subst hm
    exact nearest_zero s _
  have hl : m.log2 < 52 := (Nat.log2_lt hm).2 (by omega)
  rw [nearest_pos hm]
  have e : max (-1074 + (m.log2 : Int) - 52) (-1074) = -1074 := by omega
  rw [e]
  have e2 : ((-1074 : Int) - -1074).toNat = 0 := by decide
  have e3 : ((-1074 : Int) + 1074).toNat = 0 := by decide
  rw [e2, e3, Nat.pow_zero, Nat.mul_one, cut_zero]
  congr 1
  omega
theorem word_eq (s : Bool) (r : Nat) : double.word s r = if s then 9223372036854775808 + r else r := by
  unfold Format.word
  have : double.signWeight = 9223372036854775808 := by decide
  rw [this]
theorem word_of {a : Nat} (ha : a < 18446744073709551616) : double.word (sg a) (rg a) = a := by
  rw [word_eq, sg_eq ha]
  unfold rg
  by_cases c : 9223372036854775808 ≤ a
  · rw [decide_eq_true c, if_pos rfl]
    omega
  · rw [decide_eq_false c, if_neg (by simp)]
    omega
theorem word_sg {s : Bool} {r : Nat} (h : r < 9223372036854775808) : sg (double.word s r) = s ∧ rg (double.word s r) = r ∧ double.word s r < 18446744073709551616 := by
  rw [word_eq]
  cases s
  · rw [if_neg (by simp), sg_eq (by omega), decide_eq_false (by omega)]
    exact ⟨rfl, rg_lo h, by omega⟩
  · rw [if_pos rfl, sg_eq (by omega), decide_eq_true (by omega)]
    refine ⟨rfl, ?_, by omega⟩
    unfold rg
    omega
/-- What was read is written as it was. -/
theorem nearest_back {a : Nat} (ha : a < 18446744073709551616) (h : rg a < 9218868437227405312) : double.nearest (sg a) (mag (rg a)) (-1074 + (plc (rg a) : Nat)) = a := by
  have hw := word_of ha
  by_cases h2 : rg a < 4503599627370496
  · have e1 : mag (rg a) = rg a := by
      unfold mag
      rw [if_pos h2]
    have e2 : plc (rg a) = 0 := by
      unfold plc
      rw [if_pos h2]
    rw [e1, e2]
    exact (nearest_low _ h2).trans hw
  · have e1 : mag (rg a) = 4503599627370496 + rg a % 4503599627370496 := by
      unfold mag
      rw [if_neg h2]
    have e2 : plc (rg a) = rg a / 4503599627370496 - 1 := by
      unfold plc
      rw [if_neg h2]
    rw [e1, e2, nearest_norm _ _ (by omega) (by omega) (by omega) (by omega)]
    refine Eq.trans ?_ hw
    congr 1
    omega
theorem read_word {s : Bool} {r : Nat} (h : r < 9218868437227405312) : double.read (double.word s r) = .number s (mag r) (-1074 + (plc r : Nat)) := by
  obtain ⟨h1, h2, _⟩ := word_sg (s := s) (show r < 9223372036854775808 by omega)
  rw [read_num (by rw [h2]; exact h), h1, h2]
/-- What is written of 53 digits is read as it was. -/
theorem read_norm {m : Nat} (s : Bool) (p : Int) (h0 : 4503599627370496 ≤ m) (h1 : m < 9007199254740992) (p0 : -1074 ≤ p) (p1 : p ≤ 970) : double.read (double.nearest s m p) = .number s m p := by
  rw [nearest_norm s p h0 h1 p0 (by omega), read_word (by omega)]
  unfold mag plc
  rw [if_neg (by omega), if_neg (by omega)]
  congr 1 <;> omega
theorem norm_whole {N : Nat} (h0 : 0 < N) (h1 : N < 9007199254740992) : ∃ k, k ≤ 52 ∧ 4503599627370496 ≤ N * 2 ^ k ∧ N * 2 ^ k < 9007199254740992 := by
  have hn : N ≠ 0 := by omega
  have a := Nat.log2_self_le hn
  have b : N < 2 ^ (N.log2 + 1) := Nat.lt_log2_self
  have c : N.log2 < 53 := (Nat.log2_lt hn).2 (by omega)
  refine ⟨52 - N.log2, by omega, ?_, ?_⟩
  · have e : (4503599627370496 : Nat) = 2 ^ N.log2 * 2 ^ (52 - N.log2) := by
      rw [← Nat.pow_add, show N.log2 + (52 - N.log2) = 52 by omega]
    rw [e]
    exact Nat.mul_le_mul_right _ a
  · have e : (9007199254740992 : Nat) = 2 ^ (N.log2 + 1) * 2 ^ (52 - N.log2) := by
      rw [← Nat.pow_add, show N.log2 + 1 + (52 - N.log2) = 53 by omega]
    rw [e]
    exact Nat.mul_lt_mul_of_pos_right b (Nat.pow_pos (by decide))
/-- A whole number, written as a double. -/
theorem read_whole {N : Nat} (s : Bool) (h0 : 0 < N) (h1 : N < 9007199254740992) : ∃ k : Nat, k ≤ 52 ∧ 4503599627370496 ≤ N * 2 ^ k ∧ N * 2 ^ k < 9007199254740992 ∧ double.read (double.nearest s N 0) = .number s (N * 2 ^ k) (-(k : Int)) := by
  obtain ⟨k, hk, a, b⟩ := norm_whole h0 h1
  refine ⟨k, hk, a, b, ?_⟩
  have e := nearest_scale (m := N) s (-(k : Int)) k
  rw [show -(k : Int) + k = 0 by omega] at e
  rw [← e]
  exact read_norm s _ a b (by omega) (by omega)
theorem nearest_lt (s : Bool) (m : Nat) (p : Int) : double.nearest s m p < 18446744073709551616 ∧ rg (double.nearest s m p) ≤ 9218868437227405312 := by
  by_cases hm : m = 0
  · subst hm
    rw [nearest_zero]
    obtain ⟨_, b, c⟩ := word_sg (s := s) (r := 0) (by omega)
    exact ⟨c, by rw [b]; omega⟩
  rw [nearest_pos hm]
  generalize hz : (min _ _ : Nat) = z
  have hz2 : z ≤ 9218868437227405312 := by omega
  obtain ⟨_, b, c⟩ := word_sg (s := s) (r := z) (by omega)
  exact ⟨c, by rw [b]; exact hz2⟩
end Go.Proofs.YtjaeligjcgjamaaDoor.FloatExact
