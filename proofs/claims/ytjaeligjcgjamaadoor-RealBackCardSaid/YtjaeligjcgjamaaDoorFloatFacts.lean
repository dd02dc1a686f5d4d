/- Sums, products, quotients and roots of doubles that come out even. No program here. -/
import Derived.Test.YtjaeligjcgjamaaDoorFloatExact
namespace Go.Proofs.YtjaeligjcgjamaaDoor.FloatFacts
open Ieee Go.Proofs.YtjaeligjcgjamaaDoor.FloatPlain Go.Proofs.YtjaeligjcgjamaaDoor.RealRoot Go.Proofs.YtjaeligjcgjamaaDoor.FloatExact
set_option linter.unusedVariables false
theorem sum_comm (x y : Datum) : x.sum y = y.sum x := by
  cases x with
  | nan s f => cases y <;> rfl
  | infinity s =>
    cases y with
    | nan t f => rfl
    | infinity t =>
      simp only [Datum.sum]
      by_cases h : s = t
      · subst h
        rfl
      · rw [if_neg h, if_neg (fun e => h e.symm)]
    | number t n j => rfl
  | number s m i =>
    cases y with
    | nan t f => rfl
    | infinity t => rfl
    | number t n j =>
      simp only [Datum.sum]
      rw [Int.min_comm j i, Int.add_comm (signed t n _) (signed s m _), Bool.and_comm t s]
theorem add_comm (a b : Nat) : double.add a b = double.add b a := by
  unfold Format.add
  rw [sum_comm]
theorem product_comm (x y : Datum) : x.product y = y.product x := by
  cases x with
  | nan s f => cases y <;> rfl
  | infinity s =>
    cases y with
    | nan t f => rfl
    | infinity t => simp only [Datum.product]; rw [Bool.xor_comm]
    | number t n j => simp only [Datum.product]
  | number s m i =>
    cases y with
    | nan t f => rfl
    | infinity t => simp only [Datum.product]
    | number t n j => simp only [Datum.product]; rw [Bool.xor_comm, Nat.mul_comm, Int.add_comm]
theorem mul_comm (a b : Nat) : double.mul a b = double.mul b a := by
  unfold Format.mul
  rw [product_comm]
theorem opp_opp (d : Datum) : d.opposite.opposite = d := by
  cases d <;> simp [Datum.opposite]
/-- A word with its sign turned. -/
theorem read_turn {a b : Nat} (hs : sg b = !sg a) (hr : rg b = rg a) : double.read b = (double.read a).opposite := by
  rw [read_eq, read_eq, hs, hr]
  split
  · rfl
  · split
    · rfl
    · split
      · rfl
      · rfl
theorem sub_turn {a b c : Nat} (hs : sg c = !sg b) (hr : rg c = rg b) : double.sub a c = double.add a b := by
  unfold Format.sub Format.add
  rw [read_turn hs hr, opp_opp]
theorem signed_zero (s : Bool) (m : Nat) : signed s m 0 = if s then -(m : Int) else (m : Int) := by
  unfold signed
  rw [Nat.shiftLeft_zero]
theorem sub_self {a : Nat} (h : rg a < 9218868437227405312) : double.sub a a = some 0 := by
  unfold Format.sub
  rw [read_num h]
  simp only [Datum.opposite, Datum.sum]
  generalize (-1074 + (plc (rg a) : Int)) = i
  have e0 : (i - min i i).toNat = 0 := by omega
  have e1 : signed (sg a) (mag (rg a)) 0 + signed (!sg a) (mag (rg a)) 0 = 0 := by
    rw [signed_zero, signed_zero]
    cases sg a <;> simp <;> omega
  rw [e0, e1]
  simp only [Option.map, Format.write, if_pos, Int.natAbs_zero, nearest_zero]
  cases sg a <;> rfl
theorem read_one : double.read 4607182418800017408 = .number false 4503599627370496 (-52) := by decide
theorem read_two : double.read 4611686018427387904 = .number false 4503599627370496 (-51) := by decide
theorem read_zero : double.read 0 = .number false 0 (-1074) := by decide
theorem mag_lt (p : Nat) : mag p < 9007199254740992 := by
  unfold mag
  split <;> omega
theorem log2_52 : Nat.log2 4503599627370496 = 52 := by decide
theorem even_pow (m r : Nat) : m * 2 ^ (r + 52) = m * 2 ^ r * 4503599627370496 := by
  have e : (4503599627370496 : Nat) = 2 ^ 52 := by decide
  rw [e, Nat.pow_add, Nat.mul_assoc]
theorem twice_pow (m r : Nat) : 2 * (m * 2 ^ r) = m * 2 ^ (r + 1) := by
  rw [Nat.pow_succ, ← Nat.mul_assoc m, Nat.mul_comm]
/-- What is divided by a power of two. -/
theorem quo_pow {m : Nat} (s : Bool) (i j : Int) (h : m < 9007199254740992) : ((Datum.number s m i).quotient 54 (.number false 4503599627370496 j)).map double.write = some (double.nearest s m (i - j - 52)) := by
  simp only [Datum.quotient]
  rw [if_neg (by decide), log2_52]
  by_cases hm : m = 0
  · subst hm
    simp only [Option.map, Format.write, Nat.zero_shiftLeft, Nat.zero_div, Nat.zero_mod]
    rw [nearest_zero]
    simp only [bne_self_eq_false, Bool.toNat_false, Nat.mul_zero, Nat.add_zero]
    rw [nearest_zero, Bool.xor_false]
  have hl : m.log2 < 53 := (Nat.log2_lt hm).2 (by omega)
  obtain ⟨r, hr⟩ : ∃ r, 54 + 52 - m.log2 = r + 52 := ⟨54 - m.log2, by omega⟩
  rw [hr, Nat.shiftLeft_eq, even_pow, Nat.mul_div_cancel _ (by decide), Nat.mul_mod_left, bne_self_eq_false, Bool.toNat_false, Nat.add_zero, Bool.xor_false]
  show some (double.nearest s (2 * (m * 2 ^ r)) (i - j - ((r + 52 : Nat) : Int) - 1)) = _
  rw [twice_pow, nearest_scale]
  congr 2
  omega
theorem div_one {a : Nat} (ha : a < 18446744073709551616) (h : rg a < 9218868437227405312) : double.div a 4607182418800017408 = some a := by
  unfold Format.div
  rw [read_num h, read_one]
  have := quo_pow (sg a) (-1074 + (plc (rg a) : Int)) (-52) (mag_lt (rg a))
  refine Eq.trans this ?_
  congr 1
  rw [show -1074 + (plc (rg a) : Int) - -52 - 52 = -1074 + (plc (rg a) : Int) by omega]
  exact nearest_back ha h
theorem mul_zero {a : Nat} (h : rg a < 9218868437227405312) : double.mul a 0 = some (double.word (sg a) 0) := by
  unfold Format.mul
  rw [read_num h, read_zero]
  simp only [Datum.product, Option.map, Format.write, Nat.mul_zero, nearest_zero, Bool.xor_false]
theorem signed_abs (s : Bool) (m k : Nat) : (signed s m k).natAbs = m * 2 ^ k ∧ (m ≠ 0 → decide (signed s m k < 0) = s ∧ signed s m k ≠ 0) ∧ (m = 0 → signed s m k = 0) := by
  unfold signed
  rw [Nat.shiftLeft_eq]
  have hk : 0 < 2 ^ k := Nat.pow_pos (by decide)
  refine ⟨by
    cases s
    · exact Int.natAbs_natCast _
    · exact (Int.natAbs_neg _).trans (Int.natAbs_natCast _), fun hm => ?_, fun hm => by subst hm; cases s <;> simp⟩
  have hp : 0 < m * 2 ^ k := Nat.mul_pos (by omega) hk
  generalize m * 2 ^ k = z at hp
  cases s
  · simp
    omega
  · simp
    omega
theorem add_zero {a : Nat} (ha : a < 18446744073709551616) (h : rg a < 9218868437227405312) : double.add a 0 = some (if rg a = 0 then 0 else a) := by
  unfold Format.add
  rw [read_num h, read_zero]
  simp only [Datum.sum, Option.map, Format.write]
  have hb := nearest_back ha h
  have hmz : rg a = 0 ↔ mag (rg a) = 0 := by
    unfold mag
    split <;> omega
  generalize hi : plc (rg a) = i at *
  generalize hm : mag (rg a) = m at *
  have e0 : min (-1074 + (i : Int)) (-1074) = -1074 := by omega
  rw [e0]
  have e1 : (-1074 + (i : Int) - -1074).toNat = i := by omega
  have e2 : ((-1074 : Int) - -1074).toNat = 0 := by decide
  have e3 : signed false 0 0 = 0 := by decide
  rw [e1, e2, e3, Int.add_zero]
  obtain ⟨q1, q2, q3⟩ := signed_abs (sg a) m i
  by_cases hz : m = 0
  · rw [if_pos (hmz.2 hz), q3 hz, if_pos rfl, Int.natAbs_zero, nearest_zero]
    cases sg a <;> rfl
  · obtain ⟨r1, r2⟩ := q2 hz
    rw [if_neg (fun e => hz (hmz.1 e)), if_neg r2, q1, nearest_scale, r1]
    exact congrArg some hb
theorem add_twice {a : Nat} {m : Nat} {i : Int} (h : double.read a = .number false m i) : double.add a a = some (double.nearest false m (i + 1)) := by
  unfold Format.add
  rw [h]
  simp only [Datum.sum, Option.map, Format.write]
  have e0 : (i - min i i).toNat = 0 := by omega
  have e1 : min i i = i := by omega
  rw [e0, e1, signed_zero, if_neg Bool.false_ne_true]
  have e2 : (m : Int) + m = ((2 * m : Nat) : Int) := by omega
  rw [e2, Int.natAbs_natCast]
  by_cases hm : m = 0
  · subst hm
    rw [Nat.mul_zero, nearest_zero, nearest_zero]
    rfl
  · rw [if_neg (by omega)]
    have e3 : decide (((2 * m : Nat) : Int) < 0) = false := decide_eq_false (by omega)
    rw [e3]
    have e4 : 2 * m = m * 2 ^ 1 := by omega
    rw [e4, nearest_scale]
    rfl
theorem half_twice {N : Nat} (h1 : N < 9007199254740992) : ∃ x, double.div (double.nearest false N 0) 4611686018427387904 = some x ∧ x < 18446744073709551616 ∧ rg x ≤ 9218868437227405312 ∧ double.add x x = some (double.nearest false N 0) := by
  by_cases hN : N = 0
  · subst hN
    rw [nearest_zero]
    exact ⟨0, by decide, by decide, by decide, by decide⟩
  · obtain ⟨k, hk, a, b, hr⟩ := read_whole false (show 0 < N by omega) h1
    refine ⟨double.nearest false (N * 2 ^ k) (-(k : Int) - 1), ?_, (nearest_lt _ _ _).1, (nearest_lt _ _ _).2, ?_⟩
    · unfold Format.div
      rw [hr, read_two]
      refine Eq.trans (quo_pow false (-(k : Int)) (-51) b) ?_
      congr 2
      omega
    · rw [add_twice (read_norm false _ a b (by omega) (by omega))]
      have e := nearest_scale (m := N) false (-(k : Int)) k
      rw [show -(k : Int) + k = 0 by omega] at e
      rw [show -(k : Int) - 1 + 1 = -(k : Int) by omega, e]
theorem root_exact (N t : Nat) : Datum.rootFrom (N * N * 2 ^ (2 * t)) ((N * N * 2 ^ (2 * t)).log2 / 2 + 1) 0 = N * 2 ^ t := by
  refine (whole_is _).uniq ?_
  have e : N * 2 ^ t * (N * 2 ^ t) = N * N * 2 ^ (2 * t) := by
    rw [Nat.mul_mul_mul_comm, ← Nat.pow_add, show t + t = 2 * t by omega]
  refine ⟨Nat.le_of_eq e, ?_⟩
  rw [← e]
  exact Nat.mul_self_lt_mul_self (Nat.lt_succ_self _)
theorem root_square {N : Nat} (h0 : 0 < N) (h1 : N < 16777216) : ∃ x, double.mul (double.nearest false N 0) (double.nearest false N 0) = some x ∧ x < 18446744073709551616 ∧ rg x ≤ 9218868437227405312 ∧ double.sqrt x = some (double.nearest false N 0) := by
  have hNN : N * N ≤ 16777215 * 16777215 := Nat.mul_le_mul (by omega) (by omega)
  have hN0 : 0 < N * N := Nat.mul_pos h0 h0
  refine ⟨double.nearest false (N * N) 0, ?_, (nearest_lt _ _ _).1, (nearest_lt _ _ _).2, ?_⟩
  · obtain ⟨k, hk, a, b, hr⟩ := read_whole false h0 (show N < 9007199254740992 by omega)
    unfold Format.mul
    rw [hr]
    simp only [Datum.product, Option.map, Format.write, Bool.xor_false]
    have e : N * 2 ^ k * (N * 2 ^ k) = N * N * 2 ^ (k + k) := by
      rw [Nat.mul_mul_mul_comm, ← Nat.pow_add]
    rw [e, nearest_scale]
    congr 2
    omega
  · obtain ⟨k, hk, a, b, hr⟩ := read_whole false hN0 (show N * N < 9007199254740992 by omega)
    unfold Format.sqrt
    rw [hr]
    have hm : N * N * 2 ^ k ≠ 0 := by omega
    have hl : (N * N * 2 ^ k).log2 = 52 := log2_of (by omega) (by omega)
    simp only [Datum.root, fbits]
    rw [if_neg hm, if_neg (by decide), hl]
    have e1 : 2 * (52 + 2) - 52 = 56 := rfl
    rw [e1]
    obtain ⟨t, ht, ht2⟩ : ∃ t : Nat, k + (56 + ((-(k : Int) - ((56 : Nat) : Int)) % 2).toNat) = 2 * t ∧ (-(k : Int) - ((56 + ((-(k : Int) - ((56 : Nat) : Int)) % 2).toNat : Nat) : Int)) / 2 - 1 = -(t : Int) - 1 := by
      refine ⟨(k + (56 + ((-(k : Int) - ((56 : Nat) : Int)) % 2).toNat)) / 2, ?_, ?_⟩ <;> omega
    rw [ht2, Nat.shiftLeft_eq, Nat.mul_assoc (N * N), ← Nat.pow_add, ht, root_exact]
    have e2 : N * 2 ^ t * (N * 2 ^ t) = N * N * 2 ^ (2 * t) := by
      rw [Nat.mul_mul_mul_comm, ← Nat.pow_add, show t + t = 2 * t by omega]
    rw [e2]
    simp only [bne_self_eq_false, Bool.toNat_false, Nat.add_zero, Option.map, Format.write]
    rw [twice_pow, nearest_scale]
    congr 2
    omega
theorem root_none : double.mul (double.nearest false 0 0) (double.nearest false 0 0) = some 0 ∧ double.sqrt 0 = some (double.nearest false 0 0) := by
  rw [nearest_zero]
  exact ⟨by decide, by decide⟩
theorem to_whole {n : Int} (h0 : -2147483648 ≤ n) (h1 : n ≤ 2147483647) : (double.read (double.nearest (n < 0) n.natAbs 0)).toInt .zero = some n := by
  by_cases hn : n = 0
  · subst hn
    decide
  · obtain ⟨k, hk, a, b, hr⟩ := read_whole (decide (n < 0)) (show 0 < n.natAbs by omega) (show n.natAbs < 9007199254740992 by omega)
    rw [hr]
    unfold Datum.toInt
    simp only [Datum.integral]
    have e1 : (-(k : Int)).toNat = 0 := by omega
    have e2 : (- -(k : Int)).toNat = k := by omega
    rw [e1, e2, Nat.shiftLeft_zero]
    have e3 : Toward.zero.cut (decide (n < 0)) (n.natAbs * 2 ^ k) k = n.natAbs := by
      unfold Toward.cut
      have hl : k ≤ (n.natAbs * 2 ^ k).log2 := by
        rw [log2_scale (by omega)]
        omega
      rw [Nat.min_eq_left (by omega), Nat.one_shiftLeft]
      simp only [Bool.toNat_false, Nat.add_zero]
      exact Nat.mul_div_cancel _ (Nat.pow_pos (by decide))
    rw [e3, signed_zero]
    congr 1
    by_cases hneg : n < 0
    · rw [decide_eq_true hneg, if_pos rfl]
      omega
    · rw [decide_eq_false hneg, if_neg (by decide)]
      omega
end Go.Proofs.YtjaeligjcgjamaaDoor.FloatFacts
