/- How two double words stand to each other, read off their bits. No program here. -/
import Derived.Laws.FloatBits
import Ieee.Arith
namespace Go.Proofs.YtjaeligjcgjamaaDoor.FloatPlain
open Ieee
/-- The magnitude of a rung, in units of the least place. -/
def mg (p : Nat) : Nat := if p < 4503599627370496 then p else (4503599627370496 + p % 4503599627370496) * 2 ^ (p / 4503599627370496 - 1)
theorem mg_lt {p q : Nat} (h : p < q) : mg p < mg q := by
  unfold mg
  by_cases hq : q < 4503599627370496
  · rw [if_pos hq, if_pos (by omega)]
    exact h
  · rw [if_neg hq]
    have hq1 : 1 ≤ 2 ^ (q / 4503599627370496 - 1) := Nat.pow_pos (by decide)
    by_cases hp : p < 4503599627370496
    · rw [if_pos hp]
      have : (4503599627370496 + q % 4503599627370496) * 1 ≤ (4503599627370496 + q % 4503599627370496) * 2 ^ (q / 4503599627370496 - 1) := Nat.mul_le_mul_left _ hq1
      omega
    · rw [if_neg hp]
      rcases Nat.lt_or_ge (p / 4503599627370496) (q / 4503599627370496) with he | he
      · obtain ⟨d, hd⟩ : ∃ d, q / 4503599627370496 - 1 = (p / 4503599627370496 - 1) + 1 + d := ⟨q / 4503599627370496 - p / 4503599627370496 - 1, by omega⟩
        rw [hd, Nat.pow_add, Nat.pow_add]
        generalize hX : 2 ^ (p / 4503599627370496 - 1) = X
        have hX1 : 1 ≤ X := by rw [← hX]; exact Nat.pow_pos (by decide)
        have hd1 : 1 ≤ 2 ^ d := Nat.pow_pos (by decide)
        have h1 : (4503599627370496 + p % 4503599627370496) * X < 9007199254740992 * X := Nat.mul_lt_mul_of_pos_right (by omega) (by omega)
        have h2 : 4503599627370496 * (X * 2 ^ 1 * 1) ≤ (4503599627370496 + q % 4503599627370496) * (X * 2 ^ 1 * 2 ^ d) := Nat.mul_le_mul (by omega) (Nat.mul_le_mul_left _ hd1)
        omega
      · have e : p / 4503599627370496 = q / 4503599627370496 := Nat.le_antisymm (Nat.div_le_div_right (by omega)) he
        rw [e]
        exact Nat.mul_lt_mul_of_pos_right (by omega) (by omega)
/-- A word's sign, and its rung. -/
def sg (a : Nat) : Bool := a / 9223372036854775808 % 2 == 1
def rg (a : Nat) : Nat := a % 9223372036854775808
/-- The words of numbers and infinities, in their order. -/
def key (a : Nat) : Int := if sg a then -(mg (rg a) : Int) else mg (rg a)
def isN (a : Nat) : Bool := decide (9218868437227405312 < rg a)
theorem read_eq (a : Nat) : double.read a =
    if rg a < 4503599627370496 then .number (sg a) (rg a) (-1074)
    else if rg a < 9218868437227405312 then .number (sg a) (4503599627370496 + rg a % 4503599627370496) (-1074 + (rg a / 4503599627370496 - 1 : Nat))
    else if rg a = 9218868437227405312 then .infinity (sg a) else .nan (sg a) (rg a - 9218868437227405312) := by
  rfl
theorem cmp_scale (s t : Bool) (m n i j k : Nat) : compare (signed s m i) (signed t n j) = compare (signed s m (i + k)) (signed t n (j + k)) := by
  have e : ∀ (s : Bool) (m i : Nat), signed s m (i + k) = signed s m i * ((2 ^ k : Nat) : Int) := by
    intro s m i
    unfold signed
    have : m <<< (i + k) = (m <<< i) * 2 ^ k := by rw [Nat.shiftLeft_eq, Nat.shiftLeft_eq, Nat.pow_add, Nat.mul_assoc]
    rw [this]
    cases s <;> simp [Int.neg_mul]
  rw [e, e]
  have hp : (0 : Int) < ((2 ^ k : Nat) : Int) := by
    have : 0 < 2 ^ k := Nat.pow_pos (by decide)
    omega
  generalize ((2 ^ k : Nat) : Int) = P at hp
  generalize signed s m i = x
  generalize signed t n j = y
  rcases Int.lt_trichotomy x y with h | h | h
  · rw [Int.compare_eq_lt.2 h, Int.compare_eq_lt.2 (Int.mul_lt_mul_of_pos_right h hp)]
  · subst h
    simp
  · rw [Int.compare_eq_gt.2 h, Int.compare_eq_gt.2 (Int.mul_lt_mul_of_pos_right h hp)]
/-- What a number's magnitude and place are, told by its rung. -/
def mag (p : Nat) : Nat := if p < 4503599627370496 then p else 4503599627370496 + p % 4503599627370496
def plc (p : Nat) : Nat := if p < 4503599627370496 then 0 else p / 4503599627370496 - 1
theorem mg_eq (p : Nat) : mg p = mag p * 2 ^ plc p := by
  unfold mg mag plc
  by_cases h : p < 4503599627370496
  · rw [if_pos h, if_pos h, if_pos h]
    simp
  · rw [if_neg h, if_neg h, if_neg h]
theorem read_num {a : Nat} (h : rg a < 9218868437227405312) : double.read a = .number (sg a) (mag (rg a)) (-1074 + (plc (rg a) : Nat)) := by
  rw [read_eq]
  unfold mag plc
  by_cases h2 : rg a < 4503599627370496
  · rw [if_pos h2, if_pos h2, if_pos h2]
    rfl
  · rw [if_neg h2, if_pos h, if_neg h2, if_neg h2]
theorem read_inf {a : Nat} (h : rg a = 9218868437227405312) : double.read a = .infinity (sg a) := by
  rw [read_eq, if_neg (by omega), if_neg (by omega), if_pos h]
theorem read_nan {a : Nat} (h : 9218868437227405312 < rg a) : ∃ f, double.read a = .nan (sg a) f := by
  refine ⟨rg a - 9218868437227405312, ?_⟩
  rw [read_eq, if_neg (by omega), if_neg (by omega), if_neg (by omega)]
def sgn (s : Bool) (m : Nat) : Int := if s then -(m : Int) else m
theorem signed_eq (s : Bool) (m i : Nat) : signed s m i = sgn s (m * 2 ^ i) := by
  unfold signed sgn
  rw [Nat.shiftLeft_eq]
theorem key_eq (a : Nat) : key a = sgn (sg a) (mg (rg a)) := rfl
theorem mg_big {p q : Nat} (h : p < q) : mg p < mg q := mg_lt h
theorem cmp_pos (x y : Nat) : compare (sgn false x) (sgn false y) = compare x y := by
  simp only [sgn, if_false, Bool.false_eq_true]
  rcases Nat.lt_trichotomy x y with h | h | h
  · rw [Int.compare_eq_lt.2 (by omega), Nat.compare_eq_lt.2 h]
  · subst h
    simp
  · rw [Int.compare_eq_gt.2 (by omega), Nat.compare_eq_gt.2 h]
theorem order_num {a b : Nat} (ha : rg a < 9218868437227405312) (hb : rg b < 9218868437227405312) : double.order a b = some (compare (key a) (key b)) := by
  unfold Format.order
  rw [read_num ha, read_num hb]
  simp only [Datum.order]
  congr 1
  rw [key_eq, key_eq, mg_eq, mg_eq, ← signed_eq, ← signed_eq]
  generalize plc (rg a) = i
  generalize plc (rg b) = j
  have hmin : min (-1074 + (i : Int)) (-1074 + (j : Int)) = -1074 + ((min i j : Nat) : Int) := by omega
  rw [hmin]
  have e1 : (-1074 + (i : Int) - (-1074 + ((min i j : Nat) : Int))).toNat = i - min i j := by omega
  have e2 : (-1074 + (j : Int) - (-1074 + ((min i j : Nat) : Int))).toNat = j - min i j := by omega
  rw [e1, e2, cmp_scale _ _ _ _ (i - min i j) (j - min i j) (min i j)]
  have e3 : i - min i j + min i j = i := by omega
  have e4 : j - min i j + min i j = j := by omega
  rw [e3, e4]
theorem key_lt_inf {a b : Nat} (ha : rg a < 9218868437227405312) (hb : rg b = 9218868437227405312) : compare (key a) (key b) = if sg b then .gt else .lt := by
  have h1 : mg (rg a) < mg (rg b) := mg_lt (by omega)
  rw [key_eq, key_eq]
  cases hs : sg b with
  | true =>
    refine Int.compare_eq_gt.2 ?_
    unfold sgn
    cases sg a <;> simp <;> omega
  | false =>
    refine Int.compare_eq_lt.2 ?_
    unfold sgn
    cases sg a <;> simp <;> omega
theorem swap_cmp (x y : Int) : compare x y = (compare y x).swap := by
  rcases Int.lt_trichotomy x y with h | h | h
  · rw [Int.compare_eq_lt.2 h, Int.compare_eq_gt.2 h]
    rfl
  · subst h
    simp
  · rw [Int.compare_eq_gt.2 h, Int.compare_eq_lt.2 h]
    rfl
theorem order_eq {a b : Nat} (ha : rg a ≤ 9218868437227405312) (hb : rg b ≤ 9218868437227405312) : double.order a b = some (compare (key a) (key b)) := by
  by_cases h1 : rg a < 9218868437227405312
  · by_cases h2 : rg b < 9218868437227405312
    · exact order_num h1 h2
    · have h2' : rg b = 9218868437227405312 := by omega
      unfold Format.order
      rw [read_num h1, read_inf h2', key_lt_inf h1 h2']
      rfl
  · have h1' : rg a = 9218868437227405312 := by omega
    by_cases h2 : rg b < 9218868437227405312
    · unfold Format.order
      rw [read_inf h1', read_num h2, swap_cmp, key_lt_inf h2 h1']
      cases sg a <;> rfl
    · have h2' : rg b = 9218868437227405312 := by omega
      unfold Format.order
      rw [read_inf h1', read_inf h2', key_eq, key_eq, h1', h2']
      have hp : 0 < mg 9218868437227405312 := Nat.lt_of_le_of_lt (Nat.zero_le _) (mg_lt (show 0 < 9218868437227405312 by omega))
      generalize mg 9218868437227405312 = M at hp
      cases sg a <;> cases sg b
      · simp [Datum.order]
      · rw [Int.compare_eq_gt.2 (by simp [sgn]; omega)]
        rfl
      · rw [Int.compare_eq_lt.2 (by simp [sgn]; omega)]
        rfl
      · simp [Datum.order]
theorem order_nan {a b : Nat} (h : 9218868437227405312 < rg a ∨ 9218868437227405312 < rg b) : double.order a b = none := by
  unfold Format.order
  rcases h with h | h
  · obtain ⟨f, e⟩ := read_nan h
    rw [e]
    rfl
  · obtain ⟨f, e⟩ := read_nan h
    rw [e]
    cases double.read a <;> rfl
theorem sg_eq {a : Nat} (h : a < 18446744073709551616) : sg a = decide (9223372036854775808 ≤ a) := by
  unfold sg
  by_cases c : 9223372036854775808 ≤ a
  · rw [decide_eq_true c]
    have : a / 9223372036854775808 % 2 = 1 := by omega
    rw [this]
    rfl
  · rw [decide_eq_false c]
    have : a / 9223372036854775808 % 2 = 0 := by omega
    rw [this]
    rfl
theorem rg_lo {a : Nat} (h : a < 9223372036854775808) : rg a = a := Nat.mod_eq_of_lt h
theorem rg_hi {a : Nat} (h : 9223372036854775808 ≤ a) (h2 : a < 18446744073709551616) : rg a = a - 9223372036854775808 := by
  unfold rg
  omega
theorem mg_zero : mg 0 = 0 := rfl
theorem mg_tri (p q : Nat) : (p < q ∧ mg p < mg q) ∨ (p = q ∧ mg p = mg q) ∨ (q < p ∧ mg q < mg p) := by
  rcases Nat.lt_trichotomy p q with h | h | h
  · exact .inl ⟨h, mg_lt h⟩
  · exact .inr (.inl ⟨h, by rw [h]⟩)
  · exact .inr (.inr ⟨h, mg_lt h⟩)
theorem mg_pos (p : Nat) : (p = 0 ∧ mg p = 0) ∨ (0 < p ∧ 0 < mg p) := by
  rcases Nat.eq_zero_or_pos p with h | h
  · exact .inl ⟨h, by rw [h, mg_zero]⟩
  · exact .inr ⟨h, Nat.lt_of_le_of_lt (Nat.zero_le _) (mg_lt h)⟩
/-- The document's order of words. -/
def ord (a : Nat) : Int := if 9223372036854775808 ≤ a then -(rg a : Int) - 1 else a
theorem key_lo {a : Nat} (h : a < 9223372036854775808) : key a = mg a := by
  rw [key_eq, sg_eq (by omega), decide_eq_false (by omega), rg_lo h]
  rfl
theorem sg_hi {a : Nat} (h : 9223372036854775808 ≤ a) (h2 : a < 18446744073709551616) : sg a = true := by
  rw [sg_eq h2]
  exact decide_eq_true h
theorem key_neg {a d : Nat} (hs : sg a = true) (hr : rg a = d) : key a = -(mg d : Int) := by
  rw [key_eq, hs, hr]
  rfl
theorem key_hi {a : Nat} (h : 9223372036854775808 ≤ a) (h2 : a < 18446744073709551616) : key a = -((mg (a - 9223372036854775808) : Nat) : Int) := key_neg (sg_hi h h2) (rg_hi h h2)
theorem key_eq_iff {a b : Nat} (ha : a < 18446744073709551616) (hb : b < 18446744073709551616) : key a = key b ↔ a = b ∨ (rg a = 0 ∧ rg b = 0) := by
  by_cases c : 9223372036854775808 ≤ a
  · rw [key_hi c ha, rg_hi c ha]
    by_cases d : 9223372036854775808 ≤ b
    · rw [key_hi d hb, rg_hi d hb]
      have := mg_tri (a - 9223372036854775808) (b - 9223372036854775808)
      omega
    · rw [key_lo (by omega), rg_lo (by omega)]
      have := mg_pos (a - 9223372036854775808)
      have := mg_pos b
      omega
  · rw [key_lo (by omega), rg_lo (by omega)]
    by_cases d : 9223372036854775808 ≤ b
    · rw [key_hi d hb, rg_hi d hb]
      have := mg_pos (b - 9223372036854775808)
      have := mg_pos a
      omega
    · rw [key_lo (by omega), rg_lo (by omega)]
      have := mg_tri a b
      omega
theorem key_lt_iff {a b : Nat} (ha : a < 18446744073709551616) (hb : b < 18446744073709551616) : key a < key b ↔ ¬ (rg a = 0 ∧ rg b = 0) ∧ ord a < ord b := by
  unfold ord
  by_cases c : 9223372036854775808 ≤ a
  · rw [key_hi c ha, rg_hi c ha, if_pos c]
    by_cases d : 9223372036854775808 ≤ b
    · rw [key_hi d hb, rg_hi d hb, if_pos d]
      have := mg_tri (a - 9223372036854775808) (b - 9223372036854775808)
      omega
    · rw [key_lo (by omega), rg_lo (by omega), if_neg d]
      have := mg_pos (a - 9223372036854775808)
      have := mg_pos b
      omega
  · rw [key_lo (by omega), rg_lo (by omega), if_neg c]
    by_cases d : 9223372036854775808 ≤ b
    · rw [key_hi d hb, rg_hi d hb, if_pos d]
      have := mg_pos (b - 9223372036854775808)
      have := mg_pos a
      omega
    · rw [key_lo (by omega), rg_lo (by omega), if_neg d]
      have := mg_tri a b
      omega
/-- Numbers made whole: cut towards nought. -/
theorem cut_zero (s : Bool) (n d : Nat) : Toward.zero.cut s n d = n / 2 ^ d := by
  unfold Toward.cut
  simp only [Bool.toNat_false, Nat.add_zero]
  rw [Nat.shiftLeft_eq, Nat.one_mul]
  rcases Nat.le_total d (n.log2 + 2) with h | h
  · rw [Nat.min_eq_left h]
  · rw [Nat.min_eq_right h]
    have h1 : n < 2 ^ (n.log2 + 1) := Nat.lt_log2_self
    have h2 : 2 ^ (n.log2 + 1) ≤ 2 ^ (n.log2 + 2) := Nat.pow_le_pow_right (by decide) (by omega)
    have h3 : 2 ^ (n.log2 + 2) ≤ 2 ^ d := Nat.pow_le_pow_right (by decide) h
    rw [Nat.div_eq_of_lt (by omega), Nat.div_eq_of_lt (by omega)]
theorem toInt_eq {a K : Nat} (hK : K = 1074) (h : rg a < 9218868437227405312) : (double.read a).toInt .zero = some (sgn (sg a) (mg (rg a) / 2 ^ K)) := by
  rw [read_num h]
  unfold Datum.toInt Datum.integral
  simp only [cut_zero]
  rw [signed_eq, Nat.pow_zero, Nat.mul_one, mg_eq, Nat.shiftLeft_eq]
  generalize plc (rg a) = e
  generalize mag (rg a) = m
  congr 2
  rcases Nat.le_total K e with he | he
  · obtain ⟨d, rfl⟩ : ∃ d, e = K + d := ⟨e - K, by omega⟩
    have h1 : (-1074 + ((K + d : Nat) : Int)).toNat = d := by omega
    have h2 : (-(-1074 + ((K + d : Nat) : Int))).toNat = 0 := by omega
    rw [h1, h2, Nat.pow_zero, Nat.div_one, Nat.pow_add]
    generalize hP : 2 ^ K = P
    have hP0 : 0 < P := by rw [← hP]; exact Nat.pow_pos (by decide)
    rw [← Nat.mul_assoc, Nat.mul_comm m P, Nat.mul_assoc, Nat.mul_div_cancel_left _ hP0]
  · obtain ⟨d, hd⟩ : ∃ d, K = e + d := ⟨K - e, by omega⟩
    have h1 : (-1074 + (e : Int)).toNat = 0 := by omega
    have h2 : (-(-1074 + (e : Int))).toNat = d := by omega
    rw [h1, h2, Nat.pow_zero, Nat.mul_one, hd, Nat.pow_add]
    have hP0 : 0 < 2 ^ e := Nat.pow_pos (by decide)
    generalize 2 ^ e = P at hP0
    rw [Nat.mul_comm m P, Nat.mul_div_mul_left _ _ hP0]
/-- The word of 2 ^ 31, and of its opposite. -/
theorem big_key {K P : Nat} (hK : K = 1074) (hP : 2 ^ K = P) : key 4746794007248502784 = 2147483648 * (P : Int) ∧ key 13970166044103278592 = -(2147483648 * (P : Int)) := by
  have e : mg 4746794007248502784 = 2147483648 * P := by
    rw [mg_eq]
    have e1 : mag 4746794007248502784 = 4503599627370496 := rfl
    obtain ⟨J, hJ⟩ : ∃ J, J = 1053 := ⟨_, rfl⟩
    have e2 : plc 4746794007248502784 = J := by
      rw [hJ]
      rfl
    have e3 : K = J + 21 := by omega
    rw [e1, e2, ← hP, e3, Nat.pow_add]
    generalize 2 ^ J = P
    omega
  refine ⟨?_, ?_⟩
  · rw [key_lo (by decide), e]
    omega
  · rw [key_hi (by decide) (by decide)]
    have : 13970166044103278592 - 9223372036854775808 = 4746794007248502784 := rfl
    rw [this, e]
    omega
/-- A number between them, made whole, is a word of 32 bits. -/
theorem in_range {a : Nat} (h : rg a ≤ 9218868437227405312) (h1 : double.order a 4746794007248502784 = some .lt) (h2 : double.order a 13970166044103278592 = some .gt) :
    ∃ n : Int, (double.read a).toInt .zero = some n ∧ -2147483648 ≤ n ∧ n ≤ 2147483647 := by
  obtain ⟨K, hK⟩ : ∃ K, K = 1074 := ⟨_, rfl⟩
  obtain ⟨P, hP⟩ : ∃ P, 2 ^ K = P := ⟨_, rfl⟩
  have hP0 : 0 < P := by
    rw [← hP]
    exact Nat.pow_pos (by decide)
  obtain ⟨k1, k2⟩ := big_key hK hP
  rw [order_eq h (by decide)] at h1 h2
  have l1 := Int.compare_eq_lt.1 (Option.some.inj h1)
  have l2 := Int.compare_eq_gt.1 (Option.some.inj h2)
  rw [k1] at l1
  rw [k2] at l2
  have hM : mg (rg a) < 2147483648 * P := by
    rw [key_eq] at l1 l2
    generalize mg (rg a) = M at *
    unfold sgn at l1 l2
    cases hs : sg a <;> rw [hs] at l1 l2 <;> simp at l1 l2 <;> omega
  have hlt : rg a < 9218868437227405312 := by
    refine Decidable.byContradiction fun hn => ?_
    have hr : rg a = 9218868437227405312 := by omega
    have hm := mg_lt (show 4746794007248502784 < rg a by omega)
    have e4 : (mg 4746794007248502784 : Int) = 2147483648 * (P : Int) := by
      rw [← k1, key_lo (by decide)]
    omega
  refine ⟨_, toInt_eq hK hlt, ?_⟩
  rw [hP]
  have hd : mg (rg a) / P < 2147483648 := Nat.div_lt_of_lt_mul (by rw [Nat.mul_comm]; exact hM)
  generalize mg (rg a) / P = q at hd
  unfold sgn
  cases sg a
  · simp
    omega
  · simp
    omega
end Go.Proofs.YtjaeligjcgjamaaDoor.FloatPlain
