/- The square root of a double: the model's own, by the whole root of a great number. No program here. -/
import Derived.Test.YtjaeligjcgjamaaDoorFloatPlain
namespace Go.Proofs.YtjaeligjcgjamaaDoor.RealRoot
open Ieee Go.Proofs.YtjaeligjcgjamaaDoor.FloatPlain
set_option linter.unusedVariables false
theorem sq_add (a b : Nat) : (a + b) * (a + b) = a * a + 2 * (a * b) + b * b := by
  rw [Nat.mul_add, Nat.add_mul, Nat.add_mul, Nat.mul_comm b a]
  omega
theorem lt_of_sq {a b : Nat} (h : a * a < b * b) : a < b := by
  rcases Nat.lt_or_ge a b with h1 | h1
  · exact h1
  · exact absurd (Nat.mul_le_mul h1 h1) (by omega)
/-- The whole root. -/
def IsRoot (n q : Nat) : Prop := q * q ≤ n ∧ n < (q + 1) * (q + 1)
theorem IsRoot.uniq {n a b : Nat} (x : IsRoot n a) (y : IsRoot n b) : a = b := by
  have h1 : a < b + 1 := lt_of_sq (Nat.lt_of_le_of_lt x.1 y.2)
  have h2 : b < a + 1 := lt_of_sq (Nat.lt_of_le_of_lt y.1 x.2)
  omega
theorem rootFrom_is (n : Nat) : ∀ t r, r * r ≤ n → n < (r + 2 ^ t) * (r + 2 ^ t) → IsRoot n (Datum.rootFrom n t r)
  | 0, r, h0, h1 => ⟨h0, by
    rw [Nat.pow_zero] at h1
    exact h1⟩
  | t + 1, r, h0, h1 => by
    show IsRoot n (Datum.rootFrom n t (if (r + 1 <<< t) * (r + 1 <<< t) ≤ n then r + 1 <<< t else r))
    rw [Nat.one_shiftLeft]
    by_cases h : (r + 2 ^ t) * (r + 2 ^ t) ≤ n
    · rw [if_pos h]
      refine rootFrom_is n t _ h ?_
      have e : r + 2 ^ t + 2 ^ t = r + 2 ^ (t + 1) := by
        rw [Nat.pow_succ]
        omega
      rw [e]
      exact h1
    · rw [if_neg h]
      exact rootFrom_is n t _ h0 (by omega)
theorem whole_is (n : Nat) : IsRoot n (Datum.rootFrom n (n.log2 / 2 + 1) 0) := by
  refine rootFrom_is n _ 0 (Nat.zero_le _) ?_
  rw [Nat.zero_add, ← Nat.pow_add]
  exact Nat.lt_of_lt_of_le Nat.lt_log2_self (Nat.pow_le_pow_right (by decide) (by omega))
/-- The root of four times a number. -/
theorem root4 {M q w : Nat} (hq : IsRoot M q) (hw : IsRoot (4 * M) w) : w = 2 * q ∨ w = 2 * q + 1 := by
  obtain ⟨a, b⟩ := hq
  obtain ⟨c, d⟩ := hw
  have e1 : (2 * q) * (2 * q) = 4 * (q * q) := by
    rw [Nat.mul_mul_mul_comm]
  have h1 : 2 * q < w + 1 := lt_of_sq (by omega)
  have e2 : (2 * (q + 1)) * (2 * (q + 1)) = 4 * ((q + 1) * (q + 1)) := by
    rw [Nat.mul_mul_mul_comm]
  have h2 : w < 2 * (q + 1) := lt_of_sq (by omega)
  omega
theorem log2_of {n k : Nat} (h0 : 2 ^ k ≤ n) (h1 : n < 2 ^ (k + 1)) : n.log2 = k := by
  have : n ≠ 0 := by
    have := Nat.pow_pos (n := k) (show 0 < 2 by decide)
    omega
  exact (Nat.log2_eq_iff this).2 ⟨h0, h1⟩
theorem odd_sq {q : Nat} (h : q % 2 = 1) : q * q % 2 = 1 := by
  rw [Nat.mul_mod, h]
theorem near {M q w : Nat} {h : Int} (hq : IsRoot M q) (hw : IsRoot (4 * M) w) (hM : M % 2 = 0) (q0 : 9007199254740992 ≤ q) (q1 : q < 18014398509481984) (h0 : -900 ≤ h) (h1 : h ≤ 900) :
    double.nearest false (2 * w + (w * w != 4 * M).toNat) (h - 55) = (h + 1022).toNat * 4503599627370496 + (q / 2 + q % 2) := by
  have hw2 := root4 hq hw
  have hodd : q % 2 = 1 → q * q ≠ M := fun e c => by
    have := odd_sq e
    omega
  obtain ⟨s, hs, hs1⟩ : ∃ s : Nat, (w * w != 4 * M).toNat = s ∧ (s = 0 ∧ w * w = 4 * M ∨ s = 1) := by
    by_cases c : w * w = 4 * M
    · exact ⟨0, by simp [c], .inl ⟨rfl, c⟩⟩
    · refine ⟨1, ?_, .inr rfl⟩
      have : (w * w != 4 * M) = true := bne_iff_ne.2 c
      rw [this]
      rfl
  have hz : q % 2 = 1 → w = 2 * q → s = 1 := fun e c => by
    rcases hs1 with ⟨_, h2⟩ | h2
    · exfalso
      refine hodd e ?_
      rw [c, Nat.mul_mul_mul_comm] at h2
      omega
    · exact h2
  rw [hs]
  have hs2 : s ≤ 1 := by omega
  clear hs hs1 hodd
  obtain ⟨g, hg⟩ : ∃ g, 2 * w + s = g := ⟨_, rfl⟩
  rw [hg]
  have g0 : 2 ^ 55 ≤ g := by
    have : (2 : Nat) ^ 55 = 36028797018963968 := by decide
    omega
  have g1 : g < 2 ^ 56 := by
    have : (2 : Nat) ^ 56 = 72057594037927936 := by decide
    omega
  have hlog : g.log2 = 55 := log2_of g0 g1
  have hne : g ≠ 0 := by omega
  clear g0 g1
  unfold Format.nearest
  rw [if_neg hne, hlog]
  have l1 : double.leastPlace = -1074 := by decide
  have l2 : double.binade = 4503599627370496 := by decide
  have l3 : double.infRung = 9218868437227405312 := by decide
  have l4 : double.fractionBits = 52 := rfl
  simp only [l1, l2, l3, l4]
  have hlast : max (h - 55 + ((55 : Nat) : Int) - ((52 : Nat) : Int)) (-1074) = h - 52 := by omega
  rw [hlast]
  have d1 : (h - 55 - (h - 52)).toNat = 0 := by omega
  have d2 : (h - 52 - (h - 55)).toNat = 3 := by omega
  have d3 : (h - 52 - -1074).toNat = (h + 1022).toNat := by
    congr 1
    omega
  rw [d1, d2, d3, Nat.shiftLeft_zero]
  unfold Toward.cut
  rw [hlog]
  have m1 : (1 : Nat) <<< min 3 (55 + 2) = 8 := by decide
  simp only [m1]
  have hk : g / 8 + (decide (8 < 2 * (g % 8)) || (8 == 2 * (g % 8) && g / 8 % 2 == 1)).toNat = q / 2 + q % 2 := by
    rcases Nat.mod_two_eq_zero_or_one q with e | e
    · have a1 : decide (8 < 2 * (g % 8)) = false := decide_eq_false (by omega)
      have a2 : (8 == 2 * (g % 8)) = false := beq_eq_false_iff_ne.2 (by omega)
      rw [a1, a2]
      simp
      omega
    · have a1 : decide (8 < 2 * (g % 8)) = true := decide_eq_true (by
        rcases hw2 with c | c
        · have := hz e c
          omega
        · omega)
      rw [a1]
      simp
      omega
  rw [hk]
  unfold Format.word
  simp only [Bool.false_eq_true, if_false]
  refine Nat.min_eq_left ?_
  have : (h + 1022).toNat ≤ 1922 := by omega
  omega
theorem mul_key (m a b c : Nat) : m * (4 * c * a * b) = 4 * (m * a * b * c) := by ac_rfl
/-- The root of a number that is not nought. -/
theorem root_eq {m : Nat} {i : Int} (m0 : 0 < m) (m1 : m < 9007199254740992) (z : Nat) (z0 : 4503599627370496 ≤ m * 2 ^ z) (z1 : m * 2 ^ z < 9007199254740992) (E : Int) (hE : E = i + 52 - z) (r : Nat) (hr : E % 2 = r) (q : Nat) (hq : IsRoot (m * 2 ^ z * 2 ^ r * 18014398509481984) q)
    (i0 : -1600 ≤ E) (i1 : E ≤ 1600) : (Datum.root 54 (.number false m i)).map double.write = some ((E / 2 + 1022).toNat * 4503599627370496 + (q / 2 + q % 2)) := by
  have hz : z ≤ 52 := by
    rcases Nat.lt_or_ge 52 z with c | c
    · exfalso
      have : 2 ^ 53 ≤ 2 ^ z := Nat.pow_le_pow_right (by decide) c
      have h2 : 1 * 2 ^ z ≤ m * 2 ^ z := Nat.mul_le_mul_right _ m0
      have h3 : (2 : Nat) ^ 53 = 9007199254740992 := by decide
      omega
    · exact c
  have hlog : m.log2 = 52 - z := by
    have hp : 0 < 2 ^ z := Nat.pow_pos (by decide)
    refine log2_of ?_ ?_
    · rcases Nat.lt_or_ge m (2 ^ (52 - z)) with c | c
      · exfalso
        have h1 := Nat.mul_lt_mul_of_pos_right c hp
        rw [← Nat.pow_add, show 52 - z + z = 52 by omega] at h1
        have h3 : (2 : Nat) ^ 52 = 4503599627370496 := by decide
        omega
      · exact c
    · rcases Nat.lt_or_ge m (2 ^ (52 - z + 1)) with c | c
      · exact c
      · exfalso
        have h1 := Nat.mul_le_mul_right (2 ^ z) c
        rw [← Nat.pow_add, show 52 - z + 1 + z = 53 by omega] at h1
        have h3 : (2 : Nat) ^ 53 = 9007199254740992 := by decide
        omega
  have hr2 : r ≤ 1 := by omega
  have hmore : 2 * 54 - m.log2 + ((i - ((2 * 54 - m.log2 : Nat) : Int)) % 2).toNat = 56 + z + r := by
    rw [hlog]
    have : (2 * 54 - (52 - z) : Nat) = 56 + z := by omega
    rw [this]
    have : (i - ((56 + z : Nat) : Int)) % 2 = r := by omega
    rw [this]
    rfl
  have hn : m <<< (56 + z + r) = 4 * (m * 2 ^ z * 2 ^ r * 18014398509481984) := by
    rw [Nat.shiftLeft_eq, Nat.pow_add, Nat.pow_add]
    have h3 : (2 : Nat) ^ 56 = 4 * 18014398509481984 := by decide
    rw [h3]
    exact mul_key _ _ _ _
  have hroot : ∀ D, Datum.root D (.number false m i) = some (.number false (2 * Datum.rootFrom (m <<< (2 * D - m.log2 + ((i - ((2 * D - m.log2 : Nat) : Int)) % 2).toNat)) ((m <<< (2 * D - m.log2 + ((i - ((2 * D - m.log2 : Nat) : Int)) % 2).toNat)).log2 / 2 + 1) 0 + (Datum.rootFrom (m <<< (2 * D - m.log2 + ((i - ((2 * D - m.log2 : Nat) : Int)) % 2).toNat)) ((m <<< (2 * D - m.log2 + ((i - ((2 * D - m.log2 : Nat) : Int)) % 2).toNat)).log2 / 2 + 1) 0 * Datum.rootFrom (m <<< (2 * D - m.log2 + ((i - ((2 * D - m.log2 : Nat) : Int)) % 2).toNat)) ((m <<< (2 * D - m.log2 + ((i - ((2 * D - m.log2 : Nat) : Int)) % 2).toNat)).log2 / 2 + 1) 0 != m <<< (2 * D - m.log2 + ((i - ((2 * D - m.log2 : Nat) : Int)) % 2).toNat)).toNat) ((i - ((2 * D - m.log2 + ((i - ((2 * D - m.log2 : Nat) : Int)) % 2).toNat : Nat) : Int)) / 2 - 1)) := fun D => by
    unfold Datum.root
    simp only []
    rw [if_neg (by omega)]
    simp only [Bool.false_eq_true, if_false]
  rw [hroot, hmore, hn]
  have hw := whole_is (4 * (m * 2 ^ z * 2 ^ r * 18014398509481984))
  generalize Datum.rootFrom (4 * (m * 2 ^ z * 2 ^ r * 18014398509481984)) ((4 * (m * 2 ^ z * 2 ^ r * 18014398509481984)).log2 / 2 + 1) 0 = w at hw
  have hp : (i - ((56 + z + r : Nat) : Int)) / 2 - 1 = E / 2 - 55 := by omega
  rw [hp]
  simp only [Option.map_some, Format.write]
  congr 1
  obtain ⟨X, hX⟩ : ∃ X, m * 2 ^ z = X := ⟨_, rfl⟩
  rw [hX] at hq hw z0 z1 ⊢
  have hXr : X ≤ X * 2 ^ r ∧ X * 2 ^ r ≤ 2 * X := by
    have : r = 0 ∨ r = 1 := by omega
    rcases this with rfl | rfl <;> omega
  generalize X * 2 ^ r = Y at hq hw hXr ⊢
  refine near hq hw (by omega) ?_ ?_ (by omega) (by omega)
  · have h2 := hq.2
    have h3 : 81129638414606681695789005144064 < (q + 1) * (q + 1) := by omega
    have h4 : 9007199254740992 < q + 1 := lt_of_sq (a := 9007199254740992) (Nat.lt_of_le_of_lt (Nat.le_of_eq (by decide)) h3)
    omega
  · have h2 := hq.1
    have h3 : q * q < 324518553658426726783156020576256 := by omega
    exact lt_of_sq (b := 18014398509481984) (Nat.lt_of_lt_of_le h3 (Nat.le_of_eq (by decide)))
end Go.Proofs.YtjaeligjcgjamaaDoor.RealRoot
