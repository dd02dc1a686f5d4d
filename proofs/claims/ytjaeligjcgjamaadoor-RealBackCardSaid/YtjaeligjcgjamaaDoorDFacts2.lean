/- A sign turned, and what the laws of noughts and turns say. No program is walked here. -/
import Derived.Test.YtjaeligjcgjamaaDoorDFacts
namespace Go.Proofs.YtjaeligjcgjamaaDoor.DFacts2
open Ieee Go.RowKit Go.Proofs.YtjaeligjcgjamaaDoorW.PrintWords Go.Proofs.YtjaeligjcgjamaaDoor.Aid Go.Proofs.YtjaeligjcgjamaaDoor.FloatPlain Go.Proofs.YtjaeligjcgjamaaDoor.FloatExact Go.Proofs.YtjaeligjcgjamaaDoor.FloatFacts Go.Proofs.YtjaeligjcgjamaaDoor.DRealPure Go.Proofs.YtjaeligjcgjamaaDoor.DRealFl Go.Proofs.YtjaeligjcgjamaaDoor.DRealAr Go.Proofs.YtjaeligjcgjamaaDoor.DRealPick Go.Proofs.YtjaeligjcgjamaaDoor.DLawCompares Go.Proofs.YtjaeligjcgjamaaDoor.DFacts
set_option linter.unusedVariables false
set_option linter.unusedSimpArgs false
/-- The sign turned. -/
def ng (a : Nat) : Nat := if 9223372036854775808 ≤ a then a - 9223372036854775808 else a + 9223372036854775808
theorem ng_lt {a : Nat} (h : a < 18446744073709551616) : ng a < 18446744073709551616 := by
  unfold ng
  split <;> omega
theorem ng_rg {a : Nat} (h : a < 18446744073709551616) : rg (ng a) = rg a := by
  unfold ng rg
  split <;> omega
theorem ng_sg {a : Nat} (h : a < 18446744073709551616) : sg (ng a) = !sg a := by
  rw [sg_eq (ng_lt h), sg_eq h]
  unfold ng
  by_cases c : 9223372036854775808 ≤ a
  · rw [if_pos c, decide_eq_true c, decide_eq_false (by omega)]
    rfl
  · rw [if_neg c, decide_eq_false c, decide_eq_true (by omega)]
    rfl
theorem xor_nat {a : Nat} (h : a < 18446744073709551616) : a ^^^ 9223372036854775808 = ng a := by
  have e : (9223372036854775808 : Nat) = 2 ^ 63 := by decide
  have h1 := Nat.xor_div_two_pow (a := a) (b := 2 ^ 63) (n := 63)
  have h2 := Nat.xor_mod_two_pow (a := a) (b := 2 ^ 63) (n := 63)
  have h3 := Nat.div_add_mod (a ^^^ 2 ^ 63) (2 ^ 63)
  rw [Nat.mod_self, Nat.xor_zero] at h2
  rw [Nat.div_self (by decide)] at h1
  rw [h1, h2] at h3
  unfold ng
  rw [e] at *
  have hq : a / 2 ^ 63 = 0 ∨ a / 2 ^ 63 = 1 := by omega
  rcases hq with hq | hq
  · rw [hq] at h3
    have : (0 : Nat) ^^^ 1 = 1 := rfl
    rw [this] at h3
    rw [if_neg (by omega)]
    omega
  · rw [hq] at h3
    have : (1 : Nat) ^^^ 1 = 0 := rfl
    rw [this] at h3
    rw [if_pos (by omega)]
    omega
theorem xor_ng {a : Nat} (h : a < 18446744073709551616) : Go.bits .xor .u64 (a : Int) 9223372036854775808 = ((ng a : Nat) : Int) := by
  rw [← xor_nat h]
  exact u64_xor_nat a 9223372036854775808 h (by decide)
theorem and_sign {a : Nat} (h : a < 18446744073709551616) : Go.bits .and .u64 (a : Int) 9223372036854775808 = ((double.word (sg a) 0 : Nat) : Int) := by
  have e := and_pow h 63 (by omega)
  have e31 : ((2 ^ 63 : Nat) : Int) = 9223372036854775808 := by decide
  rw [e31] at e
  rw [e, word_eq, sg_eq h]
  by_cases c : 9223372036854775808 ≤ a
  · rw [decide_eq_true c, if_pos rfl]
    omega
  · rw [decide_eq_false c, if_neg (by simp)]
    omega
theorem sub_self_r {a : Nat} (h : rg a < 9218868437227405312) : res (fop .sub a a) = 0 := by
  show res (double.sub a a) = 0
  rw [sub_self h]
  decide
theorem div_one_r {a : Nat} (ha : a < 18446744073709551616) (h : rg a < 9218868437227405312) : res (fop .quo a 4607182418800017408) = a := by
  show res (double.div a 4607182418800017408) = a
  rw [div_one ha h]
  exact canon_of (by omega)
theorem mul_zero_r {a : Nat} (h : rg a < 9218868437227405312) : res (fop .mul a 0) = double.word (sg a) 0 := by
  show res (double.mul a 0) = _
  rw [mul_zero h]
  refine canon_of ?_
  rw [(word_sg (s := sg a) (r := 0) (by omega)).2.1]
  omega
theorem add_zero_r {a : Nat} (ha : a < 18446744073709551616) (h : rg a < 9218868437227405312) : res (fop .add a 0) = if rg a = 0 then 0 else a := by
  show res (double.add a 0) = _
  rw [add_zero ha h]
  show canon _ = _
  split
  · decide
  · exact canon_of (by omega)
theorem half_r {N : Nat} (h : N < 9007199254740992) : ∃ x, res (fop .quo (double.nearest false N 0) 4611686018427387904) = x ∧ x < 18446744073709551616 ∧ res (fop .add x x) = double.nearest false N 0 := by
  obtain ⟨x, h1, h2, h3, h4⟩ := half_twice h
  refine ⟨x, ?_, h2, ?_⟩
  · show res (double.div _ _) = x
    rw [h1]
    exact canon_of h3
  · show res (double.add x x) = _
    rw [h4]
    exact canon_near _ _ _
theorem from_nat {n : Int} (h0 : 0 ≤ n) (h1 : n < 2147483648) : floatOfInt .f64 (wrap32 n) = double.nearest false n.toNat 0 := by
  have e : wrap32 n = n := by
    rw [w32_of]
    omega
  rw [e, from_near, decide_eq_false (by omega)]
  congr 1
  omega
theorem turn_r (a b : Nat) : res (fop .add a b) = res (fop .add b a) ∧ res (fop .mul a b) = res (fop .mul b a) := by
  constructor
  · show res (double.add a b) = res (double.add b a)
    rw [FloatFacts.add_comm]
  · show res (double.mul a b) = res (double.mul b a)
    rw [FloatFacts.mul_comm]
theorem sub_ng_r {a b : Nat} (hb : b < 18446744073709551616) : res (fop .sub a (ng b)) = res (fop .add a b) := by
  show res (double.sub a (ng b)) = res (double.add a b)
  rw [sub_turn (ng_sg hb) (ng_rg hb)]
theorem square_r {N : Nat} (h : N < 16777216) : ∃ x, res (fop .mul (double.nearest false N 0) (double.nearest false N 0)) = x ∧ x < 18446744073709551616 ∧ res (double.sqrt x) = double.nearest false N 0 := by
  by_cases h0 : 0 < N
  · obtain ⟨x, h1, h2, h3, h4⟩ := root_square h0 h
    refine ⟨x, ?_, h2, ?_⟩
    · show res (double.mul _ _) = x
      rw [h1]
      exact canon_of h3
    · rw [h4]
      exact canon_near _ _ _
  · have : N = 0 := by omega
    subst this
    obtain ⟨h1, h2⟩ := root_none
    refine ⟨0, ?_, by decide, ?_⟩
    · show res (double.mul _ _) = 0
      rw [h1]
      decide
    · rw [h2]
      exact canon_near _ _ _
/-- The least and the greatest of two are these two. -/
theorem pick_two {a b : Nat} (ha : a < 18446744073709551616) (hb : b < 18446744073709551616) (na : rg a ≤ 9218868437227405312) (nb : rg b ≤ 9218868437227405312) : (pk true a b = a ∧ pk false a b = b) ∨ (pk true a b = b ∧ pk false a b = a) := by
  have n1 : ¬ 9218868437227405312 < rg a := by omega
  have n2 : ¬ 9218868437227405312 < rg b := by omega
  unfold pk
  simp only [if_neg n1, if_neg n2]
  by_cases c : ord a < ord b
  · rw [decide_eq_true c]
    exact .inl ⟨rfl, rfl⟩
  · rw [decide_eq_false c]
    exact .inr ⟨rfl, rfl⟩
theorem pk_lt {l : Bool} {a b : Nat} (ha : a < 18446744073709551616) (hb : b < 18446744073709551616) : pk l a b < 18446744073709551616 := by
  unfold pk
  split
  · split <;> omega
  · split
    · omega
    · split <;> omega
end Go.Proofs.YtjaeligjcgjamaaDoor.DFacts2
