/- The document's root, bit by bit: it is the model's. -/
import Derived.Test.YtjaeligjcgjamaaRealAr
namespace Go.Proofs.Ytjaeligjcgjamaa.RealRootW
open Go.RowKit Go.Proofs.Ytjaeligjcgjamaa.PRealCompares Go.Proofs.YtjaeligjcgjamaaW.PrintWords Go.Proofs.YtjaeligjcgjamaaW.PrintLast Go.Proofs.Ytjaeligjcgjamaa.Aid Go.Proofs.Ytjaeligjcgjamaa.FloatPlain Go.Proofs.Ytjaeligjcgjamaa.RealPure Go.Proofs.Ytjaeligjcgjamaa.RealCmp Go.Proofs.Ytjaeligjcgjamaa.RealFl Go.Proofs.Ytjaeligjcgjamaa.RealRoot Go.Proofs.Ytjaeligjcgjamaa.RealAr
set_option linter.unusedVariables false
set_option linter.unusedSimpArgs false
theorem and1 (x : Int) : Go.bits .and .i64 x 1 = x % 2 := by
  have h : (BitVec.ofInt 64 x &&& BitVec.ofInt 64 1).toNat = (x % 2).toNat := by
    rw [BitVec.toNat_and]
    have e : (BitVec.ofInt 64 1).toNat = 2 ^ 1 - 1 := by decide
    rw [e, Nat.and_two_pow_sub_one_eq_mod, BitVec.toNat_ofInt]
    omega
  have h2 : Go.bits .and .i64 x 1 = IntKind.i64.wrap ((BitVec.ofInt 64 x &&& BitVec.ofInt 64 1).toNat : Int) := rfl
  rw [h2, h, IntWalk.i64_left, w64_of]
  omega
theorem canon_num {r : Nat} (h : rg r ≤ 9218868437227405312) : canon r = r := by
  unfold canon
  rw [if_neg (by omega)]
theorem ret_u64 {a b : Int} (h : a = b) : Ending.returned (.int .u64 a) = .returned (.int .u64 b) := by rw [h]
theorem val_u64 {a b : Int} (h : a = b) : Value.int .u64 a = Value.int .u64 b := by rw [h]
theorem val_i64 {a b : Int} (h : a = b) : Value.int .i64 a = Value.int .i64 b := by rw [h]
/-- What holds at the digits' loop: the number, what is left, the root so far, the digit that comes. -/
def Dig (M m q r : Nat) : Prop := (∃ k, k ≤ 53 ∧ r = 2 ^ k ∧ m * r + q * q = M ∧ M < (q + 2 * r) * (q + 2 * r) ∧ q + 2 * r ≤ 18014398509481984) ∨ (r = 0 ∧ IsRoot M q ∧ m = 2 * (M - q * q) ∧ q ≤ 18014398509481984)
theorem left_lt {M m q r : Nat} (h : m * r + q * q = M) (h1 : M < (q + 2 * r) * (q + 2 * r)) : m < 4 * q + 4 * r := by
  rcases Nat.lt_or_ge m (4 * q + 4 * r) with c | c
  · exact c
  · exfalso
    have h2 := Nat.mul_le_mul_right r c
    rw [Nat.add_mul, Nat.mul_assoc, Nat.mul_assoc] at h2
    rw [sq_add, Nat.mul_left_comm q 2, Nat.mul_mul_mul_comm] at h1
    omega
theorem dig_yes {M m q r k : Nat} (hr : r = 2 ^ k) (h : m * r + q * q = M) (h1 : M < (q + 2 * r) * (q + 2 * r)) (h2 : q + 2 * r ≤ 18014398509481984) (hk : k ≤ 53) (ht : 2 * q + r ≤ m) : Dig M ((m - (2 * q + r)) * 2) (q + r) (r / 2) := by
  have e0 : (m - (2 * q + r)) * r + (q + r) * (q + r) = M := by
    rw [Nat.sub_mul, sq_add, Nat.add_mul]
    have h3 := Nat.mul_le_mul_right r ht
    rw [Nat.add_mul] at h3
    have h4 : 2 * q * r = 2 * (q * r) := Nat.mul_assoc _ _ _
    omega
  have e3 : q + 2 * r = q + r + r := by omega
  rw [e3] at h1
  generalize q + r = p at e0 h1 e3 ⊢
  generalize m - (2 * q + r) = n at e0
  cases k with
  | zero =>
    rw [Nat.pow_zero] at hr
    subst hr
    right
    refine ⟨rfl, ⟨by omega, h1⟩, by omega, by omega⟩
  | succ k =>
    left
    have h5 : r / 2 = 2 ^ k := by
      rw [hr, Nat.pow_succ]
      omega
    have h6 : r = 2 * (r / 2) := by
      rw [hr, Nat.pow_succ]
      omega
    generalize hs : r / 2 = s at h5 h6
    refine ⟨k, by omega, h5, ?_, ?_, by omega⟩
    · rw [Nat.mul_assoc, ← h6]
      exact e0
    · rw [← h6]
      exact h1
theorem dig_no {M m q r k : Nat} (hr : r = 2 ^ k) (h : m * r + q * q = M) (h1 : M < (q + 2 * r) * (q + 2 * r)) (h2 : q + 2 * r ≤ 18014398509481984) (hk : k ≤ 53) (ht : m < 2 * q + r) : Dig M (m * 2) q (r / 2) := by
  have hr0 : 0 < r := by
    rw [hr]
    exact Nat.pow_pos (by decide)
  have e0 : M < (q + r) * (q + r) := by
    rw [sq_add]
    have h3 := Nat.mul_lt_mul_of_pos_right ht hr0
    rw [Nat.add_mul] at h3
    have h4 : 2 * q * r = 2 * (q * r) := Nat.mul_assoc _ _ _
    omega
  cases k with
  | zero =>
    rw [Nat.pow_zero] at hr
    subst hr
    right
    refine ⟨rfl, ⟨by omega, e0⟩, by omega, by omega⟩
  | succ k =>
    left
    have h5 : r / 2 = 2 ^ k := by
      rw [hr, Nat.pow_succ]
      omega
    have h6 : r = 2 * (r / 2) := by
      rw [hr, Nat.pow_succ]
      omega
    generalize hs : r / 2 = s at h5 h6
    refine ⟨k, by omega, h5, ?_, ?_, by omega⟩
    · rw [Nat.mul_assoc, ← h6]
      exact h
    · rw [← h6]
      exact e0
theorem and_one {q : Nat} (h : q < 18446744073709551616) : Go.bits .and .u64 (q : Int) 1 = ((q % 2 : Nat) : Int) := and_low h 1 (by omega)
theorem dig_start {N : Nat} (h : N < 36028797018963968) : Dig (N * 9007199254740992) N 0 9007199254740992 := by
  left
  refine ⟨53, by omega, by decide, by omega, ?_, by omega⟩
  have : (0 + 2 * 9007199254740992) * (0 + 2 * 9007199254740992) = 36028797018963968 * 9007199254740992 := by decide
  rw [this]
  exact Nat.mul_lt_mul_of_pos_right h (by decide)
theorem sqrt_pos {a m : Nat} {i : Int} (hread : Ieee.double.read a = .number false m i) (m0 : 0 < m) (m1 : m < 9007199254740992) (z : Nat) (z0 : 4503599627370496 ≤ m * 2 ^ z) (z1 : m * 2 ^ z < 9007199254740992) (E : Int) (hE : E = i + 52 - z) (r : Nat) (hr : E % 2 = r) (M : Nat) (hM : m * 2 ^ z * 2 ^ r * 18014398509481984 = M)
    (i0 : -1100 ≤ E) (i1 : E ≤ 1100) (q : Nat) (hq : IsRoot M q) : res (Ieee.double.sqrt a) = (E / 2 + 1022).toNat * 4503599627370496 + (q / 2 + q % 2) := by
  have h := root_eq m0 m1 z z0 z1 E hE r hr q (by rw [hM]; exact hq) (by omega) (by omega)
  have hs : Ieee.double.sqrt a = ((Ieee.double.read a).root 54).map Ieee.double.write := rfl
  rw [hs, hread, h]
  show canon _ = _
  refine canon_num ?_
  have hq2 : q < 18014398509481984 := by
    have h2 := hq.1
    have h3 : q * q < 324518553658426726783156020576256 := by
      have hr2 : r = 0 ∨ r = 1 := by omega
      rw [← hM] at h2
      rcases hr2 with rfl | rfl <;> omega
    exact lt_of_sq (b := 18014398509481984) (Nat.lt_of_lt_of_le h3 (Nat.le_of_eq (by decide)))
  have : (E / 2 + 1022).toNat ≤ 1600 := by omega
  unfold rg
  omega
theorem even_root {M q : Nat} (hM : M % 2 = 0) (h : 2 * (M - q * q) = 0) (hq : q * q ≤ M) : q % 2 = 0 := by
  rcases Nat.mod_two_eq_zero_or_one q with c | c
  · exact c
  · have := odd_sq c
    omega

set_option maxRecDepth 100000
set_option maxHeartbeats 1600000 in
theorem root_norm {a : Nat} (ha : a < 9218868437227405312) (h0 : 4503599627370496 ≤ a) (w : World) (f m r M : Nat) (E : Int) (hf : Aside0 (a / 4503599627370496 = f)) (hm : Aside0 (4503599627370496 + a % 4503599627370496 = m)) (hE : Aside0 ((f : Int) - 1023 = E)) (hr : Aside0 (E % 2 = r)) (HMr : Aside0 (m * 2 ^ r * 18014398509481984 = M))
    (HS : Aside0 (∀ q, IsRoot M q → res (Ieee.double.sqrt a) = (E / 2 + 1022).toNat * 4503599627370496 + (q / 2 + q % 2))) :
    Calls Try.prog 25 #[.int .u64 a] w fun e w' => e = .returned (.int .u64 (res (Ieee.double.sqrt a) : Nat)) ∧ w' = w := by
  go_enter Try.func25, Try.ntmps25
  go_wp2_with fail
  refine (isnan_calls (by omega) _).mono ?_
  rintro e w1 ⟨rfl, rfl⟩
  rw [decide_eq_false (show ¬ 9218868437227405312 < rg a by unfold rg; omega)]
  go_wp2_with fail
  refine (zero_calls (by omega) _).mono ?_
  rintro e w1 ⟨rfl, rfl⟩
  rw [decide_eq_false (show ¬ rg a = 0 by unfold rg; omega)]
  have HW : Aside0 (wrap64 ((a : Int) / 4503599627370496) = (f : Int)) := ⟨by
    rw [← hf.out]
    unfold wrap64
    omega⟩
  have HO : Aside0 (Go.bits .or .u64 (Go.bits .and .u64 (a : Int) 4503599627370495) 4503599627370496 = (m : Int)) := ⟨by
    rw [show (4503599627370495 : Int) = ((2 ^ 52 - 1 : Nat) : Int) from by decide, and_low (by omega) 52 (by omega), show (4503599627370496 : Int) = ((4503599627370496 : Nat) : Int) from rfl, u64_or_nat _ _ (by omega) (by omega), ← hm.out]
    have h5 := Nat.two_pow_add_eq_or_of_lt (i := 52) (show a % 2 ^ 52 < 2 ^ 52 from Nat.mod_lt _ (by decide)) 1
    rw [Nat.or_comm]
    have h6 : (2 : Nat) ^ 52 * 1 = 4503599627370496 := by decide
    have h7 : (2 : Nat) ^ 52 = 4503599627370496 := by decide
    rw [h6, h7] at h5
    rw [h7, ← h5]⟩
  have f0 : f ≤ 2046 := by
    rw [← hf.out]
    omega
  have m0 : 4503599627370496 ≤ m := by
    rw [← hm.out]
    omega
  have m1 : m < 9007199254740992 := by
    rw [← hm.out]
    omega
  have t1 : ((a : Int) == 9218868437227405312) = false := beq_eq_false_iff_ne.2 (by omega)
  have t2 : (wrap64 ((a : Int) / 4503599627370496) == 0) = false := by
    rw [HW.out]
    exact beq_eq_false_iff_ne.2 (by have := hf.out; omega)
  have t3 : decide (9223372036854775808 ≤ (a : Int)) = false := decide_eq_false (by omega)
  clear ha h0
  go_upto_region 15 with fail
  rw [HW.out, HO.out]
  clear t1 t2 t3 HW HO
  go_upto_region 16 with fail
  rw [hE.out]
  have e0 : -1023 ≤ E := by
    rw [← hE.out]
    omega
  have e1 : E ≤ 1023 := by
    rw [← hE.out]
    omega
  clear hE hf hm f0
  obtain ⟨h, hh⟩ : ∃ h, E / 2 = h := ⟨_, rfl⟩
  have H2 := Aside0.mk hh
  have h0 : -550 ≤ h := by omega
  have h1 : h ≤ 511 := by omega
  rw [hh] at HS
  clear hh
  rcases (show r = 0 ∨ r = 1 by have := hr.out; omega) with rfl | rfl
  · have t4 : (Go.bits .and .i64 E 1 != 0) = false := by
      rw [and1, hr.out]
      rfl
    have HN : Aside0 ((m : Int) * 2 = ((m * 2 : Nat) : Int)) := ⟨by omega⟩
    have HD : Aside0 (Dig M (m * 2) 0 9007199254740992) := ⟨by
      have := dig_start (N := m * 2) (by omega)
      rw [← HMr.out]
      have e : m * 2 ^ 0 * 18014398509481984 = m * 2 * 9007199254740992 := by omega
      rw [e]
      exact this⟩
    have HM : Aside0 (M % 2 = 0) := ⟨by
      rw [← HMr.out]
      omega⟩
    go_upto_region 23 with fail
    rw [H2.out, HN.out]
    clear t4 HN H2 HMr hr e0 e1
    go_loop [4, 5, 6, 7] (fun m q s r => ∃ mn qn rn : Nat, m = .int .u64 mn ∧ q = .int .u64 qn ∧ s = .int .u64 ((2 * qn : Nat) : Int) ∧ r = .int .u64 rn ∧ Aside0 (Dig M mn qn rn)) (fun _ _ _ r => (intOf r).toNat)
    case atStart => exact ⟨_, 0, 9007199254740992, rfl, rfl, rfl, rfl, HD⟩
    case round =>
      clear HD
      obtain ⟨mn, qn, rn, rfl, rfl, rfl, rfl, HD⟩ := hrel
      rcases HD.out with ⟨k, hk, hr, h, h1, h2⟩ | ⟨hr, h, h1, h2⟩
      · have hr0 : 0 < rn := by
          rw [hr]
          exact Nat.pow_pos (by decide)
        have hm := left_lt h h1
        by_cases ht : 2 * qn + rn ≤ mn
        · have HD2 := Aside0.mk (dig_yes hr h h1 h2 hk ht)
          clear HD h h1 hr hk
          go_wp2
          go_round
          case rel => exact ⟨(mn - (2 * qn + rn)) * 2, qn + rn, rn / 2, val_u64 (by omega), val_u64 (by omega), val_u64 (by omega), val_u64 (by omega), HD2⟩
          case measure =>
            simp [intOf]
            omega
        · have HD2 := Aside0.mk (dig_no hr h h1 h2 hk (by omega))
          clear HD h h1 hr hk
          go_wp2
          go_round
          case rel => exact ⟨mn * 2, qn, rn / 2, val_u64 (by omega), val_u64 (by omega), val_u64 (by omega), val_u64 (by omega), HD2⟩
          case measure =>
            simp [intOf]
            omega
      · subst hr
        have HR := Aside0.mk h
        have HQ := Aside0.mk h1
        have HA1 := Aside0.mk (and_one (q := qn) (by omega))
        clear HD h h1
        by_cases hm : mn = 0
        · have hev := even_root HM.out (by rw [← HQ.out]; exact hm) HR.out.1
          have t : ((mn : Int) != 0) = false := by
            rw [bne_eq_false_iff_eq]
            omega
          clear hm
          go_wp2
          go_ret
          refine ⟨?_, rfl⟩
          refine (ret_u64 ?_).trans (congrArg (fun z : Nat => Ending.returned (.int .u64 (z : Int))) (HS.out qn HR.out)).symm
          omega
        · have t : ((mn : Int) != 0) = true := by
            rw [bne_iff_ne]
            omega
          have hmb : mn < 18446744073709551616 := by
            have h8 := HR.out.2
            have h9 := HQ.out
            rw [sq_add] at h8
            omega
          clear hm
          go_wp2
          go_ret
          refine ⟨?_, rfl⟩
          refine (ret_u64 ?_).trans (congrArg (fun z : Nat => Ending.returned (.int .u64 (z : Int))) (HS.out qn HR.out)).symm
          rw [HA1.out]
          simp only [u64w]
          omega
  · have t4 : (Go.bits .and .i64 E 1 != 0) = true := by
      rw [and1, hr.out]
      rfl
    have HN : Aside0 ((m : Int) * 2 * 2 = ((m * 4 : Nat) : Int)) := ⟨by omega⟩
    have HD : Aside0 (Dig M (m * 4) 0 9007199254740992) := ⟨by
      have := dig_start (N := m * 4) (by omega)
      rw [← HMr.out]
      have e : m * 2 ^ 1 * 18014398509481984 = m * 4 * 9007199254740992 := by omega
      rw [e]
      exact this⟩
    have HM : Aside0 (M % 2 = 0) := ⟨by
      rw [← HMr.out]
      omega⟩
    go_upto_region 23 with fail
    rw [H2.out, HN.out]
    clear t4 HN H2 HMr hr e0 e1
    go_loop [4, 5, 6, 7] (fun m q s r => ∃ mn qn rn : Nat, m = .int .u64 mn ∧ q = .int .u64 qn ∧ s = .int .u64 ((2 * qn : Nat) : Int) ∧ r = .int .u64 rn ∧ Aside0 (Dig M mn qn rn)) (fun _ _ _ r => (intOf r).toNat)
    case atStart => exact ⟨_, 0, 9007199254740992, rfl, rfl, rfl, rfl, HD⟩
    case round =>
      clear HD
      obtain ⟨mn, qn, rn, rfl, rfl, rfl, rfl, HD⟩ := hrel
      rcases HD.out with ⟨k, hk, hr, h, h1, h2⟩ | ⟨hr, h, h1, h2⟩
      · have hr0 : 0 < rn := by
          rw [hr]
          exact Nat.pow_pos (by decide)
        have hm := left_lt h h1
        by_cases ht : 2 * qn + rn ≤ mn
        · have HD2 := Aside0.mk (dig_yes hr h h1 h2 hk ht)
          clear HD h h1 hr hk
          go_wp2
          go_round
          case rel => exact ⟨(mn - (2 * qn + rn)) * 2, qn + rn, rn / 2, val_u64 (by omega), val_u64 (by omega), val_u64 (by omega), val_u64 (by omega), HD2⟩
          case measure =>
            simp [intOf]
            omega
        · have HD2 := Aside0.mk (dig_no hr h h1 h2 hk (by omega))
          clear HD h h1 hr hk
          go_wp2
          go_round
          case rel => exact ⟨mn * 2, qn, rn / 2, val_u64 (by omega), val_u64 (by omega), val_u64 (by omega), val_u64 (by omega), HD2⟩
          case measure =>
            simp [intOf]
            omega
      · subst hr
        have HR := Aside0.mk h
        have HQ := Aside0.mk h1
        have HA1 := Aside0.mk (and_one (q := qn) (by omega))
        clear HD h h1
        by_cases hm : mn = 0
        · have hev := even_root HM.out (by rw [← HQ.out]; exact hm) HR.out.1
          have t : ((mn : Int) != 0) = false := by
            rw [bne_eq_false_iff_eq]
            omega
          clear hm
          go_wp2
          go_ret
          refine ⟨?_, rfl⟩
          refine (ret_u64 ?_).trans (congrArg (fun z : Nat => Ending.returned (.int .u64 (z : Int))) (HS.out qn HR.out)).symm
          omega
        · have t : ((mn : Int) != 0) = true := by
            rw [bne_iff_ne]
            omega
          have hmb : mn < 18446744073709551616 := by
            have h8 := HR.out.2
            have h9 := HQ.out
            rw [sq_add] at h8
            omega
          clear hm
          go_wp2
          go_ret
          refine ⟨?_, rfl⟩
          refine (ret_u64 ?_).trans (congrArg (fun z : Nat => Ending.returned (.int .u64 (z : Int))) (HS.out qn HR.out)).symm
          rw [HA1.out]
          simp only [u64w]
          omega

set_option maxHeartbeats 1600000 in
theorem root_sub {a : Nat} (ha : a < 4503599627370496) (h0 : 0 < a) (w : World) (HS : Aside0 (∀ z X r M : Nat, ∀ E : Int, a * 2 ^ z = X → z ≤ 52 → 4503599627370496 ≤ X → X < 9007199254740992 → E = 1 - (z : Int) - 1023 → E % 2 = r → X * 2 ^ r * 18014398509481984 = M → ∀ q, IsRoot M q → res (Ieee.double.sqrt a) = (E / 2 + 1022).toNat * 4503599627370496 + (q / 2 + q % 2))) :
    Calls Try.prog 25 #[.int .u64 a] w fun e w' => e = .returned (.int .u64 (res (Ieee.double.sqrt a) : Nat)) ∧ w' = w := by
  go_enter Try.func25, Try.ntmps25
  go_wp2_with fail
  refine (isnan_calls (by omega) _).mono ?_
  rintro e w1 ⟨rfl, rfl⟩
  rw [decide_eq_false (show ¬ 9218868437227405312 < rg a by unfold rg; omega)]
  go_wp2_with fail
  refine (zero_calls (by omega) _).mono ?_
  rintro e w1 ⟨rfl, rfl⟩
  rw [decide_eq_false (show ¬ rg a = 0 by unfold rg; omega)]
  have HW : Aside0 ((a : Int) / 4503599627370496 = 0) := ⟨by omega⟩
  have HO : Aside0 (Go.bits .and .u64 (a : Int) 4503599627370495 = (a : Int)) := ⟨by
    rw [show (4503599627370495 : Int) = ((2 ^ 52 - 1 : Nat) : Int) from by decide, and_low (by omega) 52 (by omega)]
    have h7 : (2 : Nat) ^ 52 = 4503599627370496 := by decide
    rw [h7]
    omega⟩
  have t1 : ((a : Int) == 9218868437227405312) = false := beq_eq_false_iff_ne.2 (by omega)
  have t3 : decide (9223372036854775808 ≤ (a : Int)) = false := decide_eq_false (by omega)
  go_upto_region 8 with fail
  rw [HW.out]
  go_upto_region 9 with fail
  rw [HO.out]
  go_wp2
  clear t1 t3 HW HO
  go_loop [3, 4] (fun e m => ∃ z X : Nat, z ≤ 52 ∧ e = .int .i64 (1 - (z : Int)) ∧ m = .int .u64 X ∧ Aside0 (a * 2 ^ z = X) ∧ X < 9007199254740992 ∧ 0 < X) (fun _ m => 9007199254740992 - (intOf m).toNat)
  case atStart => exact ⟨0, a, by omega, rfl, rfl, ⟨by omega⟩, by omega, by omega⟩
  case round =>
    obtain ⟨z, X, hz, rfl, rfl, HX, x1, x2⟩ := hrel
    by_cases c : X < 4503599627370496
    · have hz2 : z < 52 := by
        rcases Nat.lt_or_ge z 52 with d | d
        · exact d
        · exfalso
          have h2 : 2 ^ 52 ≤ 2 ^ z := Nat.pow_le_pow_right (by decide) d
          have h3 := Nat.mul_le_mul h0 h2
          rw [HX.out] at h3
          have h4 : (2 : Nat) ^ 52 = 4503599627370496 := by decide
          omega
      have c1 : decide ((X : Int) < 4503599627370496) = true := decide_eq_true (by omega)
      go_wp2
      go_round
      case rel => exact ⟨z + 1, X * 2, by omega, val_i64 (by omega), val_u64 (by omega), ⟨by rw [Nat.pow_succ, ← Nat.mul_assoc, HX.out]⟩, by omega, by omega⟩
      case measure =>
        simp [intOf]
        omega
    · have c1 : decide ((X : Int) < 4503599627370496) = false := decide_eq_false (by omega)
      go_upto_region 15 with fail
      clear c1
      obtain ⟨e, he⟩ : ∃ e : Int, 1 - (z : Int) = e := ⟨_, rfl⟩
      obtain ⟨E, hE'⟩ : ∃ E : Int, e - 1023 = E := ⟨_, rfl⟩
      obtain ⟨r, hr'⟩ : ∃ r : Nat, E % 2 = (r : Int) := ⟨(E % 2).toNat, by omega⟩
      obtain ⟨M, hM'⟩ : ∃ M, X * 2 ^ r * 18014398509481984 = M := ⟨_, rfl⟩
      have HS := Aside0.mk (HS.out z X r M E HX.out hz (by omega) x1 (by omega) hr' hM')
      have HMr := Aside0.mk hM'
      have hr := Aside0.mk hr'
      have m0 : 4503599627370496 ≤ X := by omega
      have m1 := x1
      have e0 : -1100 ≤ E := by omega
      have e1 : E ≤ 1023 := by omega
      rw [he]
      have hE := Aside0.mk hE'
      have b0 : -100 ≤ e := by omega
      have b1 : e ≤ 1 := by omega
      clear he hE' hr' hM' HX c x1 hz ha h0 x2
      go_upto_region 16 with fail
      rw [hE.out]
      clear hE b0 b1
      obtain ⟨m, hmX⟩ : ∃ m, m = X := ⟨_, rfl⟩
      subst hmX
      obtain ⟨h, hh⟩ : ∃ h, E / 2 = h := ⟨_, rfl⟩
      have H2 := Aside0.mk hh
      have h0 : -550 ≤ h := by omega
      have h1 : h ≤ 511 := by omega
      rw [hh] at HS
      clear hh
      rcases (show r = 0 ∨ r = 1 by have := hr.out; omega) with rfl | rfl
      · have t4 : (Go.bits .and .i64 E 1 != 0) = false := by
          rw [and1, hr.out]
          rfl
        have HN : Aside0 ((m : Int) * 2 = ((m * 2 : Nat) : Int)) := ⟨by omega⟩
        have HD : Aside0 (Dig M (m * 2) 0 9007199254740992) := ⟨by
          have := dig_start (N := m * 2) (by omega)
          rw [← HMr.out]
          have e : m * 2 ^ 0 * 18014398509481984 = m * 2 * 9007199254740992 := by omega
          rw [e]
          exact this⟩
        have HM : Aside0 (M % 2 = 0) := ⟨by
          rw [← HMr.out]
          omega⟩
        go_upto_region 23 with fail
        rw [H2.out, HN.out]
        clear t4 HN H2 HMr hr e0 e1
        go_loop [4, 5, 6, 7] (fun m q s r => ∃ mn qn rn : Nat, m = .int .u64 mn ∧ q = .int .u64 qn ∧ s = .int .u64 ((2 * qn : Nat) : Int) ∧ r = .int .u64 rn ∧ Aside0 (Dig M mn qn rn)) (fun _ _ _ r => (intOf r).toNat)
        case atStart => exact ⟨_, 0, 9007199254740992, rfl, rfl, rfl, rfl, HD⟩
        case round =>
          clear HD
          obtain ⟨mn, qn, rn, rfl, rfl, rfl, rfl, HD⟩ := hrel
          rcases HD.out with ⟨k, hk, hr, h, h1, h2⟩ | ⟨hr, h, h1, h2⟩
          · have hr0 : 0 < rn := by
              rw [hr]
              exact Nat.pow_pos (by decide)
            have hm := left_lt h h1
            by_cases ht : 2 * qn + rn ≤ mn
            · have HD2 := Aside0.mk (dig_yes hr h h1 h2 hk ht)
              clear HD h h1 hr hk
              go_wp2
              go_round
              case rel => exact ⟨(mn - (2 * qn + rn)) * 2, qn + rn, rn / 2, val_u64 (by omega), val_u64 (by omega), val_u64 (by omega), val_u64 (by omega), HD2⟩
              case measure =>
                simp [intOf]
                omega
            · have HD2 := Aside0.mk (dig_no hr h h1 h2 hk (by omega))
              clear HD h h1 hr hk
              go_wp2
              go_round
              case rel => exact ⟨mn * 2, qn, rn / 2, val_u64 (by omega), val_u64 (by omega), val_u64 (by omega), val_u64 (by omega), HD2⟩
              case measure =>
                simp [intOf]
                omega
          · subst hr
            have HR := Aside0.mk h
            have HQ := Aside0.mk h1
            have HA1 := Aside0.mk (and_one (q := qn) (by omega))
            clear HD h h1
            by_cases hm : mn = 0
            · have hev := even_root HM.out (by rw [← HQ.out]; exact hm) HR.out.1
              have t : ((mn : Int) != 0) = false := by
                rw [bne_eq_false_iff_eq]
                omega
              clear hm
              go_wp2
              go_ret
              refine ⟨?_, rfl⟩
              refine (ret_u64 ?_).trans (congrArg (fun z : Nat => Ending.returned (.int .u64 (z : Int))) (HS.out qn HR.out)).symm
              omega
            · have t : ((mn : Int) != 0) = true := by
                rw [bne_iff_ne]
                omega
              have hmb : mn < 18446744073709551616 := by
                have h8 := HR.out.2
                have h9 := HQ.out
                rw [sq_add] at h8
                omega
              clear hm
              go_wp2
              go_ret
              refine ⟨?_, rfl⟩
              refine (ret_u64 ?_).trans (congrArg (fun z : Nat => Ending.returned (.int .u64 (z : Int))) (HS.out qn HR.out)).symm
              rw [HA1.out]
              simp only [u64w]
              omega
      · have t4 : (Go.bits .and .i64 E 1 != 0) = true := by
          rw [and1, hr.out]
          rfl
        have HN : Aside0 ((m : Int) * 2 * 2 = ((m * 4 : Nat) : Int)) := ⟨by omega⟩
        have HD : Aside0 (Dig M (m * 4) 0 9007199254740992) := ⟨by
          have := dig_start (N := m * 4) (by omega)
          rw [← HMr.out]
          have e : m * 2 ^ 1 * 18014398509481984 = m * 4 * 9007199254740992 := by omega
          rw [e]
          exact this⟩
        have HM : Aside0 (M % 2 = 0) := ⟨by
          rw [← HMr.out]
          omega⟩
        go_upto_region 23 with fail
        rw [H2.out, HN.out]
        clear t4 HN H2 HMr hr e0 e1
        go_loop [4, 5, 6, 7] (fun m q s r => ∃ mn qn rn : Nat, m = .int .u64 mn ∧ q = .int .u64 qn ∧ s = .int .u64 ((2 * qn : Nat) : Int) ∧ r = .int .u64 rn ∧ Aside0 (Dig M mn qn rn)) (fun _ _ _ r => (intOf r).toNat)
        case atStart => exact ⟨_, 0, 9007199254740992, rfl, rfl, rfl, rfl, HD⟩
        case round =>
          clear HD
          obtain ⟨mn, qn, rn, rfl, rfl, rfl, rfl, HD⟩ := hrel
          rcases HD.out with ⟨k, hk, hr, h, h1, h2⟩ | ⟨hr, h, h1, h2⟩
          · have hr0 : 0 < rn := by
              rw [hr]
              exact Nat.pow_pos (by decide)
            have hm := left_lt h h1
            by_cases ht : 2 * qn + rn ≤ mn
            · have HD2 := Aside0.mk (dig_yes hr h h1 h2 hk ht)
              clear HD h h1 hr hk
              go_wp2
              go_round
              case rel => exact ⟨(mn - (2 * qn + rn)) * 2, qn + rn, rn / 2, val_u64 (by omega), val_u64 (by omega), val_u64 (by omega), val_u64 (by omega), HD2⟩
              case measure =>
                simp [intOf]
                omega
            · have HD2 := Aside0.mk (dig_no hr h h1 h2 hk (by omega))
              clear HD h h1 hr hk
              go_wp2
              go_round
              case rel => exact ⟨mn * 2, qn, rn / 2, val_u64 (by omega), val_u64 (by omega), val_u64 (by omega), val_u64 (by omega), HD2⟩
              case measure =>
                simp [intOf]
                omega
          · subst hr
            have HR := Aside0.mk h
            have HQ := Aside0.mk h1
            have HA1 := Aside0.mk (and_one (q := qn) (by omega))
            clear HD h h1
            by_cases hm : mn = 0
            · have hev := even_root HM.out (by rw [← HQ.out]; exact hm) HR.out.1
              have t : ((mn : Int) != 0) = false := by
                rw [bne_eq_false_iff_eq]
                omega
              clear hm
              go_wp2
              go_ret
              refine ⟨?_, rfl⟩
              refine (ret_u64 ?_).trans (congrArg (fun z : Nat => Ending.returned (.int .u64 (z : Int))) (HS.out qn HR.out)).symm
              omega
            · have t : ((mn : Int) != 0) = true := by
                rw [bne_iff_ne]
                omega
              have hmb : mn < 18446744073709551616 := by
                have h8 := HR.out.2
                have h9 := HQ.out
                rw [sq_add] at h8
                omega
              clear hm
              go_wp2
              go_ret
              refine ⟨?_, rfl⟩
              refine (ret_u64 ?_).trans (congrArg (fun z : Nat => Ending.returned (.int .u64 (z : Int))) (HS.out qn HR.out)).symm
              rw [HA1.out]
              simp only [u64w]
              omega
end Go.Proofs.Ytjaeligjcgjamaa.RealRootW
