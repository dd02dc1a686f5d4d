/- The root whole; the least and the greatest of two. -/
import Derived.Test.YtjaeligjcgjamaaRealRootW
namespace Go.Proofs.Ytjaeligjcgjamaa.RealPick
open Go.RowKit Go.Proofs.Ytjaeligjcgjamaa.PRealCompares Go.Proofs.YtjaeligjcgjamaaW.PrintWords Go.Proofs.YtjaeligjcgjamaaW.PrintLast Go.Proofs.Ytjaeligjcgjamaa.Aid Go.Proofs.Ytjaeligjcgjamaa.FloatPlain Go.Proofs.Ytjaeligjcgjamaa.RealPure Go.Proofs.Ytjaeligjcgjamaa.RealCmp Go.Proofs.Ytjaeligjcgjamaa.RealFl Go.Proofs.Ytjaeligjcgjamaa.RealRoot Go.Proofs.Ytjaeligjcgjamaa.RealAr Go.Proofs.Ytjaeligjcgjamaa.RealRootW
set_option linter.unusedVariables false
set_option linter.unusedSimpArgs false
set_option maxRecDepth 100000
theorem sqrt_nan {a : Nat} (h : 9218868437227405312 < rg a) : res (Ieee.double.sqrt a) = 9221120237041090560 := by
  obtain ⟨f, hf⟩ := read_nan h
  have hs : Ieee.double.sqrt a = ((Ieee.double.read a).root 54).map Ieee.double.write := rfl
  rw [hs, hf]
  rfl
theorem sqrt_zero {a : Nat} (ha : a < 18446744073709551616) (h : rg a = 0) : res (Ieee.double.sqrt a) = a := by
  have hs : Ieee.double.sqrt a = ((Ieee.double.read a).root 54).map Ieee.double.write := rfl
  rw [hs, read_num (by omega), h]
  by_cases c : 9223372036854775808 ≤ a
  · rw [sg_eq ha, decide_eq_true c]
    have e := rg_hi c ha
    have e2 : a = 9223372036854775808 := by omega
    rw [e2]
    decide
  · rw [sg_eq ha, decide_eq_false c]
    have e := rg_lo (show a < 9223372036854775808 by omega)
    have e2 : a = 0 := by omega
    rw [e2]
    decide
theorem sqrt_inf : res (Ieee.double.sqrt 9218868437227405312) = 9218868437227405312 := by decide
theorem sqrt_neg {a : Nat} (ha : a < 18446744073709551616) (h : rg a ≤ 9218868437227405312) (h0 : rg a ≠ 0) (c : 9223372036854775808 ≤ a) : res (Ieee.double.sqrt a) = 9221120237041090560 := by
  have hs : Ieee.double.sqrt a = ((Ieee.double.read a).root 54).map Ieee.double.write := rfl
  have hg : sg a = true := sg_hi c ha
  by_cases h1 : rg a < 9218868437227405312
  · rw [hs, read_num h1, hg]
    have h2 : mag (rg a) ≠ 0 := by
      unfold mag
      split <;> omega
    have h3 : ∀ i, Ieee.Datum.root 54 (.number true (mag (rg a)) i) = none := fun i => by
      unfold Ieee.Datum.root
      simp only []
      rw [if_neg h2]
      simp
    rw [h3]
    rfl
  · rw [hs, read_inf (by omega), hg]
    rfl
set_option maxHeartbeats 1600000 in
theorem root_calls {a : Nat} (ha : a < 18446744073709551616) (w : World) : Calls Try.prog 25 #[.int .u64 a] w fun e w' => e = .returned (.int .u64 (res (Ieee.double.sqrt a) : Nat)) ∧ w' = w := by
  have HA := Aside0.mk ha
  by_cases h1 : 9218868437227405312 < rg a
  · rw [sqrt_nan h1]
    have H1 := Aside0.mk h1
    clear ha h1
    go_enter Try.func25, Try.ntmps25
    go_wp2_with fail
    refine (isnan_calls HA.out _).mono ?_
    rintro e w1 ⟨rfl, rfl⟩
    rw [decide_eq_true H1.out]
    go_wp2_with fail
    go_ret
    exact ⟨rfl, rfl⟩
  · by_cases h2 : rg a = 0
    · rw [sqrt_zero ha h2]
      have H1 := Aside0.mk h1
      have H2 := Aside0.mk h2
      clear ha h1 h2
      go_enter Try.func25, Try.ntmps25
      go_wp2_with fail
      refine (isnan_calls HA.out _).mono ?_
      rintro e w1 ⟨rfl, rfl⟩
      rw [decide_eq_false H1.out]
      go_wp2_with fail
      refine (zero_calls HA.out _).mono ?_
      rintro e w1 ⟨rfl, rfl⟩
      rw [decide_eq_true H2.out]
      go_wp2_with fail
      go_ret
      exact ⟨rfl, rfl⟩
    · by_cases h3 : a = 9218868437227405312
      · subst h3
        rw [sqrt_inf]
        have H1 := Aside0.mk h1
        have H2 := Aside0.mk h2
        clear ha h1 h2
        go_enter Try.func25, Try.ntmps25
        go_wp2_with fail
        refine (isnan_calls HA.out _).mono ?_
        rintro e w1 ⟨rfl, rfl⟩
        rw [decide_eq_false H1.out]
        go_wp2_with fail
        refine (zero_calls HA.out _).mono ?_
        rintro e w1 ⟨rfl, rfl⟩
        rw [decide_eq_false H2.out]
        have t1 : (((9218868437227405312 : Nat) : Int) == 9218868437227405312) = true := rfl
        go_wp2_with fail
        go_ret
        exact ⟨rfl, rfl⟩
      · by_cases h4 : 9223372036854775808 ≤ a
        · rw [sqrt_neg ha (by omega) h2 h4]
          have H1 := Aside0.mk h1
          have H2 := Aside0.mk h2
          have t1 : ((a : Int) == 9218868437227405312) = false := beq_eq_false_iff_ne.2 (by omega)
          have t2 : decide (9223372036854775808 ≤ (a : Int)) = true := decide_eq_true (by omega)
          clear ha h1 h2 h3 h4
          go_enter Try.func25, Try.ntmps25
          go_wp2_with fail
          refine (isnan_calls HA.out _).mono ?_
          rintro e w1 ⟨rfl, rfl⟩
          rw [decide_eq_false H1.out]
          go_wp2_with fail
          refine (zero_calls HA.out _).mono ?_
          rintro e w1 ⟨rfl, rfl⟩
          rw [decide_eq_false H2.out]
          go_wp2_with fail
          go_ret
          exact ⟨rfl, rfl⟩
        · have hr := rg_lo (show a < 9223372036854775808 by omega)
          have hsg : sg a = false := by
            rw [sg_eq ha]
            exact decide_eq_false h4
          have hread := read_num (a := a) (by omega)
          rw [hsg, hr] at hread
          by_cases h5 : a < 4503599627370496
          · refine root_sub h5 (by omega) w ⟨?_⟩
            intro z X r M E hX hz x0 x1 hE hr' hM q hq
            have e1 : mag a = a := by
              unfold mag
              rw [if_pos h5]
            have e2 : plc a = 0 := by
              unfold plc
              rw [if_pos h5]
            rw [e1, e2] at hread
            exact sqrt_pos hread (by omega) (by omega) z (by omega) (by omega) E (by omega) r hr' M (by rw [hX]; exact hM) (by omega) (by omega) q hq
          · obtain ⟨f, hf⟩ : ∃ f, a / 4503599627370496 = f := ⟨_, rfl⟩
            obtain ⟨m, hm⟩ : ∃ m, 4503599627370496 + a % 4503599627370496 = m := ⟨_, rfl⟩
            obtain ⟨E, hE⟩ : ∃ E : Int, (f : Int) - 1023 = E := ⟨_, rfl⟩
            obtain ⟨r, hr'⟩ : ∃ r : Nat, E % 2 = (r : Int) := ⟨(E % 2).toNat, by omega⟩
            obtain ⟨M, hM⟩ : ∃ M, m * 2 ^ r * 18014398509481984 = M := ⟨_, rfl⟩
            refine root_norm (by omega) (by omega) w f m r M E ⟨hf⟩ ⟨hm⟩ ⟨hE⟩ ⟨hr'⟩ ⟨hM⟩ ⟨?_⟩
            intro q hq
            have e1 : mag a = m := by
              unfold mag
              rw [if_neg h5]
              exact hm
            have e2 : plc a = f - 1 := by
              unfold plc
              rw [if_neg h5, hf]
            rw [e1, e2] at hread
            exact sqrt_pos hread (by omega) (by omega) 0 (by omega) (by omega) E (by omega) r hr' M (by rw [Nat.pow_zero, Nat.mul_one]; exact hM) (by omega) (by omega) q hq
/-- The lesser, or the greater. -/
def pk (least : Bool) (a b : Nat) : Nat :=
  if 9218868437227405312 < rg a then (if 9218868437227405312 < rg b then 9221120237041090560 else b)
  else if 9218868437227405312 < rg b then a
  else if least == decide (ord a < ord b) then a else b
theorem signbit_calls {a : Nat} (ha : a < 18446744073709551616) (w : World) : Calls Try.prog 31 #[.float .f64 a] w fun e w' => e = .returned (.bool (decide (9223372036854775808 ≤ a))) ∧ w' = w := by
  have hb := RealFl.bits a w
  have e : decide (wrap64 (a : Int) < 0) = decide (9223372036854775808 ≤ a) := decide_eq_decide.2 (by unfold wrap64; omega)
  have E := Aside0.mk e
  clear e ha
  go_enter Try.func31, Try.ntmps31
  go_wp2
  go_ret
  exact ⟨congrArg Ending.returned (congrArg Value.bool E.out), rfl⟩
theorem isnanp_calls (a : Nat) (w : World) : Calls Try.prog 29 #[.int .u64 a] w fun e w' => e = .returned (.bool (decide (9218868437227405312 < rg a))) ∧ w' = w := by
  by_cases h0 : 9218868437227405312 < rg a
  · have t : (FloatKind.f64.format.order a a != some .eq) = true := by
      show (Ieee.double.order a a != some .eq) = true
      rw [order_nan (.inl h0)]
      rfl
    rw [decide_eq_true h0]
    clear h0
    go_enter Try.func29, Try.ntmps29
    go_wp2_with fail
    refine (float_calls a _).mono ?_
    rintro e w1 ⟨rfl, rfl⟩
    go_wp2_with fail
    refine (float_calls a _).mono ?_
    rintro e w1 ⟨rfl, rfl⟩
    go_wp2_with fail
    go_ret
    exact ⟨rfl, rfl⟩
  · have t : (FloatKind.f64.format.order a a != some .eq) = false := by
      show (Ieee.double.order a a != some .eq) = false
      rw [order_eq (by omega) (by omega)]
      simp
    rw [decide_eq_false h0]
    clear h0
    go_enter Try.func29, Try.ntmps29
    go_wp2_with fail
    refine (float_calls a _).mono ?_
    rintro e w1 ⟨rfl, rfl⟩
    go_wp2_with fail
    refine (float_calls a _).mono ?_
    rintro e w1 ⟨rfl, rfl⟩
    go_wp2_with fail
    go_ret
    exact ⟨rfl, rfl⟩
theorem less_plain {a b : Nat} (ha : a < 18446744073709551616) (hb : b < 18446744073709551616) : (ord a < ord b) ↔ (key a < key b ∨ (key a = key b ∧ 9223372036854775808 ≤ a ∧ ¬ 9223372036854775808 ≤ b)) := by
  rw [key_lt_iff ha hb, key_eq_iff ha hb]
  unfold ord rg
  constructor
  · intro h
    by_cases z : a % 9223372036854775808 = 0 ∧ b % 9223372036854775808 = 0
    · right
      refine ⟨.inr z, ?_⟩
      split at h <;> split at h <;> omega
    · exact .inl ⟨z, h⟩
  · rintro (h | ⟨h, h1, h2⟩)
    · exact h.2
    · rw [if_pos h1, if_neg h2]
      omega
set_option maxHeartbeats 1600000 in
theorem lessp_calls {a b : Nat} (ha : a < 18446744073709551616) (hb : b < 18446744073709551616) (na : rg a ≤ 9218868437227405312) (nb : rg b ≤ 9218868437227405312) (w : World) :
    Calls Try.prog 30 #[.int .u64 a, .int .u64 b] w fun e w' => e = .returned (.bool (decide (ord a < ord b))) ∧ w' = w := by
  have HL := Aside0.mk (less_plain ha hb)
  have HA := Aside0.mk ha
  have HB := Aside0.mk hb
  have HO := Aside0.mk (order_eq na nb)
  clear ha hb na nb
  by_cases h1 : key a < key b
  · have t1 : (FloatKind.f64.format.order a b == some .lt) = true := by
      show (Ieee.double.order a b == some .lt) = true
      rw [HO.out, Int.compare_eq_lt.2 h1]
      rfl
    rw [decide_eq_true (HL.out.2 (.inl h1))]
    clear h1
    go_enter Try.func30, Try.ntmps30
    go_wp2_with fail
    refine (float_calls a _).mono ?_
    rintro e w1 ⟨rfl, rfl⟩
    go_wp2_with fail
    refine (float_calls b _).mono ?_
    rintro e w1 ⟨rfl, rfl⟩
    go_wp2_with fail
    go_ret
    exact ⟨rfl, rfl⟩
  · have t1 : (FloatKind.f64.format.order a b == some .lt) = false := by
      show (Ieee.double.order a b == some .lt) = false
      rw [HO.out]
      refine beq_eq_false_iff_ne.2 fun h => h1 (Int.compare_eq_lt.1 (Option.some.inj h))
    by_cases h2 : key a = key b
    · have t2 : (FloatKind.f64.format.order a b == some .eq) = true := by
        show (Ieee.double.order a b == some .eq) = true
        rw [HO.out, h2]
        simp
      by_cases h3 : 9223372036854775808 ≤ a
      · have e : decide (ord a < ord b) = !decide (9223372036854775808 ≤ b) := by
          by_cases h4 : 9223372036854775808 ≤ b
          · rw [decide_eq_true h4]
            refine decide_eq_false fun h => ?_
            rcases HL.out.1 h with h5 | h5
            · exact h1 h5
            · exact h5.2.2 h4
          · rw [decide_eq_false h4]
            exact decide_eq_true (HL.out.2 (.inr ⟨h2, h3, h4⟩))
        rw [e]
        have H3 := Aside0.mk h3
        clear h1 h2 h3 e
        go_enter Try.func30, Try.ntmps30
        go_wp2_with fail
        refine (float_calls a _).mono ?_
        rintro e w1 ⟨rfl, rfl⟩
        go_wp2_with fail
        refine (float_calls b _).mono ?_
        rintro e w1 ⟨rfl, rfl⟩
        go_wp2_with fail
        refine (signbit_calls HA.out _).mono ?_
        rintro e w1 ⟨rfl, rfl⟩
        rw [decide_eq_true H3.out]
        go_wp2_with fail
        refine (signbit_calls HB.out _).mono ?_
        rintro e w1 ⟨rfl, rfl⟩
        go_wp2_with fail
        go_ret
        exact ⟨rfl, rfl⟩
      · have e : decide (ord a < ord b) = false := by
          refine decide_eq_false fun h => ?_
          rcases HL.out.1 h with h5 | h5
          · exact h1 h5
          · exact h3 h5.2.1
        rw [e]
        have H3 := Aside0.mk h3
        clear h1 h2 h3 e
        go_enter Try.func30, Try.ntmps30
        go_wp2_with fail
        refine (float_calls a _).mono ?_
        rintro e w1 ⟨rfl, rfl⟩
        go_wp2_with fail
        refine (float_calls b _).mono ?_
        rintro e w1 ⟨rfl, rfl⟩
        go_wp2_with fail
        refine (signbit_calls HA.out _).mono ?_
        rintro e w1 ⟨rfl, rfl⟩
        rw [decide_eq_false H3.out]
        go_wp2_with fail
        go_ret
        exact ⟨rfl, rfl⟩
    · have t2 : (FloatKind.f64.format.order a b == some .eq) = false := by
        show (Ieee.double.order a b == some .eq) = false
        rw [HO.out]
        refine beq_eq_false_iff_ne.2 fun h => h2 (Int.compare_eq_eq.1 (Option.some.inj h))
      have e : decide (ord a < ord b) = false := by
        refine decide_eq_false fun h => ?_
        rcases HL.out.1 h with h5 | h5
        · exact h1 h5
        · exact h2 h5.1
      rw [e]
      clear h1 h2 e
      go_enter Try.func30, Try.ntmps30
      go_wp2_with fail
      refine (float_calls a _).mono ?_
      rintro e w1 ⟨rfl, rfl⟩
      go_wp2_with fail
      refine (float_calls b _).mono ?_
      rintro e w1 ⟨rfl, rfl⟩
      go_wp2_with fail
      go_ret
      exact ⟨rfl, rfl⟩
set_option maxHeartbeats 1600000 in
theorem pick_calls (least : Bool) {a b : Nat} (ha : a < 18446744073709551616) (hb : b < 18446744073709551616) (w : World) :
    Calls Try.prog 26 #[.bool least, .int .u64 a, .int .u64 b] w fun e w' => e = .returned (.int .u64 (pk least a b : Nat)) ∧ w' = w := by
  have HA := Aside0.mk ha
  have HB := Aside0.mk hb
  clear ha hb
  by_cases h1 : 9218868437227405312 < rg a
  · have H1 := Aside0.mk h1
    by_cases h2 : 9218868437227405312 < rg b
    · have H2 := Aside0.mk h2
      have e : pk least a b = 9221120237041090560 := by
        unfold pk
        rw [if_pos h1, if_pos h2]
      rw [e]
      clear e h1 h2
      go_enter Try.func26, Try.ntmps26
      go_wp2_with fail
      refine (isnan_calls HA.out _).mono ?_
      rintro e w1 ⟨rfl, rfl⟩
      rw [decide_eq_true H1.out]
      go_wp2_with fail
      refine (isnan_calls HB.out _).mono ?_
      rintro e w1 ⟨rfl, rfl⟩
      rw [decide_eq_true H2.out]
      go_wp2_with fail
      go_ret
      exact ⟨rfl, rfl⟩
    · have H2 := Aside0.mk h2
      have e : pk least a b = b := by
        unfold pk
        rw [if_pos h1, if_neg h2]
      rw [e]
      clear e h1 h2
      go_enter Try.func26, Try.ntmps26
      go_wp2_with fail
      refine (isnan_calls HA.out _).mono ?_
      rintro e w1 ⟨rfl, rfl⟩
      rw [decide_eq_true H1.out]
      go_wp2_with fail
      refine (isnan_calls HB.out _).mono ?_
      rintro e w1 ⟨rfl, rfl⟩
      rw [decide_eq_false H2.out]
      go_wp2_with fail
      refine (isnan_calls HA.out _).mono ?_
      rintro e w1 ⟨rfl, rfl⟩
      rw [decide_eq_true H1.out]
      go_wp2_with fail
      go_ret
      exact ⟨rfl, rfl⟩
  · have H1 := Aside0.mk h1
    by_cases h2 : 9218868437227405312 < rg b
    · have H2 := Aside0.mk h2
      have e : pk least a b = a := by
        unfold pk
        rw [if_neg h1, if_pos h2]
      rw [e]
      clear e h1 h2
      go_enter Try.func26, Try.ntmps26
      go_wp2_with fail
      refine (isnan_calls HA.out _).mono ?_
      rintro e w1 ⟨rfl, rfl⟩
      rw [decide_eq_false H1.out]
      go_wp2_with fail
      refine (isnan_calls HA.out _).mono ?_
      rintro e w1 ⟨rfl, rfl⟩
      rw [decide_eq_false H1.out]
      go_wp2_with fail
      refine (isnan_calls HB.out _).mono ?_
      rintro e w1 ⟨rfl, rfl⟩
      rw [decide_eq_true H2.out]
      go_wp2_with fail
      go_ret
      exact ⟨rfl, rfl⟩
    · have H2 := Aside0.mk h2
      rcases Bool.eq_false_or_eq_true (least == decide (ord a < ord b)) with hc | hc
      · have e : pk least a b = a := by
          unfold pk
          rw [if_neg h1, if_neg h2, hc]
          rfl
        rw [e]
        clear e h1 h2
        go_enter Try.func26, Try.ntmps26
        go_wp2_with fail
        refine (isnan_calls HA.out _).mono ?_
        rintro e w1 ⟨rfl, rfl⟩
        rw [decide_eq_false H1.out]
        go_wp2_with fail
        refine (isnan_calls HA.out _).mono ?_
        rintro e w1 ⟨rfl, rfl⟩
        rw [decide_eq_false H1.out]
        go_wp2_with fail
        refine (isnan_calls HB.out _).mono ?_
        rintro e w1 ⟨rfl, rfl⟩
        rw [decide_eq_false H2.out]
        go_wp2_with fail
        refine (order_calls HA.out _).mono ?_
        rintro e w1 ⟨rfl, rfl⟩
        go_wp2_with fail
        refine (order_calls HB.out _).mono ?_
        rintro e w1 ⟨rfl, rfl⟩
        go_wp2_with fail
        go_ret
        exact ⟨rfl, rfl⟩
      · have e : pk least a b = b := by
          unfold pk
          rw [if_neg h1, if_neg h2, hc]
          rfl
        rw [e]
        clear e h1 h2
        go_enter Try.func26, Try.ntmps26
        go_wp2_with fail
        refine (isnan_calls HA.out _).mono ?_
        rintro e w1 ⟨rfl, rfl⟩
        rw [decide_eq_false H1.out]
        go_wp2_with fail
        refine (isnan_calls HA.out _).mono ?_
        rintro e w1 ⟨rfl, rfl⟩
        rw [decide_eq_false H1.out]
        go_wp2_with fail
        refine (isnan_calls HB.out _).mono ?_
        rintro e w1 ⟨rfl, rfl⟩
        rw [decide_eq_false H2.out]
        go_wp2_with fail
        refine (order_calls HA.out _).mono ?_
        rintro e w1 ⟨rfl, rfl⟩
        go_wp2_with fail
        refine (order_calls HB.out _).mono ?_
        rintro e w1 ⟨rfl, rfl⟩
        go_wp2_with fail
        go_ret
        exact ⟨rfl, rfl⟩
theorem ord_inj {a b : Nat} (ha : a < 18446744073709551616) (hb : b < 18446744073709551616) (h : ord a = ord b) : a = b := by
  unfold ord rg at h
  split at h <;> split at h <;> omega
/-- The program's way: which one. -/
theorem pk_other {least : Bool} {a b : Nat} (ha : a < 18446744073709551616) (hb : b < 18446744073709551616) (h1 : ¬ 9218868437227405312 < rg a) (h2 : ¬ 9218868437227405312 < rg b) : pk least a b = if (decide (ord b < ord a) != !least) then b else a := by
  unfold pk
  rw [if_neg h1, if_neg h2]
  rcases Int.lt_trichotomy (ord a) (ord b) with c | c | c
  · rw [decide_eq_true c, decide_eq_false (show ¬ ord b < ord a by omega)]
    cases least <;> rfl
  · have := ord_inj ha hb c
    subst this
    split <;> split <;> rfl
  · rw [decide_eq_true c, decide_eq_false (show ¬ ord a < ord b by omega)]
    cases least <;> rfl
set_option maxHeartbeats 1600000 in
theorem extreme_calls (least : Bool) {a b : Nat} (ha : a < 18446744073709551616) (hb : b < 18446744073709551616) (w : World) :
    Calls Try.prog 23 #[.int .u64 a, .int .u64 b, .bool (!least)] w fun e w' => e = .returned (.int .u64 (pk least a b : Nat)) ∧ w' = w := by
  have HA := Aside0.mk ha
  have HB := Aside0.mk hb
  clear ha hb
  by_cases h1 : 9218868437227405312 < rg a
  · have H1 := Aside0.mk h1
    by_cases h2 : 9218868437227405312 < rg b
    · have H2 := Aside0.mk h2
      have e : pk least a b = 9221120237041090560 := by
        unfold pk
        rw [if_pos h1, if_pos h2]
      rw [e]
      clear e h1 h2
      go_enter Try.func23, Try.ntmps23
      go_wp2_with fail
      refine (isnanp_calls a _).mono ?_
      rintro e w1 ⟨rfl, rfl⟩
      rw [decide_eq_true H1.out]
      go_wp2_with fail
      refine (isnanp_calls b _).mono ?_
      rintro e w1 ⟨rfl, rfl⟩
      rw [decide_eq_true H2.out]
      go_wp2_with fail
      go_ret
      exact ⟨rfl, rfl⟩
    · have H2 := Aside0.mk h2
      have e : pk least a b = b := by
        unfold pk
        rw [if_pos h1, if_neg h2]
      rw [e]
      clear e h1 h2
      go_enter Try.func23, Try.ntmps23
      go_wp2_with fail
      refine (isnanp_calls a _).mono ?_
      rintro e w1 ⟨rfl, rfl⟩
      rw [decide_eq_true H1.out]
      go_wp2_with fail
      refine (isnanp_calls b _).mono ?_
      rintro e w1 ⟨rfl, rfl⟩
      rw [decide_eq_false H2.out]
      go_wp2_with fail
      refine (isnanp_calls a _).mono ?_
      rintro e w1 ⟨rfl, rfl⟩
      rw [decide_eq_true H1.out]
      go_wp2_with fail
      go_ret
      exact ⟨rfl, rfl⟩
  · have H1 := Aside0.mk h1
    by_cases h2 : 9218868437227405312 < rg b
    · have H2 := Aside0.mk h2
      have e : pk least a b = a := by
        unfold pk
        rw [if_neg h1, if_pos h2]
      rw [e]
      clear e h1 h2
      go_enter Try.func23, Try.ntmps23
      go_wp2_with fail
      refine (isnanp_calls a _).mono ?_
      rintro e w1 ⟨rfl, rfl⟩
      rw [decide_eq_false H1.out]
      go_wp2_with fail
      refine (isnanp_calls a _).mono ?_
      rintro e w1 ⟨rfl, rfl⟩
      rw [decide_eq_false H1.out]
      go_wp2_with fail
      refine (isnanp_calls b _).mono ?_
      rintro e w1 ⟨rfl, rfl⟩
      rw [decide_eq_true H2.out]
      go_wp2_with fail
      go_ret
      exact ⟨rfl, rfl⟩
    · have H2 := Aside0.mk h2
      rw [pk_other HA.out HB.out h1 h2]
      rcases Bool.eq_false_or_eq_true least with rfl | rfl <;> rcases Bool.eq_false_or_eq_true (decide (ord b < ord a)) with hc | hc
      · have e : (if (true != !true) then b else a) = b := rfl
        rw [hc, e]
        clear e h1 h2
        go_enter Try.func23, Try.ntmps23
        go_wp2_with fail
        refine (isnanp_calls a _).mono ?_
        rintro e w1 ⟨rfl, rfl⟩
        rw [decide_eq_false H1.out]
        go_wp2_with fail
        refine (isnanp_calls a _).mono ?_
        rintro e w1 ⟨rfl, rfl⟩
        rw [decide_eq_false H1.out]
        go_wp2_with fail
        refine (isnanp_calls b _).mono ?_
        rintro e w1 ⟨rfl, rfl⟩
        rw [decide_eq_false H2.out]
        go_wp2_with fail
        refine (lessp_calls HB.out HA.out (by have := H2.out; omega) (by have := H1.out; omega) _).mono ?_
        rintro e w1 ⟨rfl, rfl⟩
        rw [hc]
        go_wp2_with fail
        go_ret
        exact ⟨rfl, rfl⟩
      · have e : (if (false != !true) then b else a) = a := rfl
        rw [hc, e]
        clear e h1 h2
        go_enter Try.func23, Try.ntmps23
        go_wp2_with fail
        refine (isnanp_calls a _).mono ?_
        rintro e w1 ⟨rfl, rfl⟩
        rw [decide_eq_false H1.out]
        go_wp2_with fail
        refine (isnanp_calls a _).mono ?_
        rintro e w1 ⟨rfl, rfl⟩
        rw [decide_eq_false H1.out]
        go_wp2_with fail
        refine (isnanp_calls b _).mono ?_
        rintro e w1 ⟨rfl, rfl⟩
        rw [decide_eq_false H2.out]
        go_wp2_with fail
        refine (lessp_calls HB.out HA.out (by have := H2.out; omega) (by have := H1.out; omega) _).mono ?_
        rintro e w1 ⟨rfl, rfl⟩
        rw [hc]
        go_wp2_with fail
        go_ret
        exact ⟨rfl, rfl⟩
      · have e : (if (true != !false) then b else a) = a := rfl
        rw [hc, e]
        clear e h1 h2
        go_enter Try.func23, Try.ntmps23
        go_wp2_with fail
        refine (isnanp_calls a _).mono ?_
        rintro e w1 ⟨rfl, rfl⟩
        rw [decide_eq_false H1.out]
        go_wp2_with fail
        refine (isnanp_calls a _).mono ?_
        rintro e w1 ⟨rfl, rfl⟩
        rw [decide_eq_false H1.out]
        go_wp2_with fail
        refine (isnanp_calls b _).mono ?_
        rintro e w1 ⟨rfl, rfl⟩
        rw [decide_eq_false H2.out]
        go_wp2_with fail
        refine (lessp_calls HB.out HA.out (by have := H2.out; omega) (by have := H1.out; omega) _).mono ?_
        rintro e w1 ⟨rfl, rfl⟩
        rw [hc]
        go_wp2_with fail
        go_ret
        exact ⟨rfl, rfl⟩
      · have e : (if (false != !false) then b else a) = b := rfl
        rw [hc, e]
        clear e h1 h2
        go_enter Try.func23, Try.ntmps23
        go_wp2_with fail
        refine (isnanp_calls a _).mono ?_
        rintro e w1 ⟨rfl, rfl⟩
        rw [decide_eq_false H1.out]
        go_wp2_with fail
        refine (isnanp_calls a _).mono ?_
        rintro e w1 ⟨rfl, rfl⟩
        rw [decide_eq_false H1.out]
        go_wp2_with fail
        refine (isnanp_calls b _).mono ?_
        rintro e w1 ⟨rfl, rfl⟩
        rw [decide_eq_false H2.out]
        go_wp2_with fail
        refine (lessp_calls HB.out HA.out (by have := H2.out; omega) (by have := H1.out; omega) _).mono ?_
        rintro e w1 ⟨rfl, rfl⟩
        rw [hc]
        go_wp2_with fail
        go_ret
        exact ⟨rfl, rfl⟩
end Go.Proofs.Ytjaeligjcgjamaa.RealPick
