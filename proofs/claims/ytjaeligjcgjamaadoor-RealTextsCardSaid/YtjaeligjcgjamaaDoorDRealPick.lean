/- The root whole; the least and the greatest of two. -/
import Derived.Test.YtjaeligjcgjamaaDoorDRealRootW
namespace Go.Proofs.YtjaeligjcgjamaaDoor.DRealPick
open Go.RowKit Go.Proofs.YtjaeligjcgjamaaDoor.PRealOrder Go.Proofs.YtjaeligjcgjamaaDoorW.PrintWords Go.Proofs.YtjaeligjcgjamaaDoorW.PrintLast Go.Proofs.YtjaeligjcgjamaaDoor.Aid Go.Proofs.YtjaeligjcgjamaaDoor.FloatPlain Go.Proofs.YtjaeligjcgjamaaDoor.DRealPure Go.Proofs.YtjaeligjcgjamaaDoor.DRealCmp Go.Proofs.YtjaeligjcgjamaaDoor.DRealFl Go.Proofs.YtjaeligjcgjamaaDoor.RealRoot Go.Proofs.YtjaeligjcgjamaaDoor.DRealAr Go.Proofs.YtjaeligjcgjamaaDoor.DRealRootW
set_option linter.unusedVariables false
set_option linter.unusedSimpArgs false
set_option maxRecDepth 100000
theorem sqrt_nan {a : Nat} (h : 9218868437227405312 < rg a) : res (Ieee.double.sqrt a) = 9221120237041090560 := by
  obtain ⟨f, hf⟩ := read_nan h
  have hs : Ieee.double.sqrt a = ((Ieee.double.read a).root 54).map Ieee.double.write := rfl
  rw [hs, hf]
  rfl
theorem sqrt_zero {a : Nat} (ha : a < 18446744073709551616) (h : rg a = 0) : res (Ieee.double.sqrt a) = a := by
  have hs : Ieee.double.sqrt a = ((Ieee.double.read a).root 54).map Ieee.double.write := rfl
  rw [hs, read_num (by omega), h]
  by_cases c : 9223372036854775808 ≤ a
  · rw [sg_eq ha, decide_eq_true c]
    have e := rg_hi c ha
    have e2 : a = 9223372036854775808 := by omega
    rw [e2]
    decide
  · rw [sg_eq ha, decide_eq_false c]
    have e := rg_lo (show a < 9223372036854775808 by omega)
    have e2 : a = 0 := by omega
    rw [e2]
    decide
theorem sqrt_inf : res (Ieee.double.sqrt 9218868437227405312) = 9218868437227405312 := by decide
theorem sqrt_neg {a : Nat} (ha : a < 18446744073709551616) (h : rg a ≤ 9218868437227405312) (h0 : rg a ≠ 0) (c : 9223372036854775808 ≤ a) : res (Ieee.double.sqrt a) = 9221120237041090560 := by
  have hs : Ieee.double.sqrt a = ((Ieee.double.read a).root 54).map Ieee.double.write := rfl
  have hg : sg a = true := sg_hi c ha
  by_cases h1 : rg a < 9218868437227405312
  · rw [hs, read_num h1, hg]
    have h2 : mag (rg a) ≠ 0 := by
      unfold mag
      split <;> omega
    have h3 : ∀ i, Ieee.Datum.root 54 (.number true (mag (rg a)) i) = none := fun i => by
      unfold Ieee.Datum.root
      simp only []
      rw [if_neg h2]
      simp
    rw [h3]
    rfl
  · rw [hs, read_inf (by omega), hg]
    rfl
/-- The lesser, or the greater. -/
def pk (least : Bool) (a b : Nat) : Nat :=
  if 9218868437227405312 < rg a then (if 9218868437227405312 < rg b then 9221120237041090560 else b)
  else if 9218868437227405312 < rg b then a
  else if least == decide (ord a < ord b) then a else b
theorem signbit_calls {a : Nat} (ha : a < 18446744073709551616) (w : World) : Calls Tryd.prog 71 #[.float .f64 a] w fun e w' => e = .returned (.bool (decide (9223372036854775808 ≤ a))) ∧ w' = w := by
  have hb := DRealFl.bits a w
  have e : decide (wrap64 (a : Int) < 0) = decide (9223372036854775808 ≤ a) := decide_eq_decide.2 (by unfold wrap64; omega)
  have E := Aside0.mk e
  clear e ha
  go_enter Tryd.func71, Tryd.ntmps71
  go_wp2
  go_ret
  exact ⟨congrArg Ending.returned (congrArg Value.bool E.out), rfl⟩
theorem isnanp_calls (a : Nat) (w : World) : Calls Tryd.prog 24 #[.int .u64 a] w fun e w' => e = .returned (.bool (decide (9218868437227405312 < rg a))) ∧ w' = w := by
  by_cases h0 : 9218868437227405312 < rg a
  · have t : (FloatKind.f64.format.order a a != some .eq) = true := by
      show (Ieee.double.order a a != some .eq) = true
      rw [order_nan (.inl h0)]
      rfl
    rw [decide_eq_true h0]
    clear h0
    go_enter Tryd.func24, Tryd.ntmps24
    go_wp2_with fail
    refine (float_calls a _).mono ?_
    rintro e w1 ⟨rfl, rfl⟩
    go_wp2_with fail
    refine (float_calls a _).mono ?_
    rintro e w1 ⟨rfl, rfl⟩
    go_wp2_with fail
    go_ret
    exact ⟨rfl, rfl⟩
  · have t : (FloatKind.f64.format.order a a != some .eq) = false := by
      show (Ieee.double.order a a != some .eq) = false
      rw [order_eq (by omega) (by omega)]
      simp
    rw [decide_eq_false h0]
    clear h0
    go_enter Tryd.func24, Tryd.ntmps24
    go_wp2_with fail
    refine (float_calls a _).mono ?_
    rintro e w1 ⟨rfl, rfl⟩
    go_wp2_with fail
    refine (float_calls a _).mono ?_
    rintro e w1 ⟨rfl, rfl⟩
    go_wp2_with fail
    go_ret
    exact ⟨rfl, rfl⟩
theorem less_plain {a b : Nat} (ha : a < 18446744073709551616) (hb : b < 18446744073709551616) : (ord a < ord b) ↔ (key a < key b ∨ (key a = key b ∧ 9223372036854775808 ≤ a ∧ ¬ 9223372036854775808 ≤ b)) := by
  rw [key_lt_iff ha hb, key_eq_iff ha hb]
  unfold ord rg
  constructor
  · intro h
    by_cases z : a % 9223372036854775808 = 0 ∧ b % 9223372036854775808 = 0
    · right
      refine ⟨.inr z, ?_⟩
      split at h <;> split at h <;> omega
    · exact .inl ⟨z, h⟩
  · rintro (h | ⟨h, h1, h2⟩)
    · exact h.2
    · rw [if_pos h1, if_neg h2]
      omega
set_option maxHeartbeats 1600000 in
theorem lessp_calls {a b : Nat} (ha : a < 18446744073709551616) (hb : b < 18446744073709551616) (na : rg a ≤ 9218868437227405312) (nb : rg b ≤ 9218868437227405312) (w : World) :
    Calls Tryd.prog 53 #[.int .u64 a, .int .u64 b] w fun e w' => e = .returned (.bool (decide (ord a < ord b))) ∧ w' = w := by
  have HL := Aside0.mk (less_plain ha hb)
  have HA := Aside0.mk ha
  have HB := Aside0.mk hb
  have HO := Aside0.mk (order_eq na nb)
  clear ha hb na nb
  by_cases h1 : key a < key b
  · have t1 : (FloatKind.f64.format.order a b == some .lt) = true := by
      show (Ieee.double.order a b == some .lt) = true
      rw [HO.out, Int.compare_eq_lt.2 h1]
      rfl
    rw [decide_eq_true (HL.out.2 (.inl h1))]
    clear h1
    go_enter Tryd.func53, Tryd.ntmps53
    go_wp2_with fail
    refine (float_calls a _).mono ?_
    rintro e w1 ⟨rfl, rfl⟩
    go_wp2_with fail
    refine (float_calls b _).mono ?_
    rintro e w1 ⟨rfl, rfl⟩
    go_wp2_with fail
    go_ret
    exact ⟨rfl, rfl⟩
  · have t1 : (FloatKind.f64.format.order a b == some .lt) = false := by
      show (Ieee.double.order a b == some .lt) = false
      rw [HO.out]
      refine beq_eq_false_iff_ne.2 fun h => h1 (Int.compare_eq_lt.1 (Option.some.inj h))
    by_cases h2 : key a = key b
    · have t2 : (FloatKind.f64.format.order a b == some .eq) = true := by
        show (Ieee.double.order a b == some .eq) = true
        rw [HO.out, h2]
        simp
      by_cases h3 : 9223372036854775808 ≤ a
      · have e : decide (ord a < ord b) = !decide (9223372036854775808 ≤ b) := by
          by_cases h4 : 9223372036854775808 ≤ b
          · rw [decide_eq_true h4]
            refine decide_eq_false fun h => ?_
            rcases HL.out.1 h with h5 | h5
            · exact h1 h5
            · exact h5.2.2 h4
          · rw [decide_eq_false h4]
            exact decide_eq_true (HL.out.2 (.inr ⟨h2, h3, h4⟩))
        rw [e]
        have H3 := Aside0.mk h3
        clear h1 h2 h3 e
        go_enter Tryd.func53, Tryd.ntmps53
        go_wp2_with fail
        refine (float_calls a _).mono ?_
        rintro e w1 ⟨rfl, rfl⟩
        go_wp2_with fail
        refine (float_calls b _).mono ?_
        rintro e w1 ⟨rfl, rfl⟩
        go_wp2_with fail
        refine (signbit_calls HA.out _).mono ?_
        rintro e w1 ⟨rfl, rfl⟩
        rw [decide_eq_true H3.out]
        go_wp2_with fail
        refine (signbit_calls HB.out _).mono ?_
        rintro e w1 ⟨rfl, rfl⟩
        go_wp2_with fail
        go_ret
        exact ⟨rfl, rfl⟩
      · have e : decide (ord a < ord b) = false := by
          refine decide_eq_false fun h => ?_
          rcases HL.out.1 h with h5 | h5
          · exact h1 h5
          · exact h3 h5.2.1
        rw [e]
        have H3 := Aside0.mk h3
        clear h1 h2 h3 e
        go_enter Tryd.func53, Tryd.ntmps53
        go_wp2_with fail
        refine (float_calls a _).mono ?_
        rintro e w1 ⟨rfl, rfl⟩
        go_wp2_with fail
        refine (float_calls b _).mono ?_
        rintro e w1 ⟨rfl, rfl⟩
        go_wp2_with fail
        refine (signbit_calls HA.out _).mono ?_
        rintro e w1 ⟨rfl, rfl⟩
        rw [decide_eq_false H3.out]
        go_wp2_with fail
        go_ret
        exact ⟨rfl, rfl⟩
    · have t2 : (FloatKind.f64.format.order a b == some .eq) = false := by
        show (Ieee.double.order a b == some .eq) = false
        rw [HO.out]
        refine beq_eq_false_iff_ne.2 fun h => h2 (Int.compare_eq_eq.1 (Option.some.inj h))
      have e : decide (ord a < ord b) = false := by
        refine decide_eq_false fun h => ?_
        rcases HL.out.1 h with h5 | h5
        · exact h1 h5
        · exact h2 h5.1
      rw [e]
      clear h1 h2 e
      go_enter Tryd.func53, Tryd.ntmps53
      go_wp2_with fail
      refine (float_calls a _).mono ?_
      rintro e w1 ⟨rfl, rfl⟩
      go_wp2_with fail
      refine (float_calls b _).mono ?_
      rintro e w1 ⟨rfl, rfl⟩
      go_wp2_with fail
      go_ret
      exact ⟨rfl, rfl⟩
theorem ord_inj {a b : Nat} (ha : a < 18446744073709551616) (hb : b < 18446744073709551616) (h : ord a = ord b) : a = b := by
  unfold ord rg at h
  split at h <;> split at h <;> omega
/-- The program's way: which one. -/
theorem pk_other {least : Bool} {a b : Nat} (ha : a < 18446744073709551616) (hb : b < 18446744073709551616) (h1 : ¬ 9218868437227405312 < rg a) (h2 : ¬ 9218868437227405312 < rg b) : pk least a b = if (decide (ord b < ord a) != !least) then b else a := by
  unfold pk
  rw [if_neg h1, if_neg h2]
  rcases Int.lt_trichotomy (ord a) (ord b) with c | c | c
  · rw [decide_eq_true c, decide_eq_false (show ¬ ord b < ord a by omega)]
    cases least <;> rfl
  · have := ord_inj ha hb c
    subst this
    split <;> split <;> rfl
  · rw [decide_eq_true c, decide_eq_false (show ¬ ord a < ord b by omega)]
    cases least <;> rfl
set_option maxHeartbeats 1600000 in
theorem extreme_calls (least : Bool) {a b : Nat} (ha : a < 18446744073709551616) (hb : b < 18446744073709551616) (w : World) :
    Calls Tryd.prog 33 #[.int .u64 a, .int .u64 b, .bool (!least)] w fun e w' => e = .returned (.int .u64 (pk least a b : Nat)) ∧ w' = w := by
  have HA := Aside0.mk ha
  have HB := Aside0.mk hb
  clear ha hb
  by_cases h1 : 9218868437227405312 < rg a
  · have H1 := Aside0.mk h1
    by_cases h2 : 9218868437227405312 < rg b
    · have H2 := Aside0.mk h2
      have e : pk least a b = 9221120237041090560 := by
        unfold pk
        rw [if_pos h1, if_pos h2]
      rw [e]
      clear e h1 h2
      go_enter Tryd.func33, Tryd.ntmps33
      go_wp2_with fail
      refine (isnanp_calls a _).mono ?_
      rintro e w1 ⟨rfl, rfl⟩
      rw [decide_eq_true H1.out]
      go_wp2_with fail
      refine (isnanp_calls b _).mono ?_
      rintro e w1 ⟨rfl, rfl⟩
      rw [decide_eq_true H2.out]
      go_wp2_with fail
      go_ret
      exact ⟨rfl, rfl⟩
    · have H2 := Aside0.mk h2
      have e : pk least a b = b := by
        unfold pk
        rw [if_pos h1, if_neg h2]
      rw [e]
      clear e h1 h2
      go_enter Tryd.func33, Tryd.ntmps33
      go_wp2_with fail
      refine (isnanp_calls a _).mono ?_
      rintro e w1 ⟨rfl, rfl⟩
      rw [decide_eq_true H1.out]
      go_wp2_with fail
      refine (isnanp_calls b _).mono ?_
      rintro e w1 ⟨rfl, rfl⟩
      rw [decide_eq_false H2.out]
      go_wp2_with fail
      refine (isnanp_calls a _).mono ?_
      rintro e w1 ⟨rfl, rfl⟩
      rw [decide_eq_true H1.out]
      go_wp2_with fail
      go_ret
      exact ⟨rfl, rfl⟩
  · have H1 := Aside0.mk h1
    by_cases h2 : 9218868437227405312 < rg b
    · have H2 := Aside0.mk h2
      have e : pk least a b = a := by
        unfold pk
        rw [if_neg h1, if_pos h2]
      rw [e]
      clear e h1 h2
      go_enter Tryd.func33, Tryd.ntmps33
      go_wp2_with fail
      refine (isnanp_calls a _).mono ?_
      rintro e w1 ⟨rfl, rfl⟩
      rw [decide_eq_false H1.out]
      go_wp2_with fail
      refine (isnanp_calls a _).mono ?_
      rintro e w1 ⟨rfl, rfl⟩
      rw [decide_eq_false H1.out]
      go_wp2_with fail
      refine (isnanp_calls b _).mono ?_
      rintro e w1 ⟨rfl, rfl⟩
      rw [decide_eq_true H2.out]
      go_wp2_with fail
      go_ret
      exact ⟨rfl, rfl⟩
    · have H2 := Aside0.mk h2
      rw [pk_other HA.out HB.out h1 h2]
      rcases Bool.eq_false_or_eq_true least with rfl | rfl <;> rcases Bool.eq_false_or_eq_true (decide (ord b < ord a)) with hc | hc
      · have e : (if (true != !true) then b else a) = b := rfl
        rw [hc, e]
        clear e h1 h2
        go_enter Tryd.func33, Tryd.ntmps33
        go_wp2_with fail
        refine (isnanp_calls a _).mono ?_
        rintro e w1 ⟨rfl, rfl⟩
        rw [decide_eq_false H1.out]
        go_wp2_with fail
        refine (isnanp_calls a _).mono ?_
        rintro e w1 ⟨rfl, rfl⟩
        rw [decide_eq_false H1.out]
        go_wp2_with fail
        refine (isnanp_calls b _).mono ?_
        rintro e w1 ⟨rfl, rfl⟩
        rw [decide_eq_false H2.out]
        go_wp2_with fail
        refine (lessp_calls HB.out HA.out (by have := H2.out; omega) (by have := H1.out; omega) _).mono ?_
        rintro e w1 ⟨rfl, rfl⟩
        rw [hc]
        go_wp2_with fail
        go_ret
        exact ⟨rfl, rfl⟩
      · have e : (if (false != !true) then b else a) = a := rfl
        rw [hc, e]
        clear e h1 h2
        go_enter Tryd.func33, Tryd.ntmps33
        go_wp2_with fail
        refine (isnanp_calls a _).mono ?_
        rintro e w1 ⟨rfl, rfl⟩
        rw [decide_eq_false H1.out]
        go_wp2_with fail
        refine (isnanp_calls a _).mono ?_
        rintro e w1 ⟨rfl, rfl⟩
        rw [decide_eq_false H1.out]
        go_wp2_with fail
        refine (isnanp_calls b _).mono ?_
        rintro e w1 ⟨rfl, rfl⟩
        rw [decide_eq_false H2.out]
        go_wp2_with fail
        refine (lessp_calls HB.out HA.out (by have := H2.out; omega) (by have := H1.out; omega) _).mono ?_
        rintro e w1 ⟨rfl, rfl⟩
        rw [hc]
        go_wp2_with fail
        go_ret
        exact ⟨rfl, rfl⟩
      · have e : (if (true != !false) then b else a) = a := rfl
        rw [hc, e]
        clear e h1 h2
        go_enter Tryd.func33, Tryd.ntmps33
        go_wp2_with fail
        refine (isnanp_calls a _).mono ?_
        rintro e w1 ⟨rfl, rfl⟩
        rw [decide_eq_false H1.out]
        go_wp2_with fail
        refine (isnanp_calls a _).mono ?_
        rintro e w1 ⟨rfl, rfl⟩
        rw [decide_eq_false H1.out]
        go_wp2_with fail
        refine (isnanp_calls b _).mono ?_
        rintro e w1 ⟨rfl, rfl⟩
        rw [decide_eq_false H2.out]
        go_wp2_with fail
        refine (lessp_calls HB.out HA.out (by have := H2.out; omega) (by have := H1.out; omega) _).mono ?_
        rintro e w1 ⟨rfl, rfl⟩
        rw [hc]
        go_wp2_with fail
        go_ret
        exact ⟨rfl, rfl⟩
      · have e : (if (false != !false) then b else a) = b := rfl
        rw [hc, e]
        clear e h1 h2
        go_enter Tryd.func33, Tryd.ntmps33
        go_wp2_with fail
        refine (isnanp_calls a _).mono ?_
        rintro e w1 ⟨rfl, rfl⟩
        rw [decide_eq_false H1.out]
        go_wp2_with fail
        refine (isnanp_calls a _).mono ?_
        rintro e w1 ⟨rfl, rfl⟩
        rw [decide_eq_false H1.out]
        go_wp2_with fail
        refine (isnanp_calls b _).mono ?_
        rintro e w1 ⟨rfl, rfl⟩
        rw [decide_eq_false H2.out]
        go_wp2_with fail
        refine (lessp_calls HB.out HA.out (by have := H2.out; omega) (by have := H1.out; omega) _).mono ?_
        rintro e w1 ⟨rfl, rfl⟩
        rw [hc]
        go_wp2_with fail
        go_ret
        exact ⟨rfl, rfl⟩
end Go.Proofs.YtjaeligjcgjamaaDoor.DRealPick
