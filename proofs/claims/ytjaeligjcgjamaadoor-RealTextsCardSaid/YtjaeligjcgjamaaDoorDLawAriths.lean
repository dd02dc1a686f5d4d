/- Every sum, product, quotient, root, least and greatest one: the walk of the law. -/
import Derived.Test.YtjaeligjcgjamaaDoorDRealPick
namespace Go.Proofs.YtjaeligjcgjamaaDoor.DLawAriths
open Go.RowKit Go.Proofs.YtjaeligjcgjamaaDoor.PRealOrder Go.Proofs.YtjaeligjcgjamaaDoorW.PrintWords Go.Proofs.YtjaeligjcgjamaaDoorW.PrintLast Go.Proofs.YtjaeligjcgjamaaDoor.Aid Go.Proofs.YtjaeligjcgjamaaDoor.FloatPlain Go.Proofs.YtjaeligjcgjamaaDoor.DRealPure Go.Proofs.YtjaeligjcgjamaaDoor.DRealCmp Go.Proofs.YtjaeligjcgjamaaDoor.DRealFl Go.Proofs.YtjaeligjcgjamaaDoor.RealRoot Go.Proofs.YtjaeligjcgjamaaDoor.DRealAr Go.Proofs.YtjaeligjcgjamaaDoor.DRealRootW Go.Proofs.YtjaeligjcgjamaaDoor.DRealPick
set_option linter.unusedVariables false
set_option linter.unusedSimpArgs false
set_option maxRecDepth 100000
def arR (op : Int) (a b : Nat) : Int :=
  if op = 46 then (res (fop .add a b) : Nat) else if op = 47 then (res (fop .sub a b) : Nat) else if op = 48 then (res (fop .mul a b) : Nat) else if op = 49 then (res (fop .quo a b) : Nat)
  else if op = 50 then (res (Ieee.double.sqrt a) : Nat) else if op = 51 then (pk true a b : Nat) else if op = 52 then (pk false a b : Nat)
  else if op = 53 then Go.bits .xor .u64 a 9223372036854775808 else if op = 54 then Go.bits .andNot .u64 a 9223372036854775808 else 0
def arE (op : Int) : Int := if 46 ≤ op ∧ op ≤ 54 then 0 else 5
def ArPost (v e : Int) (w : World) (x : Ending) (w' : World) : Prop := x = .returned (.tuple #[.int .u64 v, .int .i64 e]) ∧ ∃ n, w' = w.drewN n
theorem sqrtp_calls (a : Nat) (w : World) : Calls Tryd.prog 32 #[.float .f64 a] w fun e w' => ∃ r n, e = .returned (.float .f64 r) ∧ canon r = res (Ieee.double.sqrt a) ∧ w' = w.drewN n := by
  obtain ⟨r, n, hrun, hc, hl⟩ := float_sqrt a w
  have HC := Aside0.mk hc
  clear hc hl
  go_enter Tryd.func32, Tryd.ntmps32
  go_wp2
  go_ret
  exact ⟨r, n, rfl, HC.out, rfl⟩
set_option maxHeartbeats 1600000 in
theorem prog46 {a b : Nat} (ha : a < 18446744073709551616) (hb : b < 18446744073709551616) (w : World) : Calls Tryd.prog 16 #[.int .i64 46, .int .u64 a, .int .u64 b] w (ArPost (res (fop .add a b) : Nat) 0 w) := by
  have HA := Aside0.mk ha
  have HB := Aside0.mk hb
  clear ha hb
  obtain ⟨r, n, hrun, hc, hl⟩ := float_op .add (by simp) a b w
  have HC := Aside0.mk hc
  have HL := Aside0.mk hl
  clear hc hl
  go_enter Tryd.func16, Tryd.ntmps16
  go_wp2_with fail
  refine (float_calls a _).mono ?_
  rintro e w1 ⟨rfl, rfl⟩
  go_wp2_with fail
  refine (float_calls b _).mono ?_
  rintro e w1 ⟨rfl, rfl⟩
  go_wp2_with fail
  refine (bits_calls _).mono ?_
  rintro e w1 ⟨rfl, rfl⟩
  rw [HC.out]
  go_wp2_with fail
  go_ret2
  exact ⟨rfl, n, rfl⟩
set_option maxHeartbeats 1600000 in
theorem prog47 {a b : Nat} (ha : a < 18446744073709551616) (hb : b < 18446744073709551616) (w : World) : Calls Tryd.prog 16 #[.int .i64 47, .int .u64 a, .int .u64 b] w (ArPost (res (fop .sub a b) : Nat) 0 w) := by
  have HA := Aside0.mk ha
  have HB := Aside0.mk hb
  clear ha hb
  obtain ⟨r, n, hrun, hc, hl⟩ := float_op .sub (by simp) a b w
  have HC := Aside0.mk hc
  have HL := Aside0.mk hl
  clear hc hl
  go_enter Tryd.func16, Tryd.ntmps16
  go_wp2_with fail
  refine (float_calls a _).mono ?_
  rintro e w1 ⟨rfl, rfl⟩
  go_wp2_with fail
  refine (float_calls b _).mono ?_
  rintro e w1 ⟨rfl, rfl⟩
  go_wp2_with fail
  refine (bits_calls _).mono ?_
  rintro e w1 ⟨rfl, rfl⟩
  rw [HC.out]
  go_wp2_with fail
  go_ret2
  exact ⟨rfl, n, rfl⟩
set_option maxHeartbeats 1600000 in
theorem prog48 {a b : Nat} (ha : a < 18446744073709551616) (hb : b < 18446744073709551616) (w : World) : Calls Tryd.prog 16 #[.int .i64 48, .int .u64 a, .int .u64 b] w (ArPost (res (fop .mul a b) : Nat) 0 w) := by
  have HA := Aside0.mk ha
  have HB := Aside0.mk hb
  clear ha hb
  obtain ⟨r, n, hrun, hc, hl⟩ := float_op .mul (by simp) a b w
  have HC := Aside0.mk hc
  have HL := Aside0.mk hl
  clear hc hl
  go_enter Tryd.func16, Tryd.ntmps16
  go_wp2_with fail
  refine (float_calls a _).mono ?_
  rintro e w1 ⟨rfl, rfl⟩
  go_wp2_with fail
  refine (float_calls b _).mono ?_
  rintro e w1 ⟨rfl, rfl⟩
  go_wp2_with fail
  refine (bits_calls _).mono ?_
  rintro e w1 ⟨rfl, rfl⟩
  rw [HC.out]
  go_wp2_with fail
  go_ret2
  exact ⟨rfl, n, rfl⟩
set_option maxHeartbeats 1600000 in
theorem prog49 {a b : Nat} (ha : a < 18446744073709551616) (hb : b < 18446744073709551616) (w : World) : Calls Tryd.prog 16 #[.int .i64 49, .int .u64 a, .int .u64 b] w (ArPost (res (fop .quo a b) : Nat) 0 w) := by
  have HA := Aside0.mk ha
  have HB := Aside0.mk hb
  clear ha hb
  obtain ⟨r, n, hrun, hc, hl⟩ := float_op .quo (by simp) a b w
  have HC := Aside0.mk hc
  have HL := Aside0.mk hl
  clear hc hl
  go_enter Tryd.func16, Tryd.ntmps16
  go_wp2_with fail
  refine (float_calls a _).mono ?_
  rintro e w1 ⟨rfl, rfl⟩
  go_wp2_with fail
  refine (float_calls b _).mono ?_
  rintro e w1 ⟨rfl, rfl⟩
  go_wp2_with fail
  refine (bits_calls _).mono ?_
  rintro e w1 ⟨rfl, rfl⟩
  rw [HC.out]
  go_wp2_with fail
  go_ret2
  exact ⟨rfl, n, rfl⟩
set_option maxHeartbeats 1600000 in
theorem prog50 {a b : Nat} (ha : a < 18446744073709551616) (hb : b < 18446744073709551616) (w : World) : Calls Tryd.prog 16 #[.int .i64 50, .int .u64 a, .int .u64 b] w (ArPost (res (Ieee.double.sqrt a) : Nat) 0 w) := by
  have HA := Aside0.mk ha
  have HB := Aside0.mk hb
  clear ha hb
  go_enter Tryd.func16, Tryd.ntmps16
  go_wp2_with fail
  refine (float_calls a _).mono ?_
  rintro e w1 ⟨rfl, rfl⟩
  go_wp2_with fail
  refine (float_calls b _).mono ?_
  rintro e w1 ⟨rfl, rfl⟩
  go_wp2_with fail
  refine (sqrtp_calls a _).mono ?_
  rintro e w1 ⟨r, n, rfl, hc, rfl⟩
  have HC := Aside0.mk hc
  clear hc
  go_wp2_with fail
  refine (bits_calls _).mono ?_
  rintro e w2 ⟨rfl, rfl⟩
  rw [HC.out]
  go_wp2_with fail
  go_ret2
  exact ⟨rfl, n, rfl⟩
set_option maxHeartbeats 1600000 in
theorem prog51 {a b : Nat} (ha : a < 18446744073709551616) (hb : b < 18446744073709551616) (w : World) : Calls Tryd.prog 16 #[.int .i64 51, .int .u64 a, .int .u64 b] w (ArPost (pk true a b : Nat) 0 w) := by
  have HA := Aside0.mk ha
  have HB := Aside0.mk hb
  clear ha hb
  have hx : ∀ w, Calls Tryd.prog 33 #[.int .u64 a, .int .u64 b, .bool false] w fun e w' => e = .returned (.int .u64 (pk true a b : Nat)) ∧ w' = w := fun w => extreme_calls true HA.out HB.out w
  have HX := Aside0.mk hx
  clear hx
  go_enter Tryd.func16, Tryd.ntmps16
  go_wp2_with fail
  refine (float_calls a _).mono ?_
  rintro e w1 ⟨rfl, rfl⟩
  go_wp2_with fail
  refine (float_calls b _).mono ?_
  rintro e w1 ⟨rfl, rfl⟩
  go_wp2_with fail
  refine (HX.out _).mono ?_
  rintro e w1 ⟨rfl, rfl⟩
  go_wp2_with fail
  go_ret2
  exact ⟨rfl, 0, rfl⟩
set_option maxHeartbeats 1600000 in
theorem prog52 {a b : Nat} (ha : a < 18446744073709551616) (hb : b < 18446744073709551616) (w : World) : Calls Tryd.prog 16 #[.int .i64 52, .int .u64 a, .int .u64 b] w (ArPost (pk false a b : Nat) 0 w) := by
  have HA := Aside0.mk ha
  have HB := Aside0.mk hb
  clear ha hb
  have hx : ∀ w, Calls Tryd.prog 33 #[.int .u64 a, .int .u64 b, .bool true] w fun e w' => e = .returned (.int .u64 (pk false a b : Nat)) ∧ w' = w := fun w => extreme_calls false HA.out HB.out w
  have HX := Aside0.mk hx
  clear hx
  go_enter Tryd.func16, Tryd.ntmps16
  go_wp2_with fail
  refine (float_calls a _).mono ?_
  rintro e w1 ⟨rfl, rfl⟩
  go_wp2_with fail
  refine (float_calls b _).mono ?_
  rintro e w1 ⟨rfl, rfl⟩
  go_wp2_with fail
  refine (HX.out _).mono ?_
  rintro e w1 ⟨rfl, rfl⟩
  go_wp2_with fail
  go_ret2
  exact ⟨rfl, 0, rfl⟩
set_option maxHeartbeats 1600000 in
theorem prog53 {a b : Nat} (ha : a < 18446744073709551616) (hb : b < 18446744073709551616) (w : World) : Calls Tryd.prog 16 #[.int .i64 53, .int .u64 a, .int .u64 b] w (ArPost (Go.bits .xor .u64 (a : Int) 9223372036854775808) 0 w) := by
  have HA := Aside0.mk ha
  have HB := Aside0.mk hb
  clear ha hb
  go_enter Tryd.func16, Tryd.ntmps16
  go_wp2_with fail
  refine (float_calls a _).mono ?_
  rintro e w1 ⟨rfl, rfl⟩
  go_wp2_with fail
  refine (float_calls b _).mono ?_
  rintro e w1 ⟨rfl, rfl⟩
  go_wp2_with fail
  go_ret2
  exact ⟨rfl, 0, rfl⟩
set_option maxHeartbeats 1600000 in
theorem prog54 {a b : Nat} (ha : a < 18446744073709551616) (hb : b < 18446744073709551616) (w : World) : Calls Tryd.prog 16 #[.int .i64 54, .int .u64 a, .int .u64 b] w (ArPost (Go.bits .andNot .u64 (a : Int) 9223372036854775808) 0 w) := by
  have HA := Aside0.mk ha
  have HB := Aside0.mk hb
  clear ha hb
  go_enter Tryd.func16, Tryd.ntmps16
  go_wp2_with fail
  refine (float_calls a _).mono ?_
  rintro e w1 ⟨rfl, rfl⟩
  go_wp2_with fail
  refine (float_calls b _).mono ?_
  rintro e w1 ⟨rfl, rfl⟩
  go_wp2_with fail
  go_ret2
  exact ⟨rfl, 0, rfl⟩
set_option maxHeartbeats 1600000 in
theorem prog_no (op : Int) (h : ¬ (46 ≤ op ∧ op ≤ 54)) {a b : Nat} (ha : a < 18446744073709551616) (hb : b < 18446744073709551616) (w : World) : Calls Tryd.prog 16 #[.int .i64 op, .int .u64 a, .int .u64 b] w (ArPost 0 5 w) := by
  have t46 : (op == 46) = false := beq_eq_false_iff_ne.2 (by omega)
  have t47 : (op == 47) = false := beq_eq_false_iff_ne.2 (by omega)
  have t48 : (op == 48) = false := beq_eq_false_iff_ne.2 (by omega)
  have t49 : (op == 49) = false := beq_eq_false_iff_ne.2 (by omega)
  have t50 : (op == 50) = false := beq_eq_false_iff_ne.2 (by omega)
  have t51 : (op == 51) = false := beq_eq_false_iff_ne.2 (by omega)
  have t52 : (op == 52) = false := beq_eq_false_iff_ne.2 (by omega)
  have t53 : (op == 53) = false := beq_eq_false_iff_ne.2 (by omega)
  have t54 : (op == 54) = false := beq_eq_false_iff_ne.2 (by omega)
  have HA := Aside0.mk ha
  have HB := Aside0.mk hb
  clear ha hb
  clear h
  go_enter Tryd.func16, Tryd.ntmps16
  go_wp2_with fail
  refine (float_calls a _).mono ?_
  rintro e w1 ⟨rfl, rfl⟩
  go_wp2_with fail
  refine (float_calls b _).mono ?_
  rintro e w1 ⟨rfl, rfl⟩
  go_wp2_with fail
  go_ret2
  exact ⟨rfl, 0, rfl⟩
theorem prog_any (op : Int) {a b : Nat} (ha : a < 18446744073709551616) (hb : b < 18446744073709551616) (w : World) : Calls Tryd.prog 16 #[.int .i64 op, .int .u64 a, .int .u64 b] w (ArPost (arR op a b) (arE op) w) := by
  by_cases h : 46 ≤ op ∧ op ≤ 54
  · have h2 : op = 46 ∨ op = 47 ∨ op = 48 ∨ op = 49 ∨ op = 50 ∨ op = 51 ∨ op = 52 ∨ op = 53 ∨ op = 54 := by omega
    rcases h2 with rfl | rfl | rfl | rfl | rfl | rfl | rfl | rfl | rfl
    · exact prog46 ha hb w
    · exact prog47 ha hb w
    · exact prog48 ha hb w
    · exact prog49 ha hb w
    · exact prog50 ha hb w
    · exact prog51 ha hb w
    · exact prog52 ha hb w
    · exact prog53 ha hb w
    · exact prog54 ha hb w
  · have e1 : arR op a b = 0 := by
      unfold arR
      rw [if_neg (by omega)]
      rw [if_neg (by omega)]
      rw [if_neg (by omega)]
      rw [if_neg (by omega)]
      rw [if_neg (by omega)]
      rw [if_neg (by omega)]
      rw [if_neg (by omega)]
      rw [if_neg (by omega)]
      rw [if_neg (by omega)]
    have e2 : arE op = 5 := by
      unfold arE
      rw [if_neg h]
    rw [e1, e2]
    exact prog_no op h ha hb w
end Go.Proofs.YtjaeligjcgjamaaDoor.DLawAriths
