/- Sums, products, quotients and roots: whatever the bits of a NaN, what is made of them is one. -/
import Derived.Test.YtjaeligjcgjamaaDoorDRealFl
import Derived.Test.YtjaeligjcgjamaaDoorRealRoot
import Derived.Laws.FloatArith
namespace Go.Proofs.YtjaeligjcgjamaaDoor.DRealAr
open Go.RowKit Go.Proofs.YtjaeligjcgjamaaDoor.PRealOrder Go.Proofs.YtjaeligjcgjamaaDoorW.PrintWords Go.Proofs.YtjaeligjcgjamaaDoorW.PrintLast Go.Proofs.YtjaeligjcgjamaaDoor.Aid Go.Proofs.YtjaeligjcgjamaaDoor.FloatPlain Go.Proofs.YtjaeligjcgjamaaDoor.DRealPure Go.Proofs.YtjaeligjcgjamaaDoor.DRealCmp Go.Proofs.YtjaeligjcgjamaaDoor.DRealFl Go.Proofs.YtjaeligjcgjamaaDoor.RealRoot
set_option linter.unusedVariables false
set_option linter.unusedSimpArgs false
/-- A word, every NaN one. -/
def canon (r : Nat) : Nat := if 9218868437227405312 < rg r then 9221120237041090560 else r
def res (o : Option Nat) : Nat := match o with
  | some r => canon r
  | none => 9221120237041090560
def fop (op : BinOp) (a b : Nat) : Option Nat := match op with
  | .add => Ieee.double.add a b
  | .sub => Ieee.double.sub a b
  | .mul => Ieee.double.mul a b
  | .quo => Ieee.double.div a b
  | _ => none
theorem canon_nan (t : Nat) : canon (t % 2 * 2 ^ 63 + 9218868437227405312 + 1 + t / 2 % (2 ^ 52 - 1)) = 9221120237041090560 := by
  unfold canon
  rw [if_pos]
  unfold rg
  have h1 : (2 : Nat) ^ 63 = 9223372036854775808 := by decide
  have h2 : (2 : Nat) ^ 52 - 1 = 4503599627370495 := by decide
  rw [h1, h2]
  have h3 : t % 2 = 0 ∨ t % 2 = 1 := by omega
  have h4 : t / 2 % 4503599627370495 < 4503599627370495 := Nat.mod_lt _ (by decide)
  generalize t / 2 % 4503599627370495 = f at h4
  rcases h3 with h3 | h3 <;> rw [h3] <;> omega
theorem nan_lt (t : Nat) : t % 2 * 2 ^ 63 + 9218868437227405312 + 1 + t / 2 % (2 ^ 52 - 1) < 18446744073709551616 := by
  have h1 : (2 : Nat) ^ 63 = 9223372036854775808 := by decide
  have h2 : (2 : Nat) ^ 52 - 1 = 4503599627370495 := by decide
  rw [h1, h2]
  omega
theorem word_lt {r : Nat} (h : r < 2 ^ Ieee.double.width) : r < 18446744073709551616 := by
  have : (2 : Nat) ^ Ieee.double.width = 18446744073709551616 := by decide
  omega
theorem fop_lt {op : BinOp} {a b r : Nat} (h : fop op a b = some r) : r < 18446744073709551616 := by
  refine word_lt ?_
  unfold fop at h
  split at h
  · exact Ieee.double.add_lt h
  · exact Ieee.double.sub_lt h
  · exact Ieee.double.mul_lt h
  · exact Ieee.double.div_lt h
  · cases h
theorem float_op (op : BinOp) (hop : op = .add ∨ op = .sub ∨ op = .mul ∨ op = .quo) (a b : Nat) (w : World) :
    ∃ r n, (binOp op 52 (.float .f64 a) (.float .f64 b)).run Tryd.prog w = .ok (.float .f64 r) (w.drewN n) ∧ canon r = res (fop op a b) ∧ r < 18446744073709551616 := by
  cases h : fop op a b with
  | some r =>
    refine ⟨r, 0, ?_, rfl, fop_lt h⟩
    refine run_float_arith w op 52 .f64 a b r ?_
    rcases hop with rfl | rfl | rfl | rfl <;> exact h
  | none =>
    refine ⟨_, 1, ?_, canon_nan (w.tape w.drawn (.nanBits .f64 a b)), nan_lt _⟩
    have hq : (binOp op 52 (.float .f64 a) (.float .f64 b)).run Tryd.prog w = (Op.floatArith op .f64 a b).run Tryd.prog w := by
      rcases hop with rfl | rfl | rfl | rfl <;> simp [binOp]
    rw [hq]
    rcases hop with rfl | rfl | rfl | rfl
    · have h' : FloatKind.f64.format.add a b = none := h
      simp [Op.floatArith, h', Question.forced, Question.cut]
      rfl
    · have h' : FloatKind.f64.format.sub a b = none := h
      simp [Op.floatArith, h', Question.forced, Question.cut]
      rfl
    · have h' : FloatKind.f64.format.mul a b = none := h
      simp [Op.floatArith, h', Question.forced, Question.cut]
      rfl
    · have h' : FloatKind.f64.format.div a b = none := h
      simp [Op.floatArith, h', Question.forced, Question.cut]
      rfl
theorem float_sqrt (a : Nat) (w : World) :
    ∃ r n, (callFunc 52 #[.float .f64 a]).run Tryd.prog w = .ok (.value (.float .f64 r)) (w.drewN n) ∧ canon r = res (Ieee.double.sqrt a) ∧ r < 18446744073709551616 := by
  have e := run_callFunc_extern (e := Extern.MathSqrt.sqrt) Tryd.func52 (by kernel_rfl) (by kernel_rfl) (by kernel_rfl) (by kernel_rfl) #[.float .f64 a] w
  have hs : Extern.MathSqrt.sqrt #[.float .f64 a] = (match FloatKind.f64.format.sqrt a with
    | some r => pure (.float .f64 r)
    | none => do pure (.float .f64 (← choose (.nanBits .f64 a a)))) := rfl
  rw [hs] at e
  cases h : Ieee.double.sqrt a with
  | some r =>
    have h' : FloatKind.f64.format.sqrt a = some r := h
    refine ⟨r, 0, ?_, rfl, word_lt (Ieee.double.sqrt_lt h)⟩
    rw [e]
    simp [h']
    rfl
  | none =>
    have h' : FloatKind.f64.format.sqrt a = none := h
    refine ⟨_, 1, ?_, canon_nan (w.tape w.drawn (.nanBits .f64 a a)), nan_lt _⟩
    rw [e]
    simp [h', Question.forced, Question.cut]
    rfl
theorem bits_calls {r : Nat} (w : World) : Calls Tryd.prog 31 #[.float .f64 r] w fun e w' => e = .returned (.int .u64 (canon r : Nat)) ∧ w' = w := by
  have hb := DRealFl.bits r w
  by_cases h0 : 9218868437227405312 < rg r
  · have t : (FloatKind.f64.format.order r r != some .eq) = true := by
      show (Ieee.double.order r r != some .eq) = true
      rw [order_nan (.inl h0)]
      rfl
    have e : canon r = 9221120237041090560 := by
      unfold canon
      rw [if_pos h0]
    rw [e]
    clear e
    go_enter Tryd.func31, Tryd.ntmps31
    go_wp2
    go_ret
    exact ⟨rfl, rfl⟩
  · have t : (FloatKind.f64.format.order r r != some .eq) = false := by
      show (Ieee.double.order r r != some .eq) = false
      rw [order_eq (by omega) (by omega)]
      simp
    have e : canon r = r := by
      unfold canon
      rw [if_neg h0]
    rw [e]
    clear e
    go_enter Tryd.func31, Tryd.ntmps31
    go_wp2
    go_ret
    exact ⟨rfl, rfl⟩
end Go.Proofs.YtjaeligjcgjamaaDoor.DRealAr
