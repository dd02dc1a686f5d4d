/- Compare: the program's and the document's; the ways to whole numbers and back. -/
import Derived.Test.YtjaeligjcgjamaaDoorDRealCmp
import Derived.Laws.Externs
import Derived.Laws.Cover2
namespace Go.Proofs.YtjaeligjcgjamaaDoor.DRealFl
open Go.RowKit Go.Proofs.YtjaeligjcgjamaaDoor.PRealOrder Go.Proofs.YtjaeligjcgjamaaDoorW.PrintWords Go.Proofs.YtjaeligjcgjamaaDoorW.PrintLast Go.Proofs.YtjaeligjcgjamaaDoor.Aid Go.Proofs.YtjaeligjcgjamaaDoor.FloatPlain Go.Proofs.YtjaeligjcgjamaaDoor.DRealPure Go.Proofs.YtjaeligjcgjamaaDoor.DRealCmp
set_option linter.unusedVariables false
set_option linter.unusedSimpArgs false
theorem frombits (a : Nat) (w : World) : (callFunc 51 #[.int .u64 a]).run Tryd.prog w = .ok (.value (.float .f64 a)) w := by
  rw [run_callFunc_extern (e := Extern.MathFloatBits.float64frombits) Tryd.func51 (by kernel_rfl) (by kernel_rfl) (by kernel_rfl) (by kernel_rfl) _ w]
  rfl
theorem bits (a : Nat) (w : World) : (callFunc 34 #[.float .f64 a]).run Tryd.prog w = .ok (.value (.int .u64 a)) w := by
  rw [run_callFunc_extern (e := Extern.MathFloatBits.float64bits) Tryd.func34 (by kernel_rfl) (by kernel_rfl) (by kernel_rfl) (by kernel_rfl) _ w]
  rfl
theorem float_calls (a : Nat) (w : World) : Calls Tryd.prog 30 #[.int .u64 a] w fun e w' => e = .returned (.float .f64 a) ∧ w' = w := by
  have hd := frombits a w
  go_enter Tryd.func30, Tryd.ntmps30
  go_wp2
  go_ret
  exact ⟨rfl, rfl⟩
/-- What Compare tells. -/
def cR (op : Int) (a b : Nat) : Int :=
  if op = 55 then (if Ieee.double.order a b = some .eq then 1 else 0)
  else if op = 56 then (if Ieee.double.order a b = some .lt then 1 else 0)
  else if op = 57 then (if Ieee.double.order a b = some .lt ∨ Ieee.double.order a b = some .eq then 1 else 0) else 0
def cE (op : Int) : Int := if op = 55 ∨ op = 56 ∨ op = 57 then 0 else 5
set_option maxHeartbeats 1600000 in
theorem cmp_prog (op : Int) (a b : Nat) (w : World) : Calls Tryd.prog 18 #[.int .i64 op, .int .u64 a, .int .u64 b] w fun e w' => e = .returned (.tuple #[.int .u32 (cR op a b), .int .i64 (cE op)]) ∧ w' = w := by
  cases h1 : (op == 55) <;> cases h2 : (op == 56) <;> cases h3 : (op == 57) <;> cases h4 : (Ieee.double.order a b == some .eq) <;> cases h5 : (Ieee.double.order a b == some .lt)
  all_goals
    go_enter Tryd.func18, Tryd.ntmps18
    go_wp2_with fail
    refine (float_calls a _).mono ?_
    rintro e w1 ⟨rfl, rfl⟩
    go_wp2_with fail
    refine (float_calls b _).mono ?_
    rintro e w1 ⟨rfl, rfl⟩
    have h4' : (FloatKind.f64.format.order a b == some .eq) = _ := h4
    have h5' : (FloatKind.f64.format.order a b == some .lt) = _ := h5
    go_wp2_with fail
    go_ret2
    refine ⟨?_, rfl⟩
    simp only [beq_iff_eq, beq_eq_false_iff_ne, ne_eq] at h1 h2 h3 h4 h5

    first
    | (simp [cR, cE, h1, h2, h3, h4, h5]; done)
    | (exfalso; rw [h4] at h5; cases h5)
    | (exfalso; omega)
def fromR (n : Int) : Int := ((floatOfInt .f64 (wrap32 n) : Nat) : Int)
theorem from_prog (n : Int) (w : World) : Calls Tryd.prog 17 #[.int .u32 n] w fun e w' => e = .returned (.int .u64 (fromR n)) ∧ w' = w := by
  have hd : ∀ x : Nat, (callFunc 34 #[.float .f64 x]).run Tryd.prog w = .ok (.value (.int .u64 x)) w := fun x => bits x w
  go_enter Tryd.func17, Tryd.ntmps17
  go_wp2
  go_ret
  exact ⟨rfl, rfl⟩
theorem conv_in {a : Nat} {n : Int} (h : (Ieee.double.read a).toInt .zero = some n) (h0 : -2147483648 ≤ n) (h1 : n ≤ 2147483647) (w : World) : (convert 52 21 (.float .f64 a)).run Tryd.prog w = .ok (.int .i32 n) w := by
  have hh : (FloatKind.f64.decode a).toInt .zero = some n := h
  have hr : IntKind.i32.min ≤ n ∧ n ≤ IntKind.i32.max := ⟨h0, h1⟩
  simp [convert, run_underlying Tryd.underlying52, run_underlying Tryd.underlying21, Conv.floatToInt, hh, hr]
end Go.Proofs.YtjaeligjcgjamaaDoor.DRealFl
