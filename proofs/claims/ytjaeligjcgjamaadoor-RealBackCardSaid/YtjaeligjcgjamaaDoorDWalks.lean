/- The four laws' walks, in the rows' form. -/
import Derived.Test.YtjaeligjcgjamaaDoorDLawOrder
import Derived.Test.YtjaeligjcgjamaaDoorDLawZeros
import Derived.Test.YtjaeligjcgjamaaDoorDLawTurns
import Derived.Test.YtjaeligjcgjamaaDoorDLawClasses
namespace Go.Proofs.YtjaeligjcgjamaaDoor.DWalks
open Go.RowKit
set_option linter.unusedVariables false
theorem in64 {x : Int} (h : (Lit.int .u64 x).wf = true) : ∃ n : Nat, x = (n : Int) ∧ n < 18446744073709551616 := by
  have h2 : 0 ≤ x ∧ x ≤ 18446744073709551615 := by simpa [Lit.wf, IntKind.min, IntKind.max, IntKind.signed, IntKind.bits] using h
  exact ⟨x.toNat, by omega, by omega⟩
theorem in32 {x : Int} (h : (Lit.int .u32 x).wf = true) : 0 ≤ x ∧ x < 4294967296 := by
  have h2 : 0 ≤ x ∧ x ≤ 4294967295 := by simpa [Lit.wf, IntKind.min, IntKind.max, IntKind.signed, IntKind.bits] using h
  omega
theorem order (x y n : Int) (w : World) (wx : (Lit.int .u64 x).wf = true) (wy : (Lit.int .u64 y).wf = true) (wn : (Lit.int .u32 n).wf = true) (hz : w.cell? ⟨6, 15, none⟩ = some (.int .u8 4)) :
    Calls Tryd.prog 8 #[.int .u64 x, .int .u64 y, .int .u32 n] w fun e w' => e = .returned (.bool true) ∧ Below w.heap.size w w' := by
  obtain ⟨a, rfl, ha⟩ := in64 wx
  obtain ⟨b, rfl, hb⟩ := in64 wy
  exact DLawOrder.law a b n w ha hb (in32 wn).1 (in32 wn).2 hz
theorem turns (x y n : Int) (w : World) (wx : (Lit.int .u64 x).wf = true) (wy : (Lit.int .u64 y).wf = true) (wn : (Lit.int .u32 n).wf = true) (hz : w.cell? ⟨6, 15, none⟩ = some (.int .u8 4)) :
    Calls Tryd.prog 6 #[.int .u64 x, .int .u64 y, .int .u32 n] w fun e w' => e = .returned (.bool true) ∧ Below w.heap.size w w' := by
  obtain ⟨a, rfl, ha⟩ := in64 wx
  obtain ⟨b, rfl, hb⟩ := in64 wy
  exact DLawTurns.law a b n w ha hb (in32 wn).1 (in32 wn).2 hz
theorem zeros (x n : Int) (w : World) (wx : (Lit.int .u64 x).wf = true) (wn : (Lit.int .u32 n).wf = true) (hz : w.cell? ⟨6, 15, none⟩ = some (.int .u8 4)) :
    Calls Tryd.prog 7 #[.int .u64 x, .int .u32 n] w fun e w' => e = .returned (.bool true) ∧ Below w.heap.size w w' := by
  obtain ⟨a, rfl, ha⟩ := in64 wx
  exact DLawZeros.law a n w ha (in32 wn).1 (in32 wn).2 hz
theorem classes (x : Int) (w : World) (wx : (Lit.int .u64 x).wf = true) (hz : w.cell? ⟨6, 15, none⟩ = some (.int .u8 4)) :
    Calls Tryd.prog 5 #[.int .u64 x] w fun e w' => e = .returned (.bool true) ∧ Below w.heap.size w w' := by
  obtain ⟨a, rfl, ha⟩ := in64 wx
  exact DLawClasses.law a w ha hz
end Go.Proofs.YtjaeligjcgjamaaDoor.DWalks
