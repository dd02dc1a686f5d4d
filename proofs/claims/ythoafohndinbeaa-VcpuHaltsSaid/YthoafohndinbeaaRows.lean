/-
  No cell of these rows narrows 'for every input' (looked for: loops, veiled, ifaces, maps, wideKeys, modest, calm, conditions, laid).
  DERIVED. THE GIVEN ROWS OF THIS SEAT. 8 by the template 'for every input the law returns true; each argument reads behind the call as it read before'; 0 by the template 'total and deterministic' (their statements: YthoafohndinbeaaTotals.lean).
  GIVEN WITH THE SEED: the statements are not yours to turn. If you find one false, say at which input.
  Laid BY PROGRAM, IN A SANDBOX (cutbox-rows.mjs): the forced cells as the released guide's own fill.sh prints them over the translation 8e29e2a168692fd3… (all of the seat's roots in one cut). By AI agents, Wed Nov 11 2026. No macro, syntax, notation, axiom, sorry.
-/
import Derived.Test.YthoafohndinbeaaChecked
import GoSem.Claim
import GoSem.ClaimJoined
import GoSem.ClaimMapViews
import Derived.JoinedTies
import Derived.KernelRfl
namespace Go.Proofs.Ythoafohndinbeaa
/- THE CELL 'sum', in the pinned program and in every row, IS THE sha256 OF THE DUMP (.gsa) THAT YthoafohndinbeaaProg.lean LOADS. Nothing in Lean hashes anything: it is a label: what it is worth is what the hold of that sum in a sandbox is worth. -/
noncomputable def Try.pinned : Pinned := { name := "ythoafohndinbeaa", sum := "8e29e2a168692fd3b5cbff23f711c6077283502842061c951f937f425da38fce", checked := Try.checked }
namespace Rows
def none {H : Type} : Left H := { results := [], args := [] }

/-- 'bulkheadlaw07.VcpuControls': WHATEVER THE INPUT: true; the input reads as it did. -/
def vcpuControlsSpec : ChangeSpec := { name := "vcpuControls", fn := fun _ => fun
  | [d1, d2, d3, d4] => { results := [.lit (.bool true)], args := [d1, d2, d3, d4] }
  | _ => none }
def vcpuControlsRow : OpenClaim := { program := "ythoafohndinbeaa", sum := "8e29e2a168692fd3b5cbff23f711c6077283502842061c951f937f425da38fce", func := "bulkhead/bulkheadlaw07.VcpuControls", spec := "vcpuControls", apart := false }
def VcpuControlsSaid : Prop := vcpuControlsRow.holds Try.pinned (OpenSpec.ofChange vcpuControlsSpec)

/-- ITS FALSE NEIGHBOUR: 'it returns false'. Refute it at one input. -/
def vcpuControlsWrong : ChangeSpec := { name := "vcpuControls", fn := fun _ => fun
  | [d1, d2, d3, d4] => { results := [.lit (.bool false)], args := [d1, d2, d3, d4] }
  | _ => none }
def VcpuControlsWrongFalsely : Prop := vcpuControlsRow.holds Try.pinned (OpenSpec.ofChange vcpuControlsWrong)

/-- 'bulkheadlaw07.VcpuTraps': WHATEVER THE INPUT: true; the input reads as it did. -/
def vcpuTrapsSpec : ChangeSpec := { name := "vcpuTraps", fn := fun _ => fun
  | [d1, d2, d3, d4] => { results := [.lit (.bool true)], args := [d1, d2, d3, d4] }
  | _ => none }
def vcpuTrapsRow : OpenClaim := { program := "ythoafohndinbeaa", sum := "8e29e2a168692fd3b5cbff23f711c6077283502842061c951f937f425da38fce", func := "bulkhead/bulkheadlaw07.VcpuTraps", spec := "vcpuTraps", apart := false }
def VcpuTrapsSaid : Prop := vcpuTrapsRow.holds Try.pinned (OpenSpec.ofChange vcpuTrapsSpec)

/-- ITS FALSE NEIGHBOUR: 'it returns false'. Refute it at one input. -/
def vcpuTrapsWrong : ChangeSpec := { name := "vcpuTraps", fn := fun _ => fun
  | [d1, d2, d3, d4] => { results := [.lit (.bool false)], args := [d1, d2, d3, d4] }
  | _ => none }
def VcpuTrapsWrongFalsely : Prop := vcpuTrapsRow.holds Try.pinned (OpenSpec.ofChange vcpuTrapsWrong)

/-- 'bulkheadlaw07.VcpuBytes': WHATEVER THE INPUT: true; the input reads as it did. -/
def vcpuBytesSpec : ChangeSpec := { name := "vcpuBytes", fn := fun _ => fun
  | [d1, d2] => { results := [.lit (.bool true)], args := [d1, d2] }
  | _ => none }
def vcpuBytesRow : OpenClaim := { program := "ythoafohndinbeaa", sum := "8e29e2a168692fd3b5cbff23f711c6077283502842061c951f937f425da38fce", func := "bulkhead/bulkheadlaw07.VcpuBytes", spec := "vcpuBytes", apart := false }
def VcpuBytesSaid : Prop := vcpuBytesRow.holds Try.pinned (OpenSpec.ofChange vcpuBytesSpec)

/-- ITS FALSE NEIGHBOUR: 'it returns false'. Refute it at one input. -/
def vcpuBytesWrong : ChangeSpec := { name := "vcpuBytes", fn := fun _ => fun
  | [d1, d2] => { results := [.lit (.bool false)], args := [d1, d2] }
  | _ => none }
def VcpuBytesWrongFalsely : Prop := vcpuBytesRow.holds Try.pinned (OpenSpec.ofChange vcpuBytesWrong)

/-- 'bulkheadlaw07.VcpuReads': WHATEVER THE INPUT: true; the input reads as it did. -/
def vcpuReadsSpec : ChangeSpec := { name := "vcpuReads", fn := fun _ => fun
  | [d] => { results := [.lit (.bool true)], args := [d] }
  | _ => none }
def vcpuReadsRow : OpenClaim := { program := "ythoafohndinbeaa", sum := "8e29e2a168692fd3b5cbff23f711c6077283502842061c951f937f425da38fce", func := "bulkhead/bulkheadlaw07.VcpuReads", spec := "vcpuReads", apart := false }
def VcpuReadsSaid : Prop := vcpuReadsRow.holds Try.pinned (OpenSpec.ofChange vcpuReadsSpec)

/-- ITS FALSE NEIGHBOUR: 'it returns false'. Refute it at one input. -/
def vcpuReadsWrong : ChangeSpec := { name := "vcpuReads", fn := fun _ => fun
  | [d] => { results := [.lit (.bool false)], args := [d] }
  | _ => none }
def VcpuReadsWrongFalsely : Prop := vcpuReadsRow.holds Try.pinned (OpenSpec.ofChange vcpuReadsWrong)

/-- 'bulkheadlaw07.VcpuHalts': WHATEVER THE INPUT: true; the input reads as it did. -/
def vcpuHaltsSpec : ChangeSpec := { name := "vcpuHalts", fn := fun _ => fun
  | [d1, d2, d3] => { results := [.lit (.bool true)], args := [d1, d2, d3] }
  | _ => none }
def vcpuHaltsRow : OpenClaim := { program := "ythoafohndinbeaa", sum := "8e29e2a168692fd3b5cbff23f711c6077283502842061c951f937f425da38fce", func := "bulkhead/bulkheadlaw07.VcpuHalts", spec := "vcpuHalts", apart := false }
def VcpuHaltsSaid : Prop := vcpuHaltsRow.holds Try.pinned (OpenSpec.ofChange vcpuHaltsSpec)

/-- ITS FALSE NEIGHBOUR: 'it returns false'. Refute it at one input. -/
def vcpuHaltsWrong : ChangeSpec := { name := "vcpuHalts", fn := fun _ => fun
  | [d1, d2, d3] => { results := [.lit (.bool false)], args := [d1, d2, d3] }
  | _ => none }
def VcpuHaltsWrongFalsely : Prop := vcpuHaltsRow.holds Try.pinned (OpenSpec.ofChange vcpuHaltsWrong)

/-- 'bulkheadlaw07.VcpuIrqs': WHATEVER THE INPUT: true; the input reads as it did. -/
def vcpuIrqsSpec : ChangeSpec := { name := "vcpuIrqs", fn := fun _ => fun
  | [d1, d2] => { results := [.lit (.bool true)], args := [d1, d2] }
  | _ => none }
def vcpuIrqsRow : OpenClaim := { program := "ythoafohndinbeaa", sum := "8e29e2a168692fd3b5cbff23f711c6077283502842061c951f937f425da38fce", func := "bulkhead/bulkheadlaw07.VcpuIrqs", spec := "vcpuIrqs", apart := false }
def VcpuIrqsSaid : Prop := vcpuIrqsRow.holds Try.pinned (OpenSpec.ofChange vcpuIrqsSpec)

/-- ITS FALSE NEIGHBOUR: 'it returns false'. Refute it at one input. -/
def vcpuIrqsWrong : ChangeSpec := { name := "vcpuIrqs", fn := fun _ => fun
  | [d1, d2] => { results := [.lit (.bool false)], args := [d1, d2] }
  | _ => none }
def VcpuIrqsWrongFalsely : Prop := vcpuIrqsRow.holds Try.pinned (OpenSpec.ofChange vcpuIrqsWrong)

/-- 'bulkheadlaw07.VcpuRight': WHATEVER THE INPUT: true; the input reads as it did. -/
def vcpuRightSpec : ChangeSpec := { name := "vcpuRight", fn := fun _ => fun
  | [d1, d2, d3] => { results := [.lit (.bool true)], args := [d1, d2, d3] }
  | _ => none }
def vcpuRightRow : OpenClaim := { program := "ythoafohndinbeaa", sum := "8e29e2a168692fd3b5cbff23f711c6077283502842061c951f937f425da38fce", func := "bulkhead/bulkheadlaw07.VcpuRight", spec := "vcpuRight", apart := false }
def VcpuRightSaid : Prop := vcpuRightRow.holds Try.pinned (OpenSpec.ofChange vcpuRightSpec)

/-- ITS FALSE NEIGHBOUR: 'it returns false'. Refute it at one input. -/
def vcpuRightWrong : ChangeSpec := { name := "vcpuRight", fn := fun _ => fun
  | [d1, d2, d3] => { results := [.lit (.bool false)], args := [d1, d2, d3] }
  | _ => none }
def VcpuRightWrongFalsely : Prop := vcpuRightRow.holds Try.pinned (OpenSpec.ofChange vcpuRightWrong)

/-- 'bulkheadlaw07.VcpuBack': WHATEVER THE INPUT: true; the input reads as it did. -/
def vcpuBackSpec : ChangeSpec := { name := "vcpuBack", fn := fun _ => fun
  | [d1, d2, d3, d4] => { results := [.lit (.bool true)], args := [d1, d2, d3, d4] }
  | _ => none }
def vcpuBackRow : OpenClaim := { program := "ythoafohndinbeaa", sum := "8e29e2a168692fd3b5cbff23f711c6077283502842061c951f937f425da38fce", func := "bulkhead/bulkheadlaw07.VcpuBack", spec := "vcpuBack", apart := false }
def VcpuBackSaid : Prop := vcpuBackRow.holds Try.pinned (OpenSpec.ofChange vcpuBackSpec)

/-- ITS FALSE NEIGHBOUR: 'it returns false'. Refute it at one input. -/
def vcpuBackWrong : ChangeSpec := { name := "vcpuBack", fn := fun _ => fun
  | [d1, d2, d3, d4] => { results := [.lit (.bool false)], args := [d1, d2, d3, d4] }
  | _ => none }
def VcpuBackWrongFalsely : Prop := vcpuBackRow.holds Try.pinned (OpenSpec.ofChange vcpuBackWrong)

/- THE SECOND FORM. 'bulk': how many values and letters a reading holds, each counted each time it is reached (what is shared counts as often as it is met; a slice's spare places count too). A statement '..UptoSaid' is the law's where the arguments, and the package variables that the reading takes, are together of bulk at most 1048576: NARROWER than '..Said'. Prove '..Said' where nothing that the law and all that it calls make is longer than what came in: it says more and counts as full. Else prove '..UptoSaid'. A law counts once. -/
mutual
def uptoBulk {H : Type} : DataW H → Nat
  | .lit (.string bytes) => bytes.length + 1
  | .lit _ => 1
  | .nil => 1
  | .ptr d => uptoBulk d + 1
  | .slice elems spare => uptoBulkAll elems + uptoBulkAll spare + 1
  | .agg parts => uptoBulkAll parts + 1
  | .iface _ d => uptoBulk d + 1
  | .map entries => uptoBulkEntries entries + 1
  | .held _ => 1
def uptoBulkAll {H : Type} : List (DataW H) → Nat
  | [] => 0
  | d :: r => uptoBulk d + uptoBulkAll r
def uptoBulkEntries {H : Type} : List (Lit × DataW H) → Nat
  | [] => 0
  | x :: r => uptoBulkEntry x + uptoBulkEntries r
def uptoBulkEntry {H : Type} : Lit × DataW H → Nat
  | (.string bytes, d) => bytes.length + uptoBulk d + 1
  | (_, d) => uptoBulk d + 1
 end
def uptoSmall : (H : Type) → List (DataW H) → Bool := fun _ ds => decide (uptoBulkAll ds ≤ 1048576)
def OpenSpec.upto (s : _root_.Go.ChangeSpec) : _root_.Go.OpenSpec := { _root_.Go.OpenSpec.ofChange s with cond := some uptoSmall }

/-- 'bulkheadlaw07.VcpuControls', WHERE WHAT IT READS IS OF BULK AT MOST 1048576: true; the input reads as it did. -/
def vcpuControlsUptoRow : OpenClaim := { program := "ythoafohndinbeaa", sum := "8e29e2a168692fd3b5cbff23f711c6077283502842061c951f937f425da38fce", func := "bulkhead/bulkheadlaw07.VcpuControls", spec := "vcpuControls", apart := false, narrowed := true }
def VcpuControlsUptoSaid : Prop := vcpuControlsUptoRow.holds Try.pinned (OpenSpec.upto vcpuControlsSpec)

/-- 'bulkheadlaw07.VcpuTraps', WHERE WHAT IT READS IS OF BULK AT MOST 1048576: true; the input reads as it did. -/
def vcpuTrapsUptoRow : OpenClaim := { program := "ythoafohndinbeaa", sum := "8e29e2a168692fd3b5cbff23f711c6077283502842061c951f937f425da38fce", func := "bulkhead/bulkheadlaw07.VcpuTraps", spec := "vcpuTraps", apart := false, narrowed := true }
def VcpuTrapsUptoSaid : Prop := vcpuTrapsUptoRow.holds Try.pinned (OpenSpec.upto vcpuTrapsSpec)

/-- 'bulkheadlaw07.VcpuBytes', WHERE WHAT IT READS IS OF BULK AT MOST 1048576: true; the input reads as it did. -/
def vcpuBytesUptoRow : OpenClaim := { program := "ythoafohndinbeaa", sum := "8e29e2a168692fd3b5cbff23f711c6077283502842061c951f937f425da38fce", func := "bulkhead/bulkheadlaw07.VcpuBytes", spec := "vcpuBytes", apart := false, narrowed := true }
def VcpuBytesUptoSaid : Prop := vcpuBytesUptoRow.holds Try.pinned (OpenSpec.upto vcpuBytesSpec)

/-- 'bulkheadlaw07.VcpuReads', WHERE WHAT IT READS IS OF BULK AT MOST 1048576: true; the input reads as it did. -/
def vcpuReadsUptoRow : OpenClaim := { program := "ythoafohndinbeaa", sum := "8e29e2a168692fd3b5cbff23f711c6077283502842061c951f937f425da38fce", func := "bulkhead/bulkheadlaw07.VcpuReads", spec := "vcpuReads", apart := false, narrowed := true }
def VcpuReadsUptoSaid : Prop := vcpuReadsUptoRow.holds Try.pinned (OpenSpec.upto vcpuReadsSpec)

/-- 'bulkheadlaw07.VcpuHalts', WHERE WHAT IT READS IS OF BULK AT MOST 1048576: true; the input reads as it did. -/
def vcpuHaltsUptoRow : OpenClaim := { program := "ythoafohndinbeaa", sum := "8e29e2a168692fd3b5cbff23f711c6077283502842061c951f937f425da38fce", func := "bulkhead/bulkheadlaw07.VcpuHalts", spec := "vcpuHalts", apart := false, narrowed := true }
def VcpuHaltsUptoSaid : Prop := vcpuHaltsUptoRow.holds Try.pinned (OpenSpec.upto vcpuHaltsSpec)

/-- 'bulkheadlaw07.VcpuIrqs', WHERE WHAT IT READS IS OF BULK AT MOST 1048576: true; the input reads as it did. -/
def vcpuIrqsUptoRow : OpenClaim := { program := "ythoafohndinbeaa", sum := "8e29e2a168692fd3b5cbff23f711c6077283502842061c951f937f425da38fce", func := "bulkhead/bulkheadlaw07.VcpuIrqs", spec := "vcpuIrqs", apart := false, narrowed := true }
def VcpuIrqsUptoSaid : Prop := vcpuIrqsUptoRow.holds Try.pinned (OpenSpec.upto vcpuIrqsSpec)

/-- 'bulkheadlaw07.VcpuRight', WHERE WHAT IT READS IS OF BULK AT MOST 1048576: true; the input reads as it did. -/
def vcpuRightUptoRow : OpenClaim := { program := "ythoafohndinbeaa", sum := "8e29e2a168692fd3b5cbff23f711c6077283502842061c951f937f425da38fce", func := "bulkhead/bulkheadlaw07.VcpuRight", spec := "vcpuRight", apart := false, narrowed := true }
def VcpuRightUptoSaid : Prop := vcpuRightUptoRow.holds Try.pinned (OpenSpec.upto vcpuRightSpec)

/-- 'bulkheadlaw07.VcpuBack', WHERE WHAT IT READS IS OF BULK AT MOST 1048576: true; the input reads as it did. -/
def vcpuBackUptoRow : OpenClaim := { program := "ythoafohndinbeaa", sum := "8e29e2a168692fd3b5cbff23f711c6077283502842061c951f937f425da38fce", func := "bulkhead/bulkheadlaw07.VcpuBack", spec := "vcpuBack", apart := false, narrowed := true }
def VcpuBackUptoSaid : Prop := vcpuBackUptoRow.holds Try.pinned (OpenSpec.upto vcpuBackSpec)

end Rows
end Go.Proofs.Ythoafohndinbeaa
