/-
  No cell of these rows narrows 'for every input' (looked for: loops, veiled, ifaces, maps, wideKeys, modest, calm, conditions, laid).
  DERIVED. THE GIVEN ROWS OF THIS SEAT. 4 by the template 'for every input the law returns true; each argument reads behind the call as it read before'; 0 by the template 'total and deterministic' (their statements: YtigifaccmcggdaaTotals.lean).
  GIVEN WITH THE SEED: the statements are not yours to turn. If you find one false, say at which input.
  Laid BY PROGRAM, IN A SANDBOX (cutbox-rows.mjs): the forced cells as the released guide's own fill.sh prints them over the translation 531a1c0e3a0225a5… (all of the seat's roots in one cut). By AI agents, Wed Nov 11 2026. No macro, syntax, notation, axiom, sorry.
-/
import Derived.Test.YtigifaccmcggdaaChecked
import GoSem.Claim
import GoSem.ClaimJoined
import GoSem.ClaimMapViews
import Derived.JoinedTies
import Derived.KernelRfl
namespace Go.Proofs.Ytigifaccmcggdaa
/- THE CELL 'sum', in the pinned program and in every row, IS THE sha256 OF THE DUMP (.gsa) THAT YtigifaccmcggdaaProg.lean LOADS. Nothing in Lean hashes anything: it is a label: what it is worth is what the hold of that sum in a sandbox is worth. -/
noncomputable def Try.pinned : Pinned := { name := "ytigifaccmcggdaa", sum := "531a1c0e3a0225a5a4dfeab428ce4850e3f22730d05d60bf2688e239e6436a15", checked := Try.checked }
namespace Rows
def none {H : Type} : Left H := { results := [], args := [] }

/-- 'bulkheadlaw15.PlanMakes': WHATEVER THE INPUT: true; the input reads as it did. -/
def planMakesSpec : ChangeSpec := { name := "planMakes", fn := fun _ => fun
  | [d] => { results := [.lit (.bool true)], args := [d] }
  | _ => none }
def planMakesRow : OpenClaim := { program := "ytigifaccmcggdaa", sum := "531a1c0e3a0225a5a4dfeab428ce4850e3f22730d05d60bf2688e239e6436a15", func := "bulkhead/bulkheadlaw15.PlanMakes", spec := "planMakes", apart := false }
def PlanMakesSaid : Prop := planMakesRow.holds Try.pinned (OpenSpec.ofChange planMakesSpec)

/-- ITS FALSE NEIGHBOUR: 'it returns false'. Refute it at one input. -/
def planMakesWrong : ChangeSpec := { name := "planMakes", fn := fun _ => fun
  | [d] => { results := [.lit (.bool false)], args := [d] }
  | _ => none }
def PlanMakesWrongFalsely : Prop := planMakesRow.holds Try.pinned (OpenSpec.ofChange planMakesWrong)

/-- 'bulkheadlaw15.PlanTells': WHATEVER THE INPUT: true; the input reads as it did. -/
def planTellsSpec : ChangeSpec := { name := "planTells", fn := fun _ => fun
  | [d1, d2, d3, d4] => { results := [.lit (.bool true)], args := [d1, d2, d3, d4] }
  | _ => none }
def planTellsRow : OpenClaim := { program := "ytigifaccmcggdaa", sum := "531a1c0e3a0225a5a4dfeab428ce4850e3f22730d05d60bf2688e239e6436a15", func := "bulkhead/bulkheadlaw15.PlanTells", spec := "planTells", apart := false }
def PlanTellsSaid : Prop := planTellsRow.holds Try.pinned (OpenSpec.ofChange planTellsSpec)

/-- ITS FALSE NEIGHBOUR: 'it returns false'. Refute it at one input. -/
def planTellsWrong : ChangeSpec := { name := "planTells", fn := fun _ => fun
  | [d1, d2, d3, d4] => { results := [.lit (.bool false)], args := [d1, d2, d3, d4] }
  | _ => none }
def PlanTellsWrongFalsely : Prop := planTellsRow.holds Try.pinned (OpenSpec.ofChange planTellsWrong)

/-- 'bulkheadlaw15.PlanOne': WHATEVER THE INPUT: true; the input reads as it did. -/
def planOneSpec : ChangeSpec := { name := "planOne", fn := fun _ => fun
  | [d1, d2, d3] => { results := [.lit (.bool true)], args := [d1, d2, d3] }
  | _ => none }
def planOneRow : OpenClaim := { program := "ytigifaccmcggdaa", sum := "531a1c0e3a0225a5a4dfeab428ce4850e3f22730d05d60bf2688e239e6436a15", func := "bulkhead/bulkheadlaw15.PlanOne", spec := "planOne", apart := false }
def PlanOneSaid : Prop := planOneRow.holds Try.pinned (OpenSpec.ofChange planOneSpec)

/-- ITS FALSE NEIGHBOUR: 'it returns false'. Refute it at one input. -/
def planOneWrong : ChangeSpec := { name := "planOne", fn := fun _ => fun
  | [d1, d2, d3] => { results := [.lit (.bool false)], args := [d1, d2, d3] }
  | _ => none }
def PlanOneWrongFalsely : Prop := planOneRow.holds Try.pinned (OpenSpec.ofChange planOneWrong)

/-- 'bulkheadlaw15.PlanCycles': WHATEVER THE INPUT: true; the input reads as it did. -/
def planCyclesSpec : ChangeSpec := { name := "planCycles", fn := fun _ => fun
  | [d1, d2] => { results := [.lit (.bool true)], args := [d1, d2] }
  | _ => none }
def planCyclesRow : OpenClaim := { program := "ytigifaccmcggdaa", sum := "531a1c0e3a0225a5a4dfeab428ce4850e3f22730d05d60bf2688e239e6436a15", func := "bulkhead/bulkheadlaw15.PlanCycles", spec := "planCycles", apart := false }
def PlanCyclesSaid : Prop := planCyclesRow.holds Try.pinned (OpenSpec.ofChange planCyclesSpec)

/-- ITS FALSE NEIGHBOUR: 'it returns false'. Refute it at one input. -/
def planCyclesWrong : ChangeSpec := { name := "planCycles", fn := fun _ => fun
  | [d1, d2] => { results := [.lit (.bool false)], args := [d1, d2] }
  | _ => none }
def PlanCyclesWrongFalsely : Prop := planCyclesRow.holds Try.pinned (OpenSpec.ofChange planCyclesWrong)

/- THE SECOND FORM. 'bulk': how many values and letters a reading holds, each counted each time it is reached (what is shared counts as often as it is met; a slice's spare places count too). A statement '..UptoSaid' is the law's where the arguments, and the package variables that the reading takes, are together of bulk at most 1048576: NARROWER than '..Said'. Prove '..Said' where nothing that the law and all that it calls make is longer than what came in: it says more and counts as full. Else prove '..UptoSaid'. A law counts once. -/
mutual
def uptoBulk {H : Type} : DataW H → Nat
  | .lit (.string bytes) => bytes.length + 1
  | .lit _ => 1
  | .nil => 1
  | .ptr d => uptoBulk d + 1
  | .slice elems spare => uptoBulkAll elems + uptoBulkAll spare + 1
  | .agg parts => uptoBulkAll parts + 1
  | .iface _ d => uptoBulk d + 1
  | .map entries => uptoBulkEntries entries + 1
  | .held _ => 1
def uptoBulkAll {H : Type} : List (DataW H) → Nat
  | [] => 0
  | d :: r => uptoBulk d + uptoBulkAll r
def uptoBulkEntries {H : Type} : List (Lit × DataW H) → Nat
  | [] => 0
  | x :: r => uptoBulkEntry x + uptoBulkEntries r
def uptoBulkEntry {H : Type} : Lit × DataW H → Nat
  | (.string bytes, d) => bytes.length + uptoBulk d + 1
  | (_, d) => uptoBulk d + 1
 end
def uptoSmall : (H : Type) → List (DataW H) → Bool := fun _ ds => decide (uptoBulkAll ds ≤ 1048576)
def OpenSpec.upto (s : _root_.Go.ChangeSpec) : _root_.Go.OpenSpec := { _root_.Go.OpenSpec.ofChange s with cond := some uptoSmall }

/-- 'bulkheadlaw15.PlanMakes', WHERE WHAT IT READS IS OF BULK AT MOST 1048576: true; the input reads as it did. -/
def planMakesUptoRow : OpenClaim := { program := "ytigifaccmcggdaa", sum := "531a1c0e3a0225a5a4dfeab428ce4850e3f22730d05d60bf2688e239e6436a15", func := "bulkhead/bulkheadlaw15.PlanMakes", spec := "planMakes", apart := false, narrowed := true }
def PlanMakesUptoSaid : Prop := planMakesUptoRow.holds Try.pinned (OpenSpec.upto planMakesSpec)

/-- 'bulkheadlaw15.PlanTells', WHERE WHAT IT READS IS OF BULK AT MOST 1048576: true; the input reads as it did. -/
def planTellsUptoRow : OpenClaim := { program := "ytigifaccmcggdaa", sum := "531a1c0e3a0225a5a4dfeab428ce4850e3f22730d05d60bf2688e239e6436a15", func := "bulkhead/bulkheadlaw15.PlanTells", spec := "planTells", apart := false, narrowed := true }
def PlanTellsUptoSaid : Prop := planTellsUptoRow.holds Try.pinned (OpenSpec.upto planTellsSpec)

/-- 'bulkheadlaw15.PlanOne', WHERE WHAT IT READS IS OF BULK AT MOST 1048576: true; the input reads as it did. -/
def planOneUptoRow : OpenClaim := { program := "ytigifaccmcggdaa", sum := "531a1c0e3a0225a5a4dfeab428ce4850e3f22730d05d60bf2688e239e6436a15", func := "bulkhead/bulkheadlaw15.PlanOne", spec := "planOne", apart := false, narrowed := true }
def PlanOneUptoSaid : Prop := planOneUptoRow.holds Try.pinned (OpenSpec.upto planOneSpec)

/-- 'bulkheadlaw15.PlanCycles', WHERE WHAT IT READS IS OF BULK AT MOST 1048576: true; the input reads as it did. -/
def planCyclesUptoRow : OpenClaim := { program := "ytigifaccmcggdaa", sum := "531a1c0e3a0225a5a4dfeab428ce4850e3f22730d05d60bf2688e239e6436a15", func := "bulkhead/bulkheadlaw15.PlanCycles", spec := "planCycles", apart := false, narrowed := true }
def PlanCyclesUptoSaid : Prop := planCyclesUptoRow.holds Try.pinned (OpenSpec.upto planCyclesSpec)

end Rows
end Go.Proofs.Ytigifaccmcggdaa
