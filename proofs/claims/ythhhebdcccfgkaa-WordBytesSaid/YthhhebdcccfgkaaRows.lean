/-
  No cell of these rows narrows 'for every input' (looked for: loops, veiled, ifaces, maps, wideKeys, modest, calm, conditions, laid).
  DERIVED. THE GIVEN ROWS OF THIS SEAT. 8 by the template 'for every input the law returns true; each argument reads behind the call as it read before'; 0 by the template 'total and deterministic' (their statements: YthhhebdcccfgkaaTotals.lean).
  GIVEN WITH THE SEED: the statements are not yours to turn. If you find one false, say at which input.
  Laid BY PROGRAM, IN A SANDBOX (cutbox-rows.mjs): the forced cells as the released guide's own fill.sh prints them over the translation 8163198522c61e92… (all of the seat's roots in one cut). By AI agents, Wed Nov 11 2026. No macro, syntax, notation, axiom, sorry.
-/
import Derived.Test.YthhhebdcccfgkaaChecked
import GoSem.Claim
import GoSem.ClaimJoined
import GoSem.ClaimMapViews
import Derived.JoinedTies
import Derived.KernelRfl
namespace Go.Proofs.Ythhhebdcccfgkaa
/- THE CELL 'sum', in the pinned program and in every row, IS THE sha256 OF THE DUMP (.gsa) THAT YthhhebdcccfgkaaProg.lean LOADS. Nothing in Lean hashes anything: it is a label: what it is worth is what the hold of that sum in a sandbox is worth. -/
noncomputable def Try.pinned : Pinned := { name := "ythhhebdcccfgkaa", sum := "8163198522c61e92c952bd3fc9fe836877d9b40fbdd6dc8fdb489e3ff1a0822f", checked := Try.checked }
namespace Rows
def none {H : Type} : Left H := { results := [], args := [] }

/-- 'bulkheadlaw01.WordExtends': WHATEVER THE INPUT: true; the input reads as it did. -/
def wordExtendsSpec : ChangeSpec := { name := "wordExtends", fn := fun _ => fun
  | [d1, d2, d3] => { results := [.lit (.bool true)], args := [d1, d2, d3] }
  | _ => none }
def wordExtendsRow : OpenClaim := { program := "ythhhebdcccfgkaa", sum := "8163198522c61e92c952bd3fc9fe836877d9b40fbdd6dc8fdb489e3ff1a0822f", func := "bulkhead/bulkheadlaw01.WordExtends", spec := "wordExtends", apart := false }
def WordExtendsSaid : Prop := wordExtendsRow.holds Try.pinned (OpenSpec.ofChange wordExtendsSpec)

/-- ITS FALSE NEIGHBOUR: 'it returns false'. Refute it at one input. -/
def wordExtendsWrong : ChangeSpec := { name := "wordExtends", fn := fun _ => fun
  | [d1, d2, d3] => { results := [.lit (.bool false)], args := [d1, d2, d3] }
  | _ => none }
def WordExtendsWrongFalsely : Prop := wordExtendsRow.holds Try.pinned (OpenSpec.ofChange wordExtendsWrong)

/-- 'bulkheadlaw01.WordBytes': WHATEVER THE INPUT: true; the input reads as it did. -/
def wordBytesSpec : ChangeSpec := { name := "wordBytes", fn := fun _ => fun
  | [d1, d2, d3] => { results := [.lit (.bool true)], args := [d1, d2, d3] }
  | _ => none }
def wordBytesRow : OpenClaim := { program := "ythhhebdcccfgkaa", sum := "8163198522c61e92c952bd3fc9fe836877d9b40fbdd6dc8fdb489e3ff1a0822f", func := "bulkhead/bulkheadlaw01.WordBytes", spec := "wordBytes", apart := false }
def WordBytesSaid : Prop := wordBytesRow.holds Try.pinned (OpenSpec.ofChange wordBytesSpec)

/-- ITS FALSE NEIGHBOUR: 'it returns false'. Refute it at one input. -/
def wordBytesWrong : ChangeSpec := { name := "wordBytes", fn := fun _ => fun
  | [d1, d2, d3] => { results := [.lit (.bool false)], args := [d1, d2, d3] }
  | _ => none }
def WordBytesWrongFalsely : Prop := wordBytesRow.holds Try.pinned (OpenSpec.ofChange wordBytesWrong)

/-- 'bulkheadlaw01.WordBranches': WHATEVER THE INPUT: true; the input reads as it did. -/
def wordBranchesSpec : ChangeSpec := { name := "wordBranches", fn := fun _ => fun
  | [d1, d2, d3] => { results := [.lit (.bool true)], args := [d1, d2, d3] }
  | _ => none }
def wordBranchesRow : OpenClaim := { program := "ythhhebdcccfgkaa", sum := "8163198522c61e92c952bd3fc9fe836877d9b40fbdd6dc8fdb489e3ff1a0822f", func := "bulkhead/bulkheadlaw01.WordBranches", spec := "wordBranches", apart := false }
def WordBranchesSaid : Prop := wordBranchesRow.holds Try.pinned (OpenSpec.ofChange wordBranchesSpec)

/-- ITS FALSE NEIGHBOUR: 'it returns false'. Refute it at one input. -/
def wordBranchesWrong : ChangeSpec := { name := "wordBranches", fn := fun _ => fun
  | [d1, d2, d3] => { results := [.lit (.bool false)], args := [d1, d2, d3] }
  | _ => none }
def WordBranchesWrongFalsely : Prop := wordBranchesRow.holds Try.pinned (OpenSpec.ofChange wordBranchesWrong)

/-- 'bulkheadlaw01.WordAlu': WHATEVER THE INPUT: true; the input reads as it did. -/
def wordAluSpec : ChangeSpec := { name := "wordAlu", fn := fun _ => fun
  | [d1, d2, d3] => { results := [.lit (.bool true)], args := [d1, d2, d3] }
  | _ => none }
def wordAluRow : OpenClaim := { program := "ythhhebdcccfgkaa", sum := "8163198522c61e92c952bd3fc9fe836877d9b40fbdd6dc8fdb489e3ff1a0822f", func := "bulkhead/bulkheadlaw01.WordAlu", spec := "wordAlu", apart := false }
def WordAluSaid : Prop := wordAluRow.holds Try.pinned (OpenSpec.ofChange wordAluSpec)

/-- ITS FALSE NEIGHBOUR: 'it returns false'. Refute it at one input. -/
def wordAluWrong : ChangeSpec := { name := "wordAlu", fn := fun _ => fun
  | [d1, d2, d3] => { results := [.lit (.bool false)], args := [d1, d2, d3] }
  | _ => none }
def WordAluWrongFalsely : Prop := wordAluRow.holds Try.pinned (OpenSpec.ofChange wordAluWrong)

/-- 'bulkheadlaw01.WordDivides': WHATEVER THE INPUT: true; the input reads as it did. -/
def wordDividesSpec : ChangeSpec := { name := "wordDivides", fn := fun _ => fun
  | [d1, d2] => { results := [.lit (.bool true)], args := [d1, d2] }
  | _ => none }
def wordDividesRow : OpenClaim := { program := "ythhhebdcccfgkaa", sum := "8163198522c61e92c952bd3fc9fe836877d9b40fbdd6dc8fdb489e3ff1a0822f", func := "bulkhead/bulkheadlaw01.WordDivides", spec := "wordDivides", apart := false }
def WordDividesSaid : Prop := wordDividesRow.holds Try.pinned (OpenSpec.ofChange wordDividesSpec)

/-- ITS FALSE NEIGHBOUR: 'it returns false'. Refute it at one input. -/
def wordDividesWrong : ChangeSpec := { name := "wordDivides", fn := fun _ => fun
  | [d1, d2] => { results := [.lit (.bool false)], args := [d1, d2] }
  | _ => none }
def WordDividesWrongFalsely : Prop := wordDividesRow.holds Try.pinned (OpenSpec.ofChange wordDividesWrong)

/-- 'bulkheadlaw01.WordOrders': WHATEVER THE INPUT: true; the input reads as it did. -/
def wordOrdersSpec : ChangeSpec := { name := "wordOrders", fn := fun _ => fun
  | [d1, d2] => { results := [.lit (.bool true)], args := [d1, d2] }
  | _ => none }
def wordOrdersRow : OpenClaim := { program := "ythhhebdcccfgkaa", sum := "8163198522c61e92c952bd3fc9fe836877d9b40fbdd6dc8fdb489e3ff1a0822f", func := "bulkhead/bulkheadlaw01.WordOrders", spec := "wordOrders", apart := false }
def WordOrdersSaid : Prop := wordOrdersRow.holds Try.pinned (OpenSpec.ofChange wordOrdersSpec)

/-- ITS FALSE NEIGHBOUR: 'it returns false'. Refute it at one input. -/
def wordOrdersWrong : ChangeSpec := { name := "wordOrders", fn := fun _ => fun
  | [d1, d2] => { results := [.lit (.bool false)], args := [d1, d2] }
  | _ => none }
def WordOrdersWrongFalsely : Prop := wordOrdersRow.holds Try.pinned (OpenSpec.ofChange wordOrdersWrong)

/-- 'bulkheadlaw01.WordShifts': WHATEVER THE INPUT: true; the input reads as it did. -/
def wordShiftsSpec : ChangeSpec := { name := "wordShifts", fn := fun _ => fun
  | [d1, d2, d3] => { results := [.lit (.bool true)], args := [d1, d2, d3] }
  | _ => none }
def wordShiftsRow : OpenClaim := { program := "ythhhebdcccfgkaa", sum := "8163198522c61e92c952bd3fc9fe836877d9b40fbdd6dc8fdb489e3ff1a0822f", func := "bulkhead/bulkheadlaw01.WordShifts", spec := "wordShifts", apart := false }
def WordShiftsSaid : Prop := wordShiftsRow.holds Try.pinned (OpenSpec.ofChange wordShiftsSpec)

/-- ITS FALSE NEIGHBOUR: 'it returns false'. Refute it at one input. -/
def wordShiftsWrong : ChangeSpec := { name := "wordShifts", fn := fun _ => fun
  | [d1, d2, d3] => { results := [.lit (.bool false)], args := [d1, d2, d3] }
  | _ => none }
def WordShiftsWrongFalsely : Prop := wordShiftsRow.holds Try.pinned (OpenSpec.ofChange wordShiftsWrong)

/-- 'bulkheadlaw01.WordBits': WHATEVER THE INPUT: true; the input reads as it did. -/
def wordBitsSpec : ChangeSpec := { name := "wordBits", fn := fun _ => fun
  | [d1, d2, d3] => { results := [.lit (.bool true)], args := [d1, d2, d3] }
  | _ => none }
def wordBitsRow : OpenClaim := { program := "ythhhebdcccfgkaa", sum := "8163198522c61e92c952bd3fc9fe836877d9b40fbdd6dc8fdb489e3ff1a0822f", func := "bulkhead/bulkheadlaw01.WordBits", spec := "wordBits", apart := false }
def WordBitsSaid : Prop := wordBitsRow.holds Try.pinned (OpenSpec.ofChange wordBitsSpec)

/-- ITS FALSE NEIGHBOUR: 'it returns false'. Refute it at one input. -/
def wordBitsWrong : ChangeSpec := { name := "wordBits", fn := fun _ => fun
  | [d1, d2, d3] => { results := [.lit (.bool false)], args := [d1, d2, d3] }
  | _ => none }
def WordBitsWrongFalsely : Prop := wordBitsRow.holds Try.pinned (OpenSpec.ofChange wordBitsWrong)

/- THE SECOND FORM. 'bulk': how many values and letters a reading holds, each counted each time it is reached (what is shared counts as often as it is met; a slice's spare places count too). A statement '..UptoSaid' is the law's where the arguments, and the package variables that the reading takes, are together of bulk at most 1048576: NARROWER than '..Said'. Prove '..Said' where nothing that the law and all that it calls make is longer than what came in: it says more and counts as full. Else prove '..UptoSaid'. A law counts once. -/
mutual
def uptoBulk {H : Type} : DataW H → Nat
  | .lit (.string bytes) => bytes.length + 1
  | .lit _ => 1
  | .nil => 1
  | .ptr d => uptoBulk d + 1
  | .slice elems spare => uptoBulkAll elems + uptoBulkAll spare + 1
  | .agg parts => uptoBulkAll parts + 1
  | .iface _ d => uptoBulk d + 1
  | .map entries => uptoBulkEntries entries + 1
  | .held _ => 1
def uptoBulkAll {H : Type} : List (DataW H) → Nat
  | [] => 0
  | d :: r => uptoBulk d + uptoBulkAll r
def uptoBulkEntries {H : Type} : List (Lit × DataW H) → Nat
  | [] => 0
  | x :: r => uptoBulkEntry x + uptoBulkEntries r
def uptoBulkEntry {H : Type} : Lit × DataW H → Nat
  | (.string bytes, d) => bytes.length + uptoBulk d + 1
  | (_, d) => uptoBulk d + 1
 end
def uptoSmall : (H : Type) → List (DataW H) → Bool := fun _ ds => decide (uptoBulkAll ds ≤ 1048576)
def OpenSpec.upto (s : _root_.Go.ChangeSpec) : _root_.Go.OpenSpec := { _root_.Go.OpenSpec.ofChange s with cond := some uptoSmall }

/-- 'bulkheadlaw01.WordExtends', WHERE WHAT IT READS IS OF BULK AT MOST 1048576: true; the input reads as it did. -/
def wordExtendsUptoRow : OpenClaim := { program := "ythhhebdcccfgkaa", sum := "8163198522c61e92c952bd3fc9fe836877d9b40fbdd6dc8fdb489e3ff1a0822f", func := "bulkhead/bulkheadlaw01.WordExtends", spec := "wordExtends", apart := false, narrowed := true }
def WordExtendsUptoSaid : Prop := wordExtendsUptoRow.holds Try.pinned (OpenSpec.upto wordExtendsSpec)

/-- 'bulkheadlaw01.WordBytes', WHERE WHAT IT READS IS OF BULK AT MOST 1048576: true; the input reads as it did. -/
def wordBytesUptoRow : OpenClaim := { program := "ythhhebdcccfgkaa", sum := "8163198522c61e92c952bd3fc9fe836877d9b40fbdd6dc8fdb489e3ff1a0822f", func := "bulkhead/bulkheadlaw01.WordBytes", spec := "wordBytes", apart := false, narrowed := true }
def WordBytesUptoSaid : Prop := wordBytesUptoRow.holds Try.pinned (OpenSpec.upto wordBytesSpec)

/-- 'bulkheadlaw01.WordBranches', WHERE WHAT IT READS IS OF BULK AT MOST 1048576: true; the input reads as it did. -/
def wordBranchesUptoRow : OpenClaim := { program := "ythhhebdcccfgkaa", sum := "8163198522c61e92c952bd3fc9fe836877d9b40fbdd6dc8fdb489e3ff1a0822f", func := "bulkhead/bulkheadlaw01.WordBranches", spec := "wordBranches", apart := false, narrowed := true }
def WordBranchesUptoSaid : Prop := wordBranchesUptoRow.holds Try.pinned (OpenSpec.upto wordBranchesSpec)

/-- 'bulkheadlaw01.WordAlu', WHERE WHAT IT READS IS OF BULK AT MOST 1048576: true; the input reads as it did. -/
def wordAluUptoRow : OpenClaim := { program := "ythhhebdcccfgkaa", sum := "8163198522c61e92c952bd3fc9fe836877d9b40fbdd6dc8fdb489e3ff1a0822f", func := "bulkhead/bulkheadlaw01.WordAlu", spec := "wordAlu", apart := false, narrowed := true }
def WordAluUptoSaid : Prop := wordAluUptoRow.holds Try.pinned (OpenSpec.upto wordAluSpec)

/-- 'bulkheadlaw01.WordDivides', WHERE WHAT IT READS IS OF BULK AT MOST 1048576: true; the input reads as it did. -/
def wordDividesUptoRow : OpenClaim := { program := "ythhhebdcccfgkaa", sum := "8163198522c61e92c952bd3fc9fe836877d9b40fbdd6dc8fdb489e3ff1a0822f", func := "bulkhead/bulkheadlaw01.WordDivides", spec := "wordDivides", apart := false, narrowed := true }
def WordDividesUptoSaid : Prop := wordDividesUptoRow.holds Try.pinned (OpenSpec.upto wordDividesSpec)

/-- 'bulkheadlaw01.WordOrders', WHERE WHAT IT READS IS OF BULK AT MOST 1048576: true; the input reads as it did. -/
def wordOrdersUptoRow : OpenClaim := { program := "ythhhebdcccfgkaa", sum := "8163198522c61e92c952bd3fc9fe836877d9b40fbdd6dc8fdb489e3ff1a0822f", func := "bulkhead/bulkheadlaw01.WordOrders", spec := "wordOrders", apart := false, narrowed := true }
def WordOrdersUptoSaid : Prop := wordOrdersUptoRow.holds Try.pinned (OpenSpec.upto wordOrdersSpec)

/-- 'bulkheadlaw01.WordShifts', WHERE WHAT IT READS IS OF BULK AT MOST 1048576: true; the input reads as it did. -/
def wordShiftsUptoRow : OpenClaim := { program := "ythhhebdcccfgkaa", sum := "8163198522c61e92c952bd3fc9fe836877d9b40fbdd6dc8fdb489e3ff1a0822f", func := "bulkhead/bulkheadlaw01.WordShifts", spec := "wordShifts", apart := false, narrowed := true }
def WordShiftsUptoSaid : Prop := wordShiftsUptoRow.holds Try.pinned (OpenSpec.upto wordShiftsSpec)

/-- 'bulkheadlaw01.WordBits', WHERE WHAT IT READS IS OF BULK AT MOST 1048576: true; the input reads as it did. -/
def wordBitsUptoRow : OpenClaim := { program := "ythhhebdcccfgkaa", sum := "8163198522c61e92c952bd3fc9fe836877d9b40fbdd6dc8fdb489e3ff1a0822f", func := "bulkhead/bulkheadlaw01.WordBits", spec := "wordBits", apart := false, narrowed := true }
def WordBitsUptoSaid : Prop := wordBitsUptoRow.holds Try.pinned (OpenSpec.upto wordBitsSpec)

end Rows
end Go.Proofs.Ythhhebdcccfgkaa
