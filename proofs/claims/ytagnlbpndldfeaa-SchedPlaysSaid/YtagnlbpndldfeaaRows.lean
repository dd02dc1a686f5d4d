/-
  No cell of these rows narrows 'for every input' (looked for: loops, veiled, ifaces, maps, wideKeys, modest, calm, conditions, laid).
  DERIVED. THE GIVEN ROWS OF THIS SEAT. 4 by the template 'for every input the law returns true; each argument reads behind the call as it read before'; 0 by the template 'total and deterministic' (their statements: YtagnlbpndldfeaaTotals.lean).
  GIVEN WITH THE SEED: the statements are not yours to turn. If you find one false, say at which input.
  Laid BY PROGRAM, IN A SANDBOX (cutbox-rows.mjs): the forced cells as the released guide's own fill.sh prints them over the translation f28eb9800fdd54d3… (all of the seat's roots in one cut). By AI agents, Wed Nov 11 2026. No macro, syntax, notation, axiom, sorry.
-/
import Derived.Test.YtagnlbpndldfeaaChecked
import GoSem.Claim
import GoSem.ClaimJoined
import GoSem.ClaimMapViews
import Derived.JoinedTies
import Derived.KernelRfl
namespace Go.Proofs.Ytagnlbpndldfeaa
/- THE CELL 'sum', in the pinned program and in every row, IS THE sha256 OF THE DUMP (.gsa) THAT YtagnlbpndldfeaaProg.lean LOADS. Nothing in Lean hashes anything: it is a label: what it is worth is what the hold of that sum in a sandbox is worth. -/
noncomputable def Try.pinned : Pinned := { name := "ytagnlbpndldfeaa", sum := "f28eb9800fdd54d3871ed56d481187b90963d575e18370913f7bca0b2d719b3c", checked := Try.checked }
namespace Rows
def none {H : Type} : Left H := { results := [], args := [] }

/-- 'bulkheadlaw25.SchedShares': WHATEVER THE INPUT: true; the input reads as it did. -/
def schedSharesSpec : ChangeSpec := { name := "schedShares", fn := fun _ => fun
  | [d1, d2, d3] => { results := [.lit (.bool true)], args := [d1, d2, d3] }
  | _ => none }
def schedSharesRow : OpenClaim := { program := "ytagnlbpndldfeaa", sum := "f28eb9800fdd54d3871ed56d481187b90963d575e18370913f7bca0b2d719b3c", func := "bulkhead/bulkheadlaw25.SchedShares", spec := "schedShares", apart := false }
def SchedSharesSaid : Prop := schedSharesRow.holds Try.pinned (OpenSpec.ofChange schedSharesSpec)

/-- ITS FALSE NEIGHBOUR: 'it returns false'. Refute it at one input. -/
def schedSharesWrong : ChangeSpec := { name := "schedShares", fn := fun _ => fun
  | [d1, d2, d3] => { results := [.lit (.bool false)], args := [d1, d2, d3] }
  | _ => none }
def SchedSharesWrongFalsely : Prop := schedSharesRow.holds Try.pinned (OpenSpec.ofChange schedSharesWrong)

/-- 'bulkheadlaw25.SchedBlind': WHATEVER THE INPUT: true; the input reads as it did. -/
def schedBlindSpec : ChangeSpec := { name := "schedBlind", fn := fun _ => fun
  | [d1, d2, d3, d4, d5] => { results := [.lit (.bool true)], args := [d1, d2, d3, d4, d5] }
  | _ => none }
def schedBlindRow : OpenClaim := { program := "ytagnlbpndldfeaa", sum := "f28eb9800fdd54d3871ed56d481187b90963d575e18370913f7bca0b2d719b3c", func := "bulkhead/bulkheadlaw25.SchedBlind", spec := "schedBlind", apart := false }
def SchedBlindSaid : Prop := schedBlindRow.holds Try.pinned (OpenSpec.ofChange schedBlindSpec)

/-- ITS FALSE NEIGHBOUR: 'it returns false'. Refute it at one input. -/
def schedBlindWrong : ChangeSpec := { name := "schedBlind", fn := fun _ => fun
  | [d1, d2, d3, d4, d5] => { results := [.lit (.bool false)], args := [d1, d2, d3, d4, d5] }
  | _ => none }
def SchedBlindWrongFalsely : Prop := schedBlindRow.holds Try.pinned (OpenSpec.ofChange schedBlindWrong)

/-- 'bulkheadlaw25.SchedCycles': WHATEVER THE INPUT: true; the input reads as it did. -/
def schedCyclesSpec : ChangeSpec := { name := "schedCycles", fn := fun _ => fun
  | [d1, d2, d3] => { results := [.lit (.bool true)], args := [d1, d2, d3] }
  | _ => none }
def schedCyclesRow : OpenClaim := { program := "ytagnlbpndldfeaa", sum := "f28eb9800fdd54d3871ed56d481187b90963d575e18370913f7bca0b2d719b3c", func := "bulkhead/bulkheadlaw25.SchedCycles", spec := "schedCycles", apart := false }
def SchedCyclesSaid : Prop := schedCyclesRow.holds Try.pinned (OpenSpec.ofChange schedCyclesSpec)

/-- ITS FALSE NEIGHBOUR: 'it returns false'. Refute it at one input. -/
def schedCyclesWrong : ChangeSpec := { name := "schedCycles", fn := fun _ => fun
  | [d1, d2, d3] => { results := [.lit (.bool false)], args := [d1, d2, d3] }
  | _ => none }
def SchedCyclesWrongFalsely : Prop := schedCyclesRow.holds Try.pinned (OpenSpec.ofChange schedCyclesWrong)

/-- 'bulkheadlaw25.SchedPlays': WHATEVER THE INPUT: true; the input reads as it did. -/
def schedPlaysSpec : ChangeSpec := { name := "schedPlays", fn := fun _ => fun
  | [d1, d2] => { results := [.lit (.bool true)], args := [d1, d2] }
  | _ => none }
def schedPlaysRow : OpenClaim := { program := "ytagnlbpndldfeaa", sum := "f28eb9800fdd54d3871ed56d481187b90963d575e18370913f7bca0b2d719b3c", func := "bulkhead/bulkheadlaw25.SchedPlays", spec := "schedPlays", apart := false }
def SchedPlaysSaid : Prop := schedPlaysRow.holds Try.pinned (OpenSpec.ofChange schedPlaysSpec)

/-- ITS FALSE NEIGHBOUR: 'it returns false'. Refute it at one input. -/
def schedPlaysWrong : ChangeSpec := { name := "schedPlays", fn := fun _ => fun
  | [d1, d2] => { results := [.lit (.bool false)], args := [d1, d2] }
  | _ => none }
def SchedPlaysWrongFalsely : Prop := schedPlaysRow.holds Try.pinned (OpenSpec.ofChange schedPlaysWrong)

/- THE SECOND FORM. 'bulk': how many values and letters a reading holds, each counted each time it is reached (what is shared counts as often as it is met; a slice's spare places count too). A statement '..UptoSaid' is the law's where the arguments, and the package variables that the reading takes, are together of bulk at most 1048576: NARROWER than '..Said'. Prove '..Said' where nothing that the law and all that it calls make is longer than what came in: it says more and counts as full. Else prove '..UptoSaid'. A law counts once. -/
mutual
def uptoBulk {H : Type} : DataW H → Nat
  | .lit (.string bytes) => bytes.length + 1
  | .lit _ => 1
  | .nil => 1
  | .ptr d => uptoBulk d + 1
  | .slice elems spare => uptoBulkAll elems + uptoBulkAll spare + 1
  | .agg parts => uptoBulkAll parts + 1
  | .iface _ d => uptoBulk d + 1
  | .map entries => uptoBulkEntries entries + 1
  | .held _ => 1
def uptoBulkAll {H : Type} : List (DataW H) → Nat
  | [] => 0
  | d :: r => uptoBulk d + uptoBulkAll r
def uptoBulkEntries {H : Type} : List (Lit × DataW H) → Nat
  | [] => 0
  | x :: r => uptoBulkEntry x + uptoBulkEntries r
def uptoBulkEntry {H : Type} : Lit × DataW H → Nat
  | (.string bytes, d) => bytes.length + uptoBulk d + 1
  | (_, d) => uptoBulk d + 1
 end
def uptoSmall : (H : Type) → List (DataW H) → Bool := fun _ ds => decide (uptoBulkAll ds ≤ 1048576)
def OpenSpec.upto (s : _root_.Go.ChangeSpec) : _root_.Go.OpenSpec := { _root_.Go.OpenSpec.ofChange s with cond := some uptoSmall }

/-- 'bulkheadlaw25.SchedShares', WHERE WHAT IT READS IS OF BULK AT MOST 1048576: true; the input reads as it did. -/
def schedSharesUptoRow : OpenClaim := { program := "ytagnlbpndldfeaa", sum := "f28eb9800fdd54d3871ed56d481187b90963d575e18370913f7bca0b2d719b3c", func := "bulkhead/bulkheadlaw25.SchedShares", spec := "schedShares", apart := false, narrowed := true }
def SchedSharesUptoSaid : Prop := schedSharesUptoRow.holds Try.pinned (OpenSpec.upto schedSharesSpec)

/-- 'bulkheadlaw25.SchedBlind', WHERE WHAT IT READS IS OF BULK AT MOST 1048576: true; the input reads as it did. -/
def schedBlindUptoRow : OpenClaim := { program := "ytagnlbpndldfeaa", sum := "f28eb9800fdd54d3871ed56d481187b90963d575e18370913f7bca0b2d719b3c", func := "bulkhead/bulkheadlaw25.SchedBlind", spec := "schedBlind", apart := false, narrowed := true }
def SchedBlindUptoSaid : Prop := schedBlindUptoRow.holds Try.pinned (OpenSpec.upto schedBlindSpec)

/-- 'bulkheadlaw25.SchedCycles', WHERE WHAT IT READS IS OF BULK AT MOST 1048576: true; the input reads as it did. -/
def schedCyclesUptoRow : OpenClaim := { program := "ytagnlbpndldfeaa", sum := "f28eb9800fdd54d3871ed56d481187b90963d575e18370913f7bca0b2d719b3c", func := "bulkhead/bulkheadlaw25.SchedCycles", spec := "schedCycles", apart := false, narrowed := true }
def SchedCyclesUptoSaid : Prop := schedCyclesUptoRow.holds Try.pinned (OpenSpec.upto schedCyclesSpec)

/-- 'bulkheadlaw25.SchedPlays', WHERE WHAT IT READS IS OF BULK AT MOST 1048576: true; the input reads as it did. -/
def schedPlaysUptoRow : OpenClaim := { program := "ytagnlbpndldfeaa", sum := "f28eb9800fdd54d3871ed56d481187b90963d575e18370913f7bca0b2d719b3c", func := "bulkhead/bulkheadlaw25.SchedPlays", spec := "schedPlays", apart := false, narrowed := true }
def SchedPlaysUptoSaid : Prop := schedPlaysUptoRow.holds Try.pinned (OpenSpec.upto schedPlaysSpec)

end Rows
end Go.Proofs.Ytagnlbpndldfeaa
