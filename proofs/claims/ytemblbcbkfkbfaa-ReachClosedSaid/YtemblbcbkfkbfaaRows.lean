/-
  No cell of these rows narrows 'for every input' (looked for: loops, veiled, ifaces, maps, wideKeys, modest, calm, conditions, laid).
  DERIVED. THE GIVEN ROWS OF THIS SEAT. 3 by the template 'for every input the law returns true; each argument reads behind the call as it read before'; 0 by the template 'total and deterministic' (their statements: YtemblbcbkfkbfaaTotals.lean).
  GIVEN WITH THE SEED: the statements are not yours to turn. If you find one false, say at which input.
  Laid BY PROGRAM, IN A SANDBOX (cutbox-rows.mjs): the forced cells as the released guide's own fill.sh prints them over the translation caf881ddf334a11e… (all of the seat's roots in one cut). By AI agents, Wed Nov 11 2026. No macro, syntax, notation, axiom, sorry.
-/
import Derived.Test.YtemblbcbkfkbfaaChecked
import GoSem.Claim
import GoSem.ClaimJoined
import GoSem.ClaimMapViews
import Derived.JoinedTies
import Derived.KernelRfl
namespace Go.Proofs.Ytemblbcbkfkbfaa
/- THE CELL 'sum', in the pinned program and in every row, IS THE sha256 OF THE DUMP (.gsa) THAT YtemblbcbkfkbfaaProg.lean LOADS. Nothing in Lean hashes anything: it is a label: what it is worth is what the hold of that sum in a sandbox is worth. -/
noncomputable def Try.pinned : Pinned := { name := "ytemblbcbkfkbfaa", sum := "caf881ddf334a11edd5e32a8abe258b3738feb40bc75fc3331c9be1c131d7788", checked := Try.checked }
namespace Rows
def none {H : Type} : Left H := { results := [], args := [] }

/-- 'bulkheadlaw29.ReachSets': WHATEVER THE INPUT: true; the input reads as it did. -/
def reachSetsSpec : ChangeSpec := { name := "reachSets", fn := fun _ => fun
  | [d1, d2] => { results := [.lit (.bool true)], args := [d1, d2] }
  | _ => none }
def reachSetsRow : OpenClaim := { program := "ytemblbcbkfkbfaa", sum := "caf881ddf334a11edd5e32a8abe258b3738feb40bc75fc3331c9be1c131d7788", func := "bulkhead/bulkheadlaw29.ReachSets", spec := "reachSets", unfollowed := true, recurses := true, apart := false }
def ReachSetsSaid : Prop := reachSetsRow.holds Try.pinned (OpenSpec.ofChange reachSetsSpec)

/-- ITS FALSE NEIGHBOUR: 'it returns false'. Refute it at one input. -/
def reachSetsWrong : ChangeSpec := { name := "reachSets", fn := fun _ => fun
  | [d1, d2] => { results := [.lit (.bool false)], args := [d1, d2] }
  | _ => none }
def ReachSetsWrongFalsely : Prop := reachSetsRow.holds Try.pinned (OpenSpec.ofChange reachSetsWrong)

/-- 'bulkheadlaw29.ReachClosed': WHATEVER THE INPUT: true; the input reads as it did. -/
def reachClosedSpec : ChangeSpec := { name := "reachClosed", fn := fun _ => fun
  | [d1, d2] => { results := [.lit (.bool true)], args := [d1, d2] }
  | _ => none }
def reachClosedRow : OpenClaim := { program := "ytemblbcbkfkbfaa", sum := "caf881ddf334a11edd5e32a8abe258b3738feb40bc75fc3331c9be1c131d7788", func := "bulkhead/bulkheadlaw29.ReachClosed", spec := "reachClosed", unfollowed := true, recurses := true, apart := false }
def ReachClosedSaid : Prop := reachClosedRow.holds Try.pinned (OpenSpec.ofChange reachClosedSpec)

/-- ITS FALSE NEIGHBOUR: 'it returns false'. Refute it at one input. -/
def reachClosedWrong : ChangeSpec := { name := "reachClosed", fn := fun _ => fun
  | [d1, d2] => { results := [.lit (.bool false)], args := [d1, d2] }
  | _ => none }
def ReachClosedWrongFalsely : Prop := reachClosedRow.holds Try.pinned (OpenSpec.ofChange reachClosedWrong)

/-- 'bulkheadlaw29.ReachGrows': WHATEVER THE INPUT: true; the input reads as it did. -/
def reachGrowsSpec : ChangeSpec := { name := "reachGrows", fn := fun _ => fun
  | [d1, d2, d3] => { results := [.lit (.bool true)], args := [d1, d2, d3] }
  | _ => none }
def reachGrowsRow : OpenClaim := { program := "ytemblbcbkfkbfaa", sum := "caf881ddf334a11edd5e32a8abe258b3738feb40bc75fc3331c9be1c131d7788", func := "bulkhead/bulkheadlaw29.ReachGrows", spec := "reachGrows", unfollowed := true, recurses := true, apart := false }
def ReachGrowsSaid : Prop := reachGrowsRow.holds Try.pinned (OpenSpec.ofChange reachGrowsSpec)

/-- ITS FALSE NEIGHBOUR: 'it returns false'. Refute it at one input. -/
def reachGrowsWrong : ChangeSpec := { name := "reachGrows", fn := fun _ => fun
  | [d1, d2, d3] => { results := [.lit (.bool false)], args := [d1, d2, d3] }
  | _ => none }
def ReachGrowsWrongFalsely : Prop := reachGrowsRow.holds Try.pinned (OpenSpec.ofChange reachGrowsWrong)

/- THE SECOND FORM. 'bulk': how many values and letters a reading holds, each counted each time it is reached (what is shared counts as often as it is met; a slice's spare places count too). A statement '..UptoSaid' is the law's where the arguments, and the package variables that the reading takes, are together of bulk at most 1048576: NARROWER than '..Said'. Prove '..Said' where nothing that the law and all that it calls make is longer than what came in: it says more and counts as full. Else prove '..UptoSaid'. A law counts once. -/
mutual
def uptoBulk {H : Type} : DataW H → Nat
  | .lit (.string bytes) => bytes.length + 1
  | .lit _ => 1
  | .nil => 1
  | .ptr d => uptoBulk d + 1
  | .slice elems spare => uptoBulkAll elems + uptoBulkAll spare + 1
  | .agg parts => uptoBulkAll parts + 1
  | .iface _ d => uptoBulk d + 1
  | .map entries => uptoBulkEntries entries + 1
  | .held _ => 1
def uptoBulkAll {H : Type} : List (DataW H) → Nat
  | [] => 0
  | d :: r => uptoBulk d + uptoBulkAll r
def uptoBulkEntries {H : Type} : List (Lit × DataW H) → Nat
  | [] => 0
  | x :: r => uptoBulkEntry x + uptoBulkEntries r
def uptoBulkEntry {H : Type} : Lit × DataW H → Nat
  | (.string bytes, d) => bytes.length + uptoBulk d + 1
  | (_, d) => uptoBulk d + 1
 end
def uptoSmall : (H : Type) → List (DataW H) → Bool := fun _ ds => decide (uptoBulkAll ds ≤ 1048576)
def OpenSpec.upto (s : _root_.Go.ChangeSpec) : _root_.Go.OpenSpec := { _root_.Go.OpenSpec.ofChange s with cond := some uptoSmall }

/-- 'bulkheadlaw29.ReachSets', WHERE WHAT IT READS IS OF BULK AT MOST 1048576: true; the input reads as it did. -/
def reachSetsUptoRow : OpenClaim := { program := "ytemblbcbkfkbfaa", sum := "caf881ddf334a11edd5e32a8abe258b3738feb40bc75fc3331c9be1c131d7788", func := "bulkhead/bulkheadlaw29.ReachSets", spec := "reachSets", unfollowed := true, recurses := true, apart := false, narrowed := true }
def ReachSetsUptoSaid : Prop := reachSetsUptoRow.holds Try.pinned (OpenSpec.upto reachSetsSpec)

/-- 'bulkheadlaw29.ReachClosed', WHERE WHAT IT READS IS OF BULK AT MOST 1048576: true; the input reads as it did. -/
def reachClosedUptoRow : OpenClaim := { program := "ytemblbcbkfkbfaa", sum := "caf881ddf334a11edd5e32a8abe258b3738feb40bc75fc3331c9be1c131d7788", func := "bulkhead/bulkheadlaw29.ReachClosed", spec := "reachClosed", unfollowed := true, recurses := true, apart := false, narrowed := true }
def ReachClosedUptoSaid : Prop := reachClosedUptoRow.holds Try.pinned (OpenSpec.upto reachClosedSpec)

/-- 'bulkheadlaw29.ReachGrows', WHERE WHAT IT READS IS OF BULK AT MOST 1048576: true; the input reads as it did. -/
def reachGrowsUptoRow : OpenClaim := { program := "ytemblbcbkfkbfaa", sum := "caf881ddf334a11edd5e32a8abe258b3738feb40bc75fc3331c9be1c131d7788", func := "bulkhead/bulkheadlaw29.ReachGrows", spec := "reachGrows", unfollowed := true, recurses := true, apart := false, narrowed := true }
def ReachGrowsUptoSaid : Prop := reachGrowsUptoRow.holds Try.pinned (OpenSpec.upto reachGrowsSpec)

end Rows
end Go.Proofs.Ytemblbcbkfkbfaa
