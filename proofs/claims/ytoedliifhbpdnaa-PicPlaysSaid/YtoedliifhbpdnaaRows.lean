/-
  No cell of these rows narrows 'for every input' (looked for: loops, veiled, ifaces, maps, wideKeys, modest, calm, conditions, laid).
  DERIVED. THE GIVEN ROWS OF THIS SEAT. 3 by the template 'for every input the law returns true; each argument reads behind the call as it read before'; 0 by the template 'total and deterministic' (their statements: YtoedliifhbpdnaaTotals.lean).
  GIVEN WITH THE SEED: the statements are not yours to turn. If you find one false, say at which input.
  Laid BY PROGRAM, IN A SANDBOX (cutbox-rows.mjs): the forced cells as the released guide's own fill.sh prints them over the translation bb902edd941f2bf9… (all of the seat's roots in one cut). By AI agents, Wed Nov 11 2026. No macro, syntax, notation, axiom, sorry.
-/
import Derived.Test.YtoedliifhbpdnaaChecked
import GoSem.Claim
import GoSem.ClaimJoined
import GoSem.ClaimMapViews
import Derived.JoinedTies
import Derived.KernelRfl
namespace Go.Proofs.Ytoedliifhbpdnaa
/- THE CELL 'sum', in the pinned program and in every row, IS THE sha256 OF THE DUMP (.gsa) THAT YtoedliifhbpdnaaProg.lean LOADS. Nothing in Lean hashes anything: it is a label: what it is worth is what the hold of that sum in a sandbox is worth. -/
noncomputable def Try.pinned : Pinned := { name := "ytoedliifhbpdnaa", sum := "bb902edd941f2bf9842cc08393b454454fca59877b4b898411e5cac2978abb7e", checked := Try.checked }
namespace Rows
def none {H : Type} : Left H := { results := [], args := [] }

/-- 'bulkheadlaw06.PicDrains': WHATEVER THE INPUT: true; the input reads as it did. -/
def picDrainsSpec : ChangeSpec := { name := "picDrains", fn := fun _ => fun
  | [d1, d2, d3] => { results := [.lit (.bool true)], args := [d1, d2, d3] }
  | _ => none }
def picDrainsRow : OpenClaim := { program := "ytoedliifhbpdnaa", sum := "bb902edd941f2bf9842cc08393b454454fca59877b4b898411e5cac2978abb7e", func := "bulkhead/bulkheadlaw06.PicDrains", spec := "picDrains", apart := false }
def PicDrainsSaid : Prop := picDrainsRow.holds Try.pinned (OpenSpec.ofChange picDrainsSpec)

/-- ITS FALSE NEIGHBOUR: 'it returns false'. Refute it at one input. -/
def picDrainsWrong : ChangeSpec := { name := "picDrains", fn := fun _ => fun
  | [d1, d2, d3] => { results := [.lit (.bool false)], args := [d1, d2, d3] }
  | _ => none }
def PicDrainsWrongFalsely : Prop := picDrainsRow.holds Try.pinned (OpenSpec.ofChange picDrainsWrong)

/-- 'bulkheadlaw06.PicMasks': WHATEVER THE INPUT: true; the input reads as it did. -/
def picMasksSpec : ChangeSpec := { name := "picMasks", fn := fun _ => fun
  | [d1, d2, d3] => { results := [.lit (.bool true)], args := [d1, d2, d3] }
  | _ => none }
def picMasksRow : OpenClaim := { program := "ytoedliifhbpdnaa", sum := "bb902edd941f2bf9842cc08393b454454fca59877b4b898411e5cac2978abb7e", func := "bulkhead/bulkheadlaw06.PicMasks", spec := "picMasks", apart := false }
def PicMasksSaid : Prop := picMasksRow.holds Try.pinned (OpenSpec.ofChange picMasksSpec)

/-- ITS FALSE NEIGHBOUR: 'it returns false'. Refute it at one input. -/
def picMasksWrong : ChangeSpec := { name := "picMasks", fn := fun _ => fun
  | [d1, d2, d3] => { results := [.lit (.bool false)], args := [d1, d2, d3] }
  | _ => none }
def PicMasksWrongFalsely : Prop := picMasksRow.holds Try.pinned (OpenSpec.ofChange picMasksWrong)

/-- 'bulkheadlaw06.PicPlays': WHATEVER THE INPUT: true; the input reads as it did. -/
def picPlaysSpec : ChangeSpec := { name := "picPlays", fn := fun _ => fun
  | [d1, d2] => { results := [.lit (.bool true)], args := [d1, d2] }
  | _ => none }
def picPlaysRow : OpenClaim := { program := "ytoedliifhbpdnaa", sum := "bb902edd941f2bf9842cc08393b454454fca59877b4b898411e5cac2978abb7e", func := "bulkhead/bulkheadlaw06.PicPlays", spec := "picPlays", apart := false }
def PicPlaysSaid : Prop := picPlaysRow.holds Try.pinned (OpenSpec.ofChange picPlaysSpec)

/-- ITS FALSE NEIGHBOUR: 'it returns false'. Refute it at one input. -/
def picPlaysWrong : ChangeSpec := { name := "picPlays", fn := fun _ => fun
  | [d1, d2] => { results := [.lit (.bool false)], args := [d1, d2] }
  | _ => none }
def PicPlaysWrongFalsely : Prop := picPlaysRow.holds Try.pinned (OpenSpec.ofChange picPlaysWrong)

/- THE SECOND FORM. 'bulk': how many values and letters a reading holds, each counted each time it is reached (what is shared counts as often as it is met; a slice's spare places count too). A statement '..UptoSaid' is the law's where the arguments, and the package variables that the reading takes, are together of bulk at most 1048576: NARROWER than '..Said'. Prove '..Said' where nothing that the law and all that it calls make is longer than what came in: it says more and counts as full. Else prove '..UptoSaid'. A law counts once. -/
mutual
def uptoBulk {H : Type} : DataW H → Nat
  | .lit (.string bytes) => bytes.length + 1
  | .lit _ => 1
  | .nil => 1
  | .ptr d => uptoBulk d + 1
  | .slice elems spare => uptoBulkAll elems + uptoBulkAll spare + 1
  | .agg parts => uptoBulkAll parts + 1
  | .iface _ d => uptoBulk d + 1
  | .map entries => uptoBulkEntries entries + 1
  | .held _ => 1
def uptoBulkAll {H : Type} : List (DataW H) → Nat
  | [] => 0
  | d :: r => uptoBulk d + uptoBulkAll r
def uptoBulkEntries {H : Type} : List (Lit × DataW H) → Nat
  | [] => 0
  | x :: r => uptoBulkEntry x + uptoBulkEntries r
def uptoBulkEntry {H : Type} : Lit × DataW H → Nat
  | (.string bytes, d) => bytes.length + uptoBulk d + 1
  | (_, d) => uptoBulk d + 1
 end
def uptoSmall : (H : Type) → List (DataW H) → Bool := fun _ ds => decide (uptoBulkAll ds ≤ 1048576)
def OpenSpec.upto (s : _root_.Go.ChangeSpec) : _root_.Go.OpenSpec := { _root_.Go.OpenSpec.ofChange s with cond := some uptoSmall }

/-- 'bulkheadlaw06.PicDrains', WHERE WHAT IT READS IS OF BULK AT MOST 1048576: true; the input reads as it did. -/
def picDrainsUptoRow : OpenClaim := { program := "ytoedliifhbpdnaa", sum := "bb902edd941f2bf9842cc08393b454454fca59877b4b898411e5cac2978abb7e", func := "bulkhead/bulkheadlaw06.PicDrains", spec := "picDrains", apart := false, narrowed := true }
def PicDrainsUptoSaid : Prop := picDrainsUptoRow.holds Try.pinned (OpenSpec.upto picDrainsSpec)

/-- 'bulkheadlaw06.PicMasks', WHERE WHAT IT READS IS OF BULK AT MOST 1048576: true; the input reads as it did. -/
def picMasksUptoRow : OpenClaim := { program := "ytoedliifhbpdnaa", sum := "bb902edd941f2bf9842cc08393b454454fca59877b4b898411e5cac2978abb7e", func := "bulkhead/bulkheadlaw06.PicMasks", spec := "picMasks", apart := false, narrowed := true }
def PicMasksUptoSaid : Prop := picMasksUptoRow.holds Try.pinned (OpenSpec.upto picMasksSpec)

/-- 'bulkheadlaw06.PicPlays', WHERE WHAT IT READS IS OF BULK AT MOST 1048576: true; the input reads as it did. -/
def picPlaysUptoRow : OpenClaim := { program := "ytoedliifhbpdnaa", sum := "bb902edd941f2bf9842cc08393b454454fca59877b4b898411e5cac2978abb7e", func := "bulkhead/bulkheadlaw06.PicPlays", spec := "picPlays", apart := false, narrowed := true }
def PicPlaysUptoSaid : Prop := picPlaysUptoRow.holds Try.pinned (OpenSpec.upto picPlaysSpec)

end Rows
end Go.Proofs.Ytoedliifhbpdnaa
