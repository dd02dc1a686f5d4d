/-
  DERIVED. GIVEN WITH THE SEED: THE CARDS: each row of YtjaeligjcgjamaaDoorRows.lean that lists a variable, with what it lists TIED to the program's text (the seventh form; the later family's looks); each row that meets fmt, with fmt's text TOLD by the authors' own Lean function (tested against real Go, not proved from fmt's source: count such statements apart). THE CARD IS WHAT COUNTS. Prove the row's statement (the work); the ties are given (YtjaeligjcgjamaaDoorTie.lean); close each card by the builder's one call (the guide's Derived/Test/ToyasCard.lean, 'card_holds'). Laid BY PROGRAM, IN A SANDBOX (cutbox-door.mjs). By AI agents, Wed Nov 11 2026. No macro, syntax, notation, axiom, sorry.
-/
import Derived.Test.YtjaeligjcgjamaaDoorRows
import GoSem.ClaimSeven
namespace Go.Proofs.YtjaeligjcgjamaaDoor
namespace Rows

/-- THE TIED CARD OF 'bulkheadlaw02.RealTexts'. -/
def realTextsCard : Claim7 := { stood := { row := realTextsRow, standIns := [], harness := (true, "fa5b600c81f5b4751d1da98a1824ea437b9055fbf4d4e8f74f3aae69e78229e5"), looks := true }, kinds := [], alts := [], laidByText := true, laidKinds := [.data, .data, .data, .data, .sentinel, .sentinel, .pinned], laidTests := true, laidLooks := .later }
def RealTextsCardSaid : Prop := Claim7.holds Tryd.pinned (.plain (OpenSpec.ofChange realTextsSpec)) realTextsCard

/-- THE TIED CARD OF 'bulkheadlaw02.RealBack'. -/
def realBackCard : Claim7 := { stood := { row := realBackRow, standIns := [], harness := (true, "fa5b600c81f5b4751d1da98a1824ea437b9055fbf4d4e8f74f3aae69e78229e5"), looks := true }, kinds := [], alts := [], laidByText := true, laidKinds := [.data, .data, .data, .data, .sentinel, .sentinel, .pinned], laidTests := true, laidLooks := .later }
def RealBackCardSaid : Prop := Claim7.holds Tryd.pinned (.plain (OpenSpec.ofChange realBackSpec)) realBackCard

/-- THE TIED CARD OF 'bulkheadlaw02.RealClasses'. -/
def realClassesCard : Claim7 := { stood := { row := realClassesRow, standIns := [], harness := (true, "fa5b600c81f5b4751d1da98a1824ea437b9055fbf4d4e8f74f3aae69e78229e5"), looks := true }, kinds := [], alts := [], laidByText := true, laidKinds := [.data, .data, .data, .data, .sentinel, .sentinel, .pinned], laidTests := true, laidLooks := .later }
def RealClassesCardSaid : Prop := Claim7.holds Tryd.pinned (.plain (OpenSpec.ofChange realClassesSpec)) realClassesCard

/-- THE TIED CARD OF 'bulkheadlaw02.RealTurns'. -/
def realTurnsCard : Claim7 := { stood := { row := realTurnsRow, standIns := [], harness := (true, "fa5b600c81f5b4751d1da98a1824ea437b9055fbf4d4e8f74f3aae69e78229e5"), looks := true }, kinds := [], alts := [], laidByText := true, laidKinds := [.data, .data, .data, .data, .sentinel, .sentinel, .pinned], laidTests := true, laidLooks := .later }
def RealTurnsCardSaid : Prop := Claim7.holds Tryd.pinned (.plain (OpenSpec.ofChange realTurnsSpec)) realTurnsCard

/-- THE TIED CARD OF 'bulkheadlaw02.RealZeros'. -/
def realZerosCard : Claim7 := { stood := { row := realZerosRow, standIns := [], harness := (true, "fa5b600c81f5b4751d1da98a1824ea437b9055fbf4d4e8f74f3aae69e78229e5"), looks := true }, kinds := [], alts := [], laidByText := true, laidKinds := [.data, .data, .data, .data, .sentinel, .sentinel, .pinned], laidTests := true, laidLooks := .later }
def RealZerosCardSaid : Prop := Claim7.holds Tryd.pinned (.plain (OpenSpec.ofChange realZerosSpec)) realZerosCard

/-- THE TIED CARD OF 'bulkheadlaw02.RealOrder'. -/
def realOrderCard : Claim7 := { stood := { row := realOrderRow, standIns := [], harness := (true, "fa5b600c81f5b4751d1da98a1824ea437b9055fbf4d4e8f74f3aae69e78229e5"), looks := true }, kinds := [], alts := [], laidByText := true, laidKinds := [.data, .data, .data, .data, .sentinel, .sentinel, .pinned], laidTests := true, laidLooks := .later }
def RealOrderCardSaid : Prop := Claim7.holds Tryd.pinned (.plain (OpenSpec.ofChange realOrderSpec)) realOrderCard

/-- THE SECOND FORM's CARD OF 'bulkheadlaw02.RealTexts'. -/
def realTextsUptoCard : Claim7 := { stood := { row := realTextsUptoRow, standIns := [], harness := (true, "fa5b600c81f5b4751d1da98a1824ea437b9055fbf4d4e8f74f3aae69e78229e5"), looks := true }, kinds := [], alts := [], laidByText := true, laidKinds := [.data, .data, .data, .data, .sentinel, .sentinel, .pinned], laidTests := true, laidLooks := .later }
def RealTextsUptoCardSaid : Prop := Claim7.holds Tryd.pinned (.plain (OpenSpec.upto realTextsSpec)) realTextsUptoCard

/-- THE SECOND FORM's CARD OF 'bulkheadlaw02.RealBack'. -/
def realBackUptoCard : Claim7 := { stood := { row := realBackUptoRow, standIns := [], harness := (true, "fa5b600c81f5b4751d1da98a1824ea437b9055fbf4d4e8f74f3aae69e78229e5"), looks := true }, kinds := [], alts := [], laidByText := true, laidKinds := [.data, .data, .data, .data, .sentinel, .sentinel, .pinned], laidTests := true, laidLooks := .later }
def RealBackUptoCardSaid : Prop := Claim7.holds Tryd.pinned (.plain (OpenSpec.upto realBackSpec)) realBackUptoCard

/-- THE SECOND FORM's CARD OF 'bulkheadlaw02.RealClasses'. -/
def realClassesUptoCard : Claim7 := { stood := { row := realClassesUptoRow, standIns := [], harness := (true, "fa5b600c81f5b4751d1da98a1824ea437b9055fbf4d4e8f74f3aae69e78229e5"), looks := true }, kinds := [], alts := [], laidByText := true, laidKinds := [.data, .data, .data, .data, .sentinel, .sentinel, .pinned], laidTests := true, laidLooks := .later }
def RealClassesUptoCardSaid : Prop := Claim7.holds Tryd.pinned (.plain (OpenSpec.upto realClassesSpec)) realClassesUptoCard

/-- THE SECOND FORM's CARD OF 'bulkheadlaw02.RealTurns'. -/
def realTurnsUptoCard : Claim7 := { stood := { row := realTurnsUptoRow, standIns := [], harness := (true, "fa5b600c81f5b4751d1da98a1824ea437b9055fbf4d4e8f74f3aae69e78229e5"), looks := true }, kinds := [], alts := [], laidByText := true, laidKinds := [.data, .data, .data, .data, .sentinel, .sentinel, .pinned], laidTests := true, laidLooks := .later }
def RealTurnsUptoCardSaid : Prop := Claim7.holds Tryd.pinned (.plain (OpenSpec.upto realTurnsSpec)) realTurnsUptoCard

/-- THE SECOND FORM's CARD OF 'bulkheadlaw02.RealZeros'. -/
def realZerosUptoCard : Claim7 := { stood := { row := realZerosUptoRow, standIns := [], harness := (true, "fa5b600c81f5b4751d1da98a1824ea437b9055fbf4d4e8f74f3aae69e78229e5"), looks := true }, kinds := [], alts := [], laidByText := true, laidKinds := [.data, .data, .data, .data, .sentinel, .sentinel, .pinned], laidTests := true, laidLooks := .later }
def RealZerosUptoCardSaid : Prop := Claim7.holds Tryd.pinned (.plain (OpenSpec.upto realZerosSpec)) realZerosUptoCard

/-- THE SECOND FORM's CARD OF 'bulkheadlaw02.RealOrder'. -/
def realOrderUptoCard : Claim7 := { stood := { row := realOrderUptoRow, standIns := [], harness := (true, "fa5b600c81f5b4751d1da98a1824ea437b9055fbf4d4e8f74f3aae69e78229e5"), looks := true }, kinds := [], alts := [], laidByText := true, laidKinds := [.data, .data, .data, .data, .sentinel, .sentinel, .pinned], laidTests := true, laidLooks := .later }
def RealOrderUptoCardSaid : Prop := Claim7.holds Tryd.pinned (.plain (OpenSpec.upto realOrderSpec)) realOrderUptoCard
end Rows
end Go.Proofs.YtjaeligjcgjamaaDoor
