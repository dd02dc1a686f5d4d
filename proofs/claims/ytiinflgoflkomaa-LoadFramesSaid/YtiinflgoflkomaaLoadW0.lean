/- What works() comes to: plain. -/
import Derived.Test.YtiinflgoflkomaaLoadDec
import Derived.Test.YtiinflgoflkomaaLoadFr
namespace Go.Proofs.Ytiinflgoflkomaa.LoadW0
open Go.RowKit Go.Proofs.Ytiinflgoflkomaa.PLoadChecks Go.Proofs.YtiinflgoflkomaaW.PrintWords Go.Proofs.YtiinflgoflkomaaW.PrintLast Go.Proofs.YtiinflgoflkomaaW.PrintMore Go.Proofs.Ytiinflgoflkomaa.Aid Go.Proofs.Ytiinflgoflkomaa.LoadF Go.Proofs.Ytiinflgoflkomaa.LoadSame2 Go.Proofs.Ytiinflgoflkomaa.LoadEnc Go.Proofs.Ytiinflgoflkomaa.LoadPg Go.Proofs.Ytiinflgoflkomaa.LoadPure Go.Proofs.Ytiinflgoflkomaa.LoadD0 Go.Proofs.Ytiinflgoflkomaa.LoadD1 Go.Proofs.Ytiinflgoflkomaa.LoadD2 Go.Proofs.Ytiinflgoflkomaa.LoadD3 Go.Proofs.Ytiinflgoflkomaa.LoadD4 Go.Proofs.Ytiinflgoflkomaa.LoadGet Go.Proofs.Ytiinflgoflkomaa.LoadFr Go.Proofs.Ytiinflgoflkomaa.LoadDec
set_option linter.unusedVariables false
set_option linter.unusedSimpArgs false
def ex : List S45 := [⟨1, 5, [7, 8]⟩]
def exB : List Int := [86, 82, 73, 77, 1, 0, 1, 0, 0, 1, 1, 0, 5, 2, 0, 7, 8]
theorem ex_ok : imgL 256 ex = 0 := by decide
theorem ex_enc : encA 256 ex = exB := by decide
theorem ex_dec : decS exB = (256, ex, none) := by
  rfl
theorem ex_fr : framesL 256 ex = 3 := by
  rfl
theorem ex_sz : Sz ex := ⟨by decide, by decide⟩
end Go.Proofs.Ytiinflgoflkomaa.LoadW0
