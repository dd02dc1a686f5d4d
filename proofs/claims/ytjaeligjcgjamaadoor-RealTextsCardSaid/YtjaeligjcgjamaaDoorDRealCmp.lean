/- Compare: the program's and the document's; the ways to whole numbers and back. -/
import Derived.Test.YtjaeligjcgjamaaDoorPRealOrderx0
import Derived.Test.YtjaeligjcgjamaaDoorDRealPure
namespace Go.Proofs.YtjaeligjcgjamaaDoor.DRealCmp
open Go.RowKit Go.Proofs.YtjaeligjcgjamaaDoor.PRealOrder Go.Proofs.YtjaeligjcgjamaaDoorW.PrintWords Go.Proofs.YtjaeligjcgjamaaDoorW.PrintLast Go.Proofs.YtjaeligjcgjamaaDoor.Aid Go.Proofs.YtjaeligjcgjamaaDoor.FloatPlain Go.Proofs.YtjaeligjcgjamaaDoor.DRealPure
set_option linter.unusedVariables false
set_option linter.unusedSimpArgs false
end Go.Proofs.YtjaeligjcgjamaaDoor.DRealCmp
