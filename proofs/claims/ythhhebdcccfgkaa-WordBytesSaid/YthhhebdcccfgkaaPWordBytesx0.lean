-- PRINTED BY print.sh 35421559b90ae4d0a3588c463048766b98c2df88dd9212a6774a882060cdf62d: not written by this session
import Derived.Test.YthhhebdcccfgkaaProg
import Derived.Below
import Derived.Deep.Draws
import Derived.Deep.AppendLies
import Derived.Maps.AppendAt
import Derived.OwnWalk
import Derived.Laws.BytesArg
import Derived.Laws.MakeOwn
import Derived.Laws.OwnMore
import Derived.Deep.OwnRows
import Derived.Tactics
import Derived.Lib.ConvBytes
import Derived.Laws.Slices
import Derived.WalkKit
import Derived.KernelRfl
import Derived.RowKit3
import Derived.Deep.LoopGhost
import Derived.Deep.QuietTactic
import Derived.BigQuiet
import Derived.WideLaws
import Derived.Deep.DeepCutAuto
import Derived.Deep.CutBlock
import Derived.Deep.RegionHeld3
import Derived.Laws.Rows
import Derived.Lib.AppendStr
import Derived.ArgAppend
import Derived.Laws.IdiomCopy
import Derived.OrdersHeld
import Derived.Laws.BitsLemmas
import Derived.RowKit
import Derived.Test.YthhhebdcccfgkaaWWords
import Derived.Test.YthhhebdcccfgkaaWLast
import Derived.Test.YthhhebdcccfgkaaWTab
import Derived.Test.YthhhebdcccfgkaaWFour
import Derived.Test.YthhhebdcccfgkaaWQPut
import Derived.Test.YthhhebdcccfgkaaWApart
import Derived.Test.YthhhebdcccfgkaaWArr
import Derived.Test.YthhhebdcccfgkaaWZeros
import Derived.Test.YthhhebdcccfgkaaWFoot
import Derived.Test.YthhhebdcccfgkaaWKept
import Derived.Test.YthhhebdcccfgkaaWShare
import Derived.Test.YthhhebdcccfgkaaWN
import Derived.Test.YthhhebdcccfgkaaWFootNe
import Derived.Test.YthhhebdcccfgkaaWAt
import Derived.Test.YthhhebdcccfgkaaWEqStruct
import Derived.Test.YthhhebdcccfgkaaWRepsOne
import Derived.Test.YthhhebdcccfgkaaWInv
import Derived.Test.YthhhebdcccfgkaaWInvWords
import Derived.Test.YthhhebdcccfgkaaWGuard
import Derived.Test.YthhhebdcccfgkaaWNEv
import Derived.Test.YthhhebdcccfgkaaWMore
namespace Go.Proofs.Ythhhebdcccfgkaa.PWordBytes
open Go.RowKit Go.Proofs.YthhhebdcccfgkaaW.PrintWords Go.Proofs.YthhhebdcccfgkaaW.PrintLast Go.Proofs.YthhhebdcccfgkaaW.PrintMore
attribute [local go_sem] max2_int min2_int max_two min_two max_three min_three max_four min_four   -- for this text's walks alone
set_option linter.unusedVariables false
set_option linter.unusedSimpArgs false



def errW : Option Int → Value
  | none => .nilIface
  | some c => .iface 0 (.int .i64 c)
theorem errW_none : errW none = .nilIface := rfl
theorem errW_some (c : Int) : errW (some c) = .iface 0 (.int .i64 c) := rfl

theorem info5 : (Try.prog.info? 5).map (fun i => (i.zero, i.size, i.bytes)) = some (some (.int .u8 0), 1, 1) := by kernel_rfl
-- the values' own types

end Go.Proofs.Ythhhebdcccfgkaa.PWordBytes
