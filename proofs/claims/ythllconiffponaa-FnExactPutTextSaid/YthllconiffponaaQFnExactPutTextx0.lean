-- A walk, by a program of this session.
import Derived.Test.YthllconiffponaaProg
import Derived.Below
import Derived.Deep.Draws
import Derived.Deep.AppendLies
import Derived.Maps.AppendAt
import Derived.OwnWalk
import Derived.Laws.BytesArg
import Derived.Laws.MakeOwn
import Derived.Laws.OwnMore
import Derived.Deep.OwnRows
import Derived.Tactics
import Derived.Lib.ConvBytes
import Derived.Laws.Slices
import Derived.WalkKit
import Derived.KernelRfl
import Derived.RowKit3
import Derived.Deep.LoopGhost
import Derived.Deep.QuietTactic
import Derived.BigQuiet
import Derived.WideLaws
import Derived.Deep.DeepCutAuto
import Derived.Deep.CutBlock
import Derived.Deep.RegionHeld3
import Derived.Laws.Rows
import Derived.Lib.AppendStr
import Derived.ArgAppend
import Derived.Laws.IdiomCopy
import Derived.OrdersHeld
import Derived.Laws.BitsLemmas
import Derived.RowKit
import Derived.Test.YthllconiffponaaWWords
import Derived.Test.YthllconiffponaaWLast
import Derived.Test.YthllconiffponaaWTab
import Derived.Test.YthllconiffponaaWFour
import Derived.Test.YthllconiffponaaWQPut
import Derived.Test.YthllconiffponaaWApart
import Derived.Test.YthllconiffponaaWArr
import Derived.Test.YthllconiffponaaWZeros
import Derived.Test.YthllconiffponaaWFoot
import Derived.Test.YthllconiffponaaWKept
import Derived.Test.YthllconiffponaaWShare
import Derived.Test.YthllconiffponaaWN
import Derived.Test.YthllconiffponaaWFootNe
import Derived.Test.YthllconiffponaaWAt
import Derived.Test.YthllconiffponaaWEqStruct
import Derived.Test.YthllconiffponaaWRepsOne
import Derived.Test.YthllconiffponaaWInv
import Derived.Test.YthllconiffponaaWInvWords
import Derived.Test.YthllconiffponaaWGuard
import Derived.Test.YthllconiffponaaWNEv
import Derived.Test.YthllconiffponaaWMore
import Derived.Test.YthllconiffponaaXConv
namespace Go.Proofs.Ythllconiffponaa.QFnExactPutText
open Go.RowKit Go.Proofs.YthllconiffponaaW.PrintWords Go.Proofs.YthllconiffponaaW.PrintLast Go.Proofs.YthllconiffponaaW.PrintMore
attribute [local go_sem] max2_int min2_int max_two min_two max_three min_three max_four min_four   -- for this text's walks alone
set_option linter.unusedVariables false
set_option linter.unusedSimpArgs false



def errW : Option Int → Value
  | none => .nilIface
  | some c => .iface 0 (.int .i64 c)
theorem errW_none : errW none = .nilIface := rfl
theorem errW_some (c : Int) : errW (some c) = .iface 0 (.int .i64 c) := rfl

theorem info5 : (Try.prog.info? 5).map (fun i => (i.zero, i.size, i.bytes)) = some (some (.int .u8 0), 1, 1) := by kernel_rfl
-- the values' own types

end Go.Proofs.Ythllconiffponaa.QFnExactPutText
