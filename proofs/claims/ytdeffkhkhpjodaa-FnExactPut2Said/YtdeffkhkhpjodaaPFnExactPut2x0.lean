-- Written by a program of this session; Lean checks it.
import Derived.Test.YtdeffkhkhpjodaaProg
import Derived.Below
import Derived.Deep.Draws
import Derived.Deep.AppendLies
import Derived.Maps.AppendAt
import Derived.OwnWalk
import Derived.Laws.BytesArg
import Derived.Laws.MakeOwn
import Derived.Laws.OwnMore
import Derived.Deep.OwnRows
import Derived.Tactics
import Derived.Lib.ConvBytes
import Derived.Laws.Slices
import Derived.WalkKit
import Derived.KernelRfl
import Derived.RowKit3
import Derived.Deep.LoopGhost
import Derived.Deep.QuietTactic
import Derived.BigQuiet
import Derived.WideLaws
import Derived.Deep.DeepCutAuto
import Derived.Deep.CutBlock
import Derived.Deep.RegionHeld3
import Derived.Laws.Rows
import Derived.Lib.AppendStr
import Derived.ArgAppend
import Derived.Laws.IdiomCopy
import Derived.OrdersHeld
import Derived.Laws.BitsLemmas
import Derived.RowKit
import Derived.Lib.SliceRun
import Derived.Test.YtdeffkhkhpjodaaWWords
import Derived.Test.YtdeffkhkhpjodaaWLast
import Derived.Test.YtdeffkhkhpjodaaWTab
import Derived.Test.YtdeffkhkhpjodaaWFour
import Derived.Test.YtdeffkhkhpjodaaWQPut
import Derived.Test.YtdeffkhkhpjodaaWApart
import Derived.Test.YtdeffkhkhpjodaaWArr
import Derived.Test.YtdeffkhkhpjodaaWZeros
import Derived.Test.YtdeffkhkhpjodaaWFoot
import Derived.Test.YtdeffkhkhpjodaaWKept
import Derived.Test.YtdeffkhkhpjodaaWShare
import Derived.Test.YtdeffkhkhpjodaaWN
import Derived.Test.YtdeffkhkhpjodaaWFootNe
import Derived.Test.YtdeffkhkhpjodaaWAt
import Derived.Test.YtdeffkhkhpjodaaWEqStruct
import Derived.Test.YtdeffkhkhpjodaaWRepsOne
import Derived.Test.YtdeffkhkhpjodaaWInv
import Derived.Test.YtdeffkhkhpjodaaWInvWords
import Derived.Test.YtdeffkhkhpjodaaWGuard
import Derived.Test.YtdeffkhkhpjodaaWNEv
import Derived.Test.YtdeffkhkhpjodaaWMore
namespace Go.Proofs.Ytdeffkhkhpjodaa.PFnExactPut2
open Go.RowKit Go.Proofs.YtdeffkhkhpjodaaW.PrintWords Go.Proofs.YtdeffkhkhpjodaaW.PrintLast Go.Proofs.YtdeffkhkhpjodaaW.PrintMore
attribute [local go_sem] max2_int min2_int max_two min_two max_three min_three max_four min_four   -- for this text's walks alone
set_option linter.unusedVariables false
set_option linter.unusedSimpArgs false



def errW : Option Int → Value
  | none => .nilIface
  | some c => .iface 0 (.int .i64 c)
theorem errW_none : errW none = .nilIface := rfl
theorem errW_some (c : Int) : errW (some c) = .iface 0 (.int .i64 c) := rfl

theorem info5 : (Try.prog.info? 5).map (fun i => (i.zero, i.size, i.bytes)) = some (some (.int .u8 0), 1, 1) := by kernel_rfl
-- the values' own types

end Go.Proofs.Ytdeffkhkhpjodaa.PFnExactPut2
