-- Written by a program of this session's (wip/myprint), which drives the kit's print; parts of it written by hand. Lean checks it.
import Derived.Test.YtpdgdjgklcfjcaaProg
import Derived.Below
import Derived.Deep.Draws
import Derived.Deep.AppendLies
import Derived.Maps.AppendAt
import Derived.OwnWalk
import Derived.Laws.BytesArg
import Derived.Laws.MakeOwn
import Derived.Laws.OwnMore
import Derived.Deep.OwnRows
import Derived.Tactics
import Derived.Lib.ConvBytes
import Derived.Laws.Slices
import Derived.WalkKit
import Derived.KernelRfl
import Derived.RowKit3
import Derived.Deep.LoopGhost
import Derived.Deep.QuietTactic
import Derived.BigQuiet
import Derived.WideLaws
import Derived.Deep.DeepCutAuto
import Derived.Deep.CutBlock
import Derived.Deep.RegionHeld3
import Derived.Laws.Rows
import Derived.Lib.AppendStr
import Derived.ArgAppend
import Derived.Laws.IdiomCopy
import Derived.OrdersHeld
import Derived.Laws.BitsLemmas
import Derived.RowKit
import Derived.Test.YtpdgdjgklcfjcaaMBase
import Derived.Test.YtpdgdjgklcfjcaaWWords
import Derived.Test.YtpdgdjgklcfjcaaWLast
import Derived.Test.YtpdgdjgklcfjcaaWTab
import Derived.Test.YtpdgdjgklcfjcaaWFour
import Derived.Test.YtpdgdjgklcfjcaaWQPut
import Derived.Test.YtpdgdjgklcfjcaaWApart
import Derived.Test.YtpdgdjgklcfjcaaWArr
import Derived.Test.YtpdgdjgklcfjcaaWZeros
import Derived.Test.YtpdgdjgklcfjcaaWFoot
import Derived.Test.YtpdgdjgklcfjcaaWKept
import Derived.Test.YtpdgdjgklcfjcaaWShare
import Derived.Test.YtpdgdjgklcfjcaaWN
import Derived.Test.YtpdgdjgklcfjcaaWFootNe
import Derived.Test.YtpdgdjgklcfjcaaWAt
import Derived.Test.YtpdgdjgklcfjcaaWEqStruct
import Derived.Test.YtpdgdjgklcfjcaaWRepsOne
import Derived.Test.YtpdgdjgklcfjcaaWInv
import Derived.Test.YtpdgdjgklcfjcaaWInvWords
import Derived.Test.YtpdgdjgklcfjcaaWGuard
import Derived.Test.YtpdgdjgklcfjcaaWNEv
import Derived.Test.YtpdgdjgklcfjcaaWMore
namespace Go.Proofs.Ytpdgdjgklcfjcaa.PFnExactIsBiorder
open Go.RowKit Go.Proofs.YtpdgdjgklcfjcaaW.PrintWords Go.Proofs.YtpdgdjgklcfjcaaW.PrintLast Go.Proofs.YtpdgdjgklcfjcaaW.PrintMore Go.Proofs.YtpdgdjgklcfjcaaM
attribute [local go_sem] max2_int min2_int max_two min_two max_three min_three max_four min_four   -- for this text's walks alone
set_option linter.unusedVariables false
set_option linter.unusedSimpArgs false



def errW : Option Int → Value
  | none => .nilIface
  | some c => .iface 0 (.int .i64 c)
theorem errW_none : errW none = .nilIface := rfl
theorem errW_some (c : Int) : errW (some c) = .iface 0 (.int .i64 c) := rfl

theorem info3 : (Try.prog.info? 3).map (fun i => (i.zero, i.size, i.bytes)) = some (some (.int .i64 0), 1, 8) := by kernel_rfl
-- the values' own types

end Go.Proofs.Ytpdgdjgklcfjcaa.PFnExactIsBiorder
