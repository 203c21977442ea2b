-- Written by a program of this session's (wip/myprint2): the functions by the kit's print, the walks by awgen.py. Lean checks it.
import Derived.Test.YtpippjgphndjmaaProg
import Derived.Below
import Derived.Deep.Draws
import Derived.Deep.AppendLies
import Derived.Maps.AppendAt
import Derived.OwnWalk
import Derived.Laws.BytesArg
import Derived.Laws.MakeOwn
import Derived.Laws.OwnMore
import Derived.Deep.OwnRows
import Derived.Tactics
import Derived.Lib.ConvBytes
import Derived.Laws.Slices
import Derived.WalkKit
import Derived.KernelRfl
import Derived.RowKit3
import Derived.Deep.LoopGhost
import Derived.Deep.QuietTactic
import Derived.BigQuiet
import Derived.WideLaws
import Derived.Deep.DeepCutAuto
import Derived.Deep.CutBlock
import Derived.Deep.RegionHeld3
import Derived.Laws.Rows
import Derived.Lib.AppendStr
import Derived.ArgAppend
import Derived.Laws.IdiomCopy
import Derived.OrdersHeld
import Derived.Laws.BitsLemmas
import Derived.RowKit
import Derived.Test.YtpippjgphndjmaaMBase
import Derived.Test.YtpippjgphndjmaaAB
import Derived.Shelf.Slices.Clone
import Derived.Test.YtpippjgphndjmaaWWords
import Derived.Test.YtpippjgphndjmaaWLast
import Derived.Test.YtpippjgphndjmaaWQPut
import Derived.Test.YtpippjgphndjmaaWApart
import Derived.Test.YtpippjgphndjmaaWArr
import Derived.Test.YtpippjgphndjmaaWZeros
import Derived.Test.YtpippjgphndjmaaWFoot
import Derived.Test.YtpippjgphndjmaaWKept
import Derived.Test.YtpippjgphndjmaaWShare
import Derived.Test.YtpippjgphndjmaaWN
import Derived.Test.YtpippjgphndjmaaWNEv
import Derived.Test.YtpippjgphndjmaaWMore
namespace Go.Proofs.Ytpippjgphndjmaa.PFnCovers
open Go.RowKit Go.Proofs.YtpippjgphndjmaaW.PrintWords Go.Proofs.YtpippjgphndjmaaW.PrintLast Go.Proofs.YtpippjgphndjmaaW.PrintMore Go.Proofs.YtpippjgphndjmaaM Go.Proofs.YtpippjgphndjmaaA
attribute [local go_sem] max2_int min2_int max_two min_two max_three min_three max_four min_four   -- for this text's walks alone
set_option linter.unusedVariables false
set_option linter.unusedSimpArgs false



def errW : Option Int → Value
  | none => .nilIface
  | some c => .iface 0 (.int .i64 c)
theorem errW_none : errW none = .nilIface := rfl
theorem errW_some (c : Int) : errW (some c) = .iface 0 (.int .i64 c) := rfl

-- the values' own types

theorem HM : Try.prog.follows .mixedOrders = true := by kernel_rfl
theorem Y3 : Ty Try.prog 3 1 8 (.int .i64 0) := .of (by kernel_rfl)
theorem Y5 : Ty Try.prog 5 1 1 (.int .u8 0) := .of (by kernel_rfl)
theorem Y22 : Ty Try.prog 22 1 24 (.slice none 0 0) := .of (by kernel_rfl)
theorem Y28 : Ty Try.prog 28 3 40 (.agg #[(.int .i64 0), (.int .i64 0), (.slice none 0 0)]) := .of (by kernel_rfl)
theorem Y38 : Ty Try.prog 38 1 24 (.slice none 0 0) := .of (by kernel_rfl)
theorem Y75 : Ty Try.prog 75 1 8 (.int .u64 0) := .of (by kernel_rfl)
theorem Y77 : Ty Try.prog 77 3 40 (.agg #[(.slice none 0 0), (.int .i64 0), (.int .u64 0)]) := .of (by kernel_rfl)
theorem P28 : Pl Try.prog 28 #[(0, 1), (1, 1), (2, 1)] := by
  intro fields h w
  rw [Try.underlying28] at h
  simp only [Option.some.injEq, TypeDesc.struct.injEq] at h
  subst h
  simp [Ty.sizeOf Y3, Ty.sizeOf Y22]
theorem P77 : Pl Try.prog 77 #[(0, 1), (1, 1), (2, 1)] := by
  intro fields h w
  rw [Try.underlying77] at h
  simp only [Option.some.injEq, TypeDesc.struct.injEq] at h
  subst h
  simp [Ty.sizeOf Y3, Ty.sizeOf Y38, Ty.sizeOf Y75]
end Go.Proofs.Ytpippjgphndjmaa.PFnCovers
