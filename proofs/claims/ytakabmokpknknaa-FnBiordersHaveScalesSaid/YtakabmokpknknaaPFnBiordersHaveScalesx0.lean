-- Written by a program of this session's (wip/myprint2): the functions by the kit's print, the walks by awgen.py. Lean checks it.
import Derived.Test.YtakabmokpknknaaProg
import Derived.Below
import Derived.Deep.Draws
import Derived.Deep.AppendLies
import Derived.Maps.AppendAt
import Derived.OwnWalk
import Derived.Laws.BytesArg
import Derived.Laws.MakeOwn
import Derived.Laws.OwnMore
import Derived.Deep.OwnRows
import Derived.Tactics
import Derived.Lib.ConvBytes
import Derived.Laws.Slices
import Derived.WalkKit
import Derived.KernelRfl
import Derived.RowKit3
import Derived.Deep.LoopGhost
import Derived.Deep.QuietTactic
import Derived.BigQuiet
import Derived.WideLaws
import Derived.Deep.DeepCutAuto
import Derived.Deep.CutBlock
import Derived.Deep.RegionHeld3
import Derived.Laws.Rows
import Derived.Lib.AppendStr
import Derived.ArgAppend
import Derived.Laws.IdiomCopy
import Derived.OrdersHeld
import Derived.Laws.BitsLemmas
import Derived.RowKit
import Derived.Test.YtakabmokpknknaaMBase
import Derived.Test.YtakabmokpknknaaAB
import Derived.Shelf.Slices.Clone
import Derived.RangeFuncBox
import Derived.RangeFuncLeaves
import Derived.Shelf.Abstract
import Derived.WalkKit
import Derived.OwnWalkIn
import Derived.TacticsInMore
import Derived.LoopNIn
import Derived.LoopIn
import Derived.Maps.AppendAt
import Derived.Shelf.Sort.Plain
import Derived.Shelf.Slices.CompactI
import Derived.Shelf.Slices.In.SortNone
import Derived.Shelf.Slices.Turned
import Derived.Sort.OwnSortedInts
import Derived.Test.YtakabmokpknknaaWWords
import Derived.Test.YtakabmokpknknaaWLast
import Derived.Test.YtakabmokpknknaaWQPut
import Derived.Test.YtakabmokpknknaaWApart
import Derived.Test.YtakabmokpknknaaWArr
import Derived.Test.YtakabmokpknknaaWZeros
import Derived.Test.YtakabmokpknknaaWFoot
import Derived.Test.YtakabmokpknknaaWKept
import Derived.Test.YtakabmokpknknaaWShare
import Derived.Test.YtakabmokpknknaaWN
import Derived.Test.YtakabmokpknknaaWNEv
import Derived.Test.YtakabmokpknknaaWMore
namespace Go.Proofs.Ytakabmokpknknaa.PFnBiordersHaveScales
open Go.RowKit Go.Proofs.YtakabmokpknknaaW.PrintWords Go.Proofs.YtakabmokpknknaaW.PrintLast Go.Proofs.YtakabmokpknknaaW.PrintMore Go.Proofs.YtakabmokpknknaaM Go.Proofs.YtakabmokpknknaaA
attribute [local go_sem] max2_int min2_int max_two min_two max_three min_three max_four min_four   -- for this text's walks alone
set_option linter.unusedVariables false
set_option linter.unusedSimpArgs false



def errW : Option Int → Value
  | none => .nilIface
  | some c => .iface 0 (.int .i64 c)
theorem errW_none : errW none = .nilIface := rfl
theorem errW_some (c : Int) : errW (some c) = .iface 0 (.int .i64 c) := rfl

-- the values' own types

theorem HM : Try.prog.follows .mixedOrders = true := by kernel_rfl
theorem Y3 : Ty Try.prog 3 1 8 (.int .i64 0) := .of (by kernel_rfl)
theorem Y5 : Ty Try.prog 5 1 1 (.int .u8 0) := .of (by kernel_rfl)
theorem Y22 : Ty Try.prog 22 1 24 (.slice none 0 0) := .of (by kernel_rfl)
theorem Y26 : Ty Try.prog 26 3 40 (.agg #[(.int .i64 0), (.int .i64 0), (.slice none 0 0)]) := .of (by kernel_rfl)
theorem Y38 : Ty Try.prog 38 1 24 (.slice none 0 0) := .of (by kernel_rfl)
theorem Y63 : Ty Try.prog 63 1 8 (.int .u64 0) := .of (by kernel_rfl)
theorem Y65 : Ty Try.prog 65 3 40 (.agg #[(.slice none 0 0), (.int .i64 0), (.int .u64 0)]) := .of (by kernel_rfl)
theorem P26 : Pl Try.prog 26 #[(0, 1), (1, 1), (2, 1)] := by
  intro fields h w
  rw [Try.underlying26] at h
  simp only [Option.some.injEq, TypeDesc.struct.injEq] at h
  subst h
  simp [Ty.sizeOf Y3, Ty.sizeOf Y22]
theorem P65 : Pl Try.prog 65 #[(0, 1), (1, 1), (2, 1)] := by
  intro fields h w
  rw [Try.underlying65] at h
  simp only [Option.some.injEq, TypeDesc.struct.injEq] at h
  subst h
  simp [Ty.sizeOf Y3, Ty.sizeOf Y38, Ty.sizeOf Y63]
end Go.Proofs.Ytakabmokpknknaa.PFnBiordersHaveScales
