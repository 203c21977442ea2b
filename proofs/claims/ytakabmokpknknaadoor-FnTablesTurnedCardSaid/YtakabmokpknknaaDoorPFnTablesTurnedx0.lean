-- Written by a program of this session's (wip/myprint2): the functions by the kit's print, the walks by awgen.py. Lean checks it.
import Derived.Test.YtakabmokpknknaaDoorProg
import Derived.Below
import Derived.Deep.Draws
import Derived.Deep.AppendLies
import Derived.Maps.AppendAt
import Derived.OwnWalk
import Derived.Laws.BytesArg
import Derived.Laws.MakeOwn
import Derived.Laws.OwnMore
import Derived.Deep.OwnRows
import Derived.Tactics
import Derived.Lib.ConvBytes
import Derived.Laws.Slices
import Derived.WalkKit
import Derived.KernelRfl
import Derived.RowKit3
import Derived.Deep.LoopGhost
import Derived.Deep.QuietTactic
import Derived.BigQuiet
import Derived.WideLaws
import Derived.Deep.DeepCutAuto
import Derived.Deep.CutBlock
import Derived.Deep.RegionHeld3
import Derived.Laws.Rows
import Derived.Lib.AppendStr
import Derived.ArgAppend
import Derived.Laws.IdiomCopy
import Derived.OrdersHeld
import Derived.Laws.BitsLemmas
import Derived.RowKit
import Derived.Test.YtakabmokpknknaaDoorMBase
import Derived.Test.YtakabmokpknknaaDoorAB
import Derived.Shelf.Slices.Clone
import Derived.Shelf.Strings.OnBuilder
import Derived.Shelf.Strings.Split
import Derived.Test.YtakabmokpknknaaDoorMTab
import Derived.Test.YtakabmokpknknaaDoorWWords
import Derived.Test.YtakabmokpknknaaDoorWLast
import Derived.Test.YtakabmokpknknaaDoorWQPut
import Derived.Test.YtakabmokpknknaaDoorWApart
import Derived.Test.YtakabmokpknknaaDoorWArr
import Derived.Test.YtakabmokpknknaaDoorWZeros
import Derived.Test.YtakabmokpknknaaDoorWFoot
import Derived.Test.YtakabmokpknknaaDoorWKept
import Derived.Test.YtakabmokpknknaaDoorWShare
import Derived.Test.YtakabmokpknknaaDoorWN
import Derived.Test.YtakabmokpknknaaDoorWNEv
import Derived.Test.YtakabmokpknknaaDoorWMore
namespace Go.Proofs.YtakabmokpknknaaDoor.PFnTablesTurned
open Go.RowKit Go.Proofs.YtakabmokpknknaaDoorW.PrintWords Go.Proofs.YtakabmokpknknaaDoorW.PrintLast Go.Proofs.YtakabmokpknknaaDoorW.PrintMore Go.Proofs.YtakabmokpknknaaDoorM Go.Proofs.YtakabmokpknknaaDoorA Go.Proofs.YtakabmokpknknaaDoorT
attribute [local go_sem] max2_int min2_int max_two min_two max_three min_three max_four min_four   -- for this text's walks alone
set_option linter.unusedVariables false
set_option linter.unusedSimpArgs false



def errW : Option Int → Value
  | none => .nilIface
  | some c => .iface 0 (.int .i64 c)
theorem errW_none : errW none = .nilIface := rfl
theorem errW_some (c : Int) : errW (some c) = .iface 0 (.int .i64 c) := rfl

-- the values' own types

theorem HM : Tryd.prog.follows .mixedOrders = true := by kernel_rfl
theorem Y3 : Ty Tryd.prog 3 1 8 (.int .i64 0) := .of (by kernel_rfl)
theorem Y5 : Ty Tryd.prog 5 1 1 (.int .u8 0) := .of (by kernel_rfl)
theorem Y9 : Ty Tryd.prog 9 1 16 (.string ⟨#[]⟩) := .of (by kernel_rfl)
theorem Y22 : Ty Tryd.prog 22 1 24 (.slice none 0 0) := .of (by kernel_rfl)
theorem Y33 : Ty Tryd.prog 33 1 24 (.slice none 0 0) := .of (by kernel_rfl)
theorem Y59 : Ty Tryd.prog 59 3 40 (.agg #[(.int .i64 0), (.int .i64 0), (.slice none 0 0)]) := .of (by kernel_rfl)
theorem Y104 : Ty Tryd.prog 104 1 8 (.int .u64 0) := .of (by kernel_rfl)
theorem Y106 : Ty Tryd.prog 106 3 40 (.agg #[(.slice none 0 0), (.int .i64 0), (.int .u64 0)]) := .of (by kernel_rfl)
theorem Y124 : Ty Tryd.prog 124 1 24 (.slice none 0 0) := .of (by kernel_rfl)
theorem P59 : Pl Tryd.prog 59 #[(0, 1), (1, 1), (2, 1)] := by
  intro fields h w
  rw [Tryd.underlying59] at h
  simp only [Option.some.injEq, TypeDesc.struct.injEq] at h
  subst h
  simp [Ty.sizeOf Y3, Ty.sizeOf Y22]
theorem P106 : Pl Tryd.prog 106 #[(0, 1), (1, 1), (2, 1)] := by
  intro fields h w
  rw [Tryd.underlying106] at h
  simp only [Option.some.injEq, TypeDesc.struct.injEq] at h
  subst h
  simp [Ty.sizeOf Y3, Ty.sizeOf Y33, Ty.sizeOf Y104]
theorem en_str : ∀ x : ByteArray, Enc.en x = [.lit (.string x)] := fun _ => rfl
end Go.Proofs.YtakabmokpknknaaDoor.PFnTablesTurned
