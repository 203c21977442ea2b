-- Written by a program of this session's (wip/myprint2): the functions by the kit's print, the walks by awgen.py. Lean checks it.
import Derived.Test.YtdaneldckdjjoaaDoorProg
import Derived.Below
import Derived.Deep.Draws
import Derived.Deep.AppendLies
import Derived.Maps.AppendAt
import Derived.OwnWalk
import Derived.Laws.BytesArg
import Derived.Laws.MakeOwn
import Derived.Laws.OwnMore
import Derived.Deep.OwnRows
import Derived.Tactics
import Derived.Lib.ConvBytes
import Derived.Laws.Slices
import Derived.WalkKit
import Derived.KernelRfl
import Derived.RowKit3
import Derived.Deep.LoopGhost
import Derived.Deep.QuietTactic
import Derived.BigQuiet
import Derived.WideLaws
import Derived.Deep.DeepCutAuto
import Derived.Deep.CutBlock
import Derived.Deep.RegionHeld3
import Derived.Laws.Rows
import Derived.Lib.AppendStr
import Derived.ArgAppend
import Derived.Laws.IdiomCopy
import Derived.OrdersHeld
import Derived.Laws.BitsLemmas
import Derived.RowKit
import Derived.Test.YtdaneldckdjjoaaDoorMBase
import Derived.Test.YtdaneldckdjjoaaDoorAB
import Derived.Shelf.Slices.Clone
import Derived.Test.YtdaneldckdjjoaaDoorMTab
import Derived.Test.YtdaneldckdjjoaaDoorWWords
import Derived.Test.YtdaneldckdjjoaaDoorWLast
import Derived.Test.YtdaneldckdjjoaaDoorWQPut
import Derived.Test.YtdaneldckdjjoaaDoorWApart
import Derived.Test.YtdaneldckdjjoaaDoorWArr
import Derived.Test.YtdaneldckdjjoaaDoorWZeros
import Derived.Test.YtdaneldckdjjoaaDoorWFoot
import Derived.Test.YtdaneldckdjjoaaDoorWKept
import Derived.Test.YtdaneldckdjjoaaDoorWShare
import Derived.Test.YtdaneldckdjjoaaDoorWN
import Derived.Test.YtdaneldckdjjoaaDoorWNEv
import Derived.Test.YtdaneldckdjjoaaDoorWMore
namespace Go.Proofs.YtdaneldckdjjoaaDoor.PFnExactNearestOf
open Go.RowKit Go.Proofs.YtdaneldckdjjoaaDoorW.PrintWords Go.Proofs.YtdaneldckdjjoaaDoorW.PrintLast Go.Proofs.YtdaneldckdjjoaaDoorW.PrintMore Go.Proofs.YtdaneldckdjjoaaDoorM Go.Proofs.YtdaneldckdjjoaaDoorA Go.Proofs.YtdaneldckdjjoaaDoorT
attribute [local go_sem] max2_int min2_int max_two min_two max_three min_three max_four min_four   -- for this text's walks alone
set_option linter.unusedVariables false
set_option linter.unusedSimpArgs false



def errW : Option Int → Value
  | none => .nilIface
  | some c => .iface 0 (.int .i64 c)
theorem errW_none : errW none = .nilIface := rfl
theorem errW_some (c : Int) : errW (some c) = .iface 0 (.int .i64 c) := rfl

-- the values' own types
structure S26 where
  f0 : Int
  f1 : (List Int)

def z26 : S26 := ⟨(0 : Int), ([] : List Int)⟩

theorem HM : Tryd.prog.follows .mixedOrders = true := by kernel_rfl
theorem Y3 : Ty Tryd.prog 3 1 8 (.int .i64 0) := .of (by kernel_rfl)
theorem Y22 : Ty Tryd.prog 22 1 24 (.slice none 0 0) := .of (by kernel_rfl)
theorem Y24 : Ty Tryd.prog 24 2 32 (.agg #[(.int .i64 0), (.slice none 0 0)]) := .of (by kernel_rfl)
theorem Y26 : Ty Tryd.prog 26 2 32 (.agg #[(.int .i64 0), (.slice none 0 0)]) := .of (by kernel_rfl)
theorem P26 : Pl Tryd.prog 26 #[(0, 1), (1, 1)] := by
  intro fields h w
  rw [Tryd.underlying26] at h
  simp only [Option.some.injEq, TypeDesc.struct.injEq] at h
  subst h
  simp [Ty.sizeOf Y3, Ty.sizeOf Y22]
instance : Enc S26 where
  en x := [.lit (.int .i64 x.f0), .row 1 x.f1.length false (ints .i64 x.f1)]
  z := z26
  sz := 2
  pos := by decide
  len _ := rfl
  one _ := rfl
  nid _ := by simp [noids, noid, noids_ints]
instance : EncD S26 where
  nd et x := by simp [Enc.en, deepV, DV.norow, norow, norows_ints]
theorem en_T26 : ∀ x : S26, Enc.en x = [.lit (.int .i64 x.f0), .row 1 x.f1.length false (ints .i64 x.f1)] := fun _ => rfl
end Go.Proofs.YtdaneldckdjjoaaDoor.PFnExactNearestOf
