-- Written by a program of this session's (wip/myprint2): the functions by the kit's print, the walks by awgen.py. Lean checks it.
import Derived.Test.YtikboghjlpppjaaDoorProg
import Derived.Below
import Derived.Deep.Draws
import Derived.Deep.AppendLies
import Derived.Maps.AppendAt
import Derived.OwnWalk
import Derived.Laws.BytesArg
import Derived.Laws.MakeOwn
import Derived.Laws.OwnMore
import Derived.Deep.OwnRows
import Derived.Tactics
import Derived.Lib.ConvBytes
import Derived.Laws.Slices
import Derived.WalkKit
import Derived.KernelRfl
import Derived.RowKit3
import Derived.Deep.LoopGhost
import Derived.Deep.QuietTactic
import Derived.BigQuiet
import Derived.WideLaws
import Derived.Deep.DeepCutAuto
import Derived.Deep.CutBlock
import Derived.Deep.RegionHeld3
import Derived.Laws.Rows
import Derived.Lib.AppendStr
import Derived.ArgAppend
import Derived.Laws.IdiomCopy
import Derived.OrdersHeld
import Derived.Laws.BitsLemmas
import Derived.RowKit
import Derived.Test.YtikboghjlpppjaaDoorMBase
import Derived.Test.YtikboghjlpppjaaDoorAB
import Derived.Shelf.Slices.Clone
import Derived.Test.YtikboghjlpppjaaDoorMTab
import Derived.Test.YtikboghjlpppjaaDoorWWords
import Derived.Test.YtikboghjlpppjaaDoorWLast
import Derived.Test.YtikboghjlpppjaaDoorWQPut
import Derived.Test.YtikboghjlpppjaaDoorWApart
import Derived.Test.YtikboghjlpppjaaDoorWArr
import Derived.Test.YtikboghjlpppjaaDoorWZeros
import Derived.Test.YtikboghjlpppjaaDoorWFoot
import Derived.Test.YtikboghjlpppjaaDoorWKept
import Derived.Test.YtikboghjlpppjaaDoorWShare
import Derived.Test.YtikboghjlpppjaaDoorWN
import Derived.Test.YtikboghjlpppjaaDoorWNEv
import Derived.Test.YtikboghjlpppjaaDoorWMore
namespace Go.Proofs.YtikboghjlpppjaaDoor.PFnExactOrdersOf
open Go.RowKit Go.Proofs.YtikboghjlpppjaaDoorW.PrintWords Go.Proofs.YtikboghjlpppjaaDoorW.PrintLast Go.Proofs.YtikboghjlpppjaaDoorW.PrintMore Go.Proofs.YtikboghjlpppjaaDoorM Go.Proofs.YtikboghjlpppjaaDoorA Go.Proofs.YtikboghjlpppjaaDoorT
attribute [local go_sem] max2_int min2_int max_two min_two max_three min_three max_four min_four   -- for this text's walks alone
set_option linter.unusedVariables false
set_option linter.unusedSimpArgs false



def errW : Option Int → Value
  | none => .nilIface
  | some c => .iface 0 (.int .i64 c)
theorem errW_none : errW none = .nilIface := rfl
theorem errW_some (c : Int) : errW (some c) = .iface 0 (.int .i64 c) := rfl

-- the values' own types
structure S34 where
  f0 : Int
  f1 : (List Int)

def z34 : S34 := ⟨(0 : Int), ([] : List Int)⟩

theorem HM : Tryd.prog.follows .mixedOrders = true := by kernel_rfl
theorem Y3 : Ty Tryd.prog 3 1 8 (.int .i64 0) := .of (by kernel_rfl)
theorem Y32 : Ty Tryd.prog 32 1 24 (.slice none 0 0) := .of (by kernel_rfl)
theorem Y34 : Ty Tryd.prog 34 2 32 (.agg #[(.int .i64 0), (.slice none 0 0)]) := .of (by kernel_rfl)
theorem P34 : Pl Tryd.prog 34 #[(0, 1), (1, 1)] := by
  intro fields h w
  rw [Tryd.underlying34] at h
  simp only [Option.some.injEq, TypeDesc.struct.injEq] at h
  subst h
  simp [Ty.sizeOf Y3, Ty.sizeOf Y32]
instance : Enc S34 where
  en x := [.lit (.int .i64 x.f0), .row 1 x.f1.length false (ints .i64 x.f1)]
  z := z34
  sz := 2
  pos := by decide
  len _ := rfl
  one _ := rfl
  nid _ := by simp [noids, noid, noids_ints]
instance : EncD S34 where
  nd et x := by simp [Enc.en, deepV, DV.norow, norow, norows_ints]
theorem en_T34 : ∀ x : S34, Enc.en x = [.lit (.int .i64 x.f0), .row 1 x.f1.length false (ints .i64 x.f1)] := fun _ => rfl
end Go.Proofs.YtikboghjlpppjaaDoor.PFnExactOrdersOf
