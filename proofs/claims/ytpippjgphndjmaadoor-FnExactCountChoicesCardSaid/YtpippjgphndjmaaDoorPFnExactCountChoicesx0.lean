-- Written by a program of this session's (wip/myprint2): the functions by the kit's print, the walks by awgen.py. Lean checks it.
import Derived.Test.YtpippjgphndjmaaDoorProg
import Derived.Below
import Derived.Deep.Draws
import Derived.Deep.AppendLies
import Derived.Maps.AppendAt
import Derived.OwnWalk
import Derived.Laws.BytesArg
import Derived.Laws.MakeOwn
import Derived.Laws.OwnMore
import Derived.Deep.OwnRows
import Derived.Tactics
import Derived.Lib.ConvBytes
import Derived.Laws.Slices
import Derived.WalkKit
import Derived.KernelRfl
import Derived.RowKit3
import Derived.Deep.LoopGhost
import Derived.Deep.QuietTactic
import Derived.BigQuiet
import Derived.WideLaws
import Derived.Deep.DeepCutAuto
import Derived.Deep.CutBlock
import Derived.Deep.RegionHeld3
import Derived.Laws.Rows
import Derived.Lib.AppendStr
import Derived.ArgAppend
import Derived.Laws.IdiomCopy
import Derived.OrdersHeld
import Derived.Laws.BitsLemmas
import Derived.RowKit
import Derived.Test.YtpippjgphndjmaaDoorMBase
import Derived.Test.YtpippjgphndjmaaDoorAB
import Derived.Shelf.Slices.Clone
import Derived.Test.YtpippjgphndjmaaDoorMTab
import Derived.Test.YtpippjgphndjmaaDoorWWords
import Derived.Test.YtpippjgphndjmaaDoorWLast
import Derived.Test.YtpippjgphndjmaaDoorWQPut
import Derived.Test.YtpippjgphndjmaaDoorWApart
import Derived.Test.YtpippjgphndjmaaDoorWArr
import Derived.Test.YtpippjgphndjmaaDoorWZeros
import Derived.Test.YtpippjgphndjmaaDoorWFoot
import Derived.Test.YtpippjgphndjmaaDoorWKept
import Derived.Test.YtpippjgphndjmaaDoorWShare
import Derived.Test.YtpippjgphndjmaaDoorWN
import Derived.Test.YtpippjgphndjmaaDoorWNEv
import Derived.Test.YtpippjgphndjmaaDoorWMore
namespace Go.Proofs.YtpippjgphndjmaaDoor.PFnExactCountChoices
open Go.RowKit Go.Proofs.YtpippjgphndjmaaDoorW.PrintWords Go.Proofs.YtpippjgphndjmaaDoorW.PrintLast Go.Proofs.YtpippjgphndjmaaDoorW.PrintMore Go.Proofs.YtpippjgphndjmaaDoorM Go.Proofs.YtpippjgphndjmaaDoorA Go.Proofs.YtpippjgphndjmaaDoorT
attribute [local go_sem] max2_int min2_int max_two min_two max_three min_three max_four min_four   -- for this text's walks alone
set_option linter.unusedVariables false
set_option linter.unusedSimpArgs false



def errW : Option Int → Value
  | none => .nilIface
  | some c => .iface 0 (.int .i64 c)
theorem errW_none : errW none = .nilIface := rfl
theorem errW_some (c : Int) : errW (some c) = .iface 0 (.int .i64 c) := rfl

-- the values' own types
structure S30 where
  f0 : Int
  f1 : (List Int)

def z30 : S30 := ⟨(0 : Int), ([] : List Int)⟩

theorem HM : Tryd.prog.follows .mixedOrders = true := by kernel_rfl
theorem Y3 : Ty Tryd.prog 3 1 8 (.int .i64 0) := .of (by kernel_rfl)
theorem Y22 : Ty Tryd.prog 22 1 24 (.slice none 0 0) := .of (by kernel_rfl)
theorem Y30 : Ty Tryd.prog 30 2 32 (.agg #[(.int .i64 0), (.slice none 0 0)]) := .of (by kernel_rfl)
theorem P30 : Pl Tryd.prog 30 #[(0, 1), (1, 1)] := by
  intro fields h w
  rw [Tryd.underlying30] at h
  simp only [Option.some.injEq, TypeDesc.struct.injEq] at h
  subst h
  simp [Ty.sizeOf Y3, Ty.sizeOf Y22]
instance : Enc S30 where
  en x := [.lit (.int .i64 x.f0), .row 1 x.f1.length false (ints .i64 x.f1)]
  z := z30
  sz := 2
  pos := by decide
  len _ := rfl
  one _ := rfl
  nid _ := by simp [noids, noid, noids_ints]
theorem en_T30 : ∀ x : S30, Enc.en x = [.lit (.int .i64 x.f0), .row 1 x.f1.length false (ints .i64 x.f1)] := fun _ => rfl
theorem en_L1 : ∀ x : List Int, Enc.en x = [.row 1 x.length false (ints .i64 x)] := fun _ => rfl
end Go.Proofs.YtpippjgphndjmaaDoor.PFnExactCountChoices
