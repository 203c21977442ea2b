-- Written by a program of this session's (wip/myprint2): the functions by the kit's print, the walks by awgen.py. Lean checks it.
import Derived.Test.YtboaffpfphkneaaProg
import Derived.Below
import Derived.Deep.Draws
import Derived.Deep.AppendLies
import Derived.Maps.AppendAt
import Derived.OwnWalk
import Derived.Laws.BytesArg
import Derived.Laws.MakeOwn
import Derived.Laws.OwnMore
import Derived.Deep.OwnRows
import Derived.Tactics
import Derived.Lib.ConvBytes
import Derived.Laws.Slices
import Derived.WalkKit
import Derived.KernelRfl
import Derived.RowKit3
import Derived.Deep.LoopGhost
import Derived.Deep.QuietTactic
import Derived.BigQuiet
import Derived.WideLaws
import Derived.Deep.DeepCutAuto
import Derived.Deep.CutBlock
import Derived.Deep.RegionHeld3
import Derived.Laws.Rows
import Derived.Lib.AppendStr
import Derived.ArgAppend
import Derived.Laws.IdiomCopy
import Derived.OrdersHeld
import Derived.Laws.BitsLemmas
import Derived.RowKit
import Derived.Test.YtboaffpfphkneaaMBase
import Derived.Test.YtboaffpfphkneaaAB
import Derived.Shelf.Slices.Clone
import Derived.Test.YtboaffpfphkneaaWWords
import Derived.Test.YtboaffpfphkneaaWLast
import Derived.Test.YtboaffpfphkneaaWQPut
import Derived.Test.YtboaffpfphkneaaWApart
import Derived.Test.YtboaffpfphkneaaWArr
import Derived.Test.YtboaffpfphkneaaWZeros
import Derived.Test.YtboaffpfphkneaaWFoot
import Derived.Test.YtboaffpfphkneaaWKept
import Derived.Test.YtboaffpfphkneaaWShare
import Derived.Test.YtboaffpfphkneaaWN
import Derived.Test.YtboaffpfphkneaaWNEv
import Derived.Test.YtboaffpfphkneaaWMore
namespace Go.Proofs.Ytboaffpfphkneaa.PFnExactMeetOfBiorders
open Go.RowKit Go.Proofs.YtboaffpfphkneaaW.PrintWords Go.Proofs.YtboaffpfphkneaaW.PrintLast Go.Proofs.YtboaffpfphkneaaW.PrintMore Go.Proofs.YtboaffpfphkneaaM Go.Proofs.YtboaffpfphkneaaA
attribute [local go_sem] max2_int min2_int max_two min_two max_three min_three max_four min_four   -- for this text's walks alone
set_option linter.unusedVariables false
set_option linter.unusedSimpArgs false



def errW : Option Int → Value
  | none => .nilIface
  | some c => .iface 0 (.int .i64 c)
theorem errW_none : errW none = .nilIface := rfl
theorem errW_some (c : Int) : errW (some c) = .iface 0 (.int .i64 c) := rfl

-- the values' own types
structure S29 where
  f0 : Int
  f1 : Int
  f2 : (List Int)

def z29 : S29 := ⟨(0 : Int), (0 : Int), ([] : List Int)⟩

theorem HM : Try.prog.follows .mixedOrders = true := by kernel_rfl
theorem Y3 : Ty Try.prog 3 1 8 (.int .i64 0) := .of (by kernel_rfl)
theorem Y22 : Ty Try.prog 22 1 24 (.slice none 0 0) := .of (by kernel_rfl)
theorem Y24 : Ty Try.prog 24 3 40 (.agg #[(.int .i64 0), (.int .i64 0), (.slice none 0 0)]) := .of (by kernel_rfl)
theorem Y29 : Ty Try.prog 29 3 40 (.agg #[(.int .i64 0), (.int .i64 0), (.slice none 0 0)]) := .of (by kernel_rfl)
theorem P29 : Pl Try.prog 29 #[(0, 1), (1, 1), (2, 1)] := by
  intro fields h w
  rw [Try.underlying29] at h
  simp only [Option.some.injEq, TypeDesc.struct.injEq] at h
  subst h
  simp [Ty.sizeOf Y3, Ty.sizeOf Y22]
instance : Enc S29 where
  en x := [.lit (.int .i64 x.f0), .lit (.int .i64 x.f1), .row 1 x.f2.length false (ints .i64 x.f2)]
  z := z29
  sz := 3
  pos := by decide
  len _ := rfl
  one _ := rfl
  nid _ := by simp [noids, noid, noids_ints]
instance : EncD S29 where
  nd et x := by simp [Enc.en, deepV, DV.norow, norow, norows_ints]
theorem en_T29 : ∀ x : S29, Enc.en x = [.lit (.int .i64 x.f0), .lit (.int .i64 x.f1), .row 1 x.f2.length false (ints .i64 x.f2)] := fun _ => rfl
end Go.Proofs.Ytboaffpfphkneaa.PFnExactMeetOfBiorders
