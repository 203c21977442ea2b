/-
  NARROWER THAN 'FOR EVERY INPUT', by the rows' own cells (each row's printed sentence says how): FnExactNearestOf: laid · FnNearestOrders: laid · FnTablesOfRelations: laid · FnTablesTurned: laid · FnNamedOrders: laid · FnArcsAreOrders: laid.
  DERIVED. THE GIVEN ROWS OF THIS SEAT. 6 by the template 'for every input the law returns true; each argument reads behind the call as it read before'; 0 by the template 'total and deterministic' (their statements: YtakabmokpknknaaDoorTotals.lean).
  GIVEN WITH THE SEED: the statements are not yours to turn. If you find one false, say at which input.
  Laid BY PROGRAM, IN A SANDBOX (cutbox-rows.mjs): the forced cells as the released guide's own fill.sh prints them over the translation b782f9d27a9bbdc4… (all of the seat's roots in one cut). By AI agents, Wed Nov 11 2026. No macro, syntax, notation, axiom, sorry.
-/
import Derived.Test.YtakabmokpknknaaDoorChecked
import GoSem.PinnedTables
import GoSem.Claim
import GoSem.ClaimJoined
import GoSem.ClaimMapViews
import Derived.JoinedTies
import Derived.KernelRfl
namespace Go.Proofs.YtakabmokpknknaaDoor
/- THE CELL 'sum', in the pinned program and in every row, IS THE sha256 OF THE DUMP (.gsa) THAT YtakabmokpknknaaDoorProg.lean LOADS. Nothing in Lean hashes anything: it is a label: what it is worth is what the hold of that sum in a sandbox is worth. -/
noncomputable def Tryd.pinned : Pinned := { name := "ytakabmokpknknaadoor", sum := "b782f9d27a9bbdc4a96fd4c5e8625ff83705537ca6c63945d6b500c08b7f52fd", checked := Tryd.checked }
namespace Rows
def none {H : Type} : Left H := { results := [], args := [] }

/- WHAT THE LISTED PACKAGE-LEVEL VARIABLES READ AS WHEN THE CALL BEGINS. Each datum BY PROGRAM (the guide's laid-datum.mjs) off the statement by which the dump's own 'gosem.cut.vars' lays the variable. In a bare row this is a premise. The card (YtakabmokpknknaaDoorCards.lean) ties it to the program's text. -/
def laid_math_bits_deBruijn32tab {H : Type} : DataW H := .agg [.lit (.int .u8 0), .lit (.int .u8 1), .lit (.int .u8 28), .lit (.int .u8 2), .lit (.int .u8 29), .lit (.int .u8 14), .lit (.int .u8 24), .lit (.int .u8 3), .lit (.int .u8 30), .lit (.int .u8 22), .lit (.int .u8 20), .lit (.int .u8 15), .lit (.int .u8 25), .lit (.int .u8 17), .lit (.int .u8 4), .lit (.int .u8 8), .lit (.int .u8 31), .lit (.int .u8 27), .lit (.int .u8 13), .lit (.int .u8 23), .lit (.int .u8 21), .lit (.int .u8 19), .lit (.int .u8 16), .lit (.int .u8 7), .lit (.int .u8 26), .lit (.int .u8 12), .lit (.int .u8 18), .lit (.int .u8 6), .lit (.int .u8 11), .lit (.int .u8 5), .lit (.int .u8 10), .lit (.int .u8 9)]
def laid_math_bits_deBruijn64tab {H : Type} : DataW H := .agg [.lit (.int .u8 0), .lit (.int .u8 1), .lit (.int .u8 56), .lit (.int .u8 2), .lit (.int .u8 57), .lit (.int .u8 49), .lit (.int .u8 28), .lit (.int .u8 3), .lit (.int .u8 61), .lit (.int .u8 58), .lit (.int .u8 42), .lit (.int .u8 50), .lit (.int .u8 38), .lit (.int .u8 29), .lit (.int .u8 17), .lit (.int .u8 4), .lit (.int .u8 62), .lit (.int .u8 47), .lit (.int .u8 59), .lit (.int .u8 36), .lit (.int .u8 45), .lit (.int .u8 43), .lit (.int .u8 51), .lit (.int .u8 22), .lit (.int .u8 53), .lit (.int .u8 39), .lit (.int .u8 33), .lit (.int .u8 30), .lit (.int .u8 24), .lit (.int .u8 18), .lit (.int .u8 12), .lit (.int .u8 5), .lit (.int .u8 63), .lit (.int .u8 55), .lit (.int .u8 48), .lit (.int .u8 27), .lit (.int .u8 60), .lit (.int .u8 41), .lit (.int .u8 37), .lit (.int .u8 16), .lit (.int .u8 46), .lit (.int .u8 35), .lit (.int .u8 44), .lit (.int .u8 21), .lit (.int .u8 52), .lit (.int .u8 32), .lit (.int .u8 23), .lit (.int .u8 11), .lit (.int .u8 54), .lit (.int .u8 26), .lit (.int .u8 40), .lit (.int .u8 15), .lit (.int .u8 34), .lit (.int .u8 20), .lit (.int .u8 31), .lit (.int .u8 10), .lit (.int .u8 25), .lit (.int .u8 14), .lit (.int .u8 19), .lit (.int .u8 9), .lit (.int .u8 13), .lit (.int .u8 8), .lit (.int .u8 7), .lit (.int .u8 6)]
def laid_unicode_utf8_acceptRanges {H : Type} : DataW H := .agg [.agg [.lit (.int .u8 128), .lit (.int .u8 191)], .agg [.lit (.int .u8 160), .lit (.int .u8 191)], .agg [.lit (.int .u8 128), .lit (.int .u8 159)], .agg [.lit (.int .u8 144), .lit (.int .u8 191)], .agg [.lit (.int .u8 128), .lit (.int .u8 143)], .agg [.lit (.int .u8 0), .lit (.int .u8 0)], .agg [.lit (.int .u8 0), .lit (.int .u8 0)], .agg [.lit (.int .u8 0), .lit (.int .u8 0)], .agg [.lit (.int .u8 0), .lit (.int .u8 0)], .agg [.lit (.int .u8 0), .lit (.int .u8 0)], .agg [.lit (.int .u8 0), .lit (.int .u8 0)], .agg [.lit (.int .u8 0), .lit (.int .u8 0)], .agg [.lit (.int .u8 0), .lit (.int .u8 0)], .agg [.lit (.int .u8 0), .lit (.int .u8 0)], .agg [.lit (.int .u8 0), .lit (.int .u8 0)], .agg [.lit (.int .u8 0), .lit (.int .u8 0)]]
/-- One of Go's own tables, pinned by name: the form's constant. -/
def laid_unicode_utf8_first : DataW Unit := Go.Pinned.utf8First

/-- 'laws.FnExactNearestOf': WHATEVER THE INPUT: true; the input reads as it did. -/
def fnExactNearestOfSpec : ChangeSpec := { name := "fnExactNearestOf", fn := fun _ => fun
  | [d1, d2] => { results := [.lit (.bool true)], args := [d1, d2] }
  | _ => none }
def fnExactNearestOfRow : OpenClaim := { program := "ytakabmokpknknaadoor", sum := "b782f9d27a9bbdc4a96fd4c5e8625ff83705537ca6c63945d6b500c08b7f52fd", func := "loop.example/g01106/laws.FnExactNearestOf", spec := "fnExactNearestOf", unfollowed := true, recurses := true, named := ["math/bits.deBruijn32tab", "math/bits.deBruijn64tab"], plainKeys := false, apart := false, laid := [("math/bits.deBruijn32tab", laid_math_bits_deBruijn32tab), ("math/bits.deBruijn64tab", laid_math_bits_deBruijn64tab)] }
def FnExactNearestOfSaid : Prop := fnExactNearestOfRow.holds Tryd.pinned (OpenSpec.ofChange fnExactNearestOfSpec)

/-- ITS FALSE NEIGHBOUR: 'it returns false'. Refute it at one input. -/
def fnExactNearestOfWrong : ChangeSpec := { name := "fnExactNearestOf", fn := fun _ => fun
  | [d1, d2] => { results := [.lit (.bool false)], args := [d1, d2] }
  | _ => none }
def FnExactNearestOfWrongFalsely : Prop := fnExactNearestOfRow.holds Tryd.pinned (OpenSpec.ofChange fnExactNearestOfWrong)

/-- 'laws.FnNearestOrders': WHATEVER THE INPUT: true; the input reads as it did. -/
def fnNearestOrdersSpec : ChangeSpec := { name := "fnNearestOrders", fn := fun _ => fun
  | [d1, d2] => { results := [.lit (.bool true)], args := [d1, d2] }
  | _ => none }
def fnNearestOrdersRow : OpenClaim := { program := "ytakabmokpknknaadoor", sum := "b782f9d27a9bbdc4a96fd4c5e8625ff83705537ca6c63945d6b500c08b7f52fd", func := "loop.example/g01106/laws.FnNearestOrders", spec := "fnNearestOrders", unfollowed := true, recurses := true, named := ["math/bits.deBruijn32tab", "math/bits.deBruijn64tab"], plainKeys := false, apart := false, laid := [("math/bits.deBruijn32tab", laid_math_bits_deBruijn32tab), ("math/bits.deBruijn64tab", laid_math_bits_deBruijn64tab)] }
def FnNearestOrdersSaid : Prop := fnNearestOrdersRow.holds Tryd.pinned (OpenSpec.ofChange fnNearestOrdersSpec)

/-- ITS FALSE NEIGHBOUR: 'it returns false'. Refute it at one input. -/
def fnNearestOrdersWrong : ChangeSpec := { name := "fnNearestOrders", fn := fun _ => fun
  | [d1, d2] => { results := [.lit (.bool false)], args := [d1, d2] }
  | _ => none }
def FnNearestOrdersWrongFalsely : Prop := fnNearestOrdersRow.holds Tryd.pinned (OpenSpec.ofChange fnNearestOrdersWrong)

/-- 'laws.FnTablesOfRelations': WHATEVER THE INPUT: true; the input reads as it did. -/
def fnTablesOfRelationsSpec : ChangeSpec := { name := "fnTablesOfRelations", fn := fun _ => fun
  | [d1, d2] => { results := [.lit (.bool true)], args := [d1, d2] }
  | _ => none }
def fnTablesOfRelationsRow : OpenClaim := { program := "ytakabmokpknknaadoor", sum := "b782f9d27a9bbdc4a96fd4c5e8625ff83705537ca6c63945d6b500c08b7f52fd", func := "loop.example/g01106/laws.FnTablesOfRelations", spec := "fnTablesOfRelations", unfollowed := true, recurses := true, named := ["math/bits.deBruijn32tab", "math/bits.deBruijn64tab"], plainKeys := false, apart := false, laid := [("math/bits.deBruijn32tab", laid_math_bits_deBruijn32tab), ("math/bits.deBruijn64tab", laid_math_bits_deBruijn64tab)] }
def FnTablesOfRelationsSaid : Prop := fnTablesOfRelationsRow.holds Tryd.pinned (OpenSpec.ofChange fnTablesOfRelationsSpec)

/-- ITS FALSE NEIGHBOUR: 'it returns false'. Refute it at one input. -/
def fnTablesOfRelationsWrong : ChangeSpec := { name := "fnTablesOfRelations", fn := fun _ => fun
  | [d1, d2] => { results := [.lit (.bool false)], args := [d1, d2] }
  | _ => none }
def FnTablesOfRelationsWrongFalsely : Prop := fnTablesOfRelationsRow.holds Tryd.pinned (OpenSpec.ofChange fnTablesOfRelationsWrong)

/-- 'laws.FnTablesTurned': WHATEVER THE INPUT: true; the input reads as it did. -/
def fnTablesTurnedSpec : ChangeSpec := { name := "fnTablesTurned", fn := fun _ => fun
  | [d1, d2] => { results := [.lit (.bool true)], args := [d1, d2] }
  | _ => none }
def fnTablesTurnedRow : OpenClaim := { program := "ytakabmokpknknaadoor", sum := "b782f9d27a9bbdc4a96fd4c5e8625ff83705537ca6c63945d6b500c08b7f52fd", func := "loop.example/g01106/laws.FnTablesTurned", spec := "fnTablesTurned", inPlace := ["internal/abi.NoEscape", "internal/bytealg.MakeNoZero", "internal/bytealg.CountString", "internal/bytealg.IndexByteString", "internal/bytealg.IndexString"], unfollowed := true, recurses := true, named := ["unicode/utf8.first", "unicode/utf8.acceptRanges", "internal/bytealg.MaxLen"], plainKeys := false, apart := false, laid := [("unicode/utf8.acceptRanges", laid_unicode_utf8_acceptRanges), ("unicode/utf8.first", laid_unicode_utf8_first)] }
def FnTablesTurnedSaid : Prop := fnTablesTurnedRow.holds Tryd.pinned (OpenSpec.ofChange fnTablesTurnedSpec)

/-- ITS FALSE NEIGHBOUR: 'it returns false'. Refute it at one input. -/
def fnTablesTurnedWrong : ChangeSpec := { name := "fnTablesTurned", fn := fun _ => fun
  | [d1, d2] => { results := [.lit (.bool false)], args := [d1, d2] }
  | _ => none }
def FnTablesTurnedWrongFalsely : Prop := fnTablesTurnedRow.holds Tryd.pinned (OpenSpec.ofChange fnTablesTurnedWrong)

/-- 'laws.FnNamedOrders': WHATEVER THE INPUT: true; the input reads as it did. -/
def fnNamedOrdersSpec : ChangeSpec := { name := "fnNamedOrders", fn := fun _ => fun
  | [d1, d2] => { results := [.lit (.bool true)], args := [d1, d2] }
  | _ => none }
def fnNamedOrdersRow : OpenClaim := { program := "ytakabmokpknknaadoor", sum := "b782f9d27a9bbdc4a96fd4c5e8625ff83705537ca6c63945d6b500c08b7f52fd", func := "loop.example/g01106/laws.FnNamedOrders", spec := "fnNamedOrders", inPlace := ["slices.overlaps[int]", "slices.overlaps[[]int]"], unfollowed := true, recurses := true, named := ["math/bits.deBruijn32tab", "math/bits.deBruijn64tab"], plainKeys := false, apart := false, laid := [("math/bits.deBruijn32tab", laid_math_bits_deBruijn32tab), ("math/bits.deBruijn64tab", laid_math_bits_deBruijn64tab)] }
def FnNamedOrdersSaid : Prop := fnNamedOrdersRow.holds Tryd.pinned (OpenSpec.ofChange fnNamedOrdersSpec)

/-- ITS FALSE NEIGHBOUR: 'it returns false'. Refute it at one input. -/
def fnNamedOrdersWrong : ChangeSpec := { name := "fnNamedOrders", fn := fun _ => fun
  | [d1, d2] => { results := [.lit (.bool false)], args := [d1, d2] }
  | _ => none }
def FnNamedOrdersWrongFalsely : Prop := fnNamedOrdersRow.holds Tryd.pinned (OpenSpec.ofChange fnNamedOrdersWrong)

/-- 'laws.FnArcsAreOrders': WHATEVER THE INPUT: true; the input reads as it did. -/
def fnArcsAreOrdersSpec : ChangeSpec := { name := "fnArcsAreOrders", fn := fun _ => fun
  | [d1, d2] => { results := [.lit (.bool true)], args := [d1, d2] }
  | _ => none }
def fnArcsAreOrdersRow : OpenClaim := { program := "ytakabmokpknknaadoor", sum := "b782f9d27a9bbdc4a96fd4c5e8625ff83705537ca6c63945d6b500c08b7f52fd", func := "loop.example/g01106/laws.FnArcsAreOrders", spec := "fnArcsAreOrders", unfollowed := true, recurses := true, named := ["math/bits.deBruijn32tab", "math/bits.deBruijn64tab"], plainKeys := false, apart := false, laid := [("math/bits.deBruijn32tab", laid_math_bits_deBruijn32tab), ("math/bits.deBruijn64tab", laid_math_bits_deBruijn64tab)] }
def FnArcsAreOrdersSaid : Prop := fnArcsAreOrdersRow.holds Tryd.pinned (OpenSpec.ofChange fnArcsAreOrdersSpec)

/-- ITS FALSE NEIGHBOUR: 'it returns false'. Refute it at one input. -/
def fnArcsAreOrdersWrong : ChangeSpec := { name := "fnArcsAreOrders", fn := fun _ => fun
  | [d1, d2] => { results := [.lit (.bool false)], args := [d1, d2] }
  | _ => none }
def FnArcsAreOrdersWrongFalsely : Prop := fnArcsAreOrdersRow.holds Tryd.pinned (OpenSpec.ofChange fnArcsAreOrdersWrong)

/- THE SECOND FORM. 'bulk': how many values and letters a reading holds, each counted each time it is reached (what is shared counts as often as it is met; a slice's spare places count too). A statement '..UptoSaid' is the law's where the arguments, and the package variables that the reading takes, are together of bulk at most 1048576: NARROWER than '..Said'. Prove '..Said' where nothing that the law and all that it calls make is longer than what came in: it says more and counts as full. Else prove '..UptoSaid'. A law counts once. -/
mutual
def uptoBulk {H : Type} : DataW H → Nat
  | .lit (.string bytes) => bytes.length + 1
  | .lit _ => 1
  | .nil => 1
  | .ptr d => uptoBulk d + 1
  | .slice elems spare => uptoBulkAll elems + uptoBulkAll spare + 1
  | .agg parts => uptoBulkAll parts + 1
  | .iface _ d => uptoBulk d + 1
  | .map entries => uptoBulkEntries entries + 1
  | .held _ => 1
def uptoBulkAll {H : Type} : List (DataW H) → Nat
  | [] => 0
  | d :: r => uptoBulk d + uptoBulkAll r
def uptoBulkEntries {H : Type} : List (Lit × DataW H) → Nat
  | [] => 0
  | x :: r => uptoBulkEntry x + uptoBulkEntries r
def uptoBulkEntry {H : Type} : Lit × DataW H → Nat
  | (.string bytes, d) => bytes.length + uptoBulk d + 1
  | (_, d) => uptoBulk d + 1
 end
def uptoSmall : (H : Type) → List (DataW H) → Bool := fun _ ds => decide (uptoBulkAll ds ≤ 1048576)
def OpenSpec.upto (s : _root_.Go.ChangeSpec) : _root_.Go.OpenSpec := { _root_.Go.OpenSpec.ofChange s with cond := some uptoSmall }

/-- 'laws.FnExactNearestOf', WHERE WHAT IT READS IS OF BULK AT MOST 1048576: true; the input reads as it did. -/
def fnExactNearestOfUptoRow : OpenClaim := { program := "ytakabmokpknknaadoor", sum := "b782f9d27a9bbdc4a96fd4c5e8625ff83705537ca6c63945d6b500c08b7f52fd", func := "loop.example/g01106/laws.FnExactNearestOf", spec := "fnExactNearestOf", unfollowed := true, recurses := true, named := ["math/bits.deBruijn32tab", "math/bits.deBruijn64tab"], plainKeys := false, apart := false, laid := [("math/bits.deBruijn32tab", laid_math_bits_deBruijn32tab), ("math/bits.deBruijn64tab", laid_math_bits_deBruijn64tab)], narrowed := true }
def FnExactNearestOfUptoSaid : Prop := fnExactNearestOfUptoRow.holds Tryd.pinned (OpenSpec.upto fnExactNearestOfSpec)

/-- 'laws.FnNearestOrders', WHERE WHAT IT READS IS OF BULK AT MOST 1048576: true; the input reads as it did. -/
def fnNearestOrdersUptoRow : OpenClaim := { program := "ytakabmokpknknaadoor", sum := "b782f9d27a9bbdc4a96fd4c5e8625ff83705537ca6c63945d6b500c08b7f52fd", func := "loop.example/g01106/laws.FnNearestOrders", spec := "fnNearestOrders", unfollowed := true, recurses := true, named := ["math/bits.deBruijn32tab", "math/bits.deBruijn64tab"], plainKeys := false, apart := false, laid := [("math/bits.deBruijn32tab", laid_math_bits_deBruijn32tab), ("math/bits.deBruijn64tab", laid_math_bits_deBruijn64tab)], narrowed := true }
def FnNearestOrdersUptoSaid : Prop := fnNearestOrdersUptoRow.holds Tryd.pinned (OpenSpec.upto fnNearestOrdersSpec)

/-- 'laws.FnTablesOfRelations', WHERE WHAT IT READS IS OF BULK AT MOST 1048576: true; the input reads as it did. -/
def fnTablesOfRelationsUptoRow : OpenClaim := { program := "ytakabmokpknknaadoor", sum := "b782f9d27a9bbdc4a96fd4c5e8625ff83705537ca6c63945d6b500c08b7f52fd", func := "loop.example/g01106/laws.FnTablesOfRelations", spec := "fnTablesOfRelations", unfollowed := true, recurses := true, named := ["math/bits.deBruijn32tab", "math/bits.deBruijn64tab"], plainKeys := false, apart := false, laid := [("math/bits.deBruijn32tab", laid_math_bits_deBruijn32tab), ("math/bits.deBruijn64tab", laid_math_bits_deBruijn64tab)], narrowed := true }
def FnTablesOfRelationsUptoSaid : Prop := fnTablesOfRelationsUptoRow.holds Tryd.pinned (OpenSpec.upto fnTablesOfRelationsSpec)

/-- 'laws.FnTablesTurned', WHERE WHAT IT READS IS OF BULK AT MOST 1048576: true; the input reads as it did. -/
def fnTablesTurnedUptoRow : OpenClaim := { program := "ytakabmokpknknaadoor", sum := "b782f9d27a9bbdc4a96fd4c5e8625ff83705537ca6c63945d6b500c08b7f52fd", func := "loop.example/g01106/laws.FnTablesTurned", spec := "fnTablesTurned", inPlace := ["internal/abi.NoEscape", "internal/bytealg.MakeNoZero", "internal/bytealg.CountString", "internal/bytealg.IndexByteString", "internal/bytealg.IndexString"], unfollowed := true, recurses := true, named := ["unicode/utf8.first", "unicode/utf8.acceptRanges", "internal/bytealg.MaxLen"], plainKeys := false, apart := false, laid := [("unicode/utf8.acceptRanges", laid_unicode_utf8_acceptRanges), ("unicode/utf8.first", laid_unicode_utf8_first)], narrowed := true }
def FnTablesTurnedUptoSaid : Prop := fnTablesTurnedUptoRow.holds Tryd.pinned (OpenSpec.upto fnTablesTurnedSpec)

/-- 'laws.FnNamedOrders', WHERE WHAT IT READS IS OF BULK AT MOST 1048576: true; the input reads as it did. -/
def fnNamedOrdersUptoRow : OpenClaim := { program := "ytakabmokpknknaadoor", sum := "b782f9d27a9bbdc4a96fd4c5e8625ff83705537ca6c63945d6b500c08b7f52fd", func := "loop.example/g01106/laws.FnNamedOrders", spec := "fnNamedOrders", inPlace := ["slices.overlaps[int]", "slices.overlaps[[]int]"], unfollowed := true, recurses := true, named := ["math/bits.deBruijn32tab", "math/bits.deBruijn64tab"], plainKeys := false, apart := false, laid := [("math/bits.deBruijn32tab", laid_math_bits_deBruijn32tab), ("math/bits.deBruijn64tab", laid_math_bits_deBruijn64tab)], narrowed := true }
def FnNamedOrdersUptoSaid : Prop := fnNamedOrdersUptoRow.holds Tryd.pinned (OpenSpec.upto fnNamedOrdersSpec)

/-- 'laws.FnArcsAreOrders', WHERE WHAT IT READS IS OF BULK AT MOST 1048576: true; the input reads as it did. -/
def fnArcsAreOrdersUptoRow : OpenClaim := { program := "ytakabmokpknknaadoor", sum := "b782f9d27a9bbdc4a96fd4c5e8625ff83705537ca6c63945d6b500c08b7f52fd", func := "loop.example/g01106/laws.FnArcsAreOrders", spec := "fnArcsAreOrders", unfollowed := true, recurses := true, named := ["math/bits.deBruijn32tab", "math/bits.deBruijn64tab"], plainKeys := false, apart := false, laid := [("math/bits.deBruijn32tab", laid_math_bits_deBruijn32tab), ("math/bits.deBruijn64tab", laid_math_bits_deBruijn64tab)], narrowed := true }
def FnArcsAreOrdersUptoSaid : Prop := fnArcsAreOrdersUptoRow.holds Tryd.pinned (OpenSpec.upto fnArcsAreOrdersSpec)

end Rows
end Go.Proofs.YtakabmokpknknaaDoor
