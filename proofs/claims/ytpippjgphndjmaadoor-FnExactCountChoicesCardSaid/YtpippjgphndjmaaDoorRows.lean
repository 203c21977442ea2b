/-
  NARROWER THAN 'FOR EVERY INPUT', by the rows' own cells (each row's printed sentence says how): FnExactTableOfOrder: laid · FnChoicesOfOrders: laid · FnExactCountChoices: laid · FnExactOrdersOf: laid · FnOrdersAsTables: laid · FnRationalTables: laid · FnExactParseTable: laid.
  DERIVED. THE GIVEN ROWS OF THIS SEAT. 7 by the template 'for every input the law returns true; each argument reads behind the call as it read before'; 0 by the template 'total and deterministic' (their statements: YtpippjgphndjmaaDoorTotals.lean).
  GIVEN WITH THE SEED: the statements are not yours to turn. If you find one false, say at which input.
  Laid BY PROGRAM, IN A SANDBOX (cutbox-rows.mjs): the forced cells as the released guide's own fill.sh prints them over the translation ef87ea12ad1a6568… (all of the seat's roots in one cut). By AI agents, Wed Nov 11 2026. No macro, syntax, notation, axiom, sorry.
-/
import Derived.Test.YtpippjgphndjmaaDoorChecked
import GoSem.PinnedTables
import GoSem.Claim
import GoSem.ClaimJoined
import GoSem.ClaimMapViews
import Derived.JoinedTies
import Derived.KernelRfl
namespace Go.Proofs.YtpippjgphndjmaaDoor
/- THE CELL 'sum', in the pinned program and in every row, IS THE sha256 OF THE DUMP (.gsa) THAT YtpippjgphndjmaaDoorProg.lean LOADS. Nothing in Lean hashes anything: it is a label: what it is worth is what the hold of that sum in a sandbox is worth. -/
noncomputable def Tryd.pinned : Pinned := { name := "ytpippjgphndjmaadoor", sum := "ef87ea12ad1a6568ccae2c5567fd202827ce582e448e6f5c50a17cd403ff6d12", checked := Tryd.checked }
namespace Rows
def none {H : Type} : Left H := { results := [], args := [] }

/- WHAT THE LISTED PACKAGE-LEVEL VARIABLES READ AS WHEN THE CALL BEGINS. Each datum BY PROGRAM (the guide's laid-datum.mjs) off the statement by which the dump's own 'gosem.cut.vars' lays the variable. In a bare row this is a premise. The card (YtpippjgphndjmaaDoorCards.lean) ties it to the program's text. -/
def laid_math_bits_deBruijn32tab {H : Type} : DataW H := .agg [.lit (.int .u8 0), .lit (.int .u8 1), .lit (.int .u8 28), .lit (.int .u8 2), .lit (.int .u8 29), .lit (.int .u8 14), .lit (.int .u8 24), .lit (.int .u8 3), .lit (.int .u8 30), .lit (.int .u8 22), .lit (.int .u8 20), .lit (.int .u8 15), .lit (.int .u8 25), .lit (.int .u8 17), .lit (.int .u8 4), .lit (.int .u8 8), .lit (.int .u8 31), .lit (.int .u8 27), .lit (.int .u8 13), .lit (.int .u8 23), .lit (.int .u8 21), .lit (.int .u8 19), .lit (.int .u8 16), .lit (.int .u8 7), .lit (.int .u8 26), .lit (.int .u8 12), .lit (.int .u8 18), .lit (.int .u8 6), .lit (.int .u8 11), .lit (.int .u8 5), .lit (.int .u8 10), .lit (.int .u8 9)]
def laid_math_bits_deBruijn64tab {H : Type} : DataW H := .agg [.lit (.int .u8 0), .lit (.int .u8 1), .lit (.int .u8 56), .lit (.int .u8 2), .lit (.int .u8 57), .lit (.int .u8 49), .lit (.int .u8 28), .lit (.int .u8 3), .lit (.int .u8 61), .lit (.int .u8 58), .lit (.int .u8 42), .lit (.int .u8 50), .lit (.int .u8 38), .lit (.int .u8 29), .lit (.int .u8 17), .lit (.int .u8 4), .lit (.int .u8 62), .lit (.int .u8 47), .lit (.int .u8 59), .lit (.int .u8 36), .lit (.int .u8 45), .lit (.int .u8 43), .lit (.int .u8 51), .lit (.int .u8 22), .lit (.int .u8 53), .lit (.int .u8 39), .lit (.int .u8 33), .lit (.int .u8 30), .lit (.int .u8 24), .lit (.int .u8 18), .lit (.int .u8 12), .lit (.int .u8 5), .lit (.int .u8 63), .lit (.int .u8 55), .lit (.int .u8 48), .lit (.int .u8 27), .lit (.int .u8 60), .lit (.int .u8 41), .lit (.int .u8 37), .lit (.int .u8 16), .lit (.int .u8 46), .lit (.int .u8 35), .lit (.int .u8 44), .lit (.int .u8 21), .lit (.int .u8 52), .lit (.int .u8 32), .lit (.int .u8 23), .lit (.int .u8 11), .lit (.int .u8 54), .lit (.int .u8 26), .lit (.int .u8 40), .lit (.int .u8 15), .lit (.int .u8 34), .lit (.int .u8 20), .lit (.int .u8 31), .lit (.int .u8 10), .lit (.int .u8 25), .lit (.int .u8 14), .lit (.int .u8 19), .lit (.int .u8 9), .lit (.int .u8 13), .lit (.int .u8 8), .lit (.int .u8 7), .lit (.int .u8 6)]
def laid_unicode_utf8_acceptRanges {H : Type} : DataW H := .agg [.agg [.lit (.int .u8 128), .lit (.int .u8 191)], .agg [.lit (.int .u8 160), .lit (.int .u8 191)], .agg [.lit (.int .u8 128), .lit (.int .u8 159)], .agg [.lit (.int .u8 144), .lit (.int .u8 191)], .agg [.lit (.int .u8 128), .lit (.int .u8 143)], .agg [.lit (.int .u8 0), .lit (.int .u8 0)], .agg [.lit (.int .u8 0), .lit (.int .u8 0)], .agg [.lit (.int .u8 0), .lit (.int .u8 0)], .agg [.lit (.int .u8 0), .lit (.int .u8 0)], .agg [.lit (.int .u8 0), .lit (.int .u8 0)], .agg [.lit (.int .u8 0), .lit (.int .u8 0)], .agg [.lit (.int .u8 0), .lit (.int .u8 0)], .agg [.lit (.int .u8 0), .lit (.int .u8 0)], .agg [.lit (.int .u8 0), .lit (.int .u8 0)], .agg [.lit (.int .u8 0), .lit (.int .u8 0)], .agg [.lit (.int .u8 0), .lit (.int .u8 0)]]
/-- One of Go's own tables, pinned by name: the form's constant. -/
def laid_unicode_utf8_first : DataW Unit := Go.Pinned.utf8First

/-- 'laws.FnExactTableOfOrder': WHATEVER THE INPUT: true; the input reads as it did. -/
def fnExactTableOfOrderSpec : ChangeSpec := { name := "fnExactTableOfOrder", fn := fun _ => fun
  | [d1, d2, d3] => { results := [.lit (.bool true)], args := [d1, d2, d3] }
  | _ => none }
def fnExactTableOfOrderRow : OpenClaim := { program := "ytpippjgphndjmaadoor", sum := "ef87ea12ad1a6568ccae2c5567fd202827ce582e448e6f5c50a17cd403ff6d12", func := "loop.example/g01106/laws.FnExactTableOfOrder", spec := "fnExactTableOfOrder", unfollowed := true, recurses := true, named := ["math/bits.deBruijn32tab", "math/bits.deBruijn64tab"], apart := false, laid := [("math/bits.deBruijn32tab", laid_math_bits_deBruijn32tab), ("math/bits.deBruijn64tab", laid_math_bits_deBruijn64tab)] }
def FnExactTableOfOrderSaid : Prop := fnExactTableOfOrderRow.holds Tryd.pinned (OpenSpec.ofChange fnExactTableOfOrderSpec)

/-- ITS FALSE NEIGHBOUR: 'it returns false'. Refute it at one input. -/
def fnExactTableOfOrderWrong : ChangeSpec := { name := "fnExactTableOfOrder", fn := fun _ => fun
  | [d1, d2, d3] => { results := [.lit (.bool false)], args := [d1, d2, d3] }
  | _ => none }
def FnExactTableOfOrderWrongFalsely : Prop := fnExactTableOfOrderRow.holds Tryd.pinned (OpenSpec.ofChange fnExactTableOfOrderWrong)

/-- 'laws.FnChoicesOfOrders': WHATEVER THE INPUT: true; the input reads as it did. -/
def fnChoicesOfOrdersSpec : ChangeSpec := { name := "fnChoicesOfOrders", fn := fun _ => fun
  | [d1, d2] => { results := [.lit (.bool true)], args := [d1, d2] }
  | _ => none }
def fnChoicesOfOrdersRow : OpenClaim := { program := "ytpippjgphndjmaadoor", sum := "ef87ea12ad1a6568ccae2c5567fd202827ce582e448e6f5c50a17cd403ff6d12", func := "loop.example/g01106/laws.FnChoicesOfOrders", spec := "fnChoicesOfOrders", named := ["math/bits.deBruijn32tab", "math/bits.deBruijn64tab"], apart := false, laid := [("math/bits.deBruijn32tab", laid_math_bits_deBruijn32tab), ("math/bits.deBruijn64tab", laid_math_bits_deBruijn64tab)] }
def FnChoicesOfOrdersSaid : Prop := fnChoicesOfOrdersRow.holds Tryd.pinned (OpenSpec.ofChange fnChoicesOfOrdersSpec)

/-- ITS FALSE NEIGHBOUR: 'it returns false'. Refute it at one input. -/
def fnChoicesOfOrdersWrong : ChangeSpec := { name := "fnChoicesOfOrders", fn := fun _ => fun
  | [d1, d2] => { results := [.lit (.bool false)], args := [d1, d2] }
  | _ => none }
def FnChoicesOfOrdersWrongFalsely : Prop := fnChoicesOfOrdersRow.holds Tryd.pinned (OpenSpec.ofChange fnChoicesOfOrdersWrong)

/-- 'laws.FnExactCountChoices': WHATEVER THE INPUT: true; the input reads as it did. -/
def fnExactCountChoicesSpec : ChangeSpec := { name := "fnExactCountChoices", fn := fun _ => fun
  | [d1, d2] => { results := [.lit (.bool true)], args := [d1, d2] }
  | _ => none }
def fnExactCountChoicesRow : OpenClaim := { program := "ytpippjgphndjmaadoor", sum := "ef87ea12ad1a6568ccae2c5567fd202827ce582e448e6f5c50a17cd403ff6d12", func := "loop.example/g01106/laws.FnExactCountChoices", spec := "fnExactCountChoices", unfollowed := true, recurses := true, named := ["math/bits.deBruijn32tab", "math/bits.deBruijn64tab"], apart := false, laid := [("math/bits.deBruijn32tab", laid_math_bits_deBruijn32tab), ("math/bits.deBruijn64tab", laid_math_bits_deBruijn64tab)] }
def FnExactCountChoicesSaid : Prop := fnExactCountChoicesRow.holds Tryd.pinned (OpenSpec.ofChange fnExactCountChoicesSpec)

/-- ITS FALSE NEIGHBOUR: 'it returns false'. Refute it at one input. -/
def fnExactCountChoicesWrong : ChangeSpec := { name := "fnExactCountChoices", fn := fun _ => fun
  | [d1, d2] => { results := [.lit (.bool false)], args := [d1, d2] }
  | _ => none }
def FnExactCountChoicesWrongFalsely : Prop := fnExactCountChoicesRow.holds Tryd.pinned (OpenSpec.ofChange fnExactCountChoicesWrong)

/-- 'laws.FnExactOrdersOf': WHATEVER THE INPUT: true; the input reads as it did. -/
def fnExactOrdersOfSpec : ChangeSpec := { name := "fnExactOrdersOf", fn := fun _ => fun
  | [d1, d2] => { results := [.lit (.bool true)], args := [d1, d2] }
  | _ => none }
def fnExactOrdersOfRow : OpenClaim := { program := "ytpippjgphndjmaadoor", sum := "ef87ea12ad1a6568ccae2c5567fd202827ce582e448e6f5c50a17cd403ff6d12", func := "loop.example/g01106/laws.FnExactOrdersOf", spec := "fnExactOrdersOf", unfollowed := true, recurses := true, named := ["math/bits.deBruijn32tab", "math/bits.deBruijn64tab"], apart := false, laid := [("math/bits.deBruijn32tab", laid_math_bits_deBruijn32tab), ("math/bits.deBruijn64tab", laid_math_bits_deBruijn64tab)] }
def FnExactOrdersOfSaid : Prop := fnExactOrdersOfRow.holds Tryd.pinned (OpenSpec.ofChange fnExactOrdersOfSpec)

/-- ITS FALSE NEIGHBOUR: 'it returns false'. Refute it at one input. -/
def fnExactOrdersOfWrong : ChangeSpec := { name := "fnExactOrdersOf", fn := fun _ => fun
  | [d1, d2] => { results := [.lit (.bool false)], args := [d1, d2] }
  | _ => none }
def FnExactOrdersOfWrongFalsely : Prop := fnExactOrdersOfRow.holds Tryd.pinned (OpenSpec.ofChange fnExactOrdersOfWrong)

/-- 'laws.FnOrdersAsTables': WHATEVER THE INPUT: true; the input reads as it did. -/
def fnOrdersAsTablesSpec : ChangeSpec := { name := "fnOrdersAsTables", fn := fun _ => fun
  | [d1, d2] => { results := [.lit (.bool true)], args := [d1, d2] }
  | _ => none }
def fnOrdersAsTablesRow : OpenClaim := { program := "ytpippjgphndjmaadoor", sum := "ef87ea12ad1a6568ccae2c5567fd202827ce582e448e6f5c50a17cd403ff6d12", func := "loop.example/g01106/laws.FnOrdersAsTables", spec := "fnOrdersAsTables", unfollowed := true, recurses := true, named := ["math/bits.deBruijn32tab", "math/bits.deBruijn64tab"], apart := false, laid := [("math/bits.deBruijn32tab", laid_math_bits_deBruijn32tab), ("math/bits.deBruijn64tab", laid_math_bits_deBruijn64tab)] }
def FnOrdersAsTablesSaid : Prop := fnOrdersAsTablesRow.holds Tryd.pinned (OpenSpec.ofChange fnOrdersAsTablesSpec)

/-- ITS FALSE NEIGHBOUR: 'it returns false'. Refute it at one input. -/
def fnOrdersAsTablesWrong : ChangeSpec := { name := "fnOrdersAsTables", fn := fun _ => fun
  | [d1, d2] => { results := [.lit (.bool false)], args := [d1, d2] }
  | _ => none }
def FnOrdersAsTablesWrongFalsely : Prop := fnOrdersAsTablesRow.holds Tryd.pinned (OpenSpec.ofChange fnOrdersAsTablesWrong)

/-- 'laws.FnRationalTables': WHATEVER THE INPUT: true; the input reads as it did. -/
def fnRationalTablesSpec : ChangeSpec := { name := "fnRationalTables", fn := fun _ => fun
  | [d1, d2] => { results := [.lit (.bool true)], args := [d1, d2] }
  | _ => none }
def fnRationalTablesRow : OpenClaim := { program := "ytpippjgphndjmaadoor", sum := "ef87ea12ad1a6568ccae2c5567fd202827ce582e448e6f5c50a17cd403ff6d12", func := "loop.example/g01106/laws.FnRationalTables", spec := "fnRationalTables", unfollowed := true, recurses := true, named := ["math/bits.deBruijn32tab", "math/bits.deBruijn64tab"], apart := false, laid := [("math/bits.deBruijn32tab", laid_math_bits_deBruijn32tab), ("math/bits.deBruijn64tab", laid_math_bits_deBruijn64tab)] }
def FnRationalTablesSaid : Prop := fnRationalTablesRow.holds Tryd.pinned (OpenSpec.ofChange fnRationalTablesSpec)

/-- ITS FALSE NEIGHBOUR: 'it returns false'. Refute it at one input. -/
def fnRationalTablesWrong : ChangeSpec := { name := "fnRationalTables", fn := fun _ => fun
  | [d1, d2] => { results := [.lit (.bool false)], args := [d1, d2] }
  | _ => none }
def FnRationalTablesWrongFalsely : Prop := fnRationalTablesRow.holds Tryd.pinned (OpenSpec.ofChange fnRationalTablesWrong)

/-- 'laws.FnExactParseTable': WHATEVER THE INPUT: true; the input reads as it did. -/
def fnExactParseTableSpec : ChangeSpec := { name := "fnExactParseTable", fn := fun _ => fun
  | [d] => { results := [.lit (.bool true)], args := [d] }
  | _ => none }
def fnExactParseTableRow : OpenClaim := { program := "ytpippjgphndjmaadoor", sum := "ef87ea12ad1a6568ccae2c5567fd202827ce582e448e6f5c50a17cd403ff6d12", func := "loop.example/g01106/laws.FnExactParseTable", spec := "fnExactParseTable", inPlace := ["internal/bytealg.CountString", "internal/bytealg.IndexByteString", "internal/bytealg.IndexString", "internal/abi.NoEscape", "internal/bytealg.MakeNoZero"], unfollowed := true, recurses := true, named := ["unicode/utf8.first", "unicode/utf8.acceptRanges", "internal/bytealg.MaxLen"], apart := false, laid := [("unicode/utf8.acceptRanges", laid_unicode_utf8_acceptRanges), ("unicode/utf8.first", laid_unicode_utf8_first)] }
def FnExactParseTableSaid : Prop := fnExactParseTableRow.holds Tryd.pinned (OpenSpec.ofChange fnExactParseTableSpec)

/-- ITS FALSE NEIGHBOUR: 'it returns false'. Refute it at one input. -/
def fnExactParseTableWrong : ChangeSpec := { name := "fnExactParseTable", fn := fun _ => fun
  | [d] => { results := [.lit (.bool false)], args := [d] }
  | _ => none }
def FnExactParseTableWrongFalsely : Prop := fnExactParseTableRow.holds Tryd.pinned (OpenSpec.ofChange fnExactParseTableWrong)

/- THE SECOND FORM. 'bulk': how many values and letters a reading holds, each counted each time it is reached (what is shared counts as often as it is met; a slice's spare places count too). A statement '..UptoSaid' is the law's where the arguments, and the package variables that the reading takes, are together of bulk at most 1048576: NARROWER than '..Said'. Prove '..Said' where nothing that the law and all that it calls make is longer than what came in: it says more and counts as full. Else prove '..UptoSaid'. A law counts once. -/
mutual
def uptoBulk {H : Type} : DataW H → Nat
  | .lit (.string bytes) => bytes.length + 1
  | .lit _ => 1
  | .nil => 1
  | .ptr d => uptoBulk d + 1
  | .slice elems spare => uptoBulkAll elems + uptoBulkAll spare + 1
  | .agg parts => uptoBulkAll parts + 1
  | .iface _ d => uptoBulk d + 1
  | .map entries => uptoBulkEntries entries + 1
  | .held _ => 1
def uptoBulkAll {H : Type} : List (DataW H) → Nat
  | [] => 0
  | d :: r => uptoBulk d + uptoBulkAll r
def uptoBulkEntries {H : Type} : List (Lit × DataW H) → Nat
  | [] => 0
  | x :: r => uptoBulkEntry x + uptoBulkEntries r
def uptoBulkEntry {H : Type} : Lit × DataW H → Nat
  | (.string bytes, d) => bytes.length + uptoBulk d + 1
  | (_, d) => uptoBulk d + 1
 end
def uptoSmall : (H : Type) → List (DataW H) → Bool := fun _ ds => decide (uptoBulkAll ds ≤ 1048576)
def OpenSpec.upto (s : _root_.Go.ChangeSpec) : _root_.Go.OpenSpec := { _root_.Go.OpenSpec.ofChange s with cond := some uptoSmall }

/-- 'laws.FnExactTableOfOrder', WHERE WHAT IT READS IS OF BULK AT MOST 1048576: true; the input reads as it did. -/
def fnExactTableOfOrderUptoRow : OpenClaim := { program := "ytpippjgphndjmaadoor", sum := "ef87ea12ad1a6568ccae2c5567fd202827ce582e448e6f5c50a17cd403ff6d12", func := "loop.example/g01106/laws.FnExactTableOfOrder", spec := "fnExactTableOfOrder", unfollowed := true, recurses := true, named := ["math/bits.deBruijn32tab", "math/bits.deBruijn64tab"], apart := false, laid := [("math/bits.deBruijn32tab", laid_math_bits_deBruijn32tab), ("math/bits.deBruijn64tab", laid_math_bits_deBruijn64tab)], narrowed := true }
def FnExactTableOfOrderUptoSaid : Prop := fnExactTableOfOrderUptoRow.holds Tryd.pinned (OpenSpec.upto fnExactTableOfOrderSpec)

/-- 'laws.FnChoicesOfOrders', WHERE WHAT IT READS IS OF BULK AT MOST 1048576: true; the input reads as it did. -/
def fnChoicesOfOrdersUptoRow : OpenClaim := { program := "ytpippjgphndjmaadoor", sum := "ef87ea12ad1a6568ccae2c5567fd202827ce582e448e6f5c50a17cd403ff6d12", func := "loop.example/g01106/laws.FnChoicesOfOrders", spec := "fnChoicesOfOrders", named := ["math/bits.deBruijn32tab", "math/bits.deBruijn64tab"], apart := false, laid := [("math/bits.deBruijn32tab", laid_math_bits_deBruijn32tab), ("math/bits.deBruijn64tab", laid_math_bits_deBruijn64tab)], narrowed := true }
def FnChoicesOfOrdersUptoSaid : Prop := fnChoicesOfOrdersUptoRow.holds Tryd.pinned (OpenSpec.upto fnChoicesOfOrdersSpec)

/-- 'laws.FnExactCountChoices', WHERE WHAT IT READS IS OF BULK AT MOST 1048576: true; the input reads as it did. -/
def fnExactCountChoicesUptoRow : OpenClaim := { program := "ytpippjgphndjmaadoor", sum := "ef87ea12ad1a6568ccae2c5567fd202827ce582e448e6f5c50a17cd403ff6d12", func := "loop.example/g01106/laws.FnExactCountChoices", spec := "fnExactCountChoices", unfollowed := true, recurses := true, named := ["math/bits.deBruijn32tab", "math/bits.deBruijn64tab"], apart := false, laid := [("math/bits.deBruijn32tab", laid_math_bits_deBruijn32tab), ("math/bits.deBruijn64tab", laid_math_bits_deBruijn64tab)], narrowed := true }
def FnExactCountChoicesUptoSaid : Prop := fnExactCountChoicesUptoRow.holds Tryd.pinned (OpenSpec.upto fnExactCountChoicesSpec)

/-- 'laws.FnExactOrdersOf', WHERE WHAT IT READS IS OF BULK AT MOST 1048576: true; the input reads as it did. -/
def fnExactOrdersOfUptoRow : OpenClaim := { program := "ytpippjgphndjmaadoor", sum := "ef87ea12ad1a6568ccae2c5567fd202827ce582e448e6f5c50a17cd403ff6d12", func := "loop.example/g01106/laws.FnExactOrdersOf", spec := "fnExactOrdersOf", unfollowed := true, recurses := true, named := ["math/bits.deBruijn32tab", "math/bits.deBruijn64tab"], apart := false, laid := [("math/bits.deBruijn32tab", laid_math_bits_deBruijn32tab), ("math/bits.deBruijn64tab", laid_math_bits_deBruijn64tab)], narrowed := true }
def FnExactOrdersOfUptoSaid : Prop := fnExactOrdersOfUptoRow.holds Tryd.pinned (OpenSpec.upto fnExactOrdersOfSpec)

/-- 'laws.FnOrdersAsTables', WHERE WHAT IT READS IS OF BULK AT MOST 1048576: true; the input reads as it did. -/
def fnOrdersAsTablesUptoRow : OpenClaim := { program := "ytpippjgphndjmaadoor", sum := "ef87ea12ad1a6568ccae2c5567fd202827ce582e448e6f5c50a17cd403ff6d12", func := "loop.example/g01106/laws.FnOrdersAsTables", spec := "fnOrdersAsTables", unfollowed := true, recurses := true, named := ["math/bits.deBruijn32tab", "math/bits.deBruijn64tab"], apart := false, laid := [("math/bits.deBruijn32tab", laid_math_bits_deBruijn32tab), ("math/bits.deBruijn64tab", laid_math_bits_deBruijn64tab)], narrowed := true }
def FnOrdersAsTablesUptoSaid : Prop := fnOrdersAsTablesUptoRow.holds Tryd.pinned (OpenSpec.upto fnOrdersAsTablesSpec)

/-- 'laws.FnRationalTables', WHERE WHAT IT READS IS OF BULK AT MOST 1048576: true; the input reads as it did. -/
def fnRationalTablesUptoRow : OpenClaim := { program := "ytpippjgphndjmaadoor", sum := "ef87ea12ad1a6568ccae2c5567fd202827ce582e448e6f5c50a17cd403ff6d12", func := "loop.example/g01106/laws.FnRationalTables", spec := "fnRationalTables", unfollowed := true, recurses := true, named := ["math/bits.deBruijn32tab", "math/bits.deBruijn64tab"], apart := false, laid := [("math/bits.deBruijn32tab", laid_math_bits_deBruijn32tab), ("math/bits.deBruijn64tab", laid_math_bits_deBruijn64tab)], narrowed := true }
def FnRationalTablesUptoSaid : Prop := fnRationalTablesUptoRow.holds Tryd.pinned (OpenSpec.upto fnRationalTablesSpec)

/-- 'laws.FnExactParseTable', WHERE WHAT IT READS IS OF BULK AT MOST 1048576: true; the input reads as it did. -/
def fnExactParseTableUptoRow : OpenClaim := { program := "ytpippjgphndjmaadoor", sum := "ef87ea12ad1a6568ccae2c5567fd202827ce582e448e6f5c50a17cd403ff6d12", func := "loop.example/g01106/laws.FnExactParseTable", spec := "fnExactParseTable", inPlace := ["internal/bytealg.CountString", "internal/bytealg.IndexByteString", "internal/bytealg.IndexString", "internal/abi.NoEscape", "internal/bytealg.MakeNoZero"], unfollowed := true, recurses := true, named := ["unicode/utf8.first", "unicode/utf8.acceptRanges", "internal/bytealg.MaxLen"], apart := false, laid := [("unicode/utf8.acceptRanges", laid_unicode_utf8_acceptRanges), ("unicode/utf8.first", laid_unicode_utf8_first)], narrowed := true }
def FnExactParseTableUptoSaid : Prop := fnExactParseTableUptoRow.holds Tryd.pinned (OpenSpec.upto fnExactParseTableSpec)

end Rows
end Go.Proofs.YtpippjgphndjmaaDoor
