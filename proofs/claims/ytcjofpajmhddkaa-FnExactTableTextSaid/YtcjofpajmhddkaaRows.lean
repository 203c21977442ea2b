/-
  No cell of these rows narrows 'for every input' (looked for: loops, veiled, ifaces, maps, wideKeys, modest, calm, conditions, laid).
  DERIVED. THE GIVEN ROWS OF THIS SEAT. 9 by the template 'for every input the law returns true; each argument reads behind the call as it read before'; 0 by the template 'total and deterministic' (their statements: YtcjofpajmhddkaaTotals.lean).
  GIVEN WITH THE SEED: the statements are not yours to turn. If you find one false, say at which input.
  Laid BY PROGRAM, IN A SANDBOX (cutbox-rows.mjs): the forced cells as the released guide's own fill.sh prints them over the translation e9be42b4fbebb669… (all of the seat's roots in one cut). By AI agents, Wed Nov 11 2026. No macro, syntax, notation, axiom, sorry.
-/
import Derived.Test.YtcjofpajmhddkaaChecked
import GoSem.Claim
import GoSem.ClaimJoined
import GoSem.ClaimMapViews
import Derived.JoinedTies
import Derived.KernelRfl
namespace Go.Proofs.Ytcjofpajmhddkaa
/- THE CELL 'sum', in the pinned program and in every row, IS THE sha256 OF THE DUMP (.gsa) THAT YtcjofpajmhddkaaProg.lean LOADS. Nothing in Lean hashes anything: it is a label: what it is worth is what the hold of that sum in a sandbox is worth. -/
noncomputable def Try.pinned : Pinned := { name := "ytcjofpajmhddkaa", sum := "e9be42b4fbebb669d210596bc23c1a14eb81e9f206ad3c1dfed7c8372e3ab94f", checked := Try.checked }
namespace Rows
def none {H : Type} : Left H := { results := [], args := [] }

/-- 'laws.FnExactEmptyCells': WHATEVER THE INPUT: true; the input reads as it did. -/
def fnExactEmptyCellsSpec : ChangeSpec := { name := "fnExactEmptyCells", fn := fun _ => fun
  | [d] => { results := [.lit (.bool true)], args := [d] }
  | _ => none }
def fnExactEmptyCellsRow : OpenClaim := { program := "ytcjofpajmhddkaa", sum := "e9be42b4fbebb669d210596bc23c1a14eb81e9f206ad3c1dfed7c8372e3ab94f", func := "loop.example/g01106/laws.FnExactEmptyCells", spec := "fnExactEmptyCells", apart := false }
def FnExactEmptyCellsSaid : Prop := fnExactEmptyCellsRow.holds Try.pinned (OpenSpec.ofChange fnExactEmptyCellsSpec)

/-- ITS FALSE NEIGHBOUR: 'it returns false'. Refute it at one input. -/
def fnExactEmptyCellsWrong : ChangeSpec := { name := "fnExactEmptyCells", fn := fun _ => fun
  | [d] => { results := [.lit (.bool false)], args := [d] }
  | _ => none }
def FnExactEmptyCellsWrongFalsely : Prop := fnExactEmptyCellsRow.holds Try.pinned (OpenSpec.ofChange fnExactEmptyCellsWrong)

/-- 'laws.FnExactMeetTables': WHATEVER THE INPUT: true; the input reads as it did. -/
def fnExactMeetTablesSpec : ChangeSpec := { name := "fnExactMeetTables", fn := fun _ => fun
  | [d1, d2] => { results := [.lit (.bool true)], args := [d1, d2] }
  | _ => none }
def fnExactMeetTablesRow : OpenClaim := { program := "ytcjofpajmhddkaa", sum := "e9be42b4fbebb669d210596bc23c1a14eb81e9f206ad3c1dfed7c8372e3ab94f", func := "loop.example/g01106/laws.FnExactMeetTables", spec := "fnExactMeetTables", unfollowed := true, recurses := true, apart := false }
def FnExactMeetTablesSaid : Prop := fnExactMeetTablesRow.holds Try.pinned (OpenSpec.ofChange fnExactMeetTablesSpec)

/-- ITS FALSE NEIGHBOUR: 'it returns false'. Refute it at one input. -/
def fnExactMeetTablesWrong : ChangeSpec := { name := "fnExactMeetTables", fn := fun _ => fun
  | [d1, d2] => { results := [.lit (.bool false)], args := [d1, d2] }
  | _ => none }
def FnExactMeetTablesWrongFalsely : Prop := fnExactMeetTablesRow.holds Try.pinned (OpenSpec.ofChange fnExactMeetTablesWrong)

/-- 'laws.FnExactIsAcyclic': WHATEVER THE INPUT: true; the input reads as it did. -/
def fnExactIsAcyclicSpec : ChangeSpec := { name := "fnExactIsAcyclic", fn := fun _ => fun
  | [d] => { results := [.lit (.bool true)], args := [d] }
  | _ => none }
def fnExactIsAcyclicRow : OpenClaim := { program := "ytcjofpajmhddkaa", sum := "e9be42b4fbebb669d210596bc23c1a14eb81e9f206ad3c1dfed7c8372e3ab94f", func := "loop.example/g01106/laws.FnExactIsAcyclic", spec := "fnExactIsAcyclic", apart := false }
def FnExactIsAcyclicSaid : Prop := fnExactIsAcyclicRow.holds Try.pinned (OpenSpec.ofChange fnExactIsAcyclicSpec)

/-- ITS FALSE NEIGHBOUR: 'it returns false'. Refute it at one input. -/
def fnExactIsAcyclicWrong : ChangeSpec := { name := "fnExactIsAcyclic", fn := fun _ => fun
  | [d] => { results := [.lit (.bool false)], args := [d] }
  | _ => none }
def FnExactIsAcyclicWrongFalsely : Prop := fnExactIsAcyclicRow.holds Try.pinned (OpenSpec.ofChange fnExactIsAcyclicWrong)

/-- 'laws.FnExactMirrorTable': WHATEVER THE INPUT: true; the input reads as it did. -/
def fnExactMirrorTableSpec : ChangeSpec := { name := "fnExactMirrorTable", fn := fun _ => fun
  | [d] => { results := [.lit (.bool true)], args := [d] }
  | _ => none }
def fnExactMirrorTableRow : OpenClaim := { program := "ytcjofpajmhddkaa", sum := "e9be42b4fbebb669d210596bc23c1a14eb81e9f206ad3c1dfed7c8372e3ab94f", func := "loop.example/g01106/laws.FnExactMirrorTable", spec := "fnExactMirrorTable", unfollowed := true, recurses := true, apart := false }
def FnExactMirrorTableSaid : Prop := fnExactMirrorTableRow.holds Try.pinned (OpenSpec.ofChange fnExactMirrorTableSpec)

/-- ITS FALSE NEIGHBOUR: 'it returns false'. Refute it at one input. -/
def fnExactMirrorTableWrong : ChangeSpec := { name := "fnExactMirrorTable", fn := fun _ => fun
  | [d] => { results := [.lit (.bool false)], args := [d] }
  | _ => none }
def FnExactMirrorTableWrongFalsely : Prop := fnExactMirrorTableRow.holds Try.pinned (OpenSpec.ofChange fnExactMirrorTableWrong)

/-- 'laws.FnExactFourCells': WHATEVER THE INPUT: true; the input reads as it did. -/
def fnExactFourCellsSpec : ChangeSpec := { name := "fnExactFourCells", fn := fun _ => fun
  | [d] => { results := [.lit (.bool true)], args := [d] }
  | _ => none }
def fnExactFourCellsRow : OpenClaim := { program := "ytcjofpajmhddkaa", sum := "e9be42b4fbebb669d210596bc23c1a14eb81e9f206ad3c1dfed7c8372e3ab94f", func := "loop.example/g01106/laws.FnExactFourCells", spec := "fnExactFourCells", apart := false }
def FnExactFourCellsSaid : Prop := fnExactFourCellsRow.holds Try.pinned (OpenSpec.ofChange fnExactFourCellsSpec)

/-- ITS FALSE NEIGHBOUR: 'it returns false'. Refute it at one input. -/
def fnExactFourCellsWrong : ChangeSpec := { name := "fnExactFourCells", fn := fun _ => fun
  | [d] => { results := [.lit (.bool false)], args := [d] }
  | _ => none }
def FnExactFourCellsWrongFalsely : Prop := fnExactFourCellsRow.holds Try.pinned (OpenSpec.ofChange fnExactFourCellsWrong)

/-- 'laws.FnExactPairsApart': WHATEVER THE INPUT: true; the input reads as it did. -/
def fnExactPairsApartSpec : ChangeSpec := { name := "fnExactPairsApart", fn := fun _ => fun
  | [d1, d2] => { results := [.lit (.bool true)], args := [d1, d2] }
  | _ => none }
def fnExactPairsApartRow : OpenClaim := { program := "ytcjofpajmhddkaa", sum := "e9be42b4fbebb669d210596bc23c1a14eb81e9f206ad3c1dfed7c8372e3ab94f", func := "loop.example/g01106/laws.FnExactPairsApart", spec := "fnExactPairsApart", apart := false }
def FnExactPairsApartSaid : Prop := fnExactPairsApartRow.holds Try.pinned (OpenSpec.ofChange fnExactPairsApartSpec)

/-- ITS FALSE NEIGHBOUR: 'it returns false'. Refute it at one input. -/
def fnExactPairsApartWrong : ChangeSpec := { name := "fnExactPairsApart", fn := fun _ => fun
  | [d1, d2] => { results := [.lit (.bool false)], args := [d1, d2] }
  | _ => none }
def FnExactPairsApartWrongFalsely : Prop := fnExactPairsApartRow.holds Try.pinned (OpenSpec.ofChange fnExactPairsApartWrong)

/-- 'laws.FnExactTableText': WHATEVER THE INPUT: true; the input reads as it did. -/
def fnExactTableTextSpec : ChangeSpec := { name := "fnExactTableText", fn := fun _ => fun
  | [d] => { results := [.lit (.bool true)], args := [d] }
  | _ => none }
def fnExactTableTextRow : OpenClaim := { program := "ytcjofpajmhddkaa", sum := "e9be42b4fbebb669d210596bc23c1a14eb81e9f206ad3c1dfed7c8372e3ab94f", func := "loop.example/g01106/laws.FnExactTableText", spec := "fnExactTableText", inPlace := ["internal/abi.NoEscape", "internal/bytealg.MakeNoZero"], apart := false }
def FnExactTableTextSaid : Prop := fnExactTableTextRow.holds Try.pinned (OpenSpec.ofChange fnExactTableTextSpec)

/-- ITS FALSE NEIGHBOUR: 'it returns false'. Refute it at one input. -/
def fnExactTableTextWrong : ChangeSpec := { name := "fnExactTableText", fn := fun _ => fun
  | [d] => { results := [.lit (.bool false)], args := [d] }
  | _ => none }
def FnExactTableTextWrongFalsely : Prop := fnExactTableTextRow.holds Try.pinned (OpenSpec.ofChange fnExactTableTextWrong)

/-- 'laws.FnExactFreeOrder': WHATEVER THE INPUT: true; the input reads as it did. -/
def fnExactFreeOrderSpec : ChangeSpec := { name := "fnExactFreeOrder", fn := fun _ => fun
  | [d1, d2] => { results := [.lit (.bool true)], args := [d1, d2] }
  | _ => none }
def fnExactFreeOrderRow : OpenClaim := { program := "ytcjofpajmhddkaa", sum := "e9be42b4fbebb669d210596bc23c1a14eb81e9f206ad3c1dfed7c8372e3ab94f", func := "loop.example/g01106/laws.FnExactFreeOrder", spec := "fnExactFreeOrder", apart := false }
def FnExactFreeOrderSaid : Prop := fnExactFreeOrderRow.holds Try.pinned (OpenSpec.ofChange fnExactFreeOrderSpec)

/-- ITS FALSE NEIGHBOUR: 'it returns false'. Refute it at one input. -/
def fnExactFreeOrderWrong : ChangeSpec := { name := "fnExactFreeOrder", fn := fun _ => fun
  | [d1, d2] => { results := [.lit (.bool false)], args := [d1, d2] }
  | _ => none }
def FnExactFreeOrderWrongFalsely : Prop := fnExactFreeOrderRow.holds Try.pinned (OpenSpec.ofChange fnExactFreeOrderWrong)

/-- 'laws.FnExactCoverOf': WHATEVER THE INPUT: true; the input reads as it did. -/
def fnExactCoverOfSpec : ChangeSpec := { name := "fnExactCoverOf", fn := fun _ => fun
  | [d1, d2] => { results := [.lit (.bool true)], args := [d1, d2] }
  | _ => none }
def fnExactCoverOfRow : OpenClaim := { program := "ytcjofpajmhddkaa", sum := "e9be42b4fbebb669d210596bc23c1a14eb81e9f206ad3c1dfed7c8372e3ab94f", func := "loop.example/g01106/laws.FnExactCoverOf", spec := "fnExactCoverOf", apart := false }
def FnExactCoverOfSaid : Prop := fnExactCoverOfRow.holds Try.pinned (OpenSpec.ofChange fnExactCoverOfSpec)

/-- ITS FALSE NEIGHBOUR: 'it returns false'. Refute it at one input. -/
def fnExactCoverOfWrong : ChangeSpec := { name := "fnExactCoverOf", fn := fun _ => fun
  | [d1, d2] => { results := [.lit (.bool false)], args := [d1, d2] }
  | _ => none }
def FnExactCoverOfWrongFalsely : Prop := fnExactCoverOfRow.holds Try.pinned (OpenSpec.ofChange fnExactCoverOfWrong)

/- THE SECOND FORM. 'bulk': how many values and letters a reading holds, each counted each time it is reached (what is shared counts as often as it is met; a slice's spare places count too). A statement '..UptoSaid' is the law's where the arguments, and the package variables that the reading takes, are together of bulk at most 1048576: NARROWER than '..Said'. Prove '..Said' where nothing that the law and all that it calls make is longer than what came in: it says more and counts as full. Else prove '..UptoSaid'. A law counts once. -/
mutual
def uptoBulk {H : Type} : DataW H → Nat
  | .lit (.string bytes) => bytes.length + 1
  | .lit _ => 1
  | .nil => 1
  | .ptr d => uptoBulk d + 1
  | .slice elems spare => uptoBulkAll elems + uptoBulkAll spare + 1
  | .agg parts => uptoBulkAll parts + 1
  | .iface _ d => uptoBulk d + 1
  | .map entries => uptoBulkEntries entries + 1
  | .held _ => 1
def uptoBulkAll {H : Type} : List (DataW H) → Nat
  | [] => 0
  | d :: r => uptoBulk d + uptoBulkAll r
def uptoBulkEntries {H : Type} : List (Lit × DataW H) → Nat
  | [] => 0
  | x :: r => uptoBulkEntry x + uptoBulkEntries r
def uptoBulkEntry {H : Type} : Lit × DataW H → Nat
  | (.string bytes, d) => bytes.length + uptoBulk d + 1
  | (_, d) => uptoBulk d + 1
 end
def uptoSmall : (H : Type) → List (DataW H) → Bool := fun _ ds => decide (uptoBulkAll ds ≤ 1048576)
def OpenSpec.upto (s : _root_.Go.ChangeSpec) : _root_.Go.OpenSpec := { _root_.Go.OpenSpec.ofChange s with cond := some uptoSmall }

/-- 'laws.FnExactEmptyCells', WHERE WHAT IT READS IS OF BULK AT MOST 1048576: true; the input reads as it did. -/
def fnExactEmptyCellsUptoRow : OpenClaim := { program := "ytcjofpajmhddkaa", sum := "e9be42b4fbebb669d210596bc23c1a14eb81e9f206ad3c1dfed7c8372e3ab94f", func := "loop.example/g01106/laws.FnExactEmptyCells", spec := "fnExactEmptyCells", apart := false, narrowed := true }
def FnExactEmptyCellsUptoSaid : Prop := fnExactEmptyCellsUptoRow.holds Try.pinned (OpenSpec.upto fnExactEmptyCellsSpec)

/-- 'laws.FnExactMeetTables', WHERE WHAT IT READS IS OF BULK AT MOST 1048576: true; the input reads as it did. -/
def fnExactMeetTablesUptoRow : OpenClaim := { program := "ytcjofpajmhddkaa", sum := "e9be42b4fbebb669d210596bc23c1a14eb81e9f206ad3c1dfed7c8372e3ab94f", func := "loop.example/g01106/laws.FnExactMeetTables", spec := "fnExactMeetTables", unfollowed := true, recurses := true, apart := false, narrowed := true }
def FnExactMeetTablesUptoSaid : Prop := fnExactMeetTablesUptoRow.holds Try.pinned (OpenSpec.upto fnExactMeetTablesSpec)

/-- 'laws.FnExactIsAcyclic', WHERE WHAT IT READS IS OF BULK AT MOST 1048576: true; the input reads as it did. -/
def fnExactIsAcyclicUptoRow : OpenClaim := { program := "ytcjofpajmhddkaa", sum := "e9be42b4fbebb669d210596bc23c1a14eb81e9f206ad3c1dfed7c8372e3ab94f", func := "loop.example/g01106/laws.FnExactIsAcyclic", spec := "fnExactIsAcyclic", apart := false, narrowed := true }
def FnExactIsAcyclicUptoSaid : Prop := fnExactIsAcyclicUptoRow.holds Try.pinned (OpenSpec.upto fnExactIsAcyclicSpec)

/-- 'laws.FnExactMirrorTable', WHERE WHAT IT READS IS OF BULK AT MOST 1048576: true; the input reads as it did. -/
def fnExactMirrorTableUptoRow : OpenClaim := { program := "ytcjofpajmhddkaa", sum := "e9be42b4fbebb669d210596bc23c1a14eb81e9f206ad3c1dfed7c8372e3ab94f", func := "loop.example/g01106/laws.FnExactMirrorTable", spec := "fnExactMirrorTable", unfollowed := true, recurses := true, apart := false, narrowed := true }
def FnExactMirrorTableUptoSaid : Prop := fnExactMirrorTableUptoRow.holds Try.pinned (OpenSpec.upto fnExactMirrorTableSpec)

/-- 'laws.FnExactFourCells', WHERE WHAT IT READS IS OF BULK AT MOST 1048576: true; the input reads as it did. -/
def fnExactFourCellsUptoRow : OpenClaim := { program := "ytcjofpajmhddkaa", sum := "e9be42b4fbebb669d210596bc23c1a14eb81e9f206ad3c1dfed7c8372e3ab94f", func := "loop.example/g01106/laws.FnExactFourCells", spec := "fnExactFourCells", apart := false, narrowed := true }
def FnExactFourCellsUptoSaid : Prop := fnExactFourCellsUptoRow.holds Try.pinned (OpenSpec.upto fnExactFourCellsSpec)

/-- 'laws.FnExactPairsApart', WHERE WHAT IT READS IS OF BULK AT MOST 1048576: true; the input reads as it did. -/
def fnExactPairsApartUptoRow : OpenClaim := { program := "ytcjofpajmhddkaa", sum := "e9be42b4fbebb669d210596bc23c1a14eb81e9f206ad3c1dfed7c8372e3ab94f", func := "loop.example/g01106/laws.FnExactPairsApart", spec := "fnExactPairsApart", apart := false, narrowed := true }
def FnExactPairsApartUptoSaid : Prop := fnExactPairsApartUptoRow.holds Try.pinned (OpenSpec.upto fnExactPairsApartSpec)

/-- 'laws.FnExactTableText', WHERE WHAT IT READS IS OF BULK AT MOST 1048576: true; the input reads as it did. -/
def fnExactTableTextUptoRow : OpenClaim := { program := "ytcjofpajmhddkaa", sum := "e9be42b4fbebb669d210596bc23c1a14eb81e9f206ad3c1dfed7c8372e3ab94f", func := "loop.example/g01106/laws.FnExactTableText", spec := "fnExactTableText", inPlace := ["internal/abi.NoEscape", "internal/bytealg.MakeNoZero"], apart := false, narrowed := true }
def FnExactTableTextUptoSaid : Prop := fnExactTableTextUptoRow.holds Try.pinned (OpenSpec.upto fnExactTableTextSpec)

/-- 'laws.FnExactFreeOrder', WHERE WHAT IT READS IS OF BULK AT MOST 1048576: true; the input reads as it did. -/
def fnExactFreeOrderUptoRow : OpenClaim := { program := "ytcjofpajmhddkaa", sum := "e9be42b4fbebb669d210596bc23c1a14eb81e9f206ad3c1dfed7c8372e3ab94f", func := "loop.example/g01106/laws.FnExactFreeOrder", spec := "fnExactFreeOrder", apart := false, narrowed := true }
def FnExactFreeOrderUptoSaid : Prop := fnExactFreeOrderUptoRow.holds Try.pinned (OpenSpec.upto fnExactFreeOrderSpec)

/-- 'laws.FnExactCoverOf', WHERE WHAT IT READS IS OF BULK AT MOST 1048576: true; the input reads as it did. -/
def fnExactCoverOfUptoRow : OpenClaim := { program := "ytcjofpajmhddkaa", sum := "e9be42b4fbebb669d210596bc23c1a14eb81e9f206ad3c1dfed7c8372e3ab94f", func := "loop.example/g01106/laws.FnExactCoverOf", spec := "fnExactCoverOf", apart := false, narrowed := true }
def FnExactCoverOfUptoSaid : Prop := fnExactCoverOfUptoRow.holds Try.pinned (OpenSpec.upto fnExactCoverOfSpec)

end Rows
end Go.Proofs.Ytcjofpajmhddkaa
