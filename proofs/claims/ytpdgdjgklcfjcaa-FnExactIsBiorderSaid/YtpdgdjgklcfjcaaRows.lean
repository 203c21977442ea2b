/-
  No cell of these rows narrows 'for every input' (looked for: loops, veiled, ifaces, maps, wideKeys, modest, calm, conditions, laid).
  DERIVED. THE GIVEN ROWS OF THIS SEAT. 12 by the template 'for every input the law returns true; each argument reads behind the call as it read before'; 0 by the template 'total and deterministic' (their statements: YtpdgdjgklcfjcaaTotals.lean).
  GIVEN WITH THE SEED: the statements are not yours to turn. If you find one false, say at which input.
  Laid BY PROGRAM, IN A SANDBOX (cutbox-rows.mjs): the forced cells as the released guide's own fill.sh prints them over the translation a94e533b89874e76… (all of the seat's roots in one cut). By AI agents, Wed Nov 11 2026. No macro, syntax, notation, axiom, sorry.
-/
import Derived.Test.YtpdgdjgklcfjcaaChecked
import GoSem.Claim
import GoSem.ClaimJoined
import GoSem.ClaimMapViews
import Derived.JoinedTies
import Derived.KernelRfl
namespace Go.Proofs.Ytpdgdjgklcfjcaa
/- THE CELL 'sum', in the pinned program and in every row, IS THE sha256 OF THE DUMP (.gsa) THAT YtpdgdjgklcfjcaaProg.lean LOADS. Nothing in Lean hashes anything: it is a label: what it is worth is what the hold of that sum in a sandbox is worth. -/
noncomputable def Try.pinned : Pinned := { name := "ytpdgdjgklcfjcaa", sum := "a94e533b89874e76eb10582bf4d1e240d81409aaecec294e30540336c3243bb2", checked := Try.checked }
namespace Rows
def none {H : Type} : Left H := { results := [], args := [] }

/-- 'laws.FnExactFirstDesk': WHATEVER THE INPUT: true; the input reads as it did. -/
def fnExactFirstDeskSpec : ChangeSpec := { name := "fnExactFirstDesk", fn := fun _ => fun
  | [] => { results := [.lit (.bool true)], args := [] }
  | _ => none }
def fnExactFirstDeskRow : OpenClaim := { program := "ytpdgdjgklcfjcaa", sum := "a94e533b89874e76eb10582bf4d1e240d81409aaecec294e30540336c3243bb2", func := "loop.example/g01106/laws.FnExactFirstDesk", spec := "fnExactFirstDesk", apart := false }
def FnExactFirstDeskSaid : Prop := fnExactFirstDeskRow.holds Try.pinned (OpenSpec.ofChange fnExactFirstDeskSpec)

/-- ITS FALSE NEIGHBOUR: 'it returns false'. Refute it at one input. -/
def fnExactFirstDeskWrong : ChangeSpec := { name := "fnExactFirstDesk", fn := fun _ => fun
  | [] => { results := [.lit (.bool false)], args := [] }
  | _ => none }
def FnExactFirstDeskWrongFalsely : Prop := fnExactFirstDeskRow.holds Try.pinned (OpenSpec.ofChange fnExactFirstDeskWrong)

/-- 'laws.FnExactCountBiorders': WHATEVER THE INPUT: true; the input reads as it did. -/
def fnExactCountBiordersSpec : ChangeSpec := { name := "fnExactCountBiorders", fn := fun _ => fun
  | [d1, d2] => { results := [.lit (.bool true)], args := [d1, d2] }
  | _ => none }
def fnExactCountBiordersRow : OpenClaim := { program := "ytpdgdjgklcfjcaa", sum := "a94e533b89874e76eb10582bf4d1e240d81409aaecec294e30540336c3243bb2", func := "loop.example/g01106/laws.FnExactCountBiorders", spec := "fnExactCountBiorders", recurses := true, apart := false }
def FnExactCountBiordersSaid : Prop := fnExactCountBiordersRow.holds Try.pinned (OpenSpec.ofChange fnExactCountBiordersSpec)

/-- ITS FALSE NEIGHBOUR: 'it returns false'. Refute it at one input. -/
def fnExactCountBiordersWrong : ChangeSpec := { name := "fnExactCountBiorders", fn := fun _ => fun
  | [d1, d2] => { results := [.lit (.bool false)], args := [d1, d2] }
  | _ => none }
def FnExactCountBiordersWrongFalsely : Prop := fnExactCountBiordersRow.holds Try.pinned (OpenSpec.ofChange fnExactCountBiordersWrong)

/-- 'laws.FnExactIsChoiceTable': WHATEVER THE INPUT: true; the input reads as it did. -/
def fnExactIsChoiceTableSpec : ChangeSpec := { name := "fnExactIsChoiceTable", fn := fun _ => fun
  | [d1, d2] => { results := [.lit (.bool true)], args := [d1, d2] }
  | _ => none }
def fnExactIsChoiceTableRow : OpenClaim := { program := "ytpdgdjgklcfjcaa", sum := "a94e533b89874e76eb10582bf4d1e240d81409aaecec294e30540336c3243bb2", func := "loop.example/g01106/laws.FnExactIsChoiceTable", spec := "fnExactIsChoiceTable", apart := false }
def FnExactIsChoiceTableSaid : Prop := fnExactIsChoiceTableRow.holds Try.pinned (OpenSpec.ofChange fnExactIsChoiceTableSpec)

/-- ITS FALSE NEIGHBOUR: 'it returns false'. Refute it at one input. -/
def fnExactIsChoiceTableWrong : ChangeSpec := { name := "fnExactIsChoiceTable", fn := fun _ => fun
  | [d1, d2] => { results := [.lit (.bool false)], args := [d1, d2] }
  | _ => none }
def FnExactIsChoiceTableWrongFalsely : Prop := fnExactIsChoiceTableRow.holds Try.pinned (OpenSpec.ofChange fnExactIsChoiceTableWrong)

/-- 'laws.FnExactIsTable': WHATEVER THE INPUT: true; the input reads as it did. -/
def fnExactIsTableSpec : ChangeSpec := { name := "fnExactIsTable", fn := fun _ => fun
  | [d] => { results := [.lit (.bool true)], args := [d] }
  | _ => none }
def fnExactIsTableRow : OpenClaim := { program := "ytpdgdjgklcfjcaa", sum := "a94e533b89874e76eb10582bf4d1e240d81409aaecec294e30540336c3243bb2", func := "loop.example/g01106/laws.FnExactIsTable", spec := "fnExactIsTable", apart := false }
def FnExactIsTableSaid : Prop := fnExactIsTableRow.holds Try.pinned (OpenSpec.ofChange fnExactIsTableSpec)

/-- ITS FALSE NEIGHBOUR: 'it returns false'. Refute it at one input. -/
def fnExactIsTableWrong : ChangeSpec := { name := "fnExactIsTable", fn := fun _ => fun
  | [d] => { results := [.lit (.bool false)], args := [d] }
  | _ => none }
def FnExactIsTableWrongFalsely : Prop := fnExactIsTableRow.holds Try.pinned (OpenSpec.ofChange fnExactIsTableWrong)

/-- 'laws.FnExactGrowFails': WHATEVER THE INPUT: true; the input reads as it did. -/
def fnExactGrowFailsSpec : ChangeSpec := { name := "fnExactGrowFails", fn := fun _ => fun
  | [d1, d2] => { results := [.lit (.bool true)], args := [d1, d2] }
  | _ => none }
def fnExactGrowFailsRow : OpenClaim := { program := "ytpdgdjgklcfjcaa", sum := "a94e533b89874e76eb10582bf4d1e240d81409aaecec294e30540336c3243bb2", func := "loop.example/g01106/laws.FnExactGrowFails", spec := "fnExactGrowFails", unfollowed := true, recurses := true, apart := false }
def FnExactGrowFailsSaid : Prop := fnExactGrowFailsRow.holds Try.pinned (OpenSpec.ofChange fnExactGrowFailsSpec)

/-- ITS FALSE NEIGHBOUR: 'it returns false'. Refute it at one input. -/
def fnExactGrowFailsWrong : ChangeSpec := { name := "fnExactGrowFails", fn := fun _ => fun
  | [d1, d2] => { results := [.lit (.bool false)], args := [d1, d2] }
  | _ => none }
def FnExactGrowFailsWrongFalsely : Prop := fnExactGrowFailsRow.holds Try.pinned (OpenSpec.ofChange fnExactGrowFailsWrong)

/-- 'laws.FnExactPathFails': WHATEVER THE INPUT: true; the input reads as it did. -/
def fnExactPathFailsSpec : ChangeSpec := { name := "fnExactPathFails", fn := fun _ => fun
  | [d1, d2] => { results := [.lit (.bool true)], args := [d1, d2] }
  | _ => none }
def fnExactPathFailsRow : OpenClaim := { program := "ytpdgdjgklcfjcaa", sum := "a94e533b89874e76eb10582bf4d1e240d81409aaecec294e30540336c3243bb2", func := "loop.example/g01106/laws.FnExactPathFails", spec := "fnExactPathFails", unfollowed := true, recurses := true, apart := false }
def FnExactPathFailsSaid : Prop := fnExactPathFailsRow.holds Try.pinned (OpenSpec.ofChange fnExactPathFailsSpec)

/-- ITS FALSE NEIGHBOUR: 'it returns false'. Refute it at one input. -/
def fnExactPathFailsWrong : ChangeSpec := { name := "fnExactPathFails", fn := fun _ => fun
  | [d1, d2] => { results := [.lit (.bool false)], args := [d1, d2] }
  | _ => none }
def FnExactPathFailsWrongFalsely : Prop := fnExactPathFailsRow.holds Try.pinned (OpenSpec.ofChange fnExactPathFailsWrong)

/-- 'laws.FnExactShrinkFails': WHATEVER THE INPUT: true; the input reads as it did. -/
def fnExactShrinkFailsSpec : ChangeSpec := { name := "fnExactShrinkFails", fn := fun _ => fun
  | [d1, d2] => { results := [.lit (.bool true)], args := [d1, d2] }
  | _ => none }
def fnExactShrinkFailsRow : OpenClaim := { program := "ytpdgdjgklcfjcaa", sum := "a94e533b89874e76eb10582bf4d1e240d81409aaecec294e30540336c3243bb2", func := "loop.example/g01106/laws.FnExactShrinkFails", spec := "fnExactShrinkFails", unfollowed := true, recurses := true, apart := false }
def FnExactShrinkFailsSaid : Prop := fnExactShrinkFailsRow.holds Try.pinned (OpenSpec.ofChange fnExactShrinkFailsSpec)

/-- ITS FALSE NEIGHBOUR: 'it returns false'. Refute it at one input. -/
def fnExactShrinkFailsWrong : ChangeSpec := { name := "fnExactShrinkFails", fn := fun _ => fun
  | [d1, d2] => { results := [.lit (.bool false)], args := [d1, d2] }
  | _ => none }
def FnExactShrinkFailsWrongFalsely : Prop := fnExactShrinkFailsRow.holds Try.pinned (OpenSpec.ofChange fnExactShrinkFailsWrong)

/-- 'laws.FnExactOutcastFails': WHATEVER THE INPUT: true; the input reads as it did. -/
def fnExactOutcastFailsSpec : ChangeSpec := { name := "fnExactOutcastFails", fn := fun _ => fun
  | [d1, d2] => { results := [.lit (.bool true)], args := [d1, d2] }
  | _ => none }
def fnExactOutcastFailsRow : OpenClaim := { program := "ytpdgdjgklcfjcaa", sum := "a94e533b89874e76eb10582bf4d1e240d81409aaecec294e30540336c3243bb2", func := "loop.example/g01106/laws.FnExactOutcastFails", spec := "fnExactOutcastFails", unfollowed := true, recurses := true, apart := false }
def FnExactOutcastFailsSaid : Prop := fnExactOutcastFailsRow.holds Try.pinned (OpenSpec.ofChange fnExactOutcastFailsSpec)

/-- ITS FALSE NEIGHBOUR: 'it returns false'. Refute it at one input. -/
def fnExactOutcastFailsWrong : ChangeSpec := { name := "fnExactOutcastFails", fn := fun _ => fun
  | [d1, d2] => { results := [.lit (.bool false)], args := [d1, d2] }
  | _ => none }
def FnExactOutcastFailsWrongFalsely : Prop := fnExactOutcastFailsRow.holds Try.pinned (OpenSpec.ofChange fnExactOutcastFailsWrong)

/-- 'laws.FnExactTableOfScales': WHATEVER THE INPUT: true; the input reads as it did. -/
def fnExactTableOfScalesSpec : ChangeSpec := { name := "fnExactTableOfScales", fn := fun _ => fun
  | [d1, d2] => { results := [.lit (.bool true)], args := [d1, d2] }
  | _ => none }
def fnExactTableOfScalesRow : OpenClaim := { program := "ytpdgdjgklcfjcaa", sum := "a94e533b89874e76eb10582bf4d1e240d81409aaecec294e30540336c3243bb2", func := "loop.example/g01106/laws.FnExactTableOfScales", spec := "fnExactTableOfScales", unfollowed := true, recurses := true, apart := false }
def FnExactTableOfScalesSaid : Prop := fnExactTableOfScalesRow.holds Try.pinned (OpenSpec.ofChange fnExactTableOfScalesSpec)

/-- ITS FALSE NEIGHBOUR: 'it returns false'. Refute it at one input. -/
def fnExactTableOfScalesWrong : ChangeSpec := { name := "fnExactTableOfScales", fn := fun _ => fun
  | [d1, d2] => { results := [.lit (.bool false)], args := [d1, d2] }
  | _ => none }
def FnExactTableOfScalesWrongFalsely : Prop := fnExactTableOfScalesRow.holds Try.pinned (OpenSpec.ofChange fnExactTableOfScalesWrong)

/-- 'laws.FnExactIsBiorder': WHATEVER THE INPUT: true; the input reads as it did. -/
def fnExactIsBiorderSpec : ChangeSpec := { name := "fnExactIsBiorder", fn := fun _ => fun
  | [d] => { results := [.lit (.bool true)], args := [d] }
  | _ => none }
def fnExactIsBiorderRow : OpenClaim := { program := "ytpdgdjgklcfjcaa", sum := "a94e533b89874e76eb10582bf4d1e240d81409aaecec294e30540336c3243bb2", func := "loop.example/g01106/laws.FnExactIsBiorder", spec := "fnExactIsBiorder", apart := false }
def FnExactIsBiorderSaid : Prop := fnExactIsBiorderRow.holds Try.pinned (OpenSpec.ofChange fnExactIsBiorderSpec)

/-- ITS FALSE NEIGHBOUR: 'it returns false'. Refute it at one input. -/
def fnExactIsBiorderWrong : ChangeSpec := { name := "fnExactIsBiorder", fn := fun _ => fun
  | [d] => { results := [.lit (.bool false)], args := [d] }
  | _ => none }
def FnExactIsBiorderWrongFalsely : Prop := fnExactIsBiorderRow.holds Try.pinned (OpenSpec.ofChange fnExactIsBiorderWrong)

/-- 'laws.FnExactRevealedOf': WHATEVER THE INPUT: true; the input reads as it did. -/
def fnExactRevealedOfSpec : ChangeSpec := { name := "fnExactRevealedOf", fn := fun _ => fun
  | [d1, d2] => { results := [.lit (.bool true)], args := [d1, d2] }
  | _ => none }
def fnExactRevealedOfRow : OpenClaim := { program := "ytpdgdjgklcfjcaa", sum := "a94e533b89874e76eb10582bf4d1e240d81409aaecec294e30540336c3243bb2", func := "loop.example/g01106/laws.FnExactRevealedOf", spec := "fnExactRevealedOf", unfollowed := true, recurses := true, apart := false }
def FnExactRevealedOfSaid : Prop := fnExactRevealedOfRow.holds Try.pinned (OpenSpec.ofChange fnExactRevealedOfSpec)

/-- ITS FALSE NEIGHBOUR: 'it returns false'. Refute it at one input. -/
def fnExactRevealedOfWrong : ChangeSpec := { name := "fnExactRevealedOf", fn := fun _ => fun
  | [d1, d2] => { results := [.lit (.bool false)], args := [d1, d2] }
  | _ => none }
def FnExactRevealedOfWrongFalsely : Prop := fnExactRevealedOfRow.holds Try.pinned (OpenSpec.ofChange fnExactRevealedOfWrong)

/-- 'laws.FnExactOppositeTable': WHATEVER THE INPUT: true; the input reads as it did. -/
def fnExactOppositeTableSpec : ChangeSpec := { name := "fnExactOppositeTable", fn := fun _ => fun
  | [d] => { results := [.lit (.bool true)], args := [d] }
  | _ => none }
def fnExactOppositeTableRow : OpenClaim := { program := "ytpdgdjgklcfjcaa", sum := "a94e533b89874e76eb10582bf4d1e240d81409aaecec294e30540336c3243bb2", func := "loop.example/g01106/laws.FnExactOppositeTable", spec := "fnExactOppositeTable", unfollowed := true, recurses := true, apart := false }
def FnExactOppositeTableSaid : Prop := fnExactOppositeTableRow.holds Try.pinned (OpenSpec.ofChange fnExactOppositeTableSpec)

/-- ITS FALSE NEIGHBOUR: 'it returns false'. Refute it at one input. -/
def fnExactOppositeTableWrong : ChangeSpec := { name := "fnExactOppositeTable", fn := fun _ => fun
  | [d] => { results := [.lit (.bool false)], args := [d] }
  | _ => none }
def FnExactOppositeTableWrongFalsely : Prop := fnExactOppositeTableRow.holds Try.pinned (OpenSpec.ofChange fnExactOppositeTableWrong)

/- THE SECOND FORM. 'bulk': how many values and letters a reading holds, each counted each time it is reached (what is shared counts as often as it is met; a slice's spare places count too). A statement '..UptoSaid' is the law's where the arguments, and the package variables that the reading takes, are together of bulk at most 1048576: NARROWER than '..Said'. Prove '..Said' where nothing that the law and all that it calls make is longer than what came in: it says more and counts as full. Else prove '..UptoSaid'. A law counts once. -/
mutual
def uptoBulk {H : Type} : DataW H → Nat
  | .lit (.string bytes) => bytes.length + 1
  | .lit _ => 1
  | .nil => 1
  | .ptr d => uptoBulk d + 1
  | .slice elems spare => uptoBulkAll elems + uptoBulkAll spare + 1
  | .agg parts => uptoBulkAll parts + 1
  | .iface _ d => uptoBulk d + 1
  | .map entries => uptoBulkEntries entries + 1
  | .held _ => 1
def uptoBulkAll {H : Type} : List (DataW H) → Nat
  | [] => 0
  | d :: r => uptoBulk d + uptoBulkAll r
def uptoBulkEntries {H : Type} : List (Lit × DataW H) → Nat
  | [] => 0
  | x :: r => uptoBulkEntry x + uptoBulkEntries r
def uptoBulkEntry {H : Type} : Lit × DataW H → Nat
  | (.string bytes, d) => bytes.length + uptoBulk d + 1
  | (_, d) => uptoBulk d + 1
 end
def uptoSmall : (H : Type) → List (DataW H) → Bool := fun _ ds => decide (uptoBulkAll ds ≤ 1048576)
def OpenSpec.upto (s : _root_.Go.ChangeSpec) : _root_.Go.OpenSpec := { _root_.Go.OpenSpec.ofChange s with cond := some uptoSmall }

/-- 'laws.FnExactFirstDesk', WHERE WHAT IT READS IS OF BULK AT MOST 1048576: true; the input reads as it did. -/
def fnExactFirstDeskUptoRow : OpenClaim := { program := "ytpdgdjgklcfjcaa", sum := "a94e533b89874e76eb10582bf4d1e240d81409aaecec294e30540336c3243bb2", func := "loop.example/g01106/laws.FnExactFirstDesk", spec := "fnExactFirstDesk", apart := false, narrowed := true }
def FnExactFirstDeskUptoSaid : Prop := fnExactFirstDeskUptoRow.holds Try.pinned (OpenSpec.upto fnExactFirstDeskSpec)

/-- 'laws.FnExactCountBiorders', WHERE WHAT IT READS IS OF BULK AT MOST 1048576: true; the input reads as it did. -/
def fnExactCountBiordersUptoRow : OpenClaim := { program := "ytpdgdjgklcfjcaa", sum := "a94e533b89874e76eb10582bf4d1e240d81409aaecec294e30540336c3243bb2", func := "loop.example/g01106/laws.FnExactCountBiorders", spec := "fnExactCountBiorders", recurses := true, apart := false, narrowed := true }
def FnExactCountBiordersUptoSaid : Prop := fnExactCountBiordersUptoRow.holds Try.pinned (OpenSpec.upto fnExactCountBiordersSpec)

/-- 'laws.FnExactIsChoiceTable', WHERE WHAT IT READS IS OF BULK AT MOST 1048576: true; the input reads as it did. -/
def fnExactIsChoiceTableUptoRow : OpenClaim := { program := "ytpdgdjgklcfjcaa", sum := "a94e533b89874e76eb10582bf4d1e240d81409aaecec294e30540336c3243bb2", func := "loop.example/g01106/laws.FnExactIsChoiceTable", spec := "fnExactIsChoiceTable", apart := false, narrowed := true }
def FnExactIsChoiceTableUptoSaid : Prop := fnExactIsChoiceTableUptoRow.holds Try.pinned (OpenSpec.upto fnExactIsChoiceTableSpec)

/-- 'laws.FnExactIsTable', WHERE WHAT IT READS IS OF BULK AT MOST 1048576: true; the input reads as it did. -/
def fnExactIsTableUptoRow : OpenClaim := { program := "ytpdgdjgklcfjcaa", sum := "a94e533b89874e76eb10582bf4d1e240d81409aaecec294e30540336c3243bb2", func := "loop.example/g01106/laws.FnExactIsTable", spec := "fnExactIsTable", apart := false, narrowed := true }
def FnExactIsTableUptoSaid : Prop := fnExactIsTableUptoRow.holds Try.pinned (OpenSpec.upto fnExactIsTableSpec)

/-- 'laws.FnExactGrowFails', WHERE WHAT IT READS IS OF BULK AT MOST 1048576: true; the input reads as it did. -/
def fnExactGrowFailsUptoRow : OpenClaim := { program := "ytpdgdjgklcfjcaa", sum := "a94e533b89874e76eb10582bf4d1e240d81409aaecec294e30540336c3243bb2", func := "loop.example/g01106/laws.FnExactGrowFails", spec := "fnExactGrowFails", unfollowed := true, recurses := true, apart := false, narrowed := true }
def FnExactGrowFailsUptoSaid : Prop := fnExactGrowFailsUptoRow.holds Try.pinned (OpenSpec.upto fnExactGrowFailsSpec)

/-- 'laws.FnExactPathFails', WHERE WHAT IT READS IS OF BULK AT MOST 1048576: true; the input reads as it did. -/
def fnExactPathFailsUptoRow : OpenClaim := { program := "ytpdgdjgklcfjcaa", sum := "a94e533b89874e76eb10582bf4d1e240d81409aaecec294e30540336c3243bb2", func := "loop.example/g01106/laws.FnExactPathFails", spec := "fnExactPathFails", unfollowed := true, recurses := true, apart := false, narrowed := true }
def FnExactPathFailsUptoSaid : Prop := fnExactPathFailsUptoRow.holds Try.pinned (OpenSpec.upto fnExactPathFailsSpec)

/-- 'laws.FnExactShrinkFails', WHERE WHAT IT READS IS OF BULK AT MOST 1048576: true; the input reads as it did. -/
def fnExactShrinkFailsUptoRow : OpenClaim := { program := "ytpdgdjgklcfjcaa", sum := "a94e533b89874e76eb10582bf4d1e240d81409aaecec294e30540336c3243bb2", func := "loop.example/g01106/laws.FnExactShrinkFails", spec := "fnExactShrinkFails", unfollowed := true, recurses := true, apart := false, narrowed := true }
def FnExactShrinkFailsUptoSaid : Prop := fnExactShrinkFailsUptoRow.holds Try.pinned (OpenSpec.upto fnExactShrinkFailsSpec)

/-- 'laws.FnExactOutcastFails', WHERE WHAT IT READS IS OF BULK AT MOST 1048576: true; the input reads as it did. -/
def fnExactOutcastFailsUptoRow : OpenClaim := { program := "ytpdgdjgklcfjcaa", sum := "a94e533b89874e76eb10582bf4d1e240d81409aaecec294e30540336c3243bb2", func := "loop.example/g01106/laws.FnExactOutcastFails", spec := "fnExactOutcastFails", unfollowed := true, recurses := true, apart := false, narrowed := true }
def FnExactOutcastFailsUptoSaid : Prop := fnExactOutcastFailsUptoRow.holds Try.pinned (OpenSpec.upto fnExactOutcastFailsSpec)

/-- 'laws.FnExactTableOfScales', WHERE WHAT IT READS IS OF BULK AT MOST 1048576: true; the input reads as it did. -/
def fnExactTableOfScalesUptoRow : OpenClaim := { program := "ytpdgdjgklcfjcaa", sum := "a94e533b89874e76eb10582bf4d1e240d81409aaecec294e30540336c3243bb2", func := "loop.example/g01106/laws.FnExactTableOfScales", spec := "fnExactTableOfScales", unfollowed := true, recurses := true, apart := false, narrowed := true }
def FnExactTableOfScalesUptoSaid : Prop := fnExactTableOfScalesUptoRow.holds Try.pinned (OpenSpec.upto fnExactTableOfScalesSpec)

/-- 'laws.FnExactIsBiorder', WHERE WHAT IT READS IS OF BULK AT MOST 1048576: true; the input reads as it did. -/
def fnExactIsBiorderUptoRow : OpenClaim := { program := "ytpdgdjgklcfjcaa", sum := "a94e533b89874e76eb10582bf4d1e240d81409aaecec294e30540336c3243bb2", func := "loop.example/g01106/laws.FnExactIsBiorder", spec := "fnExactIsBiorder", apart := false, narrowed := true }
def FnExactIsBiorderUptoSaid : Prop := fnExactIsBiorderUptoRow.holds Try.pinned (OpenSpec.upto fnExactIsBiorderSpec)

/-- 'laws.FnExactRevealedOf', WHERE WHAT IT READS IS OF BULK AT MOST 1048576: true; the input reads as it did. -/
def fnExactRevealedOfUptoRow : OpenClaim := { program := "ytpdgdjgklcfjcaa", sum := "a94e533b89874e76eb10582bf4d1e240d81409aaecec294e30540336c3243bb2", func := "loop.example/g01106/laws.FnExactRevealedOf", spec := "fnExactRevealedOf", unfollowed := true, recurses := true, apart := false, narrowed := true }
def FnExactRevealedOfUptoSaid : Prop := fnExactRevealedOfUptoRow.holds Try.pinned (OpenSpec.upto fnExactRevealedOfSpec)

/-- 'laws.FnExactOppositeTable', WHERE WHAT IT READS IS OF BULK AT MOST 1048576: true; the input reads as it did. -/
def fnExactOppositeTableUptoRow : OpenClaim := { program := "ytpdgdjgklcfjcaa", sum := "a94e533b89874e76eb10582bf4d1e240d81409aaecec294e30540336c3243bb2", func := "loop.example/g01106/laws.FnExactOppositeTable", spec := "fnExactOppositeTable", unfollowed := true, recurses := true, apart := false, narrowed := true }
def FnExactOppositeTableUptoSaid : Prop := fnExactOppositeTableUptoRow.holds Try.pinned (OpenSpec.upto fnExactOppositeTableSpec)

end Rows
end Go.Proofs.Ytpdgdjgklcfjcaa
