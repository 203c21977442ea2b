/-
  No cell of these rows narrows 'for every input' (looked for: loops, veiled, ifaces, maps, wideKeys, modest, calm, conditions, laid).
  DERIVED. THE GIVEN ROWS OF THIS SEAT. 5 by the template 'for every input the law returns true; each argument reads behind the call as it read before'; 0 by the template 'total and deterministic' (their statements: YtpippjgphndjmaaTotals.lean).
  GIVEN WITH THE SEED: the statements are not yours to turn. If you find one false, say at which input.
  Laid BY PROGRAM, IN A SANDBOX (cutbox-rows.mjs): the forced cells as the released guide's own fill.sh prints them over the translation 3bc368d4868e0ac0… (all of the seat's roots in one cut). By AI agents, Wed Nov 11 2026. No macro, syntax, notation, axiom, sorry.
-/
import Derived.Test.YtpippjgphndjmaaChecked
import GoSem.Claim
import GoSem.ClaimJoined
import GoSem.ClaimMapViews
import Derived.JoinedTies
import Derived.KernelRfl
namespace Go.Proofs.Ytpippjgphndjmaa
/- THE CELL 'sum', in the pinned program and in every row, IS THE sha256 OF THE DUMP (.gsa) THAT YtpippjgphndjmaaProg.lean LOADS. Nothing in Lean hashes anything: it is a label: what it is worth is what the hold of that sum in a sandbox is worth. -/
noncomputable def Try.pinned : Pinned := { name := "ytpippjgphndjmaa", sum := "3bc368d4868e0ac012532bd4434f6e9b073dd894d7049c42baeeae951d8f8863", checked := Try.checked }
namespace Rows
def none {H : Type} : Left H := { results := [], args := [] }

/-- 'laws.FnExactLeastParts': WHATEVER THE INPUT: true; the input reads as it did. -/
def fnExactLeastPartsSpec : ChangeSpec := { name := "fnExactLeastParts", fn := fun _ => fun
  | [d] => { results := [.lit (.bool true)], args := [d] }
  | _ => none }
def fnExactLeastPartsRow : OpenClaim := { program := "ytpippjgphndjmaa", sum := "3bc368d4868e0ac012532bd4434f6e9b073dd894d7049c42baeeae951d8f8863", func := "loop.example/g01106/laws.FnExactLeastParts", spec := "fnExactLeastParts", unfollowed := true, recurses := true, apart := false }
def FnExactLeastPartsSaid : Prop := fnExactLeastPartsRow.holds Try.pinned (OpenSpec.ofChange fnExactLeastPartsSpec)

/-- ITS FALSE NEIGHBOUR: 'it returns false'. Refute it at one input. -/
def fnExactLeastPartsWrong : ChangeSpec := { name := "fnExactLeastParts", fn := fun _ => fun
  | [d] => { results := [.lit (.bool false)], args := [d] }
  | _ => none }
def FnExactLeastPartsWrongFalsely : Prop := fnExactLeastPartsRow.holds Try.pinned (OpenSpec.ofChange fnExactLeastPartsWrong)

/-- 'laws.FnExactSplitCells': WHATEVER THE INPUT: true; the input reads as it did. -/
def fnExactSplitCellsSpec : ChangeSpec := { name := "fnExactSplitCells", fn := fun _ => fun
  | [d1, d2] => { results := [.lit (.bool true)], args := [d1, d2] }
  | _ => none }
def fnExactSplitCellsRow : OpenClaim := { program := "ytpippjgphndjmaa", sum := "3bc368d4868e0ac012532bd4434f6e9b073dd894d7049c42baeeae951d8f8863", func := "loop.example/g01106/laws.FnExactSplitCells", spec := "fnExactSplitCells", unfollowed := true, recurses := true, apart := false }
def FnExactSplitCellsSaid : Prop := fnExactSplitCellsRow.holds Try.pinned (OpenSpec.ofChange fnExactSplitCellsSpec)

/-- ITS FALSE NEIGHBOUR: 'it returns false'. Refute it at one input. -/
def fnExactSplitCellsWrong : ChangeSpec := { name := "fnExactSplitCells", fn := fun _ => fun
  | [d1, d2] => { results := [.lit (.bool false)], args := [d1, d2] }
  | _ => none }
def FnExactSplitCellsWrongFalsely : Prop := fnExactSplitCellsRow.holds Try.pinned (OpenSpec.ofChange fnExactSplitCellsWrong)

/-- 'laws.FnCovers': WHATEVER THE INPUT: true; the input reads as it did. -/
def fnCoversSpec : ChangeSpec := { name := "fnCovers", fn := fun _ => fun
  | [d1, d2] => { results := [.lit (.bool true)], args := [d1, d2] }
  | _ => none }
def fnCoversRow : OpenClaim := { program := "ytpippjgphndjmaa", sum := "3bc368d4868e0ac012532bd4434f6e9b073dd894d7049c42baeeae951d8f8863", func := "loop.example/g01106/laws.FnCovers", spec := "fnCovers", unfollowed := true, recurses := true, apart := false }
def FnCoversSaid : Prop := fnCoversRow.holds Try.pinned (OpenSpec.ofChange fnCoversSpec)

/-- ITS FALSE NEIGHBOUR: 'it returns false'. Refute it at one input. -/
def fnCoversWrong : ChangeSpec := { name := "fnCovers", fn := fun _ => fun
  | [d1, d2] => { results := [.lit (.bool false)], args := [d1, d2] }
  | _ => none }
def FnCoversWrongFalsely : Prop := fnCoversRow.holds Try.pinned (OpenSpec.ofChange fnCoversWrong)

/-- 'laws.FnExactMeetOfBiorders': WHATEVER THE INPUT: true; the input reads as it did. -/
def fnExactMeetOfBiordersSpec : ChangeSpec := { name := "fnExactMeetOfBiorders", fn := fun _ => fun
  | [d] => { results := [.lit (.bool true)], args := [d] }
  | _ => none }
def fnExactMeetOfBiordersRow : OpenClaim := { program := "ytpippjgphndjmaa", sum := "3bc368d4868e0ac012532bd4434f6e9b073dd894d7049c42baeeae951d8f8863", func := "loop.example/g01106/laws.FnExactMeetOfBiorders", spec := "fnExactMeetOfBiorders", unfollowed := true, recurses := true, apart := false }
def FnExactMeetOfBiordersSaid : Prop := fnExactMeetOfBiordersRow.holds Try.pinned (OpenSpec.ofChange fnExactMeetOfBiordersSpec)

/-- ITS FALSE NEIGHBOUR: 'it returns false'. Refute it at one input. -/
def fnExactMeetOfBiordersWrong : ChangeSpec := { name := "fnExactMeetOfBiorders", fn := fun _ => fun
  | [d] => { results := [.lit (.bool false)], args := [d] }
  | _ => none }
def FnExactMeetOfBiordersWrongFalsely : Prop := fnExactMeetOfBiordersRow.holds Try.pinned (OpenSpec.ofChange fnExactMeetOfBiordersWrong)

/-- 'laws.FnMeetsOfBiorders': WHATEVER THE INPUT: true; the input reads as it did. -/
def fnMeetsOfBiordersSpec : ChangeSpec := { name := "fnMeetsOfBiorders", fn := fun _ => fun
  | [d1, d2] => { results := [.lit (.bool true)], args := [d1, d2] }
  | _ => none }
def fnMeetsOfBiordersRow : OpenClaim := { program := "ytpippjgphndjmaa", sum := "3bc368d4868e0ac012532bd4434f6e9b073dd894d7049c42baeeae951d8f8863", func := "loop.example/g01106/laws.FnMeetsOfBiorders", spec := "fnMeetsOfBiorders", unfollowed := true, recurses := true, apart := false }
def FnMeetsOfBiordersSaid : Prop := fnMeetsOfBiordersRow.holds Try.pinned (OpenSpec.ofChange fnMeetsOfBiordersSpec)

/-- ITS FALSE NEIGHBOUR: 'it returns false'. Refute it at one input. -/
def fnMeetsOfBiordersWrong : ChangeSpec := { name := "fnMeetsOfBiorders", fn := fun _ => fun
  | [d1, d2] => { results := [.lit (.bool false)], args := [d1, d2] }
  | _ => none }
def FnMeetsOfBiordersWrongFalsely : Prop := fnMeetsOfBiordersRow.holds Try.pinned (OpenSpec.ofChange fnMeetsOfBiordersWrong)

/- THE SECOND FORM. 'bulk': how many values and letters a reading holds, each counted each time it is reached (what is shared counts as often as it is met; a slice's spare places count too). A statement '..UptoSaid' is the law's where the arguments, and the package variables that the reading takes, are together of bulk at most 1048576: NARROWER than '..Said'. Prove '..Said' where nothing that the law and all that it calls make is longer than what came in: it says more and counts as full. Else prove '..UptoSaid'. A law counts once. -/
mutual
def uptoBulk {H : Type} : DataW H → Nat
  | .lit (.string bytes) => bytes.length + 1
  | .lit _ => 1
  | .nil => 1
  | .ptr d => uptoBulk d + 1
  | .slice elems spare => uptoBulkAll elems + uptoBulkAll spare + 1
  | .agg parts => uptoBulkAll parts + 1
  | .iface _ d => uptoBulk d + 1
  | .map entries => uptoBulkEntries entries + 1
  | .held _ => 1
def uptoBulkAll {H : Type} : List (DataW H) → Nat
  | [] => 0
  | d :: r => uptoBulk d + uptoBulkAll r
def uptoBulkEntries {H : Type} : List (Lit × DataW H) → Nat
  | [] => 0
  | x :: r => uptoBulkEntry x + uptoBulkEntries r
def uptoBulkEntry {H : Type} : Lit × DataW H → Nat
  | (.string bytes, d) => bytes.length + uptoBulk d + 1
  | (_, d) => uptoBulk d + 1
 end
def uptoSmall : (H : Type) → List (DataW H) → Bool := fun _ ds => decide (uptoBulkAll ds ≤ 1048576)
def OpenSpec.upto (s : _root_.Go.ChangeSpec) : _root_.Go.OpenSpec := { _root_.Go.OpenSpec.ofChange s with cond := some uptoSmall }

/-- 'laws.FnExactLeastParts', WHERE WHAT IT READS IS OF BULK AT MOST 1048576: true; the input reads as it did. -/
def fnExactLeastPartsUptoRow : OpenClaim := { program := "ytpippjgphndjmaa", sum := "3bc368d4868e0ac012532bd4434f6e9b073dd894d7049c42baeeae951d8f8863", func := "loop.example/g01106/laws.FnExactLeastParts", spec := "fnExactLeastParts", unfollowed := true, recurses := true, apart := false, narrowed := true }
def FnExactLeastPartsUptoSaid : Prop := fnExactLeastPartsUptoRow.holds Try.pinned (OpenSpec.upto fnExactLeastPartsSpec)

/-- 'laws.FnExactSplitCells', WHERE WHAT IT READS IS OF BULK AT MOST 1048576: true; the input reads as it did. -/
def fnExactSplitCellsUptoRow : OpenClaim := { program := "ytpippjgphndjmaa", sum := "3bc368d4868e0ac012532bd4434f6e9b073dd894d7049c42baeeae951d8f8863", func := "loop.example/g01106/laws.FnExactSplitCells", spec := "fnExactSplitCells", unfollowed := true, recurses := true, apart := false, narrowed := true }
def FnExactSplitCellsUptoSaid : Prop := fnExactSplitCellsUptoRow.holds Try.pinned (OpenSpec.upto fnExactSplitCellsSpec)

/-- 'laws.FnCovers', WHERE WHAT IT READS IS OF BULK AT MOST 1048576: true; the input reads as it did. -/
def fnCoversUptoRow : OpenClaim := { program := "ytpippjgphndjmaa", sum := "3bc368d4868e0ac012532bd4434f6e9b073dd894d7049c42baeeae951d8f8863", func := "loop.example/g01106/laws.FnCovers", spec := "fnCovers", unfollowed := true, recurses := true, apart := false, narrowed := true }
def FnCoversUptoSaid : Prop := fnCoversUptoRow.holds Try.pinned (OpenSpec.upto fnCoversSpec)

/-- 'laws.FnExactMeetOfBiorders', WHERE WHAT IT READS IS OF BULK AT MOST 1048576: true; the input reads as it did. -/
def fnExactMeetOfBiordersUptoRow : OpenClaim := { program := "ytpippjgphndjmaa", sum := "3bc368d4868e0ac012532bd4434f6e9b073dd894d7049c42baeeae951d8f8863", func := "loop.example/g01106/laws.FnExactMeetOfBiorders", spec := "fnExactMeetOfBiorders", unfollowed := true, recurses := true, apart := false, narrowed := true }
def FnExactMeetOfBiordersUptoSaid : Prop := fnExactMeetOfBiordersUptoRow.holds Try.pinned (OpenSpec.upto fnExactMeetOfBiordersSpec)

/-- 'laws.FnMeetsOfBiorders', WHERE WHAT IT READS IS OF BULK AT MOST 1048576: true; the input reads as it did. -/
def fnMeetsOfBiordersUptoRow : OpenClaim := { program := "ytpippjgphndjmaa", sum := "3bc368d4868e0ac012532bd4434f6e9b073dd894d7049c42baeeae951d8f8863", func := "loop.example/g01106/laws.FnMeetsOfBiorders", spec := "fnMeetsOfBiorders", unfollowed := true, recurses := true, apart := false, narrowed := true }
def FnMeetsOfBiordersUptoSaid : Prop := fnMeetsOfBiordersUptoRow.holds Try.pinned (OpenSpec.upto fnMeetsOfBiordersSpec)

end Rows
end Go.Proofs.Ytpippjgphndjmaa
