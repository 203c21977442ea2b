/-
  No cell of these rows narrows 'for every input' (looked for: loops, veiled, ifaces, maps, wideKeys, modest, calm, conditions, laid).
  DERIVED. THE GIVEN ROWS OF THIS SEAT. 3 by the template 'for every input the law returns true; each argument reads behind the call as it read before'; 0 by the template 'total and deterministic' (their statements: YtakabmokpknknaaTotals.lean).
  GIVEN WITH THE SEED: the statements are not yours to turn. If you find one false, say at which input.
  Laid BY PROGRAM, IN A SANDBOX (cutbox-rows.mjs): the forced cells as the released guide's own fill.sh prints them over the translation fae0e9a2e04a0a56… (all of the seat's roots in one cut). By AI agents, Wed Nov 11 2026. No macro, syntax, notation, axiom, sorry.
-/
import Derived.Test.YtakabmokpknknaaChecked
import GoSem.Claim
import GoSem.ClaimJoined
import GoSem.ClaimMapViews
import Derived.JoinedTies
import Derived.KernelRfl
namespace Go.Proofs.Ytakabmokpknknaa
/- THE CELL 'sum', in the pinned program and in every row, IS THE sha256 OF THE DUMP (.gsa) THAT YtakabmokpknknaaProg.lean LOADS. Nothing in Lean hashes anything: it is a label: what it is worth is what the hold of that sum in a sandbox is worth. -/
noncomputable def Try.pinned : Pinned := { name := "ytakabmokpknknaa", sum := "fae0e9a2e04a0a56a08a34758d110a0e887a256c51d5fad232064f59540ba762", checked := Try.checked }
namespace Rows
def none {H : Type} : Left H := { results := [], args := [] }

/-- 'laws.FnExactMeetTables': WHATEVER THE INPUT: true; the input reads as it did. -/
def fnExactMeetTablesSpec : ChangeSpec := { name := "fnExactMeetTables", fn := fun _ => fun
  | [d1, d2] => { results := [.lit (.bool true)], args := [d1, d2] }
  | _ => none }
def fnExactMeetTablesRow : OpenClaim := { program := "ytakabmokpknknaa", sum := "fae0e9a2e04a0a56a08a34758d110a0e887a256c51d5fad232064f59540ba762", func := "loop.example/g01106/laws.FnExactMeetTables", spec := "fnExactMeetTables", unfollowed := true, recurses := true, apart := false }
def FnExactMeetTablesSaid : Prop := fnExactMeetTablesRow.holds Try.pinned (OpenSpec.ofChange fnExactMeetTablesSpec)

/-- ITS FALSE NEIGHBOUR: 'it returns false'. Refute it at one input. -/
def fnExactMeetTablesWrong : ChangeSpec := { name := "fnExactMeetTables", fn := fun _ => fun
  | [d1, d2] => { results := [.lit (.bool false)], args := [d1, d2] }
  | _ => none }
def FnExactMeetTablesWrongFalsely : Prop := fnExactMeetTablesRow.holds Try.pinned (OpenSpec.ofChange fnExactMeetTablesWrong)

/-- 'laws.FnExactScalesOf': WHATEVER THE INPUT: true; the input reads as it did. -/
def fnExactScalesOfSpec : ChangeSpec := { name := "fnExactScalesOf", fn := fun _ => fun
  | [d] => { results := [.lit (.bool true)], args := [d] }
  | _ => none }
def fnExactScalesOfRow : OpenClaim := { program := "ytakabmokpknknaa", sum := "fae0e9a2e04a0a56a08a34758d110a0e887a256c51d5fad232064f59540ba762", func := "loop.example/g01106/laws.FnExactScalesOf", spec := "fnExactScalesOf", unfollowed := true, recurses := true, apart := false }
def FnExactScalesOfSaid : Prop := fnExactScalesOfRow.holds Try.pinned (OpenSpec.ofChange fnExactScalesOfSpec)

/-- ITS FALSE NEIGHBOUR: 'it returns false'. Refute it at one input. -/
def fnExactScalesOfWrong : ChangeSpec := { name := "fnExactScalesOf", fn := fun _ => fun
  | [d] => { results := [.lit (.bool false)], args := [d] }
  | _ => none }
def FnExactScalesOfWrongFalsely : Prop := fnExactScalesOfRow.holds Try.pinned (OpenSpec.ofChange fnExactScalesOfWrong)

/-- 'laws.FnBiordersHaveScales': WHATEVER THE INPUT: true; the input reads as it did. -/
def fnBiordersHaveScalesSpec : ChangeSpec := { name := "fnBiordersHaveScales", fn := fun _ => fun
  | [d1, d2] => { results := [.lit (.bool true)], args := [d1, d2] }
  | _ => none }
def fnBiordersHaveScalesRow : OpenClaim := { program := "ytakabmokpknknaa", sum := "fae0e9a2e04a0a56a08a34758d110a0e887a256c51d5fad232064f59540ba762", func := "loop.example/g01106/laws.FnBiordersHaveScales", spec := "fnBiordersHaveScales", unfollowed := true, recurses := true, apart := false }
def FnBiordersHaveScalesSaid : Prop := fnBiordersHaveScalesRow.holds Try.pinned (OpenSpec.ofChange fnBiordersHaveScalesSpec)

/-- ITS FALSE NEIGHBOUR: 'it returns false'. Refute it at one input. -/
def fnBiordersHaveScalesWrong : ChangeSpec := { name := "fnBiordersHaveScales", fn := fun _ => fun
  | [d1, d2] => { results := [.lit (.bool false)], args := [d1, d2] }
  | _ => none }
def FnBiordersHaveScalesWrongFalsely : Prop := fnBiordersHaveScalesRow.holds Try.pinned (OpenSpec.ofChange fnBiordersHaveScalesWrong)

/- THE SECOND FORM. 'bulk': how many values and letters a reading holds, each counted each time it is reached (what is shared counts as often as it is met; a slice's spare places count too). A statement '..UptoSaid' is the law's where the arguments, and the package variables that the reading takes, are together of bulk at most 1048576: NARROWER than '..Said'. Prove '..Said' where nothing that the law and all that it calls make is longer than what came in: it says more and counts as full. Else prove '..UptoSaid'. A law counts once. -/
mutual
def uptoBulk {H : Type} : DataW H → Nat
  | .lit (.string bytes) => bytes.length + 1
  | .lit _ => 1
  | .nil => 1
  | .ptr d => uptoBulk d + 1
  | .slice elems spare => uptoBulkAll elems + uptoBulkAll spare + 1
  | .agg parts => uptoBulkAll parts + 1
  | .iface _ d => uptoBulk d + 1
  | .map entries => uptoBulkEntries entries + 1
  | .held _ => 1
def uptoBulkAll {H : Type} : List (DataW H) → Nat
  | [] => 0
  | d :: r => uptoBulk d + uptoBulkAll r
def uptoBulkEntries {H : Type} : List (Lit × DataW H) → Nat
  | [] => 0
  | x :: r => uptoBulkEntry x + uptoBulkEntries r
def uptoBulkEntry {H : Type} : Lit × DataW H → Nat
  | (.string bytes, d) => bytes.length + uptoBulk d + 1
  | (_, d) => uptoBulk d + 1
 end
def uptoSmall : (H : Type) → List (DataW H) → Bool := fun _ ds => decide (uptoBulkAll ds ≤ 1048576)
def OpenSpec.upto (s : _root_.Go.ChangeSpec) : _root_.Go.OpenSpec := { _root_.Go.OpenSpec.ofChange s with cond := some uptoSmall }

/-- 'laws.FnExactMeetTables', WHERE WHAT IT READS IS OF BULK AT MOST 1048576: true; the input reads as it did. -/
def fnExactMeetTablesUptoRow : OpenClaim := { program := "ytakabmokpknknaa", sum := "fae0e9a2e04a0a56a08a34758d110a0e887a256c51d5fad232064f59540ba762", func := "loop.example/g01106/laws.FnExactMeetTables", spec := "fnExactMeetTables", unfollowed := true, recurses := true, apart := false, narrowed := true }
def FnExactMeetTablesUptoSaid : Prop := fnExactMeetTablesUptoRow.holds Try.pinned (OpenSpec.upto fnExactMeetTablesSpec)

/-- 'laws.FnExactScalesOf', WHERE WHAT IT READS IS OF BULK AT MOST 1048576: true; the input reads as it did. -/
def fnExactScalesOfUptoRow : OpenClaim := { program := "ytakabmokpknknaa", sum := "fae0e9a2e04a0a56a08a34758d110a0e887a256c51d5fad232064f59540ba762", func := "loop.example/g01106/laws.FnExactScalesOf", spec := "fnExactScalesOf", unfollowed := true, recurses := true, apart := false, narrowed := true }
def FnExactScalesOfUptoSaid : Prop := fnExactScalesOfUptoRow.holds Try.pinned (OpenSpec.upto fnExactScalesOfSpec)

/-- 'laws.FnBiordersHaveScales', WHERE WHAT IT READS IS OF BULK AT MOST 1048576: true; the input reads as it did. -/
def fnBiordersHaveScalesUptoRow : OpenClaim := { program := "ytakabmokpknknaa", sum := "fae0e9a2e04a0a56a08a34758d110a0e887a256c51d5fad232064f59540ba762", func := "loop.example/g01106/laws.FnBiordersHaveScales", spec := "fnBiordersHaveScales", unfollowed := true, recurses := true, apart := false, narrowed := true }
def FnBiordersHaveScalesUptoSaid : Prop := fnBiordersHaveScalesUptoRow.holds Try.pinned (OpenSpec.upto fnBiordersHaveScalesSpec)

end Rows
end Go.Proofs.Ytakabmokpknknaa
