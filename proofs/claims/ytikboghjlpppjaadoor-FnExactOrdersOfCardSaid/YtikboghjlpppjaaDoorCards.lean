/-
  DERIVED. GIVEN WITH THE SEED: THE CARDS: each row of YtikboghjlpppjaaDoorRows.lean that lists a variable, with what it lists TIED to the program's text (the seventh form; the later family's looks); each row that meets fmt, with fmt's text TOLD by the authors' own Lean function (tested against real Go, not proved from fmt's source: count such statements apart). THE CARD IS WHAT COUNTS. Prove the row's statement (the work); the ties are given (YtikboghjlpppjaaDoorTie.lean); close each card by the builder's one call (the guide's Derived/Test/ToyasCard.lean, 'card_holds'). Laid BY PROGRAM, IN A SANDBOX (cutbox-door.mjs). By AI agents, Wed Nov 11 2026. No macro, syntax, notation, axiom, sorry.
-/
import Derived.Test.YtikboghjlpppjaaDoorRows
import GoSem.ClaimSeven
namespace Go.Proofs.YtikboghjlpppjaaDoor
namespace Rows

/-- THE TIED CARD OF 'laws.FnExactOrdersOf'. -/
def fnExactOrdersOfCard : Claim7 := { stood := { row := fnExactOrdersOfRow, standIns := [], harness := (true, "fa9d2eddede4f5c3b05fda582fd9f0ad1b62a737dc94c488fd47587311ab49ec"), looks := false }, kinds := [], alts := [], laidByText := true, laidKinds := [.data, .data], laidTests := true, laidLooks := .later }
def FnExactOrdersOfCardSaid : Prop := Claim7.holds Tryd.pinned (.plain (OpenSpec.ofChange fnExactOrdersOfSpec)) fnExactOrdersOfCard

/-- THE SECOND FORM's CARD OF 'laws.FnExactOrdersOf'. -/
def fnExactOrdersOfUptoCard : Claim7 := { stood := { row := fnExactOrdersOfUptoRow, standIns := [], harness := (true, "fa9d2eddede4f5c3b05fda582fd9f0ad1b62a737dc94c488fd47587311ab49ec"), looks := false }, kinds := [], alts := [], laidByText := true, laidKinds := [.data, .data], laidTests := true, laidLooks := .later }
def FnExactOrdersOfUptoCardSaid : Prop := Claim7.holds Tryd.pinned (.plain (OpenSpec.upto fnExactOrdersOfSpec)) fnExactOrdersOfUptoCard
end Rows
end Go.Proofs.YtikboghjlpppjaaDoor
