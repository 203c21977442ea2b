/-
  DERIVED. GIVEN WITH THE SEED: THE CARDS: each row of YtdaneldckdjjoaaDoorRows.lean that lists a variable, with what it lists TIED to the program's text (the seventh form; the later family's looks); each row that meets fmt, with fmt's text TOLD by the authors' own Lean function (tested against real Go, not proved from fmt's source: count such statements apart). THE CARD IS WHAT COUNTS. Prove the row's statement (the work); the ties are given (YtdaneldckdjjoaaDoorTie.lean); close each card by the builder's one call (the guide's Derived/Test/ToyasCard.lean, 'card_holds'). Laid BY PROGRAM, IN A SANDBOX (cutbox-door.mjs). By AI agents, Wed Nov 11 2026. No macro, syntax, notation, axiom, sorry.
-/
import Derived.Test.YtdaneldckdjjoaaDoorRows
import GoSem.ClaimSeven
namespace Go.Proofs.YtdaneldckdjjoaaDoor
namespace Rows

/-- THE TIED CARD OF 'laws.FnExactNearestOf'. -/
def fnExactNearestOfCard : Claim7 := { stood := { row := fnExactNearestOfRow, standIns := [], harness := (true, "e319f95dc8b4be5a66d091e7f4ab1576e28f18ea05b1f45261bb5ecac525c370"), looks := false }, kinds := [], alts := [], laidByText := true, laidKinds := [.data, .data], laidTests := true, laidLooks := .later }
def FnExactNearestOfCardSaid : Prop := Claim7.holds Tryd.pinned (.plain (OpenSpec.ofChange fnExactNearestOfSpec)) fnExactNearestOfCard

/-- THE SECOND FORM's CARD OF 'laws.FnExactNearestOf'. -/
def fnExactNearestOfUptoCard : Claim7 := { stood := { row := fnExactNearestOfUptoRow, standIns := [], harness := (true, "e319f95dc8b4be5a66d091e7f4ab1576e28f18ea05b1f45261bb5ecac525c370"), looks := false }, kinds := [], alts := [], laidByText := true, laidKinds := [.data, .data], laidTests := true, laidLooks := .later }
def FnExactNearestOfUptoCardSaid : Prop := Claim7.holds Tryd.pinned (.plain (OpenSpec.upto fnExactNearestOfSpec)) fnExactNearestOfUptoCard
end Rows
end Go.Proofs.YtdaneldckdjjoaaDoor
