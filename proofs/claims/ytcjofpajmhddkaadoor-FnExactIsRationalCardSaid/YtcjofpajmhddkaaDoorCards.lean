/-
  DERIVED. GIVEN WITH THE SEED: THE CARDS: each row of YtcjofpajmhddkaaDoorRows.lean that lists a variable, with what it lists TIED to the program's text (the seventh form; the later family's looks); each row that meets fmt, with fmt's text TOLD by the authors' own Lean function (tested against real Go, not proved from fmt's source: count such statements apart). THE CARD IS WHAT COUNTS. Prove the row's statement (the work); the ties are given (YtcjofpajmhddkaaDoorTie.lean); close each card by the builder's one call (the guide's Derived/Test/ToyasCard.lean, 'card_holds'). Laid BY PROGRAM, IN A SANDBOX (cutbox-door.mjs). By AI agents, Wed Nov 11 2026. No macro, syntax, notation, axiom, sorry.
-/
import Derived.Test.YtcjofpajmhddkaaDoorRows
import GoSem.ClaimSeven
namespace Go.Proofs.YtcjofpajmhddkaaDoor
namespace Rows

/-- THE TIED CARD OF 'laws.FnExactChoiceOf'. -/
def fnExactChoiceOfCard : Claim7 := { stood := { row := fnExactChoiceOfRow, standIns := [], harness := (true, "bf0493e5e12fd8e535ffaab131bd21d8de6c1408f0129137caa7c78219f6c164"), looks := false }, kinds := [], alts := [], laidByText := true, laidKinds := [.data, .data], laidTests := true, laidLooks := .later }
def FnExactChoiceOfCardSaid : Prop := Claim7.holds Tryd.pinned (.plain (OpenSpec.ofChange fnExactChoiceOfSpec)) fnExactChoiceOfCard

/-- THE TIED CARD OF 'laws.FnExactIsRational'. -/
def fnExactIsRationalCard : Claim7 := { stood := { row := fnExactIsRationalRow, standIns := [], harness := (true, "bf0493e5e12fd8e535ffaab131bd21d8de6c1408f0129137caa7c78219f6c164"), looks := false }, kinds := [], alts := [], laidByText := true, laidKinds := [.data, .data], laidTests := true, laidLooks := .later }
def FnExactIsRationalCardSaid : Prop := Claim7.holds Tryd.pinned (.plain (OpenSpec.ofChange fnExactIsRationalSpec)) fnExactIsRationalCard

/-- THE TIED CARD OF 'laws.FnExactChoiceTable'. -/
def fnExactChoiceTableCard : Claim7 := { stood := { row := fnExactChoiceTableRow, standIns := [], harness := (true, "bf0493e5e12fd8e535ffaab131bd21d8de6c1408f0129137caa7c78219f6c164"), looks := false }, kinds := [], alts := [], laidByText := true, laidKinds := [.data, .data], laidTests := true, laidLooks := .later }
def FnExactChoiceTableCardSaid : Prop := Claim7.holds Tryd.pinned (.plain (OpenSpec.ofChange fnExactChoiceTableSpec)) fnExactChoiceTableCard

/-- THE SECOND FORM's CARD OF 'laws.FnExactChoiceOf'. -/
def fnExactChoiceOfUptoCard : Claim7 := { stood := { row := fnExactChoiceOfUptoRow, standIns := [], harness := (true, "bf0493e5e12fd8e535ffaab131bd21d8de6c1408f0129137caa7c78219f6c164"), looks := false }, kinds := [], alts := [], laidByText := true, laidKinds := [.data, .data], laidTests := true, laidLooks := .later }
def FnExactChoiceOfUptoCardSaid : Prop := Claim7.holds Tryd.pinned (.plain (OpenSpec.upto fnExactChoiceOfSpec)) fnExactChoiceOfUptoCard

/-- THE SECOND FORM's CARD OF 'laws.FnExactIsRational'. -/
def fnExactIsRationalUptoCard : Claim7 := { stood := { row := fnExactIsRationalUptoRow, standIns := [], harness := (true, "bf0493e5e12fd8e535ffaab131bd21d8de6c1408f0129137caa7c78219f6c164"), looks := false }, kinds := [], alts := [], laidByText := true, laidKinds := [.data, .data], laidTests := true, laidLooks := .later }
def FnExactIsRationalUptoCardSaid : Prop := Claim7.holds Tryd.pinned (.plain (OpenSpec.upto fnExactIsRationalSpec)) fnExactIsRationalUptoCard

/-- THE SECOND FORM's CARD OF 'laws.FnExactChoiceTable'. -/
def fnExactChoiceTableUptoCard : Claim7 := { stood := { row := fnExactChoiceTableUptoRow, standIns := [], harness := (true, "bf0493e5e12fd8e535ffaab131bd21d8de6c1408f0129137caa7c78219f6c164"), looks := false }, kinds := [], alts := [], laidByText := true, laidKinds := [.data, .data], laidTests := true, laidLooks := .later }
def FnExactChoiceTableUptoCardSaid : Prop := Claim7.holds Tryd.pinned (.plain (OpenSpec.upto fnExactChoiceTableSpec)) fnExactChoiceTableUptoCard
end Rows
end Go.Proofs.YtcjofpajmhddkaaDoor
