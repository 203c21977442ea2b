/-
  DERIVED. GIVEN WITH THE SEED: THE CARDS: each row of YtpippjgphndjmaaDoorRows.lean that lists a variable, with what it lists TIED to the program's text (the seventh form; the later family's looks); each row that meets fmt, with fmt's text TOLD by the authors' own Lean function (tested against real Go, not proved from fmt's source: count such statements apart). THE CARD IS WHAT COUNTS. Prove the row's statement (the work); the ties are given (YtpippjgphndjmaaDoorTie.lean); close each card by the builder's one call (the guide's Derived/Test/ToyasCard.lean, 'card_holds'). Laid BY PROGRAM, IN A SANDBOX (cutbox-door.mjs). By AI agents, Wed Nov 11 2026. No macro, syntax, notation, axiom, sorry.
-/
import Derived.Test.YtpippjgphndjmaaDoorRows
import GoSem.ClaimSeven
namespace Go.Proofs.YtpippjgphndjmaaDoor
namespace Rows

/-- THE TIED CARD OF 'laws.FnExactTableOfOrder'. -/
def fnExactTableOfOrderCard : Claim7 := { stood := { row := fnExactTableOfOrderRow, standIns := [], harness := (true, "919439a43acca0cc2af783669b256c1477b489e8da981fedac222bbe9669cc07"), looks := false }, kinds := [], alts := [], laidByText := true, laidKinds := [.data, .data], laidTests := true, laidLooks := .later }
def FnExactTableOfOrderCardSaid : Prop := Claim7.holds Tryd.pinned (.plain (OpenSpec.ofChange fnExactTableOfOrderSpec)) fnExactTableOfOrderCard

/-- THE TIED CARD OF 'laws.FnChoicesOfOrders'. -/
def fnChoicesOfOrdersCard : Claim7 := { stood := { row := fnChoicesOfOrdersRow, standIns := [], harness := (true, "919439a43acca0cc2af783669b256c1477b489e8da981fedac222bbe9669cc07"), looks := false }, kinds := [], alts := [], laidByText := true, laidKinds := [.data, .data], laidTests := true, laidLooks := .later }
def FnChoicesOfOrdersCardSaid : Prop := Claim7.holds Tryd.pinned (.plain (OpenSpec.ofChange fnChoicesOfOrdersSpec)) fnChoicesOfOrdersCard

/-- THE TIED CARD OF 'laws.FnExactCountChoices'. -/
def fnExactCountChoicesCard : Claim7 := { stood := { row := fnExactCountChoicesRow, standIns := [], harness := (true, "919439a43acca0cc2af783669b256c1477b489e8da981fedac222bbe9669cc07"), looks := false }, kinds := [], alts := [], laidByText := true, laidKinds := [.data, .data], laidTests := true, laidLooks := .later }
def FnExactCountChoicesCardSaid : Prop := Claim7.holds Tryd.pinned (.plain (OpenSpec.ofChange fnExactCountChoicesSpec)) fnExactCountChoicesCard

/-- THE TIED CARD OF 'laws.FnExactOrdersOf'. -/
def fnExactOrdersOfCard : Claim7 := { stood := { row := fnExactOrdersOfRow, standIns := [], harness := (true, "919439a43acca0cc2af783669b256c1477b489e8da981fedac222bbe9669cc07"), looks := false }, kinds := [], alts := [], laidByText := true, laidKinds := [.data, .data], laidTests := true, laidLooks := .later }
def FnExactOrdersOfCardSaid : Prop := Claim7.holds Tryd.pinned (.plain (OpenSpec.ofChange fnExactOrdersOfSpec)) fnExactOrdersOfCard

/-- THE TIED CARD OF 'laws.FnOrdersAsTables'. -/
def fnOrdersAsTablesCard : Claim7 := { stood := { row := fnOrdersAsTablesRow, standIns := [], harness := (true, "919439a43acca0cc2af783669b256c1477b489e8da981fedac222bbe9669cc07"), looks := false }, kinds := [], alts := [], laidByText := true, laidKinds := [.data, .data], laidTests := true, laidLooks := .later }
def FnOrdersAsTablesCardSaid : Prop := Claim7.holds Tryd.pinned (.plain (OpenSpec.ofChange fnOrdersAsTablesSpec)) fnOrdersAsTablesCard

/-- THE TIED CARD OF 'laws.FnRationalTables'. -/
def fnRationalTablesCard : Claim7 := { stood := { row := fnRationalTablesRow, standIns := [], harness := (true, "919439a43acca0cc2af783669b256c1477b489e8da981fedac222bbe9669cc07"), looks := false }, kinds := [], alts := [], laidByText := true, laidKinds := [.data, .data], laidTests := true, laidLooks := .later }
def FnRationalTablesCardSaid : Prop := Claim7.holds Tryd.pinned (.plain (OpenSpec.ofChange fnRationalTablesSpec)) fnRationalTablesCard

/-- THE TIED CARD OF 'laws.FnExactParseTable'. -/
def fnExactParseTableCard : Claim7 := { stood := { row := fnExactParseTableRow, standIns := [], harness := (true, "919439a43acca0cc2af783669b256c1477b489e8da981fedac222bbe9669cc07"), looks := false }, kinds := [], alts := [], laidByText := true, laidKinds := [.data, .pinned], laidTests := true, laidLooks := .later }
def FnExactParseTableCardSaid : Prop := Claim7.holds Tryd.pinned (.plain (OpenSpec.ofChange fnExactParseTableSpec)) fnExactParseTableCard

/-- THE SECOND FORM's CARD OF 'laws.FnExactTableOfOrder'. -/
def fnExactTableOfOrderUptoCard : Claim7 := { stood := { row := fnExactTableOfOrderUptoRow, standIns := [], harness := (true, "919439a43acca0cc2af783669b256c1477b489e8da981fedac222bbe9669cc07"), looks := false }, kinds := [], alts := [], laidByText := true, laidKinds := [.data, .data], laidTests := true, laidLooks := .later }
def FnExactTableOfOrderUptoCardSaid : Prop := Claim7.holds Tryd.pinned (.plain (OpenSpec.upto fnExactTableOfOrderSpec)) fnExactTableOfOrderUptoCard

/-- THE SECOND FORM's CARD OF 'laws.FnChoicesOfOrders'. -/
def fnChoicesOfOrdersUptoCard : Claim7 := { stood := { row := fnChoicesOfOrdersUptoRow, standIns := [], harness := (true, "919439a43acca0cc2af783669b256c1477b489e8da981fedac222bbe9669cc07"), looks := false }, kinds := [], alts := [], laidByText := true, laidKinds := [.data, .data], laidTests := true, laidLooks := .later }
def FnChoicesOfOrdersUptoCardSaid : Prop := Claim7.holds Tryd.pinned (.plain (OpenSpec.upto fnChoicesOfOrdersSpec)) fnChoicesOfOrdersUptoCard

/-- THE SECOND FORM's CARD OF 'laws.FnExactCountChoices'. -/
def fnExactCountChoicesUptoCard : Claim7 := { stood := { row := fnExactCountChoicesUptoRow, standIns := [], harness := (true, "919439a43acca0cc2af783669b256c1477b489e8da981fedac222bbe9669cc07"), looks := false }, kinds := [], alts := [], laidByText := true, laidKinds := [.data, .data], laidTests := true, laidLooks := .later }
def FnExactCountChoicesUptoCardSaid : Prop := Claim7.holds Tryd.pinned (.plain (OpenSpec.upto fnExactCountChoicesSpec)) fnExactCountChoicesUptoCard

/-- THE SECOND FORM's CARD OF 'laws.FnExactOrdersOf'. -/
def fnExactOrdersOfUptoCard : Claim7 := { stood := { row := fnExactOrdersOfUptoRow, standIns := [], harness := (true, "919439a43acca0cc2af783669b256c1477b489e8da981fedac222bbe9669cc07"), looks := false }, kinds := [], alts := [], laidByText := true, laidKinds := [.data, .data], laidTests := true, laidLooks := .later }
def FnExactOrdersOfUptoCardSaid : Prop := Claim7.holds Tryd.pinned (.plain (OpenSpec.upto fnExactOrdersOfSpec)) fnExactOrdersOfUptoCard

/-- THE SECOND FORM's CARD OF 'laws.FnOrdersAsTables'. -/
def fnOrdersAsTablesUptoCard : Claim7 := { stood := { row := fnOrdersAsTablesUptoRow, standIns := [], harness := (true, "919439a43acca0cc2af783669b256c1477b489e8da981fedac222bbe9669cc07"), looks := false }, kinds := [], alts := [], laidByText := true, laidKinds := [.data, .data], laidTests := true, laidLooks := .later }
def FnOrdersAsTablesUptoCardSaid : Prop := Claim7.holds Tryd.pinned (.plain (OpenSpec.upto fnOrdersAsTablesSpec)) fnOrdersAsTablesUptoCard

/-- THE SECOND FORM's CARD OF 'laws.FnRationalTables'. -/
def fnRationalTablesUptoCard : Claim7 := { stood := { row := fnRationalTablesUptoRow, standIns := [], harness := (true, "919439a43acca0cc2af783669b256c1477b489e8da981fedac222bbe9669cc07"), looks := false }, kinds := [], alts := [], laidByText := true, laidKinds := [.data, .data], laidTests := true, laidLooks := .later }
def FnRationalTablesUptoCardSaid : Prop := Claim7.holds Tryd.pinned (.plain (OpenSpec.upto fnRationalTablesSpec)) fnRationalTablesUptoCard

/-- THE SECOND FORM's CARD OF 'laws.FnExactParseTable'. -/
def fnExactParseTableUptoCard : Claim7 := { stood := { row := fnExactParseTableUptoRow, standIns := [], harness := (true, "919439a43acca0cc2af783669b256c1477b489e8da981fedac222bbe9669cc07"), looks := false }, kinds := [], alts := [], laidByText := true, laidKinds := [.data, .pinned], laidTests := true, laidLooks := .later }
def FnExactParseTableUptoCardSaid : Prop := Claim7.holds Tryd.pinned (.plain (OpenSpec.upto fnExactParseTableSpec)) fnExactParseTableUptoCard
end Rows
end Go.Proofs.YtpippjgphndjmaaDoor
