/-
  DERIVED. GIVEN WITH THE SEED: THE CARDS: each row of YtakabmokpknknaaDoorRows.lean that lists a variable, with what it lists TIED to the program's text (the seventh form; the later family's looks); each row that meets fmt, with fmt's text TOLD by the authors' own Lean function (tested against real Go, not proved from fmt's source: count such statements apart). THE CARD IS WHAT COUNTS. Prove the row's statement (the work); the ties are given (YtakabmokpknknaaDoorTie.lean); close each card by the builder's one call (the guide's Derived/Test/ToyasCard.lean, 'card_holds'). Laid BY PROGRAM, IN A SANDBOX (cutbox-door.mjs). By AI agents, Wed Nov 11 2026. No macro, syntax, notation, axiom, sorry.
-/
import Derived.Test.YtakabmokpknknaaDoorRows
import GoSem.ClaimSeven
namespace Go.Proofs.YtakabmokpknknaaDoor
namespace Rows

/-- THE TIED CARD OF 'laws.FnExactNearestOf'. -/
def fnExactNearestOfCard : Claim7 := { stood := { row := fnExactNearestOfRow, standIns := [], harness := (true, "1217787d2af942f73906af8d211c53591d28c773bb0d68fefc981e586956f97d"), looks := false }, kinds := [], alts := [], laidByText := true, laidKinds := [.data, .data], laidTests := true, laidLooks := .later }
def FnExactNearestOfCardSaid : Prop := Claim7.holds Tryd.pinned (.plain (OpenSpec.ofChange fnExactNearestOfSpec)) fnExactNearestOfCard

/-- THE TIED CARD OF 'laws.FnNearestOrders'. -/
def fnNearestOrdersCard : Claim7 := { stood := { row := fnNearestOrdersRow, standIns := [], harness := (true, "1217787d2af942f73906af8d211c53591d28c773bb0d68fefc981e586956f97d"), looks := false }, kinds := [], alts := [], laidByText := true, laidKinds := [.data, .data], laidTests := true, laidLooks := .later }
def FnNearestOrdersCardSaid : Prop := Claim7.holds Tryd.pinned (.plain (OpenSpec.ofChange fnNearestOrdersSpec)) fnNearestOrdersCard

/-- THE TIED CARD OF 'laws.FnTablesOfRelations'. -/
def fnTablesOfRelationsCard : Claim7 := { stood := { row := fnTablesOfRelationsRow, standIns := [], harness := (true, "1217787d2af942f73906af8d211c53591d28c773bb0d68fefc981e586956f97d"), looks := false }, kinds := [], alts := [], laidByText := true, laidKinds := [.data, .data], laidTests := true, laidLooks := .later }
def FnTablesOfRelationsCardSaid : Prop := Claim7.holds Tryd.pinned (.plain (OpenSpec.ofChange fnTablesOfRelationsSpec)) fnTablesOfRelationsCard

/-- THE TIED CARD OF 'laws.FnTablesTurned'. -/
def fnTablesTurnedCard : Claim7 := { stood := { row := fnTablesTurnedRow, standIns := [], harness := (true, "1217787d2af942f73906af8d211c53591d28c773bb0d68fefc981e586956f97d"), looks := false }, kinds := [], alts := [], laidByText := true, laidKinds := [.data, .pinned], laidTests := true, laidLooks := .later }
def FnTablesTurnedCardSaid : Prop := Claim7.holds Tryd.pinned (.plain (OpenSpec.ofChange fnTablesTurnedSpec)) fnTablesTurnedCard

/-- THE TIED CARD OF 'laws.FnNamedOrders'. -/
def fnNamedOrdersCard : Claim7 := { stood := { row := fnNamedOrdersRow, standIns := [], harness := (true, "1217787d2af942f73906af8d211c53591d28c773bb0d68fefc981e586956f97d"), looks := false }, kinds := [], alts := [], laidByText := true, laidKinds := [.data, .data], laidTests := true, laidLooks := .later }
def FnNamedOrdersCardSaid : Prop := Claim7.holds Tryd.pinned (.plain (OpenSpec.ofChange fnNamedOrdersSpec)) fnNamedOrdersCard

/-- THE TIED CARD OF 'laws.FnArcsAreOrders'. -/
def fnArcsAreOrdersCard : Claim7 := { stood := { row := fnArcsAreOrdersRow, standIns := [], harness := (true, "1217787d2af942f73906af8d211c53591d28c773bb0d68fefc981e586956f97d"), looks := false }, kinds := [], alts := [], laidByText := true, laidKinds := [.data, .data], laidTests := true, laidLooks := .later }
def FnArcsAreOrdersCardSaid : Prop := Claim7.holds Tryd.pinned (.plain (OpenSpec.ofChange fnArcsAreOrdersSpec)) fnArcsAreOrdersCard

/-- THE SECOND FORM's CARD OF 'laws.FnExactNearestOf'. -/
def fnExactNearestOfUptoCard : Claim7 := { stood := { row := fnExactNearestOfUptoRow, standIns := [], harness := (true, "1217787d2af942f73906af8d211c53591d28c773bb0d68fefc981e586956f97d"), looks := false }, kinds := [], alts := [], laidByText := true, laidKinds := [.data, .data], laidTests := true, laidLooks := .later }
def FnExactNearestOfUptoCardSaid : Prop := Claim7.holds Tryd.pinned (.plain (OpenSpec.upto fnExactNearestOfSpec)) fnExactNearestOfUptoCard

/-- THE SECOND FORM's CARD OF 'laws.FnNearestOrders'. -/
def fnNearestOrdersUptoCard : Claim7 := { stood := { row := fnNearestOrdersUptoRow, standIns := [], harness := (true, "1217787d2af942f73906af8d211c53591d28c773bb0d68fefc981e586956f97d"), looks := false }, kinds := [], alts := [], laidByText := true, laidKinds := [.data, .data], laidTests := true, laidLooks := .later }
def FnNearestOrdersUptoCardSaid : Prop := Claim7.holds Tryd.pinned (.plain (OpenSpec.upto fnNearestOrdersSpec)) fnNearestOrdersUptoCard

/-- THE SECOND FORM's CARD OF 'laws.FnTablesOfRelations'. -/
def fnTablesOfRelationsUptoCard : Claim7 := { stood := { row := fnTablesOfRelationsUptoRow, standIns := [], harness := (true, "1217787d2af942f73906af8d211c53591d28c773bb0d68fefc981e586956f97d"), looks := false }, kinds := [], alts := [], laidByText := true, laidKinds := [.data, .data], laidTests := true, laidLooks := .later }
def FnTablesOfRelationsUptoCardSaid : Prop := Claim7.holds Tryd.pinned (.plain (OpenSpec.upto fnTablesOfRelationsSpec)) fnTablesOfRelationsUptoCard

/-- THE SECOND FORM's CARD OF 'laws.FnTablesTurned'. -/
def fnTablesTurnedUptoCard : Claim7 := { stood := { row := fnTablesTurnedUptoRow, standIns := [], harness := (true, "1217787d2af942f73906af8d211c53591d28c773bb0d68fefc981e586956f97d"), looks := false }, kinds := [], alts := [], laidByText := true, laidKinds := [.data, .pinned], laidTests := true, laidLooks := .later }
def FnTablesTurnedUptoCardSaid : Prop := Claim7.holds Tryd.pinned (.plain (OpenSpec.upto fnTablesTurnedSpec)) fnTablesTurnedUptoCard

/-- THE SECOND FORM's CARD OF 'laws.FnNamedOrders'. -/
def fnNamedOrdersUptoCard : Claim7 := { stood := { row := fnNamedOrdersUptoRow, standIns := [], harness := (true, "1217787d2af942f73906af8d211c53591d28c773bb0d68fefc981e586956f97d"), looks := false }, kinds := [], alts := [], laidByText := true, laidKinds := [.data, .data], laidTests := true, laidLooks := .later }
def FnNamedOrdersUptoCardSaid : Prop := Claim7.holds Tryd.pinned (.plain (OpenSpec.upto fnNamedOrdersSpec)) fnNamedOrdersUptoCard

/-- THE SECOND FORM's CARD OF 'laws.FnArcsAreOrders'. -/
def fnArcsAreOrdersUptoCard : Claim7 := { stood := { row := fnArcsAreOrdersUptoRow, standIns := [], harness := (true, "1217787d2af942f73906af8d211c53591d28c773bb0d68fefc981e586956f97d"), looks := false }, kinds := [], alts := [], laidByText := true, laidKinds := [.data, .data], laidTests := true, laidLooks := .later }
def FnArcsAreOrdersUptoCardSaid : Prop := Claim7.holds Tryd.pinned (.plain (OpenSpec.upto fnArcsAreOrdersSpec)) fnArcsAreOrdersUptoCard
end Rows
end Go.Proofs.YtakabmokpknknaaDoor
