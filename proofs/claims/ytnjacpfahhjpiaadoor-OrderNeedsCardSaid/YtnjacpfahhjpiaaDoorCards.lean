/-
  DERIVED. GIVEN WITH THE SEED: THE CARDS: each row of YtnjacpfahhjpiaaDoorRows.lean that lists a variable, with what it lists TIED to the program's text (the seventh form; the later family's looks); each row that meets fmt, with fmt's text TOLD by the authors' own Lean function (tested against real Go, not proved from fmt's source: count such statements apart). THE CARD IS WHAT COUNTS. Prove the row's statement (the work); the ties are given (YtnjacpfahhjpiaaDoorTie.lean); close each card by the builder's one call (the guide's Derived/Test/ToyasCard.lean, 'card_holds'). Laid BY PROGRAM, IN A SANDBOX (cutbox-door.mjs). By AI agents, Wed Nov 11 2026. No macro, syntax, notation, axiom, sorry.
-/
import Derived.Test.YtnjacpfahhjpiaaDoorRows
import GoSem.ClaimSeven
namespace Go.Proofs.YtnjacpfahhjpiaaDoor
namespace Rows

/-- THE TIED CARD OF 'planchetlaw07.OrderCounts'. -/
def orderCountsCard : Claim7 := { stood := { row := orderCountsRow, standIns := [], harness := (true, "70f2802ad7a629d5e6cb855a707ce5e9e1d54c6da40cb5f3fa7d48da0451793d"), looks := false }, kinds := [], alts := [], laidByText := true, laidKinds := [.data, .data], laidTests := true, laidLooks := .later }
def OrderCountsCardSaid : Prop := Claim7.holds Tryd.pinned (.plain (OpenSpec.ofChange orderCountsSpec)) orderCountsCard

/-- THE TIED CARD OF 'planchetlaw07.OrderEven'. -/
def orderEvenCard : Claim7 := { stood := { row := orderEvenRow, standIns := [], harness := (true, "70f2802ad7a629d5e6cb855a707ce5e9e1d54c6da40cb5f3fa7d48da0451793d"), looks := false }, kinds := [], alts := [], laidByText := true, laidKinds := [.data, .data], laidTests := true, laidLooks := .later }
def OrderEvenCardSaid : Prop := Claim7.holds Tryd.pinned (.plain (OpenSpec.ofChange orderEvenSpec)) orderEvenCard

/-- THE TIED CARD OF 'planchetlaw07.OrderChances'. -/
def orderChancesCard : Claim7 := { stood := { row := orderChancesRow, standIns := [], harness := (true, "70f2802ad7a629d5e6cb855a707ce5e9e1d54c6da40cb5f3fa7d48da0451793d"), looks := false }, kinds := [], alts := [], laidByText := true, laidKinds := [.data, .data], laidTests := true, laidLooks := .later }
def OrderChancesCardSaid : Prop := Claim7.holds Tryd.pinned (.plain (OpenSpec.ofChange orderChancesSpec)) orderChancesCard

/-- THE TIED CARD OF 'planchetlaw07.OrderLines'. -/
def orderLinesCard : Claim7 := { stood := { row := orderLinesRow, standIns := [], harness := (true, "70f2802ad7a629d5e6cb855a707ce5e9e1d54c6da40cb5f3fa7d48da0451793d"), looks := false }, kinds := [], alts := [], laidByText := true, laidKinds := [.data, .data], laidTests := true, laidLooks := .later }
def OrderLinesCardSaid : Prop := Claim7.holds Tryd.pinned (.plain (OpenSpec.ofChange orderLinesSpec)) orderLinesCard

/-- THE TIED CARD OF 'planchetlaw07.OrderMakes'. -/
def orderMakesCard : Claim7 := { stood := { row := orderMakesRow, standIns := [], harness := (true, "70f2802ad7a629d5e6cb855a707ce5e9e1d54c6da40cb5f3fa7d48da0451793d"), looks := false }, kinds := [], alts := [], laidByText := true, laidKinds := [.data, .data], laidTests := true, laidLooks := .later }
def OrderMakesCardSaid : Prop := Claim7.holds Tryd.pinned (.plain (OpenSpec.ofChange orderMakesSpec)) orderMakesCard

/-- THE TIED CARD OF 'planchetlaw07.OrderClosed'. -/
def orderClosedCard : Claim7 := { stood := { row := orderClosedRow, standIns := [], harness := (true, "70f2802ad7a629d5e6cb855a707ce5e9e1d54c6da40cb5f3fa7d48da0451793d"), looks := false }, kinds := [], alts := [], laidByText := true, laidKinds := [.data, .data], laidTests := true, laidLooks := .later }
def OrderClosedCardSaid : Prop := Claim7.holds Tryd.pinned (.plain (OpenSpec.ofChange orderClosedSpec)) orderClosedCard

/-- THE TIED CARD OF 'planchetlaw07.OrderSums'. -/
def orderSumsCard : Claim7 := { stood := { row := orderSumsRow, standIns := [], harness := (true, "70f2802ad7a629d5e6cb855a707ce5e9e1d54c6da40cb5f3fa7d48da0451793d"), looks := false }, kinds := [], alts := [], laidByText := true, laidKinds := [.data, .data], laidTests := true, laidLooks := .later }
def OrderSumsCardSaid : Prop := Claim7.holds Tryd.pinned (.plain (OpenSpec.ofChange orderSumsSpec)) orderSumsCard

/-- THE TIED CARD OF 'planchetlaw07.OrderReals'. -/
def orderRealsCard : Claim7 := { stood := { row := orderRealsRow, standIns := [], harness := (true, "70f2802ad7a629d5e6cb855a707ce5e9e1d54c6da40cb5f3fa7d48da0451793d"), looks := false }, kinds := [], alts := [], laidByText := true, laidKinds := [.data, .data], laidTests := true, laidLooks := .later }
def OrderRealsCardSaid : Prop := Claim7.holds Tryd.pinned (.plain (OpenSpec.ofChange orderRealsSpec)) orderRealsCard

/-- THE TIED CARD OF 'planchetlaw07.OrderDims'. -/
def orderDimsCard : Claim7 := { stood := { row := orderDimsRow, standIns := [], harness := (true, "70f2802ad7a629d5e6cb855a707ce5e9e1d54c6da40cb5f3fa7d48da0451793d"), looks := false }, kinds := [], alts := [], laidByText := true, laidKinds := [.data, .data], laidTests := true, laidLooks := .later }
def OrderDimsCardSaid : Prop := Claim7.holds Tryd.pinned (.plain (OpenSpec.ofChange orderDimsSpec)) orderDimsCard

/-- THE TIED CARD OF 'planchetlaw07.OrderSorts'. -/
def orderSortsCard : Claim7 := { stood := { row := orderSortsRow, standIns := [], harness := (true, "70f2802ad7a629d5e6cb855a707ce5e9e1d54c6da40cb5f3fa7d48da0451793d"), looks := false }, kinds := [], alts := [], laidByText := true, laidKinds := [.data, .data], laidTests := true, laidLooks := .later }
def OrderSortsCardSaid : Prop := Claim7.holds Tryd.pinned (.plain (OpenSpec.ofChange orderSortsSpec)) orderSortsCard

/-- THE TIED CARD OF 'planchetlaw07.OrderNeeds'. -/
def orderNeedsCard : Claim7 := { stood := { row := orderNeedsRow, standIns := [], harness := (true, "70f2802ad7a629d5e6cb855a707ce5e9e1d54c6da40cb5f3fa7d48da0451793d"), looks := false }, kinds := [], alts := [], laidByText := true, laidKinds := [.data, .data], laidTests := true, laidLooks := .later }
def OrderNeedsCardSaid : Prop := Claim7.holds Tryd.pinned (.plain (OpenSpec.ofChange orderNeedsSpec)) orderNeedsCard

/-- THE TIED CARD OF 'planchetlaw07.OrderTurned'. -/
def orderTurnedCard : Claim7 := { stood := { row := orderTurnedRow, standIns := [], harness := (true, "70f2802ad7a629d5e6cb855a707ce5e9e1d54c6da40cb5f3fa7d48da0451793d"), looks := false }, kinds := [], alts := [], laidByText := true, laidKinds := [.data, .data], laidTests := true, laidLooks := .later }
def OrderTurnedCardSaid : Prop := Claim7.holds Tryd.pinned (.plain (OpenSpec.ofChange orderTurnedSpec)) orderTurnedCard

/-- THE TIED CARD OF 'planchetlaw07.OrderDilworth'. -/
def orderDilworthCard : Claim7 := { stood := { row := orderDilworthRow, standIns := [], harness := (true, "70f2802ad7a629d5e6cb855a707ce5e9e1d54c6da40cb5f3fa7d48da0451793d"), looks := false }, kinds := [], alts := [], laidByText := true, laidKinds := [.data, .data], laidTests := true, laidLooks := .later }
def OrderDilworthCardSaid : Prop := Claim7.holds Tryd.pinned (.plain (OpenSpec.ofChange orderDilworthSpec)) orderDilworthCard

/-- THE TIED CARD OF 'planchetlaw07.OrderChains'. -/
def orderChainsCard : Claim7 := { stood := { row := orderChainsRow, standIns := [], harness := (true, "70f2802ad7a629d5e6cb855a707ce5e9e1d54c6da40cb5f3fa7d48da0451793d"), looks := false }, kinds := [], alts := [], laidByText := true, laidKinds := [.data, .data], laidTests := true, laidLooks := .later }
def OrderChainsCardSaid : Prop := Claim7.holds Tryd.pinned (.plain (OpenSpec.ofChange orderChainsSpec)) orderChainsCard

/-- THE SECOND FORM's CARD OF 'planchetlaw07.OrderCounts'. -/
def orderCountsUptoCard : Claim7 := { stood := { row := orderCountsUptoRow, standIns := [], harness := (true, "70f2802ad7a629d5e6cb855a707ce5e9e1d54c6da40cb5f3fa7d48da0451793d"), looks := false }, kinds := [], alts := [], laidByText := true, laidKinds := [.data, .data], laidTests := true, laidLooks := .later }
def OrderCountsUptoCardSaid : Prop := Claim7.holds Tryd.pinned (.plain (OpenSpec.upto orderCountsSpec)) orderCountsUptoCard

/-- THE SECOND FORM's CARD OF 'planchetlaw07.OrderEven'. -/
def orderEvenUptoCard : Claim7 := { stood := { row := orderEvenUptoRow, standIns := [], harness := (true, "70f2802ad7a629d5e6cb855a707ce5e9e1d54c6da40cb5f3fa7d48da0451793d"), looks := false }, kinds := [], alts := [], laidByText := true, laidKinds := [.data, .data], laidTests := true, laidLooks := .later }
def OrderEvenUptoCardSaid : Prop := Claim7.holds Tryd.pinned (.plain (OpenSpec.upto orderEvenSpec)) orderEvenUptoCard

/-- THE SECOND FORM's CARD OF 'planchetlaw07.OrderChances'. -/
def orderChancesUptoCard : Claim7 := { stood := { row := orderChancesUptoRow, standIns := [], harness := (true, "70f2802ad7a629d5e6cb855a707ce5e9e1d54c6da40cb5f3fa7d48da0451793d"), looks := false }, kinds := [], alts := [], laidByText := true, laidKinds := [.data, .data], laidTests := true, laidLooks := .later }
def OrderChancesUptoCardSaid : Prop := Claim7.holds Tryd.pinned (.plain (OpenSpec.upto orderChancesSpec)) orderChancesUptoCard

/-- THE SECOND FORM's CARD OF 'planchetlaw07.OrderLines'. -/
def orderLinesUptoCard : Claim7 := { stood := { row := orderLinesUptoRow, standIns := [], harness := (true, "70f2802ad7a629d5e6cb855a707ce5e9e1d54c6da40cb5f3fa7d48da0451793d"), looks := false }, kinds := [], alts := [], laidByText := true, laidKinds := [.data, .data], laidTests := true, laidLooks := .later }
def OrderLinesUptoCardSaid : Prop := Claim7.holds Tryd.pinned (.plain (OpenSpec.upto orderLinesSpec)) orderLinesUptoCard

/-- THE SECOND FORM's CARD OF 'planchetlaw07.OrderMakes'. -/
def orderMakesUptoCard : Claim7 := { stood := { row := orderMakesUptoRow, standIns := [], harness := (true, "70f2802ad7a629d5e6cb855a707ce5e9e1d54c6da40cb5f3fa7d48da0451793d"), looks := false }, kinds := [], alts := [], laidByText := true, laidKinds := [.data, .data], laidTests := true, laidLooks := .later }
def OrderMakesUptoCardSaid : Prop := Claim7.holds Tryd.pinned (.plain (OpenSpec.upto orderMakesSpec)) orderMakesUptoCard

/-- THE SECOND FORM's CARD OF 'planchetlaw07.OrderClosed'. -/
def orderClosedUptoCard : Claim7 := { stood := { row := orderClosedUptoRow, standIns := [], harness := (true, "70f2802ad7a629d5e6cb855a707ce5e9e1d54c6da40cb5f3fa7d48da0451793d"), looks := false }, kinds := [], alts := [], laidByText := true, laidKinds := [.data, .data], laidTests := true, laidLooks := .later }
def OrderClosedUptoCardSaid : Prop := Claim7.holds Tryd.pinned (.plain (OpenSpec.upto orderClosedSpec)) orderClosedUptoCard

/-- THE SECOND FORM's CARD OF 'planchetlaw07.OrderSums'. -/
def orderSumsUptoCard : Claim7 := { stood := { row := orderSumsUptoRow, standIns := [], harness := (true, "70f2802ad7a629d5e6cb855a707ce5e9e1d54c6da40cb5f3fa7d48da0451793d"), looks := false }, kinds := [], alts := [], laidByText := true, laidKinds := [.data, .data], laidTests := true, laidLooks := .later }
def OrderSumsUptoCardSaid : Prop := Claim7.holds Tryd.pinned (.plain (OpenSpec.upto orderSumsSpec)) orderSumsUptoCard

/-- THE SECOND FORM's CARD OF 'planchetlaw07.OrderReals'. -/
def orderRealsUptoCard : Claim7 := { stood := { row := orderRealsUptoRow, standIns := [], harness := (true, "70f2802ad7a629d5e6cb855a707ce5e9e1d54c6da40cb5f3fa7d48da0451793d"), looks := false }, kinds := [], alts := [], laidByText := true, laidKinds := [.data, .data], laidTests := true, laidLooks := .later }
def OrderRealsUptoCardSaid : Prop := Claim7.holds Tryd.pinned (.plain (OpenSpec.upto orderRealsSpec)) orderRealsUptoCard

/-- THE SECOND FORM's CARD OF 'planchetlaw07.OrderDims'. -/
def orderDimsUptoCard : Claim7 := { stood := { row := orderDimsUptoRow, standIns := [], harness := (true, "70f2802ad7a629d5e6cb855a707ce5e9e1d54c6da40cb5f3fa7d48da0451793d"), looks := false }, kinds := [], alts := [], laidByText := true, laidKinds := [.data, .data], laidTests := true, laidLooks := .later }
def OrderDimsUptoCardSaid : Prop := Claim7.holds Tryd.pinned (.plain (OpenSpec.upto orderDimsSpec)) orderDimsUptoCard

/-- THE SECOND FORM's CARD OF 'planchetlaw07.OrderSorts'. -/
def orderSortsUptoCard : Claim7 := { stood := { row := orderSortsUptoRow, standIns := [], harness := (true, "70f2802ad7a629d5e6cb855a707ce5e9e1d54c6da40cb5f3fa7d48da0451793d"), looks := false }, kinds := [], alts := [], laidByText := true, laidKinds := [.data, .data], laidTests := true, laidLooks := .later }
def OrderSortsUptoCardSaid : Prop := Claim7.holds Tryd.pinned (.plain (OpenSpec.upto orderSortsSpec)) orderSortsUptoCard

/-- THE SECOND FORM's CARD OF 'planchetlaw07.OrderNeeds'. -/
def orderNeedsUptoCard : Claim7 := { stood := { row := orderNeedsUptoRow, standIns := [], harness := (true, "70f2802ad7a629d5e6cb855a707ce5e9e1d54c6da40cb5f3fa7d48da0451793d"), looks := false }, kinds := [], alts := [], laidByText := true, laidKinds := [.data, .data], laidTests := true, laidLooks := .later }
def OrderNeedsUptoCardSaid : Prop := Claim7.holds Tryd.pinned (.plain (OpenSpec.upto orderNeedsSpec)) orderNeedsUptoCard

/-- THE SECOND FORM's CARD OF 'planchetlaw07.OrderTurned'. -/
def orderTurnedUptoCard : Claim7 := { stood := { row := orderTurnedUptoRow, standIns := [], harness := (true, "70f2802ad7a629d5e6cb855a707ce5e9e1d54c6da40cb5f3fa7d48da0451793d"), looks := false }, kinds := [], alts := [], laidByText := true, laidKinds := [.data, .data], laidTests := true, laidLooks := .later }
def OrderTurnedUptoCardSaid : Prop := Claim7.holds Tryd.pinned (.plain (OpenSpec.upto orderTurnedSpec)) orderTurnedUptoCard

/-- THE SECOND FORM's CARD OF 'planchetlaw07.OrderDilworth'. -/
def orderDilworthUptoCard : Claim7 := { stood := { row := orderDilworthUptoRow, standIns := [], harness := (true, "70f2802ad7a629d5e6cb855a707ce5e9e1d54c6da40cb5f3fa7d48da0451793d"), looks := false }, kinds := [], alts := [], laidByText := true, laidKinds := [.data, .data], laidTests := true, laidLooks := .later }
def OrderDilworthUptoCardSaid : Prop := Claim7.holds Tryd.pinned (.plain (OpenSpec.upto orderDilworthSpec)) orderDilworthUptoCard

/-- THE SECOND FORM's CARD OF 'planchetlaw07.OrderChains'. -/
def orderChainsUptoCard : Claim7 := { stood := { row := orderChainsUptoRow, standIns := [], harness := (true, "70f2802ad7a629d5e6cb855a707ce5e9e1d54c6da40cb5f3fa7d48da0451793d"), looks := false }, kinds := [], alts := [], laidByText := true, laidKinds := [.data, .data], laidTests := true, laidLooks := .later }
def OrderChainsUptoCardSaid : Prop := Claim7.holds Tryd.pinned (.plain (OpenSpec.upto orderChainsSpec)) orderChainsUptoCard
end Rows
end Go.Proofs.YtnjacpfahhjpiaaDoor
