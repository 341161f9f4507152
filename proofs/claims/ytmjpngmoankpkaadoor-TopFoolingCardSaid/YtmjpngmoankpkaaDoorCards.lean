/-
  DERIVED. GIVEN WITH THE SEED: THE CARDS: each row of YtmjpngmoankpkaaDoorRows.lean that lists a variable, with what it lists TIED to the program's text (the seventh form; the later family's looks); each row that meets fmt, with fmt's text TOLD by the authors' own Lean function (tested against real Go, not proved from fmt's source: count such statements apart). THE CARD IS WHAT COUNTS. Prove the row's statement (the work); the ties are given (YtmjpngmoankpkaaDoorTie.lean); close each card by the builder's one call (the guide's Derived/Test/ToyasCard.lean, 'card_holds'). Laid BY PROGRAM, IN A SANDBOX (cutbox-door.mjs). By AI agents, Wed Nov 11 2026. No macro, syntax, notation, axiom, sorry.
-/
import Derived.Test.YtmjpngmoankpkaaDoorRows
import GoSem.ClaimSeven
namespace Go.Proofs.YtmjpngmoankpkaaDoor
namespace Rows

/-- THE TIED CARD OF 'planchettop.TopFooling'. -/
def topFoolingCard : Claim7 := { stood := { row := topFoolingRow, standIns := [], harness := (true, "89b2ae338034b30fa4a06380197a1b5ac407030cebbd166572c36aa0fd7c2a26"), looks := false }, kinds := [], alts := [], laidByText := true, laidKinds := [.data], laidTests := true, laidLooks := .later }
def TopFoolingCardSaid : Prop := Claim7.holds Tryd.pinned (.plain (OpenSpec.ofChange topFoolingSpec)) topFoolingCard

/-- THE TIED CARD OF 'planchettop.TopBits'. -/
def topBitsCard : Claim7 := { stood := { row := topBitsRow, standIns := [], harness := (true, "89b2ae338034b30fa4a06380197a1b5ac407030cebbd166572c36aa0fd7c2a26"), looks := false }, kinds := [], alts := [], laidByText := true, laidKinds := [.data, .data], laidTests := true, laidLooks := .later }
def TopBitsCardSaid : Prop := Claim7.holds Tryd.pinned (.plain (OpenSpec.ofChange topBitsSpec)) topBitsCard

/-- THE TIED CARD OF 'planchettop.TopLines'. -/
def topLinesCard : Claim7 := { stood := { row := topLinesRow, standIns := [], harness := (true, "89b2ae338034b30fa4a06380197a1b5ac407030cebbd166572c36aa0fd7c2a26"), looks := false }, kinds := [], alts := [], laidByText := true, laidKinds := [.data, .data], laidTests := true, laidLooks := .later }
def TopLinesCardSaid : Prop := Claim7.holds Tryd.pinned (.plain (OpenSpec.ofChange topLinesSpec)) topLinesCard

/-- THE TIED CARD OF 'planchettop.TopScores'. -/
def topScoresCard : Claim7 := { stood := { row := topScoresRow, standIns := [], harness := (true, "89b2ae338034b30fa4a06380197a1b5ac407030cebbd166572c36aa0fd7c2a26"), looks := false }, kinds := [], alts := [], laidByText := true, laidKinds := [.data, .data], laidTests := true, laidLooks := .later }
def TopScoresCardSaid : Prop := Claim7.holds Tryd.pinned (.plain (OpenSpec.ofChange topScoresSpec)) topScoresCard

/-- THE SECOND FORM's CARD OF 'planchettop.TopFooling'. -/
def topFoolingUptoCard : Claim7 := { stood := { row := topFoolingUptoRow, standIns := [], harness := (true, "89b2ae338034b30fa4a06380197a1b5ac407030cebbd166572c36aa0fd7c2a26"), looks := false }, kinds := [], alts := [], laidByText := true, laidKinds := [.data], laidTests := true, laidLooks := .later }
def TopFoolingUptoCardSaid : Prop := Claim7.holds Tryd.pinned (.plain (OpenSpec.upto topFoolingSpec)) topFoolingUptoCard

/-- THE SECOND FORM's CARD OF 'planchettop.TopBits'. -/
def topBitsUptoCard : Claim7 := { stood := { row := topBitsUptoRow, standIns := [], harness := (true, "89b2ae338034b30fa4a06380197a1b5ac407030cebbd166572c36aa0fd7c2a26"), looks := false }, kinds := [], alts := [], laidByText := true, laidKinds := [.data, .data], laidTests := true, laidLooks := .later }
def TopBitsUptoCardSaid : Prop := Claim7.holds Tryd.pinned (.plain (OpenSpec.upto topBitsSpec)) topBitsUptoCard

/-- THE SECOND FORM's CARD OF 'planchettop.TopLines'. -/
def topLinesUptoCard : Claim7 := { stood := { row := topLinesUptoRow, standIns := [], harness := (true, "89b2ae338034b30fa4a06380197a1b5ac407030cebbd166572c36aa0fd7c2a26"), looks := false }, kinds := [], alts := [], laidByText := true, laidKinds := [.data, .data], laidTests := true, laidLooks := .later }
def TopLinesUptoCardSaid : Prop := Claim7.holds Tryd.pinned (.plain (OpenSpec.upto topLinesSpec)) topLinesUptoCard

/-- THE SECOND FORM's CARD OF 'planchettop.TopScores'. -/
def topScoresUptoCard : Claim7 := { stood := { row := topScoresUptoRow, standIns := [], harness := (true, "89b2ae338034b30fa4a06380197a1b5ac407030cebbd166572c36aa0fd7c2a26"), looks := false }, kinds := [], alts := [], laidByText := true, laidKinds := [.data, .data], laidTests := true, laidLooks := .later }
def TopScoresUptoCardSaid : Prop := Claim7.holds Tryd.pinned (.plain (OpenSpec.upto topScoresSpec)) topScoresUptoCard
end Rows
end Go.Proofs.YtmjpngmoankpkaaDoor
