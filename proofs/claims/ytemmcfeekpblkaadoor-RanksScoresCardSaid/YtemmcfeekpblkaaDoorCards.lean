/-
  DERIVED. GIVEN WITH THE SEED: THE CARDS: each row of YtemmcfeekpblkaaDoorRows.lean that lists a variable, with what it lists TIED to the program's text (the seventh form; the later family's looks); each row that meets fmt, with fmt's text TOLD by the authors' own Lean function (tested against real Go, not proved from fmt's source: count such statements apart). THE CARD IS WHAT COUNTS. Prove the row's statement (the work); the ties are given (YtemmcfeekpblkaaDoorTie.lean); close each card by the builder's one call (the guide's Derived/Test/ToyasCard.lean, 'card_holds'). Laid BY PROGRAM, IN A SANDBOX (cutbox-door.mjs). By AI agents, Wed Nov 11 2026. No macro, syntax, notation, axiom, sorry.
-/
import Derived.Test.YtemmcfeekpblkaaDoorRows
import GoSem.ClaimSeven
namespace Go.Proofs.YtemmcfeekpblkaaDoor
namespace Rows

/-- THE TIED CARD OF 'planchetlaw02.RanksRedei'. -/
def ranksRedeiCard : Claim7 := { stood := { row := ranksRedeiRow, standIns := [], harness := (true, "780b93cb5f7582844c9831a46c4102181a4a07112d97ab0cc2ad239a2de07d93"), looks := false }, kinds := [], alts := [], laidByText := true, laidKinds := [.data, .data], laidTests := true, laidLooks := .later }
def RanksRedeiCardSaid : Prop := Claim7.holds Tryd.pinned (.plain (OpenSpec.ofChange ranksRedeiSpec)) ranksRedeiCard

/-- THE TIED CARD OF 'planchetlaw02.RanksWays'. -/
def ranksWaysCard : Claim7 := { stood := { row := ranksWaysRow, standIns := [], harness := (true, "780b93cb5f7582844c9831a46c4102181a4a07112d97ab0cc2ad239a2de07d93"), looks := false }, kinds := [], alts := [], laidByText := true, laidKinds := [.data, .data], laidTests := true, laidLooks := .later }
def RanksWaysCardSaid : Prop := Claim7.holds Tryd.pinned (.plain (OpenSpec.ofChange ranksWaysSpec)) ranksWaysCard

/-- THE TIED CARD OF 'planchetlaw02.RanksCrowned'. -/
def ranksCrownedCard : Claim7 := { stood := { row := ranksCrownedRow, standIns := [], harness := (true, "780b93cb5f7582844c9831a46c4102181a4a07112d97ab0cc2ad239a2de07d93"), looks := false }, kinds := [], alts := [], laidByText := true, laidKinds := [.data, .data], laidTests := true, laidLooks := .later }
def RanksCrownedCardSaid : Prop := Claim7.holds Tryd.pinned (.plain (OpenSpec.ofChange ranksCrownedSpec)) ranksCrownedCard

/-- THE TIED CARD OF 'planchetlaw02.RanksPacks'. -/
def ranksPacksCard : Claim7 := { stood := { row := ranksPacksRow, standIns := [], harness := (true, "780b93cb5f7582844c9831a46c4102181a4a07112d97ab0cc2ad239a2de07d93"), looks := false }, kinds := [], alts := [], laidByText := true, laidKinds := [.data, .data], laidTests := true, laidLooks := .later }
def RanksPacksCardSaid : Prop := Claim7.holds Tryd.pinned (.plain (OpenSpec.ofChange ranksPacksSpec)) ranksPacksCard

/-- THE TIED CARD OF 'planchetlaw02.RanksClear'. -/
def ranksClearCard : Claim7 := { stood := { row := ranksClearRow, standIns := [], harness := (true, "780b93cb5f7582844c9831a46c4102181a4a07112d97ab0cc2ad239a2de07d93"), looks := false }, kinds := [], alts := [], laidByText := true, laidKinds := [.data, .data], laidTests := true, laidLooks := .later }
def RanksClearCardSaid : Prop := Claim7.holds Tryd.pinned (.plain (OpenSpec.ofChange ranksClearSpec)) ranksClearCard

/-- THE TIED CARD OF 'planchetlaw02.RanksOrders'. -/
def ranksOrdersCard : Claim7 := { stood := { row := ranksOrdersRow, standIns := [], harness := (true, "780b93cb5f7582844c9831a46c4102181a4a07112d97ab0cc2ad239a2de07d93"), looks := false }, kinds := [], alts := [], laidByText := true, laidKinds := [.data, .data], laidTests := true, laidLooks := .later }
def RanksOrdersCardSaid : Prop := Claim7.holds Tryd.pinned (.plain (OpenSpec.ofChange ranksOrdersSpec)) ranksOrdersCard

/-- THE TIED CARD OF 'planchetlaw02.RanksTurns'. -/
def ranksTurnsCard : Claim7 := { stood := { row := ranksTurnsRow, standIns := [], harness := (true, "780b93cb5f7582844c9831a46c4102181a4a07112d97ab0cc2ad239a2de07d93"), looks := false }, kinds := [], alts := [], laidByText := true, laidKinds := [.data, .data], laidTests := true, laidLooks := .later }
def RanksTurnsCardSaid : Prop := Claim7.holds Tryd.pinned (.plain (OpenSpec.ofChange ranksTurnsSpec)) ranksTurnsCard

/-- THE TIED CARD OF 'planchetlaw02.RanksFewer'. -/
def ranksFewerCard : Claim7 := { stood := { row := ranksFewerRow, standIns := [], harness := (true, "780b93cb5f7582844c9831a46c4102181a4a07112d97ab0cc2ad239a2de07d93"), looks := false }, kinds := [], alts := [], laidByText := true, laidKinds := [.data, .data], laidTests := true, laidLooks := .later }
def RanksFewerCardSaid : Prop := Claim7.holds Tryd.pinned (.plain (OpenSpec.ofChange ranksFewerSpec)) ranksFewerCard

/-- THE TIED CARD OF 'planchetlaw02.RanksLeast'. -/
def ranksLeastCard : Claim7 := { stood := { row := ranksLeastRow, standIns := [], harness := (true, "780b93cb5f7582844c9831a46c4102181a4a07112d97ab0cc2ad239a2de07d93"), looks := false }, kinds := [], alts := [], laidByText := true, laidKinds := [.data, .data], laidTests := true, laidLooks := .later }
def RanksLeastCardSaid : Prop := Claim7.holds Tryd.pinned (.plain (OpenSpec.ofChange ranksLeastSpec)) ranksLeastCard

/-- THE TIED CARD OF 'planchetlaw02.RanksTriples'. -/
def ranksTriplesCard : Claim7 := { stood := { row := ranksTriplesRow, standIns := [], harness := (true, "780b93cb5f7582844c9831a46c4102181a4a07112d97ab0cc2ad239a2de07d93"), looks := false }, kinds := [], alts := [], laidByText := true, laidKinds := [.data, .data], laidTests := true, laidLooks := .later }
def RanksTriplesCardSaid : Prop := Claim7.holds Tryd.pinned (.plain (OpenSpec.ofChange ranksTriplesSpec)) ranksTriplesCard

/-- THE TIED CARD OF 'planchetlaw02.RanksMoon'. -/
def ranksMoonCard : Claim7 := { stood := { row := ranksMoonRow, standIns := [], harness := (true, "780b93cb5f7582844c9831a46c4102181a4a07112d97ab0cc2ad239a2de07d93"), looks := false }, kinds := [], alts := [], laidByText := true, laidKinds := [.data, .data], laidTests := true, laidLooks := .later }
def RanksMoonCardSaid : Prop := Claim7.holds Tryd.pinned (.plain (OpenSpec.ofChange ranksMoonSpec)) ranksMoonCard

/-- THE TIED CARD OF 'planchetlaw02.RanksKings'. -/
def ranksKingsCard : Claim7 := { stood := { row := ranksKingsRow, standIns := [], harness := (true, "780b93cb5f7582844c9831a46c4102181a4a07112d97ab0cc2ad239a2de07d93"), looks := false }, kinds := [], alts := [], laidByText := true, laidKinds := [.data, .data], laidTests := true, laidLooks := .later }
def RanksKingsCardSaid : Prop := Claim7.holds Tryd.pinned (.plain (OpenSpec.ofChange ranksKingsSpec)) ranksKingsCard

/-- THE TIED CARD OF 'planchetlaw02.RanksTogether'. -/
def ranksTogetherCard : Claim7 := { stood := { row := ranksTogetherRow, standIns := [], harness := (true, "780b93cb5f7582844c9831a46c4102181a4a07112d97ab0cc2ad239a2de07d93"), looks := false }, kinds := [], alts := [], laidByText := true, laidKinds := [.data, .data], laidTests := true, laidLooks := .later }
def RanksTogetherCardSaid : Prop := Claim7.holds Tryd.pinned (.plain (OpenSpec.ofChange ranksTogetherSpec)) ranksTogetherCard

/-- THE TIED CARD OF 'planchetlaw02.RanksScores'. -/
def ranksScoresCard : Claim7 := { stood := { row := ranksScoresRow, standIns := [], harness := (true, "780b93cb5f7582844c9831a46c4102181a4a07112d97ab0cc2ad239a2de07d93"), looks := false }, kinds := [], alts := [], laidByText := true, laidKinds := [.data, .data], laidTests := true, laidLooks := .later }
def RanksScoresCardSaid : Prop := Claim7.holds Tryd.pinned (.plain (OpenSpec.ofChange ranksScoresSpec)) ranksScoresCard

/-- THE TIED CARD OF 'planchetlaw02.RanksLandau'. -/
def ranksLandauCard : Claim7 := { stood := { row := ranksLandauRow, standIns := [], harness := (true, "780b93cb5f7582844c9831a46c4102181a4a07112d97ab0cc2ad239a2de07d93"), looks := false }, kinds := [], alts := [], laidByText := true, laidKinds := [.data, .data], laidTests := true, laidLooks := .later }
def RanksLandauCardSaid : Prop := Claim7.holds Tryd.pinned (.plain (OpenSpec.ofChange ranksLandauSpec)) ranksLandauCard

/-- THE SECOND FORM's CARD OF 'planchetlaw02.RanksRedei'. -/
def ranksRedeiUptoCard : Claim7 := { stood := { row := ranksRedeiUptoRow, standIns := [], harness := (true, "780b93cb5f7582844c9831a46c4102181a4a07112d97ab0cc2ad239a2de07d93"), looks := false }, kinds := [], alts := [], laidByText := true, laidKinds := [.data, .data], laidTests := true, laidLooks := .later }
def RanksRedeiUptoCardSaid : Prop := Claim7.holds Tryd.pinned (.plain (OpenSpec.upto ranksRedeiSpec)) ranksRedeiUptoCard

/-- THE SECOND FORM's CARD OF 'planchetlaw02.RanksWays'. -/
def ranksWaysUptoCard : Claim7 := { stood := { row := ranksWaysUptoRow, standIns := [], harness := (true, "780b93cb5f7582844c9831a46c4102181a4a07112d97ab0cc2ad239a2de07d93"), looks := false }, kinds := [], alts := [], laidByText := true, laidKinds := [.data, .data], laidTests := true, laidLooks := .later }
def RanksWaysUptoCardSaid : Prop := Claim7.holds Tryd.pinned (.plain (OpenSpec.upto ranksWaysSpec)) ranksWaysUptoCard

/-- THE SECOND FORM's CARD OF 'planchetlaw02.RanksCrowned'. -/
def ranksCrownedUptoCard : Claim7 := { stood := { row := ranksCrownedUptoRow, standIns := [], harness := (true, "780b93cb5f7582844c9831a46c4102181a4a07112d97ab0cc2ad239a2de07d93"), looks := false }, kinds := [], alts := [], laidByText := true, laidKinds := [.data, .data], laidTests := true, laidLooks := .later }
def RanksCrownedUptoCardSaid : Prop := Claim7.holds Tryd.pinned (.plain (OpenSpec.upto ranksCrownedSpec)) ranksCrownedUptoCard

/-- THE SECOND FORM's CARD OF 'planchetlaw02.RanksPacks'. -/
def ranksPacksUptoCard : Claim7 := { stood := { row := ranksPacksUptoRow, standIns := [], harness := (true, "780b93cb5f7582844c9831a46c4102181a4a07112d97ab0cc2ad239a2de07d93"), looks := false }, kinds := [], alts := [], laidByText := true, laidKinds := [.data, .data], laidTests := true, laidLooks := .later }
def RanksPacksUptoCardSaid : Prop := Claim7.holds Tryd.pinned (.plain (OpenSpec.upto ranksPacksSpec)) ranksPacksUptoCard

/-- THE SECOND FORM's CARD OF 'planchetlaw02.RanksClear'. -/
def ranksClearUptoCard : Claim7 := { stood := { row := ranksClearUptoRow, standIns := [], harness := (true, "780b93cb5f7582844c9831a46c4102181a4a07112d97ab0cc2ad239a2de07d93"), looks := false }, kinds := [], alts := [], laidByText := true, laidKinds := [.data, .data], laidTests := true, laidLooks := .later }
def RanksClearUptoCardSaid : Prop := Claim7.holds Tryd.pinned (.plain (OpenSpec.upto ranksClearSpec)) ranksClearUptoCard

/-- THE SECOND FORM's CARD OF 'planchetlaw02.RanksOrders'. -/
def ranksOrdersUptoCard : Claim7 := { stood := { row := ranksOrdersUptoRow, standIns := [], harness := (true, "780b93cb5f7582844c9831a46c4102181a4a07112d97ab0cc2ad239a2de07d93"), looks := false }, kinds := [], alts := [], laidByText := true, laidKinds := [.data, .data], laidTests := true, laidLooks := .later }
def RanksOrdersUptoCardSaid : Prop := Claim7.holds Tryd.pinned (.plain (OpenSpec.upto ranksOrdersSpec)) ranksOrdersUptoCard

/-- THE SECOND FORM's CARD OF 'planchetlaw02.RanksTurns'. -/
def ranksTurnsUptoCard : Claim7 := { stood := { row := ranksTurnsUptoRow, standIns := [], harness := (true, "780b93cb5f7582844c9831a46c4102181a4a07112d97ab0cc2ad239a2de07d93"), looks := false }, kinds := [], alts := [], laidByText := true, laidKinds := [.data, .data], laidTests := true, laidLooks := .later }
def RanksTurnsUptoCardSaid : Prop := Claim7.holds Tryd.pinned (.plain (OpenSpec.upto ranksTurnsSpec)) ranksTurnsUptoCard

/-- THE SECOND FORM's CARD OF 'planchetlaw02.RanksFewer'. -/
def ranksFewerUptoCard : Claim7 := { stood := { row := ranksFewerUptoRow, standIns := [], harness := (true, "780b93cb5f7582844c9831a46c4102181a4a07112d97ab0cc2ad239a2de07d93"), looks := false }, kinds := [], alts := [], laidByText := true, laidKinds := [.data, .data], laidTests := true, laidLooks := .later }
def RanksFewerUptoCardSaid : Prop := Claim7.holds Tryd.pinned (.plain (OpenSpec.upto ranksFewerSpec)) ranksFewerUptoCard

/-- THE SECOND FORM's CARD OF 'planchetlaw02.RanksLeast'. -/
def ranksLeastUptoCard : Claim7 := { stood := { row := ranksLeastUptoRow, standIns := [], harness := (true, "780b93cb5f7582844c9831a46c4102181a4a07112d97ab0cc2ad239a2de07d93"), looks := false }, kinds := [], alts := [], laidByText := true, laidKinds := [.data, .data], laidTests := true, laidLooks := .later }
def RanksLeastUptoCardSaid : Prop := Claim7.holds Tryd.pinned (.plain (OpenSpec.upto ranksLeastSpec)) ranksLeastUptoCard

/-- THE SECOND FORM's CARD OF 'planchetlaw02.RanksTriples'. -/
def ranksTriplesUptoCard : Claim7 := { stood := { row := ranksTriplesUptoRow, standIns := [], harness := (true, "780b93cb5f7582844c9831a46c4102181a4a07112d97ab0cc2ad239a2de07d93"), looks := false }, kinds := [], alts := [], laidByText := true, laidKinds := [.data, .data], laidTests := true, laidLooks := .later }
def RanksTriplesUptoCardSaid : Prop := Claim7.holds Tryd.pinned (.plain (OpenSpec.upto ranksTriplesSpec)) ranksTriplesUptoCard

/-- THE SECOND FORM's CARD OF 'planchetlaw02.RanksMoon'. -/
def ranksMoonUptoCard : Claim7 := { stood := { row := ranksMoonUptoRow, standIns := [], harness := (true, "780b93cb5f7582844c9831a46c4102181a4a07112d97ab0cc2ad239a2de07d93"), looks := false }, kinds := [], alts := [], laidByText := true, laidKinds := [.data, .data], laidTests := true, laidLooks := .later }
def RanksMoonUptoCardSaid : Prop := Claim7.holds Tryd.pinned (.plain (OpenSpec.upto ranksMoonSpec)) ranksMoonUptoCard

/-- THE SECOND FORM's CARD OF 'planchetlaw02.RanksKings'. -/
def ranksKingsUptoCard : Claim7 := { stood := { row := ranksKingsUptoRow, standIns := [], harness := (true, "780b93cb5f7582844c9831a46c4102181a4a07112d97ab0cc2ad239a2de07d93"), looks := false }, kinds := [], alts := [], laidByText := true, laidKinds := [.data, .data], laidTests := true, laidLooks := .later }
def RanksKingsUptoCardSaid : Prop := Claim7.holds Tryd.pinned (.plain (OpenSpec.upto ranksKingsSpec)) ranksKingsUptoCard

/-- THE SECOND FORM's CARD OF 'planchetlaw02.RanksTogether'. -/
def ranksTogetherUptoCard : Claim7 := { stood := { row := ranksTogetherUptoRow, standIns := [], harness := (true, "780b93cb5f7582844c9831a46c4102181a4a07112d97ab0cc2ad239a2de07d93"), looks := false }, kinds := [], alts := [], laidByText := true, laidKinds := [.data, .data], laidTests := true, laidLooks := .later }
def RanksTogetherUptoCardSaid : Prop := Claim7.holds Tryd.pinned (.plain (OpenSpec.upto ranksTogetherSpec)) ranksTogetherUptoCard

/-- THE SECOND FORM's CARD OF 'planchetlaw02.RanksScores'. -/
def ranksScoresUptoCard : Claim7 := { stood := { row := ranksScoresUptoRow, standIns := [], harness := (true, "780b93cb5f7582844c9831a46c4102181a4a07112d97ab0cc2ad239a2de07d93"), looks := false }, kinds := [], alts := [], laidByText := true, laidKinds := [.data, .data], laidTests := true, laidLooks := .later }
def RanksScoresUptoCardSaid : Prop := Claim7.holds Tryd.pinned (.plain (OpenSpec.upto ranksScoresSpec)) ranksScoresUptoCard

/-- THE SECOND FORM's CARD OF 'planchetlaw02.RanksLandau'. -/
def ranksLandauUptoCard : Claim7 := { stood := { row := ranksLandauUptoRow, standIns := [], harness := (true, "780b93cb5f7582844c9831a46c4102181a4a07112d97ab0cc2ad239a2de07d93"), looks := false }, kinds := [], alts := [], laidByText := true, laidKinds := [.data, .data], laidTests := true, laidLooks := .later }
def RanksLandauUptoCardSaid : Prop := Claim7.holds Tryd.pinned (.plain (OpenSpec.upto ranksLandauSpec)) ranksLandauUptoCard
end Rows
end Go.Proofs.YtemmcfeekpblkaaDoor
