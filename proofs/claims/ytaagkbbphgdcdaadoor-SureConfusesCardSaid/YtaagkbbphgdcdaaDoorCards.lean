/-
  DERIVED. GIVEN WITH THE SEED: THE CARDS: each row of YtaagkbbphgdcdaaDoorRows.lean that lists a variable, with what it lists TIED to the program's text (the seventh form; the later family's looks); each row that meets fmt, with fmt's text TOLD by the authors' own Lean function (tested against real Go, not proved from fmt's source: count such statements apart). THE CARD IS WHAT COUNTS. Prove the row's statement (the work); the ties are given (YtaagkbbphgdcdaaDoorTie.lean); close each card by the builder's one call (the guide's Derived/Test/ToyasCard.lean, 'card_holds'). Laid BY PROGRAM, IN A SANDBOX (cutbox-door.mjs). By AI agents, Wed Nov 11 2026. No macro, syntax, notation, axiom, sorry.
-/
import Derived.Test.YtaagkbbphgdcdaaDoorRows
import GoSem.ClaimSeven
namespace Go.Proofs.YtaagkbbphgdcdaaDoor
namespace Rows

/-- THE TIED CARD OF 'planchetlaw05.SureCodes'. -/
def sureCodesCard : Claim7 := { stood := { row := sureCodesRow, standIns := [], harness := (true, "ef801bc4ed7054c903ecdc27431cace0190a71628027c53b7b8603f391d82306"), looks := false }, kinds := [], alts := [], laidByText := true, laidKinds := [.data], laidTests := true, laidLooks := .later }
def SureCodesCardSaid : Prop := Claim7.holds Tryd.pinned (.plain (OpenSpec.ofChange sureCodesSpec)) sureCodesCard

/-- THE TIED CARD OF 'planchetlaw05.SureLonger'. -/
def sureLongerCard : Claim7 := { stood := { row := sureLongerRow, standIns := [], harness := (true, "ef801bc4ed7054c903ecdc27431cace0190a71628027c53b7b8603f391d82306"), looks := false }, kinds := [], alts := [], laidByText := true, laidKinds := [.data], laidTests := true, laidLooks := .later }
def SureLongerCardSaid : Prop := Claim7.holds Tryd.pinned (.plain (OpenSpec.ofChange sureLongerSpec)) sureLongerCard

/-- THE TIED CARD OF 'planchetlaw05.SureCliques'. -/
def sureCliquesCard : Claim7 := { stood := { row := sureCliquesRow, standIns := [], harness := (true, "ef801bc4ed7054c903ecdc27431cace0190a71628027c53b7b8603f391d82306"), looks := false }, kinds := [], alts := [], laidByText := true, laidKinds := [.data], laidTests := true, laidLooks := .later }
def SureCliquesCardSaid : Prop := Claim7.holds Tryd.pinned (.plain (OpenSpec.ofChange sureCliquesSpec)) sureCliquesCard

/-- THE TIED CARD OF 'planchetlaw05.SureJoins'. -/
def sureJoinsCard : Claim7 := { stood := { row := sureJoinsRow, standIns := [], harness := (true, "ef801bc4ed7054c903ecdc27431cace0190a71628027c53b7b8603f391d82306"), looks := false }, kinds := [], alts := [], laidByText := true, laidKinds := [.data], laidTests := true, laidLooks := .later }
def SureJoinsCardSaid : Prop := Claim7.holds Tryd.pinned (.plain (OpenSpec.ofChange sureJoinsSpec)) sureJoinsCard

/-- THE TIED CARD OF 'planchetlaw05.SurePairs'. -/
def surePairsCard : Claim7 := { stood := { row := surePairsRow, standIns := [], harness := (true, "ef801bc4ed7054c903ecdc27431cace0190a71628027c53b7b8603f391d82306"), looks := false }, kinds := [], alts := [], laidByText := true, laidKinds := [.data], laidTests := true, laidLooks := .later }
def SurePairsCardSaid : Prop := Claim7.holds Tryd.pinned (.plain (OpenSpec.ofChange surePairsSpec)) surePairsCard

/-- THE TIED CARD OF 'planchetlaw05.SureMore'. -/
def sureMoreCard : Claim7 := { stood := { row := sureMoreRow, standIns := [], harness := (true, "ef801bc4ed7054c903ecdc27431cace0190a71628027c53b7b8603f391d82306"), looks := false }, kinds := [], alts := [], laidByText := true, laidKinds := [.data], laidTests := true, laidLooks := .later }
def SureMoreCardSaid : Prop := Claim7.holds Tryd.pinned (.plain (OpenSpec.ofChange sureMoreSpec)) sureMoreCard

/-- THE TIED CARD OF 'planchetlaw05.SureWeighs'. -/
def sureWeighsCard : Claim7 := { stood := { row := sureWeighsRow, standIns := [], harness := (true, "ef801bc4ed7054c903ecdc27431cace0190a71628027c53b7b8603f391d82306"), looks := false }, kinds := [], alts := [], laidByText := true, laidKinds := [.data], laidTests := true, laidLooks := .later }
def SureWeighsCardSaid : Prop := Claim7.holds Tryd.pinned (.plain (OpenSpec.ofChange sureWeighsSpec)) sureWeighsCard

/-- THE TIED CARD OF 'planchetlaw05.SureLight'. -/
def sureLightCard : Claim7 := { stood := { row := sureLightRow, standIns := [], harness := (true, "ef801bc4ed7054c903ecdc27431cace0190a71628027c53b7b8603f391d82306"), looks := false }, kinds := [], alts := [], laidByText := true, laidKinds := [.data], laidTests := true, laidLooks := .later }
def SureLightCardSaid : Prop := Claim7.holds Tryd.pinned (.plain (OpenSpec.ofChange sureLightSpec)) sureLightCard

/-- THE TIED CARD OF 'planchetlaw05.SureMultiplies'. -/
def sureMultipliesCard : Claim7 := { stood := { row := sureMultipliesRow, standIns := [], harness := (true, "ef801bc4ed7054c903ecdc27431cace0190a71628027c53b7b8603f391d82306"), looks := false }, kinds := [], alts := [], laidByText := true, laidKinds := [.data], laidTests := true, laidLooks := .later }
def SureMultipliesCardSaid : Prop := Claim7.holds Tryd.pinned (.plain (OpenSpec.ofChange sureMultipliesSpec)) sureMultipliesCard

/-- THE TIED CARD OF 'planchetlaw05.SureConfuses'. -/
def sureConfusesCard : Claim7 := { stood := { row := sureConfusesRow, standIns := [], harness := (true, "ef801bc4ed7054c903ecdc27431cace0190a71628027c53b7b8603f391d82306"), looks := false }, kinds := [], alts := [], laidByText := true, laidKinds := [.data], laidTests := true, laidLooks := .later }
def SureConfusesCardSaid : Prop := Claim7.holds Tryd.pinned (.plain (OpenSpec.ofChange sureConfusesSpec)) sureConfusesCard

/-- THE TIED CARD OF 'planchetlaw05.SureBack'. -/
def sureBackCard : Claim7 := { stood := { row := sureBackRow, standIns := [], harness := (true, "ef801bc4ed7054c903ecdc27431cace0190a71628027c53b7b8603f391d82306"), looks := false }, kinds := [], alts := [], laidByText := true, laidKinds := [.data], laidTests := true, laidLooks := .later }
def SureBackCardSaid : Prop := Claim7.holds Tryd.pinned (.plain (OpenSpec.ofChange sureBackSpec)) sureBackCard

/-- THE TIED CARD OF 'planchetlaw05.SureFits'. -/
def sureFitsCard : Claim7 := { stood := { row := sureFitsRow, standIns := [], harness := (true, "ef801bc4ed7054c903ecdc27431cace0190a71628027c53b7b8603f391d82306"), looks := false }, kinds := [], alts := [], laidByText := true, laidKinds := [.data], laidTests := true, laidLooks := .later }
def SureFitsCardSaid : Prop := Claim7.holds Tryd.pinned (.plain (OpenSpec.ofChange sureFitsSpec)) sureFitsCard

/-- THE TIED CARD OF 'planchetlaw05.SureBounds'. -/
def sureBoundsCard : Claim7 := { stood := { row := sureBoundsRow, standIns := [], harness := (true, "ef801bc4ed7054c903ecdc27431cace0190a71628027c53b7b8603f391d82306"), looks := false }, kinds := [], alts := [], laidByText := true, laidKinds := [.data], laidTests := true, laidLooks := .later }
def SureBoundsCardSaid : Prop := Claim7.holds Tryd.pinned (.plain (OpenSpec.ofChange sureBoundsSpec)) sureBoundsCard

/-- THE TIED CARD OF 'planchetlaw05.SureFive'. -/
def sureFiveCard : Claim7 := { stood := { row := sureFiveRow, standIns := [], harness := (true, "ef801bc4ed7054c903ecdc27431cace0190a71628027c53b7b8603f391d82306"), looks := false }, kinds := [], alts := [], laidByText := true, laidKinds := [.data], laidTests := true, laidLooks := .later }
def SureFiveCardSaid : Prop := Claim7.holds Tryd.pinned (.plain (OpenSpec.ofChange sureFiveSpec)) sureFiveCard

/-- THE SECOND FORM's CARD OF 'planchetlaw05.SureCodes'. -/
def sureCodesUptoCard : Claim7 := { stood := { row := sureCodesUptoRow, standIns := [], harness := (true, "ef801bc4ed7054c903ecdc27431cace0190a71628027c53b7b8603f391d82306"), looks := false }, kinds := [], alts := [], laidByText := true, laidKinds := [.data], laidTests := true, laidLooks := .later }
def SureCodesUptoCardSaid : Prop := Claim7.holds Tryd.pinned (.plain (OpenSpec.upto sureCodesSpec)) sureCodesUptoCard

/-- THE SECOND FORM's CARD OF 'planchetlaw05.SureLonger'. -/
def sureLongerUptoCard : Claim7 := { stood := { row := sureLongerUptoRow, standIns := [], harness := (true, "ef801bc4ed7054c903ecdc27431cace0190a71628027c53b7b8603f391d82306"), looks := false }, kinds := [], alts := [], laidByText := true, laidKinds := [.data], laidTests := true, laidLooks := .later }
def SureLongerUptoCardSaid : Prop := Claim7.holds Tryd.pinned (.plain (OpenSpec.upto sureLongerSpec)) sureLongerUptoCard

/-- THE SECOND FORM's CARD OF 'planchetlaw05.SureCliques'. -/
def sureCliquesUptoCard : Claim7 := { stood := { row := sureCliquesUptoRow, standIns := [], harness := (true, "ef801bc4ed7054c903ecdc27431cace0190a71628027c53b7b8603f391d82306"), looks := false }, kinds := [], alts := [], laidByText := true, laidKinds := [.data], laidTests := true, laidLooks := .later }
def SureCliquesUptoCardSaid : Prop := Claim7.holds Tryd.pinned (.plain (OpenSpec.upto sureCliquesSpec)) sureCliquesUptoCard

/-- THE SECOND FORM's CARD OF 'planchetlaw05.SureJoins'. -/
def sureJoinsUptoCard : Claim7 := { stood := { row := sureJoinsUptoRow, standIns := [], harness := (true, "ef801bc4ed7054c903ecdc27431cace0190a71628027c53b7b8603f391d82306"), looks := false }, kinds := [], alts := [], laidByText := true, laidKinds := [.data], laidTests := true, laidLooks := .later }
def SureJoinsUptoCardSaid : Prop := Claim7.holds Tryd.pinned (.plain (OpenSpec.upto sureJoinsSpec)) sureJoinsUptoCard

/-- THE SECOND FORM's CARD OF 'planchetlaw05.SurePairs'. -/
def surePairsUptoCard : Claim7 := { stood := { row := surePairsUptoRow, standIns := [], harness := (true, "ef801bc4ed7054c903ecdc27431cace0190a71628027c53b7b8603f391d82306"), looks := false }, kinds := [], alts := [], laidByText := true, laidKinds := [.data], laidTests := true, laidLooks := .later }
def SurePairsUptoCardSaid : Prop := Claim7.holds Tryd.pinned (.plain (OpenSpec.upto surePairsSpec)) surePairsUptoCard

/-- THE SECOND FORM's CARD OF 'planchetlaw05.SureMore'. -/
def sureMoreUptoCard : Claim7 := { stood := { row := sureMoreUptoRow, standIns := [], harness := (true, "ef801bc4ed7054c903ecdc27431cace0190a71628027c53b7b8603f391d82306"), looks := false }, kinds := [], alts := [], laidByText := true, laidKinds := [.data], laidTests := true, laidLooks := .later }
def SureMoreUptoCardSaid : Prop := Claim7.holds Tryd.pinned (.plain (OpenSpec.upto sureMoreSpec)) sureMoreUptoCard

/-- THE SECOND FORM's CARD OF 'planchetlaw05.SureWeighs'. -/
def sureWeighsUptoCard : Claim7 := { stood := { row := sureWeighsUptoRow, standIns := [], harness := (true, "ef801bc4ed7054c903ecdc27431cace0190a71628027c53b7b8603f391d82306"), looks := false }, kinds := [], alts := [], laidByText := true, laidKinds := [.data], laidTests := true, laidLooks := .later }
def SureWeighsUptoCardSaid : Prop := Claim7.holds Tryd.pinned (.plain (OpenSpec.upto sureWeighsSpec)) sureWeighsUptoCard

/-- THE SECOND FORM's CARD OF 'planchetlaw05.SureLight'. -/
def sureLightUptoCard : Claim7 := { stood := { row := sureLightUptoRow, standIns := [], harness := (true, "ef801bc4ed7054c903ecdc27431cace0190a71628027c53b7b8603f391d82306"), looks := false }, kinds := [], alts := [], laidByText := true, laidKinds := [.data], laidTests := true, laidLooks := .later }
def SureLightUptoCardSaid : Prop := Claim7.holds Tryd.pinned (.plain (OpenSpec.upto sureLightSpec)) sureLightUptoCard

/-- THE SECOND FORM's CARD OF 'planchetlaw05.SureMultiplies'. -/
def sureMultipliesUptoCard : Claim7 := { stood := { row := sureMultipliesUptoRow, standIns := [], harness := (true, "ef801bc4ed7054c903ecdc27431cace0190a71628027c53b7b8603f391d82306"), looks := false }, kinds := [], alts := [], laidByText := true, laidKinds := [.data], laidTests := true, laidLooks := .later }
def SureMultipliesUptoCardSaid : Prop := Claim7.holds Tryd.pinned (.plain (OpenSpec.upto sureMultipliesSpec)) sureMultipliesUptoCard

/-- THE SECOND FORM's CARD OF 'planchetlaw05.SureConfuses'. -/
def sureConfusesUptoCard : Claim7 := { stood := { row := sureConfusesUptoRow, standIns := [], harness := (true, "ef801bc4ed7054c903ecdc27431cace0190a71628027c53b7b8603f391d82306"), looks := false }, kinds := [], alts := [], laidByText := true, laidKinds := [.data], laidTests := true, laidLooks := .later }
def SureConfusesUptoCardSaid : Prop := Claim7.holds Tryd.pinned (.plain (OpenSpec.upto sureConfusesSpec)) sureConfusesUptoCard

/-- THE SECOND FORM's CARD OF 'planchetlaw05.SureBack'. -/
def sureBackUptoCard : Claim7 := { stood := { row := sureBackUptoRow, standIns := [], harness := (true, "ef801bc4ed7054c903ecdc27431cace0190a71628027c53b7b8603f391d82306"), looks := false }, kinds := [], alts := [], laidByText := true, laidKinds := [.data], laidTests := true, laidLooks := .later }
def SureBackUptoCardSaid : Prop := Claim7.holds Tryd.pinned (.plain (OpenSpec.upto sureBackSpec)) sureBackUptoCard

/-- THE SECOND FORM's CARD OF 'planchetlaw05.SureFits'. -/
def sureFitsUptoCard : Claim7 := { stood := { row := sureFitsUptoRow, standIns := [], harness := (true, "ef801bc4ed7054c903ecdc27431cace0190a71628027c53b7b8603f391d82306"), looks := false }, kinds := [], alts := [], laidByText := true, laidKinds := [.data], laidTests := true, laidLooks := .later }
def SureFitsUptoCardSaid : Prop := Claim7.holds Tryd.pinned (.plain (OpenSpec.upto sureFitsSpec)) sureFitsUptoCard

/-- THE SECOND FORM's CARD OF 'planchetlaw05.SureBounds'. -/
def sureBoundsUptoCard : Claim7 := { stood := { row := sureBoundsUptoRow, standIns := [], harness := (true, "ef801bc4ed7054c903ecdc27431cace0190a71628027c53b7b8603f391d82306"), looks := false }, kinds := [], alts := [], laidByText := true, laidKinds := [.data], laidTests := true, laidLooks := .later }
def SureBoundsUptoCardSaid : Prop := Claim7.holds Tryd.pinned (.plain (OpenSpec.upto sureBoundsSpec)) sureBoundsUptoCard

/-- THE SECOND FORM's CARD OF 'planchetlaw05.SureFive'. -/
def sureFiveUptoCard : Claim7 := { stood := { row := sureFiveUptoRow, standIns := [], harness := (true, "ef801bc4ed7054c903ecdc27431cace0190a71628027c53b7b8603f391d82306"), looks := false }, kinds := [], alts := [], laidByText := true, laidKinds := [.data], laidTests := true, laidLooks := .later }
def SureFiveUptoCardSaid : Prop := Claim7.holds Tryd.pinned (.plain (OpenSpec.upto sureFiveSpec)) sureFiveUptoCard
end Rows
end Go.Proofs.YtaagkbbphgdcdaaDoor
