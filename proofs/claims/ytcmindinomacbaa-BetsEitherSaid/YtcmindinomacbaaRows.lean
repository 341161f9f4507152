/-
  No cell of these rows narrows 'for every input' (looked for: loops, veiled, ifaces, maps, wideKeys, modest, calm, conditions, laid).
  DERIVED. THE GIVEN ROWS OF THIS SEAT. 14 by the template 'for every input the law returns true; each argument reads behind the call as it read before'; 0 by the template 'total and deterministic' (their statements: YtcmindinomacbaaTotals.lean).
  GIVEN WITH THE SEED: the statements are not yours to turn. If you find one false, say at which input.
  Laid BY PROGRAM, IN A SANDBOX (cutbox-rows.mjs): the forced cells as the released guide's own fill.sh prints them over the translation d4e1fa09caeef66f… (all of the seat's roots in one cut). By AI agents, Wed Nov 11 2026. No macro, syntax, notation, axiom, sorry.
-/
import Derived.Test.YtcmindinomacbaaChecked
import GoSem.Claim
import GoSem.ClaimJoined
import GoSem.ClaimMapViews
import Derived.JoinedTies
import Derived.KernelRfl
namespace Go.Proofs.Ytcmindinomacbaa
/- THE CELL 'sum', in the pinned program and in every row, IS THE sha256 OF THE DUMP (.gsa) THAT YtcmindinomacbaaProg.lean LOADS. Nothing in Lean hashes anything: it is a label: what it is worth is what the hold of that sum in a sandbox is worth. -/
noncomputable def Try.pinned : Pinned := { name := "ytcmindinomacbaa", sum := "d4e1fa09caeef66f772f5bb6d76fb9773876346e91f73833dfd21d6db25fa68b", checked := Try.checked }
namespace Rows
def none {H : Type} : Left H := { results := [], args := [] }

/-- 'planchetlaw09.BetsMore': WHATEVER THE INPUT: true; the input reads as it did. -/
def betsMoreSpec : ChangeSpec := { name := "betsMore", fn := fun _ => fun
  | [d1, d2, d3, d4] => { results := [.lit (.bool true)], args := [d1, d2, d3, d4] }
  | _ => none }
def betsMoreRow : OpenClaim := { program := "ytcmindinomacbaa", sum := "d4e1fa09caeef66f772f5bb6d76fb9773876346e91f73833dfd21d6db25fa68b", func := "planchet/planchetlaw09.BetsMore", spec := "betsMore", unfollowed := true, recurses := true, apart := false }
def BetsMoreSaid : Prop := betsMoreRow.holds Try.pinned (OpenSpec.ofChange betsMoreSpec)

/-- ITS FALSE NEIGHBOUR: 'it returns false'. Refute it at one input. -/
def betsMoreWrong : ChangeSpec := { name := "betsMore", fn := fun _ => fun
  | [d1, d2, d3, d4] => { results := [.lit (.bool false)], args := [d1, d2, d3, d4] }
  | _ => none }
def BetsMoreWrongFalsely : Prop := betsMoreRow.holds Try.pinned (OpenSpec.ofChange betsMoreWrong)

/-- 'planchetlaw09.BetsBounds': WHATEVER THE INPUT: true; the input reads as it did. -/
def betsBoundsSpec : ChangeSpec := { name := "betsBounds", fn := fun _ => fun
  | [d1, d2, d3] => { results := [.lit (.bool true)], args := [d1, d2, d3] }
  | _ => none }
def betsBoundsRow : OpenClaim := { program := "ytcmindinomacbaa", sum := "d4e1fa09caeef66f772f5bb6d76fb9773876346e91f73833dfd21d6db25fa68b", func := "planchet/planchetlaw09.BetsBounds", spec := "betsBounds", unfollowed := true, recurses := true, apart := false }
def BetsBoundsSaid : Prop := betsBoundsRow.holds Try.pinned (OpenSpec.ofChange betsBoundsSpec)

/-- ITS FALSE NEIGHBOUR: 'it returns false'. Refute it at one input. -/
def betsBoundsWrong : ChangeSpec := { name := "betsBounds", fn := fun _ => fun
  | [d1, d2, d3] => { results := [.lit (.bool false)], args := [d1, d2, d3] }
  | _ => none }
def BetsBoundsWrongFalsely : Prop := betsBoundsRow.holds Try.pinned (OpenSpec.ofChange betsBoundsWrong)

/-- 'planchetlaw09.BetsProper': WHATEVER THE INPUT: true; the input reads as it did. -/
def betsProperSpec : ChangeSpec := { name := "betsProper", fn := fun _ => fun
  | [d1, d2] => { results := [.lit (.bool true)], args := [d1, d2] }
  | _ => none }
def betsProperRow : OpenClaim := { program := "ytcmindinomacbaa", sum := "d4e1fa09caeef66f772f5bb6d76fb9773876346e91f73833dfd21d6db25fa68b", func := "planchet/planchetlaw09.BetsProper", spec := "betsProper", unfollowed := true, recurses := true, apart := false }
def BetsProperSaid : Prop := betsProperRow.holds Try.pinned (OpenSpec.ofChange betsProperSpec)

/-- ITS FALSE NEIGHBOUR: 'it returns false'. Refute it at one input. -/
def betsProperWrong : ChangeSpec := { name := "betsProper", fn := fun _ => fun
  | [d1, d2] => { results := [.lit (.bool false)], args := [d1, d2] }
  | _ => none }
def BetsProperWrongFalsely : Prop := betsProperRow.holds Try.pinned (OpenSpec.ofChange betsProperWrong)

/-- 'planchetlaw09.BetsSound': WHATEVER THE INPUT: true; the input reads as it did. -/
def betsSoundSpec : ChangeSpec := { name := "betsSound", fn := fun _ => fun
  | [d1, d2, d3] => { results := [.lit (.bool true)], args := [d1, d2, d3] }
  | _ => none }
def betsSoundRow : OpenClaim := { program := "ytcmindinomacbaa", sum := "d4e1fa09caeef66f772f5bb6d76fb9773876346e91f73833dfd21d6db25fa68b", func := "planchet/planchetlaw09.BetsSound", spec := "betsSound", unfollowed := true, recurses := true, apart := false }
def BetsSoundSaid : Prop := betsSoundRow.holds Try.pinned (OpenSpec.ofChange betsSoundSpec)

/-- ITS FALSE NEIGHBOUR: 'it returns false'. Refute it at one input. -/
def betsSoundWrong : ChangeSpec := { name := "betsSound", fn := fun _ => fun
  | [d1, d2, d3] => { results := [.lit (.bool false)], args := [d1, d2, d3] }
  | _ => none }
def BetsSoundWrongFalsely : Prop := betsSoundRow.holds Try.pinned (OpenSpec.ofChange betsSoundWrong)

/-- 'planchetlaw09.BetsScores': WHATEVER THE INPUT: true; the input reads as it did. -/
def betsScoresSpec : ChangeSpec := { name := "betsScores", fn := fun _ => fun
  | [d1, d2, d3] => { results := [.lit (.bool true)], args := [d1, d2, d3] }
  | _ => none }
def betsScoresRow : OpenClaim := { program := "ytcmindinomacbaa", sum := "d4e1fa09caeef66f772f5bb6d76fb9773876346e91f73833dfd21d6db25fa68b", func := "planchet/planchetlaw09.BetsScores", spec := "betsScores", unfollowed := true, recurses := true, apart := false }
def BetsScoresSaid : Prop := betsScoresRow.holds Try.pinned (OpenSpec.ofChange betsScoresSpec)

/-- ITS FALSE NEIGHBOUR: 'it returns false'. Refute it at one input. -/
def betsScoresWrong : ChangeSpec := { name := "betsScores", fn := fun _ => fun
  | [d1, d2, d3] => { results := [.lit (.bool false)], args := [d1, d2, d3] }
  | _ => none }
def BetsScoresWrongFalsely : Prop := betsScoresRow.holds Try.pinned (OpenSpec.ofChange betsScoresWrong)

/-- 'planchetlaw09.BetsAverages': WHATEVER THE INPUT: true; the input reads as it did. -/
def betsAveragesSpec : ChangeSpec := { name := "betsAverages", fn := fun _ => fun
  | [d1, d2] => { results := [.lit (.bool true)], args := [d1, d2] }
  | _ => none }
def betsAveragesRow : OpenClaim := { program := "ytcmindinomacbaa", sum := "d4e1fa09caeef66f772f5bb6d76fb9773876346e91f73833dfd21d6db25fa68b", func := "planchet/planchetlaw09.BetsAverages", spec := "betsAverages", unfollowed := true, recurses := true, apart := false }
def BetsAveragesSaid : Prop := betsAveragesRow.holds Try.pinned (OpenSpec.ofChange betsAveragesSpec)

/-- ITS FALSE NEIGHBOUR: 'it returns false'. Refute it at one input. -/
def betsAveragesWrong : ChangeSpec := { name := "betsAverages", fn := fun _ => fun
  | [d1, d2] => { results := [.lit (.bool false)], args := [d1, d2] }
  | _ => none }
def BetsAveragesWrongFalsely : Prop := betsAveragesRow.holds Try.pinned (OpenSpec.ofChange betsAveragesWrong)

/-- 'planchetlaw09.BetsNarrow': WHATEVER THE INPUT: true; the input reads as it did. -/
def betsNarrowSpec : ChangeSpec := { name := "betsNarrow", fn := fun _ => fun
  | [d1, d2, d3, d4] => { results := [.lit (.bool true)], args := [d1, d2, d3, d4] }
  | _ => none }
def betsNarrowRow : OpenClaim := { program := "ytcmindinomacbaa", sum := "d4e1fa09caeef66f772f5bb6d76fb9773876346e91f73833dfd21d6db25fa68b", func := "planchet/planchetlaw09.BetsNarrow", spec := "betsNarrow", unfollowed := true, recurses := true, apart := false }
def BetsNarrowSaid : Prop := betsNarrowRow.holds Try.pinned (OpenSpec.ofChange betsNarrowSpec)

/-- ITS FALSE NEIGHBOUR: 'it returns false'. Refute it at one input. -/
def betsNarrowWrong : ChangeSpec := { name := "betsNarrow", fn := fun _ => fun
  | [d1, d2, d3, d4] => { results := [.lit (.bool false)], args := [d1, d2, d3, d4] }
  | _ => none }
def BetsNarrowWrongFalsely : Prop := betsNarrowRow.holds Try.pinned (OpenSpec.ofChange betsNarrowWrong)

/-- 'planchetlaw09.BetsPrices': WHATEVER THE INPUT: true; the input reads as it did. -/
def betsPricesSpec : ChangeSpec := { name := "betsPrices", fn := fun _ => fun
  | [d1, d2, d3, d4] => { results := [.lit (.bool true)], args := [d1, d2, d3, d4] }
  | _ => none }
def betsPricesRow : OpenClaim := { program := "ytcmindinomacbaa", sum := "d4e1fa09caeef66f772f5bb6d76fb9773876346e91f73833dfd21d6db25fa68b", func := "planchet/planchetlaw09.BetsPrices", spec := "betsPrices", unfollowed := true, recurses := true, apart := false }
def BetsPricesSaid : Prop := betsPricesRow.holds Try.pinned (OpenSpec.ofChange betsPricesSpec)

/-- ITS FALSE NEIGHBOUR: 'it returns false'. Refute it at one input. -/
def betsPricesWrong : ChangeSpec := { name := "betsPrices", fn := fun _ => fun
  | [d1, d2, d3, d4] => { results := [.lit (.bool false)], args := [d1, d2, d3, d4] }
  | _ => none }
def BetsPricesWrongFalsely : Prop := betsPricesRow.holds Try.pinned (OpenSpec.ofChange betsPricesWrong)

/-- 'planchetlaw09.BetsWorth': WHATEVER THE INPUT: true; the input reads as it did. -/
def betsWorthSpec : ChangeSpec := { name := "betsWorth", fn := fun _ => fun
  | [d1, d2, d3] => { results := [.lit (.bool true)], args := [d1, d2, d3] }
  | _ => none }
def betsWorthRow : OpenClaim := { program := "ytcmindinomacbaa", sum := "d4e1fa09caeef66f772f5bb6d76fb9773876346e91f73833dfd21d6db25fa68b", func := "planchet/planchetlaw09.BetsWorth", spec := "betsWorth", unfollowed := true, recurses := true, apart := false }
def BetsWorthSaid : Prop := betsWorthRow.holds Try.pinned (OpenSpec.ofChange betsWorthSpec)

/-- ITS FALSE NEIGHBOUR: 'it returns false'. Refute it at one input. -/
def betsWorthWrong : ChangeSpec := { name := "betsWorth", fn := fun _ => fun
  | [d1, d2, d3] => { results := [.lit (.bool false)], args := [d1, d2, d3] }
  | _ => none }
def BetsWorthWrongFalsely : Prop := betsWorthRow.holds Try.pinned (OpenSpec.ofChange betsWorthWrong)

/-- 'planchetlaw09.BetsBeats': WHATEVER THE INPUT: true; the input reads as it did. -/
def betsBeatsSpec : ChangeSpec := { name := "betsBeats", fn := fun _ => fun
  | [d1, d2, d3] => { results := [.lit (.bool true)], args := [d1, d2, d3] }
  | _ => none }
def betsBeatsRow : OpenClaim := { program := "ytcmindinomacbaa", sum := "d4e1fa09caeef66f772f5bb6d76fb9773876346e91f73833dfd21d6db25fa68b", func := "planchet/planchetlaw09.BetsBeats", spec := "betsBeats", unfollowed := true, recurses := true, apart := false }
def BetsBeatsSaid : Prop := betsBeatsRow.holds Try.pinned (OpenSpec.ofChange betsBeatsSpec)

/-- ITS FALSE NEIGHBOUR: 'it returns false'. Refute it at one input. -/
def betsBeatsWrong : ChangeSpec := { name := "betsBeats", fn := fun _ => fun
  | [d1, d2, d3] => { results := [.lit (.bool false)], args := [d1, d2, d3] }
  | _ => none }
def BetsBeatsWrongFalsely : Prop := betsBeatsRow.holds Try.pinned (OpenSpec.ofChange betsBeatsWrong)

/-- 'planchetlaw09.BetsEither': WHATEVER THE INPUT: true; the input reads as it did. -/
def betsEitherSpec : ChangeSpec := { name := "betsEither", fn := fun _ => fun
  | [d1, d2] => { results := [.lit (.bool true)], args := [d1, d2] }
  | _ => none }
def betsEitherRow : OpenClaim := { program := "ytcmindinomacbaa", sum := "d4e1fa09caeef66f772f5bb6d76fb9773876346e91f73833dfd21d6db25fa68b", func := "planchet/planchetlaw09.BetsEither", spec := "betsEither", unfollowed := true, recurses := true, apart := false }
def BetsEitherSaid : Prop := betsEitherRow.holds Try.pinned (OpenSpec.ofChange betsEitherSpec)

/-- ITS FALSE NEIGHBOUR: 'it returns false'. Refute it at one input. -/
def betsEitherWrong : ChangeSpec := { name := "betsEither", fn := fun _ => fun
  | [d1, d2] => { results := [.lit (.bool false)], args := [d1, d2] }
  | _ => none }
def BetsEitherWrongFalsely : Prop := betsEitherRow.holds Try.pinned (OpenSpec.ofChange betsEitherWrong)

/-- 'planchetlaw09.BetsGrow': WHATEVER THE INPUT: true; the input reads as it did. -/
def betsGrowSpec : ChangeSpec := { name := "betsGrow", fn := fun _ => fun
  | [d1, d2] => { results := [.lit (.bool true)], args := [d1, d2] }
  | _ => none }
def betsGrowRow : OpenClaim := { program := "ytcmindinomacbaa", sum := "d4e1fa09caeef66f772f5bb6d76fb9773876346e91f73833dfd21d6db25fa68b", func := "planchet/planchetlaw09.BetsGrow", spec := "betsGrow", unfollowed := true, recurses := true, apart := false }
def BetsGrowSaid : Prop := betsGrowRow.holds Try.pinned (OpenSpec.ofChange betsGrowSpec)

/-- ITS FALSE NEIGHBOUR: 'it returns false'. Refute it at one input. -/
def betsGrowWrong : ChangeSpec := { name := "betsGrow", fn := fun _ => fun
  | [d1, d2] => { results := [.lit (.bool false)], args := [d1, d2] }
  | _ => none }
def BetsGrowWrongFalsely : Prop := betsGrowRow.holds Try.pinned (OpenSpec.ofChange betsGrowWrong)

/-- 'planchetlaw09.BetsBest': WHATEVER THE INPUT: true; the input reads as it did. -/
def betsBestSpec : ChangeSpec := { name := "betsBest", fn := fun _ => fun
  | [d1, d2] => { results := [.lit (.bool true)], args := [d1, d2] }
  | _ => none }
def betsBestRow : OpenClaim := { program := "ytcmindinomacbaa", sum := "d4e1fa09caeef66f772f5bb6d76fb9773876346e91f73833dfd21d6db25fa68b", func := "planchet/planchetlaw09.BetsBest", spec := "betsBest", unfollowed := true, recurses := true, apart := false }
def BetsBestSaid : Prop := betsBestRow.holds Try.pinned (OpenSpec.ofChange betsBestSpec)

/-- ITS FALSE NEIGHBOUR: 'it returns false'. Refute it at one input. -/
def betsBestWrong : ChangeSpec := { name := "betsBest", fn := fun _ => fun
  | [d1, d2] => { results := [.lit (.bool false)], args := [d1, d2] }
  | _ => none }
def BetsBestWrongFalsely : Prop := betsBestRow.holds Try.pinned (OpenSpec.ofChange betsBestWrong)

/-- 'planchetlaw09.BetsKept': WHATEVER THE INPUT: true; the input reads as it did. -/
def betsKeptSpec : ChangeSpec := { name := "betsKept", fn := fun _ => fun
  | [d1, d2] => { results := [.lit (.bool true)], args := [d1, d2] }
  | _ => none }
def betsKeptRow : OpenClaim := { program := "ytcmindinomacbaa", sum := "d4e1fa09caeef66f772f5bb6d76fb9773876346e91f73833dfd21d6db25fa68b", func := "planchet/planchetlaw09.BetsKept", spec := "betsKept", unfollowed := true, recurses := true, apart := false }
def BetsKeptSaid : Prop := betsKeptRow.holds Try.pinned (OpenSpec.ofChange betsKeptSpec)

/-- ITS FALSE NEIGHBOUR: 'it returns false'. Refute it at one input. -/
def betsKeptWrong : ChangeSpec := { name := "betsKept", fn := fun _ => fun
  | [d1, d2] => { results := [.lit (.bool false)], args := [d1, d2] }
  | _ => none }
def BetsKeptWrongFalsely : Prop := betsKeptRow.holds Try.pinned (OpenSpec.ofChange betsKeptWrong)

/- THE SECOND FORM. 'bulk': how many values and letters a reading holds, each counted each time it is reached (what is shared counts as often as it is met; a slice's spare places count too). A statement '..UptoSaid' is the law's where the arguments, and the package variables that the reading takes, are together of bulk at most 1048576: NARROWER than '..Said'. Prove '..Said' where nothing that the law and all that it calls make is longer than what came in: it says more and counts as full. Else prove '..UptoSaid'. A law counts once. -/
mutual
def uptoBulk {H : Type} : DataW H → Nat
  | .lit (.string bytes) => bytes.length + 1
  | .lit _ => 1
  | .nil => 1
  | .ptr d => uptoBulk d + 1
  | .slice elems spare => uptoBulkAll elems + uptoBulkAll spare + 1
  | .agg parts => uptoBulkAll parts + 1
  | .iface _ d => uptoBulk d + 1
  | .map entries => uptoBulkEntries entries + 1
  | .held _ => 1
def uptoBulkAll {H : Type} : List (DataW H) → Nat
  | [] => 0
  | d :: r => uptoBulk d + uptoBulkAll r
def uptoBulkEntries {H : Type} : List (Lit × DataW H) → Nat
  | [] => 0
  | x :: r => uptoBulkEntry x + uptoBulkEntries r
def uptoBulkEntry {H : Type} : Lit × DataW H → Nat
  | (.string bytes, d) => bytes.length + uptoBulk d + 1
  | (_, d) => uptoBulk d + 1
 end
def uptoSmall : (H : Type) → List (DataW H) → Bool := fun _ ds => decide (uptoBulkAll ds ≤ 1048576)
def OpenSpec.upto (s : _root_.Go.ChangeSpec) : _root_.Go.OpenSpec := { _root_.Go.OpenSpec.ofChange s with cond := some uptoSmall }

/-- 'planchetlaw09.BetsMore', WHERE WHAT IT READS IS OF BULK AT MOST 1048576: true; the input reads as it did. -/
def betsMoreUptoRow : OpenClaim := { program := "ytcmindinomacbaa", sum := "d4e1fa09caeef66f772f5bb6d76fb9773876346e91f73833dfd21d6db25fa68b", func := "planchet/planchetlaw09.BetsMore", spec := "betsMore", unfollowed := true, recurses := true, apart := false, narrowed := true }
def BetsMoreUptoSaid : Prop := betsMoreUptoRow.holds Try.pinned (OpenSpec.upto betsMoreSpec)

/-- 'planchetlaw09.BetsBounds', WHERE WHAT IT READS IS OF BULK AT MOST 1048576: true; the input reads as it did. -/
def betsBoundsUptoRow : OpenClaim := { program := "ytcmindinomacbaa", sum := "d4e1fa09caeef66f772f5bb6d76fb9773876346e91f73833dfd21d6db25fa68b", func := "planchet/planchetlaw09.BetsBounds", spec := "betsBounds", unfollowed := true, recurses := true, apart := false, narrowed := true }
def BetsBoundsUptoSaid : Prop := betsBoundsUptoRow.holds Try.pinned (OpenSpec.upto betsBoundsSpec)

/-- 'planchetlaw09.BetsProper', WHERE WHAT IT READS IS OF BULK AT MOST 1048576: true; the input reads as it did. -/
def betsProperUptoRow : OpenClaim := { program := "ytcmindinomacbaa", sum := "d4e1fa09caeef66f772f5bb6d76fb9773876346e91f73833dfd21d6db25fa68b", func := "planchet/planchetlaw09.BetsProper", spec := "betsProper", unfollowed := true, recurses := true, apart := false, narrowed := true }
def BetsProperUptoSaid : Prop := betsProperUptoRow.holds Try.pinned (OpenSpec.upto betsProperSpec)

/-- 'planchetlaw09.BetsSound', WHERE WHAT IT READS IS OF BULK AT MOST 1048576: true; the input reads as it did. -/
def betsSoundUptoRow : OpenClaim := { program := "ytcmindinomacbaa", sum := "d4e1fa09caeef66f772f5bb6d76fb9773876346e91f73833dfd21d6db25fa68b", func := "planchet/planchetlaw09.BetsSound", spec := "betsSound", unfollowed := true, recurses := true, apart := false, narrowed := true }
def BetsSoundUptoSaid : Prop := betsSoundUptoRow.holds Try.pinned (OpenSpec.upto betsSoundSpec)

/-- 'planchetlaw09.BetsScores', WHERE WHAT IT READS IS OF BULK AT MOST 1048576: true; the input reads as it did. -/
def betsScoresUptoRow : OpenClaim := { program := "ytcmindinomacbaa", sum := "d4e1fa09caeef66f772f5bb6d76fb9773876346e91f73833dfd21d6db25fa68b", func := "planchet/planchetlaw09.BetsScores", spec := "betsScores", unfollowed := true, recurses := true, apart := false, narrowed := true }
def BetsScoresUptoSaid : Prop := betsScoresUptoRow.holds Try.pinned (OpenSpec.upto betsScoresSpec)

/-- 'planchetlaw09.BetsAverages', WHERE WHAT IT READS IS OF BULK AT MOST 1048576: true; the input reads as it did. -/
def betsAveragesUptoRow : OpenClaim := { program := "ytcmindinomacbaa", sum := "d4e1fa09caeef66f772f5bb6d76fb9773876346e91f73833dfd21d6db25fa68b", func := "planchet/planchetlaw09.BetsAverages", spec := "betsAverages", unfollowed := true, recurses := true, apart := false, narrowed := true }
def BetsAveragesUptoSaid : Prop := betsAveragesUptoRow.holds Try.pinned (OpenSpec.upto betsAveragesSpec)

/-- 'planchetlaw09.BetsNarrow', WHERE WHAT IT READS IS OF BULK AT MOST 1048576: true; the input reads as it did. -/
def betsNarrowUptoRow : OpenClaim := { program := "ytcmindinomacbaa", sum := "d4e1fa09caeef66f772f5bb6d76fb9773876346e91f73833dfd21d6db25fa68b", func := "planchet/planchetlaw09.BetsNarrow", spec := "betsNarrow", unfollowed := true, recurses := true, apart := false, narrowed := true }
def BetsNarrowUptoSaid : Prop := betsNarrowUptoRow.holds Try.pinned (OpenSpec.upto betsNarrowSpec)

/-- 'planchetlaw09.BetsPrices', WHERE WHAT IT READS IS OF BULK AT MOST 1048576: true; the input reads as it did. -/
def betsPricesUptoRow : OpenClaim := { program := "ytcmindinomacbaa", sum := "d4e1fa09caeef66f772f5bb6d76fb9773876346e91f73833dfd21d6db25fa68b", func := "planchet/planchetlaw09.BetsPrices", spec := "betsPrices", unfollowed := true, recurses := true, apart := false, narrowed := true }
def BetsPricesUptoSaid : Prop := betsPricesUptoRow.holds Try.pinned (OpenSpec.upto betsPricesSpec)

/-- 'planchetlaw09.BetsWorth', WHERE WHAT IT READS IS OF BULK AT MOST 1048576: true; the input reads as it did. -/
def betsWorthUptoRow : OpenClaim := { program := "ytcmindinomacbaa", sum := "d4e1fa09caeef66f772f5bb6d76fb9773876346e91f73833dfd21d6db25fa68b", func := "planchet/planchetlaw09.BetsWorth", spec := "betsWorth", unfollowed := true, recurses := true, apart := false, narrowed := true }
def BetsWorthUptoSaid : Prop := betsWorthUptoRow.holds Try.pinned (OpenSpec.upto betsWorthSpec)

/-- 'planchetlaw09.BetsBeats', WHERE WHAT IT READS IS OF BULK AT MOST 1048576: true; the input reads as it did. -/
def betsBeatsUptoRow : OpenClaim := { program := "ytcmindinomacbaa", sum := "d4e1fa09caeef66f772f5bb6d76fb9773876346e91f73833dfd21d6db25fa68b", func := "planchet/planchetlaw09.BetsBeats", spec := "betsBeats", unfollowed := true, recurses := true, apart := false, narrowed := true }
def BetsBeatsUptoSaid : Prop := betsBeatsUptoRow.holds Try.pinned (OpenSpec.upto betsBeatsSpec)

/-- 'planchetlaw09.BetsEither', WHERE WHAT IT READS IS OF BULK AT MOST 1048576: true; the input reads as it did. -/
def betsEitherUptoRow : OpenClaim := { program := "ytcmindinomacbaa", sum := "d4e1fa09caeef66f772f5bb6d76fb9773876346e91f73833dfd21d6db25fa68b", func := "planchet/planchetlaw09.BetsEither", spec := "betsEither", unfollowed := true, recurses := true, apart := false, narrowed := true }
def BetsEitherUptoSaid : Prop := betsEitherUptoRow.holds Try.pinned (OpenSpec.upto betsEitherSpec)

/-- 'planchetlaw09.BetsGrow', WHERE WHAT IT READS IS OF BULK AT MOST 1048576: true; the input reads as it did. -/
def betsGrowUptoRow : OpenClaim := { program := "ytcmindinomacbaa", sum := "d4e1fa09caeef66f772f5bb6d76fb9773876346e91f73833dfd21d6db25fa68b", func := "planchet/planchetlaw09.BetsGrow", spec := "betsGrow", unfollowed := true, recurses := true, apart := false, narrowed := true }
def BetsGrowUptoSaid : Prop := betsGrowUptoRow.holds Try.pinned (OpenSpec.upto betsGrowSpec)

/-- 'planchetlaw09.BetsBest', WHERE WHAT IT READS IS OF BULK AT MOST 1048576: true; the input reads as it did. -/
def betsBestUptoRow : OpenClaim := { program := "ytcmindinomacbaa", sum := "d4e1fa09caeef66f772f5bb6d76fb9773876346e91f73833dfd21d6db25fa68b", func := "planchet/planchetlaw09.BetsBest", spec := "betsBest", unfollowed := true, recurses := true, apart := false, narrowed := true }
def BetsBestUptoSaid : Prop := betsBestUptoRow.holds Try.pinned (OpenSpec.upto betsBestSpec)

/-- 'planchetlaw09.BetsKept', WHERE WHAT IT READS IS OF BULK AT MOST 1048576: true; the input reads as it did. -/
def betsKeptUptoRow : OpenClaim := { program := "ytcmindinomacbaa", sum := "d4e1fa09caeef66f772f5bb6d76fb9773876346e91f73833dfd21d6db25fa68b", func := "planchet/planchetlaw09.BetsKept", spec := "betsKept", unfollowed := true, recurses := true, apart := false, narrowed := true }
def BetsKeptUptoSaid : Prop := betsKeptUptoRow.holds Try.pinned (OpenSpec.upto betsKeptSpec)

end Rows
end Go.Proofs.Ytcmindinomacbaa
