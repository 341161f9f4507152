/-
  NARROWER THAN 'FOR EVERY INPUT', by the rows' own cells (each row's printed sentence says how): RanksRedei: laid · RanksWays: laid · RanksCrowned: laid · RanksPacks: laid · RanksClear: laid · RanksOrders: laid · RanksTurns: laid · RanksFewer: laid · RanksLeast: laid · RanksTriples: laid · RanksMoon: laid · RanksKings: laid · RanksTogether: laid · RanksScores: laid · RanksLandau: laid.
  DERIVED. THE GIVEN ROWS OF THIS SEAT. 15 by the template 'for every input the law returns true; each argument reads behind the call as it read before'; 0 by the template 'total and deterministic' (their statements: YtemmcfeekpblkaaDoorTotals.lean).
  GIVEN WITH THE SEED: the statements are not yours to turn. If you find one false, say at which input.
  Laid BY PROGRAM, IN A SANDBOX (cutbox-rows.mjs): the forced cells as the released guide's own fill.sh prints them over the translation af600ad5faaba877… (all of the seat's roots in one cut). By AI agents, Wed Nov 11 2026. No macro, syntax, notation, axiom, sorry.
-/
import Derived.Test.YtemmcfeekpblkaaDoorChecked
import GoSem.Claim
import GoSem.ClaimJoined
import GoSem.ClaimMapViews
import Derived.JoinedTies
import Derived.KernelRfl
namespace Go.Proofs.YtemmcfeekpblkaaDoor
/- THE CELL 'sum', in the pinned program and in every row, IS THE sha256 OF THE DUMP (.gsa) THAT YtemmcfeekpblkaaDoorProg.lean LOADS. Nothing in Lean hashes anything: it is a label: what it is worth is what the hold of that sum in a sandbox is worth. -/
noncomputable def Tryd.pinned : Pinned := { name := "ytemmcfeekpblkaadoor", sum := "af600ad5faaba8778481f6a7c92f8a2f895272957e521ce0cd4b5686bf7bc091", checked := Tryd.checked }
namespace Rows
def none {H : Type} : Left H := { results := [], args := [] }

/- WHAT THE LISTED PACKAGE-LEVEL VARIABLES READ AS WHEN THE CALL BEGINS. Each datum BY PROGRAM (the guide's laid-datum.mjs) off the statement by which the dump's own 'gosem.cut.vars' lays the variable. In a bare row this is a premise. The card (YtemmcfeekpblkaaDoorCards.lean) ties it to the program's text. -/
def laid_math_bits_deBruijn32tab {H : Type} : DataW H := .agg [.lit (.int .u8 0), .lit (.int .u8 1), .lit (.int .u8 28), .lit (.int .u8 2), .lit (.int .u8 29), .lit (.int .u8 14), .lit (.int .u8 24), .lit (.int .u8 3), .lit (.int .u8 30), .lit (.int .u8 22), .lit (.int .u8 20), .lit (.int .u8 15), .lit (.int .u8 25), .lit (.int .u8 17), .lit (.int .u8 4), .lit (.int .u8 8), .lit (.int .u8 31), .lit (.int .u8 27), .lit (.int .u8 13), .lit (.int .u8 23), .lit (.int .u8 21), .lit (.int .u8 19), .lit (.int .u8 16), .lit (.int .u8 7), .lit (.int .u8 26), .lit (.int .u8 12), .lit (.int .u8 18), .lit (.int .u8 6), .lit (.int .u8 11), .lit (.int .u8 5), .lit (.int .u8 10), .lit (.int .u8 9)]
def laid_math_bits_deBruijn64tab {H : Type} : DataW H := .agg [.lit (.int .u8 0), .lit (.int .u8 1), .lit (.int .u8 56), .lit (.int .u8 2), .lit (.int .u8 57), .lit (.int .u8 49), .lit (.int .u8 28), .lit (.int .u8 3), .lit (.int .u8 61), .lit (.int .u8 58), .lit (.int .u8 42), .lit (.int .u8 50), .lit (.int .u8 38), .lit (.int .u8 29), .lit (.int .u8 17), .lit (.int .u8 4), .lit (.int .u8 62), .lit (.int .u8 47), .lit (.int .u8 59), .lit (.int .u8 36), .lit (.int .u8 45), .lit (.int .u8 43), .lit (.int .u8 51), .lit (.int .u8 22), .lit (.int .u8 53), .lit (.int .u8 39), .lit (.int .u8 33), .lit (.int .u8 30), .lit (.int .u8 24), .lit (.int .u8 18), .lit (.int .u8 12), .lit (.int .u8 5), .lit (.int .u8 63), .lit (.int .u8 55), .lit (.int .u8 48), .lit (.int .u8 27), .lit (.int .u8 60), .lit (.int .u8 41), .lit (.int .u8 37), .lit (.int .u8 16), .lit (.int .u8 46), .lit (.int .u8 35), .lit (.int .u8 44), .lit (.int .u8 21), .lit (.int .u8 52), .lit (.int .u8 32), .lit (.int .u8 23), .lit (.int .u8 11), .lit (.int .u8 54), .lit (.int .u8 26), .lit (.int .u8 40), .lit (.int .u8 15), .lit (.int .u8 34), .lit (.int .u8 20), .lit (.int .u8 31), .lit (.int .u8 10), .lit (.int .u8 25), .lit (.int .u8 14), .lit (.int .u8 19), .lit (.int .u8 9), .lit (.int .u8 13), .lit (.int .u8 8), .lit (.int .u8 7), .lit (.int .u8 6)]

/-- 'planchetlaw02.RanksRedei': WHATEVER THE INPUT: true; the input reads as it did. -/
def ranksRedeiSpec : ChangeSpec := { name := "ranksRedei", fn := fun _ => fun
  | [d] => { results := [.lit (.bool true)], args := [d] }
  | _ => none }
def ranksRedeiRow : OpenClaim := { program := "ytemmcfeekpblkaadoor", sum := "af600ad5faaba8778481f6a7c92f8a2f895272957e521ce0cd4b5686bf7bc091", func := "planchet/planchetlaw02.RanksRedei", spec := "ranksRedei", unfollowed := true, recurses := true, named := ["math/bits.deBruijn32tab", "math/bits.deBruijn64tab"], apart := false, laid := [("math/bits.deBruijn32tab", laid_math_bits_deBruijn32tab), ("math/bits.deBruijn64tab", laid_math_bits_deBruijn64tab)] }
def RanksRedeiSaid : Prop := ranksRedeiRow.holds Tryd.pinned (OpenSpec.ofChange ranksRedeiSpec)

/-- ITS FALSE NEIGHBOUR: 'it returns false'. Refute it at one input. -/
def ranksRedeiWrong : ChangeSpec := { name := "ranksRedei", fn := fun _ => fun
  | [d] => { results := [.lit (.bool false)], args := [d] }
  | _ => none }
def RanksRedeiWrongFalsely : Prop := ranksRedeiRow.holds Tryd.pinned (OpenSpec.ofChange ranksRedeiWrong)

/-- 'planchetlaw02.RanksWays': WHATEVER THE INPUT: true; the input reads as it did. -/
def ranksWaysSpec : ChangeSpec := { name := "ranksWays", fn := fun _ => fun
  | [d1, d2] => { results := [.lit (.bool true)], args := [d1, d2] }
  | _ => none }
def ranksWaysRow : OpenClaim := { program := "ytemmcfeekpblkaadoor", sum := "af600ad5faaba8778481f6a7c92f8a2f895272957e521ce0cd4b5686bf7bc091", func := "planchet/planchetlaw02.RanksWays", spec := "ranksWays", unfollowed := true, recurses := true, named := ["math/bits.deBruijn32tab", "math/bits.deBruijn64tab"], apart := false, laid := [("math/bits.deBruijn32tab", laid_math_bits_deBruijn32tab), ("math/bits.deBruijn64tab", laid_math_bits_deBruijn64tab)] }
def RanksWaysSaid : Prop := ranksWaysRow.holds Tryd.pinned (OpenSpec.ofChange ranksWaysSpec)

/-- ITS FALSE NEIGHBOUR: 'it returns false'. Refute it at one input. -/
def ranksWaysWrong : ChangeSpec := { name := "ranksWays", fn := fun _ => fun
  | [d1, d2] => { results := [.lit (.bool false)], args := [d1, d2] }
  | _ => none }
def RanksWaysWrongFalsely : Prop := ranksWaysRow.holds Tryd.pinned (OpenSpec.ofChange ranksWaysWrong)

/-- 'planchetlaw02.RanksCrowned': WHATEVER THE INPUT: true; the input reads as it did. -/
def ranksCrownedSpec : ChangeSpec := { name := "ranksCrowned", fn := fun _ => fun
  | [d] => { results := [.lit (.bool true)], args := [d] }
  | _ => none }
def ranksCrownedRow : OpenClaim := { program := "ytemmcfeekpblkaadoor", sum := "af600ad5faaba8778481f6a7c92f8a2f895272957e521ce0cd4b5686bf7bc091", func := "planchet/planchetlaw02.RanksCrowned", spec := "ranksCrowned", unfollowed := true, recurses := true, named := ["math/bits.deBruijn32tab", "math/bits.deBruijn64tab"], apart := false, laid := [("math/bits.deBruijn32tab", laid_math_bits_deBruijn32tab), ("math/bits.deBruijn64tab", laid_math_bits_deBruijn64tab)] }
def RanksCrownedSaid : Prop := ranksCrownedRow.holds Tryd.pinned (OpenSpec.ofChange ranksCrownedSpec)

/-- ITS FALSE NEIGHBOUR: 'it returns false'. Refute it at one input. -/
def ranksCrownedWrong : ChangeSpec := { name := "ranksCrowned", fn := fun _ => fun
  | [d] => { results := [.lit (.bool false)], args := [d] }
  | _ => none }
def RanksCrownedWrongFalsely : Prop := ranksCrownedRow.holds Tryd.pinned (OpenSpec.ofChange ranksCrownedWrong)

/-- 'planchetlaw02.RanksPacks': WHATEVER THE INPUT: true; the input reads as it did. -/
def ranksPacksSpec : ChangeSpec := { name := "ranksPacks", fn := fun _ => fun
  | [d] => { results := [.lit (.bool true)], args := [d] }
  | _ => none }
def ranksPacksRow : OpenClaim := { program := "ytemmcfeekpblkaadoor", sum := "af600ad5faaba8778481f6a7c92f8a2f895272957e521ce0cd4b5686bf7bc091", func := "planchet/planchetlaw02.RanksPacks", spec := "ranksPacks", unfollowed := true, recurses := true, named := ["math/bits.deBruijn32tab", "math/bits.deBruijn64tab"], apart := false, laid := [("math/bits.deBruijn32tab", laid_math_bits_deBruijn32tab), ("math/bits.deBruijn64tab", laid_math_bits_deBruijn64tab)] }
def RanksPacksSaid : Prop := ranksPacksRow.holds Tryd.pinned (OpenSpec.ofChange ranksPacksSpec)

/-- ITS FALSE NEIGHBOUR: 'it returns false'. Refute it at one input. -/
def ranksPacksWrong : ChangeSpec := { name := "ranksPacks", fn := fun _ => fun
  | [d] => { results := [.lit (.bool false)], args := [d] }
  | _ => none }
def RanksPacksWrongFalsely : Prop := ranksPacksRow.holds Tryd.pinned (OpenSpec.ofChange ranksPacksWrong)

/-- 'planchetlaw02.RanksClear': WHATEVER THE INPUT: true; the input reads as it did. -/
def ranksClearSpec : ChangeSpec := { name := "ranksClear", fn := fun _ => fun
  | [d] => { results := [.lit (.bool true)], args := [d] }
  | _ => none }
def ranksClearRow : OpenClaim := { program := "ytemmcfeekpblkaadoor", sum := "af600ad5faaba8778481f6a7c92f8a2f895272957e521ce0cd4b5686bf7bc091", func := "planchet/planchetlaw02.RanksClear", spec := "ranksClear", unfollowed := true, recurses := true, named := ["math/bits.deBruijn32tab", "math/bits.deBruijn64tab"], apart := false, laid := [("math/bits.deBruijn32tab", laid_math_bits_deBruijn32tab), ("math/bits.deBruijn64tab", laid_math_bits_deBruijn64tab)] }
def RanksClearSaid : Prop := ranksClearRow.holds Tryd.pinned (OpenSpec.ofChange ranksClearSpec)

/-- ITS FALSE NEIGHBOUR: 'it returns false'. Refute it at one input. -/
def ranksClearWrong : ChangeSpec := { name := "ranksClear", fn := fun _ => fun
  | [d] => { results := [.lit (.bool false)], args := [d] }
  | _ => none }
def RanksClearWrongFalsely : Prop := ranksClearRow.holds Tryd.pinned (OpenSpec.ofChange ranksClearWrong)

/-- 'planchetlaw02.RanksOrders': WHATEVER THE INPUT: true; the input reads as it did. -/
def ranksOrdersSpec : ChangeSpec := { name := "ranksOrders", fn := fun _ => fun
  | [d1, d2] => { results := [.lit (.bool true)], args := [d1, d2] }
  | _ => none }
def ranksOrdersRow : OpenClaim := { program := "ytemmcfeekpblkaadoor", sum := "af600ad5faaba8778481f6a7c92f8a2f895272957e521ce0cd4b5686bf7bc091", func := "planchet/planchetlaw02.RanksOrders", spec := "ranksOrders", unfollowed := true, recurses := true, named := ["math/bits.deBruijn32tab", "math/bits.deBruijn64tab"], apart := false, laid := [("math/bits.deBruijn32tab", laid_math_bits_deBruijn32tab), ("math/bits.deBruijn64tab", laid_math_bits_deBruijn64tab)] }
def RanksOrdersSaid : Prop := ranksOrdersRow.holds Tryd.pinned (OpenSpec.ofChange ranksOrdersSpec)

/-- ITS FALSE NEIGHBOUR: 'it returns false'. Refute it at one input. -/
def ranksOrdersWrong : ChangeSpec := { name := "ranksOrders", fn := fun _ => fun
  | [d1, d2] => { results := [.lit (.bool false)], args := [d1, d2] }
  | _ => none }
def RanksOrdersWrongFalsely : Prop := ranksOrdersRow.holds Tryd.pinned (OpenSpec.ofChange ranksOrdersWrong)

/-- 'planchetlaw02.RanksTurns': WHATEVER THE INPUT: true; the input reads as it did. -/
def ranksTurnsSpec : ChangeSpec := { name := "ranksTurns", fn := fun _ => fun
  | [d1, d2] => { results := [.lit (.bool true)], args := [d1, d2] }
  | _ => none }
def ranksTurnsRow : OpenClaim := { program := "ytemmcfeekpblkaadoor", sum := "af600ad5faaba8778481f6a7c92f8a2f895272957e521ce0cd4b5686bf7bc091", func := "planchet/planchetlaw02.RanksTurns", spec := "ranksTurns", unfollowed := true, recurses := true, named := ["math/bits.deBruijn32tab", "math/bits.deBruijn64tab"], apart := false, laid := [("math/bits.deBruijn32tab", laid_math_bits_deBruijn32tab), ("math/bits.deBruijn64tab", laid_math_bits_deBruijn64tab)] }
def RanksTurnsSaid : Prop := ranksTurnsRow.holds Tryd.pinned (OpenSpec.ofChange ranksTurnsSpec)

/-- ITS FALSE NEIGHBOUR: 'it returns false'. Refute it at one input. -/
def ranksTurnsWrong : ChangeSpec := { name := "ranksTurns", fn := fun _ => fun
  | [d1, d2] => { results := [.lit (.bool false)], args := [d1, d2] }
  | _ => none }
def RanksTurnsWrongFalsely : Prop := ranksTurnsRow.holds Tryd.pinned (OpenSpec.ofChange ranksTurnsWrong)

/-- 'planchetlaw02.RanksFewer': WHATEVER THE INPUT: true; the input reads as it did. -/
def ranksFewerSpec : ChangeSpec := { name := "ranksFewer", fn := fun _ => fun
  | [d1, d2] => { results := [.lit (.bool true)], args := [d1, d2] }
  | _ => none }
def ranksFewerRow : OpenClaim := { program := "ytemmcfeekpblkaadoor", sum := "af600ad5faaba8778481f6a7c92f8a2f895272957e521ce0cd4b5686bf7bc091", func := "planchet/planchetlaw02.RanksFewer", spec := "ranksFewer", unfollowed := true, recurses := true, named := ["math/bits.deBruijn32tab", "math/bits.deBruijn64tab"], apart := false, laid := [("math/bits.deBruijn32tab", laid_math_bits_deBruijn32tab), ("math/bits.deBruijn64tab", laid_math_bits_deBruijn64tab)] }
def RanksFewerSaid : Prop := ranksFewerRow.holds Tryd.pinned (OpenSpec.ofChange ranksFewerSpec)

/-- ITS FALSE NEIGHBOUR: 'it returns false'. Refute it at one input. -/
def ranksFewerWrong : ChangeSpec := { name := "ranksFewer", fn := fun _ => fun
  | [d1, d2] => { results := [.lit (.bool false)], args := [d1, d2] }
  | _ => none }
def RanksFewerWrongFalsely : Prop := ranksFewerRow.holds Tryd.pinned (OpenSpec.ofChange ranksFewerWrong)

/-- 'planchetlaw02.RanksLeast': WHATEVER THE INPUT: true; the input reads as it did. -/
def ranksLeastSpec : ChangeSpec := { name := "ranksLeast", fn := fun _ => fun
  | [d1, d2] => { results := [.lit (.bool true)], args := [d1, d2] }
  | _ => none }
def ranksLeastRow : OpenClaim := { program := "ytemmcfeekpblkaadoor", sum := "af600ad5faaba8778481f6a7c92f8a2f895272957e521ce0cd4b5686bf7bc091", func := "planchet/planchetlaw02.RanksLeast", spec := "ranksLeast", unfollowed := true, recurses := true, named := ["math/bits.deBruijn32tab", "math/bits.deBruijn64tab"], apart := false, laid := [("math/bits.deBruijn32tab", laid_math_bits_deBruijn32tab), ("math/bits.deBruijn64tab", laid_math_bits_deBruijn64tab)] }
def RanksLeastSaid : Prop := ranksLeastRow.holds Tryd.pinned (OpenSpec.ofChange ranksLeastSpec)

/-- ITS FALSE NEIGHBOUR: 'it returns false'. Refute it at one input. -/
def ranksLeastWrong : ChangeSpec := { name := "ranksLeast", fn := fun _ => fun
  | [d1, d2] => { results := [.lit (.bool false)], args := [d1, d2] }
  | _ => none }
def RanksLeastWrongFalsely : Prop := ranksLeastRow.holds Tryd.pinned (OpenSpec.ofChange ranksLeastWrong)

/-- 'planchetlaw02.RanksTriples': WHATEVER THE INPUT: true; the input reads as it did. -/
def ranksTriplesSpec : ChangeSpec := { name := "ranksTriples", fn := fun _ => fun
  | [d] => { results := [.lit (.bool true)], args := [d] }
  | _ => none }
def ranksTriplesRow : OpenClaim := { program := "ytemmcfeekpblkaadoor", sum := "af600ad5faaba8778481f6a7c92f8a2f895272957e521ce0cd4b5686bf7bc091", func := "planchet/planchetlaw02.RanksTriples", spec := "ranksTriples", unfollowed := true, recurses := true, named := ["math/bits.deBruijn32tab", "math/bits.deBruijn64tab"], apart := false, laid := [("math/bits.deBruijn32tab", laid_math_bits_deBruijn32tab), ("math/bits.deBruijn64tab", laid_math_bits_deBruijn64tab)] }
def RanksTriplesSaid : Prop := ranksTriplesRow.holds Tryd.pinned (OpenSpec.ofChange ranksTriplesSpec)

/-- ITS FALSE NEIGHBOUR: 'it returns false'. Refute it at one input. -/
def ranksTriplesWrong : ChangeSpec := { name := "ranksTriples", fn := fun _ => fun
  | [d] => { results := [.lit (.bool false)], args := [d] }
  | _ => none }
def RanksTriplesWrongFalsely : Prop := ranksTriplesRow.holds Tryd.pinned (OpenSpec.ofChange ranksTriplesWrong)

/-- 'planchetlaw02.RanksMoon': WHATEVER THE INPUT: true; the input reads as it did. -/
def ranksMoonSpec : ChangeSpec := { name := "ranksMoon", fn := fun _ => fun
  | [d1, d2, d3] => { results := [.lit (.bool true)], args := [d1, d2, d3] }
  | _ => none }
def ranksMoonRow : OpenClaim := { program := "ytemmcfeekpblkaadoor", sum := "af600ad5faaba8778481f6a7c92f8a2f895272957e521ce0cd4b5686bf7bc091", func := "planchet/planchetlaw02.RanksMoon", spec := "ranksMoon", unfollowed := true, recurses := true, named := ["math/bits.deBruijn32tab", "math/bits.deBruijn64tab"], apart := false, laid := [("math/bits.deBruijn32tab", laid_math_bits_deBruijn32tab), ("math/bits.deBruijn64tab", laid_math_bits_deBruijn64tab)] }
def RanksMoonSaid : Prop := ranksMoonRow.holds Tryd.pinned (OpenSpec.ofChange ranksMoonSpec)

/-- ITS FALSE NEIGHBOUR: 'it returns false'. Refute it at one input. -/
def ranksMoonWrong : ChangeSpec := { name := "ranksMoon", fn := fun _ => fun
  | [d1, d2, d3] => { results := [.lit (.bool false)], args := [d1, d2, d3] }
  | _ => none }
def RanksMoonWrongFalsely : Prop := ranksMoonRow.holds Tryd.pinned (OpenSpec.ofChange ranksMoonWrong)

/-- 'planchetlaw02.RanksKings': WHATEVER THE INPUT: true; the input reads as it did. -/
def ranksKingsSpec : ChangeSpec := { name := "ranksKings", fn := fun _ => fun
  | [d] => { results := [.lit (.bool true)], args := [d] }
  | _ => none }
def ranksKingsRow : OpenClaim := { program := "ytemmcfeekpblkaadoor", sum := "af600ad5faaba8778481f6a7c92f8a2f895272957e521ce0cd4b5686bf7bc091", func := "planchet/planchetlaw02.RanksKings", spec := "ranksKings", unfollowed := true, recurses := true, named := ["math/bits.deBruijn32tab", "math/bits.deBruijn64tab"], apart := false, laid := [("math/bits.deBruijn32tab", laid_math_bits_deBruijn32tab), ("math/bits.deBruijn64tab", laid_math_bits_deBruijn64tab)] }
def RanksKingsSaid : Prop := ranksKingsRow.holds Tryd.pinned (OpenSpec.ofChange ranksKingsSpec)

/-- ITS FALSE NEIGHBOUR: 'it returns false'. Refute it at one input. -/
def ranksKingsWrong : ChangeSpec := { name := "ranksKings", fn := fun _ => fun
  | [d] => { results := [.lit (.bool false)], args := [d] }
  | _ => none }
def RanksKingsWrongFalsely : Prop := ranksKingsRow.holds Tryd.pinned (OpenSpec.ofChange ranksKingsWrong)

/-- 'planchetlaw02.RanksTogether': WHATEVER THE INPUT: true; the input reads as it did. -/
def ranksTogetherSpec : ChangeSpec := { name := "ranksTogether", fn := fun _ => fun
  | [d] => { results := [.lit (.bool true)], args := [d] }
  | _ => none }
def ranksTogetherRow : OpenClaim := { program := "ytemmcfeekpblkaadoor", sum := "af600ad5faaba8778481f6a7c92f8a2f895272957e521ce0cd4b5686bf7bc091", func := "planchet/planchetlaw02.RanksTogether", spec := "ranksTogether", unfollowed := true, recurses := true, named := ["math/bits.deBruijn32tab", "math/bits.deBruijn64tab"], apart := false, laid := [("math/bits.deBruijn32tab", laid_math_bits_deBruijn32tab), ("math/bits.deBruijn64tab", laid_math_bits_deBruijn64tab)] }
def RanksTogetherSaid : Prop := ranksTogetherRow.holds Tryd.pinned (OpenSpec.ofChange ranksTogetherSpec)

/-- ITS FALSE NEIGHBOUR: 'it returns false'. Refute it at one input. -/
def ranksTogetherWrong : ChangeSpec := { name := "ranksTogether", fn := fun _ => fun
  | [d] => { results := [.lit (.bool false)], args := [d] }
  | _ => none }
def RanksTogetherWrongFalsely : Prop := ranksTogetherRow.holds Tryd.pinned (OpenSpec.ofChange ranksTogetherWrong)

/-- 'planchetlaw02.RanksScores': WHATEVER THE INPUT: true; the input reads as it did. -/
def ranksScoresSpec : ChangeSpec := { name := "ranksScores", fn := fun _ => fun
  | [d1, d2] => { results := [.lit (.bool true)], args := [d1, d2] }
  | _ => none }
def ranksScoresRow : OpenClaim := { program := "ytemmcfeekpblkaadoor", sum := "af600ad5faaba8778481f6a7c92f8a2f895272957e521ce0cd4b5686bf7bc091", func := "planchet/planchetlaw02.RanksScores", spec := "ranksScores", unfollowed := true, recurses := true, named := ["math/bits.deBruijn32tab", "math/bits.deBruijn64tab"], apart := false, laid := [("math/bits.deBruijn32tab", laid_math_bits_deBruijn32tab), ("math/bits.deBruijn64tab", laid_math_bits_deBruijn64tab)] }
def RanksScoresSaid : Prop := ranksScoresRow.holds Tryd.pinned (OpenSpec.ofChange ranksScoresSpec)

/-- ITS FALSE NEIGHBOUR: 'it returns false'. Refute it at one input. -/
def ranksScoresWrong : ChangeSpec := { name := "ranksScores", fn := fun _ => fun
  | [d1, d2] => { results := [.lit (.bool false)], args := [d1, d2] }
  | _ => none }
def RanksScoresWrongFalsely : Prop := ranksScoresRow.holds Tryd.pinned (OpenSpec.ofChange ranksScoresWrong)

/-- 'planchetlaw02.RanksLandau': WHATEVER THE INPUT: true; the input reads as it did. -/
def ranksLandauSpec : ChangeSpec := { name := "ranksLandau", fn := fun _ => fun
  | [d] => { results := [.lit (.bool true)], args := [d] }
  | _ => none }
def ranksLandauRow : OpenClaim := { program := "ytemmcfeekpblkaadoor", sum := "af600ad5faaba8778481f6a7c92f8a2f895272957e521ce0cd4b5686bf7bc091", func := "planchet/planchetlaw02.RanksLandau", spec := "ranksLandau", unfollowed := true, recurses := true, named := ["math/bits.deBruijn32tab", "math/bits.deBruijn64tab"], apart := false, laid := [("math/bits.deBruijn32tab", laid_math_bits_deBruijn32tab), ("math/bits.deBruijn64tab", laid_math_bits_deBruijn64tab)] }
def RanksLandauSaid : Prop := ranksLandauRow.holds Tryd.pinned (OpenSpec.ofChange ranksLandauSpec)

/-- ITS FALSE NEIGHBOUR: 'it returns false'. Refute it at one input. -/
def ranksLandauWrong : ChangeSpec := { name := "ranksLandau", fn := fun _ => fun
  | [d] => { results := [.lit (.bool false)], args := [d] }
  | _ => none }
def RanksLandauWrongFalsely : Prop := ranksLandauRow.holds Tryd.pinned (OpenSpec.ofChange ranksLandauWrong)

/- THE SECOND FORM. 'bulk': how many values and letters a reading holds, each counted each time it is reached (what is shared counts as often as it is met; a slice's spare places count too). A statement '..UptoSaid' is the law's where the arguments, and the package variables that the reading takes, are together of bulk at most 1048576: NARROWER than '..Said'. Prove '..Said' where nothing that the law and all that it calls make is longer than what came in: it says more and counts as full. Else prove '..UptoSaid'. A law counts once. -/
mutual
def uptoBulk {H : Type} : DataW H → Nat
  | .lit (.string bytes) => bytes.length + 1
  | .lit _ => 1
  | .nil => 1
  | .ptr d => uptoBulk d + 1
  | .slice elems spare => uptoBulkAll elems + uptoBulkAll spare + 1
  | .agg parts => uptoBulkAll parts + 1
  | .iface _ d => uptoBulk d + 1
  | .map entries => uptoBulkEntries entries + 1
  | .held _ => 1
def uptoBulkAll {H : Type} : List (DataW H) → Nat
  | [] => 0
  | d :: r => uptoBulk d + uptoBulkAll r
def uptoBulkEntries {H : Type} : List (Lit × DataW H) → Nat
  | [] => 0
  | x :: r => uptoBulkEntry x + uptoBulkEntries r
def uptoBulkEntry {H : Type} : Lit × DataW H → Nat
  | (.string bytes, d) => bytes.length + uptoBulk d + 1
  | (_, d) => uptoBulk d + 1
 end
def uptoSmall : (H : Type) → List (DataW H) → Bool := fun _ ds => decide (uptoBulkAll ds ≤ 1048576)
def OpenSpec.upto (s : _root_.Go.ChangeSpec) : _root_.Go.OpenSpec := { _root_.Go.OpenSpec.ofChange s with cond := some uptoSmall }

/-- 'planchetlaw02.RanksRedei', WHERE WHAT IT READS IS OF BULK AT MOST 1048576: true; the input reads as it did. -/
def ranksRedeiUptoRow : OpenClaim := { program := "ytemmcfeekpblkaadoor", sum := "af600ad5faaba8778481f6a7c92f8a2f895272957e521ce0cd4b5686bf7bc091", func := "planchet/planchetlaw02.RanksRedei", spec := "ranksRedei", unfollowed := true, recurses := true, named := ["math/bits.deBruijn32tab", "math/bits.deBruijn64tab"], apart := false, laid := [("math/bits.deBruijn32tab", laid_math_bits_deBruijn32tab), ("math/bits.deBruijn64tab", laid_math_bits_deBruijn64tab)], narrowed := true }
def RanksRedeiUptoSaid : Prop := ranksRedeiUptoRow.holds Tryd.pinned (OpenSpec.upto ranksRedeiSpec)

/-- 'planchetlaw02.RanksWays', WHERE WHAT IT READS IS OF BULK AT MOST 1048576: true; the input reads as it did. -/
def ranksWaysUptoRow : OpenClaim := { program := "ytemmcfeekpblkaadoor", sum := "af600ad5faaba8778481f6a7c92f8a2f895272957e521ce0cd4b5686bf7bc091", func := "planchet/planchetlaw02.RanksWays", spec := "ranksWays", unfollowed := true, recurses := true, named := ["math/bits.deBruijn32tab", "math/bits.deBruijn64tab"], apart := false, laid := [("math/bits.deBruijn32tab", laid_math_bits_deBruijn32tab), ("math/bits.deBruijn64tab", laid_math_bits_deBruijn64tab)], narrowed := true }
def RanksWaysUptoSaid : Prop := ranksWaysUptoRow.holds Tryd.pinned (OpenSpec.upto ranksWaysSpec)

/-- 'planchetlaw02.RanksCrowned', WHERE WHAT IT READS IS OF BULK AT MOST 1048576: true; the input reads as it did. -/
def ranksCrownedUptoRow : OpenClaim := { program := "ytemmcfeekpblkaadoor", sum := "af600ad5faaba8778481f6a7c92f8a2f895272957e521ce0cd4b5686bf7bc091", func := "planchet/planchetlaw02.RanksCrowned", spec := "ranksCrowned", unfollowed := true, recurses := true, named := ["math/bits.deBruijn32tab", "math/bits.deBruijn64tab"], apart := false, laid := [("math/bits.deBruijn32tab", laid_math_bits_deBruijn32tab), ("math/bits.deBruijn64tab", laid_math_bits_deBruijn64tab)], narrowed := true }
def RanksCrownedUptoSaid : Prop := ranksCrownedUptoRow.holds Tryd.pinned (OpenSpec.upto ranksCrownedSpec)

/-- 'planchetlaw02.RanksPacks', WHERE WHAT IT READS IS OF BULK AT MOST 1048576: true; the input reads as it did. -/
def ranksPacksUptoRow : OpenClaim := { program := "ytemmcfeekpblkaadoor", sum := "af600ad5faaba8778481f6a7c92f8a2f895272957e521ce0cd4b5686bf7bc091", func := "planchet/planchetlaw02.RanksPacks", spec := "ranksPacks", unfollowed := true, recurses := true, named := ["math/bits.deBruijn32tab", "math/bits.deBruijn64tab"], apart := false, laid := [("math/bits.deBruijn32tab", laid_math_bits_deBruijn32tab), ("math/bits.deBruijn64tab", laid_math_bits_deBruijn64tab)], narrowed := true }
def RanksPacksUptoSaid : Prop := ranksPacksUptoRow.holds Tryd.pinned (OpenSpec.upto ranksPacksSpec)

/-- 'planchetlaw02.RanksClear', WHERE WHAT IT READS IS OF BULK AT MOST 1048576: true; the input reads as it did. -/
def ranksClearUptoRow : OpenClaim := { program := "ytemmcfeekpblkaadoor", sum := "af600ad5faaba8778481f6a7c92f8a2f895272957e521ce0cd4b5686bf7bc091", func := "planchet/planchetlaw02.RanksClear", spec := "ranksClear", unfollowed := true, recurses := true, named := ["math/bits.deBruijn32tab", "math/bits.deBruijn64tab"], apart := false, laid := [("math/bits.deBruijn32tab", laid_math_bits_deBruijn32tab), ("math/bits.deBruijn64tab", laid_math_bits_deBruijn64tab)], narrowed := true }
def RanksClearUptoSaid : Prop := ranksClearUptoRow.holds Tryd.pinned (OpenSpec.upto ranksClearSpec)

/-- 'planchetlaw02.RanksOrders', WHERE WHAT IT READS IS OF BULK AT MOST 1048576: true; the input reads as it did. -/
def ranksOrdersUptoRow : OpenClaim := { program := "ytemmcfeekpblkaadoor", sum := "af600ad5faaba8778481f6a7c92f8a2f895272957e521ce0cd4b5686bf7bc091", func := "planchet/planchetlaw02.RanksOrders", spec := "ranksOrders", unfollowed := true, recurses := true, named := ["math/bits.deBruijn32tab", "math/bits.deBruijn64tab"], apart := false, laid := [("math/bits.deBruijn32tab", laid_math_bits_deBruijn32tab), ("math/bits.deBruijn64tab", laid_math_bits_deBruijn64tab)], narrowed := true }
def RanksOrdersUptoSaid : Prop := ranksOrdersUptoRow.holds Tryd.pinned (OpenSpec.upto ranksOrdersSpec)

/-- 'planchetlaw02.RanksTurns', WHERE WHAT IT READS IS OF BULK AT MOST 1048576: true; the input reads as it did. -/
def ranksTurnsUptoRow : OpenClaim := { program := "ytemmcfeekpblkaadoor", sum := "af600ad5faaba8778481f6a7c92f8a2f895272957e521ce0cd4b5686bf7bc091", func := "planchet/planchetlaw02.RanksTurns", spec := "ranksTurns", unfollowed := true, recurses := true, named := ["math/bits.deBruijn32tab", "math/bits.deBruijn64tab"], apart := false, laid := [("math/bits.deBruijn32tab", laid_math_bits_deBruijn32tab), ("math/bits.deBruijn64tab", laid_math_bits_deBruijn64tab)], narrowed := true }
def RanksTurnsUptoSaid : Prop := ranksTurnsUptoRow.holds Tryd.pinned (OpenSpec.upto ranksTurnsSpec)

/-- 'planchetlaw02.RanksFewer', WHERE WHAT IT READS IS OF BULK AT MOST 1048576: true; the input reads as it did. -/
def ranksFewerUptoRow : OpenClaim := { program := "ytemmcfeekpblkaadoor", sum := "af600ad5faaba8778481f6a7c92f8a2f895272957e521ce0cd4b5686bf7bc091", func := "planchet/planchetlaw02.RanksFewer", spec := "ranksFewer", unfollowed := true, recurses := true, named := ["math/bits.deBruijn32tab", "math/bits.deBruijn64tab"], apart := false, laid := [("math/bits.deBruijn32tab", laid_math_bits_deBruijn32tab), ("math/bits.deBruijn64tab", laid_math_bits_deBruijn64tab)], narrowed := true }
def RanksFewerUptoSaid : Prop := ranksFewerUptoRow.holds Tryd.pinned (OpenSpec.upto ranksFewerSpec)

/-- 'planchetlaw02.RanksLeast', WHERE WHAT IT READS IS OF BULK AT MOST 1048576: true; the input reads as it did. -/
def ranksLeastUptoRow : OpenClaim := { program := "ytemmcfeekpblkaadoor", sum := "af600ad5faaba8778481f6a7c92f8a2f895272957e521ce0cd4b5686bf7bc091", func := "planchet/planchetlaw02.RanksLeast", spec := "ranksLeast", unfollowed := true, recurses := true, named := ["math/bits.deBruijn32tab", "math/bits.deBruijn64tab"], apart := false, laid := [("math/bits.deBruijn32tab", laid_math_bits_deBruijn32tab), ("math/bits.deBruijn64tab", laid_math_bits_deBruijn64tab)], narrowed := true }
def RanksLeastUptoSaid : Prop := ranksLeastUptoRow.holds Tryd.pinned (OpenSpec.upto ranksLeastSpec)

/-- 'planchetlaw02.RanksTriples', WHERE WHAT IT READS IS OF BULK AT MOST 1048576: true; the input reads as it did. -/
def ranksTriplesUptoRow : OpenClaim := { program := "ytemmcfeekpblkaadoor", sum := "af600ad5faaba8778481f6a7c92f8a2f895272957e521ce0cd4b5686bf7bc091", func := "planchet/planchetlaw02.RanksTriples", spec := "ranksTriples", unfollowed := true, recurses := true, named := ["math/bits.deBruijn32tab", "math/bits.deBruijn64tab"], apart := false, laid := [("math/bits.deBruijn32tab", laid_math_bits_deBruijn32tab), ("math/bits.deBruijn64tab", laid_math_bits_deBruijn64tab)], narrowed := true }
def RanksTriplesUptoSaid : Prop := ranksTriplesUptoRow.holds Tryd.pinned (OpenSpec.upto ranksTriplesSpec)

/-- 'planchetlaw02.RanksMoon', WHERE WHAT IT READS IS OF BULK AT MOST 1048576: true; the input reads as it did. -/
def ranksMoonUptoRow : OpenClaim := { program := "ytemmcfeekpblkaadoor", sum := "af600ad5faaba8778481f6a7c92f8a2f895272957e521ce0cd4b5686bf7bc091", func := "planchet/planchetlaw02.RanksMoon", spec := "ranksMoon", unfollowed := true, recurses := true, named := ["math/bits.deBruijn32tab", "math/bits.deBruijn64tab"], apart := false, laid := [("math/bits.deBruijn32tab", laid_math_bits_deBruijn32tab), ("math/bits.deBruijn64tab", laid_math_bits_deBruijn64tab)], narrowed := true }
def RanksMoonUptoSaid : Prop := ranksMoonUptoRow.holds Tryd.pinned (OpenSpec.upto ranksMoonSpec)

/-- 'planchetlaw02.RanksKings', WHERE WHAT IT READS IS OF BULK AT MOST 1048576: true; the input reads as it did. -/
def ranksKingsUptoRow : OpenClaim := { program := "ytemmcfeekpblkaadoor", sum := "af600ad5faaba8778481f6a7c92f8a2f895272957e521ce0cd4b5686bf7bc091", func := "planchet/planchetlaw02.RanksKings", spec := "ranksKings", unfollowed := true, recurses := true, named := ["math/bits.deBruijn32tab", "math/bits.deBruijn64tab"], apart := false, laid := [("math/bits.deBruijn32tab", laid_math_bits_deBruijn32tab), ("math/bits.deBruijn64tab", laid_math_bits_deBruijn64tab)], narrowed := true }
def RanksKingsUptoSaid : Prop := ranksKingsUptoRow.holds Tryd.pinned (OpenSpec.upto ranksKingsSpec)

/-- 'planchetlaw02.RanksTogether', WHERE WHAT IT READS IS OF BULK AT MOST 1048576: true; the input reads as it did. -/
def ranksTogetherUptoRow : OpenClaim := { program := "ytemmcfeekpblkaadoor", sum := "af600ad5faaba8778481f6a7c92f8a2f895272957e521ce0cd4b5686bf7bc091", func := "planchet/planchetlaw02.RanksTogether", spec := "ranksTogether", unfollowed := true, recurses := true, named := ["math/bits.deBruijn32tab", "math/bits.deBruijn64tab"], apart := false, laid := [("math/bits.deBruijn32tab", laid_math_bits_deBruijn32tab), ("math/bits.deBruijn64tab", laid_math_bits_deBruijn64tab)], narrowed := true }
def RanksTogetherUptoSaid : Prop := ranksTogetherUptoRow.holds Tryd.pinned (OpenSpec.upto ranksTogetherSpec)

/-- 'planchetlaw02.RanksScores', WHERE WHAT IT READS IS OF BULK AT MOST 1048576: true; the input reads as it did. -/
def ranksScoresUptoRow : OpenClaim := { program := "ytemmcfeekpblkaadoor", sum := "af600ad5faaba8778481f6a7c92f8a2f895272957e521ce0cd4b5686bf7bc091", func := "planchet/planchetlaw02.RanksScores", spec := "ranksScores", unfollowed := true, recurses := true, named := ["math/bits.deBruijn32tab", "math/bits.deBruijn64tab"], apart := false, laid := [("math/bits.deBruijn32tab", laid_math_bits_deBruijn32tab), ("math/bits.deBruijn64tab", laid_math_bits_deBruijn64tab)], narrowed := true }
def RanksScoresUptoSaid : Prop := ranksScoresUptoRow.holds Tryd.pinned (OpenSpec.upto ranksScoresSpec)

/-- 'planchetlaw02.RanksLandau', WHERE WHAT IT READS IS OF BULK AT MOST 1048576: true; the input reads as it did. -/
def ranksLandauUptoRow : OpenClaim := { program := "ytemmcfeekpblkaadoor", sum := "af600ad5faaba8778481f6a7c92f8a2f895272957e521ce0cd4b5686bf7bc091", func := "planchet/planchetlaw02.RanksLandau", spec := "ranksLandau", unfollowed := true, recurses := true, named := ["math/bits.deBruijn32tab", "math/bits.deBruijn64tab"], apart := false, laid := [("math/bits.deBruijn32tab", laid_math_bits_deBruijn32tab), ("math/bits.deBruijn64tab", laid_math_bits_deBruijn64tab)], narrowed := true }
def RanksLandauUptoSaid : Prop := ranksLandauUptoRow.holds Tryd.pinned (OpenSpec.upto ranksLandauSpec)

end Rows
end Go.Proofs.YtemmcfeekpblkaaDoor
