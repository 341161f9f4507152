/-
  NARROWER THAN 'FOR EVERY INPUT', by the rows' own cells (each row's printed sentence says how): OrderCounts: laid · OrderEven: laid · OrderChances: laid · OrderLines: laid · OrderMakes: laid · OrderClosed: laid · OrderSums: laid · OrderReals: laid · OrderDims: laid · OrderSorts: laid · OrderNeeds: laid · OrderTurned: laid · OrderDilworth: laid · OrderChains: laid.
  DERIVED. THE GIVEN ROWS OF THIS SEAT. 14 by the template 'for every input the law returns true; each argument reads behind the call as it read before'; 0 by the template 'total and deterministic' (their statements: YtnjacpfahhjpiaaDoorTotals.lean).
  GIVEN WITH THE SEED: the statements are not yours to turn. If you find one false, say at which input.
  Laid BY PROGRAM, IN A SANDBOX (cutbox-rows.mjs): the forced cells as the released guide's own fill.sh prints them over the translation b939e33617776b9e… (all of the seat's roots in one cut). By AI agents, Wed Nov 11 2026. No macro, syntax, notation, axiom, sorry.
-/
import Derived.Test.YtnjacpfahhjpiaaDoorChecked
import GoSem.Claim
import GoSem.ClaimJoined
import GoSem.ClaimMapViews
import Derived.JoinedTies
import Derived.KernelRfl
namespace Go.Proofs.YtnjacpfahhjpiaaDoor
/- THE CELL 'sum', in the pinned program and in every row, IS THE sha256 OF THE DUMP (.gsa) THAT YtnjacpfahhjpiaaDoorProg.lean LOADS. Nothing in Lean hashes anything: it is a label: what it is worth is what the hold of that sum in a sandbox is worth. -/
noncomputable def Tryd.pinned : Pinned := { name := "ytnjacpfahhjpiaadoor", sum := "b939e33617776b9eacde985b1ab3b73e2e3faa4cced0a87832ba1a52b18516eb", checked := Tryd.checked }
namespace Rows
def none {H : Type} : Left H := { results := [], args := [] }

/- WHAT THE LISTED PACKAGE-LEVEL VARIABLES READ AS WHEN THE CALL BEGINS. Each datum BY PROGRAM (the guide's laid-datum.mjs) off the statement by which the dump's own 'gosem.cut.vars' lays the variable. In a bare row this is a premise. The card (YtnjacpfahhjpiaaDoorCards.lean) ties it to the program's text. -/
def laid_math_bits_deBruijn32tab {H : Type} : DataW H := .agg [.lit (.int .u8 0), .lit (.int .u8 1), .lit (.int .u8 28), .lit (.int .u8 2), .lit (.int .u8 29), .lit (.int .u8 14), .lit (.int .u8 24), .lit (.int .u8 3), .lit (.int .u8 30), .lit (.int .u8 22), .lit (.int .u8 20), .lit (.int .u8 15), .lit (.int .u8 25), .lit (.int .u8 17), .lit (.int .u8 4), .lit (.int .u8 8), .lit (.int .u8 31), .lit (.int .u8 27), .lit (.int .u8 13), .lit (.int .u8 23), .lit (.int .u8 21), .lit (.int .u8 19), .lit (.int .u8 16), .lit (.int .u8 7), .lit (.int .u8 26), .lit (.int .u8 12), .lit (.int .u8 18), .lit (.int .u8 6), .lit (.int .u8 11), .lit (.int .u8 5), .lit (.int .u8 10), .lit (.int .u8 9)]
def laid_math_bits_deBruijn64tab {H : Type} : DataW H := .agg [.lit (.int .u8 0), .lit (.int .u8 1), .lit (.int .u8 56), .lit (.int .u8 2), .lit (.int .u8 57), .lit (.int .u8 49), .lit (.int .u8 28), .lit (.int .u8 3), .lit (.int .u8 61), .lit (.int .u8 58), .lit (.int .u8 42), .lit (.int .u8 50), .lit (.int .u8 38), .lit (.int .u8 29), .lit (.int .u8 17), .lit (.int .u8 4), .lit (.int .u8 62), .lit (.int .u8 47), .lit (.int .u8 59), .lit (.int .u8 36), .lit (.int .u8 45), .lit (.int .u8 43), .lit (.int .u8 51), .lit (.int .u8 22), .lit (.int .u8 53), .lit (.int .u8 39), .lit (.int .u8 33), .lit (.int .u8 30), .lit (.int .u8 24), .lit (.int .u8 18), .lit (.int .u8 12), .lit (.int .u8 5), .lit (.int .u8 63), .lit (.int .u8 55), .lit (.int .u8 48), .lit (.int .u8 27), .lit (.int .u8 60), .lit (.int .u8 41), .lit (.int .u8 37), .lit (.int .u8 16), .lit (.int .u8 46), .lit (.int .u8 35), .lit (.int .u8 44), .lit (.int .u8 21), .lit (.int .u8 52), .lit (.int .u8 32), .lit (.int .u8 23), .lit (.int .u8 11), .lit (.int .u8 54), .lit (.int .u8 26), .lit (.int .u8 40), .lit (.int .u8 15), .lit (.int .u8 34), .lit (.int .u8 20), .lit (.int .u8 31), .lit (.int .u8 10), .lit (.int .u8 25), .lit (.int .u8 14), .lit (.int .u8 19), .lit (.int .u8 9), .lit (.int .u8 13), .lit (.int .u8 8), .lit (.int .u8 7), .lit (.int .u8 6)]

/-- 'planchetlaw07.OrderCounts': WHATEVER THE INPUT: true; the input reads as it did. -/
def orderCountsSpec : ChangeSpec := { name := "orderCounts", fn := fun _ => fun
  | [d1, d2, d3] => { results := [.lit (.bool true)], args := [d1, d2, d3] }
  | _ => none }
def orderCountsRow : OpenClaim := { program := "ytnjacpfahhjpiaadoor", sum := "b939e33617776b9eacde985b1ab3b73e2e3faa4cced0a87832ba1a52b18516eb", func := "planchet/planchetlaw07.OrderCounts", spec := "orderCounts", unfollowed := true, recurses := true, named := ["math/bits.deBruijn32tab", "math/bits.deBruijn64tab"], plainKeys := false, apart := false, laid := [("math/bits.deBruijn32tab", laid_math_bits_deBruijn32tab), ("math/bits.deBruijn64tab", laid_math_bits_deBruijn64tab)] }
def OrderCountsSaid : Prop := orderCountsRow.holds Tryd.pinned (OpenSpec.ofChange orderCountsSpec)

/-- ITS FALSE NEIGHBOUR: 'it returns false'. Refute it at one input. -/
def orderCountsWrong : ChangeSpec := { name := "orderCounts", fn := fun _ => fun
  | [d1, d2, d3] => { results := [.lit (.bool false)], args := [d1, d2, d3] }
  | _ => none }
def OrderCountsWrongFalsely : Prop := orderCountsRow.holds Tryd.pinned (OpenSpec.ofChange orderCountsWrong)

/-- 'planchetlaw07.OrderEven': WHATEVER THE INPUT: true; the input reads as it did. -/
def orderEvenSpec : ChangeSpec := { name := "orderEven", fn := fun _ => fun
  | [d] => { results := [.lit (.bool true)], args := [d] }
  | _ => none }
def orderEvenRow : OpenClaim := { program := "ytnjacpfahhjpiaadoor", sum := "b939e33617776b9eacde985b1ab3b73e2e3faa4cced0a87832ba1a52b18516eb", func := "planchet/planchetlaw07.OrderEven", spec := "orderEven", unfollowed := true, recurses := true, named := ["math/bits.deBruijn32tab", "math/bits.deBruijn64tab"], plainKeys := false, apart := false, laid := [("math/bits.deBruijn32tab", laid_math_bits_deBruijn32tab), ("math/bits.deBruijn64tab", laid_math_bits_deBruijn64tab)] }
def OrderEvenSaid : Prop := orderEvenRow.holds Tryd.pinned (OpenSpec.ofChange orderEvenSpec)

/-- ITS FALSE NEIGHBOUR: 'it returns false'. Refute it at one input. -/
def orderEvenWrong : ChangeSpec := { name := "orderEven", fn := fun _ => fun
  | [d] => { results := [.lit (.bool false)], args := [d] }
  | _ => none }
def OrderEvenWrongFalsely : Prop := orderEvenRow.holds Tryd.pinned (OpenSpec.ofChange orderEvenWrong)

/-- 'planchetlaw07.OrderChances': WHATEVER THE INPUT: true; the input reads as it did. -/
def orderChancesSpec : ChangeSpec := { name := "orderChances", fn := fun _ => fun
  | [d1, d2, d3] => { results := [.lit (.bool true)], args := [d1, d2, d3] }
  | _ => none }
def orderChancesRow : OpenClaim := { program := "ytnjacpfahhjpiaadoor", sum := "b939e33617776b9eacde985b1ab3b73e2e3faa4cced0a87832ba1a52b18516eb", func := "planchet/planchetlaw07.OrderChances", spec := "orderChances", unfollowed := true, recurses := true, named := ["math/bits.deBruijn32tab", "math/bits.deBruijn64tab"], plainKeys := false, apart := false, laid := [("math/bits.deBruijn32tab", laid_math_bits_deBruijn32tab), ("math/bits.deBruijn64tab", laid_math_bits_deBruijn64tab)] }
def OrderChancesSaid : Prop := orderChancesRow.holds Tryd.pinned (OpenSpec.ofChange orderChancesSpec)

/-- ITS FALSE NEIGHBOUR: 'it returns false'. Refute it at one input. -/
def orderChancesWrong : ChangeSpec := { name := "orderChances", fn := fun _ => fun
  | [d1, d2, d3] => { results := [.lit (.bool false)], args := [d1, d2, d3] }
  | _ => none }
def OrderChancesWrongFalsely : Prop := orderChancesRow.holds Tryd.pinned (OpenSpec.ofChange orderChancesWrong)

/-- 'planchetlaw07.OrderLines': WHATEVER THE INPUT: true; the input reads as it did. -/
def orderLinesSpec : ChangeSpec := { name := "orderLines", fn := fun _ => fun
  | [d] => { results := [.lit (.bool true)], args := [d] }
  | _ => none }
def orderLinesRow : OpenClaim := { program := "ytnjacpfahhjpiaadoor", sum := "b939e33617776b9eacde985b1ab3b73e2e3faa4cced0a87832ba1a52b18516eb", func := "planchet/planchetlaw07.OrderLines", spec := "orderLines", unfollowed := true, recurses := true, named := ["math/bits.deBruijn32tab", "math/bits.deBruijn64tab"], plainKeys := false, apart := false, laid := [("math/bits.deBruijn32tab", laid_math_bits_deBruijn32tab), ("math/bits.deBruijn64tab", laid_math_bits_deBruijn64tab)] }
def OrderLinesSaid : Prop := orderLinesRow.holds Tryd.pinned (OpenSpec.ofChange orderLinesSpec)

/-- ITS FALSE NEIGHBOUR: 'it returns false'. Refute it at one input. -/
def orderLinesWrong : ChangeSpec := { name := "orderLines", fn := fun _ => fun
  | [d] => { results := [.lit (.bool false)], args := [d] }
  | _ => none }
def OrderLinesWrongFalsely : Prop := orderLinesRow.holds Tryd.pinned (OpenSpec.ofChange orderLinesWrong)

/-- 'planchetlaw07.OrderMakes': WHATEVER THE INPUT: true; the input reads as it did. -/
def orderMakesSpec : ChangeSpec := { name := "orderMakes", fn := fun _ => fun
  | [d1, d2, d3, d4, d5] => { results := [.lit (.bool true)], args := [d1, d2, d3, d4, d5] }
  | _ => none }
def orderMakesRow : OpenClaim := { program := "ytnjacpfahhjpiaadoor", sum := "b939e33617776b9eacde985b1ab3b73e2e3faa4cced0a87832ba1a52b18516eb", func := "planchet/planchetlaw07.OrderMakes", spec := "orderMakes", unfollowed := true, recurses := true, named := ["math/bits.deBruijn32tab", "math/bits.deBruijn64tab"], plainKeys := false, apart := false, laid := [("math/bits.deBruijn32tab", laid_math_bits_deBruijn32tab), ("math/bits.deBruijn64tab", laid_math_bits_deBruijn64tab)] }
def OrderMakesSaid : Prop := orderMakesRow.holds Tryd.pinned (OpenSpec.ofChange orderMakesSpec)

/-- ITS FALSE NEIGHBOUR: 'it returns false'. Refute it at one input. -/
def orderMakesWrong : ChangeSpec := { name := "orderMakes", fn := fun _ => fun
  | [d1, d2, d3, d4, d5] => { results := [.lit (.bool false)], args := [d1, d2, d3, d4, d5] }
  | _ => none }
def OrderMakesWrongFalsely : Prop := orderMakesRow.holds Tryd.pinned (OpenSpec.ofChange orderMakesWrong)

/-- 'planchetlaw07.OrderClosed': WHATEVER THE INPUT: true; the input reads as it did. -/
def orderClosedSpec : ChangeSpec := { name := "orderClosed", fn := fun _ => fun
  | [d1, d2, d3, d4] => { results := [.lit (.bool true)], args := [d1, d2, d3, d4] }
  | _ => none }
def orderClosedRow : OpenClaim := { program := "ytnjacpfahhjpiaadoor", sum := "b939e33617776b9eacde985b1ab3b73e2e3faa4cced0a87832ba1a52b18516eb", func := "planchet/planchetlaw07.OrderClosed", spec := "orderClosed", unfollowed := true, recurses := true, named := ["math/bits.deBruijn32tab", "math/bits.deBruijn64tab"], plainKeys := false, apart := false, laid := [("math/bits.deBruijn32tab", laid_math_bits_deBruijn32tab), ("math/bits.deBruijn64tab", laid_math_bits_deBruijn64tab)] }
def OrderClosedSaid : Prop := orderClosedRow.holds Tryd.pinned (OpenSpec.ofChange orderClosedSpec)

/-- ITS FALSE NEIGHBOUR: 'it returns false'. Refute it at one input. -/
def orderClosedWrong : ChangeSpec := { name := "orderClosed", fn := fun _ => fun
  | [d1, d2, d3, d4] => { results := [.lit (.bool false)], args := [d1, d2, d3, d4] }
  | _ => none }
def OrderClosedWrongFalsely : Prop := orderClosedRow.holds Tryd.pinned (OpenSpec.ofChange orderClosedWrong)

/-- 'planchetlaw07.OrderSums': WHATEVER THE INPUT: true; the input reads as it did. -/
def orderSumsSpec : ChangeSpec := { name := "orderSums", fn := fun _ => fun
  | [d1, d2, d3] => { results := [.lit (.bool true)], args := [d1, d2, d3] }
  | _ => none }
def orderSumsRow : OpenClaim := { program := "ytnjacpfahhjpiaadoor", sum := "b939e33617776b9eacde985b1ab3b73e2e3faa4cced0a87832ba1a52b18516eb", func := "planchet/planchetlaw07.OrderSums", spec := "orderSums", unfollowed := true, recurses := true, named := ["math/bits.deBruijn32tab", "math/bits.deBruijn64tab"], plainKeys := false, apart := false, laid := [("math/bits.deBruijn32tab", laid_math_bits_deBruijn32tab), ("math/bits.deBruijn64tab", laid_math_bits_deBruijn64tab)] }
def OrderSumsSaid : Prop := orderSumsRow.holds Tryd.pinned (OpenSpec.ofChange orderSumsSpec)

/-- ITS FALSE NEIGHBOUR: 'it returns false'. Refute it at one input. -/
def orderSumsWrong : ChangeSpec := { name := "orderSums", fn := fun _ => fun
  | [d1, d2, d3] => { results := [.lit (.bool false)], args := [d1, d2, d3] }
  | _ => none }
def OrderSumsWrongFalsely : Prop := orderSumsRow.holds Tryd.pinned (OpenSpec.ofChange orderSumsWrong)

/-- 'planchetlaw07.OrderReals': WHATEVER THE INPUT: true; the input reads as it did. -/
def orderRealsSpec : ChangeSpec := { name := "orderReals", fn := fun _ => fun
  | [d] => { results := [.lit (.bool true)], args := [d] }
  | _ => none }
def orderRealsRow : OpenClaim := { program := "ytnjacpfahhjpiaadoor", sum := "b939e33617776b9eacde985b1ab3b73e2e3faa4cced0a87832ba1a52b18516eb", func := "planchet/planchetlaw07.OrderReals", spec := "orderReals", unfollowed := true, recurses := true, named := ["math/bits.deBruijn32tab", "math/bits.deBruijn64tab"], plainKeys := false, apart := false, laid := [("math/bits.deBruijn32tab", laid_math_bits_deBruijn32tab), ("math/bits.deBruijn64tab", laid_math_bits_deBruijn64tab)] }
def OrderRealsSaid : Prop := orderRealsRow.holds Tryd.pinned (OpenSpec.ofChange orderRealsSpec)

/-- ITS FALSE NEIGHBOUR: 'it returns false'. Refute it at one input. -/
def orderRealsWrong : ChangeSpec := { name := "orderReals", fn := fun _ => fun
  | [d] => { results := [.lit (.bool false)], args := [d] }
  | _ => none }
def OrderRealsWrongFalsely : Prop := orderRealsRow.holds Tryd.pinned (OpenSpec.ofChange orderRealsWrong)

/-- 'planchetlaw07.OrderDims': WHATEVER THE INPUT: true; the input reads as it did. -/
def orderDimsSpec : ChangeSpec := { name := "orderDims", fn := fun _ => fun
  | [d] => { results := [.lit (.bool true)], args := [d] }
  | _ => none }
def orderDimsRow : OpenClaim := { program := "ytnjacpfahhjpiaadoor", sum := "b939e33617776b9eacde985b1ab3b73e2e3faa4cced0a87832ba1a52b18516eb", func := "planchet/planchetlaw07.OrderDims", spec := "orderDims", unfollowed := true, recurses := true, named := ["math/bits.deBruijn32tab", "math/bits.deBruijn64tab"], plainKeys := false, apart := false, laid := [("math/bits.deBruijn32tab", laid_math_bits_deBruijn32tab), ("math/bits.deBruijn64tab", laid_math_bits_deBruijn64tab)] }
def OrderDimsSaid : Prop := orderDimsRow.holds Tryd.pinned (OpenSpec.ofChange orderDimsSpec)

/-- ITS FALSE NEIGHBOUR: 'it returns false'. Refute it at one input. -/
def orderDimsWrong : ChangeSpec := { name := "orderDims", fn := fun _ => fun
  | [d] => { results := [.lit (.bool false)], args := [d] }
  | _ => none }
def OrderDimsWrongFalsely : Prop := orderDimsRow.holds Tryd.pinned (OpenSpec.ofChange orderDimsWrong)

/-- 'planchetlaw07.OrderSorts': WHATEVER THE INPUT: true; the input reads as it did. -/
def orderSortsSpec : ChangeSpec := { name := "orderSorts", fn := fun _ => fun
  | [d1, d2] => { results := [.lit (.bool true)], args := [d1, d2] }
  | _ => none }
def orderSortsRow : OpenClaim := { program := "ytnjacpfahhjpiaadoor", sum := "b939e33617776b9eacde985b1ab3b73e2e3faa4cced0a87832ba1a52b18516eb", func := "planchet/planchetlaw07.OrderSorts", spec := "orderSorts", unfollowed := true, recurses := true, named := ["math/bits.deBruijn32tab", "math/bits.deBruijn64tab"], plainKeys := false, apart := false, laid := [("math/bits.deBruijn32tab", laid_math_bits_deBruijn32tab), ("math/bits.deBruijn64tab", laid_math_bits_deBruijn64tab)] }
def OrderSortsSaid : Prop := orderSortsRow.holds Tryd.pinned (OpenSpec.ofChange orderSortsSpec)

/-- ITS FALSE NEIGHBOUR: 'it returns false'. Refute it at one input. -/
def orderSortsWrong : ChangeSpec := { name := "orderSorts", fn := fun _ => fun
  | [d1, d2] => { results := [.lit (.bool false)], args := [d1, d2] }
  | _ => none }
def OrderSortsWrongFalsely : Prop := orderSortsRow.holds Tryd.pinned (OpenSpec.ofChange orderSortsWrong)

/-- 'planchetlaw07.OrderNeeds': WHATEVER THE INPUT: true; the input reads as it did. -/
def orderNeedsSpec : ChangeSpec := { name := "orderNeeds", fn := fun _ => fun
  | [d1, d2, d3] => { results := [.lit (.bool true)], args := [d1, d2, d3] }
  | _ => none }
def orderNeedsRow : OpenClaim := { program := "ytnjacpfahhjpiaadoor", sum := "b939e33617776b9eacde985b1ab3b73e2e3faa4cced0a87832ba1a52b18516eb", func := "planchet/planchetlaw07.OrderNeeds", spec := "orderNeeds", unfollowed := true, recurses := true, named := ["math/bits.deBruijn32tab", "math/bits.deBruijn64tab"], plainKeys := false, apart := false, laid := [("math/bits.deBruijn32tab", laid_math_bits_deBruijn32tab), ("math/bits.deBruijn64tab", laid_math_bits_deBruijn64tab)] }
def OrderNeedsSaid : Prop := orderNeedsRow.holds Tryd.pinned (OpenSpec.ofChange orderNeedsSpec)

/-- ITS FALSE NEIGHBOUR: 'it returns false'. Refute it at one input. -/
def orderNeedsWrong : ChangeSpec := { name := "orderNeeds", fn := fun _ => fun
  | [d1, d2, d3] => { results := [.lit (.bool false)], args := [d1, d2, d3] }
  | _ => none }
def OrderNeedsWrongFalsely : Prop := orderNeedsRow.holds Tryd.pinned (OpenSpec.ofChange orderNeedsWrong)

/-- 'planchetlaw07.OrderTurned': WHATEVER THE INPUT: true; the input reads as it did. -/
def orderTurnedSpec : ChangeSpec := { name := "orderTurned", fn := fun _ => fun
  | [d1, d2] => { results := [.lit (.bool true)], args := [d1, d2] }
  | _ => none }
def orderTurnedRow : OpenClaim := { program := "ytnjacpfahhjpiaadoor", sum := "b939e33617776b9eacde985b1ab3b73e2e3faa4cced0a87832ba1a52b18516eb", func := "planchet/planchetlaw07.OrderTurned", spec := "orderTurned", unfollowed := true, recurses := true, named := ["math/bits.deBruijn32tab", "math/bits.deBruijn64tab"], plainKeys := false, apart := false, laid := [("math/bits.deBruijn32tab", laid_math_bits_deBruijn32tab), ("math/bits.deBruijn64tab", laid_math_bits_deBruijn64tab)] }
def OrderTurnedSaid : Prop := orderTurnedRow.holds Tryd.pinned (OpenSpec.ofChange orderTurnedSpec)

/-- ITS FALSE NEIGHBOUR: 'it returns false'. Refute it at one input. -/
def orderTurnedWrong : ChangeSpec := { name := "orderTurned", fn := fun _ => fun
  | [d1, d2] => { results := [.lit (.bool false)], args := [d1, d2] }
  | _ => none }
def OrderTurnedWrongFalsely : Prop := orderTurnedRow.holds Tryd.pinned (OpenSpec.ofChange orderTurnedWrong)

/-- 'planchetlaw07.OrderDilworth': WHATEVER THE INPUT: true; the input reads as it did. -/
def orderDilworthSpec : ChangeSpec := { name := "orderDilworth", fn := fun _ => fun
  | [d] => { results := [.lit (.bool true)], args := [d] }
  | _ => none }
def orderDilworthRow : OpenClaim := { program := "ytnjacpfahhjpiaadoor", sum := "b939e33617776b9eacde985b1ab3b73e2e3faa4cced0a87832ba1a52b18516eb", func := "planchet/planchetlaw07.OrderDilworth", spec := "orderDilworth", unfollowed := true, recurses := true, named := ["math/bits.deBruijn32tab", "math/bits.deBruijn64tab"], plainKeys := false, apart := false, laid := [("math/bits.deBruijn32tab", laid_math_bits_deBruijn32tab), ("math/bits.deBruijn64tab", laid_math_bits_deBruijn64tab)] }
def OrderDilworthSaid : Prop := orderDilworthRow.holds Tryd.pinned (OpenSpec.ofChange orderDilworthSpec)

/-- ITS FALSE NEIGHBOUR: 'it returns false'. Refute it at one input. -/
def orderDilworthWrong : ChangeSpec := { name := "orderDilworth", fn := fun _ => fun
  | [d] => { results := [.lit (.bool false)], args := [d] }
  | _ => none }
def OrderDilworthWrongFalsely : Prop := orderDilworthRow.holds Tryd.pinned (OpenSpec.ofChange orderDilworthWrong)

/-- 'planchetlaw07.OrderChains': WHATEVER THE INPUT: true; the input reads as it did. -/
def orderChainsSpec : ChangeSpec := { name := "orderChains", fn := fun _ => fun
  | [d] => { results := [.lit (.bool true)], args := [d] }
  | _ => none }
def orderChainsRow : OpenClaim := { program := "ytnjacpfahhjpiaadoor", sum := "b939e33617776b9eacde985b1ab3b73e2e3faa4cced0a87832ba1a52b18516eb", func := "planchet/planchetlaw07.OrderChains", spec := "orderChains", unfollowed := true, recurses := true, named := ["math/bits.deBruijn32tab", "math/bits.deBruijn64tab"], plainKeys := false, apart := false, laid := [("math/bits.deBruijn32tab", laid_math_bits_deBruijn32tab), ("math/bits.deBruijn64tab", laid_math_bits_deBruijn64tab)] }
def OrderChainsSaid : Prop := orderChainsRow.holds Tryd.pinned (OpenSpec.ofChange orderChainsSpec)

/-- ITS FALSE NEIGHBOUR: 'it returns false'. Refute it at one input. -/
def orderChainsWrong : ChangeSpec := { name := "orderChains", fn := fun _ => fun
  | [d] => { results := [.lit (.bool false)], args := [d] }
  | _ => none }
def OrderChainsWrongFalsely : Prop := orderChainsRow.holds Tryd.pinned (OpenSpec.ofChange orderChainsWrong)

/- THE SECOND FORM. 'bulk': how many values and letters a reading holds, each counted each time it is reached (what is shared counts as often as it is met; a slice's spare places count too). A statement '..UptoSaid' is the law's where the arguments, and the package variables that the reading takes, are together of bulk at most 1048576: NARROWER than '..Said'. Prove '..Said' where nothing that the law and all that it calls make is longer than what came in: it says more and counts as full. Else prove '..UptoSaid'. A law counts once. -/
mutual
def uptoBulk {H : Type} : DataW H → Nat
  | .lit (.string bytes) => bytes.length + 1
  | .lit _ => 1
  | .nil => 1
  | .ptr d => uptoBulk d + 1
  | .slice elems spare => uptoBulkAll elems + uptoBulkAll spare + 1
  | .agg parts => uptoBulkAll parts + 1
  | .iface _ d => uptoBulk d + 1
  | .map entries => uptoBulkEntries entries + 1
  | .held _ => 1
def uptoBulkAll {H : Type} : List (DataW H) → Nat
  | [] => 0
  | d :: r => uptoBulk d + uptoBulkAll r
def uptoBulkEntries {H : Type} : List (Lit × DataW H) → Nat
  | [] => 0
  | x :: r => uptoBulkEntry x + uptoBulkEntries r
def uptoBulkEntry {H : Type} : Lit × DataW H → Nat
  | (.string bytes, d) => bytes.length + uptoBulk d + 1
  | (_, d) => uptoBulk d + 1
 end
def uptoSmall : (H : Type) → List (DataW H) → Bool := fun _ ds => decide (uptoBulkAll ds ≤ 1048576)
def OpenSpec.upto (s : _root_.Go.ChangeSpec) : _root_.Go.OpenSpec := { _root_.Go.OpenSpec.ofChange s with cond := some uptoSmall }

/-- 'planchetlaw07.OrderCounts', WHERE WHAT IT READS IS OF BULK AT MOST 1048576: true; the input reads as it did. -/
def orderCountsUptoRow : OpenClaim := { program := "ytnjacpfahhjpiaadoor", sum := "b939e33617776b9eacde985b1ab3b73e2e3faa4cced0a87832ba1a52b18516eb", func := "planchet/planchetlaw07.OrderCounts", spec := "orderCounts", unfollowed := true, recurses := true, named := ["math/bits.deBruijn32tab", "math/bits.deBruijn64tab"], plainKeys := false, apart := false, laid := [("math/bits.deBruijn32tab", laid_math_bits_deBruijn32tab), ("math/bits.deBruijn64tab", laid_math_bits_deBruijn64tab)], narrowed := true }
def OrderCountsUptoSaid : Prop := orderCountsUptoRow.holds Tryd.pinned (OpenSpec.upto orderCountsSpec)

/-- 'planchetlaw07.OrderEven', WHERE WHAT IT READS IS OF BULK AT MOST 1048576: true; the input reads as it did. -/
def orderEvenUptoRow : OpenClaim := { program := "ytnjacpfahhjpiaadoor", sum := "b939e33617776b9eacde985b1ab3b73e2e3faa4cced0a87832ba1a52b18516eb", func := "planchet/planchetlaw07.OrderEven", spec := "orderEven", unfollowed := true, recurses := true, named := ["math/bits.deBruijn32tab", "math/bits.deBruijn64tab"], plainKeys := false, apart := false, laid := [("math/bits.deBruijn32tab", laid_math_bits_deBruijn32tab), ("math/bits.deBruijn64tab", laid_math_bits_deBruijn64tab)], narrowed := true }
def OrderEvenUptoSaid : Prop := orderEvenUptoRow.holds Tryd.pinned (OpenSpec.upto orderEvenSpec)

/-- 'planchetlaw07.OrderChances', WHERE WHAT IT READS IS OF BULK AT MOST 1048576: true; the input reads as it did. -/
def orderChancesUptoRow : OpenClaim := { program := "ytnjacpfahhjpiaadoor", sum := "b939e33617776b9eacde985b1ab3b73e2e3faa4cced0a87832ba1a52b18516eb", func := "planchet/planchetlaw07.OrderChances", spec := "orderChances", unfollowed := true, recurses := true, named := ["math/bits.deBruijn32tab", "math/bits.deBruijn64tab"], plainKeys := false, apart := false, laid := [("math/bits.deBruijn32tab", laid_math_bits_deBruijn32tab), ("math/bits.deBruijn64tab", laid_math_bits_deBruijn64tab)], narrowed := true }
def OrderChancesUptoSaid : Prop := orderChancesUptoRow.holds Tryd.pinned (OpenSpec.upto orderChancesSpec)

/-- 'planchetlaw07.OrderLines', WHERE WHAT IT READS IS OF BULK AT MOST 1048576: true; the input reads as it did. -/
def orderLinesUptoRow : OpenClaim := { program := "ytnjacpfahhjpiaadoor", sum := "b939e33617776b9eacde985b1ab3b73e2e3faa4cced0a87832ba1a52b18516eb", func := "planchet/planchetlaw07.OrderLines", spec := "orderLines", unfollowed := true, recurses := true, named := ["math/bits.deBruijn32tab", "math/bits.deBruijn64tab"], plainKeys := false, apart := false, laid := [("math/bits.deBruijn32tab", laid_math_bits_deBruijn32tab), ("math/bits.deBruijn64tab", laid_math_bits_deBruijn64tab)], narrowed := true }
def OrderLinesUptoSaid : Prop := orderLinesUptoRow.holds Tryd.pinned (OpenSpec.upto orderLinesSpec)

/-- 'planchetlaw07.OrderMakes', WHERE WHAT IT READS IS OF BULK AT MOST 1048576: true; the input reads as it did. -/
def orderMakesUptoRow : OpenClaim := { program := "ytnjacpfahhjpiaadoor", sum := "b939e33617776b9eacde985b1ab3b73e2e3faa4cced0a87832ba1a52b18516eb", func := "planchet/planchetlaw07.OrderMakes", spec := "orderMakes", unfollowed := true, recurses := true, named := ["math/bits.deBruijn32tab", "math/bits.deBruijn64tab"], plainKeys := false, apart := false, laid := [("math/bits.deBruijn32tab", laid_math_bits_deBruijn32tab), ("math/bits.deBruijn64tab", laid_math_bits_deBruijn64tab)], narrowed := true }
def OrderMakesUptoSaid : Prop := orderMakesUptoRow.holds Tryd.pinned (OpenSpec.upto orderMakesSpec)

/-- 'planchetlaw07.OrderClosed', WHERE WHAT IT READS IS OF BULK AT MOST 1048576: true; the input reads as it did. -/
def orderClosedUptoRow : OpenClaim := { program := "ytnjacpfahhjpiaadoor", sum := "b939e33617776b9eacde985b1ab3b73e2e3faa4cced0a87832ba1a52b18516eb", func := "planchet/planchetlaw07.OrderClosed", spec := "orderClosed", unfollowed := true, recurses := true, named := ["math/bits.deBruijn32tab", "math/bits.deBruijn64tab"], plainKeys := false, apart := false, laid := [("math/bits.deBruijn32tab", laid_math_bits_deBruijn32tab), ("math/bits.deBruijn64tab", laid_math_bits_deBruijn64tab)], narrowed := true }
def OrderClosedUptoSaid : Prop := orderClosedUptoRow.holds Tryd.pinned (OpenSpec.upto orderClosedSpec)

/-- 'planchetlaw07.OrderSums', WHERE WHAT IT READS IS OF BULK AT MOST 1048576: true; the input reads as it did. -/
def orderSumsUptoRow : OpenClaim := { program := "ytnjacpfahhjpiaadoor", sum := "b939e33617776b9eacde985b1ab3b73e2e3faa4cced0a87832ba1a52b18516eb", func := "planchet/planchetlaw07.OrderSums", spec := "orderSums", unfollowed := true, recurses := true, named := ["math/bits.deBruijn32tab", "math/bits.deBruijn64tab"], plainKeys := false, apart := false, laid := [("math/bits.deBruijn32tab", laid_math_bits_deBruijn32tab), ("math/bits.deBruijn64tab", laid_math_bits_deBruijn64tab)], narrowed := true }
def OrderSumsUptoSaid : Prop := orderSumsUptoRow.holds Tryd.pinned (OpenSpec.upto orderSumsSpec)

/-- 'planchetlaw07.OrderReals', WHERE WHAT IT READS IS OF BULK AT MOST 1048576: true; the input reads as it did. -/
def orderRealsUptoRow : OpenClaim := { program := "ytnjacpfahhjpiaadoor", sum := "b939e33617776b9eacde985b1ab3b73e2e3faa4cced0a87832ba1a52b18516eb", func := "planchet/planchetlaw07.OrderReals", spec := "orderReals", unfollowed := true, recurses := true, named := ["math/bits.deBruijn32tab", "math/bits.deBruijn64tab"], plainKeys := false, apart := false, laid := [("math/bits.deBruijn32tab", laid_math_bits_deBruijn32tab), ("math/bits.deBruijn64tab", laid_math_bits_deBruijn64tab)], narrowed := true }
def OrderRealsUptoSaid : Prop := orderRealsUptoRow.holds Tryd.pinned (OpenSpec.upto orderRealsSpec)

/-- 'planchetlaw07.OrderDims', WHERE WHAT IT READS IS OF BULK AT MOST 1048576: true; the input reads as it did. -/
def orderDimsUptoRow : OpenClaim := { program := "ytnjacpfahhjpiaadoor", sum := "b939e33617776b9eacde985b1ab3b73e2e3faa4cced0a87832ba1a52b18516eb", func := "planchet/planchetlaw07.OrderDims", spec := "orderDims", unfollowed := true, recurses := true, named := ["math/bits.deBruijn32tab", "math/bits.deBruijn64tab"], plainKeys := false, apart := false, laid := [("math/bits.deBruijn32tab", laid_math_bits_deBruijn32tab), ("math/bits.deBruijn64tab", laid_math_bits_deBruijn64tab)], narrowed := true }
def OrderDimsUptoSaid : Prop := orderDimsUptoRow.holds Tryd.pinned (OpenSpec.upto orderDimsSpec)

/-- 'planchetlaw07.OrderSorts', WHERE WHAT IT READS IS OF BULK AT MOST 1048576: true; the input reads as it did. -/
def orderSortsUptoRow : OpenClaim := { program := "ytnjacpfahhjpiaadoor", sum := "b939e33617776b9eacde985b1ab3b73e2e3faa4cced0a87832ba1a52b18516eb", func := "planchet/planchetlaw07.OrderSorts", spec := "orderSorts", unfollowed := true, recurses := true, named := ["math/bits.deBruijn32tab", "math/bits.deBruijn64tab"], plainKeys := false, apart := false, laid := [("math/bits.deBruijn32tab", laid_math_bits_deBruijn32tab), ("math/bits.deBruijn64tab", laid_math_bits_deBruijn64tab)], narrowed := true }
def OrderSortsUptoSaid : Prop := orderSortsUptoRow.holds Tryd.pinned (OpenSpec.upto orderSortsSpec)

/-- 'planchetlaw07.OrderNeeds', WHERE WHAT IT READS IS OF BULK AT MOST 1048576: true; the input reads as it did. -/
def orderNeedsUptoRow : OpenClaim := { program := "ytnjacpfahhjpiaadoor", sum := "b939e33617776b9eacde985b1ab3b73e2e3faa4cced0a87832ba1a52b18516eb", func := "planchet/planchetlaw07.OrderNeeds", spec := "orderNeeds", unfollowed := true, recurses := true, named := ["math/bits.deBruijn32tab", "math/bits.deBruijn64tab"], plainKeys := false, apart := false, laid := [("math/bits.deBruijn32tab", laid_math_bits_deBruijn32tab), ("math/bits.deBruijn64tab", laid_math_bits_deBruijn64tab)], narrowed := true }
def OrderNeedsUptoSaid : Prop := orderNeedsUptoRow.holds Tryd.pinned (OpenSpec.upto orderNeedsSpec)

/-- 'planchetlaw07.OrderTurned', WHERE WHAT IT READS IS OF BULK AT MOST 1048576: true; the input reads as it did. -/
def orderTurnedUptoRow : OpenClaim := { program := "ytnjacpfahhjpiaadoor", sum := "b939e33617776b9eacde985b1ab3b73e2e3faa4cced0a87832ba1a52b18516eb", func := "planchet/planchetlaw07.OrderTurned", spec := "orderTurned", unfollowed := true, recurses := true, named := ["math/bits.deBruijn32tab", "math/bits.deBruijn64tab"], plainKeys := false, apart := false, laid := [("math/bits.deBruijn32tab", laid_math_bits_deBruijn32tab), ("math/bits.deBruijn64tab", laid_math_bits_deBruijn64tab)], narrowed := true }
def OrderTurnedUptoSaid : Prop := orderTurnedUptoRow.holds Tryd.pinned (OpenSpec.upto orderTurnedSpec)

/-- 'planchetlaw07.OrderDilworth', WHERE WHAT IT READS IS OF BULK AT MOST 1048576: true; the input reads as it did. -/
def orderDilworthUptoRow : OpenClaim := { program := "ytnjacpfahhjpiaadoor", sum := "b939e33617776b9eacde985b1ab3b73e2e3faa4cced0a87832ba1a52b18516eb", func := "planchet/planchetlaw07.OrderDilworth", spec := "orderDilworth", unfollowed := true, recurses := true, named := ["math/bits.deBruijn32tab", "math/bits.deBruijn64tab"], plainKeys := false, apart := false, laid := [("math/bits.deBruijn32tab", laid_math_bits_deBruijn32tab), ("math/bits.deBruijn64tab", laid_math_bits_deBruijn64tab)], narrowed := true }
def OrderDilworthUptoSaid : Prop := orderDilworthUptoRow.holds Tryd.pinned (OpenSpec.upto orderDilworthSpec)

/-- 'planchetlaw07.OrderChains', WHERE WHAT IT READS IS OF BULK AT MOST 1048576: true; the input reads as it did. -/
def orderChainsUptoRow : OpenClaim := { program := "ytnjacpfahhjpiaadoor", sum := "b939e33617776b9eacde985b1ab3b73e2e3faa4cced0a87832ba1a52b18516eb", func := "planchet/planchetlaw07.OrderChains", spec := "orderChains", unfollowed := true, recurses := true, named := ["math/bits.deBruijn32tab", "math/bits.deBruijn64tab"], plainKeys := false, apart := false, laid := [("math/bits.deBruijn32tab", laid_math_bits_deBruijn32tab), ("math/bits.deBruijn64tab", laid_math_bits_deBruijn64tab)], narrowed := true }
def OrderChainsUptoSaid : Prop := orderChainsUptoRow.holds Tryd.pinned (OpenSpec.upto orderChainsSpec)

end Rows
end Go.Proofs.YtnjacpfahhjpiaaDoor
