/-
  NARROWER THAN 'FOR EVERY INPUT', by the rows' own cells (each row's printed sentence says how): SureCodes: laid · SureLonger: laid · SureCliques: laid · SureJoins: laid · SurePairs: laid · SureMore: laid · SureWeighs: laid · SureLight: laid · SureMultiplies: laid · SureConfuses: laid · SureBack: laid · SureFits: laid · SureBounds: laid · SureFive: laid.
  DERIVED. THE GIVEN ROWS OF THIS SEAT. 14 by the template 'for every input the law returns true; each argument reads behind the call as it read before'; 0 by the template 'total and deterministic' (their statements: YtaagkbbphgdcdaaDoorTotals.lean).
  GIVEN WITH THE SEED: the statements are not yours to turn. If you find one false, say at which input.
  Laid BY PROGRAM, IN A SANDBOX (cutbox-rows.mjs): the forced cells as the released guide's own fill.sh prints them over the translation 358d7bcf5ad9a368… (all of the seat's roots in one cut). By AI agents, Wed Nov 11 2026. No macro, syntax, notation, axiom, sorry.
-/
import Derived.Test.YtaagkbbphgdcdaaDoorChecked
import GoSem.Claim
import GoSem.ClaimJoined
import GoSem.ClaimMapViews
import Derived.JoinedTies
import Derived.KernelRfl
namespace Go.Proofs.YtaagkbbphgdcdaaDoor
/- THE CELL 'sum', in the pinned program and in every row, IS THE sha256 OF THE DUMP (.gsa) THAT YtaagkbbphgdcdaaDoorProg.lean LOADS. Nothing in Lean hashes anything: it is a label: what it is worth is what the hold of that sum in a sandbox is worth. -/
noncomputable def Tryd.pinned : Pinned := { name := "ytaagkbbphgdcdaadoor", sum := "358d7bcf5ad9a3682abac82764b1de2b3ad33aef6dc9851f808f88b5bd1b8202", checked := Tryd.checked }
namespace Rows
def none {H : Type} : Left H := { results := [], args := [] }

/- WHAT THE LISTED PACKAGE-LEVEL VARIABLES READ AS WHEN THE CALL BEGINS. Each datum BY PROGRAM (the guide's laid-datum.mjs) off the statement by which the dump's own 'gosem.cut.vars' lays the variable. In a bare row this is a premise. The card (YtaagkbbphgdcdaaDoorCards.lean) ties it to the program's text. -/
def laid_math_bits_deBruijn64tab {H : Type} : DataW H := .agg [.lit (.int .u8 0), .lit (.int .u8 1), .lit (.int .u8 56), .lit (.int .u8 2), .lit (.int .u8 57), .lit (.int .u8 49), .lit (.int .u8 28), .lit (.int .u8 3), .lit (.int .u8 61), .lit (.int .u8 58), .lit (.int .u8 42), .lit (.int .u8 50), .lit (.int .u8 38), .lit (.int .u8 29), .lit (.int .u8 17), .lit (.int .u8 4), .lit (.int .u8 62), .lit (.int .u8 47), .lit (.int .u8 59), .lit (.int .u8 36), .lit (.int .u8 45), .lit (.int .u8 43), .lit (.int .u8 51), .lit (.int .u8 22), .lit (.int .u8 53), .lit (.int .u8 39), .lit (.int .u8 33), .lit (.int .u8 30), .lit (.int .u8 24), .lit (.int .u8 18), .lit (.int .u8 12), .lit (.int .u8 5), .lit (.int .u8 63), .lit (.int .u8 55), .lit (.int .u8 48), .lit (.int .u8 27), .lit (.int .u8 60), .lit (.int .u8 41), .lit (.int .u8 37), .lit (.int .u8 16), .lit (.int .u8 46), .lit (.int .u8 35), .lit (.int .u8 44), .lit (.int .u8 21), .lit (.int .u8 52), .lit (.int .u8 32), .lit (.int .u8 23), .lit (.int .u8 11), .lit (.int .u8 54), .lit (.int .u8 26), .lit (.int .u8 40), .lit (.int .u8 15), .lit (.int .u8 34), .lit (.int .u8 20), .lit (.int .u8 31), .lit (.int .u8 10), .lit (.int .u8 25), .lit (.int .u8 14), .lit (.int .u8 19), .lit (.int .u8 9), .lit (.int .u8 13), .lit (.int .u8 8), .lit (.int .u8 7), .lit (.int .u8 6)]

/-- 'planchetlaw05.SureCodes': WHATEVER THE INPUT: true; the input reads as it did. -/
def sureCodesSpec : ChangeSpec := { name := "sureCodes", fn := fun _ => fun
  | [d1, d2, d3] => { results := [.lit (.bool true)], args := [d1, d2, d3] }
  | _ => none }
def sureCodesRow : OpenClaim := { program := "ytaagkbbphgdcdaadoor", sum := "358d7bcf5ad9a3682abac82764b1de2b3ad33aef6dc9851f808f88b5bd1b8202", func := "planchet/planchetlaw05.SureCodes", spec := "sureCodes", recurses := true, named := ["math/bits.deBruijn64tab"], apart := false, laid := [("math/bits.deBruijn64tab", laid_math_bits_deBruijn64tab)] }
def SureCodesSaid : Prop := sureCodesRow.holds Tryd.pinned (OpenSpec.ofChange sureCodesSpec)

/-- ITS FALSE NEIGHBOUR: 'it returns false'. Refute it at one input. -/
def sureCodesWrong : ChangeSpec := { name := "sureCodes", fn := fun _ => fun
  | [d1, d2, d3] => { results := [.lit (.bool false)], args := [d1, d2, d3] }
  | _ => none }
def SureCodesWrongFalsely : Prop := sureCodesRow.holds Tryd.pinned (OpenSpec.ofChange sureCodesWrong)

/-- 'planchetlaw05.SureLonger': WHATEVER THE INPUT: true; the input reads as it did. -/
def sureLongerSpec : ChangeSpec := { name := "sureLonger", fn := fun _ => fun
  | [d1, d2, d3, d4] => { results := [.lit (.bool true)], args := [d1, d2, d3, d4] }
  | _ => none }
def sureLongerRow : OpenClaim := { program := "ytaagkbbphgdcdaadoor", sum := "358d7bcf5ad9a3682abac82764b1de2b3ad33aef6dc9851f808f88b5bd1b8202", func := "planchet/planchetlaw05.SureLonger", spec := "sureLonger", recurses := true, named := ["math/bits.deBruijn64tab"], apart := false, laid := [("math/bits.deBruijn64tab", laid_math_bits_deBruijn64tab)] }
def SureLongerSaid : Prop := sureLongerRow.holds Tryd.pinned (OpenSpec.ofChange sureLongerSpec)

/-- ITS FALSE NEIGHBOUR: 'it returns false'. Refute it at one input. -/
def sureLongerWrong : ChangeSpec := { name := "sureLonger", fn := fun _ => fun
  | [d1, d2, d3, d4] => { results := [.lit (.bool false)], args := [d1, d2, d3, d4] }
  | _ => none }
def SureLongerWrongFalsely : Prop := sureLongerRow.holds Tryd.pinned (OpenSpec.ofChange sureLongerWrong)

/-- 'planchetlaw05.SureCliques': WHATEVER THE INPUT: true; the input reads as it did. -/
def sureCliquesSpec : ChangeSpec := { name := "sureCliques", fn := fun _ => fun
  | [d] => { results := [.lit (.bool true)], args := [d] }
  | _ => none }
def sureCliquesRow : OpenClaim := { program := "ytaagkbbphgdcdaadoor", sum := "358d7bcf5ad9a3682abac82764b1de2b3ad33aef6dc9851f808f88b5bd1b8202", func := "planchet/planchetlaw05.SureCliques", spec := "sureCliques", recurses := true, named := ["math/bits.deBruijn64tab"], apart := false, laid := [("math/bits.deBruijn64tab", laid_math_bits_deBruijn64tab)] }
def SureCliquesSaid : Prop := sureCliquesRow.holds Tryd.pinned (OpenSpec.ofChange sureCliquesSpec)

/-- ITS FALSE NEIGHBOUR: 'it returns false'. Refute it at one input. -/
def sureCliquesWrong : ChangeSpec := { name := "sureCliques", fn := fun _ => fun
  | [d] => { results := [.lit (.bool false)], args := [d] }
  | _ => none }
def SureCliquesWrongFalsely : Prop := sureCliquesRow.holds Tryd.pinned (OpenSpec.ofChange sureCliquesWrong)

/-- 'planchetlaw05.SureJoins': WHATEVER THE INPUT: true; the input reads as it did. -/
def sureJoinsSpec : ChangeSpec := { name := "sureJoins", fn := fun _ => fun
  | [d1, d2] => { results := [.lit (.bool true)], args := [d1, d2] }
  | _ => none }
def sureJoinsRow : OpenClaim := { program := "ytaagkbbphgdcdaadoor", sum := "358d7bcf5ad9a3682abac82764b1de2b3ad33aef6dc9851f808f88b5bd1b8202", func := "planchet/planchetlaw05.SureJoins", spec := "sureJoins", unfollowed := true, recurses := true, named := ["math/bits.deBruijn64tab"], apart := false, laid := [("math/bits.deBruijn64tab", laid_math_bits_deBruijn64tab)] }
def SureJoinsSaid : Prop := sureJoinsRow.holds Tryd.pinned (OpenSpec.ofChange sureJoinsSpec)

/-- ITS FALSE NEIGHBOUR: 'it returns false'. Refute it at one input. -/
def sureJoinsWrong : ChangeSpec := { name := "sureJoins", fn := fun _ => fun
  | [d1, d2] => { results := [.lit (.bool false)], args := [d1, d2] }
  | _ => none }
def SureJoinsWrongFalsely : Prop := sureJoinsRow.holds Tryd.pinned (OpenSpec.ofChange sureJoinsWrong)

/-- 'planchetlaw05.SurePairs': WHATEVER THE INPUT: true; the input reads as it did. -/
def surePairsSpec : ChangeSpec := { name := "surePairs", fn := fun _ => fun
  | [d1, d2] => { results := [.lit (.bool true)], args := [d1, d2] }
  | _ => none }
def surePairsRow : OpenClaim := { program := "ytaagkbbphgdcdaadoor", sum := "358d7bcf5ad9a3682abac82764b1de2b3ad33aef6dc9851f808f88b5bd1b8202", func := "planchet/planchetlaw05.SurePairs", spec := "surePairs", unfollowed := true, recurses := true, named := ["math/bits.deBruijn64tab"], apart := false, laid := [("math/bits.deBruijn64tab", laid_math_bits_deBruijn64tab)] }
def SurePairsSaid : Prop := surePairsRow.holds Tryd.pinned (OpenSpec.ofChange surePairsSpec)

/-- ITS FALSE NEIGHBOUR: 'it returns false'. Refute it at one input. -/
def surePairsWrong : ChangeSpec := { name := "surePairs", fn := fun _ => fun
  | [d1, d2] => { results := [.lit (.bool false)], args := [d1, d2] }
  | _ => none }
def SurePairsWrongFalsely : Prop := surePairsRow.holds Tryd.pinned (OpenSpec.ofChange surePairsWrong)

/-- 'planchetlaw05.SureMore': WHATEVER THE INPUT: true; the input reads as it did. -/
def sureMoreSpec : ChangeSpec := { name := "sureMore", fn := fun _ => fun
  | [d1, d2, d3, d4] => { results := [.lit (.bool true)], args := [d1, d2, d3, d4] }
  | _ => none }
def sureMoreRow : OpenClaim := { program := "ytaagkbbphgdcdaadoor", sum := "358d7bcf5ad9a3682abac82764b1de2b3ad33aef6dc9851f808f88b5bd1b8202", func := "planchet/planchetlaw05.SureMore", spec := "sureMore", unfollowed := true, recurses := true, named := ["math/bits.deBruijn64tab"], apart := false, laid := [("math/bits.deBruijn64tab", laid_math_bits_deBruijn64tab)] }
def SureMoreSaid : Prop := sureMoreRow.holds Tryd.pinned (OpenSpec.ofChange sureMoreSpec)

/-- ITS FALSE NEIGHBOUR: 'it returns false'. Refute it at one input. -/
def sureMoreWrong : ChangeSpec := { name := "sureMore", fn := fun _ => fun
  | [d1, d2, d3, d4] => { results := [.lit (.bool false)], args := [d1, d2, d3, d4] }
  | _ => none }
def SureMoreWrongFalsely : Prop := sureMoreRow.holds Tryd.pinned (OpenSpec.ofChange sureMoreWrong)

/-- 'planchetlaw05.SureWeighs': WHATEVER THE INPUT: true; the input reads as it did. -/
def sureWeighsSpec : ChangeSpec := { name := "sureWeighs", fn := fun _ => fun
  | [d1, d2] => { results := [.lit (.bool true)], args := [d1, d2] }
  | _ => none }
def sureWeighsRow : OpenClaim := { program := "ytaagkbbphgdcdaadoor", sum := "358d7bcf5ad9a3682abac82764b1de2b3ad33aef6dc9851f808f88b5bd1b8202", func := "planchet/planchetlaw05.SureWeighs", spec := "sureWeighs", unfollowed := true, recurses := true, named := ["math/bits.deBruijn64tab"], apart := false, laid := [("math/bits.deBruijn64tab", laid_math_bits_deBruijn64tab)] }
def SureWeighsSaid : Prop := sureWeighsRow.holds Tryd.pinned (OpenSpec.ofChange sureWeighsSpec)

/-- ITS FALSE NEIGHBOUR: 'it returns false'. Refute it at one input. -/
def sureWeighsWrong : ChangeSpec := { name := "sureWeighs", fn := fun _ => fun
  | [d1, d2] => { results := [.lit (.bool false)], args := [d1, d2] }
  | _ => none }
def SureWeighsWrongFalsely : Prop := sureWeighsRow.holds Tryd.pinned (OpenSpec.ofChange sureWeighsWrong)

/-- 'planchetlaw05.SureLight': WHATEVER THE INPUT: true; the input reads as it did. -/
def sureLightSpec : ChangeSpec := { name := "sureLight", fn := fun _ => fun
  | [d1, d2] => { results := [.lit (.bool true)], args := [d1, d2] }
  | _ => none }
def sureLightRow : OpenClaim := { program := "ytaagkbbphgdcdaadoor", sum := "358d7bcf5ad9a3682abac82764b1de2b3ad33aef6dc9851f808f88b5bd1b8202", func := "planchet/planchetlaw05.SureLight", spec := "sureLight", unfollowed := true, recurses := true, named := ["math/bits.deBruijn64tab"], apart := false, laid := [("math/bits.deBruijn64tab", laid_math_bits_deBruijn64tab)] }
def SureLightSaid : Prop := sureLightRow.holds Tryd.pinned (OpenSpec.ofChange sureLightSpec)

/-- ITS FALSE NEIGHBOUR: 'it returns false'. Refute it at one input. -/
def sureLightWrong : ChangeSpec := { name := "sureLight", fn := fun _ => fun
  | [d1, d2] => { results := [.lit (.bool false)], args := [d1, d2] }
  | _ => none }
def SureLightWrongFalsely : Prop := sureLightRow.holds Tryd.pinned (OpenSpec.ofChange sureLightWrong)

/-- 'planchetlaw05.SureMultiplies': WHATEVER THE INPUT: true; the input reads as it did. -/
def sureMultipliesSpec : ChangeSpec := { name := "sureMultiplies", fn := fun _ => fun
  | [d1, d2] => { results := [.lit (.bool true)], args := [d1, d2] }
  | _ => none }
def sureMultipliesRow : OpenClaim := { program := "ytaagkbbphgdcdaadoor", sum := "358d7bcf5ad9a3682abac82764b1de2b3ad33aef6dc9851f808f88b5bd1b8202", func := "planchet/planchetlaw05.SureMultiplies", spec := "sureMultiplies", unfollowed := true, recurses := true, named := ["math/bits.deBruijn64tab"], apart := false, laid := [("math/bits.deBruijn64tab", laid_math_bits_deBruijn64tab)] }
def SureMultipliesSaid : Prop := sureMultipliesRow.holds Tryd.pinned (OpenSpec.ofChange sureMultipliesSpec)

/-- ITS FALSE NEIGHBOUR: 'it returns false'. Refute it at one input. -/
def sureMultipliesWrong : ChangeSpec := { name := "sureMultiplies", fn := fun _ => fun
  | [d1, d2] => { results := [.lit (.bool false)], args := [d1, d2] }
  | _ => none }
def SureMultipliesWrongFalsely : Prop := sureMultipliesRow.holds Tryd.pinned (OpenSpec.ofChange sureMultipliesWrong)

/-- 'planchetlaw05.SureConfuses': WHATEVER THE INPUT: true; the input reads as it did. -/
def sureConfusesSpec : ChangeSpec := { name := "sureConfuses", fn := fun _ => fun
  | [d] => { results := [.lit (.bool true)], args := [d] }
  | _ => none }
def sureConfusesRow : OpenClaim := { program := "ytaagkbbphgdcdaadoor", sum := "358d7bcf5ad9a3682abac82764b1de2b3ad33aef6dc9851f808f88b5bd1b8202", func := "planchet/planchetlaw05.SureConfuses", spec := "sureConfuses", unfollowed := true, recurses := true, named := ["math/bits.deBruijn64tab"], apart := false, laid := [("math/bits.deBruijn64tab", laid_math_bits_deBruijn64tab)] }
def SureConfusesSaid : Prop := sureConfusesRow.holds Tryd.pinned (OpenSpec.ofChange sureConfusesSpec)

/-- ITS FALSE NEIGHBOUR: 'it returns false'. Refute it at one input. -/
def sureConfusesWrong : ChangeSpec := { name := "sureConfuses", fn := fun _ => fun
  | [d] => { results := [.lit (.bool false)], args := [d] }
  | _ => none }
def SureConfusesWrongFalsely : Prop := sureConfusesRow.holds Tryd.pinned (OpenSpec.ofChange sureConfusesWrong)

/-- 'planchetlaw05.SureBack': WHATEVER THE INPUT: true; the input reads as it did. -/
def sureBackSpec : ChangeSpec := { name := "sureBack", fn := fun _ => fun
  | [d] => { results := [.lit (.bool true)], args := [d] }
  | _ => none }
def sureBackRow : OpenClaim := { program := "ytaagkbbphgdcdaadoor", sum := "358d7bcf5ad9a3682abac82764b1de2b3ad33aef6dc9851f808f88b5bd1b8202", func := "planchet/planchetlaw05.SureBack", spec := "sureBack", unfollowed := true, recurses := true, named := ["math/bits.deBruijn64tab"], apart := false, laid := [("math/bits.deBruijn64tab", laid_math_bits_deBruijn64tab)] }
def SureBackSaid : Prop := sureBackRow.holds Tryd.pinned (OpenSpec.ofChange sureBackSpec)

/-- ITS FALSE NEIGHBOUR: 'it returns false'. Refute it at one input. -/
def sureBackWrong : ChangeSpec := { name := "sureBack", fn := fun _ => fun
  | [d] => { results := [.lit (.bool false)], args := [d] }
  | _ => none }
def SureBackWrongFalsely : Prop := sureBackRow.holds Tryd.pinned (OpenSpec.ofChange sureBackWrong)

/-- 'planchetlaw05.SureFits': WHATEVER THE INPUT: true; the input reads as it did. -/
def sureFitsSpec : ChangeSpec := { name := "sureFits", fn := fun _ => fun
  | [d] => { results := [.lit (.bool true)], args := [d] }
  | _ => none }
def sureFitsRow : OpenClaim := { program := "ytaagkbbphgdcdaadoor", sum := "358d7bcf5ad9a3682abac82764b1de2b3ad33aef6dc9851f808f88b5bd1b8202", func := "planchet/planchetlaw05.SureFits", spec := "sureFits", unfollowed := true, recurses := true, named := ["math/bits.deBruijn64tab"], apart := false, laid := [("math/bits.deBruijn64tab", laid_math_bits_deBruijn64tab)] }
def SureFitsSaid : Prop := sureFitsRow.holds Tryd.pinned (OpenSpec.ofChange sureFitsSpec)

/-- ITS FALSE NEIGHBOUR: 'it returns false'. Refute it at one input. -/
def sureFitsWrong : ChangeSpec := { name := "sureFits", fn := fun _ => fun
  | [d] => { results := [.lit (.bool false)], args := [d] }
  | _ => none }
def SureFitsWrongFalsely : Prop := sureFitsRow.holds Tryd.pinned (OpenSpec.ofChange sureFitsWrong)

/-- 'planchetlaw05.SureBounds': WHATEVER THE INPUT: true; the input reads as it did. -/
def sureBoundsSpec : ChangeSpec := { name := "sureBounds", fn := fun _ => fun
  | [d1, d2] => { results := [.lit (.bool true)], args := [d1, d2] }
  | _ => none }
def sureBoundsRow : OpenClaim := { program := "ytaagkbbphgdcdaadoor", sum := "358d7bcf5ad9a3682abac82764b1de2b3ad33aef6dc9851f808f88b5bd1b8202", func := "planchet/planchetlaw05.SureBounds", spec := "sureBounds", unfollowed := true, recurses := true, named := ["math/bits.deBruijn64tab"], apart := false, laid := [("math/bits.deBruijn64tab", laid_math_bits_deBruijn64tab)] }
def SureBoundsSaid : Prop := sureBoundsRow.holds Tryd.pinned (OpenSpec.ofChange sureBoundsSpec)

/-- ITS FALSE NEIGHBOUR: 'it returns false'. Refute it at one input. -/
def sureBoundsWrong : ChangeSpec := { name := "sureBounds", fn := fun _ => fun
  | [d1, d2] => { results := [.lit (.bool false)], args := [d1, d2] }
  | _ => none }
def SureBoundsWrongFalsely : Prop := sureBoundsRow.holds Tryd.pinned (OpenSpec.ofChange sureBoundsWrong)

/-- 'planchetlaw05.SureFive': WHATEVER THE INPUT: true; the input reads as it did. -/
def sureFiveSpec : ChangeSpec := { name := "sureFive", fn := fun _ => fun
  | [d] => { results := [.lit (.bool true)], args := [d] }
  | _ => none }
def sureFiveRow : OpenClaim := { program := "ytaagkbbphgdcdaadoor", sum := "358d7bcf5ad9a3682abac82764b1de2b3ad33aef6dc9851f808f88b5bd1b8202", func := "planchet/planchetlaw05.SureFive", spec := "sureFive", unfollowed := true, recurses := true, named := ["math/bits.deBruijn64tab"], apart := false, laid := [("math/bits.deBruijn64tab", laid_math_bits_deBruijn64tab)] }
def SureFiveSaid : Prop := sureFiveRow.holds Tryd.pinned (OpenSpec.ofChange sureFiveSpec)

/-- ITS FALSE NEIGHBOUR: 'it returns false'. Refute it at one input. -/
def sureFiveWrong : ChangeSpec := { name := "sureFive", fn := fun _ => fun
  | [d] => { results := [.lit (.bool false)], args := [d] }
  | _ => none }
def SureFiveWrongFalsely : Prop := sureFiveRow.holds Tryd.pinned (OpenSpec.ofChange sureFiveWrong)

/- THE SECOND FORM. 'bulk': how many values and letters a reading holds, each counted each time it is reached (what is shared counts as often as it is met; a slice's spare places count too). A statement '..UptoSaid' is the law's where the arguments, and the package variables that the reading takes, are together of bulk at most 1048576: NARROWER than '..Said'. Prove '..Said' where nothing that the law and all that it calls make is longer than what came in: it says more and counts as full. Else prove '..UptoSaid'. A law counts once. -/
mutual
def uptoBulk {H : Type} : DataW H → Nat
  | .lit (.string bytes) => bytes.length + 1
  | .lit _ => 1
  | .nil => 1
  | .ptr d => uptoBulk d + 1
  | .slice elems spare => uptoBulkAll elems + uptoBulkAll spare + 1
  | .agg parts => uptoBulkAll parts + 1
  | .iface _ d => uptoBulk d + 1
  | .map entries => uptoBulkEntries entries + 1
  | .held _ => 1
def uptoBulkAll {H : Type} : List (DataW H) → Nat
  | [] => 0
  | d :: r => uptoBulk d + uptoBulkAll r
def uptoBulkEntries {H : Type} : List (Lit × DataW H) → Nat
  | [] => 0
  | x :: r => uptoBulkEntry x + uptoBulkEntries r
def uptoBulkEntry {H : Type} : Lit × DataW H → Nat
  | (.string bytes, d) => bytes.length + uptoBulk d + 1
  | (_, d) => uptoBulk d + 1
 end
def uptoSmall : (H : Type) → List (DataW H) → Bool := fun _ ds => decide (uptoBulkAll ds ≤ 1048576)
def OpenSpec.upto (s : _root_.Go.ChangeSpec) : _root_.Go.OpenSpec := { _root_.Go.OpenSpec.ofChange s with cond := some uptoSmall }

/-- 'planchetlaw05.SureCodes', WHERE WHAT IT READS IS OF BULK AT MOST 1048576: true; the input reads as it did. -/
def sureCodesUptoRow : OpenClaim := { program := "ytaagkbbphgdcdaadoor", sum := "358d7bcf5ad9a3682abac82764b1de2b3ad33aef6dc9851f808f88b5bd1b8202", func := "planchet/planchetlaw05.SureCodes", spec := "sureCodes", recurses := true, named := ["math/bits.deBruijn64tab"], apart := false, laid := [("math/bits.deBruijn64tab", laid_math_bits_deBruijn64tab)], narrowed := true }
def SureCodesUptoSaid : Prop := sureCodesUptoRow.holds Tryd.pinned (OpenSpec.upto sureCodesSpec)

/-- 'planchetlaw05.SureLonger', WHERE WHAT IT READS IS OF BULK AT MOST 1048576: true; the input reads as it did. -/
def sureLongerUptoRow : OpenClaim := { program := "ytaagkbbphgdcdaadoor", sum := "358d7bcf5ad9a3682abac82764b1de2b3ad33aef6dc9851f808f88b5bd1b8202", func := "planchet/planchetlaw05.SureLonger", spec := "sureLonger", recurses := true, named := ["math/bits.deBruijn64tab"], apart := false, laid := [("math/bits.deBruijn64tab", laid_math_bits_deBruijn64tab)], narrowed := true }
def SureLongerUptoSaid : Prop := sureLongerUptoRow.holds Tryd.pinned (OpenSpec.upto sureLongerSpec)

/-- 'planchetlaw05.SureCliques', WHERE WHAT IT READS IS OF BULK AT MOST 1048576: true; the input reads as it did. -/
def sureCliquesUptoRow : OpenClaim := { program := "ytaagkbbphgdcdaadoor", sum := "358d7bcf5ad9a3682abac82764b1de2b3ad33aef6dc9851f808f88b5bd1b8202", func := "planchet/planchetlaw05.SureCliques", spec := "sureCliques", recurses := true, named := ["math/bits.deBruijn64tab"], apart := false, laid := [("math/bits.deBruijn64tab", laid_math_bits_deBruijn64tab)], narrowed := true }
def SureCliquesUptoSaid : Prop := sureCliquesUptoRow.holds Tryd.pinned (OpenSpec.upto sureCliquesSpec)

/-- 'planchetlaw05.SureJoins', WHERE WHAT IT READS IS OF BULK AT MOST 1048576: true; the input reads as it did. -/
def sureJoinsUptoRow : OpenClaim := { program := "ytaagkbbphgdcdaadoor", sum := "358d7bcf5ad9a3682abac82764b1de2b3ad33aef6dc9851f808f88b5bd1b8202", func := "planchet/planchetlaw05.SureJoins", spec := "sureJoins", unfollowed := true, recurses := true, named := ["math/bits.deBruijn64tab"], apart := false, laid := [("math/bits.deBruijn64tab", laid_math_bits_deBruijn64tab)], narrowed := true }
def SureJoinsUptoSaid : Prop := sureJoinsUptoRow.holds Tryd.pinned (OpenSpec.upto sureJoinsSpec)

/-- 'planchetlaw05.SurePairs', WHERE WHAT IT READS IS OF BULK AT MOST 1048576: true; the input reads as it did. -/
def surePairsUptoRow : OpenClaim := { program := "ytaagkbbphgdcdaadoor", sum := "358d7bcf5ad9a3682abac82764b1de2b3ad33aef6dc9851f808f88b5bd1b8202", func := "planchet/planchetlaw05.SurePairs", spec := "surePairs", unfollowed := true, recurses := true, named := ["math/bits.deBruijn64tab"], apart := false, laid := [("math/bits.deBruijn64tab", laid_math_bits_deBruijn64tab)], narrowed := true }
def SurePairsUptoSaid : Prop := surePairsUptoRow.holds Tryd.pinned (OpenSpec.upto surePairsSpec)

/-- 'planchetlaw05.SureMore', WHERE WHAT IT READS IS OF BULK AT MOST 1048576: true; the input reads as it did. -/
def sureMoreUptoRow : OpenClaim := { program := "ytaagkbbphgdcdaadoor", sum := "358d7bcf5ad9a3682abac82764b1de2b3ad33aef6dc9851f808f88b5bd1b8202", func := "planchet/planchetlaw05.SureMore", spec := "sureMore", unfollowed := true, recurses := true, named := ["math/bits.deBruijn64tab"], apart := false, laid := [("math/bits.deBruijn64tab", laid_math_bits_deBruijn64tab)], narrowed := true }
def SureMoreUptoSaid : Prop := sureMoreUptoRow.holds Tryd.pinned (OpenSpec.upto sureMoreSpec)

/-- 'planchetlaw05.SureWeighs', WHERE WHAT IT READS IS OF BULK AT MOST 1048576: true; the input reads as it did. -/
def sureWeighsUptoRow : OpenClaim := { program := "ytaagkbbphgdcdaadoor", sum := "358d7bcf5ad9a3682abac82764b1de2b3ad33aef6dc9851f808f88b5bd1b8202", func := "planchet/planchetlaw05.SureWeighs", spec := "sureWeighs", unfollowed := true, recurses := true, named := ["math/bits.deBruijn64tab"], apart := false, laid := [("math/bits.deBruijn64tab", laid_math_bits_deBruijn64tab)], narrowed := true }
def SureWeighsUptoSaid : Prop := sureWeighsUptoRow.holds Tryd.pinned (OpenSpec.upto sureWeighsSpec)

/-- 'planchetlaw05.SureLight', WHERE WHAT IT READS IS OF BULK AT MOST 1048576: true; the input reads as it did. -/
def sureLightUptoRow : OpenClaim := { program := "ytaagkbbphgdcdaadoor", sum := "358d7bcf5ad9a3682abac82764b1de2b3ad33aef6dc9851f808f88b5bd1b8202", func := "planchet/planchetlaw05.SureLight", spec := "sureLight", unfollowed := true, recurses := true, named := ["math/bits.deBruijn64tab"], apart := false, laid := [("math/bits.deBruijn64tab", laid_math_bits_deBruijn64tab)], narrowed := true }
def SureLightUptoSaid : Prop := sureLightUptoRow.holds Tryd.pinned (OpenSpec.upto sureLightSpec)

/-- 'planchetlaw05.SureMultiplies', WHERE WHAT IT READS IS OF BULK AT MOST 1048576: true; the input reads as it did. -/
def sureMultipliesUptoRow : OpenClaim := { program := "ytaagkbbphgdcdaadoor", sum := "358d7bcf5ad9a3682abac82764b1de2b3ad33aef6dc9851f808f88b5bd1b8202", func := "planchet/planchetlaw05.SureMultiplies", spec := "sureMultiplies", unfollowed := true, recurses := true, named := ["math/bits.deBruijn64tab"], apart := false, laid := [("math/bits.deBruijn64tab", laid_math_bits_deBruijn64tab)], narrowed := true }
def SureMultipliesUptoSaid : Prop := sureMultipliesUptoRow.holds Tryd.pinned (OpenSpec.upto sureMultipliesSpec)

/-- 'planchetlaw05.SureConfuses', WHERE WHAT IT READS IS OF BULK AT MOST 1048576: true; the input reads as it did. -/
def sureConfusesUptoRow : OpenClaim := { program := "ytaagkbbphgdcdaadoor", sum := "358d7bcf5ad9a3682abac82764b1de2b3ad33aef6dc9851f808f88b5bd1b8202", func := "planchet/planchetlaw05.SureConfuses", spec := "sureConfuses", unfollowed := true, recurses := true, named := ["math/bits.deBruijn64tab"], apart := false, laid := [("math/bits.deBruijn64tab", laid_math_bits_deBruijn64tab)], narrowed := true }
def SureConfusesUptoSaid : Prop := sureConfusesUptoRow.holds Tryd.pinned (OpenSpec.upto sureConfusesSpec)

/-- 'planchetlaw05.SureBack', WHERE WHAT IT READS IS OF BULK AT MOST 1048576: true; the input reads as it did. -/
def sureBackUptoRow : OpenClaim := { program := "ytaagkbbphgdcdaadoor", sum := "358d7bcf5ad9a3682abac82764b1de2b3ad33aef6dc9851f808f88b5bd1b8202", func := "planchet/planchetlaw05.SureBack", spec := "sureBack", unfollowed := true, recurses := true, named := ["math/bits.deBruijn64tab"], apart := false, laid := [("math/bits.deBruijn64tab", laid_math_bits_deBruijn64tab)], narrowed := true }
def SureBackUptoSaid : Prop := sureBackUptoRow.holds Tryd.pinned (OpenSpec.upto sureBackSpec)

/-- 'planchetlaw05.SureFits', WHERE WHAT IT READS IS OF BULK AT MOST 1048576: true; the input reads as it did. -/
def sureFitsUptoRow : OpenClaim := { program := "ytaagkbbphgdcdaadoor", sum := "358d7bcf5ad9a3682abac82764b1de2b3ad33aef6dc9851f808f88b5bd1b8202", func := "planchet/planchetlaw05.SureFits", spec := "sureFits", unfollowed := true, recurses := true, named := ["math/bits.deBruijn64tab"], apart := false, laid := [("math/bits.deBruijn64tab", laid_math_bits_deBruijn64tab)], narrowed := true }
def SureFitsUptoSaid : Prop := sureFitsUptoRow.holds Tryd.pinned (OpenSpec.upto sureFitsSpec)

/-- 'planchetlaw05.SureBounds', WHERE WHAT IT READS IS OF BULK AT MOST 1048576: true; the input reads as it did. -/
def sureBoundsUptoRow : OpenClaim := { program := "ytaagkbbphgdcdaadoor", sum := "358d7bcf5ad9a3682abac82764b1de2b3ad33aef6dc9851f808f88b5bd1b8202", func := "planchet/planchetlaw05.SureBounds", spec := "sureBounds", unfollowed := true, recurses := true, named := ["math/bits.deBruijn64tab"], apart := false, laid := [("math/bits.deBruijn64tab", laid_math_bits_deBruijn64tab)], narrowed := true }
def SureBoundsUptoSaid : Prop := sureBoundsUptoRow.holds Tryd.pinned (OpenSpec.upto sureBoundsSpec)

/-- 'planchetlaw05.SureFive', WHERE WHAT IT READS IS OF BULK AT MOST 1048576: true; the input reads as it did. -/
def sureFiveUptoRow : OpenClaim := { program := "ytaagkbbphgdcdaadoor", sum := "358d7bcf5ad9a3682abac82764b1de2b3ad33aef6dc9851f808f88b5bd1b8202", func := "planchet/planchetlaw05.SureFive", spec := "sureFive", unfollowed := true, recurses := true, named := ["math/bits.deBruijn64tab"], apart := false, laid := [("math/bits.deBruijn64tab", laid_math_bits_deBruijn64tab)], narrowed := true }
def SureFiveUptoSaid : Prop := sureFiveUptoRow.holds Tryd.pinned (OpenSpec.upto sureFiveSpec)

end Rows
end Go.Proofs.YtaagkbbphgdcdaaDoor
