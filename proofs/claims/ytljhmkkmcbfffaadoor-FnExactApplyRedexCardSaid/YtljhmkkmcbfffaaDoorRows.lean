/-
  NARROWER THAN 'FOR EVERY INPUT', by the rows' own cells (each row's printed sentence says how): FnExactCountClass: laid · FnExactIsMorphism: laid · FnExactRankInClass: laid · FnExactApplySymmetry: laid · FnExactErasedLetters: laid · FnExactWordInClass: laid · FnExactImageOf: laid · FnExactComposeMorphisms: laid · FnExactApplyRedex: laid · FnExactPreimagesOf: laid · FnExactCollisionTo: laid.
  DERIVED. THE GIVEN ROWS OF THIS SEAT. 11 by the template 'for every input the law returns true; each argument reads behind the call as it read before'; 0 by the template 'total and deterministic' (their statements: YtljhmkkmcbfffaaDoorTotals.lean).
  GIVEN WITH THE SEED: the statements are not yours to turn. If you find one false, say at which input.
  Laid BY PROGRAM, IN A SANDBOX (cutbox-rows.mjs): the forced cells as the released guide's own fill.sh prints them over the translation 6e1c9ba8706c80d9… (all of the seat's roots in one cut). By AI agents, Wed Nov 11 2026. No macro, syntax, notation, axiom, sorry.
-/
import Derived.Test.YtljhmkkmcbfffaaDoorChecked
import GoSem.Claim
import GoSem.ClaimJoined
import GoSem.ClaimMapViews
import Derived.JoinedTies
import Derived.KernelRfl
namespace Go.Proofs.YtljhmkkmcbfffaaDoor
/- THE CELL 'sum', in the pinned program and in every row, IS THE sha256 OF THE DUMP (.gsa) THAT YtljhmkkmcbfffaaDoorProg.lean LOADS. Nothing in Lean hashes anything: it is a label: what it is worth is what the hold of that sum in a sandbox is worth. -/
noncomputable def Tryd.pinned : Pinned := { name := "ytljhmkkmcbfffaadoor", sum := "6e1c9ba8706c80d901855083c838bb026c338869afaa499ae41ac1a5c2983caa", checked := Tryd.checked }
namespace Rows
def none {H : Type} : Left H := { results := [], args := [] }

/- WHAT THE LISTED PACKAGE-LEVEL VARIABLES READ AS WHEN THE CALL BEGINS. Each datum BY PROGRAM (the guide's laid-datum.mjs) off the statement by which the dump's own 'gosem.cut.vars' lays the variable. In a bare row this is a premise. The card (YtljhmkkmcbfffaaDoorCards.lean) ties it to the program's text. -/
def laid_math_bits_deBruijn64tab {H : Type} : DataW H := .agg [.lit (.int .u8 0), .lit (.int .u8 1), .lit (.int .u8 56), .lit (.int .u8 2), .lit (.int .u8 57), .lit (.int .u8 49), .lit (.int .u8 28), .lit (.int .u8 3), .lit (.int .u8 61), .lit (.int .u8 58), .lit (.int .u8 42), .lit (.int .u8 50), .lit (.int .u8 38), .lit (.int .u8 29), .lit (.int .u8 17), .lit (.int .u8 4), .lit (.int .u8 62), .lit (.int .u8 47), .lit (.int .u8 59), .lit (.int .u8 36), .lit (.int .u8 45), .lit (.int .u8 43), .lit (.int .u8 51), .lit (.int .u8 22), .lit (.int .u8 53), .lit (.int .u8 39), .lit (.int .u8 33), .lit (.int .u8 30), .lit (.int .u8 24), .lit (.int .u8 18), .lit (.int .u8 12), .lit (.int .u8 5), .lit (.int .u8 63), .lit (.int .u8 55), .lit (.int .u8 48), .lit (.int .u8 27), .lit (.int .u8 60), .lit (.int .u8 41), .lit (.int .u8 37), .lit (.int .u8 16), .lit (.int .u8 46), .lit (.int .u8 35), .lit (.int .u8 44), .lit (.int .u8 21), .lit (.int .u8 52), .lit (.int .u8 32), .lit (.int .u8 23), .lit (.int .u8 11), .lit (.int .u8 54), .lit (.int .u8 26), .lit (.int .u8 40), .lit (.int .u8 15), .lit (.int .u8 34), .lit (.int .u8 20), .lit (.int .u8 31), .lit (.int .u8 10), .lit (.int .u8 25), .lit (.int .u8 14), .lit (.int .u8 19), .lit (.int .u8 9), .lit (.int .u8 13), .lit (.int .u8 8), .lit (.int .u8 7), .lit (.int .u8 6)]

/-- 'laws.FnExactCountClass': WHATEVER THE INPUT: true; the input reads as it did. -/
def fnExactCountClassSpec : ChangeSpec := { name := "fnExactCountClass", fn := fun _ => fun
  | [d1, d2] => { results := [.lit (.bool true)], args := [d1, d2] }
  | _ => none }
def fnExactCountClassRow : OpenClaim := { program := "ytljhmkkmcbfffaadoor", sum := "6e1c9ba8706c80d901855083c838bb026c338869afaa499ae41ac1a5c2983caa", func := "loop.example/g01094/laws.FnExactCountClass", spec := "fnExactCountClass", unfollowed := true, recurses := true, named := ["math/bits.deBruijn64tab"], apart := false, laid := [("math/bits.deBruijn64tab", laid_math_bits_deBruijn64tab)] }
def FnExactCountClassSaid : Prop := fnExactCountClassRow.holds Tryd.pinned (OpenSpec.ofChange fnExactCountClassSpec)

/-- ITS FALSE NEIGHBOUR: 'it returns false'. Refute it at one input. -/
def fnExactCountClassWrong : ChangeSpec := { name := "fnExactCountClass", fn := fun _ => fun
  | [d1, d2] => { results := [.lit (.bool false)], args := [d1, d2] }
  | _ => none }
def FnExactCountClassWrongFalsely : Prop := fnExactCountClassRow.holds Tryd.pinned (OpenSpec.ofChange fnExactCountClassWrong)

/-- 'laws.FnExactIsMorphism': WHATEVER THE INPUT: true; the input reads as it did. -/
def fnExactIsMorphismSpec : ChangeSpec := { name := "fnExactIsMorphism", fn := fun _ => fun
  | [d1, d2, d3] => { results := [.lit (.bool true)], args := [d1, d2, d3] }
  | _ => none }
def fnExactIsMorphismRow : OpenClaim := { program := "ytljhmkkmcbfffaadoor", sum := "6e1c9ba8706c80d901855083c838bb026c338869afaa499ae41ac1a5c2983caa", func := "loop.example/g01094/laws.FnExactIsMorphism", spec := "fnExactIsMorphism", unfollowed := true, recurses := true, named := ["math/bits.deBruijn64tab"], apart := false, laid := [("math/bits.deBruijn64tab", laid_math_bits_deBruijn64tab)] }
def FnExactIsMorphismSaid : Prop := fnExactIsMorphismRow.holds Tryd.pinned (OpenSpec.ofChange fnExactIsMorphismSpec)

/-- ITS FALSE NEIGHBOUR: 'it returns false'. Refute it at one input. -/
def fnExactIsMorphismWrong : ChangeSpec := { name := "fnExactIsMorphism", fn := fun _ => fun
  | [d1, d2, d3] => { results := [.lit (.bool false)], args := [d1, d2, d3] }
  | _ => none }
def FnExactIsMorphismWrongFalsely : Prop := fnExactIsMorphismRow.holds Tryd.pinned (OpenSpec.ofChange fnExactIsMorphismWrong)

/-- 'laws.FnExactRankInClass': WHATEVER THE INPUT: true; the input reads as it did. -/
def fnExactRankInClassSpec : ChangeSpec := { name := "fnExactRankInClass", fn := fun _ => fun
  | [d1, d2] => { results := [.lit (.bool true)], args := [d1, d2] }
  | _ => none }
def fnExactRankInClassRow : OpenClaim := { program := "ytljhmkkmcbfffaadoor", sum := "6e1c9ba8706c80d901855083c838bb026c338869afaa499ae41ac1a5c2983caa", func := "loop.example/g01094/laws.FnExactRankInClass", spec := "fnExactRankInClass", unfollowed := true, recurses := true, named := ["math/bits.deBruijn64tab"], apart := false, laid := [("math/bits.deBruijn64tab", laid_math_bits_deBruijn64tab)] }
def FnExactRankInClassSaid : Prop := fnExactRankInClassRow.holds Tryd.pinned (OpenSpec.ofChange fnExactRankInClassSpec)

/-- ITS FALSE NEIGHBOUR: 'it returns false'. Refute it at one input. -/
def fnExactRankInClassWrong : ChangeSpec := { name := "fnExactRankInClass", fn := fun _ => fun
  | [d1, d2] => { results := [.lit (.bool false)], args := [d1, d2] }
  | _ => none }
def FnExactRankInClassWrongFalsely : Prop := fnExactRankInClassRow.holds Tryd.pinned (OpenSpec.ofChange fnExactRankInClassWrong)

/-- 'laws.FnExactApplySymmetry': WHATEVER THE INPUT: true; the input reads as it did. -/
def fnExactApplySymmetrySpec : ChangeSpec := { name := "fnExactApplySymmetry", fn := fun _ => fun
  | [d1, d2, d3] => { results := [.lit (.bool true)], args := [d1, d2, d3] }
  | _ => none }
def fnExactApplySymmetryRow : OpenClaim := { program := "ytljhmkkmcbfffaadoor", sum := "6e1c9ba8706c80d901855083c838bb026c338869afaa499ae41ac1a5c2983caa", func := "loop.example/g01094/laws.FnExactApplySymmetry", spec := "fnExactApplySymmetry", unfollowed := true, recurses := true, named := ["math/bits.deBruijn64tab"], apart := false, laid := [("math/bits.deBruijn64tab", laid_math_bits_deBruijn64tab)] }
def FnExactApplySymmetrySaid : Prop := fnExactApplySymmetryRow.holds Tryd.pinned (OpenSpec.ofChange fnExactApplySymmetrySpec)

/-- ITS FALSE NEIGHBOUR: 'it returns false'. Refute it at one input. -/
def fnExactApplySymmetryWrong : ChangeSpec := { name := "fnExactApplySymmetry", fn := fun _ => fun
  | [d1, d2, d3] => { results := [.lit (.bool false)], args := [d1, d2, d3] }
  | _ => none }
def FnExactApplySymmetryWrongFalsely : Prop := fnExactApplySymmetryRow.holds Tryd.pinned (OpenSpec.ofChange fnExactApplySymmetryWrong)

/-- 'laws.FnExactErasedLetters': WHATEVER THE INPUT: true; the input reads as it did. -/
def fnExactErasedLettersSpec : ChangeSpec := { name := "fnExactErasedLetters", fn := fun _ => fun
  | [d1, d2, d3] => { results := [.lit (.bool true)], args := [d1, d2, d3] }
  | _ => none }
def fnExactErasedLettersRow : OpenClaim := { program := "ytljhmkkmcbfffaadoor", sum := "6e1c9ba8706c80d901855083c838bb026c338869afaa499ae41ac1a5c2983caa", func := "loop.example/g01094/laws.FnExactErasedLetters", spec := "fnExactErasedLetters", unfollowed := true, recurses := true, named := ["math/bits.deBruijn64tab"], apart := false, laid := [("math/bits.deBruijn64tab", laid_math_bits_deBruijn64tab)] }
def FnExactErasedLettersSaid : Prop := fnExactErasedLettersRow.holds Tryd.pinned (OpenSpec.ofChange fnExactErasedLettersSpec)

/-- ITS FALSE NEIGHBOUR: 'it returns false'. Refute it at one input. -/
def fnExactErasedLettersWrong : ChangeSpec := { name := "fnExactErasedLetters", fn := fun _ => fun
  | [d1, d2, d3] => { results := [.lit (.bool false)], args := [d1, d2, d3] }
  | _ => none }
def FnExactErasedLettersWrongFalsely : Prop := fnExactErasedLettersRow.holds Tryd.pinned (OpenSpec.ofChange fnExactErasedLettersWrong)

/-- 'laws.FnExactWordInClass': WHATEVER THE INPUT: true; the input reads as it did. -/
def fnExactWordInClassSpec : ChangeSpec := { name := "fnExactWordInClass", fn := fun _ => fun
  | [d1, d2, d3] => { results := [.lit (.bool true)], args := [d1, d2, d3] }
  | _ => none }
def fnExactWordInClassRow : OpenClaim := { program := "ytljhmkkmcbfffaadoor", sum := "6e1c9ba8706c80d901855083c838bb026c338869afaa499ae41ac1a5c2983caa", func := "loop.example/g01094/laws.FnExactWordInClass", spec := "fnExactWordInClass", unfollowed := true, recurses := true, named := ["math/bits.deBruijn64tab"], apart := false, laid := [("math/bits.deBruijn64tab", laid_math_bits_deBruijn64tab)] }
def FnExactWordInClassSaid : Prop := fnExactWordInClassRow.holds Tryd.pinned (OpenSpec.ofChange fnExactWordInClassSpec)

/-- ITS FALSE NEIGHBOUR: 'it returns false'. Refute it at one input. -/
def fnExactWordInClassWrong : ChangeSpec := { name := "fnExactWordInClass", fn := fun _ => fun
  | [d1, d2, d3] => { results := [.lit (.bool false)], args := [d1, d2, d3] }
  | _ => none }
def FnExactWordInClassWrongFalsely : Prop := fnExactWordInClassRow.holds Tryd.pinned (OpenSpec.ofChange fnExactWordInClassWrong)

/-- 'laws.FnExactImageOf': WHATEVER THE INPUT: true; the input reads as it did. -/
def fnExactImageOfSpec : ChangeSpec := { name := "fnExactImageOf", fn := fun _ => fun
  | [d1, d2, d3, d4] => { results := [.lit (.bool true)], args := [d1, d2, d3, d4] }
  | _ => none }
def fnExactImageOfRow : OpenClaim := { program := "ytljhmkkmcbfffaadoor", sum := "6e1c9ba8706c80d901855083c838bb026c338869afaa499ae41ac1a5c2983caa", func := "loop.example/g01094/laws.FnExactImageOf", spec := "fnExactImageOf", unfollowed := true, recurses := true, named := ["math/bits.deBruijn64tab"], apart := false, laid := [("math/bits.deBruijn64tab", laid_math_bits_deBruijn64tab)] }
def FnExactImageOfSaid : Prop := fnExactImageOfRow.holds Tryd.pinned (OpenSpec.ofChange fnExactImageOfSpec)

/-- ITS FALSE NEIGHBOUR: 'it returns false'. Refute it at one input. -/
def fnExactImageOfWrong : ChangeSpec := { name := "fnExactImageOf", fn := fun _ => fun
  | [d1, d2, d3, d4] => { results := [.lit (.bool false)], args := [d1, d2, d3, d4] }
  | _ => none }
def FnExactImageOfWrongFalsely : Prop := fnExactImageOfRow.holds Tryd.pinned (OpenSpec.ofChange fnExactImageOfWrong)

/-- 'laws.FnExactComposeMorphisms': WHATEVER THE INPUT: true; the input reads as it did. -/
def fnExactComposeMorphismsSpec : ChangeSpec := { name := "fnExactComposeMorphisms", fn := fun _ => fun
  | [d1, d2, d3, d4, d5] => { results := [.lit (.bool true)], args := [d1, d2, d3, d4, d5] }
  | _ => none }
def fnExactComposeMorphismsRow : OpenClaim := { program := "ytljhmkkmcbfffaadoor", sum := "6e1c9ba8706c80d901855083c838bb026c338869afaa499ae41ac1a5c2983caa", func := "loop.example/g01094/laws.FnExactComposeMorphisms", spec := "fnExactComposeMorphisms", unfollowed := true, recurses := true, named := ["math/bits.deBruijn64tab"], apart := false, laid := [("math/bits.deBruijn64tab", laid_math_bits_deBruijn64tab)] }
def FnExactComposeMorphismsSaid : Prop := fnExactComposeMorphismsRow.holds Tryd.pinned (OpenSpec.ofChange fnExactComposeMorphismsSpec)

/-- ITS FALSE NEIGHBOUR: 'it returns false'. Refute it at one input. -/
def fnExactComposeMorphismsWrong : ChangeSpec := { name := "fnExactComposeMorphisms", fn := fun _ => fun
  | [d1, d2, d3, d4, d5] => { results := [.lit (.bool false)], args := [d1, d2, d3, d4, d5] }
  | _ => none }
def FnExactComposeMorphismsWrongFalsely : Prop := fnExactComposeMorphismsRow.holds Tryd.pinned (OpenSpec.ofChange fnExactComposeMorphismsWrong)

/-- 'laws.FnExactApplyRedex': WHATEVER THE INPUT: true; the input reads as it did. -/
def fnExactApplyRedexSpec : ChangeSpec := { name := "fnExactApplyRedex", fn := fun _ => fun
  | [d1, d2, d3, d4] => { results := [.lit (.bool true)], args := [d1, d2, d3, d4] }
  | _ => none }
def fnExactApplyRedexRow : OpenClaim := { program := "ytljhmkkmcbfffaadoor", sum := "6e1c9ba8706c80d901855083c838bb026c338869afaa499ae41ac1a5c2983caa", func := "loop.example/g01094/laws.FnExactApplyRedex", spec := "fnExactApplyRedex", unfollowed := true, recurses := true, named := ["math/bits.deBruijn64tab"], apart := false, laid := [("math/bits.deBruijn64tab", laid_math_bits_deBruijn64tab)] }
def FnExactApplyRedexSaid : Prop := fnExactApplyRedexRow.holds Tryd.pinned (OpenSpec.ofChange fnExactApplyRedexSpec)

/-- ITS FALSE NEIGHBOUR: 'it returns false'. Refute it at one input. -/
def fnExactApplyRedexWrong : ChangeSpec := { name := "fnExactApplyRedex", fn := fun _ => fun
  | [d1, d2, d3, d4] => { results := [.lit (.bool false)], args := [d1, d2, d3, d4] }
  | _ => none }
def FnExactApplyRedexWrongFalsely : Prop := fnExactApplyRedexRow.holds Tryd.pinned (OpenSpec.ofChange fnExactApplyRedexWrong)

/-- 'laws.FnExactPreimagesOf': WHATEVER THE INPUT: true; the input reads as it did. -/
def fnExactPreimagesOfSpec : ChangeSpec := { name := "fnExactPreimagesOf", fn := fun _ => fun
  | [d1, d2, d3, d4] => { results := [.lit (.bool true)], args := [d1, d2, d3, d4] }
  | _ => none }
def fnExactPreimagesOfRow : OpenClaim := { program := "ytljhmkkmcbfffaadoor", sum := "6e1c9ba8706c80d901855083c838bb026c338869afaa499ae41ac1a5c2983caa", func := "loop.example/g01094/laws.FnExactPreimagesOf", spec := "fnExactPreimagesOf", unfollowed := true, recurses := true, named := ["math/bits.deBruijn64tab"], apart := false, laid := [("math/bits.deBruijn64tab", laid_math_bits_deBruijn64tab)] }
def FnExactPreimagesOfSaid : Prop := fnExactPreimagesOfRow.holds Tryd.pinned (OpenSpec.ofChange fnExactPreimagesOfSpec)

/-- ITS FALSE NEIGHBOUR: 'it returns false'. Refute it at one input. -/
def fnExactPreimagesOfWrong : ChangeSpec := { name := "fnExactPreimagesOf", fn := fun _ => fun
  | [d1, d2, d3, d4] => { results := [.lit (.bool false)], args := [d1, d2, d3, d4] }
  | _ => none }
def FnExactPreimagesOfWrongFalsely : Prop := fnExactPreimagesOfRow.holds Tryd.pinned (OpenSpec.ofChange fnExactPreimagesOfWrong)

/-- 'laws.FnExactCollisionTo': WHATEVER THE INPUT: true; the input reads as it did. -/
def fnExactCollisionToSpec : ChangeSpec := { name := "fnExactCollisionTo", fn := fun _ => fun
  | [d1, d2, d3, d4] => { results := [.lit (.bool true)], args := [d1, d2, d3, d4] }
  | _ => none }
def fnExactCollisionToRow : OpenClaim := { program := "ytljhmkkmcbfffaadoor", sum := "6e1c9ba8706c80d901855083c838bb026c338869afaa499ae41ac1a5c2983caa", func := "loop.example/g01094/laws.FnExactCollisionTo", spec := "fnExactCollisionTo", unfollowed := true, recurses := true, named := ["math/bits.deBruijn64tab"], apart := false, laid := [("math/bits.deBruijn64tab", laid_math_bits_deBruijn64tab)] }
def FnExactCollisionToSaid : Prop := fnExactCollisionToRow.holds Tryd.pinned (OpenSpec.ofChange fnExactCollisionToSpec)

/-- ITS FALSE NEIGHBOUR: 'it returns false'. Refute it at one input. -/
def fnExactCollisionToWrong : ChangeSpec := { name := "fnExactCollisionTo", fn := fun _ => fun
  | [d1, d2, d3, d4] => { results := [.lit (.bool false)], args := [d1, d2, d3, d4] }
  | _ => none }
def FnExactCollisionToWrongFalsely : Prop := fnExactCollisionToRow.holds Tryd.pinned (OpenSpec.ofChange fnExactCollisionToWrong)

/- THE SECOND FORM. 'bulk': how many values and letters a reading holds, each counted each time it is reached (what is shared counts as often as it is met; a slice's spare places count too). A statement '..UptoSaid' is the law's where the arguments, and the package variables that the reading takes, are together of bulk at most 1048576: NARROWER than '..Said'. Prove '..Said' where nothing that the law and all that it calls make is longer than what came in: it says more and counts as full. Else prove '..UptoSaid'. A law counts once. -/
mutual
def uptoBulk {H : Type} : DataW H → Nat
  | .lit (.string bytes) => bytes.length + 1
  | .lit _ => 1
  | .nil => 1
  | .ptr d => uptoBulk d + 1
  | .slice elems spare => uptoBulkAll elems + uptoBulkAll spare + 1
  | .agg parts => uptoBulkAll parts + 1
  | .iface _ d => uptoBulk d + 1
  | .map entries => uptoBulkEntries entries + 1
  | .held _ => 1
def uptoBulkAll {H : Type} : List (DataW H) → Nat
  | [] => 0
  | d :: r => uptoBulk d + uptoBulkAll r
def uptoBulkEntries {H : Type} : List (Lit × DataW H) → Nat
  | [] => 0
  | x :: r => uptoBulkEntry x + uptoBulkEntries r
def uptoBulkEntry {H : Type} : Lit × DataW H → Nat
  | (.string bytes, d) => bytes.length + uptoBulk d + 1
  | (_, d) => uptoBulk d + 1
 end
def uptoSmall : (H : Type) → List (DataW H) → Bool := fun _ ds => decide (uptoBulkAll ds ≤ 1048576)
def OpenSpec.upto (s : _root_.Go.ChangeSpec) : _root_.Go.OpenSpec := { _root_.Go.OpenSpec.ofChange s with cond := some uptoSmall }

/-- 'laws.FnExactCountClass', WHERE WHAT IT READS IS OF BULK AT MOST 1048576: true; the input reads as it did. -/
def fnExactCountClassUptoRow : OpenClaim := { program := "ytljhmkkmcbfffaadoor", sum := "6e1c9ba8706c80d901855083c838bb026c338869afaa499ae41ac1a5c2983caa", func := "loop.example/g01094/laws.FnExactCountClass", spec := "fnExactCountClass", unfollowed := true, recurses := true, named := ["math/bits.deBruijn64tab"], apart := false, laid := [("math/bits.deBruijn64tab", laid_math_bits_deBruijn64tab)], narrowed := true }
def FnExactCountClassUptoSaid : Prop := fnExactCountClassUptoRow.holds Tryd.pinned (OpenSpec.upto fnExactCountClassSpec)

/-- 'laws.FnExactIsMorphism', WHERE WHAT IT READS IS OF BULK AT MOST 1048576: true; the input reads as it did. -/
def fnExactIsMorphismUptoRow : OpenClaim := { program := "ytljhmkkmcbfffaadoor", sum := "6e1c9ba8706c80d901855083c838bb026c338869afaa499ae41ac1a5c2983caa", func := "loop.example/g01094/laws.FnExactIsMorphism", spec := "fnExactIsMorphism", unfollowed := true, recurses := true, named := ["math/bits.deBruijn64tab"], apart := false, laid := [("math/bits.deBruijn64tab", laid_math_bits_deBruijn64tab)], narrowed := true }
def FnExactIsMorphismUptoSaid : Prop := fnExactIsMorphismUptoRow.holds Tryd.pinned (OpenSpec.upto fnExactIsMorphismSpec)

/-- 'laws.FnExactRankInClass', WHERE WHAT IT READS IS OF BULK AT MOST 1048576: true; the input reads as it did. -/
def fnExactRankInClassUptoRow : OpenClaim := { program := "ytljhmkkmcbfffaadoor", sum := "6e1c9ba8706c80d901855083c838bb026c338869afaa499ae41ac1a5c2983caa", func := "loop.example/g01094/laws.FnExactRankInClass", spec := "fnExactRankInClass", unfollowed := true, recurses := true, named := ["math/bits.deBruijn64tab"], apart := false, laid := [("math/bits.deBruijn64tab", laid_math_bits_deBruijn64tab)], narrowed := true }
def FnExactRankInClassUptoSaid : Prop := fnExactRankInClassUptoRow.holds Tryd.pinned (OpenSpec.upto fnExactRankInClassSpec)

/-- 'laws.FnExactApplySymmetry', WHERE WHAT IT READS IS OF BULK AT MOST 1048576: true; the input reads as it did. -/
def fnExactApplySymmetryUptoRow : OpenClaim := { program := "ytljhmkkmcbfffaadoor", sum := "6e1c9ba8706c80d901855083c838bb026c338869afaa499ae41ac1a5c2983caa", func := "loop.example/g01094/laws.FnExactApplySymmetry", spec := "fnExactApplySymmetry", unfollowed := true, recurses := true, named := ["math/bits.deBruijn64tab"], apart := false, laid := [("math/bits.deBruijn64tab", laid_math_bits_deBruijn64tab)], narrowed := true }
def FnExactApplySymmetryUptoSaid : Prop := fnExactApplySymmetryUptoRow.holds Tryd.pinned (OpenSpec.upto fnExactApplySymmetrySpec)

/-- 'laws.FnExactErasedLetters', WHERE WHAT IT READS IS OF BULK AT MOST 1048576: true; the input reads as it did. -/
def fnExactErasedLettersUptoRow : OpenClaim := { program := "ytljhmkkmcbfffaadoor", sum := "6e1c9ba8706c80d901855083c838bb026c338869afaa499ae41ac1a5c2983caa", func := "loop.example/g01094/laws.FnExactErasedLetters", spec := "fnExactErasedLetters", unfollowed := true, recurses := true, named := ["math/bits.deBruijn64tab"], apart := false, laid := [("math/bits.deBruijn64tab", laid_math_bits_deBruijn64tab)], narrowed := true }
def FnExactErasedLettersUptoSaid : Prop := fnExactErasedLettersUptoRow.holds Tryd.pinned (OpenSpec.upto fnExactErasedLettersSpec)

/-- 'laws.FnExactWordInClass', WHERE WHAT IT READS IS OF BULK AT MOST 1048576: true; the input reads as it did. -/
def fnExactWordInClassUptoRow : OpenClaim := { program := "ytljhmkkmcbfffaadoor", sum := "6e1c9ba8706c80d901855083c838bb026c338869afaa499ae41ac1a5c2983caa", func := "loop.example/g01094/laws.FnExactWordInClass", spec := "fnExactWordInClass", unfollowed := true, recurses := true, named := ["math/bits.deBruijn64tab"], apart := false, laid := [("math/bits.deBruijn64tab", laid_math_bits_deBruijn64tab)], narrowed := true }
def FnExactWordInClassUptoSaid : Prop := fnExactWordInClassUptoRow.holds Tryd.pinned (OpenSpec.upto fnExactWordInClassSpec)

/-- 'laws.FnExactImageOf', WHERE WHAT IT READS IS OF BULK AT MOST 1048576: true; the input reads as it did. -/
def fnExactImageOfUptoRow : OpenClaim := { program := "ytljhmkkmcbfffaadoor", sum := "6e1c9ba8706c80d901855083c838bb026c338869afaa499ae41ac1a5c2983caa", func := "loop.example/g01094/laws.FnExactImageOf", spec := "fnExactImageOf", unfollowed := true, recurses := true, named := ["math/bits.deBruijn64tab"], apart := false, laid := [("math/bits.deBruijn64tab", laid_math_bits_deBruijn64tab)], narrowed := true }
def FnExactImageOfUptoSaid : Prop := fnExactImageOfUptoRow.holds Tryd.pinned (OpenSpec.upto fnExactImageOfSpec)

/-- 'laws.FnExactComposeMorphisms', WHERE WHAT IT READS IS OF BULK AT MOST 1048576: true; the input reads as it did. -/
def fnExactComposeMorphismsUptoRow : OpenClaim := { program := "ytljhmkkmcbfffaadoor", sum := "6e1c9ba8706c80d901855083c838bb026c338869afaa499ae41ac1a5c2983caa", func := "loop.example/g01094/laws.FnExactComposeMorphisms", spec := "fnExactComposeMorphisms", unfollowed := true, recurses := true, named := ["math/bits.deBruijn64tab"], apart := false, laid := [("math/bits.deBruijn64tab", laid_math_bits_deBruijn64tab)], narrowed := true }
def FnExactComposeMorphismsUptoSaid : Prop := fnExactComposeMorphismsUptoRow.holds Tryd.pinned (OpenSpec.upto fnExactComposeMorphismsSpec)

/-- 'laws.FnExactApplyRedex', WHERE WHAT IT READS IS OF BULK AT MOST 1048576: true; the input reads as it did. -/
def fnExactApplyRedexUptoRow : OpenClaim := { program := "ytljhmkkmcbfffaadoor", sum := "6e1c9ba8706c80d901855083c838bb026c338869afaa499ae41ac1a5c2983caa", func := "loop.example/g01094/laws.FnExactApplyRedex", spec := "fnExactApplyRedex", unfollowed := true, recurses := true, named := ["math/bits.deBruijn64tab"], apart := false, laid := [("math/bits.deBruijn64tab", laid_math_bits_deBruijn64tab)], narrowed := true }
def FnExactApplyRedexUptoSaid : Prop := fnExactApplyRedexUptoRow.holds Tryd.pinned (OpenSpec.upto fnExactApplyRedexSpec)

/-- 'laws.FnExactPreimagesOf', WHERE WHAT IT READS IS OF BULK AT MOST 1048576: true; the input reads as it did. -/
def fnExactPreimagesOfUptoRow : OpenClaim := { program := "ytljhmkkmcbfffaadoor", sum := "6e1c9ba8706c80d901855083c838bb026c338869afaa499ae41ac1a5c2983caa", func := "loop.example/g01094/laws.FnExactPreimagesOf", spec := "fnExactPreimagesOf", unfollowed := true, recurses := true, named := ["math/bits.deBruijn64tab"], apart := false, laid := [("math/bits.deBruijn64tab", laid_math_bits_deBruijn64tab)], narrowed := true }
def FnExactPreimagesOfUptoSaid : Prop := fnExactPreimagesOfUptoRow.holds Tryd.pinned (OpenSpec.upto fnExactPreimagesOfSpec)

/-- 'laws.FnExactCollisionTo', WHERE WHAT IT READS IS OF BULK AT MOST 1048576: true; the input reads as it did. -/
def fnExactCollisionToUptoRow : OpenClaim := { program := "ytljhmkkmcbfffaadoor", sum := "6e1c9ba8706c80d901855083c838bb026c338869afaa499ae41ac1a5c2983caa", func := "loop.example/g01094/laws.FnExactCollisionTo", spec := "fnExactCollisionTo", unfollowed := true, recurses := true, named := ["math/bits.deBruijn64tab"], apart := false, laid := [("math/bits.deBruijn64tab", laid_math_bits_deBruijn64tab)], narrowed := true }
def FnExactCollisionToUptoSaid : Prop := fnExactCollisionToUptoRow.holds Tryd.pinned (OpenSpec.upto fnExactCollisionToSpec)

end Rows
end Go.Proofs.YtljhmkkmcbfffaaDoor
