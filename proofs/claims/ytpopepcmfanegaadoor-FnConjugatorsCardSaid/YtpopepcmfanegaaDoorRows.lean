/-
  NARROWER THAN 'FOR EVERY INPUT', by the rows' own cells (each row's printed sentence says how): FnReverses: laid · FnCompositions: laid · FnMorphismImages: laid · FnRoots: laid · FnCommuting: laid · FnConjugators: laid · FnPreimages: laid.
  DERIVED. THE GIVEN ROWS OF THIS SEAT. 7 by the template 'for every input the law returns true; each argument reads behind the call as it read before'; 0 by the template 'total and deterministic' (their statements: YtpopepcmfanegaaDoorTotals.lean).
  GIVEN WITH THE SEED: the statements are not yours to turn. If you find one false, say at which input.
  Laid BY PROGRAM, IN A SANDBOX (cutbox-rows.mjs): the forced cells as the released guide's own fill.sh prints them over the translation 00f7c9341cb29458… (all of the seat's roots in one cut). By AI agents, Wed Nov 11 2026. No macro, syntax, notation, axiom, sorry.
-/
import Derived.Test.YtpopepcmfanegaaDoorChecked
import GoSem.Claim
import GoSem.ClaimJoined
import GoSem.ClaimMapViews
import Derived.JoinedTies
import Derived.KernelRfl
namespace Go.Proofs.YtpopepcmfanegaaDoor
/- THE CELL 'sum', in the pinned program and in every row, IS THE sha256 OF THE DUMP (.gsa) THAT YtpopepcmfanegaaDoorProg.lean LOADS. Nothing in Lean hashes anything: it is a label: what it is worth is what the hold of that sum in a sandbox is worth. -/
noncomputable def Tryd.pinned : Pinned := { name := "ytpopepcmfanegaadoor", sum := "00f7c9341cb29458a638588fb1a547d73cd63e6b2a52638df36c2938ff961255", checked := Tryd.checked }
namespace Rows
def none {H : Type} : Left H := { results := [], args := [] }

/- WHAT THE LISTED PACKAGE-LEVEL VARIABLES READ AS WHEN THE CALL BEGINS. Each datum BY PROGRAM (the guide's laid-datum.mjs) off the statement by which the dump's own 'gosem.cut.vars' lays the variable. In a bare row this is a premise. The card (YtpopepcmfanegaaDoorCards.lean) ties it to the program's text. -/
def laid_math_bits_deBruijn64tab {H : Type} : DataW H := .agg [.lit (.int .u8 0), .lit (.int .u8 1), .lit (.int .u8 56), .lit (.int .u8 2), .lit (.int .u8 57), .lit (.int .u8 49), .lit (.int .u8 28), .lit (.int .u8 3), .lit (.int .u8 61), .lit (.int .u8 58), .lit (.int .u8 42), .lit (.int .u8 50), .lit (.int .u8 38), .lit (.int .u8 29), .lit (.int .u8 17), .lit (.int .u8 4), .lit (.int .u8 62), .lit (.int .u8 47), .lit (.int .u8 59), .lit (.int .u8 36), .lit (.int .u8 45), .lit (.int .u8 43), .lit (.int .u8 51), .lit (.int .u8 22), .lit (.int .u8 53), .lit (.int .u8 39), .lit (.int .u8 33), .lit (.int .u8 30), .lit (.int .u8 24), .lit (.int .u8 18), .lit (.int .u8 12), .lit (.int .u8 5), .lit (.int .u8 63), .lit (.int .u8 55), .lit (.int .u8 48), .lit (.int .u8 27), .lit (.int .u8 60), .lit (.int .u8 41), .lit (.int .u8 37), .lit (.int .u8 16), .lit (.int .u8 46), .lit (.int .u8 35), .lit (.int .u8 44), .lit (.int .u8 21), .lit (.int .u8 52), .lit (.int .u8 32), .lit (.int .u8 23), .lit (.int .u8 11), .lit (.int .u8 54), .lit (.int .u8 26), .lit (.int .u8 40), .lit (.int .u8 15), .lit (.int .u8 34), .lit (.int .u8 20), .lit (.int .u8 31), .lit (.int .u8 10), .lit (.int .u8 25), .lit (.int .u8 14), .lit (.int .u8 19), .lit (.int .u8 9), .lit (.int .u8 13), .lit (.int .u8 8), .lit (.int .u8 7), .lit (.int .u8 6)]

/-- 'laws.FnReverses': WHATEVER THE INPUT: true; the input reads as it did. -/
def fnReversesSpec : ChangeSpec := { name := "fnReverses", fn := fun _ => fun
  | [d] => { results := [.lit (.bool true)], args := [d] }
  | _ => none }
def fnReversesRow : OpenClaim := { program := "ytpopepcmfanegaadoor", sum := "00f7c9341cb29458a638588fb1a547d73cd63e6b2a52638df36c2938ff961255", func := "loop.example/g01094/laws.FnReverses", spec := "fnReverses", unfollowed := true, recurses := true, named := ["math/bits.deBruijn64tab"], apart := false, laid := [("math/bits.deBruijn64tab", laid_math_bits_deBruijn64tab)] }
def FnReversesSaid : Prop := fnReversesRow.holds Tryd.pinned (OpenSpec.ofChange fnReversesSpec)

/-- ITS FALSE NEIGHBOUR: 'it returns false'. Refute it at one input. -/
def fnReversesWrong : ChangeSpec := { name := "fnReverses", fn := fun _ => fun
  | [d] => { results := [.lit (.bool false)], args := [d] }
  | _ => none }
def FnReversesWrongFalsely : Prop := fnReversesRow.holds Tryd.pinned (OpenSpec.ofChange fnReversesWrong)

/-- 'laws.FnCompositions': WHATEVER THE INPUT: true; the input reads as it did. -/
def fnCompositionsSpec : ChangeSpec := { name := "fnCompositions", fn := fun _ => fun
  | [d] => { results := [.lit (.bool true)], args := [d] }
  | _ => none }
def fnCompositionsRow : OpenClaim := { program := "ytpopepcmfanegaadoor", sum := "00f7c9341cb29458a638588fb1a547d73cd63e6b2a52638df36c2938ff961255", func := "loop.example/g01094/laws.FnCompositions", spec := "fnCompositions", unfollowed := true, recurses := true, named := ["math/bits.deBruijn64tab"], apart := false, laid := [("math/bits.deBruijn64tab", laid_math_bits_deBruijn64tab)] }
def FnCompositionsSaid : Prop := fnCompositionsRow.holds Tryd.pinned (OpenSpec.ofChange fnCompositionsSpec)

/-- ITS FALSE NEIGHBOUR: 'it returns false'. Refute it at one input. -/
def fnCompositionsWrong : ChangeSpec := { name := "fnCompositions", fn := fun _ => fun
  | [d] => { results := [.lit (.bool false)], args := [d] }
  | _ => none }
def FnCompositionsWrongFalsely : Prop := fnCompositionsRow.holds Tryd.pinned (OpenSpec.ofChange fnCompositionsWrong)

/-- 'laws.FnMorphismImages': WHATEVER THE INPUT: true; the input reads as it did. -/
def fnMorphismImagesSpec : ChangeSpec := { name := "fnMorphismImages", fn := fun _ => fun
  | [d] => { results := [.lit (.bool true)], args := [d] }
  | _ => none }
def fnMorphismImagesRow : OpenClaim := { program := "ytpopepcmfanegaadoor", sum := "00f7c9341cb29458a638588fb1a547d73cd63e6b2a52638df36c2938ff961255", func := "loop.example/g01094/laws.FnMorphismImages", spec := "fnMorphismImages", unfollowed := true, recurses := true, named := ["math/bits.deBruijn64tab"], apart := false, laid := [("math/bits.deBruijn64tab", laid_math_bits_deBruijn64tab)] }
def FnMorphismImagesSaid : Prop := fnMorphismImagesRow.holds Tryd.pinned (OpenSpec.ofChange fnMorphismImagesSpec)

/-- ITS FALSE NEIGHBOUR: 'it returns false'. Refute it at one input. -/
def fnMorphismImagesWrong : ChangeSpec := { name := "fnMorphismImages", fn := fun _ => fun
  | [d] => { results := [.lit (.bool false)], args := [d] }
  | _ => none }
def FnMorphismImagesWrongFalsely : Prop := fnMorphismImagesRow.holds Tryd.pinned (OpenSpec.ofChange fnMorphismImagesWrong)

/-- 'laws.FnRoots': WHATEVER THE INPUT: true; the input reads as it did. -/
def fnRootsSpec : ChangeSpec := { name := "fnRoots", fn := fun _ => fun
  | [d] => { results := [.lit (.bool true)], args := [d] }
  | _ => none }
def fnRootsRow : OpenClaim := { program := "ytpopepcmfanegaadoor", sum := "00f7c9341cb29458a638588fb1a547d73cd63e6b2a52638df36c2938ff961255", func := "loop.example/g01094/laws.FnRoots", spec := "fnRoots", unfollowed := true, recurses := true, named := ["math/bits.deBruijn64tab"], apart := false, laid := [("math/bits.deBruijn64tab", laid_math_bits_deBruijn64tab)] }
def FnRootsSaid : Prop := fnRootsRow.holds Tryd.pinned (OpenSpec.ofChange fnRootsSpec)

/-- ITS FALSE NEIGHBOUR: 'it returns false'. Refute it at one input. -/
def fnRootsWrong : ChangeSpec := { name := "fnRoots", fn := fun _ => fun
  | [d] => { results := [.lit (.bool false)], args := [d] }
  | _ => none }
def FnRootsWrongFalsely : Prop := fnRootsRow.holds Tryd.pinned (OpenSpec.ofChange fnRootsWrong)

/-- 'laws.FnCommuting': WHATEVER THE INPUT: true; the input reads as it did. -/
def fnCommutingSpec : ChangeSpec := { name := "fnCommuting", fn := fun _ => fun
  | [d] => { results := [.lit (.bool true)], args := [d] }
  | _ => none }
def fnCommutingRow : OpenClaim := { program := "ytpopepcmfanegaadoor", sum := "00f7c9341cb29458a638588fb1a547d73cd63e6b2a52638df36c2938ff961255", func := "loop.example/g01094/laws.FnCommuting", spec := "fnCommuting", unfollowed := true, recurses := true, named := ["math/bits.deBruijn64tab"], apart := false, laid := [("math/bits.deBruijn64tab", laid_math_bits_deBruijn64tab)] }
def FnCommutingSaid : Prop := fnCommutingRow.holds Tryd.pinned (OpenSpec.ofChange fnCommutingSpec)

/-- ITS FALSE NEIGHBOUR: 'it returns false'. Refute it at one input. -/
def fnCommutingWrong : ChangeSpec := { name := "fnCommuting", fn := fun _ => fun
  | [d] => { results := [.lit (.bool false)], args := [d] }
  | _ => none }
def FnCommutingWrongFalsely : Prop := fnCommutingRow.holds Tryd.pinned (OpenSpec.ofChange fnCommutingWrong)

/-- 'laws.FnConjugators': WHATEVER THE INPUT: true; the input reads as it did. -/
def fnConjugatorsSpec : ChangeSpec := { name := "fnConjugators", fn := fun _ => fun
  | [d] => { results := [.lit (.bool true)], args := [d] }
  | _ => none }
def fnConjugatorsRow : OpenClaim := { program := "ytpopepcmfanegaadoor", sum := "00f7c9341cb29458a638588fb1a547d73cd63e6b2a52638df36c2938ff961255", func := "loop.example/g01094/laws.FnConjugators", spec := "fnConjugators", unfollowed := true, recurses := true, named := ["math/bits.deBruijn64tab"], apart := false, laid := [("math/bits.deBruijn64tab", laid_math_bits_deBruijn64tab)] }
def FnConjugatorsSaid : Prop := fnConjugatorsRow.holds Tryd.pinned (OpenSpec.ofChange fnConjugatorsSpec)

/-- ITS FALSE NEIGHBOUR: 'it returns false'. Refute it at one input. -/
def fnConjugatorsWrong : ChangeSpec := { name := "fnConjugators", fn := fun _ => fun
  | [d] => { results := [.lit (.bool false)], args := [d] }
  | _ => none }
def FnConjugatorsWrongFalsely : Prop := fnConjugatorsRow.holds Tryd.pinned (OpenSpec.ofChange fnConjugatorsWrong)

/-- 'laws.FnPreimages': WHATEVER THE INPUT: true; the input reads as it did. -/
def fnPreimagesSpec : ChangeSpec := { name := "fnPreimages", fn := fun _ => fun
  | [d] => { results := [.lit (.bool true)], args := [d] }
  | _ => none }
def fnPreimagesRow : OpenClaim := { program := "ytpopepcmfanegaadoor", sum := "00f7c9341cb29458a638588fb1a547d73cd63e6b2a52638df36c2938ff961255", func := "loop.example/g01094/laws.FnPreimages", spec := "fnPreimages", unfollowed := true, recurses := true, named := ["math/bits.deBruijn64tab"], apart := false, laid := [("math/bits.deBruijn64tab", laid_math_bits_deBruijn64tab)] }
def FnPreimagesSaid : Prop := fnPreimagesRow.holds Tryd.pinned (OpenSpec.ofChange fnPreimagesSpec)

/-- ITS FALSE NEIGHBOUR: 'it returns false'. Refute it at one input. -/
def fnPreimagesWrong : ChangeSpec := { name := "fnPreimages", fn := fun _ => fun
  | [d] => { results := [.lit (.bool false)], args := [d] }
  | _ => none }
def FnPreimagesWrongFalsely : Prop := fnPreimagesRow.holds Tryd.pinned (OpenSpec.ofChange fnPreimagesWrong)

/- THE SECOND FORM. 'bulk': how many values and letters a reading holds, each counted each time it is reached (what is shared counts as often as it is met; a slice's spare places count too). A statement '..UptoSaid' is the law's where the arguments, and the package variables that the reading takes, are together of bulk at most 1048576: NARROWER than '..Said'. Prove '..Said' where nothing that the law and all that it calls make is longer than what came in: it says more and counts as full. Else prove '..UptoSaid'. A law counts once. -/
mutual
def uptoBulk {H : Type} : DataW H → Nat
  | .lit (.string bytes) => bytes.length + 1
  | .lit _ => 1
  | .nil => 1
  | .ptr d => uptoBulk d + 1
  | .slice elems spare => uptoBulkAll elems + uptoBulkAll spare + 1
  | .agg parts => uptoBulkAll parts + 1
  | .iface _ d => uptoBulk d + 1
  | .map entries => uptoBulkEntries entries + 1
  | .held _ => 1
def uptoBulkAll {H : Type} : List (DataW H) → Nat
  | [] => 0
  | d :: r => uptoBulk d + uptoBulkAll r
def uptoBulkEntries {H : Type} : List (Lit × DataW H) → Nat
  | [] => 0
  | x :: r => uptoBulkEntry x + uptoBulkEntries r
def uptoBulkEntry {H : Type} : Lit × DataW H → Nat
  | (.string bytes, d) => bytes.length + uptoBulk d + 1
  | (_, d) => uptoBulk d + 1
 end
def uptoSmall : (H : Type) → List (DataW H) → Bool := fun _ ds => decide (uptoBulkAll ds ≤ 1048576)
def OpenSpec.upto (s : _root_.Go.ChangeSpec) : _root_.Go.OpenSpec := { _root_.Go.OpenSpec.ofChange s with cond := some uptoSmall }

/-- 'laws.FnReverses', WHERE WHAT IT READS IS OF BULK AT MOST 1048576: true; the input reads as it did. -/
def fnReversesUptoRow : OpenClaim := { program := "ytpopepcmfanegaadoor", sum := "00f7c9341cb29458a638588fb1a547d73cd63e6b2a52638df36c2938ff961255", func := "loop.example/g01094/laws.FnReverses", spec := "fnReverses", unfollowed := true, recurses := true, named := ["math/bits.deBruijn64tab"], apart := false, laid := [("math/bits.deBruijn64tab", laid_math_bits_deBruijn64tab)], narrowed := true }
def FnReversesUptoSaid : Prop := fnReversesUptoRow.holds Tryd.pinned (OpenSpec.upto fnReversesSpec)

/-- 'laws.FnCompositions', WHERE WHAT IT READS IS OF BULK AT MOST 1048576: true; the input reads as it did. -/
def fnCompositionsUptoRow : OpenClaim := { program := "ytpopepcmfanegaadoor", sum := "00f7c9341cb29458a638588fb1a547d73cd63e6b2a52638df36c2938ff961255", func := "loop.example/g01094/laws.FnCompositions", spec := "fnCompositions", unfollowed := true, recurses := true, named := ["math/bits.deBruijn64tab"], apart := false, laid := [("math/bits.deBruijn64tab", laid_math_bits_deBruijn64tab)], narrowed := true }
def FnCompositionsUptoSaid : Prop := fnCompositionsUptoRow.holds Tryd.pinned (OpenSpec.upto fnCompositionsSpec)

/-- 'laws.FnMorphismImages', WHERE WHAT IT READS IS OF BULK AT MOST 1048576: true; the input reads as it did. -/
def fnMorphismImagesUptoRow : OpenClaim := { program := "ytpopepcmfanegaadoor", sum := "00f7c9341cb29458a638588fb1a547d73cd63e6b2a52638df36c2938ff961255", func := "loop.example/g01094/laws.FnMorphismImages", spec := "fnMorphismImages", unfollowed := true, recurses := true, named := ["math/bits.deBruijn64tab"], apart := false, laid := [("math/bits.deBruijn64tab", laid_math_bits_deBruijn64tab)], narrowed := true }
def FnMorphismImagesUptoSaid : Prop := fnMorphismImagesUptoRow.holds Tryd.pinned (OpenSpec.upto fnMorphismImagesSpec)

/-- 'laws.FnRoots', WHERE WHAT IT READS IS OF BULK AT MOST 1048576: true; the input reads as it did. -/
def fnRootsUptoRow : OpenClaim := { program := "ytpopepcmfanegaadoor", sum := "00f7c9341cb29458a638588fb1a547d73cd63e6b2a52638df36c2938ff961255", func := "loop.example/g01094/laws.FnRoots", spec := "fnRoots", unfollowed := true, recurses := true, named := ["math/bits.deBruijn64tab"], apart := false, laid := [("math/bits.deBruijn64tab", laid_math_bits_deBruijn64tab)], narrowed := true }
def FnRootsUptoSaid : Prop := fnRootsUptoRow.holds Tryd.pinned (OpenSpec.upto fnRootsSpec)

/-- 'laws.FnCommuting', WHERE WHAT IT READS IS OF BULK AT MOST 1048576: true; the input reads as it did. -/
def fnCommutingUptoRow : OpenClaim := { program := "ytpopepcmfanegaadoor", sum := "00f7c9341cb29458a638588fb1a547d73cd63e6b2a52638df36c2938ff961255", func := "loop.example/g01094/laws.FnCommuting", spec := "fnCommuting", unfollowed := true, recurses := true, named := ["math/bits.deBruijn64tab"], apart := false, laid := [("math/bits.deBruijn64tab", laid_math_bits_deBruijn64tab)], narrowed := true }
def FnCommutingUptoSaid : Prop := fnCommutingUptoRow.holds Tryd.pinned (OpenSpec.upto fnCommutingSpec)

/-- 'laws.FnConjugators', WHERE WHAT IT READS IS OF BULK AT MOST 1048576: true; the input reads as it did. -/
def fnConjugatorsUptoRow : OpenClaim := { program := "ytpopepcmfanegaadoor", sum := "00f7c9341cb29458a638588fb1a547d73cd63e6b2a52638df36c2938ff961255", func := "loop.example/g01094/laws.FnConjugators", spec := "fnConjugators", unfollowed := true, recurses := true, named := ["math/bits.deBruijn64tab"], apart := false, laid := [("math/bits.deBruijn64tab", laid_math_bits_deBruijn64tab)], narrowed := true }
def FnConjugatorsUptoSaid : Prop := fnConjugatorsUptoRow.holds Tryd.pinned (OpenSpec.upto fnConjugatorsSpec)

/-- 'laws.FnPreimages', WHERE WHAT IT READS IS OF BULK AT MOST 1048576: true; the input reads as it did. -/
def fnPreimagesUptoRow : OpenClaim := { program := "ytpopepcmfanegaadoor", sum := "00f7c9341cb29458a638588fb1a547d73cd63e6b2a52638df36c2938ff961255", func := "loop.example/g01094/laws.FnPreimages", spec := "fnPreimages", unfollowed := true, recurses := true, named := ["math/bits.deBruijn64tab"], apart := false, laid := [("math/bits.deBruijn64tab", laid_math_bits_deBruijn64tab)], narrowed := true }
def FnPreimagesUptoSaid : Prop := fnPreimagesUptoRow.holds Tryd.pinned (OpenSpec.upto fnPreimagesSpec)

end Rows
end Go.Proofs.YtpopepcmfanegaaDoor
