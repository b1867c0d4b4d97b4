/-
  NARROWER THAN 'FOR EVERY INPUT', by the rows' own cells (each row's printed sentence says how): FnExactIsSignedWord: laid · FnExactIsSystem: laid · FnExactExponentsOf: laid · FnExactCountElements: laid · FnExactSymmetriesOf: laid.
  DERIVED. THE GIVEN ROWS OF THIS SEAT. 5 by the template 'for every input the law returns true; each argument reads behind the call as it read before'; 0 by the template 'total and deterministic' (their statements: YthlnahomjdcbeaaDoorTotals.lean).
  GIVEN WITH THE SEED: the statements are not yours to turn. If you find one false, say at which input.
  Laid BY PROGRAM, IN A SANDBOX (cutbox-rows.mjs): the forced cells as the released guide's own fill.sh prints them over the translation 8fb50f447fbf8fdf… (all of the seat's roots in one cut). By AI agents, Wed Nov 11 2026. No macro, syntax, notation, axiom, sorry.
-/
import Derived.Test.YthlnahomjdcbeaaDoorChecked
import GoSem.Claim
import GoSem.ClaimJoined
import GoSem.ClaimMapViews
import Derived.JoinedTies
import Derived.KernelRfl
namespace Go.Proofs.YthlnahomjdcbeaaDoor
/- THE CELL 'sum', in the pinned program and in every row, IS THE sha256 OF THE DUMP (.gsa) THAT YthlnahomjdcbeaaDoorProg.lean LOADS. Nothing in Lean hashes anything: it is a label: what it is worth is what the hold of that sum in a sandbox is worth. -/
noncomputable def Tryd.pinned : Pinned := { name := "ythlnahomjdcbeaadoor", sum := "8fb50f447fbf8fdfea9c5a0245b703cbf29ec0996aa40a09186aa6c7efd0265b", checked := Tryd.checked }
namespace Rows
def none {H : Type} : Left H := { results := [], args := [] }

/- WHAT THE LISTED PACKAGE-LEVEL VARIABLES READ AS WHEN THE CALL BEGINS. Each datum BY PROGRAM (the guide's laid-datum.mjs) off the statement by which the dump's own 'gosem.cut.vars' lays the variable. In a bare row this is a premise. The card (YthlnahomjdcbeaaDoorCards.lean) ties it to the program's text. -/
def laid_math_bits_deBruijn64tab {H : Type} : DataW H := .agg [.lit (.int .u8 0), .lit (.int .u8 1), .lit (.int .u8 56), .lit (.int .u8 2), .lit (.int .u8 57), .lit (.int .u8 49), .lit (.int .u8 28), .lit (.int .u8 3), .lit (.int .u8 61), .lit (.int .u8 58), .lit (.int .u8 42), .lit (.int .u8 50), .lit (.int .u8 38), .lit (.int .u8 29), .lit (.int .u8 17), .lit (.int .u8 4), .lit (.int .u8 62), .lit (.int .u8 47), .lit (.int .u8 59), .lit (.int .u8 36), .lit (.int .u8 45), .lit (.int .u8 43), .lit (.int .u8 51), .lit (.int .u8 22), .lit (.int .u8 53), .lit (.int .u8 39), .lit (.int .u8 33), .lit (.int .u8 30), .lit (.int .u8 24), .lit (.int .u8 18), .lit (.int .u8 12), .lit (.int .u8 5), .lit (.int .u8 63), .lit (.int .u8 55), .lit (.int .u8 48), .lit (.int .u8 27), .lit (.int .u8 60), .lit (.int .u8 41), .lit (.int .u8 37), .lit (.int .u8 16), .lit (.int .u8 46), .lit (.int .u8 35), .lit (.int .u8 44), .lit (.int .u8 21), .lit (.int .u8 52), .lit (.int .u8 32), .lit (.int .u8 23), .lit (.int .u8 11), .lit (.int .u8 54), .lit (.int .u8 26), .lit (.int .u8 40), .lit (.int .u8 15), .lit (.int .u8 34), .lit (.int .u8 20), .lit (.int .u8 31), .lit (.int .u8 10), .lit (.int .u8 25), .lit (.int .u8 14), .lit (.int .u8 19), .lit (.int .u8 9), .lit (.int .u8 13), .lit (.int .u8 8), .lit (.int .u8 7), .lit (.int .u8 6)]

/-- 'laws.FnExactIsSignedWord': WHATEVER THE INPUT: true; the input reads as it did. -/
def fnExactIsSignedWordSpec : ChangeSpec := { name := "fnExactIsSignedWord", fn := fun _ => fun
  | [d1, d2] => { results := [.lit (.bool true)], args := [d1, d2] }
  | _ => none }
def fnExactIsSignedWordRow : OpenClaim := { program := "ythlnahomjdcbeaadoor", sum := "8fb50f447fbf8fdfea9c5a0245b703cbf29ec0996aa40a09186aa6c7efd0265b", func := "loop.example/g01094/laws.FnExactIsSignedWord", spec := "fnExactIsSignedWord", unfollowed := true, recurses := true, named := ["math/bits.deBruijn64tab"], plainKeys := false, apart := false, laid := [("math/bits.deBruijn64tab", laid_math_bits_deBruijn64tab)] }
def FnExactIsSignedWordSaid : Prop := fnExactIsSignedWordRow.holds Tryd.pinned (OpenSpec.ofChange fnExactIsSignedWordSpec)

/-- ITS FALSE NEIGHBOUR: 'it returns false'. Refute it at one input. -/
def fnExactIsSignedWordWrong : ChangeSpec := { name := "fnExactIsSignedWord", fn := fun _ => fun
  | [d1, d2] => { results := [.lit (.bool false)], args := [d1, d2] }
  | _ => none }
def FnExactIsSignedWordWrongFalsely : Prop := fnExactIsSignedWordRow.holds Tryd.pinned (OpenSpec.ofChange fnExactIsSignedWordWrong)

/-- 'laws.FnExactIsSystem': WHATEVER THE INPUT: true; the input reads as it did. -/
def fnExactIsSystemSpec : ChangeSpec := { name := "fnExactIsSystem", fn := fun _ => fun
  | [d1, d2] => { results := [.lit (.bool true)], args := [d1, d2] }
  | _ => none }
def fnExactIsSystemRow : OpenClaim := { program := "ythlnahomjdcbeaadoor", sum := "8fb50f447fbf8fdfea9c5a0245b703cbf29ec0996aa40a09186aa6c7efd0265b", func := "loop.example/g01094/laws.FnExactIsSystem", spec := "fnExactIsSystem", unfollowed := true, recurses := true, named := ["math/bits.deBruijn64tab"], plainKeys := false, apart := false, laid := [("math/bits.deBruijn64tab", laid_math_bits_deBruijn64tab)] }
def FnExactIsSystemSaid : Prop := fnExactIsSystemRow.holds Tryd.pinned (OpenSpec.ofChange fnExactIsSystemSpec)

/-- ITS FALSE NEIGHBOUR: 'it returns false'. Refute it at one input. -/
def fnExactIsSystemWrong : ChangeSpec := { name := "fnExactIsSystem", fn := fun _ => fun
  | [d1, d2] => { results := [.lit (.bool false)], args := [d1, d2] }
  | _ => none }
def FnExactIsSystemWrongFalsely : Prop := fnExactIsSystemRow.holds Tryd.pinned (OpenSpec.ofChange fnExactIsSystemWrong)

/-- 'laws.FnExactExponentsOf': WHATEVER THE INPUT: true; the input reads as it did. -/
def fnExactExponentsOfSpec : ChangeSpec := { name := "fnExactExponentsOf", fn := fun _ => fun
  | [d1, d2] => { results := [.lit (.bool true)], args := [d1, d2] }
  | _ => none }
def fnExactExponentsOfRow : OpenClaim := { program := "ythlnahomjdcbeaadoor", sum := "8fb50f447fbf8fdfea9c5a0245b703cbf29ec0996aa40a09186aa6c7efd0265b", func := "loop.example/g01094/laws.FnExactExponentsOf", spec := "fnExactExponentsOf", unfollowed := true, recurses := true, named := ["math/bits.deBruijn64tab"], plainKeys := false, apart := false, laid := [("math/bits.deBruijn64tab", laid_math_bits_deBruijn64tab)] }
def FnExactExponentsOfSaid : Prop := fnExactExponentsOfRow.holds Tryd.pinned (OpenSpec.ofChange fnExactExponentsOfSpec)

/-- ITS FALSE NEIGHBOUR: 'it returns false'. Refute it at one input. -/
def fnExactExponentsOfWrong : ChangeSpec := { name := "fnExactExponentsOf", fn := fun _ => fun
  | [d1, d2] => { results := [.lit (.bool false)], args := [d1, d2] }
  | _ => none }
def FnExactExponentsOfWrongFalsely : Prop := fnExactExponentsOfRow.holds Tryd.pinned (OpenSpec.ofChange fnExactExponentsOfWrong)

/-- 'laws.FnExactCountElements': WHATEVER THE INPUT: true; the input reads as it did. -/
def fnExactCountElementsSpec : ChangeSpec := { name := "fnExactCountElements", fn := fun _ => fun
  | [d1, d2] => { results := [.lit (.bool true)], args := [d1, d2] }
  | _ => none }
def fnExactCountElementsRow : OpenClaim := { program := "ythlnahomjdcbeaadoor", sum := "8fb50f447fbf8fdfea9c5a0245b703cbf29ec0996aa40a09186aa6c7efd0265b", func := "loop.example/g01094/laws.FnExactCountElements", spec := "fnExactCountElements", unfollowed := true, recurses := true, named := ["math/bits.deBruijn64tab"], plainKeys := false, apart := false, laid := [("math/bits.deBruijn64tab", laid_math_bits_deBruijn64tab)] }
def FnExactCountElementsSaid : Prop := fnExactCountElementsRow.holds Tryd.pinned (OpenSpec.ofChange fnExactCountElementsSpec)

/-- ITS FALSE NEIGHBOUR: 'it returns false'. Refute it at one input. -/
def fnExactCountElementsWrong : ChangeSpec := { name := "fnExactCountElements", fn := fun _ => fun
  | [d1, d2] => { results := [.lit (.bool false)], args := [d1, d2] }
  | _ => none }
def FnExactCountElementsWrongFalsely : Prop := fnExactCountElementsRow.holds Tryd.pinned (OpenSpec.ofChange fnExactCountElementsWrong)

/-- 'laws.FnExactSymmetriesOf': WHATEVER THE INPUT: true; the input reads as it did. -/
def fnExactSymmetriesOfSpec : ChangeSpec := { name := "fnExactSymmetriesOf", fn := fun _ => fun
  | [d] => { results := [.lit (.bool true)], args := [d] }
  | _ => none }
def fnExactSymmetriesOfRow : OpenClaim := { program := "ythlnahomjdcbeaadoor", sum := "8fb50f447fbf8fdfea9c5a0245b703cbf29ec0996aa40a09186aa6c7efd0265b", func := "loop.example/g01094/laws.FnExactSymmetriesOf", spec := "fnExactSymmetriesOf", unfollowed := true, recurses := true, named := ["math/bits.deBruijn64tab"], plainKeys := false, apart := false, laid := [("math/bits.deBruijn64tab", laid_math_bits_deBruijn64tab)] }
def FnExactSymmetriesOfSaid : Prop := fnExactSymmetriesOfRow.holds Tryd.pinned (OpenSpec.ofChange fnExactSymmetriesOfSpec)

/-- ITS FALSE NEIGHBOUR: 'it returns false'. Refute it at one input. -/
def fnExactSymmetriesOfWrong : ChangeSpec := { name := "fnExactSymmetriesOf", fn := fun _ => fun
  | [d] => { results := [.lit (.bool false)], args := [d] }
  | _ => none }
def FnExactSymmetriesOfWrongFalsely : Prop := fnExactSymmetriesOfRow.holds Tryd.pinned (OpenSpec.ofChange fnExactSymmetriesOfWrong)

/- THE SECOND FORM. 'bulk': how many values and letters a reading holds, each counted each time it is reached (what is shared counts as often as it is met; a slice's spare places count too). A statement '..UptoSaid' is the law's where the arguments, and the package variables that the reading takes, are together of bulk at most 1048576: NARROWER than '..Said'. Prove '..Said' where nothing that the law and all that it calls make is longer than what came in: it says more and counts as full. Else prove '..UptoSaid'. A law counts once. -/
mutual
def uptoBulk {H : Type} : DataW H → Nat
  | .lit (.string bytes) => bytes.length + 1
  | .lit _ => 1
  | .nil => 1
  | .ptr d => uptoBulk d + 1
  | .slice elems spare => uptoBulkAll elems + uptoBulkAll spare + 1
  | .agg parts => uptoBulkAll parts + 1
  | .iface _ d => uptoBulk d + 1
  | .map entries => uptoBulkEntries entries + 1
  | .held _ => 1
def uptoBulkAll {H : Type} : List (DataW H) → Nat
  | [] => 0
  | d :: r => uptoBulk d + uptoBulkAll r
def uptoBulkEntries {H : Type} : List (Lit × DataW H) → Nat
  | [] => 0
  | x :: r => uptoBulkEntry x + uptoBulkEntries r
def uptoBulkEntry {H : Type} : Lit × DataW H → Nat
  | (.string bytes, d) => bytes.length + uptoBulk d + 1
  | (_, d) => uptoBulk d + 1
 end
def uptoSmall : (H : Type) → List (DataW H) → Bool := fun _ ds => decide (uptoBulkAll ds ≤ 1048576)
def OpenSpec.upto (s : _root_.Go.ChangeSpec) : _root_.Go.OpenSpec := { _root_.Go.OpenSpec.ofChange s with cond := some uptoSmall }

/-- 'laws.FnExactIsSignedWord', WHERE WHAT IT READS IS OF BULK AT MOST 1048576: true; the input reads as it did. -/
def fnExactIsSignedWordUptoRow : OpenClaim := { program := "ythlnahomjdcbeaadoor", sum := "8fb50f447fbf8fdfea9c5a0245b703cbf29ec0996aa40a09186aa6c7efd0265b", func := "loop.example/g01094/laws.FnExactIsSignedWord", spec := "fnExactIsSignedWord", unfollowed := true, recurses := true, named := ["math/bits.deBruijn64tab"], plainKeys := false, apart := false, laid := [("math/bits.deBruijn64tab", laid_math_bits_deBruijn64tab)], narrowed := true }
def FnExactIsSignedWordUptoSaid : Prop := fnExactIsSignedWordUptoRow.holds Tryd.pinned (OpenSpec.upto fnExactIsSignedWordSpec)

/-- 'laws.FnExactIsSystem', WHERE WHAT IT READS IS OF BULK AT MOST 1048576: true; the input reads as it did. -/
def fnExactIsSystemUptoRow : OpenClaim := { program := "ythlnahomjdcbeaadoor", sum := "8fb50f447fbf8fdfea9c5a0245b703cbf29ec0996aa40a09186aa6c7efd0265b", func := "loop.example/g01094/laws.FnExactIsSystem", spec := "fnExactIsSystem", unfollowed := true, recurses := true, named := ["math/bits.deBruijn64tab"], plainKeys := false, apart := false, laid := [("math/bits.deBruijn64tab", laid_math_bits_deBruijn64tab)], narrowed := true }
def FnExactIsSystemUptoSaid : Prop := fnExactIsSystemUptoRow.holds Tryd.pinned (OpenSpec.upto fnExactIsSystemSpec)

/-- 'laws.FnExactExponentsOf', WHERE WHAT IT READS IS OF BULK AT MOST 1048576: true; the input reads as it did. -/
def fnExactExponentsOfUptoRow : OpenClaim := { program := "ythlnahomjdcbeaadoor", sum := "8fb50f447fbf8fdfea9c5a0245b703cbf29ec0996aa40a09186aa6c7efd0265b", func := "loop.example/g01094/laws.FnExactExponentsOf", spec := "fnExactExponentsOf", unfollowed := true, recurses := true, named := ["math/bits.deBruijn64tab"], plainKeys := false, apart := false, laid := [("math/bits.deBruijn64tab", laid_math_bits_deBruijn64tab)], narrowed := true }
def FnExactExponentsOfUptoSaid : Prop := fnExactExponentsOfUptoRow.holds Tryd.pinned (OpenSpec.upto fnExactExponentsOfSpec)

/-- 'laws.FnExactCountElements', WHERE WHAT IT READS IS OF BULK AT MOST 1048576: true; the input reads as it did. -/
def fnExactCountElementsUptoRow : OpenClaim := { program := "ythlnahomjdcbeaadoor", sum := "8fb50f447fbf8fdfea9c5a0245b703cbf29ec0996aa40a09186aa6c7efd0265b", func := "loop.example/g01094/laws.FnExactCountElements", spec := "fnExactCountElements", unfollowed := true, recurses := true, named := ["math/bits.deBruijn64tab"], plainKeys := false, apart := false, laid := [("math/bits.deBruijn64tab", laid_math_bits_deBruijn64tab)], narrowed := true }
def FnExactCountElementsUptoSaid : Prop := fnExactCountElementsUptoRow.holds Tryd.pinned (OpenSpec.upto fnExactCountElementsSpec)

/-- 'laws.FnExactSymmetriesOf', WHERE WHAT IT READS IS OF BULK AT MOST 1048576: true; the input reads as it did. -/
def fnExactSymmetriesOfUptoRow : OpenClaim := { program := "ythlnahomjdcbeaadoor", sum := "8fb50f447fbf8fdfea9c5a0245b703cbf29ec0996aa40a09186aa6c7efd0265b", func := "loop.example/g01094/laws.FnExactSymmetriesOf", spec := "fnExactSymmetriesOf", unfollowed := true, recurses := true, named := ["math/bits.deBruijn64tab"], plainKeys := false, apart := false, laid := [("math/bits.deBruijn64tab", laid_math_bits_deBruijn64tab)], narrowed := true }
def FnExactSymmetriesOfUptoSaid : Prop := fnExactSymmetriesOfUptoRow.holds Tryd.pinned (OpenSpec.upto fnExactSymmetriesOfSpec)

end Rows
end Go.Proofs.YthlnahomjdcbeaaDoor
