/-
  NARROWER THAN 'FOR EVERY INPUT', by the rows' own cells (each row's printed sentence says how): FnExactCountOfContent: laid · FnExactTraceAtRank: laid · FnExactCountLyndon: laid · FnExactRankOfTrace: laid · FnExactCyclicForm: laid · FnExactConjugatesOf: laid · FnContentCounts: laid · FnClassSizes: laid · FnRanks: laid.
  DERIVED. THE GIVEN ROWS OF THIS SEAT. 9 by the template 'for every input the law returns true; each argument reads behind the call as it read before'; 0 by the template 'total and deterministic' (their statements: YtihdeagknggeiaaDoorTotals.lean).
  GIVEN WITH THE SEED: the statements are not yours to turn. If you find one false, say at which input.
  Laid BY PROGRAM, IN A SANDBOX (cutbox-rows.mjs): the forced cells as the released guide's own fill.sh prints them over the translation 1586183ca6cee390… (all of the seat's roots in one cut). By AI agents, Wed Nov 11 2026. No macro, syntax, notation, axiom, sorry.
-/
import Derived.Test.YtihdeagknggeiaaDoorChecked
import GoSem.Claim
import GoSem.ClaimJoined
import GoSem.ClaimMapViews
import Derived.JoinedTies
import Derived.KernelRfl
namespace Go.Proofs.YtihdeagknggeiaaDoor
/- THE CELL 'sum', in the pinned program and in every row, IS THE sha256 OF THE DUMP (.gsa) THAT YtihdeagknggeiaaDoorProg.lean LOADS. Nothing in Lean hashes anything: it is a label: what it is worth is what the hold of that sum in a sandbox is worth. -/
noncomputable def Tryd.pinned : Pinned := { name := "ytihdeagknggeiaadoor", sum := "1586183ca6cee390c79209405a13169a120b9be9e80834210b0884237b2cc9d4", checked := Tryd.checked }
namespace Rows
def none {H : Type} : Left H := { results := [], args := [] }

/- WHAT THE LISTED PACKAGE-LEVEL VARIABLES READ AS WHEN THE CALL BEGINS. Each datum BY PROGRAM (the guide's laid-datum.mjs) off the statement by which the dump's own 'gosem.cut.vars' lays the variable. In a bare row this is a premise. The card (YtihdeagknggeiaaDoorCards.lean) ties it to the program's text. -/
def laid_math_bits_deBruijn64tab {H : Type} : DataW H := .agg [.lit (.int .u8 0), .lit (.int .u8 1), .lit (.int .u8 56), .lit (.int .u8 2), .lit (.int .u8 57), .lit (.int .u8 49), .lit (.int .u8 28), .lit (.int .u8 3), .lit (.int .u8 61), .lit (.int .u8 58), .lit (.int .u8 42), .lit (.int .u8 50), .lit (.int .u8 38), .lit (.int .u8 29), .lit (.int .u8 17), .lit (.int .u8 4), .lit (.int .u8 62), .lit (.int .u8 47), .lit (.int .u8 59), .lit (.int .u8 36), .lit (.int .u8 45), .lit (.int .u8 43), .lit (.int .u8 51), .lit (.int .u8 22), .lit (.int .u8 53), .lit (.int .u8 39), .lit (.int .u8 33), .lit (.int .u8 30), .lit (.int .u8 24), .lit (.int .u8 18), .lit (.int .u8 12), .lit (.int .u8 5), .lit (.int .u8 63), .lit (.int .u8 55), .lit (.int .u8 48), .lit (.int .u8 27), .lit (.int .u8 60), .lit (.int .u8 41), .lit (.int .u8 37), .lit (.int .u8 16), .lit (.int .u8 46), .lit (.int .u8 35), .lit (.int .u8 44), .lit (.int .u8 21), .lit (.int .u8 52), .lit (.int .u8 32), .lit (.int .u8 23), .lit (.int .u8 11), .lit (.int .u8 54), .lit (.int .u8 26), .lit (.int .u8 40), .lit (.int .u8 15), .lit (.int .u8 34), .lit (.int .u8 20), .lit (.int .u8 31), .lit (.int .u8 10), .lit (.int .u8 25), .lit (.int .u8 14), .lit (.int .u8 19), .lit (.int .u8 9), .lit (.int .u8 13), .lit (.int .u8 8), .lit (.int .u8 7), .lit (.int .u8 6)]

/-- 'laws.FnExactCountOfContent': WHATEVER THE INPUT: true; the input reads as it did. -/
def fnExactCountOfContentSpec : ChangeSpec := { name := "fnExactCountOfContent", fn := fun _ => fun
  | [d1, d2] => { results := [.lit (.bool true)], args := [d1, d2] }
  | _ => none }
def fnExactCountOfContentRow : OpenClaim := { program := "ytihdeagknggeiaadoor", sum := "1586183ca6cee390c79209405a13169a120b9be9e80834210b0884237b2cc9d4", func := "loop.example/g01094/laws.FnExactCountOfContent", spec := "fnExactCountOfContent", unfollowed := true, recurses := true, named := ["math/bits.deBruijn64tab"], plainKeys := false, apart := false, laid := [("math/bits.deBruijn64tab", laid_math_bits_deBruijn64tab)] }
def FnExactCountOfContentSaid : Prop := fnExactCountOfContentRow.holds Tryd.pinned (OpenSpec.ofChange fnExactCountOfContentSpec)

/-- ITS FALSE NEIGHBOUR: 'it returns false'. Refute it at one input. -/
def fnExactCountOfContentWrong : ChangeSpec := { name := "fnExactCountOfContent", fn := fun _ => fun
  | [d1, d2] => { results := [.lit (.bool false)], args := [d1, d2] }
  | _ => none }
def FnExactCountOfContentWrongFalsely : Prop := fnExactCountOfContentRow.holds Tryd.pinned (OpenSpec.ofChange fnExactCountOfContentWrong)

/-- 'laws.FnExactTraceAtRank': WHATEVER THE INPUT: true; the input reads as it did. -/
def fnExactTraceAtRankSpec : ChangeSpec := { name := "fnExactTraceAtRank", fn := fun _ => fun
  | [d1, d2, d3] => { results := [.lit (.bool true)], args := [d1, d2, d3] }
  | _ => none }
def fnExactTraceAtRankRow : OpenClaim := { program := "ytihdeagknggeiaadoor", sum := "1586183ca6cee390c79209405a13169a120b9be9e80834210b0884237b2cc9d4", func := "loop.example/g01094/laws.FnExactTraceAtRank", spec := "fnExactTraceAtRank", unfollowed := true, recurses := true, named := ["math/bits.deBruijn64tab"], plainKeys := false, apart := false, laid := [("math/bits.deBruijn64tab", laid_math_bits_deBruijn64tab)] }
def FnExactTraceAtRankSaid : Prop := fnExactTraceAtRankRow.holds Tryd.pinned (OpenSpec.ofChange fnExactTraceAtRankSpec)

/-- ITS FALSE NEIGHBOUR: 'it returns false'. Refute it at one input. -/
def fnExactTraceAtRankWrong : ChangeSpec := { name := "fnExactTraceAtRank", fn := fun _ => fun
  | [d1, d2, d3] => { results := [.lit (.bool false)], args := [d1, d2, d3] }
  | _ => none }
def FnExactTraceAtRankWrongFalsely : Prop := fnExactTraceAtRankRow.holds Tryd.pinned (OpenSpec.ofChange fnExactTraceAtRankWrong)

/-- 'laws.FnExactCountLyndon': WHATEVER THE INPUT: true; the input reads as it did. -/
def fnExactCountLyndonSpec : ChangeSpec := { name := "fnExactCountLyndon", fn := fun _ => fun
  | [d1, d2] => { results := [.lit (.bool true)], args := [d1, d2] }
  | _ => none }
def fnExactCountLyndonRow : OpenClaim := { program := "ytihdeagknggeiaadoor", sum := "1586183ca6cee390c79209405a13169a120b9be9e80834210b0884237b2cc9d4", func := "loop.example/g01094/laws.FnExactCountLyndon", spec := "fnExactCountLyndon", unfollowed := true, recurses := true, named := ["math/bits.deBruijn64tab"], plainKeys := false, apart := false, laid := [("math/bits.deBruijn64tab", laid_math_bits_deBruijn64tab)] }
def FnExactCountLyndonSaid : Prop := fnExactCountLyndonRow.holds Tryd.pinned (OpenSpec.ofChange fnExactCountLyndonSpec)

/-- ITS FALSE NEIGHBOUR: 'it returns false'. Refute it at one input. -/
def fnExactCountLyndonWrong : ChangeSpec := { name := "fnExactCountLyndon", fn := fun _ => fun
  | [d1, d2] => { results := [.lit (.bool false)], args := [d1, d2] }
  | _ => none }
def FnExactCountLyndonWrongFalsely : Prop := fnExactCountLyndonRow.holds Tryd.pinned (OpenSpec.ofChange fnExactCountLyndonWrong)

/-- 'laws.FnExactRankOfTrace': WHATEVER THE INPUT: true; the input reads as it did. -/
def fnExactRankOfTraceSpec : ChangeSpec := { name := "fnExactRankOfTrace", fn := fun _ => fun
  | [d1, d2] => { results := [.lit (.bool true)], args := [d1, d2] }
  | _ => none }
def fnExactRankOfTraceRow : OpenClaim := { program := "ytihdeagknggeiaadoor", sum := "1586183ca6cee390c79209405a13169a120b9be9e80834210b0884237b2cc9d4", func := "loop.example/g01094/laws.FnExactRankOfTrace", spec := "fnExactRankOfTrace", unfollowed := true, recurses := true, named := ["math/bits.deBruijn64tab"], plainKeys := false, apart := false, laid := [("math/bits.deBruijn64tab", laid_math_bits_deBruijn64tab)] }
def FnExactRankOfTraceSaid : Prop := fnExactRankOfTraceRow.holds Tryd.pinned (OpenSpec.ofChange fnExactRankOfTraceSpec)

/-- ITS FALSE NEIGHBOUR: 'it returns false'. Refute it at one input. -/
def fnExactRankOfTraceWrong : ChangeSpec := { name := "fnExactRankOfTrace", fn := fun _ => fun
  | [d1, d2] => { results := [.lit (.bool false)], args := [d1, d2] }
  | _ => none }
def FnExactRankOfTraceWrongFalsely : Prop := fnExactRankOfTraceRow.holds Tryd.pinned (OpenSpec.ofChange fnExactRankOfTraceWrong)

/-- 'laws.FnExactCyclicForm': WHATEVER THE INPUT: true; the input reads as it did. -/
def fnExactCyclicFormSpec : ChangeSpec := { name := "fnExactCyclicForm", fn := fun _ => fun
  | [d1, d2] => { results := [.lit (.bool true)], args := [d1, d2] }
  | _ => none }
def fnExactCyclicFormRow : OpenClaim := { program := "ytihdeagknggeiaadoor", sum := "1586183ca6cee390c79209405a13169a120b9be9e80834210b0884237b2cc9d4", func := "loop.example/g01094/laws.FnExactCyclicForm", spec := "fnExactCyclicForm", unfollowed := true, recurses := true, named := ["math/bits.deBruijn64tab"], plainKeys := false, apart := false, laid := [("math/bits.deBruijn64tab", laid_math_bits_deBruijn64tab)] }
def FnExactCyclicFormSaid : Prop := fnExactCyclicFormRow.holds Tryd.pinned (OpenSpec.ofChange fnExactCyclicFormSpec)

/-- ITS FALSE NEIGHBOUR: 'it returns false'. Refute it at one input. -/
def fnExactCyclicFormWrong : ChangeSpec := { name := "fnExactCyclicForm", fn := fun _ => fun
  | [d1, d2] => { results := [.lit (.bool false)], args := [d1, d2] }
  | _ => none }
def FnExactCyclicFormWrongFalsely : Prop := fnExactCyclicFormRow.holds Tryd.pinned (OpenSpec.ofChange fnExactCyclicFormWrong)

/-- 'laws.FnExactConjugatesOf': WHATEVER THE INPUT: true; the input reads as it did. -/
def fnExactConjugatesOfSpec : ChangeSpec := { name := "fnExactConjugatesOf", fn := fun _ => fun
  | [d1, d2] => { results := [.lit (.bool true)], args := [d1, d2] }
  | _ => none }
def fnExactConjugatesOfRow : OpenClaim := { program := "ytihdeagknggeiaadoor", sum := "1586183ca6cee390c79209405a13169a120b9be9e80834210b0884237b2cc9d4", func := "loop.example/g01094/laws.FnExactConjugatesOf", spec := "fnExactConjugatesOf", unfollowed := true, recurses := true, named := ["math/bits.deBruijn64tab"], plainKeys := false, apart := false, laid := [("math/bits.deBruijn64tab", laid_math_bits_deBruijn64tab)] }
def FnExactConjugatesOfSaid : Prop := fnExactConjugatesOfRow.holds Tryd.pinned (OpenSpec.ofChange fnExactConjugatesOfSpec)

/-- ITS FALSE NEIGHBOUR: 'it returns false'. Refute it at one input. -/
def fnExactConjugatesOfWrong : ChangeSpec := { name := "fnExactConjugatesOf", fn := fun _ => fun
  | [d1, d2] => { results := [.lit (.bool false)], args := [d1, d2] }
  | _ => none }
def FnExactConjugatesOfWrongFalsely : Prop := fnExactConjugatesOfRow.holds Tryd.pinned (OpenSpec.ofChange fnExactConjugatesOfWrong)

/-- 'laws.FnContentCounts': WHATEVER THE INPUT: true; the input reads as it did. -/
def fnContentCountsSpec : ChangeSpec := { name := "fnContentCounts", fn := fun _ => fun
  | [d] => { results := [.lit (.bool true)], args := [d] }
  | _ => none }
def fnContentCountsRow : OpenClaim := { program := "ytihdeagknggeiaadoor", sum := "1586183ca6cee390c79209405a13169a120b9be9e80834210b0884237b2cc9d4", func := "loop.example/g01094/laws.FnContentCounts", spec := "fnContentCounts", unfollowed := true, recurses := true, named := ["math/bits.deBruijn64tab"], plainKeys := false, apart := false, laid := [("math/bits.deBruijn64tab", laid_math_bits_deBruijn64tab)] }
def FnContentCountsSaid : Prop := fnContentCountsRow.holds Tryd.pinned (OpenSpec.ofChange fnContentCountsSpec)

/-- ITS FALSE NEIGHBOUR: 'it returns false'. Refute it at one input. -/
def fnContentCountsWrong : ChangeSpec := { name := "fnContentCounts", fn := fun _ => fun
  | [d] => { results := [.lit (.bool false)], args := [d] }
  | _ => none }
def FnContentCountsWrongFalsely : Prop := fnContentCountsRow.holds Tryd.pinned (OpenSpec.ofChange fnContentCountsWrong)

/-- 'laws.FnClassSizes': WHATEVER THE INPUT: true; the input reads as it did. -/
def fnClassSizesSpec : ChangeSpec := { name := "fnClassSizes", fn := fun _ => fun
  | [d] => { results := [.lit (.bool true)], args := [d] }
  | _ => none }
def fnClassSizesRow : OpenClaim := { program := "ytihdeagknggeiaadoor", sum := "1586183ca6cee390c79209405a13169a120b9be9e80834210b0884237b2cc9d4", func := "loop.example/g01094/laws.FnClassSizes", spec := "fnClassSizes", unfollowed := true, recurses := true, named := ["math/bits.deBruijn64tab"], plainKeys := false, apart := false, laid := [("math/bits.deBruijn64tab", laid_math_bits_deBruijn64tab)] }
def FnClassSizesSaid : Prop := fnClassSizesRow.holds Tryd.pinned (OpenSpec.ofChange fnClassSizesSpec)

/-- ITS FALSE NEIGHBOUR: 'it returns false'. Refute it at one input. -/
def fnClassSizesWrong : ChangeSpec := { name := "fnClassSizes", fn := fun _ => fun
  | [d] => { results := [.lit (.bool false)], args := [d] }
  | _ => none }
def FnClassSizesWrongFalsely : Prop := fnClassSizesRow.holds Tryd.pinned (OpenSpec.ofChange fnClassSizesWrong)

/-- 'laws.FnRanks': WHATEVER THE INPUT: true; the input reads as it did. -/
def fnRanksSpec : ChangeSpec := { name := "fnRanks", fn := fun _ => fun
  | [d] => { results := [.lit (.bool true)], args := [d] }
  | _ => none }
def fnRanksRow : OpenClaim := { program := "ytihdeagknggeiaadoor", sum := "1586183ca6cee390c79209405a13169a120b9be9e80834210b0884237b2cc9d4", func := "loop.example/g01094/laws.FnRanks", spec := "fnRanks", unfollowed := true, recurses := true, named := ["math/bits.deBruijn64tab"], plainKeys := false, apart := false, laid := [("math/bits.deBruijn64tab", laid_math_bits_deBruijn64tab)] }
def FnRanksSaid : Prop := fnRanksRow.holds Tryd.pinned (OpenSpec.ofChange fnRanksSpec)

/-- ITS FALSE NEIGHBOUR: 'it returns false'. Refute it at one input. -/
def fnRanksWrong : ChangeSpec := { name := "fnRanks", fn := fun _ => fun
  | [d] => { results := [.lit (.bool false)], args := [d] }
  | _ => none }
def FnRanksWrongFalsely : Prop := fnRanksRow.holds Tryd.pinned (OpenSpec.ofChange fnRanksWrong)

/- THE SECOND FORM. 'bulk': how many values and letters a reading holds, each counted each time it is reached (what is shared counts as often as it is met; a slice's spare places count too). A statement '..UptoSaid' is the law's where the arguments, and the package variables that the reading takes, are together of bulk at most 1048576: NARROWER than '..Said'. Prove '..Said' where nothing that the law and all that it calls make is longer than what came in: it says more and counts as full. Else prove '..UptoSaid'. A law counts once. -/
mutual
def uptoBulk {H : Type} : DataW H → Nat
  | .lit (.string bytes) => bytes.length + 1
  | .lit _ => 1
  | .nil => 1
  | .ptr d => uptoBulk d + 1
  | .slice elems spare => uptoBulkAll elems + uptoBulkAll spare + 1
  | .agg parts => uptoBulkAll parts + 1
  | .iface _ d => uptoBulk d + 1
  | .map entries => uptoBulkEntries entries + 1
  | .held _ => 1
def uptoBulkAll {H : Type} : List (DataW H) → Nat
  | [] => 0
  | d :: r => uptoBulk d + uptoBulkAll r
def uptoBulkEntries {H : Type} : List (Lit × DataW H) → Nat
  | [] => 0
  | x :: r => uptoBulkEntry x + uptoBulkEntries r
def uptoBulkEntry {H : Type} : Lit × DataW H → Nat
  | (.string bytes, d) => bytes.length + uptoBulk d + 1
  | (_, d) => uptoBulk d + 1
 end
def uptoSmall : (H : Type) → List (DataW H) → Bool := fun _ ds => decide (uptoBulkAll ds ≤ 1048576)
def OpenSpec.upto (s : _root_.Go.ChangeSpec) : _root_.Go.OpenSpec := { _root_.Go.OpenSpec.ofChange s with cond := some uptoSmall }

/-- 'laws.FnExactCountOfContent', WHERE WHAT IT READS IS OF BULK AT MOST 1048576: true; the input reads as it did. -/
def fnExactCountOfContentUptoRow : OpenClaim := { program := "ytihdeagknggeiaadoor", sum := "1586183ca6cee390c79209405a13169a120b9be9e80834210b0884237b2cc9d4", func := "loop.example/g01094/laws.FnExactCountOfContent", spec := "fnExactCountOfContent", unfollowed := true, recurses := true, named := ["math/bits.deBruijn64tab"], plainKeys := false, apart := false, laid := [("math/bits.deBruijn64tab", laid_math_bits_deBruijn64tab)], narrowed := true }
def FnExactCountOfContentUptoSaid : Prop := fnExactCountOfContentUptoRow.holds Tryd.pinned (OpenSpec.upto fnExactCountOfContentSpec)

/-- 'laws.FnExactTraceAtRank', WHERE WHAT IT READS IS OF BULK AT MOST 1048576: true; the input reads as it did. -/
def fnExactTraceAtRankUptoRow : OpenClaim := { program := "ytihdeagknggeiaadoor", sum := "1586183ca6cee390c79209405a13169a120b9be9e80834210b0884237b2cc9d4", func := "loop.example/g01094/laws.FnExactTraceAtRank", spec := "fnExactTraceAtRank", unfollowed := true, recurses := true, named := ["math/bits.deBruijn64tab"], plainKeys := false, apart := false, laid := [("math/bits.deBruijn64tab", laid_math_bits_deBruijn64tab)], narrowed := true }
def FnExactTraceAtRankUptoSaid : Prop := fnExactTraceAtRankUptoRow.holds Tryd.pinned (OpenSpec.upto fnExactTraceAtRankSpec)

/-- 'laws.FnExactCountLyndon', WHERE WHAT IT READS IS OF BULK AT MOST 1048576: true; the input reads as it did. -/
def fnExactCountLyndonUptoRow : OpenClaim := { program := "ytihdeagknggeiaadoor", sum := "1586183ca6cee390c79209405a13169a120b9be9e80834210b0884237b2cc9d4", func := "loop.example/g01094/laws.FnExactCountLyndon", spec := "fnExactCountLyndon", unfollowed := true, recurses := true, named := ["math/bits.deBruijn64tab"], plainKeys := false, apart := false, laid := [("math/bits.deBruijn64tab", laid_math_bits_deBruijn64tab)], narrowed := true }
def FnExactCountLyndonUptoSaid : Prop := fnExactCountLyndonUptoRow.holds Tryd.pinned (OpenSpec.upto fnExactCountLyndonSpec)

/-- 'laws.FnExactRankOfTrace', WHERE WHAT IT READS IS OF BULK AT MOST 1048576: true; the input reads as it did. -/
def fnExactRankOfTraceUptoRow : OpenClaim := { program := "ytihdeagknggeiaadoor", sum := "1586183ca6cee390c79209405a13169a120b9be9e80834210b0884237b2cc9d4", func := "loop.example/g01094/laws.FnExactRankOfTrace", spec := "fnExactRankOfTrace", unfollowed := true, recurses := true, named := ["math/bits.deBruijn64tab"], plainKeys := false, apart := false, laid := [("math/bits.deBruijn64tab", laid_math_bits_deBruijn64tab)], narrowed := true }
def FnExactRankOfTraceUptoSaid : Prop := fnExactRankOfTraceUptoRow.holds Tryd.pinned (OpenSpec.upto fnExactRankOfTraceSpec)

/-- 'laws.FnExactCyclicForm', WHERE WHAT IT READS IS OF BULK AT MOST 1048576: true; the input reads as it did. -/
def fnExactCyclicFormUptoRow : OpenClaim := { program := "ytihdeagknggeiaadoor", sum := "1586183ca6cee390c79209405a13169a120b9be9e80834210b0884237b2cc9d4", func := "loop.example/g01094/laws.FnExactCyclicForm", spec := "fnExactCyclicForm", unfollowed := true, recurses := true, named := ["math/bits.deBruijn64tab"], plainKeys := false, apart := false, laid := [("math/bits.deBruijn64tab", laid_math_bits_deBruijn64tab)], narrowed := true }
def FnExactCyclicFormUptoSaid : Prop := fnExactCyclicFormUptoRow.holds Tryd.pinned (OpenSpec.upto fnExactCyclicFormSpec)

/-- 'laws.FnExactConjugatesOf', WHERE WHAT IT READS IS OF BULK AT MOST 1048576: true; the input reads as it did. -/
def fnExactConjugatesOfUptoRow : OpenClaim := { program := "ytihdeagknggeiaadoor", sum := "1586183ca6cee390c79209405a13169a120b9be9e80834210b0884237b2cc9d4", func := "loop.example/g01094/laws.FnExactConjugatesOf", spec := "fnExactConjugatesOf", unfollowed := true, recurses := true, named := ["math/bits.deBruijn64tab"], plainKeys := false, apart := false, laid := [("math/bits.deBruijn64tab", laid_math_bits_deBruijn64tab)], narrowed := true }
def FnExactConjugatesOfUptoSaid : Prop := fnExactConjugatesOfUptoRow.holds Tryd.pinned (OpenSpec.upto fnExactConjugatesOfSpec)

/-- 'laws.FnContentCounts', WHERE WHAT IT READS IS OF BULK AT MOST 1048576: true; the input reads as it did. -/
def fnContentCountsUptoRow : OpenClaim := { program := "ytihdeagknggeiaadoor", sum := "1586183ca6cee390c79209405a13169a120b9be9e80834210b0884237b2cc9d4", func := "loop.example/g01094/laws.FnContentCounts", spec := "fnContentCounts", unfollowed := true, recurses := true, named := ["math/bits.deBruijn64tab"], plainKeys := false, apart := false, laid := [("math/bits.deBruijn64tab", laid_math_bits_deBruijn64tab)], narrowed := true }
def FnContentCountsUptoSaid : Prop := fnContentCountsUptoRow.holds Tryd.pinned (OpenSpec.upto fnContentCountsSpec)

/-- 'laws.FnClassSizes', WHERE WHAT IT READS IS OF BULK AT MOST 1048576: true; the input reads as it did. -/
def fnClassSizesUptoRow : OpenClaim := { program := "ytihdeagknggeiaadoor", sum := "1586183ca6cee390c79209405a13169a120b9be9e80834210b0884237b2cc9d4", func := "loop.example/g01094/laws.FnClassSizes", spec := "fnClassSizes", unfollowed := true, recurses := true, named := ["math/bits.deBruijn64tab"], plainKeys := false, apart := false, laid := [("math/bits.deBruijn64tab", laid_math_bits_deBruijn64tab)], narrowed := true }
def FnClassSizesUptoSaid : Prop := fnClassSizesUptoRow.holds Tryd.pinned (OpenSpec.upto fnClassSizesSpec)

/-- 'laws.FnRanks', WHERE WHAT IT READS IS OF BULK AT MOST 1048576: true; the input reads as it did. -/
def fnRanksUptoRow : OpenClaim := { program := "ytihdeagknggeiaadoor", sum := "1586183ca6cee390c79209405a13169a120b9be9e80834210b0884237b2cc9d4", func := "loop.example/g01094/laws.FnRanks", spec := "fnRanks", unfollowed := true, recurses := true, named := ["math/bits.deBruijn64tab"], plainKeys := false, apart := false, laid := [("math/bits.deBruijn64tab", laid_math_bits_deBruijn64tab)], narrowed := true }
def FnRanksUptoSaid : Prop := fnRanksUptoRow.holds Tryd.pinned (OpenSpec.upto fnRanksSpec)

end Rows
end Go.Proofs.YtihdeagknggeiaaDoor
