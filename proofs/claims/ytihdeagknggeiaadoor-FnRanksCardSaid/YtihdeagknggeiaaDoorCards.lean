/-
  DERIVED. GIVEN WITH THE SEED: THE CARDS: each row of YtihdeagknggeiaaDoorRows.lean that lists a variable, with what it lists TIED to the program's text (the seventh form; the later family's looks); each row that meets fmt, with fmt's text TOLD by the authors' own Lean function (tested against real Go, not proved from fmt's source: count such statements apart). THE CARD IS WHAT COUNTS. Prove the row's statement (the work); the ties are given (YtihdeagknggeiaaDoorTie.lean); close each card by the builder's one call (the guide's Derived/Test/ToyasCard.lean, 'card_holds'). Laid BY PROGRAM, IN A SANDBOX (cutbox-door.mjs). By AI agents, Wed Nov 11 2026. No macro, syntax, notation, axiom, sorry.
-/
import Derived.Test.YtihdeagknggeiaaDoorRows
import GoSem.ClaimSeven
namespace Go.Proofs.YtihdeagknggeiaaDoor
namespace Rows

/-- THE TIED CARD OF 'laws.FnExactCountOfContent'. -/
def fnExactCountOfContentCard : Claim7 := { stood := { row := fnExactCountOfContentRow, standIns := [], harness := (true, "6d368861f0f9e71b36fdb61ca174d303feeedbb98b53f934b4f7f3d50fcdba14"), looks := false }, kinds := [], alts := [], laidByText := true, laidKinds := [.data], laidTests := true, laidLooks := .later }
def FnExactCountOfContentCardSaid : Prop := Claim7.holds Tryd.pinned (.plain (OpenSpec.ofChange fnExactCountOfContentSpec)) fnExactCountOfContentCard

/-- THE TIED CARD OF 'laws.FnExactTraceAtRank'. -/
def fnExactTraceAtRankCard : Claim7 := { stood := { row := fnExactTraceAtRankRow, standIns := [], harness := (true, "6d368861f0f9e71b36fdb61ca174d303feeedbb98b53f934b4f7f3d50fcdba14"), looks := false }, kinds := [], alts := [], laidByText := true, laidKinds := [.data], laidTests := true, laidLooks := .later }
def FnExactTraceAtRankCardSaid : Prop := Claim7.holds Tryd.pinned (.plain (OpenSpec.ofChange fnExactTraceAtRankSpec)) fnExactTraceAtRankCard

/-- THE TIED CARD OF 'laws.FnExactCountLyndon'. -/
def fnExactCountLyndonCard : Claim7 := { stood := { row := fnExactCountLyndonRow, standIns := [], harness := (true, "6d368861f0f9e71b36fdb61ca174d303feeedbb98b53f934b4f7f3d50fcdba14"), looks := false }, kinds := [], alts := [], laidByText := true, laidKinds := [.data], laidTests := true, laidLooks := .later }
def FnExactCountLyndonCardSaid : Prop := Claim7.holds Tryd.pinned (.plain (OpenSpec.ofChange fnExactCountLyndonSpec)) fnExactCountLyndonCard

/-- THE TIED CARD OF 'laws.FnExactRankOfTrace'. -/
def fnExactRankOfTraceCard : Claim7 := { stood := { row := fnExactRankOfTraceRow, standIns := [], harness := (true, "6d368861f0f9e71b36fdb61ca174d303feeedbb98b53f934b4f7f3d50fcdba14"), looks := false }, kinds := [], alts := [], laidByText := true, laidKinds := [.data], laidTests := true, laidLooks := .later }
def FnExactRankOfTraceCardSaid : Prop := Claim7.holds Tryd.pinned (.plain (OpenSpec.ofChange fnExactRankOfTraceSpec)) fnExactRankOfTraceCard

/-- THE TIED CARD OF 'laws.FnExactCyclicForm'. -/
def fnExactCyclicFormCard : Claim7 := { stood := { row := fnExactCyclicFormRow, standIns := [], harness := (true, "6d368861f0f9e71b36fdb61ca174d303feeedbb98b53f934b4f7f3d50fcdba14"), looks := false }, kinds := [], alts := [], laidByText := true, laidKinds := [.data], laidTests := true, laidLooks := .later }
def FnExactCyclicFormCardSaid : Prop := Claim7.holds Tryd.pinned (.plain (OpenSpec.ofChange fnExactCyclicFormSpec)) fnExactCyclicFormCard

/-- THE TIED CARD OF 'laws.FnExactConjugatesOf'. -/
def fnExactConjugatesOfCard : Claim7 := { stood := { row := fnExactConjugatesOfRow, standIns := [], harness := (true, "6d368861f0f9e71b36fdb61ca174d303feeedbb98b53f934b4f7f3d50fcdba14"), looks := false }, kinds := [], alts := [], laidByText := true, laidKinds := [.data], laidTests := true, laidLooks := .later }
def FnExactConjugatesOfCardSaid : Prop := Claim7.holds Tryd.pinned (.plain (OpenSpec.ofChange fnExactConjugatesOfSpec)) fnExactConjugatesOfCard

/-- THE TIED CARD OF 'laws.FnContentCounts'. -/
def fnContentCountsCard : Claim7 := { stood := { row := fnContentCountsRow, standIns := [], harness := (true, "6d368861f0f9e71b36fdb61ca174d303feeedbb98b53f934b4f7f3d50fcdba14"), looks := false }, kinds := [], alts := [], laidByText := true, laidKinds := [.data], laidTests := true, laidLooks := .later }
def FnContentCountsCardSaid : Prop := Claim7.holds Tryd.pinned (.plain (OpenSpec.ofChange fnContentCountsSpec)) fnContentCountsCard

/-- THE TIED CARD OF 'laws.FnClassSizes'. -/
def fnClassSizesCard : Claim7 := { stood := { row := fnClassSizesRow, standIns := [], harness := (true, "6d368861f0f9e71b36fdb61ca174d303feeedbb98b53f934b4f7f3d50fcdba14"), looks := false }, kinds := [], alts := [], laidByText := true, laidKinds := [.data], laidTests := true, laidLooks := .later }
def FnClassSizesCardSaid : Prop := Claim7.holds Tryd.pinned (.plain (OpenSpec.ofChange fnClassSizesSpec)) fnClassSizesCard

/-- THE TIED CARD OF 'laws.FnRanks'. -/
def fnRanksCard : Claim7 := { stood := { row := fnRanksRow, standIns := [], harness := (true, "6d368861f0f9e71b36fdb61ca174d303feeedbb98b53f934b4f7f3d50fcdba14"), looks := false }, kinds := [], alts := [], laidByText := true, laidKinds := [.data], laidTests := true, laidLooks := .later }
def FnRanksCardSaid : Prop := Claim7.holds Tryd.pinned (.plain (OpenSpec.ofChange fnRanksSpec)) fnRanksCard

/-- THE SECOND FORM's CARD OF 'laws.FnExactCountOfContent'. -/
def fnExactCountOfContentUptoCard : Claim7 := { stood := { row := fnExactCountOfContentUptoRow, standIns := [], harness := (true, "6d368861f0f9e71b36fdb61ca174d303feeedbb98b53f934b4f7f3d50fcdba14"), looks := false }, kinds := [], alts := [], laidByText := true, laidKinds := [.data], laidTests := true, laidLooks := .later }
def FnExactCountOfContentUptoCardSaid : Prop := Claim7.holds Tryd.pinned (.plain (OpenSpec.upto fnExactCountOfContentSpec)) fnExactCountOfContentUptoCard

/-- THE SECOND FORM's CARD OF 'laws.FnExactTraceAtRank'. -/
def fnExactTraceAtRankUptoCard : Claim7 := { stood := { row := fnExactTraceAtRankUptoRow, standIns := [], harness := (true, "6d368861f0f9e71b36fdb61ca174d303feeedbb98b53f934b4f7f3d50fcdba14"), looks := false }, kinds := [], alts := [], laidByText := true, laidKinds := [.data], laidTests := true, laidLooks := .later }
def FnExactTraceAtRankUptoCardSaid : Prop := Claim7.holds Tryd.pinned (.plain (OpenSpec.upto fnExactTraceAtRankSpec)) fnExactTraceAtRankUptoCard

/-- THE SECOND FORM's CARD OF 'laws.FnExactCountLyndon'. -/
def fnExactCountLyndonUptoCard : Claim7 := { stood := { row := fnExactCountLyndonUptoRow, standIns := [], harness := (true, "6d368861f0f9e71b36fdb61ca174d303feeedbb98b53f934b4f7f3d50fcdba14"), looks := false }, kinds := [], alts := [], laidByText := true, laidKinds := [.data], laidTests := true, laidLooks := .later }
def FnExactCountLyndonUptoCardSaid : Prop := Claim7.holds Tryd.pinned (.plain (OpenSpec.upto fnExactCountLyndonSpec)) fnExactCountLyndonUptoCard

/-- THE SECOND FORM's CARD OF 'laws.FnExactRankOfTrace'. -/
def fnExactRankOfTraceUptoCard : Claim7 := { stood := { row := fnExactRankOfTraceUptoRow, standIns := [], harness := (true, "6d368861f0f9e71b36fdb61ca174d303feeedbb98b53f934b4f7f3d50fcdba14"), looks := false }, kinds := [], alts := [], laidByText := true, laidKinds := [.data], laidTests := true, laidLooks := .later }
def FnExactRankOfTraceUptoCardSaid : Prop := Claim7.holds Tryd.pinned (.plain (OpenSpec.upto fnExactRankOfTraceSpec)) fnExactRankOfTraceUptoCard

/-- THE SECOND FORM's CARD OF 'laws.FnExactCyclicForm'. -/
def fnExactCyclicFormUptoCard : Claim7 := { stood := { row := fnExactCyclicFormUptoRow, standIns := [], harness := (true, "6d368861f0f9e71b36fdb61ca174d303feeedbb98b53f934b4f7f3d50fcdba14"), looks := false }, kinds := [], alts := [], laidByText := true, laidKinds := [.data], laidTests := true, laidLooks := .later }
def FnExactCyclicFormUptoCardSaid : Prop := Claim7.holds Tryd.pinned (.plain (OpenSpec.upto fnExactCyclicFormSpec)) fnExactCyclicFormUptoCard

/-- THE SECOND FORM's CARD OF 'laws.FnExactConjugatesOf'. -/
def fnExactConjugatesOfUptoCard : Claim7 := { stood := { row := fnExactConjugatesOfUptoRow, standIns := [], harness := (true, "6d368861f0f9e71b36fdb61ca174d303feeedbb98b53f934b4f7f3d50fcdba14"), looks := false }, kinds := [], alts := [], laidByText := true, laidKinds := [.data], laidTests := true, laidLooks := .later }
def FnExactConjugatesOfUptoCardSaid : Prop := Claim7.holds Tryd.pinned (.plain (OpenSpec.upto fnExactConjugatesOfSpec)) fnExactConjugatesOfUptoCard

/-- THE SECOND FORM's CARD OF 'laws.FnContentCounts'. -/
def fnContentCountsUptoCard : Claim7 := { stood := { row := fnContentCountsUptoRow, standIns := [], harness := (true, "6d368861f0f9e71b36fdb61ca174d303feeedbb98b53f934b4f7f3d50fcdba14"), looks := false }, kinds := [], alts := [], laidByText := true, laidKinds := [.data], laidTests := true, laidLooks := .later }
def FnContentCountsUptoCardSaid : Prop := Claim7.holds Tryd.pinned (.plain (OpenSpec.upto fnContentCountsSpec)) fnContentCountsUptoCard

/-- THE SECOND FORM's CARD OF 'laws.FnClassSizes'. -/
def fnClassSizesUptoCard : Claim7 := { stood := { row := fnClassSizesUptoRow, standIns := [], harness := (true, "6d368861f0f9e71b36fdb61ca174d303feeedbb98b53f934b4f7f3d50fcdba14"), looks := false }, kinds := [], alts := [], laidByText := true, laidKinds := [.data], laidTests := true, laidLooks := .later }
def FnClassSizesUptoCardSaid : Prop := Claim7.holds Tryd.pinned (.plain (OpenSpec.upto fnClassSizesSpec)) fnClassSizesUptoCard

/-- THE SECOND FORM's CARD OF 'laws.FnRanks'. -/
def fnRanksUptoCard : Claim7 := { stood := { row := fnRanksUptoRow, standIns := [], harness := (true, "6d368861f0f9e71b36fdb61ca174d303feeedbb98b53f934b4f7f3d50fcdba14"), looks := false }, kinds := [], alts := [], laidByText := true, laidKinds := [.data], laidTests := true, laidLooks := .later }
def FnRanksUptoCardSaid : Prop := Claim7.holds Tryd.pinned (.plain (OpenSpec.upto fnRanksSpec)) fnRanksUptoCard
end Rows
end Go.Proofs.YtihdeagknggeiaaDoor
