/-
  DERIVED. GIVEN WITH THE SEED: THE CARDS: each row of YtljhmkkmcbfffaaDoorRows.lean that lists a variable, with what it lists TIED to the program's text (the seventh form; the later family's looks); each row that meets fmt, with fmt's text TOLD by the authors' own Lean function (tested against real Go, not proved from fmt's source: count such statements apart). THE CARD IS WHAT COUNTS. Prove the row's statement (the work); the ties are given (YtljhmkkmcbfffaaDoorTie.lean); close each card by the builder's one call (the guide's Derived/Test/ToyasCard.lean, 'card_holds'). Laid BY PROGRAM, IN A SANDBOX (cutbox-door.mjs). By AI agents, Wed Nov 11 2026. No macro, syntax, notation, axiom, sorry.
-/
import Derived.Test.YtljhmkkmcbfffaaDoorRows
import GoSem.ClaimSeven
namespace Go.Proofs.YtljhmkkmcbfffaaDoor
namespace Rows

/-- THE TIED CARD OF 'laws.FnExactCountClass'. -/
def fnExactCountClassCard : Claim7 := { stood := { row := fnExactCountClassRow, standIns := [], harness := (true, "f866ac729d07ed6816350fc5b819df75096906f3d1191faf6f0e52df925c51fe"), looks := false }, kinds := [], alts := [], laidByText := true, laidKinds := [.data], laidTests := true, laidLooks := .later }
def FnExactCountClassCardSaid : Prop := Claim7.holds Tryd.pinned (.plain (OpenSpec.ofChange fnExactCountClassSpec)) fnExactCountClassCard

/-- THE TIED CARD OF 'laws.FnExactIsMorphism'. -/
def fnExactIsMorphismCard : Claim7 := { stood := { row := fnExactIsMorphismRow, standIns := [], harness := (true, "f866ac729d07ed6816350fc5b819df75096906f3d1191faf6f0e52df925c51fe"), looks := false }, kinds := [], alts := [], laidByText := true, laidKinds := [.data], laidTests := true, laidLooks := .later }
def FnExactIsMorphismCardSaid : Prop := Claim7.holds Tryd.pinned (.plain (OpenSpec.ofChange fnExactIsMorphismSpec)) fnExactIsMorphismCard

/-- THE TIED CARD OF 'laws.FnExactRankInClass'. -/
def fnExactRankInClassCard : Claim7 := { stood := { row := fnExactRankInClassRow, standIns := [], harness := (true, "f866ac729d07ed6816350fc5b819df75096906f3d1191faf6f0e52df925c51fe"), looks := false }, kinds := [], alts := [], laidByText := true, laidKinds := [.data], laidTests := true, laidLooks := .later }
def FnExactRankInClassCardSaid : Prop := Claim7.holds Tryd.pinned (.plain (OpenSpec.ofChange fnExactRankInClassSpec)) fnExactRankInClassCard

/-- THE TIED CARD OF 'laws.FnExactApplySymmetry'. -/
def fnExactApplySymmetryCard : Claim7 := { stood := { row := fnExactApplySymmetryRow, standIns := [], harness := (true, "f866ac729d07ed6816350fc5b819df75096906f3d1191faf6f0e52df925c51fe"), looks := false }, kinds := [], alts := [], laidByText := true, laidKinds := [.data], laidTests := true, laidLooks := .later }
def FnExactApplySymmetryCardSaid : Prop := Claim7.holds Tryd.pinned (.plain (OpenSpec.ofChange fnExactApplySymmetrySpec)) fnExactApplySymmetryCard

/-- THE TIED CARD OF 'laws.FnExactErasedLetters'. -/
def fnExactErasedLettersCard : Claim7 := { stood := { row := fnExactErasedLettersRow, standIns := [], harness := (true, "f866ac729d07ed6816350fc5b819df75096906f3d1191faf6f0e52df925c51fe"), looks := false }, kinds := [], alts := [], laidByText := true, laidKinds := [.data], laidTests := true, laidLooks := .later }
def FnExactErasedLettersCardSaid : Prop := Claim7.holds Tryd.pinned (.plain (OpenSpec.ofChange fnExactErasedLettersSpec)) fnExactErasedLettersCard

/-- THE TIED CARD OF 'laws.FnExactWordInClass'. -/
def fnExactWordInClassCard : Claim7 := { stood := { row := fnExactWordInClassRow, standIns := [], harness := (true, "f866ac729d07ed6816350fc5b819df75096906f3d1191faf6f0e52df925c51fe"), looks := false }, kinds := [], alts := [], laidByText := true, laidKinds := [.data], laidTests := true, laidLooks := .later }
def FnExactWordInClassCardSaid : Prop := Claim7.holds Tryd.pinned (.plain (OpenSpec.ofChange fnExactWordInClassSpec)) fnExactWordInClassCard

/-- THE TIED CARD OF 'laws.FnExactImageOf'. -/
def fnExactImageOfCard : Claim7 := { stood := { row := fnExactImageOfRow, standIns := [], harness := (true, "f866ac729d07ed6816350fc5b819df75096906f3d1191faf6f0e52df925c51fe"), looks := false }, kinds := [], alts := [], laidByText := true, laidKinds := [.data], laidTests := true, laidLooks := .later }
def FnExactImageOfCardSaid : Prop := Claim7.holds Tryd.pinned (.plain (OpenSpec.ofChange fnExactImageOfSpec)) fnExactImageOfCard

/-- THE TIED CARD OF 'laws.FnExactComposeMorphisms'. -/
def fnExactComposeMorphismsCard : Claim7 := { stood := { row := fnExactComposeMorphismsRow, standIns := [], harness := (true, "f866ac729d07ed6816350fc5b819df75096906f3d1191faf6f0e52df925c51fe"), looks := false }, kinds := [], alts := [], laidByText := true, laidKinds := [.data], laidTests := true, laidLooks := .later }
def FnExactComposeMorphismsCardSaid : Prop := Claim7.holds Tryd.pinned (.plain (OpenSpec.ofChange fnExactComposeMorphismsSpec)) fnExactComposeMorphismsCard

/-- THE TIED CARD OF 'laws.FnExactApplyRedex'. -/
def fnExactApplyRedexCard : Claim7 := { stood := { row := fnExactApplyRedexRow, standIns := [], harness := (true, "f866ac729d07ed6816350fc5b819df75096906f3d1191faf6f0e52df925c51fe"), looks := false }, kinds := [], alts := [], laidByText := true, laidKinds := [.data], laidTests := true, laidLooks := .later }
def FnExactApplyRedexCardSaid : Prop := Claim7.holds Tryd.pinned (.plain (OpenSpec.ofChange fnExactApplyRedexSpec)) fnExactApplyRedexCard

/-- THE TIED CARD OF 'laws.FnExactPreimagesOf'. -/
def fnExactPreimagesOfCard : Claim7 := { stood := { row := fnExactPreimagesOfRow, standIns := [], harness := (true, "f866ac729d07ed6816350fc5b819df75096906f3d1191faf6f0e52df925c51fe"), looks := false }, kinds := [], alts := [], laidByText := true, laidKinds := [.data], laidTests := true, laidLooks := .later }
def FnExactPreimagesOfCardSaid : Prop := Claim7.holds Tryd.pinned (.plain (OpenSpec.ofChange fnExactPreimagesOfSpec)) fnExactPreimagesOfCard

/-- THE TIED CARD OF 'laws.FnExactCollisionTo'. -/
def fnExactCollisionToCard : Claim7 := { stood := { row := fnExactCollisionToRow, standIns := [], harness := (true, "f866ac729d07ed6816350fc5b819df75096906f3d1191faf6f0e52df925c51fe"), looks := false }, kinds := [], alts := [], laidByText := true, laidKinds := [.data], laidTests := true, laidLooks := .later }
def FnExactCollisionToCardSaid : Prop := Claim7.holds Tryd.pinned (.plain (OpenSpec.ofChange fnExactCollisionToSpec)) fnExactCollisionToCard

/-- THE SECOND FORM's CARD OF 'laws.FnExactCountClass'. -/
def fnExactCountClassUptoCard : Claim7 := { stood := { row := fnExactCountClassUptoRow, standIns := [], harness := (true, "f866ac729d07ed6816350fc5b819df75096906f3d1191faf6f0e52df925c51fe"), looks := false }, kinds := [], alts := [], laidByText := true, laidKinds := [.data], laidTests := true, laidLooks := .later }
def FnExactCountClassUptoCardSaid : Prop := Claim7.holds Tryd.pinned (.plain (OpenSpec.upto fnExactCountClassSpec)) fnExactCountClassUptoCard

/-- THE SECOND FORM's CARD OF 'laws.FnExactIsMorphism'. -/
def fnExactIsMorphismUptoCard : Claim7 := { stood := { row := fnExactIsMorphismUptoRow, standIns := [], harness := (true, "f866ac729d07ed6816350fc5b819df75096906f3d1191faf6f0e52df925c51fe"), looks := false }, kinds := [], alts := [], laidByText := true, laidKinds := [.data], laidTests := true, laidLooks := .later }
def FnExactIsMorphismUptoCardSaid : Prop := Claim7.holds Tryd.pinned (.plain (OpenSpec.upto fnExactIsMorphismSpec)) fnExactIsMorphismUptoCard

/-- THE SECOND FORM's CARD OF 'laws.FnExactRankInClass'. -/
def fnExactRankInClassUptoCard : Claim7 := { stood := { row := fnExactRankInClassUptoRow, standIns := [], harness := (true, "f866ac729d07ed6816350fc5b819df75096906f3d1191faf6f0e52df925c51fe"), looks := false }, kinds := [], alts := [], laidByText := true, laidKinds := [.data], laidTests := true, laidLooks := .later }
def FnExactRankInClassUptoCardSaid : Prop := Claim7.holds Tryd.pinned (.plain (OpenSpec.upto fnExactRankInClassSpec)) fnExactRankInClassUptoCard

/-- THE SECOND FORM's CARD OF 'laws.FnExactApplySymmetry'. -/
def fnExactApplySymmetryUptoCard : Claim7 := { stood := { row := fnExactApplySymmetryUptoRow, standIns := [], harness := (true, "f866ac729d07ed6816350fc5b819df75096906f3d1191faf6f0e52df925c51fe"), looks := false }, kinds := [], alts := [], laidByText := true, laidKinds := [.data], laidTests := true, laidLooks := .later }
def FnExactApplySymmetryUptoCardSaid : Prop := Claim7.holds Tryd.pinned (.plain (OpenSpec.upto fnExactApplySymmetrySpec)) fnExactApplySymmetryUptoCard

/-- THE SECOND FORM's CARD OF 'laws.FnExactErasedLetters'. -/
def fnExactErasedLettersUptoCard : Claim7 := { stood := { row := fnExactErasedLettersUptoRow, standIns := [], harness := (true, "f866ac729d07ed6816350fc5b819df75096906f3d1191faf6f0e52df925c51fe"), looks := false }, kinds := [], alts := [], laidByText := true, laidKinds := [.data], laidTests := true, laidLooks := .later }
def FnExactErasedLettersUptoCardSaid : Prop := Claim7.holds Tryd.pinned (.plain (OpenSpec.upto fnExactErasedLettersSpec)) fnExactErasedLettersUptoCard

/-- THE SECOND FORM's CARD OF 'laws.FnExactWordInClass'. -/
def fnExactWordInClassUptoCard : Claim7 := { stood := { row := fnExactWordInClassUptoRow, standIns := [], harness := (true, "f866ac729d07ed6816350fc5b819df75096906f3d1191faf6f0e52df925c51fe"), looks := false }, kinds := [], alts := [], laidByText := true, laidKinds := [.data], laidTests := true, laidLooks := .later }
def FnExactWordInClassUptoCardSaid : Prop := Claim7.holds Tryd.pinned (.plain (OpenSpec.upto fnExactWordInClassSpec)) fnExactWordInClassUptoCard

/-- THE SECOND FORM's CARD OF 'laws.FnExactImageOf'. -/
def fnExactImageOfUptoCard : Claim7 := { stood := { row := fnExactImageOfUptoRow, standIns := [], harness := (true, "f866ac729d07ed6816350fc5b819df75096906f3d1191faf6f0e52df925c51fe"), looks := false }, kinds := [], alts := [], laidByText := true, laidKinds := [.data], laidTests := true, laidLooks := .later }
def FnExactImageOfUptoCardSaid : Prop := Claim7.holds Tryd.pinned (.plain (OpenSpec.upto fnExactImageOfSpec)) fnExactImageOfUptoCard

/-- THE SECOND FORM's CARD OF 'laws.FnExactComposeMorphisms'. -/
def fnExactComposeMorphismsUptoCard : Claim7 := { stood := { row := fnExactComposeMorphismsUptoRow, standIns := [], harness := (true, "f866ac729d07ed6816350fc5b819df75096906f3d1191faf6f0e52df925c51fe"), looks := false }, kinds := [], alts := [], laidByText := true, laidKinds := [.data], laidTests := true, laidLooks := .later }
def FnExactComposeMorphismsUptoCardSaid : Prop := Claim7.holds Tryd.pinned (.plain (OpenSpec.upto fnExactComposeMorphismsSpec)) fnExactComposeMorphismsUptoCard

/-- THE SECOND FORM's CARD OF 'laws.FnExactApplyRedex'. -/
def fnExactApplyRedexUptoCard : Claim7 := { stood := { row := fnExactApplyRedexUptoRow, standIns := [], harness := (true, "f866ac729d07ed6816350fc5b819df75096906f3d1191faf6f0e52df925c51fe"), looks := false }, kinds := [], alts := [], laidByText := true, laidKinds := [.data], laidTests := true, laidLooks := .later }
def FnExactApplyRedexUptoCardSaid : Prop := Claim7.holds Tryd.pinned (.plain (OpenSpec.upto fnExactApplyRedexSpec)) fnExactApplyRedexUptoCard

/-- THE SECOND FORM's CARD OF 'laws.FnExactPreimagesOf'. -/
def fnExactPreimagesOfUptoCard : Claim7 := { stood := { row := fnExactPreimagesOfUptoRow, standIns := [], harness := (true, "f866ac729d07ed6816350fc5b819df75096906f3d1191faf6f0e52df925c51fe"), looks := false }, kinds := [], alts := [], laidByText := true, laidKinds := [.data], laidTests := true, laidLooks := .later }
def FnExactPreimagesOfUptoCardSaid : Prop := Claim7.holds Tryd.pinned (.plain (OpenSpec.upto fnExactPreimagesOfSpec)) fnExactPreimagesOfUptoCard

/-- THE SECOND FORM's CARD OF 'laws.FnExactCollisionTo'. -/
def fnExactCollisionToUptoCard : Claim7 := { stood := { row := fnExactCollisionToUptoRow, standIns := [], harness := (true, "f866ac729d07ed6816350fc5b819df75096906f3d1191faf6f0e52df925c51fe"), looks := false }, kinds := [], alts := [], laidByText := true, laidKinds := [.data], laidTests := true, laidLooks := .later }
def FnExactCollisionToUptoCardSaid : Prop := Claim7.holds Tryd.pinned (.plain (OpenSpec.upto fnExactCollisionToSpec)) fnExactCollisionToUptoCard
end Rows
end Go.Proofs.YtljhmkkmcbfffaaDoor
