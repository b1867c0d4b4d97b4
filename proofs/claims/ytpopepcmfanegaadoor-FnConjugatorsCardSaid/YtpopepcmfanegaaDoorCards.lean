/-
  DERIVED. GIVEN WITH THE SEED: THE CARDS: each row of YtpopepcmfanegaaDoorRows.lean that lists a variable, with what it lists TIED to the program's text (the seventh form; the later family's looks); each row that meets fmt, with fmt's text TOLD by the authors' own Lean function (tested against real Go, not proved from fmt's source: count such statements apart). THE CARD IS WHAT COUNTS. Prove the row's statement (the work); the ties are given (YtpopepcmfanegaaDoorTie.lean); close each card by the builder's one call (the guide's Derived/Test/ToyasCard.lean, 'card_holds'). Laid BY PROGRAM, IN A SANDBOX (cutbox-door.mjs). By AI agents, Wed Nov 11 2026. No macro, syntax, notation, axiom, sorry.
-/
import Derived.Test.YtpopepcmfanegaaDoorRows
import GoSem.ClaimSeven
namespace Go.Proofs.YtpopepcmfanegaaDoor
namespace Rows

/-- THE TIED CARD OF 'laws.FnReverses'. -/
def fnReversesCard : Claim7 := { stood := { row := fnReversesRow, standIns := [], harness := (true, "760a3c098ee86915232f11a67c5563114fe002a2a2805ba5f4a5fb84f62ed54f"), looks := false }, kinds := [], alts := [], laidByText := true, laidKinds := [.data], laidTests := true, laidLooks := .later }
def FnReversesCardSaid : Prop := Claim7.holds Tryd.pinned (.plain (OpenSpec.ofChange fnReversesSpec)) fnReversesCard

/-- THE TIED CARD OF 'laws.FnCompositions'. -/
def fnCompositionsCard : Claim7 := { stood := { row := fnCompositionsRow, standIns := [], harness := (true, "760a3c098ee86915232f11a67c5563114fe002a2a2805ba5f4a5fb84f62ed54f"), looks := false }, kinds := [], alts := [], laidByText := true, laidKinds := [.data], laidTests := true, laidLooks := .later }
def FnCompositionsCardSaid : Prop := Claim7.holds Tryd.pinned (.plain (OpenSpec.ofChange fnCompositionsSpec)) fnCompositionsCard

/-- THE TIED CARD OF 'laws.FnMorphismImages'. -/
def fnMorphismImagesCard : Claim7 := { stood := { row := fnMorphismImagesRow, standIns := [], harness := (true, "760a3c098ee86915232f11a67c5563114fe002a2a2805ba5f4a5fb84f62ed54f"), looks := false }, kinds := [], alts := [], laidByText := true, laidKinds := [.data], laidTests := true, laidLooks := .later }
def FnMorphismImagesCardSaid : Prop := Claim7.holds Tryd.pinned (.plain (OpenSpec.ofChange fnMorphismImagesSpec)) fnMorphismImagesCard

/-- THE TIED CARD OF 'laws.FnRoots'. -/
def fnRootsCard : Claim7 := { stood := { row := fnRootsRow, standIns := [], harness := (true, "760a3c098ee86915232f11a67c5563114fe002a2a2805ba5f4a5fb84f62ed54f"), looks := false }, kinds := [], alts := [], laidByText := true, laidKinds := [.data], laidTests := true, laidLooks := .later }
def FnRootsCardSaid : Prop := Claim7.holds Tryd.pinned (.plain (OpenSpec.ofChange fnRootsSpec)) fnRootsCard

/-- THE TIED CARD OF 'laws.FnCommuting'. -/
def fnCommutingCard : Claim7 := { stood := { row := fnCommutingRow, standIns := [], harness := (true, "760a3c098ee86915232f11a67c5563114fe002a2a2805ba5f4a5fb84f62ed54f"), looks := false }, kinds := [], alts := [], laidByText := true, laidKinds := [.data], laidTests := true, laidLooks := .later }
def FnCommutingCardSaid : Prop := Claim7.holds Tryd.pinned (.plain (OpenSpec.ofChange fnCommutingSpec)) fnCommutingCard

/-- THE TIED CARD OF 'laws.FnConjugators'. -/
def fnConjugatorsCard : Claim7 := { stood := { row := fnConjugatorsRow, standIns := [], harness := (true, "760a3c098ee86915232f11a67c5563114fe002a2a2805ba5f4a5fb84f62ed54f"), looks := false }, kinds := [], alts := [], laidByText := true, laidKinds := [.data], laidTests := true, laidLooks := .later }
def FnConjugatorsCardSaid : Prop := Claim7.holds Tryd.pinned (.plain (OpenSpec.ofChange fnConjugatorsSpec)) fnConjugatorsCard

/-- THE TIED CARD OF 'laws.FnPreimages'. -/
def fnPreimagesCard : Claim7 := { stood := { row := fnPreimagesRow, standIns := [], harness := (true, "760a3c098ee86915232f11a67c5563114fe002a2a2805ba5f4a5fb84f62ed54f"), looks := false }, kinds := [], alts := [], laidByText := true, laidKinds := [.data], laidTests := true, laidLooks := .later }
def FnPreimagesCardSaid : Prop := Claim7.holds Tryd.pinned (.plain (OpenSpec.ofChange fnPreimagesSpec)) fnPreimagesCard

/-- THE SECOND FORM's CARD OF 'laws.FnReverses'. -/
def fnReversesUptoCard : Claim7 := { stood := { row := fnReversesUptoRow, standIns := [], harness := (true, "760a3c098ee86915232f11a67c5563114fe002a2a2805ba5f4a5fb84f62ed54f"), looks := false }, kinds := [], alts := [], laidByText := true, laidKinds := [.data], laidTests := true, laidLooks := .later }
def FnReversesUptoCardSaid : Prop := Claim7.holds Tryd.pinned (.plain (OpenSpec.upto fnReversesSpec)) fnReversesUptoCard

/-- THE SECOND FORM's CARD OF 'laws.FnCompositions'. -/
def fnCompositionsUptoCard : Claim7 := { stood := { row := fnCompositionsUptoRow, standIns := [], harness := (true, "760a3c098ee86915232f11a67c5563114fe002a2a2805ba5f4a5fb84f62ed54f"), looks := false }, kinds := [], alts := [], laidByText := true, laidKinds := [.data], laidTests := true, laidLooks := .later }
def FnCompositionsUptoCardSaid : Prop := Claim7.holds Tryd.pinned (.plain (OpenSpec.upto fnCompositionsSpec)) fnCompositionsUptoCard

/-- THE SECOND FORM's CARD OF 'laws.FnMorphismImages'. -/
def fnMorphismImagesUptoCard : Claim7 := { stood := { row := fnMorphismImagesUptoRow, standIns := [], harness := (true, "760a3c098ee86915232f11a67c5563114fe002a2a2805ba5f4a5fb84f62ed54f"), looks := false }, kinds := [], alts := [], laidByText := true, laidKinds := [.data], laidTests := true, laidLooks := .later }
def FnMorphismImagesUptoCardSaid : Prop := Claim7.holds Tryd.pinned (.plain (OpenSpec.upto fnMorphismImagesSpec)) fnMorphismImagesUptoCard

/-- THE SECOND FORM's CARD OF 'laws.FnRoots'. -/
def fnRootsUptoCard : Claim7 := { stood := { row := fnRootsUptoRow, standIns := [], harness := (true, "760a3c098ee86915232f11a67c5563114fe002a2a2805ba5f4a5fb84f62ed54f"), looks := false }, kinds := [], alts := [], laidByText := true, laidKinds := [.data], laidTests := true, laidLooks := .later }
def FnRootsUptoCardSaid : Prop := Claim7.holds Tryd.pinned (.plain (OpenSpec.upto fnRootsSpec)) fnRootsUptoCard

/-- THE SECOND FORM's CARD OF 'laws.FnCommuting'. -/
def fnCommutingUptoCard : Claim7 := { stood := { row := fnCommutingUptoRow, standIns := [], harness := (true, "760a3c098ee86915232f11a67c5563114fe002a2a2805ba5f4a5fb84f62ed54f"), looks := false }, kinds := [], alts := [], laidByText := true, laidKinds := [.data], laidTests := true, laidLooks := .later }
def FnCommutingUptoCardSaid : Prop := Claim7.holds Tryd.pinned (.plain (OpenSpec.upto fnCommutingSpec)) fnCommutingUptoCard

/-- THE SECOND FORM's CARD OF 'laws.FnConjugators'. -/
def fnConjugatorsUptoCard : Claim7 := { stood := { row := fnConjugatorsUptoRow, standIns := [], harness := (true, "760a3c098ee86915232f11a67c5563114fe002a2a2805ba5f4a5fb84f62ed54f"), looks := false }, kinds := [], alts := [], laidByText := true, laidKinds := [.data], laidTests := true, laidLooks := .later }
def FnConjugatorsUptoCardSaid : Prop := Claim7.holds Tryd.pinned (.plain (OpenSpec.upto fnConjugatorsSpec)) fnConjugatorsUptoCard

/-- THE SECOND FORM's CARD OF 'laws.FnPreimages'. -/
def fnPreimagesUptoCard : Claim7 := { stood := { row := fnPreimagesUptoRow, standIns := [], harness := (true, "760a3c098ee86915232f11a67c5563114fe002a2a2805ba5f4a5fb84f62ed54f"), looks := false }, kinds := [], alts := [], laidByText := true, laidKinds := [.data], laidTests := true, laidLooks := .later }
def FnPreimagesUptoCardSaid : Prop := Claim7.holds Tryd.pinned (.plain (OpenSpec.upto fnPreimagesSpec)) fnPreimagesUptoCard
end Rows
end Go.Proofs.YtpopepcmfanegaaDoor
