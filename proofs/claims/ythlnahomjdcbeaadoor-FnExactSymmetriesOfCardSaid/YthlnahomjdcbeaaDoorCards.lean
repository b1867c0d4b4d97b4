/-
  DERIVED. GIVEN WITH THE SEED: THE CARDS: each row of YthlnahomjdcbeaaDoorRows.lean that lists a variable, with what it lists TIED to the program's text (the seventh form; the later family's looks); each row that meets fmt, with fmt's text TOLD by the authors' own Lean function (tested against real Go, not proved from fmt's source: count such statements apart). THE CARD IS WHAT COUNTS. Prove the row's statement (the work); the ties are given (YthlnahomjdcbeaaDoorTie.lean); close each card by the builder's one call (the guide's Derived/Test/ToyasCard.lean, 'card_holds'). Laid BY PROGRAM, IN A SANDBOX (cutbox-door.mjs). By AI agents, Wed Nov 11 2026. No macro, syntax, notation, axiom, sorry.
-/
import Derived.Test.YthlnahomjdcbeaaDoorRows
import GoSem.ClaimSeven
namespace Go.Proofs.YthlnahomjdcbeaaDoor
namespace Rows

/-- THE TIED CARD OF 'laws.FnExactIsSignedWord'. -/
def fnExactIsSignedWordCard : Claim7 := { stood := { row := fnExactIsSignedWordRow, standIns := [], harness := (true, "3c1d35b028d122d839046eb22c2a2d601dd63d0ad1c5dbb8373a6ecc3dca9633"), looks := false }, kinds := [], alts := [], laidByText := true, laidKinds := [.data], laidTests := true, laidLooks := .later }
def FnExactIsSignedWordCardSaid : Prop := Claim7.holds Tryd.pinned (.plain (OpenSpec.ofChange fnExactIsSignedWordSpec)) fnExactIsSignedWordCard

/-- THE TIED CARD OF 'laws.FnExactIsSystem'. -/
def fnExactIsSystemCard : Claim7 := { stood := { row := fnExactIsSystemRow, standIns := [], harness := (true, "3c1d35b028d122d839046eb22c2a2d601dd63d0ad1c5dbb8373a6ecc3dca9633"), looks := false }, kinds := [], alts := [], laidByText := true, laidKinds := [.data], laidTests := true, laidLooks := .later }
def FnExactIsSystemCardSaid : Prop := Claim7.holds Tryd.pinned (.plain (OpenSpec.ofChange fnExactIsSystemSpec)) fnExactIsSystemCard

/-- THE TIED CARD OF 'laws.FnExactExponentsOf'. -/
def fnExactExponentsOfCard : Claim7 := { stood := { row := fnExactExponentsOfRow, standIns := [], harness := (true, "3c1d35b028d122d839046eb22c2a2d601dd63d0ad1c5dbb8373a6ecc3dca9633"), looks := false }, kinds := [], alts := [], laidByText := true, laidKinds := [.data], laidTests := true, laidLooks := .later }
def FnExactExponentsOfCardSaid : Prop := Claim7.holds Tryd.pinned (.plain (OpenSpec.ofChange fnExactExponentsOfSpec)) fnExactExponentsOfCard

/-- THE TIED CARD OF 'laws.FnExactCountElements'. -/
def fnExactCountElementsCard : Claim7 := { stood := { row := fnExactCountElementsRow, standIns := [], harness := (true, "3c1d35b028d122d839046eb22c2a2d601dd63d0ad1c5dbb8373a6ecc3dca9633"), looks := false }, kinds := [], alts := [], laidByText := true, laidKinds := [.data], laidTests := true, laidLooks := .later }
def FnExactCountElementsCardSaid : Prop := Claim7.holds Tryd.pinned (.plain (OpenSpec.ofChange fnExactCountElementsSpec)) fnExactCountElementsCard

/-- THE TIED CARD OF 'laws.FnExactSymmetriesOf'. -/
def fnExactSymmetriesOfCard : Claim7 := { stood := { row := fnExactSymmetriesOfRow, standIns := [], harness := (true, "3c1d35b028d122d839046eb22c2a2d601dd63d0ad1c5dbb8373a6ecc3dca9633"), looks := false }, kinds := [], alts := [], laidByText := true, laidKinds := [.data], laidTests := true, laidLooks := .later }
def FnExactSymmetriesOfCardSaid : Prop := Claim7.holds Tryd.pinned (.plain (OpenSpec.ofChange fnExactSymmetriesOfSpec)) fnExactSymmetriesOfCard

/-- THE SECOND FORM's CARD OF 'laws.FnExactIsSignedWord'. -/
def fnExactIsSignedWordUptoCard : Claim7 := { stood := { row := fnExactIsSignedWordUptoRow, standIns := [], harness := (true, "3c1d35b028d122d839046eb22c2a2d601dd63d0ad1c5dbb8373a6ecc3dca9633"), looks := false }, kinds := [], alts := [], laidByText := true, laidKinds := [.data], laidTests := true, laidLooks := .later }
def FnExactIsSignedWordUptoCardSaid : Prop := Claim7.holds Tryd.pinned (.plain (OpenSpec.upto fnExactIsSignedWordSpec)) fnExactIsSignedWordUptoCard

/-- THE SECOND FORM's CARD OF 'laws.FnExactIsSystem'. -/
def fnExactIsSystemUptoCard : Claim7 := { stood := { row := fnExactIsSystemUptoRow, standIns := [], harness := (true, "3c1d35b028d122d839046eb22c2a2d601dd63d0ad1c5dbb8373a6ecc3dca9633"), looks := false }, kinds := [], alts := [], laidByText := true, laidKinds := [.data], laidTests := true, laidLooks := .later }
def FnExactIsSystemUptoCardSaid : Prop := Claim7.holds Tryd.pinned (.plain (OpenSpec.upto fnExactIsSystemSpec)) fnExactIsSystemUptoCard

/-- THE SECOND FORM's CARD OF 'laws.FnExactExponentsOf'. -/
def fnExactExponentsOfUptoCard : Claim7 := { stood := { row := fnExactExponentsOfUptoRow, standIns := [], harness := (true, "3c1d35b028d122d839046eb22c2a2d601dd63d0ad1c5dbb8373a6ecc3dca9633"), looks := false }, kinds := [], alts := [], laidByText := true, laidKinds := [.data], laidTests := true, laidLooks := .later }
def FnExactExponentsOfUptoCardSaid : Prop := Claim7.holds Tryd.pinned (.plain (OpenSpec.upto fnExactExponentsOfSpec)) fnExactExponentsOfUptoCard

/-- THE SECOND FORM's CARD OF 'laws.FnExactCountElements'. -/
def fnExactCountElementsUptoCard : Claim7 := { stood := { row := fnExactCountElementsUptoRow, standIns := [], harness := (true, "3c1d35b028d122d839046eb22c2a2d601dd63d0ad1c5dbb8373a6ecc3dca9633"), looks := false }, kinds := [], alts := [], laidByText := true, laidKinds := [.data], laidTests := true, laidLooks := .later }
def FnExactCountElementsUptoCardSaid : Prop := Claim7.holds Tryd.pinned (.plain (OpenSpec.upto fnExactCountElementsSpec)) fnExactCountElementsUptoCard

/-- THE SECOND FORM's CARD OF 'laws.FnExactSymmetriesOf'. -/
def fnExactSymmetriesOfUptoCard : Claim7 := { stood := { row := fnExactSymmetriesOfUptoRow, standIns := [], harness := (true, "3c1d35b028d122d839046eb22c2a2d601dd63d0ad1c5dbb8373a6ecc3dca9633"), looks := false }, kinds := [], alts := [], laidByText := true, laidKinds := [.data], laidTests := true, laidLooks := .later }
def FnExactSymmetriesOfUptoCardSaid : Prop := Claim7.holds Tryd.pinned (.plain (OpenSpec.upto fnExactSymmetriesOfSpec)) fnExactSymmetriesOfUptoCard
end Rows
end Go.Proofs.YthlnahomjdcbeaaDoor
