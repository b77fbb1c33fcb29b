/-
  DERIVED. GIVEN WITH THE SEED: THE CARDS: each row of YtoljlbfjjemldaaDoorRows.lean that lists a variable, with what it lists TIED to the program's text (the seventh form; the later family's looks); each row that meets fmt, with fmt's text TOLD by the authors' own Lean function (tested against real Go, not proved from fmt's source: count such statements apart). THE CARD IS WHAT COUNTS. Prove the row's statement (the work); the ties are given (YtoljlbfjjemldaaDoorTie.lean); close each card by the builder's one call (the guide's Derived/Test/ToyasCard.lean, 'card_holds'). Laid BY PROGRAM, IN A SANDBOX (cutbox-door.mjs). By AI agents, Wed Nov 11 2026. No macro, syntax, notation, axiom, sorry.
-/
import Derived.Test.YtoljlbfjjemldaaDoorRows
import GoSem.ClaimSeven
namespace Go.Proofs.YtoljlbfjjemldaaDoor
namespace Rows

/-- THE TIED CARD OF 'coxlesslaw01.BitsWords'. -/
def bitsWordsCard : Claim7 := { stood := { row := bitsWordsRow, standIns := [], harness := (true, "3ba247ade358ec5e44c19e51b0759acef9d180ff79f38ed6348e89b67eead226"), looks := false }, kinds := [], alts := [], laidByText := true, laidKinds := [.wider, .wider, .wider, .wider], laidTests := true, laidLooks := .later }
def BitsWordsCardSaid : Prop := Claim7.holds Tryd.pinned (.plain (OpenSpec.ofChange bitsWordsSpec)) bitsWordsCard

/-- THE TIED CARD OF 'coxlesslaw01.BitsSigned'. -/
def bitsSignedCard : Claim7 := { stood := { row := bitsSignedRow, standIns := [], harness := (true, "3ba247ade358ec5e44c19e51b0759acef9d180ff79f38ed6348e89b67eead226"), looks := false }, kinds := [], alts := [], laidByText := true, laidKinds := [.wider, .wider, .wider, .wider], laidTests := true, laidLooks := .later }
def BitsSignedCardSaid : Prop := Claim7.holds Tryd.pinned (.plain (OpenSpec.ofChange bitsSignedSpec)) bitsSignedCard

/-- THE TIED CARD OF 'coxlesslaw01.BitsBack'. -/
def bitsBackCard : Claim7 := { stood := { row := bitsBackRow, standIns := [], harness := (true, "3ba247ade358ec5e44c19e51b0759acef9d180ff79f38ed6348e89b67eead226"), looks := false }, kinds := [], alts := [], laidByText := true, laidKinds := [.wider, .wider, .wider, .wider], laidTests := true, laidLooks := .later }
def BitsBackCardSaid : Prop := Claim7.holds Tryd.pinned (.plain (OpenSpec.ofChange bitsBackSpec)) bitsBackCard

/-- THE TIED CARD OF 'coxlesslaw01.BitsFields'. -/
def bitsFieldsCard : Claim7 := { stood := { row := bitsFieldsRow, standIns := [], harness := (true, "3ba247ade358ec5e44c19e51b0759acef9d180ff79f38ed6348e89b67eead226"), looks := false }, kinds := [], alts := [], laidByText := true, laidKinds := [.wider, .wider, .wider, .wider], laidTests := true, laidLooks := .later }
def BitsFieldsCardSaid : Prop := Claim7.holds Tryd.pinned (.plain (OpenSpec.ofChange bitsFieldsSpec)) bitsFieldsCard

/-- THE TIED CARD OF 'coxlesslaw01.BitsPuts'. -/
def bitsPutsCard : Claim7 := { stood := { row := bitsPutsRow, standIns := [], harness := (true, "3ba247ade358ec5e44c19e51b0759acef9d180ff79f38ed6348e89b67eead226"), looks := false }, kinds := [], alts := [], laidByText := true, laidKinds := [.wider, .wider, .wider, .wider], laidTests := true, laidLooks := .later }
def BitsPutsCardSaid : Prop := Claim7.holds Tryd.pinned (.plain (OpenSpec.ofChange bitsPutsSpec)) bitsPutsCard

/-- THE TIED CARD OF 'coxlesslaw01.BitsKnown'. -/
def bitsKnownCard : Claim7 := { stood := { row := bitsKnownRow, standIns := [], harness := (true, "3ba247ade358ec5e44c19e51b0759acef9d180ff79f38ed6348e89b67eead226"), looks := false }, kinds := [], alts := [], laidByText := true, laidKinds := [.wider, .wider, .wider, .wider], laidTests := true, laidLooks := .later }
def BitsKnownCardSaid : Prop := Claim7.holds Tryd.pinned (.plain (OpenSpec.ofChange bitsKnownSpec)) bitsKnownCard

/-- THE SECOND FORM's CARD OF 'coxlesslaw01.BitsWords'. -/
def bitsWordsUptoCard : Claim7 := { stood := { row := bitsWordsUptoRow, standIns := [], harness := (true, "3ba247ade358ec5e44c19e51b0759acef9d180ff79f38ed6348e89b67eead226"), looks := false }, kinds := [], alts := [], laidByText := true, laidKinds := [.wider, .wider, .wider, .wider], laidTests := true, laidLooks := .later }
def BitsWordsUptoCardSaid : Prop := Claim7.holds Tryd.pinned (.plain (OpenSpec.upto bitsWordsSpec)) bitsWordsUptoCard

/-- THE SECOND FORM's CARD OF 'coxlesslaw01.BitsSigned'. -/
def bitsSignedUptoCard : Claim7 := { stood := { row := bitsSignedUptoRow, standIns := [], harness := (true, "3ba247ade358ec5e44c19e51b0759acef9d180ff79f38ed6348e89b67eead226"), looks := false }, kinds := [], alts := [], laidByText := true, laidKinds := [.wider, .wider, .wider, .wider], laidTests := true, laidLooks := .later }
def BitsSignedUptoCardSaid : Prop := Claim7.holds Tryd.pinned (.plain (OpenSpec.upto bitsSignedSpec)) bitsSignedUptoCard

/-- THE SECOND FORM's CARD OF 'coxlesslaw01.BitsBack'. -/
def bitsBackUptoCard : Claim7 := { stood := { row := bitsBackUptoRow, standIns := [], harness := (true, "3ba247ade358ec5e44c19e51b0759acef9d180ff79f38ed6348e89b67eead226"), looks := false }, kinds := [], alts := [], laidByText := true, laidKinds := [.wider, .wider, .wider, .wider], laidTests := true, laidLooks := .later }
def BitsBackUptoCardSaid : Prop := Claim7.holds Tryd.pinned (.plain (OpenSpec.upto bitsBackSpec)) bitsBackUptoCard

/-- THE SECOND FORM's CARD OF 'coxlesslaw01.BitsFields'. -/
def bitsFieldsUptoCard : Claim7 := { stood := { row := bitsFieldsUptoRow, standIns := [], harness := (true, "3ba247ade358ec5e44c19e51b0759acef9d180ff79f38ed6348e89b67eead226"), looks := false }, kinds := [], alts := [], laidByText := true, laidKinds := [.wider, .wider, .wider, .wider], laidTests := true, laidLooks := .later }
def BitsFieldsUptoCardSaid : Prop := Claim7.holds Tryd.pinned (.plain (OpenSpec.upto bitsFieldsSpec)) bitsFieldsUptoCard

/-- THE SECOND FORM's CARD OF 'coxlesslaw01.BitsPuts'. -/
def bitsPutsUptoCard : Claim7 := { stood := { row := bitsPutsUptoRow, standIns := [], harness := (true, "3ba247ade358ec5e44c19e51b0759acef9d180ff79f38ed6348e89b67eead226"), looks := false }, kinds := [], alts := [], laidByText := true, laidKinds := [.wider, .wider, .wider, .wider], laidTests := true, laidLooks := .later }
def BitsPutsUptoCardSaid : Prop := Claim7.holds Tryd.pinned (.plain (OpenSpec.upto bitsPutsSpec)) bitsPutsUptoCard

/-- THE SECOND FORM's CARD OF 'coxlesslaw01.BitsKnown'. -/
def bitsKnownUptoCard : Claim7 := { stood := { row := bitsKnownUptoRow, standIns := [], harness := (true, "3ba247ade358ec5e44c19e51b0759acef9d180ff79f38ed6348e89b67eead226"), looks := false }, kinds := [], alts := [], laidByText := true, laidKinds := [.wider, .wider, .wider, .wider], laidTests := true, laidLooks := .later }
def BitsKnownUptoCardSaid : Prop := Claim7.holds Tryd.pinned (.plain (OpenSpec.upto bitsKnownSpec)) bitsKnownUptoCard
end Rows
end Go.Proofs.YtoljlbfjjemldaaDoor
