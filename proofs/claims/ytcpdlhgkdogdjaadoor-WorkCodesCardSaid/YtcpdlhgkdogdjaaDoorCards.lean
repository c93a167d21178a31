/-
  DERIVED. GIVEN WITH THE SEED: THE CARDS: each row of YtcpdlhgkdogdjaaDoorRows.lean that lists a variable, with what it lists TIED to the program's text (the seventh form; the later family's looks); each row that meets fmt, with fmt's text TOLD by the authors' own Lean function (tested against real Go, not proved from fmt's source: count such statements apart). THE CARD IS WHAT COUNTS. Prove the row's statement (the work); the ties are given (YtcpdlhgkdogdjaaDoorTie.lean); close each card by the builder's one call (the guide's Derived/Test/ToyasCard.lean, 'card_holds'). Laid BY PROGRAM, IN A SANDBOX (cutbox-door.mjs). By AI agents, Wed Nov 11 2026. No macro, syntax, notation, axiom, sorry.
-/
import Derived.Test.YtcpdlhgkdogdjaaDoorRows
import GoSem.ClaimSeven
namespace Go.Proofs.YtcpdlhgkdogdjaaDoor
namespace Rows

/-- THE TIED CARD OF 'passimlaw07.WorkValid'. -/
def workValidCard : Claim7 := { stood := { row := workValidRow, standIns := [], harness := (true, "65551ad1ab69c19db8d19995d7ae2bc075f95ca09b3f76e8e3e4bbba0450a399"), looks := false }, kinds := [], alts := [], laidByText := true, laidKinds := [.data], laidTests := true, laidLooks := .later }
def WorkValidCardSaid : Prop := Claim7.holds Tryd.pinned (.plain (OpenSpec.ofChange workValidSpec)) workValidCard

/-- THE TIED CARD OF 'passimlaw07.WorkParts'. -/
def workPartsCard : Claim7 := { stood := { row := workPartsRow, standIns := [], harness := (true, "65551ad1ab69c19db8d19995d7ae2bc075f95ca09b3f76e8e3e4bbba0450a399"), looks := false }, kinds := [], alts := [], laidByText := true, laidKinds := [.data], laidTests := true, laidLooks := .later }
def WorkPartsCardSaid : Prop := Claim7.holds Tryd.pinned (.plain (OpenSpec.ofChange workPartsSpec)) workPartsCard

/-- THE TIED CARD OF 'passimlaw07.WorkReads'. -/
def workReadsCard : Claim7 := { stood := { row := workReadsRow, standIns := [], harness := (true, "65551ad1ab69c19db8d19995d7ae2bc075f95ca09b3f76e8e3e4bbba0450a399"), looks := false }, kinds := [], alts := [], laidByText := true, laidKinds := [.data], laidTests := true, laidLooks := .later }
def WorkReadsCardSaid : Prop := Claim7.holds Tryd.pinned (.plain (OpenSpec.ofChange workReadsSpec)) workReadsCard

/-- THE TIED CARD OF 'passimlaw07.WorkFinds'. -/
def workFindsCard : Claim7 := { stood := { row := workFindsRow, standIns := [], harness := (true, "65551ad1ab69c19db8d19995d7ae2bc075f95ca09b3f76e8e3e4bbba0450a399"), looks := false }, kinds := [], alts := [], laidByText := true, laidKinds := [.data], laidTests := true, laidLooks := .later }
def WorkFindsCardSaid : Prop := Claim7.holds Tryd.pinned (.plain (OpenSpec.ofChange workFindsSpec)) workFindsCard

/-- THE TIED CARD OF 'passimlaw07.WorkReading'. -/
def workReadingCard : Claim7 := { stood := { row := workReadingRow, standIns := [], harness := (true, "65551ad1ab69c19db8d19995d7ae2bc075f95ca09b3f76e8e3e4bbba0450a399"), looks := false }, kinds := [], alts := [], laidByText := true, laidKinds := [.data], laidTests := true, laidLooks := .later }
def WorkReadingCardSaid : Prop := Claim7.holds Tryd.pinned (.plain (OpenSpec.ofChange workReadingSpec)) workReadingCard

/-- THE TIED CARD OF 'passimlaw07.WorkCopies'. -/
def workCopiesCard : Claim7 := { stood := { row := workCopiesRow, standIns := [], harness := (true, "65551ad1ab69c19db8d19995d7ae2bc075f95ca09b3f76e8e3e4bbba0450a399"), looks := false }, kinds := [], alts := [], laidByText := true, laidKinds := [.data], laidTests := true, laidLooks := .later }
def WorkCopiesCardSaid : Prop := Claim7.holds Tryd.pinned (.plain (OpenSpec.ofChange workCopiesSpec)) workCopiesCard

/-- THE TIED CARD OF 'passimlaw07.WorkBack'. -/
def workBackCard : Claim7 := { stood := { row := workBackRow, standIns := [], harness := (true, "65551ad1ab69c19db8d19995d7ae2bc075f95ca09b3f76e8e3e4bbba0450a399"), looks := false }, kinds := [], alts := [], laidByText := true, laidKinds := [.data], laidTests := true, laidLooks := .later }
def WorkBackCardSaid : Prop := Claim7.holds Tryd.pinned (.plain (OpenSpec.ofChange workBackSpec)) workBackCard

/-- THE TIED CARD OF 'passimlaw07.WorkCodes'. -/
def workCodesCard : Claim7 := { stood := { row := workCodesRow, standIns := [], harness := (true, "65551ad1ab69c19db8d19995d7ae2bc075f95ca09b3f76e8e3e4bbba0450a399"), looks := false }, kinds := [], alts := [], laidByText := true, laidKinds := [.data, .data], laidTests := true, laidLooks := .later }
def WorkCodesCardSaid : Prop := Claim7.holds Tryd.pinned (.plain (OpenSpec.ofChange workCodesSpec)) workCodesCard

/-- THE SECOND FORM's CARD OF 'passimlaw07.WorkValid'. -/
def workValidUptoCard : Claim7 := { stood := { row := workValidUptoRow, standIns := [], harness := (true, "65551ad1ab69c19db8d19995d7ae2bc075f95ca09b3f76e8e3e4bbba0450a399"), looks := false }, kinds := [], alts := [], laidByText := true, laidKinds := [.data], laidTests := true, laidLooks := .later }
def WorkValidUptoCardSaid : Prop := Claim7.holds Tryd.pinned (.plain (OpenSpec.upto workValidSpec)) workValidUptoCard

/-- THE SECOND FORM's CARD OF 'passimlaw07.WorkParts'. -/
def workPartsUptoCard : Claim7 := { stood := { row := workPartsUptoRow, standIns := [], harness := (true, "65551ad1ab69c19db8d19995d7ae2bc075f95ca09b3f76e8e3e4bbba0450a399"), looks := false }, kinds := [], alts := [], laidByText := true, laidKinds := [.data], laidTests := true, laidLooks := .later }
def WorkPartsUptoCardSaid : Prop := Claim7.holds Tryd.pinned (.plain (OpenSpec.upto workPartsSpec)) workPartsUptoCard

/-- THE SECOND FORM's CARD OF 'passimlaw07.WorkReads'. -/
def workReadsUptoCard : Claim7 := { stood := { row := workReadsUptoRow, standIns := [], harness := (true, "65551ad1ab69c19db8d19995d7ae2bc075f95ca09b3f76e8e3e4bbba0450a399"), looks := false }, kinds := [], alts := [], laidByText := true, laidKinds := [.data], laidTests := true, laidLooks := .later }
def WorkReadsUptoCardSaid : Prop := Claim7.holds Tryd.pinned (.plain (OpenSpec.upto workReadsSpec)) workReadsUptoCard

/-- THE SECOND FORM's CARD OF 'passimlaw07.WorkFinds'. -/
def workFindsUptoCard : Claim7 := { stood := { row := workFindsUptoRow, standIns := [], harness := (true, "65551ad1ab69c19db8d19995d7ae2bc075f95ca09b3f76e8e3e4bbba0450a399"), looks := false }, kinds := [], alts := [], laidByText := true, laidKinds := [.data], laidTests := true, laidLooks := .later }
def WorkFindsUptoCardSaid : Prop := Claim7.holds Tryd.pinned (.plain (OpenSpec.upto workFindsSpec)) workFindsUptoCard

/-- THE SECOND FORM's CARD OF 'passimlaw07.WorkReading'. -/
def workReadingUptoCard : Claim7 := { stood := { row := workReadingUptoRow, standIns := [], harness := (true, "65551ad1ab69c19db8d19995d7ae2bc075f95ca09b3f76e8e3e4bbba0450a399"), looks := false }, kinds := [], alts := [], laidByText := true, laidKinds := [.data], laidTests := true, laidLooks := .later }
def WorkReadingUptoCardSaid : Prop := Claim7.holds Tryd.pinned (.plain (OpenSpec.upto workReadingSpec)) workReadingUptoCard

/-- THE SECOND FORM's CARD OF 'passimlaw07.WorkCopies'. -/
def workCopiesUptoCard : Claim7 := { stood := { row := workCopiesUptoRow, standIns := [], harness := (true, "65551ad1ab69c19db8d19995d7ae2bc075f95ca09b3f76e8e3e4bbba0450a399"), looks := false }, kinds := [], alts := [], laidByText := true, laidKinds := [.data], laidTests := true, laidLooks := .later }
def WorkCopiesUptoCardSaid : Prop := Claim7.holds Tryd.pinned (.plain (OpenSpec.upto workCopiesSpec)) workCopiesUptoCard

/-- THE SECOND FORM's CARD OF 'passimlaw07.WorkBack'. -/
def workBackUptoCard : Claim7 := { stood := { row := workBackUptoRow, standIns := [], harness := (true, "65551ad1ab69c19db8d19995d7ae2bc075f95ca09b3f76e8e3e4bbba0450a399"), looks := false }, kinds := [], alts := [], laidByText := true, laidKinds := [.data], laidTests := true, laidLooks := .later }
def WorkBackUptoCardSaid : Prop := Claim7.holds Tryd.pinned (.plain (OpenSpec.upto workBackSpec)) workBackUptoCard

/-- THE SECOND FORM's CARD OF 'passimlaw07.WorkCodes'. -/
def workCodesUptoCard : Claim7 := { stood := { row := workCodesUptoRow, standIns := [], harness := (true, "65551ad1ab69c19db8d19995d7ae2bc075f95ca09b3f76e8e3e4bbba0450a399"), looks := false }, kinds := [], alts := [], laidByText := true, laidKinds := [.data, .data], laidTests := true, laidLooks := .later }
def WorkCodesUptoCardSaid : Prop := Claim7.holds Tryd.pinned (.plain (OpenSpec.upto workCodesSpec)) workCodesUptoCard
end Rows
end Go.Proofs.YtcpdlhgkdogdjaaDoor
