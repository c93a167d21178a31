/-
  DERIVED. GIVEN WITH THE SEED: THE CARDS: each row of YtmoaeemdlompaaaDoorRows.lean that lists a variable, with what it lists TIED to the program's text (the seventh form; the later family's looks); each row that meets fmt, with fmt's text TOLD by the authors' own Lean function (tested against real Go, not proved from fmt's source: count such statements apart). THE CARD IS WHAT COUNTS. Prove the row's statement (the work); the ties are given (YtmoaeemdlompaaaDoorTie.lean); close each card by the builder's one call (the guide's Derived/Test/ToyasCard.lean, 'card_holds'). Laid BY PROGRAM, IN A SANDBOX (cutbox-door.mjs). By AI agents, Wed Nov 11 2026. No macro, syntax, notation, axiom, sorry.
-/
import Derived.Test.YtmoaeemdlompaaaDoorRows
import GoSem.ClaimSeven
namespace Go.Proofs.YtmoaeemdlompaaaDoor
namespace Rows

/-- THE TIED CARD OF 'passimlaw04.MerkleRoots'. -/
def merkleRootsCard : Claim7 := { stood := { row := merkleRootsRow, standIns := [], harness := (true, "cfa331bcd7bf7907658848225a87f74b41b2c375ddb15c8848a51e9a5dfce5ea"), looks := false }, kinds := [], alts := [], laidByText := true, laidKinds := [.data, .data], laidTests := true, laidLooks := .later }
def MerkleRootsCardSaid : Prop := Claim7.holds Tryd.pinned (.plain (OpenSpec.ofChange merkleRootsSpec)) merkleRootsCard

/-- THE TIED CARD OF 'passimlaw04.MerkleProves'. -/
def merkleProvesCard : Claim7 := { stood := { row := merkleProvesRow, standIns := [], harness := (true, "cfa331bcd7bf7907658848225a87f74b41b2c375ddb15c8848a51e9a5dfce5ea"), looks := false }, kinds := [], alts := [], laidByText := true, laidKinds := [.data, .data], laidTests := true, laidLooks := .later }
def MerkleProvesCardSaid : Prop := Claim7.holds Tryd.pinned (.plain (OpenSpec.ofChange merkleProvesSpec)) merkleProvesCard

/-- THE TIED CARD OF 'passimlaw04.MerkleChecks'. -/
def merkleChecksCard : Claim7 := { stood := { row := merkleChecksRow, standIns := [], harness := (true, "cfa331bcd7bf7907658848225a87f74b41b2c375ddb15c8848a51e9a5dfce5ea"), looks := false }, kinds := [], alts := [], laidByText := true, laidKinds := [.data, .data], laidTests := true, laidLooks := .later }
def MerkleChecksCardSaid : Prop := Claim7.holds Tryd.pinned (.plain (OpenSpec.ofChange merkleChecksSpec)) merkleChecksCard

/-- THE TIED CARD OF 'passimlaw04.MerkleComplete'. -/
def merkleCompleteCard : Claim7 := { stood := { row := merkleCompleteRow, standIns := [], harness := (true, "cfa331bcd7bf7907658848225a87f74b41b2c375ddb15c8848a51e9a5dfce5ea"), looks := false }, kinds := [], alts := [], laidByText := true, laidKinds := [.data], laidTests := true, laidLooks := .later }
def MerkleCompleteCardSaid : Prop := Claim7.holds Tryd.pinned (.plain (OpenSpec.ofChange merkleCompleteSpec)) merkleCompleteCard

/-- THE TIED CARD OF 'passimlaw04.MerkleSound'. -/
def merkleSoundCard : Claim7 := { stood := { row := merkleSoundRow, standIns := [], harness := (true, "cfa331bcd7bf7907658848225a87f74b41b2c375ddb15c8848a51e9a5dfce5ea"), looks := false }, kinds := [], alts := [], laidByText := true, laidKinds := [.data, .data], laidTests := true, laidLooks := .later }
def MerkleSoundCardSaid : Prop := Claim7.holds Tryd.pinned (.plain (OpenSpec.ofChange merkleSoundSpec)) merkleSoundCard

/-- THE TIED CARD OF 'passimlaw04.MerkleBinds'. -/
def merkleBindsCard : Claim7 := { stood := { row := merkleBindsRow, standIns := [], harness := (true, "cfa331bcd7bf7907658848225a87f74b41b2c375ddb15c8848a51e9a5dfce5ea"), looks := false }, kinds := [], alts := [], laidByText := true, laidKinds := [.data, .data], laidTests := true, laidLooks := .later }
def MerkleBindsCardSaid : Prop := Claim7.holds Tryd.pinned (.plain (OpenSpec.ofChange merkleBindsSpec)) merkleBindsCard

/-- THE TIED CARD OF 'passimlaw04.MerkleCodes'. -/
def merkleCodesCard : Claim7 := { stood := { row := merkleCodesRow, standIns := [], harness := (true, "cfa331bcd7bf7907658848225a87f74b41b2c375ddb15c8848a51e9a5dfce5ea"), looks := false }, kinds := [], alts := [], laidByText := true, laidKinds := [.data, .data], laidTests := true, laidLooks := .later }
def MerkleCodesCardSaid : Prop := Claim7.holds Tryd.pinned (.plain (OpenSpec.ofChange merkleCodesSpec)) merkleCodesCard

/-- THE SECOND FORM's CARD OF 'passimlaw04.MerkleRoots'. -/
def merkleRootsUptoCard : Claim7 := { stood := { row := merkleRootsUptoRow, standIns := [], harness := (true, "cfa331bcd7bf7907658848225a87f74b41b2c375ddb15c8848a51e9a5dfce5ea"), looks := false }, kinds := [], alts := [], laidByText := true, laidKinds := [.data, .data], laidTests := true, laidLooks := .later }
def MerkleRootsUptoCardSaid : Prop := Claim7.holds Tryd.pinned (.plain (OpenSpec.upto merkleRootsSpec)) merkleRootsUptoCard

/-- THE SECOND FORM's CARD OF 'passimlaw04.MerkleProves'. -/
def merkleProvesUptoCard : Claim7 := { stood := { row := merkleProvesUptoRow, standIns := [], harness := (true, "cfa331bcd7bf7907658848225a87f74b41b2c375ddb15c8848a51e9a5dfce5ea"), looks := false }, kinds := [], alts := [], laidByText := true, laidKinds := [.data, .data], laidTests := true, laidLooks := .later }
def MerkleProvesUptoCardSaid : Prop := Claim7.holds Tryd.pinned (.plain (OpenSpec.upto merkleProvesSpec)) merkleProvesUptoCard

/-- THE SECOND FORM's CARD OF 'passimlaw04.MerkleChecks'. -/
def merkleChecksUptoCard : Claim7 := { stood := { row := merkleChecksUptoRow, standIns := [], harness := (true, "cfa331bcd7bf7907658848225a87f74b41b2c375ddb15c8848a51e9a5dfce5ea"), looks := false }, kinds := [], alts := [], laidByText := true, laidKinds := [.data, .data], laidTests := true, laidLooks := .later }
def MerkleChecksUptoCardSaid : Prop := Claim7.holds Tryd.pinned (.plain (OpenSpec.upto merkleChecksSpec)) merkleChecksUptoCard

/-- THE SECOND FORM's CARD OF 'passimlaw04.MerkleComplete'. -/
def merkleCompleteUptoCard : Claim7 := { stood := { row := merkleCompleteUptoRow, standIns := [], harness := (true, "cfa331bcd7bf7907658848225a87f74b41b2c375ddb15c8848a51e9a5dfce5ea"), looks := false }, kinds := [], alts := [], laidByText := true, laidKinds := [.data], laidTests := true, laidLooks := .later }
def MerkleCompleteUptoCardSaid : Prop := Claim7.holds Tryd.pinned (.plain (OpenSpec.upto merkleCompleteSpec)) merkleCompleteUptoCard

/-- THE SECOND FORM's CARD OF 'passimlaw04.MerkleSound'. -/
def merkleSoundUptoCard : Claim7 := { stood := { row := merkleSoundUptoRow, standIns := [], harness := (true, "cfa331bcd7bf7907658848225a87f74b41b2c375ddb15c8848a51e9a5dfce5ea"), looks := false }, kinds := [], alts := [], laidByText := true, laidKinds := [.data, .data], laidTests := true, laidLooks := .later }
def MerkleSoundUptoCardSaid : Prop := Claim7.holds Tryd.pinned (.plain (OpenSpec.upto merkleSoundSpec)) merkleSoundUptoCard

/-- THE SECOND FORM's CARD OF 'passimlaw04.MerkleBinds'. -/
def merkleBindsUptoCard : Claim7 := { stood := { row := merkleBindsUptoRow, standIns := [], harness := (true, "cfa331bcd7bf7907658848225a87f74b41b2c375ddb15c8848a51e9a5dfce5ea"), looks := false }, kinds := [], alts := [], laidByText := true, laidKinds := [.data, .data], laidTests := true, laidLooks := .later }
def MerkleBindsUptoCardSaid : Prop := Claim7.holds Tryd.pinned (.plain (OpenSpec.upto merkleBindsSpec)) merkleBindsUptoCard

/-- THE SECOND FORM's CARD OF 'passimlaw04.MerkleCodes'. -/
def merkleCodesUptoCard : Claim7 := { stood := { row := merkleCodesUptoRow, standIns := [], harness := (true, "cfa331bcd7bf7907658848225a87f74b41b2c375ddb15c8848a51e9a5dfce5ea"), looks := false }, kinds := [], alts := [], laidByText := true, laidKinds := [.data, .data], laidTests := true, laidLooks := .later }
def MerkleCodesUptoCardSaid : Prop := Claim7.holds Tryd.pinned (.plain (OpenSpec.upto merkleCodesSpec)) merkleCodesUptoCard
end Rows
end Go.Proofs.YtmoaeemdlompaaaDoor
