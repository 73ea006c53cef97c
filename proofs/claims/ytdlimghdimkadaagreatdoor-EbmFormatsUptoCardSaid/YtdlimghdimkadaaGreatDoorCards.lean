/-
  DERIVED. GIVEN WITH THE SEED: THE CARDS: each row of YtdlimghdimkadaaGreatDoorRows.lean that lists a variable, with what it lists TIED to the program's text (the seventh form; the later family's looks); each row that meets fmt, with fmt's text TOLD by the authors' own Lean function (tested against real Go, not proved from fmt's source: count such statements apart). THE CARD IS WHAT COUNTS. Prove the row's statement (the work); the ties are given (YtdlimghdimkadaaGreatDoorTie.lean); close each card by the builder's one call (the guide's Derived/Test/ToyasCard.lean, 'card_holds'). Laid BY PROGRAM, IN A SANDBOX (cutbox-door.mjs). By AI agents, Wed Nov 11 2026. No macro, syntax, notation, axiom, sorry.
-/
import Derived.Test.YtdlimghdimkadaaGreatDoorRows
import GoSem.ClaimSeven
namespace Go.Proofs.YtdlimghdimkadaaGreatDoor
namespace Rows

/-- THE TIED CARD OF 'pumicelaw07.ScanScans'. -/
def scanScansCard : Claim7 := { stood := { row := scanScansRow, standIns := [], harness := (true, "d070f89d6f31af026691ce678c596ff7916d8c5d1c052912bff2e23901a8d02c"), looks := true }, kinds := [], alts := [], laidByText := true, laidKinds := [.sentinel], laidTests := true, laidLooks := .later }
def ScanScansCardSaid : Prop := Claim7.holds Tryz.pinned (.plain (OpenSpec.ofChange scanScansSpec)) scanScansCard

/-- THE TIED CARD OF 'pumicelaw09.EbmFull'. -/
def ebmFullCard : Claim7 := { stood := { row := ebmFullRow, standIns := [], harness := (true, "d070f89d6f31af026691ce678c596ff7916d8c5d1c052912bff2e23901a8d02c"), looks := true }, kinds := [], alts := [], laidByText := true, laidKinds := [.handle, .sentinel], laidTests := true, laidLooks := .later }
def EbmFullCardSaid : Prop := Claim7.holds Tryz.pinned (.plain (OpenSpec.ofChange ebmFullSpec)) ebmFullCard

/-- THE TIED CARD OF 'pumicelaw09.EbmAll'. -/
def ebmAllCard : Claim7 := { stood := { row := ebmAllRow, standIns := [], harness := (true, "d070f89d6f31af026691ce678c596ff7916d8c5d1c052912bff2e23901a8d02c"), looks := true }, kinds := [], alts := [], laidByText := true, laidKinds := [.handle, .sentinel], laidTests := true, laidLooks := .later }
def EbmAllCardSaid : Prop := Claim7.holds Tryz.pinned (.plain (OpenSpec.ofChange ebmAllSpec)) ebmAllCard

/-- THE TIED CARD OF 'pumicelaw09.EbmFormats'. -/
def ebmFormatsCard : Claim7 := { stood := { row := ebmFormatsRow, standIns := [], harness := (true, "d070f89d6f31af026691ce678c596ff7916d8c5d1c052912bff2e23901a8d02c"), looks := true }, kinds := [], alts := [], laidByText := true, laidKinds := [.handle, .sentinel], laidTests := true, laidLooks := .later }
def EbmFormatsCardSaid : Prop := Claim7.holds Tryz.pinned (.plain (OpenSpec.ofChange ebmFormatsSpec)) ebmFormatsCard

/-- THE TIED CARD OF 'pumicelaw09.EbmLooks'. -/
def ebmLooksCard : Claim7 := { stood := { row := ebmLooksRow, standIns := [], harness := (true, "d070f89d6f31af026691ce678c596ff7916d8c5d1c052912bff2e23901a8d02c"), looks := true }, kinds := [], alts := [], laidByText := true, laidKinds := [.handle, .sentinel], laidTests := true, laidLooks := .later }
def EbmLooksCardSaid : Prop := Claim7.holds Tryz.pinned (.plain (OpenSpec.ofChange ebmLooksSpec)) ebmLooksCard

/-- THE TIED CARD OF 'pumicelaw09.EbmPlays'. -/
def ebmPlaysCard : Claim7 := { stood := { row := ebmPlaysRow, standIns := [], harness := (true, "d070f89d6f31af026691ce678c596ff7916d8c5d1c052912bff2e23901a8d02c"), looks := true }, kinds := [], alts := [], laidByText := true, laidKinds := [.handle, .sentinel], laidTests := true, laidLooks := .later }
def EbmPlaysCardSaid : Prop := Claim7.holds Tryz.pinned (.plain (OpenSpec.ofChange ebmPlaysSpec)) ebmPlaysCard

/-- THE TIED CARD OF 'pumicelaw09.EbmCuts'. -/
def ebmCutsCard : Claim7 := { stood := { row := ebmCutsRow, standIns := [], harness := (true, "d070f89d6f31af026691ce678c596ff7916d8c5d1c052912bff2e23901a8d02c"), looks := true }, kinds := [], alts := [], laidByText := true, laidKinds := [.handle, .sentinel], laidTests := true, laidLooks := .later }
def EbmCutsCardSaid : Prop := Claim7.holds Tryz.pinned (.plain (OpenSpec.ofChange ebmCutsSpec)) ebmCutsCard

/-- THE TIED CARD OF 'pumicelaw09.EbmAgain'. -/
def ebmAgainCard : Claim7 := { stood := { row := ebmAgainRow, standIns := [], harness := (true, "d070f89d6f31af026691ce678c596ff7916d8c5d1c052912bff2e23901a8d02c"), looks := true }, kinds := [], alts := [], laidByText := true, laidKinds := [.handle, .sentinel], laidTests := true, laidLooks := .later }
def EbmAgainCardSaid : Prop := Claim7.holds Tryz.pinned (.plain (OpenSpec.ofChange ebmAgainSpec)) ebmAgainCard

/-- THE SECOND FORM's CARD OF 'pumicelaw07.ScanScans'. -/
def scanScansUptoCard : Claim7 := { stood := { row := scanScansUptoRow, standIns := [], harness := (true, "d070f89d6f31af026691ce678c596ff7916d8c5d1c052912bff2e23901a8d02c"), looks := true }, kinds := [], alts := [], laidByText := true, laidKinds := [.sentinel], laidTests := true, laidLooks := .later }
def ScanScansUptoCardSaid : Prop := Claim7.holds Tryz.pinned (.plain (OpenSpec.upto scanScansSpec)) scanScansUptoCard

/-- THE SECOND FORM's CARD OF 'pumicelaw09.EbmFull'. -/
def ebmFullUptoCard : Claim7 := { stood := { row := ebmFullUptoRow, standIns := [], harness := (true, "d070f89d6f31af026691ce678c596ff7916d8c5d1c052912bff2e23901a8d02c"), looks := true }, kinds := [], alts := [], laidByText := true, laidKinds := [.handle, .sentinel], laidTests := true, laidLooks := .later }
def EbmFullUptoCardSaid : Prop := Claim7.holds Tryz.pinned (.plain (OpenSpec.upto ebmFullSpec)) ebmFullUptoCard

/-- THE SECOND FORM's CARD OF 'pumicelaw09.EbmAll'. -/
def ebmAllUptoCard : Claim7 := { stood := { row := ebmAllUptoRow, standIns := [], harness := (true, "d070f89d6f31af026691ce678c596ff7916d8c5d1c052912bff2e23901a8d02c"), looks := true }, kinds := [], alts := [], laidByText := true, laidKinds := [.handle, .sentinel], laidTests := true, laidLooks := .later }
def EbmAllUptoCardSaid : Prop := Claim7.holds Tryz.pinned (.plain (OpenSpec.upto ebmAllSpec)) ebmAllUptoCard

/-- THE SECOND FORM's CARD OF 'pumicelaw09.EbmFormats'. -/
def ebmFormatsUptoCard : Claim7 := { stood := { row := ebmFormatsUptoRow, standIns := [], harness := (true, "d070f89d6f31af026691ce678c596ff7916d8c5d1c052912bff2e23901a8d02c"), looks := true }, kinds := [], alts := [], laidByText := true, laidKinds := [.handle, .sentinel], laidTests := true, laidLooks := .later }
def EbmFormatsUptoCardSaid : Prop := Claim7.holds Tryz.pinned (.plain (OpenSpec.upto ebmFormatsSpec)) ebmFormatsUptoCard

/-- THE SECOND FORM's CARD OF 'pumicelaw09.EbmLooks'. -/
def ebmLooksUptoCard : Claim7 := { stood := { row := ebmLooksUptoRow, standIns := [], harness := (true, "d070f89d6f31af026691ce678c596ff7916d8c5d1c052912bff2e23901a8d02c"), looks := true }, kinds := [], alts := [], laidByText := true, laidKinds := [.handle, .sentinel], laidTests := true, laidLooks := .later }
def EbmLooksUptoCardSaid : Prop := Claim7.holds Tryz.pinned (.plain (OpenSpec.upto ebmLooksSpec)) ebmLooksUptoCard

/-- THE SECOND FORM's CARD OF 'pumicelaw09.EbmPlays'. -/
def ebmPlaysUptoCard : Claim7 := { stood := { row := ebmPlaysUptoRow, standIns := [], harness := (true, "d070f89d6f31af026691ce678c596ff7916d8c5d1c052912bff2e23901a8d02c"), looks := true }, kinds := [], alts := [], laidByText := true, laidKinds := [.handle, .sentinel], laidTests := true, laidLooks := .later }
def EbmPlaysUptoCardSaid : Prop := Claim7.holds Tryz.pinned (.plain (OpenSpec.upto ebmPlaysSpec)) ebmPlaysUptoCard

/-- THE SECOND FORM's CARD OF 'pumicelaw09.EbmCuts'. -/
def ebmCutsUptoCard : Claim7 := { stood := { row := ebmCutsUptoRow, standIns := [], harness := (true, "d070f89d6f31af026691ce678c596ff7916d8c5d1c052912bff2e23901a8d02c"), looks := true }, kinds := [], alts := [], laidByText := true, laidKinds := [.handle, .sentinel], laidTests := true, laidLooks := .later }
def EbmCutsUptoCardSaid : Prop := Claim7.holds Tryz.pinned (.plain (OpenSpec.upto ebmCutsSpec)) ebmCutsUptoCard

/-- THE SECOND FORM's CARD OF 'pumicelaw09.EbmAgain'. -/
def ebmAgainUptoCard : Claim7 := { stood := { row := ebmAgainUptoRow, standIns := [], harness := (true, "d070f89d6f31af026691ce678c596ff7916d8c5d1c052912bff2e23901a8d02c"), looks := true }, kinds := [], alts := [], laidByText := true, laidKinds := [.handle, .sentinel], laidTests := true, laidLooks := .later }
def EbmAgainUptoCardSaid : Prop := Claim7.holds Tryz.pinned (.plain (OpenSpec.upto ebmAgainSpec)) ebmAgainUptoCard
end Rows
end Go.Proofs.YtdlimghdimkadaaGreatDoor
