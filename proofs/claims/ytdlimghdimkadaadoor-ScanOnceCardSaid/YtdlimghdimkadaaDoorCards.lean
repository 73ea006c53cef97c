/-
  DERIVED. GIVEN WITH THE SEED: THE CARDS: each row of YtdlimghdimkadaaDoorRows.lean that lists a variable, with what it lists TIED to the program's text (the seventh form; the later family's looks); each row that meets fmt, with fmt's text TOLD by the authors' own Lean function (tested against real Go, not proved from fmt's source: count such statements apart). THE CARD IS WHAT COUNTS. Prove the row's statement (the work); the ties are given (YtdlimghdimkadaaDoorTie.lean); close each card by the builder's one call (the guide's Derived/Test/ToyasCard.lean, 'card_holds'). Laid BY PROGRAM, IN A SANDBOX (cutbox-door.mjs). By AI agents, Wed Nov 11 2026. No macro, syntax, notation, axiom, sorry.
-/
import Derived.Test.YtdlimghdimkadaaDoorRows
import GoSem.ClaimSeven
namespace Go.Proofs.YtdlimghdimkadaaDoor
namespace Rows

/-- THE TIED CARD OF 'pumicelaw07.ScanLooks'. -/
def scanLooksCard : Claim7 := { stood := { row := scanLooksRow, standIns := [], harness := (true, "e15bcb09729f243ce20f405eaf98847a1c9b5760520da1e21d712f4f6bf2e16e"), looks := true }, kinds := [], alts := [], laidByText := true, laidKinds := [.sentinel], laidTests := true, laidLooks := .later }
def ScanLooksCardSaid : Prop := Claim7.holds Tryd.pinned (.plain (OpenSpec.ofChange scanLooksSpec)) scanLooksCard

/-- THE TIED CARD OF 'pumicelaw07.ScanNewer'. -/
def scanNewerCard : Claim7 := { stood := { row := scanNewerRow, standIns := [], harness := (true, "e15bcb09729f243ce20f405eaf98847a1c9b5760520da1e21d712f4f6bf2e16e"), looks := true }, kinds := [], alts := [], laidByText := true, laidKinds := [.sentinel], laidTests := true, laidLooks := .later }
def ScanNewerCardSaid : Prop := Claim7.holds Tryd.pinned (.plain (OpenSpec.ofChange scanNewerSpec)) scanNewerCard

/-- THE TIED CARD OF 'pumicelaw07.ScanOnce'. -/
def scanOnceCard : Claim7 := { stood := { row := scanOnceRow, standIns := [], harness := (true, "e15bcb09729f243ce20f405eaf98847a1c9b5760520da1e21d712f4f6bf2e16e"), looks := true }, kinds := [], alts := [], laidByText := true, laidKinds := [.sentinel], laidTests := true, laidLooks := .later }
def ScanOnceCardSaid : Prop := Claim7.holds Tryd.pinned (.plain (OpenSpec.ofChange scanOnceSpec)) scanOnceCard

/-- THE SECOND FORM's CARD OF 'pumicelaw07.ScanLooks'. -/
def scanLooksUptoCard : Claim7 := { stood := { row := scanLooksUptoRow, standIns := [], harness := (true, "e15bcb09729f243ce20f405eaf98847a1c9b5760520da1e21d712f4f6bf2e16e"), looks := true }, kinds := [], alts := [], laidByText := true, laidKinds := [.sentinel], laidTests := true, laidLooks := .later }
def ScanLooksUptoCardSaid : Prop := Claim7.holds Tryd.pinned (.plain (OpenSpec.upto scanLooksSpec)) scanLooksUptoCard

/-- THE SECOND FORM's CARD OF 'pumicelaw07.ScanNewer'. -/
def scanNewerUptoCard : Claim7 := { stood := { row := scanNewerUptoRow, standIns := [], harness := (true, "e15bcb09729f243ce20f405eaf98847a1c9b5760520da1e21d712f4f6bf2e16e"), looks := true }, kinds := [], alts := [], laidByText := true, laidKinds := [.sentinel], laidTests := true, laidLooks := .later }
def ScanNewerUptoCardSaid : Prop := Claim7.holds Tryd.pinned (.plain (OpenSpec.upto scanNewerSpec)) scanNewerUptoCard

/-- THE SECOND FORM's CARD OF 'pumicelaw07.ScanOnce'. -/
def scanOnceUptoCard : Claim7 := { stood := { row := scanOnceUptoRow, standIns := [], harness := (true, "e15bcb09729f243ce20f405eaf98847a1c9b5760520da1e21d712f4f6bf2e16e"), looks := true }, kinds := [], alts := [], laidByText := true, laidKinds := [.sentinel], laidTests := true, laidLooks := .later }
def ScanOnceUptoCardSaid : Prop := Claim7.holds Tryd.pinned (.plain (OpenSpec.upto scanOnceSpec)) scanOnceUptoCard
end Rows
end Go.Proofs.YtdlimghdimkadaaDoor
