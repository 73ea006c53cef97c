/-
  DERIVED. GIVEN WITH THE SEED: THE CARDS: each row of YtnhlfbkpohidpaaDoorRows.lean that lists a variable, with what it lists TIED to the program's text (the seventh form; the later family's looks); each row that meets fmt, with fmt's text TOLD by the authors' own Lean function (tested against real Go, not proved from fmt's source: count such statements apart). THE CARD IS WHAT COUNTS. Prove the row's statement (the work); the ties are given (YtnhlfbkpohidpaaDoorTie.lean); close each card by the builder's one call (the guide's Derived/Test/ToyasCard.lean, 'card_holds'). Laid BY PROGRAM, IN A SANDBOX (cutbox-door.mjs). By AI agents, Wed Nov 11 2026. No macro, syntax, notation, axiom, sorry.
-/
import Derived.Test.YtnhlfbkpohidpaaDoorRows
import GoSem.ClaimSeven
namespace Go.Proofs.YtnhlfbkpohidpaaDoor
namespace Rows

/-- THE TIED CARD OF 'pumicelaw05.HeaderMakes'. -/
def headerMakesCard : Claim7 := { stood := { row := headerMakesRow, standIns := [], harness := (true, "89251ffecfdfaff5b819e59bfdc5bbda3a2cbc0b6eb6a91278acafe34aadb4c7"), looks := true }, kinds := [], alts := [], laidByText := true, laidKinds := [.sentinel], laidTests := true, laidLooks := .later }
def HeaderMakesCardSaid : Prop := Claim7.holds Tryd.pinned (.plain (OpenSpec.ofChange headerMakesSpec)) headerMakesCard

/-- THE TIED CARD OF 'pumicelaw05.HeaderParses'. -/
def headerParsesCard : Claim7 := { stood := { row := headerParsesRow, standIns := [], harness := (true, "89251ffecfdfaff5b819e59bfdc5bbda3a2cbc0b6eb6a91278acafe34aadb4c7"), looks := true }, kinds := [], alts := [], laidByText := true, laidKinds := [.sentinel], laidTests := true, laidLooks := .later }
def HeaderParsesCardSaid : Prop := Claim7.holds Tryd.pinned (.plain (OpenSpec.ofChange headerParsesSpec)) headerParsesCard

/-- THE TIED CARD OF 'pumicelaw05.HeaderBack'. -/
def headerBackCard : Claim7 := { stood := { row := headerBackRow, standIns := [], harness := (true, "89251ffecfdfaff5b819e59bfdc5bbda3a2cbc0b6eb6a91278acafe34aadb4c7"), looks := true }, kinds := [], alts := [], laidByText := true, laidKinds := [.sentinel], laidTests := true, laidLooks := .later }
def HeaderBackCardSaid : Prop := Claim7.holds Tryd.pinned (.plain (OpenSpec.ofChange headerBackSpec)) headerBackCard

/-- THE TIED CARD OF 'pumicelaw05.HeaderUnlike'. -/
def headerUnlikeCard : Claim7 := { stood := { row := headerUnlikeRow, standIns := [], harness := (true, "89251ffecfdfaff5b819e59bfdc5bbda3a2cbc0b6eb6a91278acafe34aadb4c7"), looks := true }, kinds := [], alts := [], laidByText := true, laidKinds := [.sentinel], laidTests := true, laidLooks := .later }
def HeaderUnlikeCardSaid : Prop := Claim7.holds Tryd.pinned (.plain (OpenSpec.ofChange headerUnlikeSpec)) headerUnlikeCard

/-- THE SECOND FORM's CARD OF 'pumicelaw05.HeaderMakes'. -/
def headerMakesUptoCard : Claim7 := { stood := { row := headerMakesUptoRow, standIns := [], harness := (true, "89251ffecfdfaff5b819e59bfdc5bbda3a2cbc0b6eb6a91278acafe34aadb4c7"), looks := true }, kinds := [], alts := [], laidByText := true, laidKinds := [.sentinel], laidTests := true, laidLooks := .later }
def HeaderMakesUptoCardSaid : Prop := Claim7.holds Tryd.pinned (.plain (OpenSpec.upto headerMakesSpec)) headerMakesUptoCard

/-- THE SECOND FORM's CARD OF 'pumicelaw05.HeaderParses'. -/
def headerParsesUptoCard : Claim7 := { stood := { row := headerParsesUptoRow, standIns := [], harness := (true, "89251ffecfdfaff5b819e59bfdc5bbda3a2cbc0b6eb6a91278acafe34aadb4c7"), looks := true }, kinds := [], alts := [], laidByText := true, laidKinds := [.sentinel], laidTests := true, laidLooks := .later }
def HeaderParsesUptoCardSaid : Prop := Claim7.holds Tryd.pinned (.plain (OpenSpec.upto headerParsesSpec)) headerParsesUptoCard

/-- THE SECOND FORM's CARD OF 'pumicelaw05.HeaderBack'. -/
def headerBackUptoCard : Claim7 := { stood := { row := headerBackUptoRow, standIns := [], harness := (true, "89251ffecfdfaff5b819e59bfdc5bbda3a2cbc0b6eb6a91278acafe34aadb4c7"), looks := true }, kinds := [], alts := [], laidByText := true, laidKinds := [.sentinel], laidTests := true, laidLooks := .later }
def HeaderBackUptoCardSaid : Prop := Claim7.holds Tryd.pinned (.plain (OpenSpec.upto headerBackSpec)) headerBackUptoCard

/-- THE SECOND FORM's CARD OF 'pumicelaw05.HeaderUnlike'. -/
def headerUnlikeUptoCard : Claim7 := { stood := { row := headerUnlikeUptoRow, standIns := [], harness := (true, "89251ffecfdfaff5b819e59bfdc5bbda3a2cbc0b6eb6a91278acafe34aadb4c7"), looks := true }, kinds := [], alts := [], laidByText := true, laidKinds := [.sentinel], laidTests := true, laidLooks := .later }
def HeaderUnlikeUptoCardSaid : Prop := Claim7.holds Tryd.pinned (.plain (OpenSpec.upto headerUnlikeSpec)) headerUnlikeUptoCard
end Rows
end Go.Proofs.YtnhlfbkpohidpaaDoor
