/-
  DERIVED. GIVEN WITH THE SEED: THE CARDS: each row of YtonmjhdcijibgaaGreatDoorRows.lean that lists a variable, with what it lists TIED to the program's text (the seventh form; the later family's looks); each row that meets fmt, with fmt's text TOLD by the authors' own Lean function (tested against real Go, not proved from fmt's source: count such statements apart). THE CARD IS WHAT COUNTS. Prove the row's statement (the work); the ties are given (YtonmjhdcijibgaaGreatDoorTie.lean); close each card by the builder's one call (the guide's Derived/Test/ToyasCard.lean, 'card_holds'). Laid BY PROGRAM, IN A SANDBOX (cutbox-door.mjs). By AI agents, Wed Nov 11 2026. No macro, syntax, notation, axiom, sorry.
-/
import Derived.Test.YtonmjhdcijibgaaGreatDoorRows
import GoSem.ClaimSeven
namespace Go.Proofs.YtonmjhdcijibgaaGreatDoor
namespace Rows

/-- THE TIED CARD OF 'towncrierlaw06.PropIs'. -/
def propIsCard : Claim7 := { stood := { row := propIsRow, standIns := [], harness := (true, "782091e71a16f3cd97f80e215d4ca1a9b49e0738c1af4b61300b64efc7a9c345"), looks := true }, kinds := [], alts := [], laidByText := true, laidKinds := [.handle, .sentinel, .sentinel, .sentinel, .sentinel, .sentinel, .sentinel, .sentinel], laidTests := true, laidLooks := .later }
def PropIsCardSaid : Prop := Claim7.holds Tryz.pinned (.plain (OpenSpec.ofChange propIsSpec)) propIsCard

/-- THE TIED CARD OF 'towncrierlaw06.PropEncodes'. -/
def propEncodesCard : Claim7 := { stood := { row := propEncodesRow, standIns := [], harness := (true, "782091e71a16f3cd97f80e215d4ca1a9b49e0738c1af4b61300b64efc7a9c345"), looks := true }, kinds := [], alts := [], laidByText := true, laidKinds := [.handle, .sentinel, .sentinel, .sentinel, .sentinel, .sentinel, .sentinel, .sentinel], laidTests := true, laidLooks := .later }
def PropEncodesCardSaid : Prop := Claim7.holds Tryz.pinned (.plain (OpenSpec.ofChange propEncodesSpec)) propEncodesCard

/-- THE TIED CARD OF 'towncrierlaw11.AckBack'. -/
def ackBackCard : Claim7 := { stood := { row := ackBackRow, standIns := [], harness := (true, "782091e71a16f3cd97f80e215d4ca1a9b49e0738c1af4b61300b64efc7a9c345"), looks := true }, kinds := [], alts := [], laidByText := true, laidKinds := [.handle, .sentinel, .sentinel, .sentinel, .sentinel, .sentinel], laidTests := true, laidLooks := .later }
def AckBackCardSaid : Prop := Claim7.holds Tryz.pinned (.plain (OpenSpec.ofChange ackBackSpec)) ackBackCard

/-- THE TIED CARD OF 'towncrierlaw13.UnsubBack'. -/
def unsubBackCard : Claim7 := { stood := { row := unsubBackRow, standIns := [], harness := (true, "782091e71a16f3cd97f80e215d4ca1a9b49e0738c1af4b61300b64efc7a9c345"), looks := true }, kinds := [], alts := [], laidByText := true, laidKinds := [.handle, .sentinel, .sentinel, .sentinel, .sentinel, .sentinel], laidTests := true, laidLooks := .later }
def UnsubBackCardSaid : Prop := Claim7.holds Tryz.pinned (.plain (OpenSpec.ofChange unsubBackSpec)) unsubBackCard

/-- THE TIED CARD OF 'towncrierlaw11.AckEncodes'. -/
def ackEncodesCard : Claim7 := { stood := { row := ackEncodesRow, standIns := [], harness := (true, "782091e71a16f3cd97f80e215d4ca1a9b49e0738c1af4b61300b64efc7a9c345"), looks := true }, kinds := [], alts := [], laidByText := true, laidKinds := [.handle, .sentinel, .sentinel, .sentinel, .sentinel, .sentinel, .sentinel, .sentinel], laidTests := true, laidLooks := .later }
def AckEncodesCardSaid : Prop := Claim7.holds Tryz.pinned (.plain (OpenSpec.ofChange ackEncodesSpec)) ackEncodesCard

/-- THE TIED CARD OF 'towncrierlaw12.SubscribeBack'. -/
def subscribeBackCard : Claim7 := { stood := { row := subscribeBackRow, standIns := [], harness := (true, "782091e71a16f3cd97f80e215d4ca1a9b49e0738c1af4b61300b64efc7a9c345"), looks := true }, kinds := [], alts := [], laidByText := true, laidKinds := [.handle, .sentinel, .sentinel, .sentinel, .sentinel, .sentinel], laidTests := true, laidLooks := .later }
def SubscribeBackCardSaid : Prop := Claim7.holds Tryz.pinned (.plain (OpenSpec.ofChange subscribeBackSpec)) subscribeBackCard

/-- THE TIED CARD OF 'towncrierlaw13.UnsubEncodes'. -/
def unsubEncodesCard : Claim7 := { stood := { row := unsubEncodesRow, standIns := [], harness := (true, "782091e71a16f3cd97f80e215d4ca1a9b49e0738c1af4b61300b64efc7a9c345"), looks := true }, kinds := [], alts := [], laidByText := true, laidKinds := [.handle, .sentinel, .sentinel, .sentinel, .sentinel, .sentinel, .sentinel, .sentinel], laidTests := true, laidLooks := .later }
def UnsubEncodesCardSaid : Prop := Claim7.holds Tryz.pinned (.plain (OpenSpec.ofChange unsubEncodesSpec)) unsubEncodesCard

/-- THE TIED CARD OF 'towncrierlaw12.SubscribeEncodes'. -/
def subscribeEncodesCard : Claim7 := { stood := { row := subscribeEncodesRow, standIns := [], harness := (true, "782091e71a16f3cd97f80e215d4ca1a9b49e0738c1af4b61300b64efc7a9c345"), looks := true }, kinds := [], alts := [], laidByText := true, laidKinds := [.handle, .sentinel, .sentinel, .sentinel, .sentinel, .sentinel, .sentinel, .sentinel], laidTests := true, laidLooks := .later }
def SubscribeEncodesCardSaid : Prop := Claim7.holds Tryz.pinned (.plain (OpenSpec.ofChange subscribeEncodesSpec)) subscribeEncodesCard

/-- THE SECOND FORM's CARD OF 'towncrierlaw06.PropIs'. -/
def propIsUptoCard : Claim7 := { stood := { row := propIsUptoRow, standIns := [], harness := (true, "782091e71a16f3cd97f80e215d4ca1a9b49e0738c1af4b61300b64efc7a9c345"), looks := true }, kinds := [], alts := [], laidByText := true, laidKinds := [.handle, .sentinel, .sentinel, .sentinel, .sentinel, .sentinel, .sentinel, .sentinel], laidTests := true, laidLooks := .later }
def PropIsUptoCardSaid : Prop := Claim7.holds Tryz.pinned (.plain (OpenSpec.upto propIsSpec)) propIsUptoCard

/-- THE SECOND FORM's CARD OF 'towncrierlaw06.PropEncodes'. -/
def propEncodesUptoCard : Claim7 := { stood := { row := propEncodesUptoRow, standIns := [], harness := (true, "782091e71a16f3cd97f80e215d4ca1a9b49e0738c1af4b61300b64efc7a9c345"), looks := true }, kinds := [], alts := [], laidByText := true, laidKinds := [.handle, .sentinel, .sentinel, .sentinel, .sentinel, .sentinel, .sentinel, .sentinel], laidTests := true, laidLooks := .later }
def PropEncodesUptoCardSaid : Prop := Claim7.holds Tryz.pinned (.plain (OpenSpec.upto propEncodesSpec)) propEncodesUptoCard

/-- THE SECOND FORM's CARD OF 'towncrierlaw11.AckBack'. -/
def ackBackUptoCard : Claim7 := { stood := { row := ackBackUptoRow, standIns := [], harness := (true, "782091e71a16f3cd97f80e215d4ca1a9b49e0738c1af4b61300b64efc7a9c345"), looks := true }, kinds := [], alts := [], laidByText := true, laidKinds := [.handle, .sentinel, .sentinel, .sentinel, .sentinel, .sentinel], laidTests := true, laidLooks := .later }
def AckBackUptoCardSaid : Prop := Claim7.holds Tryz.pinned (.plain (OpenSpec.upto ackBackSpec)) ackBackUptoCard

/-- THE SECOND FORM's CARD OF 'towncrierlaw13.UnsubBack'. -/
def unsubBackUptoCard : Claim7 := { stood := { row := unsubBackUptoRow, standIns := [], harness := (true, "782091e71a16f3cd97f80e215d4ca1a9b49e0738c1af4b61300b64efc7a9c345"), looks := true }, kinds := [], alts := [], laidByText := true, laidKinds := [.handle, .sentinel, .sentinel, .sentinel, .sentinel, .sentinel], laidTests := true, laidLooks := .later }
def UnsubBackUptoCardSaid : Prop := Claim7.holds Tryz.pinned (.plain (OpenSpec.upto unsubBackSpec)) unsubBackUptoCard

/-- THE SECOND FORM's CARD OF 'towncrierlaw11.AckEncodes'. -/
def ackEncodesUptoCard : Claim7 := { stood := { row := ackEncodesUptoRow, standIns := [], harness := (true, "782091e71a16f3cd97f80e215d4ca1a9b49e0738c1af4b61300b64efc7a9c345"), looks := true }, kinds := [], alts := [], laidByText := true, laidKinds := [.handle, .sentinel, .sentinel, .sentinel, .sentinel, .sentinel, .sentinel, .sentinel], laidTests := true, laidLooks := .later }
def AckEncodesUptoCardSaid : Prop := Claim7.holds Tryz.pinned (.plain (OpenSpec.upto ackEncodesSpec)) ackEncodesUptoCard

/-- THE SECOND FORM's CARD OF 'towncrierlaw12.SubscribeBack'. -/
def subscribeBackUptoCard : Claim7 := { stood := { row := subscribeBackUptoRow, standIns := [], harness := (true, "782091e71a16f3cd97f80e215d4ca1a9b49e0738c1af4b61300b64efc7a9c345"), looks := true }, kinds := [], alts := [], laidByText := true, laidKinds := [.handle, .sentinel, .sentinel, .sentinel, .sentinel, .sentinel], laidTests := true, laidLooks := .later }
def SubscribeBackUptoCardSaid : Prop := Claim7.holds Tryz.pinned (.plain (OpenSpec.upto subscribeBackSpec)) subscribeBackUptoCard

/-- THE SECOND FORM's CARD OF 'towncrierlaw13.UnsubEncodes'. -/
def unsubEncodesUptoCard : Claim7 := { stood := { row := unsubEncodesUptoRow, standIns := [], harness := (true, "782091e71a16f3cd97f80e215d4ca1a9b49e0738c1af4b61300b64efc7a9c345"), looks := true }, kinds := [], alts := [], laidByText := true, laidKinds := [.handle, .sentinel, .sentinel, .sentinel, .sentinel, .sentinel, .sentinel, .sentinel], laidTests := true, laidLooks := .later }
def UnsubEncodesUptoCardSaid : Prop := Claim7.holds Tryz.pinned (.plain (OpenSpec.upto unsubEncodesSpec)) unsubEncodesUptoCard

/-- THE SECOND FORM's CARD OF 'towncrierlaw12.SubscribeEncodes'. -/
def subscribeEncodesUptoCard : Claim7 := { stood := { row := subscribeEncodesUptoRow, standIns := [], harness := (true, "782091e71a16f3cd97f80e215d4ca1a9b49e0738c1af4b61300b64efc7a9c345"), looks := true }, kinds := [], alts := [], laidByText := true, laidKinds := [.handle, .sentinel, .sentinel, .sentinel, .sentinel, .sentinel, .sentinel, .sentinel], laidTests := true, laidLooks := .later }
def SubscribeEncodesUptoCardSaid : Prop := Claim7.holds Tryz.pinned (.plain (OpenSpec.upto subscribeEncodesSpec)) subscribeEncodesUptoCard
end Rows
end Go.Proofs.YtonmjhdcijibgaaGreatDoor
