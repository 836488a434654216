/-
  DERIVED. GIVEN WITH THE SEED: THE CARDS: each row of YtjkhhdknplelcaaGreatDoorRows.lean that lists a variable, with what it lists TIED to the program's text (the seventh form; the later family's looks); each row that meets fmt, with fmt's text TOLD by the authors' own Lean function (tested against real Go, not proved from fmt's source: count such statements apart). THE CARD IS WHAT COUNTS. Prove the row's statement (the work); the ties are given (YtjkhhdknplelcaaGreatDoorTie.lean); close each card by the builder's one call (the guide's Derived/Test/ToyasCard.lean, 'card_holds'). Laid BY PROGRAM, IN A SANDBOX (cutbox-door.mjs). By AI agents, Wed Nov 11 2026. No macro, syntax, notation, axiom, sorry.
-/
import Derived.Test.YtjkhhdknplelcaaGreatDoorRows
import GoSem.ClaimSeven
namespace Go.Proofs.YtjkhhdknplelcaaGreatDoor
namespace Rows

/-- THE TIED CARD OF 'towncrierlaw10.PublishEncodes'. -/
def publishEncodesCard : Claim7 := { stood := { row := publishEncodesRow, standIns := [], harness := (true, "5457797a3c89341f288543395175906ba1f46edcee534e08dd468ff9595ce5ee"), looks := true }, kinds := [], alts := [], laidByText := true, laidKinds := [.handle, .sentinel, .sentinel, .sentinel, .sentinel, .sentinel, .sentinel, .sentinel], laidTests := true, laidLooks := .later }
def PublishEncodesCardSaid : Prop := Claim7.holds Tryz.pinned (.plain (OpenSpec.ofChange publishEncodesSpec)) publishEncodesCard

/-- THE TIED CARD OF 'towncrierlaw10.PublishBack'. -/
def publishBackCard : Claim7 := { stood := { row := publishBackRow, standIns := [], harness := (true, "5457797a3c89341f288543395175906ba1f46edcee534e08dd468ff9595ce5ee"), looks := true }, kinds := [], alts := [], laidByText := true, laidKinds := [.handle, .sentinel, .sentinel, .sentinel, .sentinel, .sentinel, .sentinel, .sentinel], laidTests := true, laidLooks := .later }
def PublishBackCardSaid : Prop := Claim7.holds Tryz.pinned (.plain (OpenSpec.ofChange publishBackSpec)) publishBackCard

/-- THE TIED CARD OF 'towncrierlaw08.ConnectBack'. -/
def connectBackCard : Claim7 := { stood := { row := connectBackRow, standIns := [], harness := (true, "5457797a3c89341f288543395175906ba1f46edcee534e08dd468ff9595ce5ee"), looks := true }, kinds := [], alts := [], laidByText := true, laidKinds := [.handle, .sentinel, .sentinel, .sentinel, .sentinel], laidTests := true, laidLooks := .later }
def ConnectBackCardSaid : Prop := Claim7.holds Tryz.pinned (.plain (OpenSpec.ofChange connectBackSpec)) connectBackCard

/-- THE TIED CARD OF 'towncrierlaw08.ConnectEncodes'. -/
def connectEncodesCard : Claim7 := { stood := { row := connectEncodesRow, standIns := [], harness := (true, "5457797a3c89341f288543395175906ba1f46edcee534e08dd468ff9595ce5ee"), looks := true }, kinds := [], alts := [], laidByText := true, laidKinds := [.handle, .sentinel, .sentinel, .sentinel, .sentinel, .sentinel, .sentinel, .sentinel], laidTests := true, laidLooks := .later }
def ConnectEncodesCardSaid : Prop := Claim7.holds Tryz.pinned (.plain (OpenSpec.ofChange connectEncodesSpec)) connectEncodesCard

/-- THE TIED CARD OF 'towncrierlaw09.ConnackEncodes'. -/
def connackEncodesCard : Claim7 := { stood := { row := connackEncodesRow, standIns := [], harness := (true, "5457797a3c89341f288543395175906ba1f46edcee534e08dd468ff9595ce5ee"), looks := true }, kinds := [], alts := [], laidByText := true, laidKinds := [.handle, .sentinel, .sentinel, .sentinel, .sentinel, .sentinel, .sentinel, .sentinel], laidTests := true, laidLooks := .later }
def ConnackEncodesCardSaid : Prop := Claim7.holds Tryz.pinned (.plain (OpenSpec.ofChange connackEncodesSpec)) connackEncodesCard

/-- THE TIED CARD OF 'towncrierlaw09.ConnackBack'. -/
def connackBackCard : Claim7 := { stood := { row := connackBackRow, standIns := [], harness := (true, "5457797a3c89341f288543395175906ba1f46edcee534e08dd468ff9595ce5ee"), looks := true }, kinds := [], alts := [], laidByText := true, laidKinds := [.handle, .sentinel, .sentinel, .sentinel, .sentinel, .sentinel, .sentinel, .sentinel], laidTests := true, laidLooks := .later }
def ConnackBackCardSaid : Prop := Claim7.holds Tryz.pinned (.plain (OpenSpec.ofChange connackBackSpec)) connackBackCard

/-- THE TIED CARD OF 'towncrierlaw14.MiscEncodes'. -/
def miscEncodesCard : Claim7 := { stood := { row := miscEncodesRow, standIns := [], harness := (true, "5457797a3c89341f288543395175906ba1f46edcee534e08dd468ff9595ce5ee"), looks := true }, kinds := [], alts := [], laidByText := true, laidKinds := [.handle, .sentinel, .sentinel, .sentinel, .sentinel, .sentinel, .sentinel, .sentinel], laidTests := true, laidLooks := .later }
def MiscEncodesCardSaid : Prop := Claim7.holds Tryz.pinned (.plain (OpenSpec.ofChange miscEncodesSpec)) miscEncodesCard

/-- THE TIED CARD OF 'towncrierlaw14.MiscBack'. -/
def miscBackCard : Claim7 := { stood := { row := miscBackRow, standIns := [], harness := (true, "5457797a3c89341f288543395175906ba1f46edcee534e08dd468ff9595ce5ee"), looks := true }, kinds := [], alts := [], laidByText := true, laidKinds := [.handle, .sentinel, .sentinel, .sentinel, .sentinel, .sentinel, .sentinel, .sentinel], laidTests := true, laidLooks := .later }
def MiscBackCardSaid : Prop := Claim7.holds Tryz.pinned (.plain (OpenSpec.ofChange miscBackSpec)) miscBackCard

/-- THE SECOND FORM's CARD OF 'towncrierlaw10.PublishEncodes'. -/
def publishEncodesUptoCard : Claim7 := { stood := { row := publishEncodesUptoRow, standIns := [], harness := (true, "5457797a3c89341f288543395175906ba1f46edcee534e08dd468ff9595ce5ee"), looks := true }, kinds := [], alts := [], laidByText := true, laidKinds := [.handle, .sentinel, .sentinel, .sentinel, .sentinel, .sentinel, .sentinel, .sentinel], laidTests := true, laidLooks := .later }
def PublishEncodesUptoCardSaid : Prop := Claim7.holds Tryz.pinned (.plain (OpenSpec.upto publishEncodesSpec)) publishEncodesUptoCard

/-- THE SECOND FORM's CARD OF 'towncrierlaw10.PublishBack'. -/
def publishBackUptoCard : Claim7 := { stood := { row := publishBackUptoRow, standIns := [], harness := (true, "5457797a3c89341f288543395175906ba1f46edcee534e08dd468ff9595ce5ee"), looks := true }, kinds := [], alts := [], laidByText := true, laidKinds := [.handle, .sentinel, .sentinel, .sentinel, .sentinel, .sentinel, .sentinel, .sentinel], laidTests := true, laidLooks := .later }
def PublishBackUptoCardSaid : Prop := Claim7.holds Tryz.pinned (.plain (OpenSpec.upto publishBackSpec)) publishBackUptoCard

/-- THE SECOND FORM's CARD OF 'towncrierlaw08.ConnectBack'. -/
def connectBackUptoCard : Claim7 := { stood := { row := connectBackUptoRow, standIns := [], harness := (true, "5457797a3c89341f288543395175906ba1f46edcee534e08dd468ff9595ce5ee"), looks := true }, kinds := [], alts := [], laidByText := true, laidKinds := [.handle, .sentinel, .sentinel, .sentinel, .sentinel], laidTests := true, laidLooks := .later }
def ConnectBackUptoCardSaid : Prop := Claim7.holds Tryz.pinned (.plain (OpenSpec.upto connectBackSpec)) connectBackUptoCard

/-- THE SECOND FORM's CARD OF 'towncrierlaw08.ConnectEncodes'. -/
def connectEncodesUptoCard : Claim7 := { stood := { row := connectEncodesUptoRow, standIns := [], harness := (true, "5457797a3c89341f288543395175906ba1f46edcee534e08dd468ff9595ce5ee"), looks := true }, kinds := [], alts := [], laidByText := true, laidKinds := [.handle, .sentinel, .sentinel, .sentinel, .sentinel, .sentinel, .sentinel, .sentinel], laidTests := true, laidLooks := .later }
def ConnectEncodesUptoCardSaid : Prop := Claim7.holds Tryz.pinned (.plain (OpenSpec.upto connectEncodesSpec)) connectEncodesUptoCard

/-- THE SECOND FORM's CARD OF 'towncrierlaw09.ConnackEncodes'. -/
def connackEncodesUptoCard : Claim7 := { stood := { row := connackEncodesUptoRow, standIns := [], harness := (true, "5457797a3c89341f288543395175906ba1f46edcee534e08dd468ff9595ce5ee"), looks := true }, kinds := [], alts := [], laidByText := true, laidKinds := [.handle, .sentinel, .sentinel, .sentinel, .sentinel, .sentinel, .sentinel, .sentinel], laidTests := true, laidLooks := .later }
def ConnackEncodesUptoCardSaid : Prop := Claim7.holds Tryz.pinned (.plain (OpenSpec.upto connackEncodesSpec)) connackEncodesUptoCard

/-- THE SECOND FORM's CARD OF 'towncrierlaw09.ConnackBack'. -/
def connackBackUptoCard : Claim7 := { stood := { row := connackBackUptoRow, standIns := [], harness := (true, "5457797a3c89341f288543395175906ba1f46edcee534e08dd468ff9595ce5ee"), looks := true }, kinds := [], alts := [], laidByText := true, laidKinds := [.handle, .sentinel, .sentinel, .sentinel, .sentinel, .sentinel, .sentinel, .sentinel], laidTests := true, laidLooks := .later }
def ConnackBackUptoCardSaid : Prop := Claim7.holds Tryz.pinned (.plain (OpenSpec.upto connackBackSpec)) connackBackUptoCard

/-- THE SECOND FORM's CARD OF 'towncrierlaw14.MiscEncodes'. -/
def miscEncodesUptoCard : Claim7 := { stood := { row := miscEncodesUptoRow, standIns := [], harness := (true, "5457797a3c89341f288543395175906ba1f46edcee534e08dd468ff9595ce5ee"), looks := true }, kinds := [], alts := [], laidByText := true, laidKinds := [.handle, .sentinel, .sentinel, .sentinel, .sentinel, .sentinel, .sentinel, .sentinel], laidTests := true, laidLooks := .later }
def MiscEncodesUptoCardSaid : Prop := Claim7.holds Tryz.pinned (.plain (OpenSpec.upto miscEncodesSpec)) miscEncodesUptoCard

/-- THE SECOND FORM's CARD OF 'towncrierlaw14.MiscBack'. -/
def miscBackUptoCard : Claim7 := { stood := { row := miscBackUptoRow, standIns := [], harness := (true, "5457797a3c89341f288543395175906ba1f46edcee534e08dd468ff9595ce5ee"), looks := true }, kinds := [], alts := [], laidByText := true, laidKinds := [.handle, .sentinel, .sentinel, .sentinel, .sentinel, .sentinel, .sentinel, .sentinel], laidTests := true, laidLooks := .later }
def MiscBackUptoCardSaid : Prop := Claim7.holds Tryz.pinned (.plain (OpenSpec.upto miscBackSpec)) miscBackUptoCard
end Rows
end Go.Proofs.YtjkhhdknplelcaaGreatDoor
