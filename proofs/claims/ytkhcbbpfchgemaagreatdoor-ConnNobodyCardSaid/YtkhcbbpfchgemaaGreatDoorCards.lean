/-
  DERIVED. GIVEN WITH THE SEED: THE CARDS: each row of YtkhcbbpfchgemaaGreatDoorRows.lean that lists a variable, with what it lists TIED to the program's text (the seventh form; the later family's looks); each row that meets fmt, with fmt's text TOLD by the authors' own Lean function (tested against real Go, not proved from fmt's source: count such statements apart). THE CARD IS WHAT COUNTS. Prove the row's statement (the work); the ties are given (YtkhcbbpfchgemaaGreatDoorTie.lean); close each card by the builder's one call (the guide's Derived/Test/ToyasCard.lean, 'card_holds'). Laid BY PROGRAM, IN A SANDBOX (cutbox-door.mjs). By AI agents, Wed Nov 11 2026. No macro, syntax, notation, axiom, sorry.
-/
import Derived.Test.YtkhcbbpfchgemaaGreatDoorRows
import GoSem.ClaimSeven
namespace Go.Proofs.YtkhcbbpfchgemaaGreatDoor
namespace Rows

/-- THE TIED CARD OF 'towncrierlaw34.StoreReplays'. -/
def storeReplaysCard : Claim7 := { stood := { row := storeReplaysRow, standIns := [], harness := (true, "1c703b90aaee890fb4fab0ebcc3ba8daf3099433f3609baeb5caf883683ac3f2"), looks := true }, kinds := [], alts := [], laidByText := true, laidKinds := [.handle, .sentinel, .sentinel, .sentinel, .sentinel, .sentinel], laidTests := true, laidLooks := .later }
def StoreReplaysCardSaid : Prop := Claim7.holds Tryz.pinned (.plain (OpenSpec.ofChange storeReplaysSpec)) storeReplaysCard

/-- THE TIED CARD OF 'towncrierlaw34.StoreTakes'. -/
def storeTakesCard : Claim7 := { stood := { row := storeTakesRow, standIns := [], harness := (true, "1c703b90aaee890fb4fab0ebcc3ba8daf3099433f3609baeb5caf883683ac3f2"), looks := true }, kinds := [], alts := [], laidByText := true, laidKinds := [.handle, .sentinel, .sentinel, .sentinel, .sentinel, .sentinel, .sentinel, .sentinel], laidTests := true, laidLooks := .later }
def StoreTakesCardSaid : Prop := Claim7.holds Tryz.pinned (.plain (OpenSpec.ofChange storeTakesSpec)) storeTakesCard

/-- THE TIED CARD OF 'towncrierlaw15.PacketEncodes'. -/
def packetEncodesCard : Claim7 := { stood := { row := packetEncodesRow, standIns := [], harness := (true, "1c703b90aaee890fb4fab0ebcc3ba8daf3099433f3609baeb5caf883683ac3f2"), looks := true }, kinds := [], alts := [], laidByText := true, laidKinds := [.handle, .sentinel, .sentinel, .sentinel, .sentinel, .sentinel, .sentinel, .sentinel], laidTests := true, laidLooks := .later }
def PacketEncodesCardSaid : Prop := Claim7.holds Tryz.pinned (.plain (OpenSpec.ofChange packetEncodesSpec)) packetEncodesCard

/-- THE TIED CARD OF 'towncrierlaw15.PacketBack'. -/
def packetBackCard : Claim7 := { stood := { row := packetBackRow, standIns := [], harness := (true, "1c703b90aaee890fb4fab0ebcc3ba8daf3099433f3609baeb5caf883683ac3f2"), looks := true }, kinds := [], alts := [], laidByText := true, laidKinds := [.handle, .sentinel, .sentinel, .sentinel, .sentinel, .sentinel, .sentinel, .sentinel], laidTests := true, laidLooks := .later }
def PacketBackCardSaid : Prop := Claim7.holds Tryz.pinned (.plain (OpenSpec.ofChange packetBackSpec)) packetBackCard

/-- THE TIED CARD OF 'towncrierlaw37.ConnNobody'. -/
def connNobodyCard : Claim7 := { stood := { row := connNobodyRow, standIns := [], harness := (true, "1c703b90aaee890fb4fab0ebcc3ba8daf3099433f3609baeb5caf883683ac3f2"), looks := true }, kinds := [], alts := [], laidByText := true, laidKinds := [.handle, .sentinel, .sentinel, .sentinel, .sentinel, .sentinel, .sentinel, .sentinel], laidTests := true, laidLooks := .later }
def ConnNobodyCardSaid : Prop := Claim7.holds Tryz.pinned (.plain (OpenSpec.ofChange connNobodySpec)) connNobodyCard

/-- THE SECOND FORM's CARD OF 'towncrierlaw34.StoreReplays'. -/
def storeReplaysUptoCard : Claim7 := { stood := { row := storeReplaysUptoRow, standIns := [], harness := (true, "1c703b90aaee890fb4fab0ebcc3ba8daf3099433f3609baeb5caf883683ac3f2"), looks := true }, kinds := [], alts := [], laidByText := true, laidKinds := [.handle, .sentinel, .sentinel, .sentinel, .sentinel, .sentinel], laidTests := true, laidLooks := .later }
def StoreReplaysUptoCardSaid : Prop := Claim7.holds Tryz.pinned (.plain (OpenSpec.upto storeReplaysSpec)) storeReplaysUptoCard

/-- THE SECOND FORM's CARD OF 'towncrierlaw34.StoreTakes'. -/
def storeTakesUptoCard : Claim7 := { stood := { row := storeTakesUptoRow, standIns := [], harness := (true, "1c703b90aaee890fb4fab0ebcc3ba8daf3099433f3609baeb5caf883683ac3f2"), looks := true }, kinds := [], alts := [], laidByText := true, laidKinds := [.handle, .sentinel, .sentinel, .sentinel, .sentinel, .sentinel, .sentinel, .sentinel], laidTests := true, laidLooks := .later }
def StoreTakesUptoCardSaid : Prop := Claim7.holds Tryz.pinned (.plain (OpenSpec.upto storeTakesSpec)) storeTakesUptoCard

/-- THE SECOND FORM's CARD OF 'towncrierlaw15.PacketEncodes'. -/
def packetEncodesUptoCard : Claim7 := { stood := { row := packetEncodesUptoRow, standIns := [], harness := (true, "1c703b90aaee890fb4fab0ebcc3ba8daf3099433f3609baeb5caf883683ac3f2"), looks := true }, kinds := [], alts := [], laidByText := true, laidKinds := [.handle, .sentinel, .sentinel, .sentinel, .sentinel, .sentinel, .sentinel, .sentinel], laidTests := true, laidLooks := .later }
def PacketEncodesUptoCardSaid : Prop := Claim7.holds Tryz.pinned (.plain (OpenSpec.upto packetEncodesSpec)) packetEncodesUptoCard

/-- THE SECOND FORM's CARD OF 'towncrierlaw15.PacketBack'. -/
def packetBackUptoCard : Claim7 := { stood := { row := packetBackUptoRow, standIns := [], harness := (true, "1c703b90aaee890fb4fab0ebcc3ba8daf3099433f3609baeb5caf883683ac3f2"), looks := true }, kinds := [], alts := [], laidByText := true, laidKinds := [.handle, .sentinel, .sentinel, .sentinel, .sentinel, .sentinel, .sentinel, .sentinel], laidTests := true, laidLooks := .later }
def PacketBackUptoCardSaid : Prop := Claim7.holds Tryz.pinned (.plain (OpenSpec.upto packetBackSpec)) packetBackUptoCard

/-- THE SECOND FORM's CARD OF 'towncrierlaw37.ConnNobody'. -/
def connNobodyUptoCard : Claim7 := { stood := { row := connNobodyUptoRow, standIns := [], harness := (true, "1c703b90aaee890fb4fab0ebcc3ba8daf3099433f3609baeb5caf883683ac3f2"), looks := true }, kinds := [], alts := [], laidByText := true, laidKinds := [.handle, .sentinel, .sentinel, .sentinel, .sentinel, .sentinel, .sentinel, .sentinel], laidTests := true, laidLooks := .later }
def ConnNobodyUptoCardSaid : Prop := Claim7.holds Tryz.pinned (.plain (OpenSpec.upto connNobodySpec)) connNobodyUptoCard
end Rows
end Go.Proofs.YtkhcbbpfchgemaaGreatDoor
