/-
  DERIVED. GIVEN WITH THE SEED: THE CARDS: each row of YtccimdfmddomaaaDoorRows.lean that lists a variable, with what it lists TIED to the program's text (the seventh form; the later family's looks); each row that meets fmt, with fmt's text TOLD by the authors' own Lean function (tested against real Go, not proved from fmt's source: count such statements apart). THE CARD IS WHAT COUNTS. Prove the row's statement (the work); the ties are given (YtccimdfmddomaaaDoorTie.lean); close each card by the builder's one call (the guide's Derived/Test/ToyasCard.lean, 'card_holds'). Laid BY PROGRAM, IN A SANDBOX (cutbox-door.mjs). By AI agents, Wed Nov 11 2026. No macro, syntax, notation, axiom, sorry.
-/
import Derived.Test.YtccimdfmddomaaaDoorRows
import GoSem.ClaimSeven
namespace Go.Proofs.YtccimdfmddomaaaDoor
namespace Rows

/-- THE TIED CARD OF 'towncrierlaw43.ScriptBack'. -/
def scriptBackCard : Claim7 := { stood := { row := scriptBackRow, standIns := [], harness := (true, "2c6c31b535dcf10655c11b54ccac1186e514fcec29200edb3bdc9e9b3c2f0313"), looks := true }, kinds := [], alts := [], laidByText := true, laidKinds := [.sentinel, .sentinel, .sentinel, .sentinel, .sentinel, .sentinel, .sentinel], laidTests := true, laidLooks := .later }
def ScriptBackCardSaid : Prop := Claim7.holds Tryd.pinned (.plain (OpenSpec.ofChange scriptBackSpec)) scriptBackCard

/-- THE TIED CARD OF 'towncrierlaw07.FrameFirst'. -/
def frameFirstCard : Claim7 := { stood := { row := frameFirstRow, standIns := [], harness := (true, "2c6c31b535dcf10655c11b54ccac1186e514fcec29200edb3bdc9e9b3c2f0313"), looks := true }, kinds := [], alts := [], laidByText := true, laidKinds := [.handle, .sentinel, .sentinel, .sentinel, .sentinel, .sentinel, .sentinel, .sentinel], laidTests := true, laidLooks := .later }
def FrameFirstCardSaid : Prop := Claim7.holds Tryd.pinned (.plain (OpenSpec.ofChange frameFirstSpec)) frameFirstCard

/-- THE TIED CARD OF 'towncrierlaw07.FrameSplits'. -/
def frameSplitsCard : Claim7 := { stood := { row := frameSplitsRow, standIns := [], harness := (true, "2c6c31b535dcf10655c11b54ccac1186e514fcec29200edb3bdc9e9b3c2f0313"), looks := true }, kinds := [], alts := [], laidByText := true, laidKinds := [.handle, .sentinel, .sentinel, .sentinel, .sentinel, .sentinel, .sentinel, .sentinel], laidTests := true, laidLooks := .later }
def FrameSplitsCardSaid : Prop := Claim7.holds Tryd.pinned (.plain (OpenSpec.ofChange frameSplitsSpec)) frameSplitsCard

/-- THE TIED CARD OF 'towncrierlaw07.FrameBack'. -/
def frameBackCard : Claim7 := { stood := { row := frameBackRow, standIns := [], harness := (true, "2c6c31b535dcf10655c11b54ccac1186e514fcec29200edb3bdc9e9b3c2f0313"), looks := true }, kinds := [], alts := [], laidByText := true, laidKinds := [.handle, .sentinel, .sentinel, .sentinel, .sentinel, .sentinel, .sentinel, .sentinel], laidTests := true, laidLooks := .later }
def FrameBackCardSaid : Prop := Claim7.holds Tryd.pinned (.plain (OpenSpec.ofChange frameBackSpec)) frameBackCard

/-- THE TIED CARD OF 'towncrierlaw43.ScriptTakes'. -/
def scriptTakesCard : Claim7 := { stood := { row := scriptTakesRow, standIns := [], harness := (true, "2c6c31b535dcf10655c11b54ccac1186e514fcec29200edb3bdc9e9b3c2f0313"), looks := true }, kinds := [], alts := [], laidByText := true, laidKinds := [.handle, .sentinel, .sentinel, .sentinel, .sentinel, .sentinel, .sentinel, .sentinel], laidTests := true, laidLooks := .later }
def ScriptTakesCardSaid : Prop := Claim7.holds Tryd.pinned (.plain (OpenSpec.ofChange scriptTakesSpec)) scriptTakesCard

/-- THE TIED CARD OF 'towncrierlaw04.FieldBack'. -/
def fieldBackCard : Claim7 := { stood := { row := fieldBackRow, standIns := [], harness := (true, "2c6c31b535dcf10655c11b54ccac1186e514fcec29200edb3bdc9e9b3c2f0313"), looks := true }, kinds := [], alts := [], laidByText := true, laidKinds := [.handle, .sentinel, .sentinel, .sentinel, .sentinel, .sentinel, .sentinel, .sentinel], laidTests := true, laidLooks := .later }
def FieldBackCardSaid : Prop := Claim7.holds Tryd.pinned (.plain (OpenSpec.ofChange fieldBackSpec)) fieldBackCard

/-- THE TIED CARD OF 'towncrierlaw06.PropBack'. -/
def propBackCard : Claim7 := { stood := { row := propBackRow, standIns := [], harness := (true, "2c6c31b535dcf10655c11b54ccac1186e514fcec29200edb3bdc9e9b3c2f0313"), looks := true }, kinds := [], alts := [], laidByText := true, laidKinds := [.handle, .sentinel, .sentinel, .sentinel, .sentinel, .sentinel, .sentinel, .sentinel], laidTests := true, laidLooks := .later }
def PropBackCardSaid : Prop := Claim7.holds Tryd.pinned (.plain (OpenSpec.ofChange propBackSpec)) propBackCard

/-- THE TIED CARD OF 'towncrierlaw34.StorePrefix'. -/
def storePrefixCard : Claim7 := { stood := { row := storePrefixRow, standIns := [], harness := (true, "2c6c31b535dcf10655c11b54ccac1186e514fcec29200edb3bdc9e9b3c2f0313"), looks := true }, kinds := [], alts := [], laidByText := true, laidKinds := [.handle, .sentinel, .sentinel, .sentinel, .sentinel, .sentinel], laidTests := true, laidLooks := .later }
def StorePrefixCardSaid : Prop := Claim7.holds Tryd.pinned (.plain (OpenSpec.ofChange storePrefixSpec)) storePrefixCard

/-- THE SECOND FORM's CARD OF 'towncrierlaw43.ScriptBack'. -/
def scriptBackUptoCard : Claim7 := { stood := { row := scriptBackUptoRow, standIns := [], harness := (true, "2c6c31b535dcf10655c11b54ccac1186e514fcec29200edb3bdc9e9b3c2f0313"), looks := true }, kinds := [], alts := [], laidByText := true, laidKinds := [.sentinel, .sentinel, .sentinel, .sentinel, .sentinel, .sentinel, .sentinel], laidTests := true, laidLooks := .later }
def ScriptBackUptoCardSaid : Prop := Claim7.holds Tryd.pinned (.plain (OpenSpec.upto scriptBackSpec)) scriptBackUptoCard

/-- THE SECOND FORM's CARD OF 'towncrierlaw07.FrameFirst'. -/
def frameFirstUptoCard : Claim7 := { stood := { row := frameFirstUptoRow, standIns := [], harness := (true, "2c6c31b535dcf10655c11b54ccac1186e514fcec29200edb3bdc9e9b3c2f0313"), looks := true }, kinds := [], alts := [], laidByText := true, laidKinds := [.handle, .sentinel, .sentinel, .sentinel, .sentinel, .sentinel, .sentinel, .sentinel], laidTests := true, laidLooks := .later }
def FrameFirstUptoCardSaid : Prop := Claim7.holds Tryd.pinned (.plain (OpenSpec.upto frameFirstSpec)) frameFirstUptoCard

/-- THE SECOND FORM's CARD OF 'towncrierlaw07.FrameSplits'. -/
def frameSplitsUptoCard : Claim7 := { stood := { row := frameSplitsUptoRow, standIns := [], harness := (true, "2c6c31b535dcf10655c11b54ccac1186e514fcec29200edb3bdc9e9b3c2f0313"), looks := true }, kinds := [], alts := [], laidByText := true, laidKinds := [.handle, .sentinel, .sentinel, .sentinel, .sentinel, .sentinel, .sentinel, .sentinel], laidTests := true, laidLooks := .later }
def FrameSplitsUptoCardSaid : Prop := Claim7.holds Tryd.pinned (.plain (OpenSpec.upto frameSplitsSpec)) frameSplitsUptoCard

/-- THE SECOND FORM's CARD OF 'towncrierlaw07.FrameBack'. -/
def frameBackUptoCard : Claim7 := { stood := { row := frameBackUptoRow, standIns := [], harness := (true, "2c6c31b535dcf10655c11b54ccac1186e514fcec29200edb3bdc9e9b3c2f0313"), looks := true }, kinds := [], alts := [], laidByText := true, laidKinds := [.handle, .sentinel, .sentinel, .sentinel, .sentinel, .sentinel, .sentinel, .sentinel], laidTests := true, laidLooks := .later }
def FrameBackUptoCardSaid : Prop := Claim7.holds Tryd.pinned (.plain (OpenSpec.upto frameBackSpec)) frameBackUptoCard

/-- THE SECOND FORM's CARD OF 'towncrierlaw43.ScriptTakes'. -/
def scriptTakesUptoCard : Claim7 := { stood := { row := scriptTakesUptoRow, standIns := [], harness := (true, "2c6c31b535dcf10655c11b54ccac1186e514fcec29200edb3bdc9e9b3c2f0313"), looks := true }, kinds := [], alts := [], laidByText := true, laidKinds := [.handle, .sentinel, .sentinel, .sentinel, .sentinel, .sentinel, .sentinel, .sentinel], laidTests := true, laidLooks := .later }
def ScriptTakesUptoCardSaid : Prop := Claim7.holds Tryd.pinned (.plain (OpenSpec.upto scriptTakesSpec)) scriptTakesUptoCard

/-- THE SECOND FORM's CARD OF 'towncrierlaw04.FieldBack'. -/
def fieldBackUptoCard : Claim7 := { stood := { row := fieldBackUptoRow, standIns := [], harness := (true, "2c6c31b535dcf10655c11b54ccac1186e514fcec29200edb3bdc9e9b3c2f0313"), looks := true }, kinds := [], alts := [], laidByText := true, laidKinds := [.handle, .sentinel, .sentinel, .sentinel, .sentinel, .sentinel, .sentinel, .sentinel], laidTests := true, laidLooks := .later }
def FieldBackUptoCardSaid : Prop := Claim7.holds Tryd.pinned (.plain (OpenSpec.upto fieldBackSpec)) fieldBackUptoCard

/-- THE SECOND FORM's CARD OF 'towncrierlaw06.PropBack'. -/
def propBackUptoCard : Claim7 := { stood := { row := propBackUptoRow, standIns := [], harness := (true, "2c6c31b535dcf10655c11b54ccac1186e514fcec29200edb3bdc9e9b3c2f0313"), looks := true }, kinds := [], alts := [], laidByText := true, laidKinds := [.handle, .sentinel, .sentinel, .sentinel, .sentinel, .sentinel, .sentinel, .sentinel], laidTests := true, laidLooks := .later }
def PropBackUptoCardSaid : Prop := Claim7.holds Tryd.pinned (.plain (OpenSpec.upto propBackSpec)) propBackUptoCard

/-- THE SECOND FORM's CARD OF 'towncrierlaw34.StorePrefix'. -/
def storePrefixUptoCard : Claim7 := { stood := { row := storePrefixUptoRow, standIns := [], harness := (true, "2c6c31b535dcf10655c11b54ccac1186e514fcec29200edb3bdc9e9b3c2f0313"), looks := true }, kinds := [], alts := [], laidByText := true, laidKinds := [.handle, .sentinel, .sentinel, .sentinel, .sentinel, .sentinel], laidTests := true, laidLooks := .later }
def StorePrefixUptoCardSaid : Prop := Claim7.holds Tryd.pinned (.plain (OpenSpec.upto storePrefixSpec)) storePrefixUptoCard
end Rows
end Go.Proofs.YtccimdfmddomaaaDoor
