/-
  DERIVED. GIVEN WITH THE SEED: THE CARDS: each row of YtdiekikcnfjlnaaGreatDoorRows.lean that lists a variable, with what it lists TIED to the program's text (the seventh form; the later family's looks); each row that meets fmt, with fmt's text TOLD by the authors' own Lean function (tested against real Go, not proved from fmt's source: count such statements apart). THE CARD IS WHAT COUNTS. Prove the row's statement (the work); the ties are given (YtdiekikcnfjlnaaGreatDoorTie.lean); close each card by the builder's one call (the guide's Derived/Test/ToyasCard.lean, 'card_holds'). Laid BY PROGRAM, IN A SANDBOX (cutbox-door.mjs). By AI agents, Wed Nov 11 2026. No macro, syntax, notation, axiom, sorry.
-/
import Derived.Test.YtdiekikcnfjlnaaGreatDoorRows
import GoSem.ClaimSeven
namespace Go.Proofs.YtdiekikcnfjlnaaGreatDoor
namespace Rows

/-- THE TIED CARD OF 'towncrierlaw06.PropIs'. -/
def propIsCard : Claim7 := { stood := { row := propIsRow, standIns := [], harness := (true, "c7937e183410717b2cd7a057477b97077b3aa8a2f20eb1fb24b6f5def5e20c75"), looks := true }, kinds := [], alts := [], laidByText := true, laidKinds := [.handle, .sentinel, .sentinel, .sentinel, .sentinel, .sentinel, .sentinel, .sentinel], laidTests := true, laidLooks := .later }
def PropIsCardSaid : Prop := Claim7.holds Tryz.pinned (.plain (OpenSpec.ofChange propIsSpec)) propIsCard

/-- THE SECOND FORM's CARD OF 'towncrierlaw06.PropIs'. -/
def propIsUptoCard : Claim7 := { stood := { row := propIsUptoRow, standIns := [], harness := (true, "c7937e183410717b2cd7a057477b97077b3aa8a2f20eb1fb24b6f5def5e20c75"), looks := true }, kinds := [], alts := [], laidByText := true, laidKinds := [.handle, .sentinel, .sentinel, .sentinel, .sentinel, .sentinel, .sentinel, .sentinel], laidTests := true, laidLooks := .later }
def PropIsUptoCardSaid : Prop := Claim7.holds Tryz.pinned (.plain (OpenSpec.upto propIsSpec)) propIsUptoCard
end Rows
end Go.Proofs.YtdiekikcnfjlnaaGreatDoor
