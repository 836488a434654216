/-
  DERIVED. GIVEN WITH THE SEED: THE CARDS: each row of YtkhcbbpfchgemaaDoorRows.lean that lists a variable, with what it lists TIED to the program's text (the seventh form; the later family's looks); each row that meets fmt, with fmt's text TOLD by the authors' own Lean function (tested against real Go, not proved from fmt's source: count such statements apart). THE CARD IS WHAT COUNTS. Prove the row's statement (the work); the ties are given (YtkhcbbpfchgemaaDoorTie.lean); close each card by the builder's one call (the guide's Derived/Test/ToyasCard.lean, 'card_holds'). Laid BY PROGRAM, IN A SANDBOX (cutbox-door.mjs). By AI agents, Wed Nov 11 2026. No macro, syntax, notation, axiom, sorry.
-/
import Derived.Test.YtkhcbbpfchgemaaDoorRows
import GoSem.ClaimSeven
namespace Go.Proofs.YtkhcbbpfchgemaaDoor
namespace Rows

/-- THE TIED CARD OF 'towncrierlaw34.StorePrefix'. -/
def storePrefixCard : Claim7 := { stood := { row := storePrefixRow, standIns := [], harness := (true, "7553bfa0e3b5c1c04587006a819d7f96257f395211df1a0dcee6454736a22c02"), looks := true }, kinds := [], alts := [], laidByText := true, laidKinds := [.handle, .sentinel, .sentinel, .sentinel, .sentinel, .sentinel], laidTests := true, laidLooks := .later }
def StorePrefixCardSaid : Prop := Claim7.holds Tryd.pinned (.plain (OpenSpec.ofChange storePrefixSpec)) storePrefixCard

/-- THE SECOND FORM's CARD OF 'towncrierlaw34.StorePrefix'. -/
def storePrefixUptoCard : Claim7 := { stood := { row := storePrefixUptoRow, standIns := [], harness := (true, "7553bfa0e3b5c1c04587006a819d7f96257f395211df1a0dcee6454736a22c02"), looks := true }, kinds := [], alts := [], laidByText := true, laidKinds := [.handle, .sentinel, .sentinel, .sentinel, .sentinel, .sentinel], laidTests := true, laidLooks := .later }
def StorePrefixUptoCardSaid : Prop := Claim7.holds Tryd.pinned (.plain (OpenSpec.upto storePrefixSpec)) storePrefixUptoCard
end Rows
end Go.Proofs.YtkhcbbpfchgemaaDoor
