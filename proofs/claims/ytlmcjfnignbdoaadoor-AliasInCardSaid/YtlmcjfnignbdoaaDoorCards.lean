/-
  DERIVED. GIVEN WITH THE SEED: THE CARDS: each row of YtlmcjfnignbdoaaDoorRows.lean that lists a variable, with what it lists TIED to the program's text (the seventh form; the later family's looks); each row that meets fmt, with fmt's text TOLD by the authors' own Lean function (tested against real Go, not proved from fmt's source: count such statements apart). THE CARD IS WHAT COUNTS. Prove the row's statement (the work); the ties are given (YtlmcjfnignbdoaaDoorTie.lean); close each card by the builder's one call (the guide's Derived/Test/ToyasCard.lean, 'card_holds'). Laid BY PROGRAM, IN A SANDBOX (cutbox-door.mjs). By AI agents, Wed Nov 11 2026. No macro, syntax, notation, axiom, sorry.
-/
import Derived.Test.YtlmcjfnignbdoaaDoorRows
import GoSem.ClaimSeven
namespace Go.Proofs.YtlmcjfnignbdoaaDoor
namespace Rows

/-- THE TIED CARD OF 'towncrierlaw26.AliasOut'. -/
def aliasOutCard : Claim7 := { stood := { row := aliasOutRow, standIns := [], harness := (true, "c32390fb1b3f9a1fb95ba477d21b3e73cd310684356c41aa0725911d204778fb"), looks := true }, kinds := [], alts := [], laidByText := true, laidKinds := [.handle, .sentinel], laidTests := true, laidLooks := .later }
def AliasOutCardSaid : Prop := Claim7.holds Tryd.pinned (.plain (OpenSpec.ofChange aliasOutSpec)) aliasOutCard

/-- THE TIED CARD OF 'towncrierlaw26.AliasBack'. -/
def aliasBackCard : Claim7 := { stood := { row := aliasBackRow, standIns := [], harness := (true, "c32390fb1b3f9a1fb95ba477d21b3e73cd310684356c41aa0725911d204778fb"), looks := true }, kinds := [], alts := [], laidByText := true, laidKinds := [.handle, .sentinel], laidTests := true, laidLooks := .later }
def AliasBackCardSaid : Prop := Claim7.holds Tryd.pinned (.plain (OpenSpec.ofChange aliasBackSpec)) aliasBackCard

/-- THE TIED CARD OF 'towncrierlaw02.VarintBack'. -/
def varintBackCard : Claim7 := { stood := { row := varintBackRow, standIns := [], harness := (true, "c32390fb1b3f9a1fb95ba477d21b3e73cd310684356c41aa0725911d204778fb"), looks := true }, kinds := [], alts := [], laidByText := true, laidKinds := [.handle, .sentinel, .sentinel, .sentinel, .sentinel, .sentinel, .sentinel, .sentinel], laidTests := true, laidLooks := .later }
def VarintBackCardSaid : Prop := Claim7.holds Tryd.pinned (.plain (OpenSpec.ofChange varintBackSpec)) varintBackCard

/-- THE TIED CARD OF 'towncrierlaw02.VarintPuts'. -/
def varintPutsCard : Claim7 := { stood := { row := varintPutsRow, standIns := [], harness := (true, "c32390fb1b3f9a1fb95ba477d21b3e73cd310684356c41aa0725911d204778fb"), looks := true }, kinds := [], alts := [], laidByText := true, laidKinds := [.handle, .sentinel, .sentinel, .sentinel, .sentinel, .sentinel, .sentinel, .sentinel], laidTests := true, laidLooks := .later }
def VarintPutsCardSaid : Prop := Claim7.holds Tryd.pinned (.plain (OpenSpec.ofChange varintPutsSpec)) varintPutsCard

/-- THE TIED CARD OF 'towncrierlaw02.VarintTakes'. -/
def varintTakesCard : Claim7 := { stood := { row := varintTakesRow, standIns := [], harness := (true, "c32390fb1b3f9a1fb95ba477d21b3e73cd310684356c41aa0725911d204778fb"), looks := true }, kinds := [], alts := [], laidByText := true, laidKinds := [.handle, .sentinel, .sentinel, .sentinel, .sentinel, .sentinel, .sentinel, .sentinel], laidTests := true, laidLooks := .later }
def VarintTakesCardSaid : Prop := Claim7.holds Tryd.pinned (.plain (OpenSpec.ofChange varintTakesSpec)) varintTakesCard

/-- THE TIED CARD OF 'towncrierlaw26.AliasIn'. -/
def aliasInCard : Claim7 := { stood := { row := aliasInRow, standIns := [], harness := (true, "c32390fb1b3f9a1fb95ba477d21b3e73cd310684356c41aa0725911d204778fb"), looks := true }, kinds := [], alts := [], laidByText := true, laidKinds := [.handle, .sentinel, .sentinel, .sentinel, .sentinel, .sentinel, .sentinel, .sentinel], laidTests := true, laidLooks := .later }
def AliasInCardSaid : Prop := Claim7.holds Tryd.pinned (.plain (OpenSpec.ofChange aliasInSpec)) aliasInCard

/-- THE TIED CARD OF 'towncrierlaw03.UtfLetters'. -/
def utfLettersCard : Claim7 := { stood := { row := utfLettersRow, standIns := [], harness := (true, "c32390fb1b3f9a1fb95ba477d21b3e73cd310684356c41aa0725911d204778fb"), looks := true }, kinds := [], alts := [], laidByText := true, laidKinds := [.handle, .sentinel, .sentinel, .sentinel, .sentinel, .sentinel, .sentinel, .sentinel], laidTests := true, laidLooks := .later }
def UtfLettersCardSaid : Prop := Claim7.holds Tryd.pinned (.plain (OpenSpec.ofChange utfLettersSpec)) utfLettersCard

/-- THE TIED CARD OF 'towncrierlaw03.UtfTogether'. -/
def utfTogetherCard : Claim7 := { stood := { row := utfTogetherRow, standIns := [], harness := (true, "c32390fb1b3f9a1fb95ba477d21b3e73cd310684356c41aa0725911d204778fb"), looks := true }, kinds := [], alts := [], laidByText := true, laidKinds := [.handle, .sentinel, .sentinel, .sentinel, .sentinel, .sentinel, .sentinel, .sentinel], laidTests := true, laidLooks := .later }
def UtfTogetherCardSaid : Prop := Claim7.holds Tryd.pinned (.plain (OpenSpec.ofChange utfTogetherSpec)) utfTogetherCard

/-- THE TIED CARD OF 'towncrierlaw03.UtfIs'. -/
def utfIsCard : Claim7 := { stood := { row := utfIsRow, standIns := [], harness := (true, "c32390fb1b3f9a1fb95ba477d21b3e73cd310684356c41aa0725911d204778fb"), looks := true }, kinds := [], alts := [], laidByText := true, laidKinds := [.handle, .sentinel, .sentinel, .sentinel, .sentinel, .sentinel, .sentinel, .sentinel], laidTests := true, laidLooks := .later }
def UtfIsCardSaid : Prop := Claim7.holds Tryd.pinned (.plain (OpenSpec.ofChange utfIsSpec)) utfIsCard

/-- THE SECOND FORM's CARD OF 'towncrierlaw26.AliasOut'. -/
def aliasOutUptoCard : Claim7 := { stood := { row := aliasOutUptoRow, standIns := [], harness := (true, "c32390fb1b3f9a1fb95ba477d21b3e73cd310684356c41aa0725911d204778fb"), looks := true }, kinds := [], alts := [], laidByText := true, laidKinds := [.handle, .sentinel], laidTests := true, laidLooks := .later }
def AliasOutUptoCardSaid : Prop := Claim7.holds Tryd.pinned (.plain (OpenSpec.upto aliasOutSpec)) aliasOutUptoCard

/-- THE SECOND FORM's CARD OF 'towncrierlaw26.AliasBack'. -/
def aliasBackUptoCard : Claim7 := { stood := { row := aliasBackUptoRow, standIns := [], harness := (true, "c32390fb1b3f9a1fb95ba477d21b3e73cd310684356c41aa0725911d204778fb"), looks := true }, kinds := [], alts := [], laidByText := true, laidKinds := [.handle, .sentinel], laidTests := true, laidLooks := .later }
def AliasBackUptoCardSaid : Prop := Claim7.holds Tryd.pinned (.plain (OpenSpec.upto aliasBackSpec)) aliasBackUptoCard

/-- THE SECOND FORM's CARD OF 'towncrierlaw02.VarintBack'. -/
def varintBackUptoCard : Claim7 := { stood := { row := varintBackUptoRow, standIns := [], harness := (true, "c32390fb1b3f9a1fb95ba477d21b3e73cd310684356c41aa0725911d204778fb"), looks := true }, kinds := [], alts := [], laidByText := true, laidKinds := [.handle, .sentinel, .sentinel, .sentinel, .sentinel, .sentinel, .sentinel, .sentinel], laidTests := true, laidLooks := .later }
def VarintBackUptoCardSaid : Prop := Claim7.holds Tryd.pinned (.plain (OpenSpec.upto varintBackSpec)) varintBackUptoCard

/-- THE SECOND FORM's CARD OF 'towncrierlaw02.VarintPuts'. -/
def varintPutsUptoCard : Claim7 := { stood := { row := varintPutsUptoRow, standIns := [], harness := (true, "c32390fb1b3f9a1fb95ba477d21b3e73cd310684356c41aa0725911d204778fb"), looks := true }, kinds := [], alts := [], laidByText := true, laidKinds := [.handle, .sentinel, .sentinel, .sentinel, .sentinel, .sentinel, .sentinel, .sentinel], laidTests := true, laidLooks := .later }
def VarintPutsUptoCardSaid : Prop := Claim7.holds Tryd.pinned (.plain (OpenSpec.upto varintPutsSpec)) varintPutsUptoCard

/-- THE SECOND FORM's CARD OF 'towncrierlaw02.VarintTakes'. -/
def varintTakesUptoCard : Claim7 := { stood := { row := varintTakesUptoRow, standIns := [], harness := (true, "c32390fb1b3f9a1fb95ba477d21b3e73cd310684356c41aa0725911d204778fb"), looks := true }, kinds := [], alts := [], laidByText := true, laidKinds := [.handle, .sentinel, .sentinel, .sentinel, .sentinel, .sentinel, .sentinel, .sentinel], laidTests := true, laidLooks := .later }
def VarintTakesUptoCardSaid : Prop := Claim7.holds Tryd.pinned (.plain (OpenSpec.upto varintTakesSpec)) varintTakesUptoCard

/-- THE SECOND FORM's CARD OF 'towncrierlaw26.AliasIn'. -/
def aliasInUptoCard : Claim7 := { stood := { row := aliasInUptoRow, standIns := [], harness := (true, "c32390fb1b3f9a1fb95ba477d21b3e73cd310684356c41aa0725911d204778fb"), looks := true }, kinds := [], alts := [], laidByText := true, laidKinds := [.handle, .sentinel, .sentinel, .sentinel, .sentinel, .sentinel, .sentinel, .sentinel], laidTests := true, laidLooks := .later }
def AliasInUptoCardSaid : Prop := Claim7.holds Tryd.pinned (.plain (OpenSpec.upto aliasInSpec)) aliasInUptoCard

/-- THE SECOND FORM's CARD OF 'towncrierlaw03.UtfLetters'. -/
def utfLettersUptoCard : Claim7 := { stood := { row := utfLettersUptoRow, standIns := [], harness := (true, "c32390fb1b3f9a1fb95ba477d21b3e73cd310684356c41aa0725911d204778fb"), looks := true }, kinds := [], alts := [], laidByText := true, laidKinds := [.handle, .sentinel, .sentinel, .sentinel, .sentinel, .sentinel, .sentinel, .sentinel], laidTests := true, laidLooks := .later }
def UtfLettersUptoCardSaid : Prop := Claim7.holds Tryd.pinned (.plain (OpenSpec.upto utfLettersSpec)) utfLettersUptoCard

/-- THE SECOND FORM's CARD OF 'towncrierlaw03.UtfTogether'. -/
def utfTogetherUptoCard : Claim7 := { stood := { row := utfTogetherUptoRow, standIns := [], harness := (true, "c32390fb1b3f9a1fb95ba477d21b3e73cd310684356c41aa0725911d204778fb"), looks := true }, kinds := [], alts := [], laidByText := true, laidKinds := [.handle, .sentinel, .sentinel, .sentinel, .sentinel, .sentinel, .sentinel, .sentinel], laidTests := true, laidLooks := .later }
def UtfTogetherUptoCardSaid : Prop := Claim7.holds Tryd.pinned (.plain (OpenSpec.upto utfTogetherSpec)) utfTogetherUptoCard

/-- THE SECOND FORM's CARD OF 'towncrierlaw03.UtfIs'. -/
def utfIsUptoCard : Claim7 := { stood := { row := utfIsUptoRow, standIns := [], harness := (true, "c32390fb1b3f9a1fb95ba477d21b3e73cd310684356c41aa0725911d204778fb"), looks := true }, kinds := [], alts := [], laidByText := true, laidKinds := [.handle, .sentinel, .sentinel, .sentinel, .sentinel, .sentinel, .sentinel, .sentinel], laidTests := true, laidLooks := .later }
def UtfIsUptoCardSaid : Prop := Claim7.holds Tryd.pinned (.plain (OpenSpec.upto utfIsSpec)) utfIsUptoCard
end Rows
end Go.Proofs.YtlmcjfnignbdoaaDoor
