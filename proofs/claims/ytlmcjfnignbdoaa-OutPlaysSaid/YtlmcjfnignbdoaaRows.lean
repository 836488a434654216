/-
  No cell of these rows narrows 'for every input' (looked for: loops, veiled, ifaces, maps, wideKeys, modest, calm, conditions, laid).
  DERIVED. THE GIVEN ROWS OF THIS SEAT. 7 by the template 'for every input the law returns true; each argument reads behind the call as it read before'; 0 by the template 'total and deterministic' (their statements: YtlmcjfnignbdoaaTotals.lean).
  GIVEN WITH THE SEED: the statements are not yours to turn. If you find one false, say at which input.
  Laid BY PROGRAM, IN A SANDBOX (cutbox-rows.mjs): the forced cells as the released guide's own fill.sh prints them over the translation 64bdf4c323794126… (all of the seat's roots in one cut). By AI agents, Wed Nov 11 2026. No macro, syntax, notation, axiom, sorry.
-/
import Derived.Test.YtlmcjfnignbdoaaChecked
import GoSem.Claim
import GoSem.ClaimJoined
import GoSem.ClaimMapViews
import Derived.JoinedTies
import Derived.KernelRfl
namespace Go.Proofs.Ytlmcjfnignbdoaa
/- THE CELL 'sum', in the pinned program and in every row, IS THE sha256 OF THE DUMP (.gsa) THAT YtlmcjfnignbdoaaProg.lean LOADS. Nothing in Lean hashes anything: it is a label: what it is worth is what the hold of that sum in a sandbox is worth. -/
noncomputable def Try.pinned : Pinned := { name := "ytlmcjfnignbdoaa", sum := "64bdf4c32379412607ba860d90098347982510f9b64a6aec7786d6efe1eea796", checked := Try.checked }
namespace Rows
def none {H : Type} : Left H := { results := [], args := [] }

/-- 'towncrierlaw05.ReasonIs': WHATEVER THE INPUT: true; the input reads as it did. -/
def reasonIsSpec : ChangeSpec := { name := "reasonIs", fn := fun _ => fun
  | [d1, d2] => { results := [.lit (.bool true)], args := [d1, d2] }
  | _ => none }
def reasonIsRow : OpenClaim := { program := "ytlmcjfnignbdoaa", sum := "64bdf4c32379412607ba860d90098347982510f9b64a6aec7786d6efe1eea796", func := "towncrier/towncrierlaw05.ReasonIs", spec := "reasonIs", apart := false }
def ReasonIsSaid : Prop := reasonIsRow.holds Try.pinned (OpenSpec.ofChange reasonIsSpec)

/-- ITS FALSE NEIGHBOUR: 'it returns false'. Refute it at one input. -/
def reasonIsWrong : ChangeSpec := { name := "reasonIs", fn := fun _ => fun
  | [d1, d2] => { results := [.lit (.bool false)], args := [d1, d2] }
  | _ => none }
def ReasonIsWrongFalsely : Prop := reasonIsRow.holds Try.pinned (OpenSpec.ofChange reasonIsWrong)

/-- 'towncrierlaw05.ReasonAll': WHATEVER THE INPUT: true; the input reads as it did. -/
def reasonAllSpec : ChangeSpec := { name := "reasonAll", fn := fun _ => fun
  | [d] => { results := [.lit (.bool true)], args := [d] }
  | _ => none }
def reasonAllRow : OpenClaim := { program := "ytlmcjfnignbdoaa", sum := "64bdf4c32379412607ba860d90098347982510f9b64a6aec7786d6efe1eea796", func := "towncrier/towncrierlaw05.ReasonAll", spec := "reasonAll", apart := false }
def ReasonAllSaid : Prop := reasonAllRow.holds Try.pinned (OpenSpec.ofChange reasonAllSpec)

/-- ITS FALSE NEIGHBOUR: 'it returns false'. Refute it at one input. -/
def reasonAllWrong : ChangeSpec := { name := "reasonAll", fn := fun _ => fun
  | [d] => { results := [.lit (.bool false)], args := [d] }
  | _ => none }
def ReasonAllWrongFalsely : Prop := reasonAllRow.holds Try.pinned (OpenSpec.ofChange reasonAllWrong)

/-- 'towncrierlaw05.ReasonCloses': WHATEVER THE INPUT: true; the input reads as it did. -/
def reasonClosesSpec : ChangeSpec := { name := "reasonCloses", fn := fun _ => fun
  | [d] => { results := [.lit (.bool true)], args := [d] }
  | _ => none }
def reasonClosesRow : OpenClaim := { program := "ytlmcjfnignbdoaa", sum := "64bdf4c32379412607ba860d90098347982510f9b64a6aec7786d6efe1eea796", func := "towncrier/towncrierlaw05.ReasonCloses", spec := "reasonCloses", apart := false }
def ReasonClosesSaid : Prop := reasonClosesRow.holds Try.pinned (OpenSpec.ofChange reasonClosesSpec)

/-- ITS FALSE NEIGHBOUR: 'it returns false'. Refute it at one input. -/
def reasonClosesWrong : ChangeSpec := { name := "reasonCloses", fn := fun _ => fun
  | [d] => { results := [.lit (.bool false)], args := [d] }
  | _ => none }
def ReasonClosesWrongFalsely : Prop := reasonClosesRow.holds Try.pinned (OpenSpec.ofChange reasonClosesWrong)

/-- 'towncrierlaw05.ReasonKinds': WHATEVER THE INPUT: true; the input reads as it did. -/
def reasonKindsSpec : ChangeSpec := { name := "reasonKinds", fn := fun _ => fun
  | [d] => { results := [.lit (.bool true)], args := [d] }
  | _ => none }
def reasonKindsRow : OpenClaim := { program := "ytlmcjfnignbdoaa", sum := "64bdf4c32379412607ba860d90098347982510f9b64a6aec7786d6efe1eea796", func := "towncrier/towncrierlaw05.ReasonKinds", spec := "reasonKinds", apart := false }
def ReasonKindsSaid : Prop := reasonKindsRow.holds Try.pinned (OpenSpec.ofChange reasonKindsSpec)

/-- ITS FALSE NEIGHBOUR: 'it returns false'. Refute it at one input. -/
def reasonKindsWrong : ChangeSpec := { name := "reasonKinds", fn := fun _ => fun
  | [d] => { results := [.lit (.bool false)], args := [d] }
  | _ => none }
def ReasonKindsWrongFalsely : Prop := reasonKindsRow.holds Try.pinned (OpenSpec.ofChange reasonKindsWrong)

/-- 'towncrierlaw24.OutPacket': WHATEVER THE INPUT: true; the input reads as it did. -/
def outPacketSpec : ChangeSpec := { name := "outPacket", fn := fun _ => fun
  | [d1, d2, d3] => { results := [.lit (.bool true)], args := [d1, d2, d3] }
  | _ => none }
def outPacketRow : OpenClaim := { program := "ytlmcjfnignbdoaa", sum := "64bdf4c32379412607ba860d90098347982510f9b64a6aec7786d6efe1eea796", func := "towncrier/towncrierlaw24.OutPacket", spec := "outPacket", unfollowed := true, recurses := true, apart := false }
def OutPacketSaid : Prop := outPacketRow.holds Try.pinned (OpenSpec.ofChange outPacketSpec)

/-- ITS FALSE NEIGHBOUR: 'it returns false'. Refute it at one input. -/
def outPacketWrong : ChangeSpec := { name := "outPacket", fn := fun _ => fun
  | [d1, d2, d3] => { results := [.lit (.bool false)], args := [d1, d2, d3] }
  | _ => none }
def OutPacketWrongFalsely : Prop := outPacketRow.holds Try.pinned (OpenSpec.ofChange outPacketWrong)

/-- 'towncrierlaw24.OutPlays': WHATEVER THE INPUT: true; the input reads as it did. -/
def outPlaysSpec : ChangeSpec := { name := "outPlays", fn := fun _ => fun
  | [d] => { results := [.lit (.bool true)], args := [d] }
  | _ => none }
def outPlaysRow : OpenClaim := { program := "ytlmcjfnignbdoaa", sum := "64bdf4c32379412607ba860d90098347982510f9b64a6aec7786d6efe1eea796", func := "towncrier/towncrierlaw24.OutPlays", spec := "outPlays", unfollowed := true, recurses := true, apart := false }
def OutPlaysSaid : Prop := outPlaysRow.holds Try.pinned (OpenSpec.ofChange outPlaysSpec)

/-- ITS FALSE NEIGHBOUR: 'it returns false'. Refute it at one input. -/
def outPlaysWrong : ChangeSpec := { name := "outPlays", fn := fun _ => fun
  | [d] => { results := [.lit (.bool false)], args := [d] }
  | _ => none }
def OutPlaysWrongFalsely : Prop := outPlaysRow.holds Try.pinned (OpenSpec.ofChange outPlaysWrong)

/-- 'towncrierlaw24.OutOnce': WHATEVER THE INPUT: true; the input reads as it did. -/
def outOnceSpec : ChangeSpec := { name := "outOnce", fn := fun _ => fun
  | [d] => { results := [.lit (.bool true)], args := [d] }
  | _ => none }
def outOnceRow : OpenClaim := { program := "ytlmcjfnignbdoaa", sum := "64bdf4c32379412607ba860d90098347982510f9b64a6aec7786d6efe1eea796", func := "towncrier/towncrierlaw24.OutOnce", spec := "outOnce", unfollowed := true, recurses := true, apart := false }
def OutOnceSaid : Prop := outOnceRow.holds Try.pinned (OpenSpec.ofChange outOnceSpec)

/-- ITS FALSE NEIGHBOUR: 'it returns false'. Refute it at one input. -/
def outOnceWrong : ChangeSpec := { name := "outOnce", fn := fun _ => fun
  | [d] => { results := [.lit (.bool false)], args := [d] }
  | _ => none }
def OutOnceWrongFalsely : Prop := outOnceRow.holds Try.pinned (OpenSpec.ofChange outOnceWrong)

/- THE SECOND FORM. 'bulk': how many values and letters a reading holds, each counted each time it is reached (what is shared counts as often as it is met; a slice's spare places count too). A statement '..UptoSaid' is the law's where the arguments, and the package variables that the reading takes, are together of bulk at most 1048576: NARROWER than '..Said'. Prove '..Said' where nothing that the law and all that it calls make is longer than what came in: it says more and counts as full. Else prove '..UptoSaid'. A law counts once. -/
mutual
def uptoBulk {H : Type} : DataW H → Nat
  | .lit (.string bytes) => bytes.length + 1
  | .lit _ => 1
  | .nil => 1
  | .ptr d => uptoBulk d + 1
  | .slice elems spare => uptoBulkAll elems + uptoBulkAll spare + 1
  | .agg parts => uptoBulkAll parts + 1
  | .iface _ d => uptoBulk d + 1
  | .map entries => uptoBulkEntries entries + 1
  | .held _ => 1
def uptoBulkAll {H : Type} : List (DataW H) → Nat
  | [] => 0
  | d :: r => uptoBulk d + uptoBulkAll r
def uptoBulkEntries {H : Type} : List (Lit × DataW H) → Nat
  | [] => 0
  | x :: r => uptoBulkEntry x + uptoBulkEntries r
def uptoBulkEntry {H : Type} : Lit × DataW H → Nat
  | (.string bytes, d) => bytes.length + uptoBulk d + 1
  | (_, d) => uptoBulk d + 1
 end
def uptoSmall : (H : Type) → List (DataW H) → Bool := fun _ ds => decide (uptoBulkAll ds ≤ 1048576)
def OpenSpec.upto (s : _root_.Go.ChangeSpec) : _root_.Go.OpenSpec := { _root_.Go.OpenSpec.ofChange s with cond := some uptoSmall }

/-- 'towncrierlaw05.ReasonIs', WHERE WHAT IT READS IS OF BULK AT MOST 1048576: true; the input reads as it did. -/
def reasonIsUptoRow : OpenClaim := { program := "ytlmcjfnignbdoaa", sum := "64bdf4c32379412607ba860d90098347982510f9b64a6aec7786d6efe1eea796", func := "towncrier/towncrierlaw05.ReasonIs", spec := "reasonIs", apart := false, narrowed := true }
def ReasonIsUptoSaid : Prop := reasonIsUptoRow.holds Try.pinned (OpenSpec.upto reasonIsSpec)

/-- 'towncrierlaw05.ReasonAll', WHERE WHAT IT READS IS OF BULK AT MOST 1048576: true; the input reads as it did. -/
def reasonAllUptoRow : OpenClaim := { program := "ytlmcjfnignbdoaa", sum := "64bdf4c32379412607ba860d90098347982510f9b64a6aec7786d6efe1eea796", func := "towncrier/towncrierlaw05.ReasonAll", spec := "reasonAll", apart := false, narrowed := true }
def ReasonAllUptoSaid : Prop := reasonAllUptoRow.holds Try.pinned (OpenSpec.upto reasonAllSpec)

/-- 'towncrierlaw05.ReasonCloses', WHERE WHAT IT READS IS OF BULK AT MOST 1048576: true; the input reads as it did. -/
def reasonClosesUptoRow : OpenClaim := { program := "ytlmcjfnignbdoaa", sum := "64bdf4c32379412607ba860d90098347982510f9b64a6aec7786d6efe1eea796", func := "towncrier/towncrierlaw05.ReasonCloses", spec := "reasonCloses", apart := false, narrowed := true }
def ReasonClosesUptoSaid : Prop := reasonClosesUptoRow.holds Try.pinned (OpenSpec.upto reasonClosesSpec)

/-- 'towncrierlaw05.ReasonKinds', WHERE WHAT IT READS IS OF BULK AT MOST 1048576: true; the input reads as it did. -/
def reasonKindsUptoRow : OpenClaim := { program := "ytlmcjfnignbdoaa", sum := "64bdf4c32379412607ba860d90098347982510f9b64a6aec7786d6efe1eea796", func := "towncrier/towncrierlaw05.ReasonKinds", spec := "reasonKinds", apart := false, narrowed := true }
def ReasonKindsUptoSaid : Prop := reasonKindsUptoRow.holds Try.pinned (OpenSpec.upto reasonKindsSpec)

/-- 'towncrierlaw24.OutPacket', WHERE WHAT IT READS IS OF BULK AT MOST 1048576: true; the input reads as it did. -/
def outPacketUptoRow : OpenClaim := { program := "ytlmcjfnignbdoaa", sum := "64bdf4c32379412607ba860d90098347982510f9b64a6aec7786d6efe1eea796", func := "towncrier/towncrierlaw24.OutPacket", spec := "outPacket", unfollowed := true, recurses := true, apart := false, narrowed := true }
def OutPacketUptoSaid : Prop := outPacketUptoRow.holds Try.pinned (OpenSpec.upto outPacketSpec)

/-- 'towncrierlaw24.OutPlays', WHERE WHAT IT READS IS OF BULK AT MOST 1048576: true; the input reads as it did. -/
def outPlaysUptoRow : OpenClaim := { program := "ytlmcjfnignbdoaa", sum := "64bdf4c32379412607ba860d90098347982510f9b64a6aec7786d6efe1eea796", func := "towncrier/towncrierlaw24.OutPlays", spec := "outPlays", unfollowed := true, recurses := true, apart := false, narrowed := true }
def OutPlaysUptoSaid : Prop := outPlaysUptoRow.holds Try.pinned (OpenSpec.upto outPlaysSpec)

/-- 'towncrierlaw24.OutOnce', WHERE WHAT IT READS IS OF BULK AT MOST 1048576: true; the input reads as it did. -/
def outOnceUptoRow : OpenClaim := { program := "ytlmcjfnignbdoaa", sum := "64bdf4c32379412607ba860d90098347982510f9b64a6aec7786d6efe1eea796", func := "towncrier/towncrierlaw24.OutOnce", spec := "outOnce", unfollowed := true, recurses := true, apart := false, narrowed := true }
def OutOnceUptoSaid : Prop := outOnceUptoRow.holds Try.pinned (OpenSpec.upto outOnceSpec)

end Rows
end Go.Proofs.Ytlmcjfnignbdoaa
