/-
  NARROWER THAN 'FOR EVERY INPUT', by the rows' own cells (each row's printed sentence says how): StoreReplays: laid · StoreTakes: laid · PacketEncodes: laid · PacketBack: laid · ConnNobody: laid.
  DERIVED. THE GIVEN ROWS OF THIS SEAT. 5 by the template 'for every input the law returns true; each argument reads behind the call as it read before'; 0 by the template 'total and deterministic' (their statements: YtkhcbbpfchgemaaGreatDoorTotals.lean).
  GIVEN WITH THE SEED: the statements are not yours to turn. If you find one false, say at which input.
  Laid BY PROGRAM, IN A SANDBOX (cutbox-rows.mjs): the forced cells as the released guide's own fill.sh prints them over the translation bfd470ff9c467885… (all of the seat's roots in one cut). By AI agents, Wed Nov 11 2026. No macro, syntax, notation, axiom, sorry.
-/
import Derived.Test.YtkhcbbpfchgemaaGreatDoorChecked
import GoSem.Claim
import GoSem.ClaimJoined
import GoSem.ClaimMapViews
import Derived.JoinedTies
import Derived.KernelRfl
namespace Go.Proofs.YtkhcbbpfchgemaaGreatDoor
/- THE CELL 'sum', in the pinned program and in every row, IS THE sha256 OF THE DUMP (.gsa) THAT YtkhcbbpfchgemaaGreatDoorProg.lean LOADS. Nothing in Lean hashes anything: it is a label: what it is worth is what the hold of that sum in a sandbox is worth. -/
noncomputable def Tryz.pinned : Pinned := { name := "ytkhcbbpfchgemaagreatdoor", sum := "bfd470ff9c467885d285805d027716f17715d77905854f8898e0a86b9e5bb1a5", checked := Tryz.checked }
namespace Rows
def none {H : Type} : Left H := { results := [], args := [] }

/- WHAT THE LISTED PACKAGE-LEVEL VARIABLES READ AS WHEN THE CALL BEGINS. Each datum BY PROGRAM (the guide's laid-datum.mjs) off the statement by which the dump's own 'gosem.cut.vars' lays the variable. In a bare row this is a premise. The card (YtkhcbbpfchgemaaGreatDoorCards.lean) ties it to the program's text. -/
def laid_errors_errorType {H : Type} : DataW H := .iface "internal/reflectlite.rtype" (.agg [.ptr (.lit (.string [101, 114, 114, 111, 114]))])
def laid_towncrier_api_ErrShort {H : Type} : DataW H := .iface "*errors.errorString" (.ptr (.agg [.lit (.string [116, 111, 111, 32, 102, 101, 119, 32, 98, 121, 116, 101, 115])]))
def laid_towncrier_api_ErrMalformed {H : Type} : DataW H := .iface "*errors.errorString" (.ptr (.agg [.lit (.string [109, 97, 108, 102, 111, 114, 109, 101, 100])]))
def laid_towncrier_api_ErrProtocol {H : Type} : DataW H := .iface "*errors.errorString" (.ptr (.agg [.lit (.string [97, 103, 97, 105, 110, 115, 116, 32, 116, 104, 101, 32, 112, 114, 111, 116, 111, 99, 111, 108])]))
def laid_towncrier_api_ErrTooLarge {H : Type} : DataW H := .iface "*errors.errorString" (.ptr (.agg [.lit (.string [116, 111, 111, 32, 108, 97, 114, 103, 101])]))
def laid_towncrier_api_ErrArgument {H : Type} : DataW H := .iface "*errors.errorString" (.ptr (.agg [.lit (.string [110, 111, 32, 115, 117, 99, 104, 32, 116, 104, 105, 110, 103])]))
def laid_towncrier_api_ErrQuota {H : Type} : DataW H := .iface "*errors.errorString" (.ptr (.agg [.lit (.string [110, 111, 32, 114, 111, 111, 109])]))
def laid_towncrier_api_ErrState {H : Type} : DataW H := .iface "*errors.errorString" (.ptr (.agg [.lit (.string [110, 111, 116, 32, 110, 111, 119])]))

/-- 'towncrierlaw34.StoreReplays': WHATEVER THE INPUT: true; the input reads as it did. -/
def storeReplaysSpec : ChangeSpec := { name := "storeReplays", fn := fun _ => fun
  | [d1, d2, d3] => { results := [.lit (.bool true)], args := [d1, d2, d3] }
  | _ => none }
def storeReplaysRow : OpenClaim := { program := "ytkhcbbpfchgemaagreatdoor", sum := "bfd470ff9c467885d285805d027716f17715d77905854f8898e0a86b9e5bb1a5", func := "towncrier/towncrierlaw34.StoreReplays", spec := "storeReplays", inPlace := ["internal/reflectlite.ValueOf", "(internal/reflectlite.Value).Type", "(internal/reflectlite.Value).IsNil", "internal/reflectlite.TypeOf", "(internal/reflectlite.Value).Elem", "(internal/reflectlite.Value).Set"], unfollowed := true, recurses := true, named := ["towncrier/api.ErrArgument", "towncrier/api.ErrTooLarge", "towncrier/api.ErrMalformed", "towncrier/api.ErrProtocol", "errors.errorType", "towncrier/api.ErrShort"], apart := false, laid := [("errors.errorType", laid_errors_errorType), ("towncrier/api.ErrShort", laid_towncrier_api_ErrShort), ("towncrier/api.ErrMalformed", laid_towncrier_api_ErrMalformed), ("towncrier/api.ErrProtocol", laid_towncrier_api_ErrProtocol), ("towncrier/api.ErrTooLarge", laid_towncrier_api_ErrTooLarge), ("towncrier/api.ErrArgument", laid_towncrier_api_ErrArgument)] }
def StoreReplaysSaid : Prop := storeReplaysRow.holds Tryz.pinned (OpenSpec.ofChange storeReplaysSpec)

/-- ITS FALSE NEIGHBOUR: 'it returns false'. Refute it at one input. -/
def storeReplaysWrong : ChangeSpec := { name := "storeReplays", fn := fun _ => fun
  | [d1, d2, d3] => { results := [.lit (.bool false)], args := [d1, d2, d3] }
  | _ => none }
def StoreReplaysWrongFalsely : Prop := storeReplaysRow.holds Tryz.pinned (OpenSpec.ofChange storeReplaysWrong)

/-- 'towncrierlaw34.StoreTakes': WHATEVER THE INPUT: true; the input reads as it did. -/
def storeTakesSpec : ChangeSpec := { name := "storeTakes", fn := fun _ => fun
  | [d] => { results := [.lit (.bool true)], args := [d] }
  | _ => none }
def storeTakesRow : OpenClaim := { program := "ytkhcbbpfchgemaagreatdoor", sum := "bfd470ff9c467885d285805d027716f17715d77905854f8898e0a86b9e5bb1a5", func := "towncrier/towncrierlaw34.StoreTakes", spec := "storeTakes", inPlace := ["internal/reflectlite.ValueOf", "(internal/reflectlite.Value).Type", "(internal/reflectlite.Value).IsNil", "internal/reflectlite.TypeOf", "(internal/reflectlite.Value).Elem", "(internal/reflectlite.Value).Set"], unfollowed := true, recurses := true, named := ["towncrier/api.ErrArgument", "towncrier/api.ErrTooLarge", "towncrier/api.ErrMalformed", "towncrier/api.ErrProtocol", "errors.errorType", "towncrier/api.ErrShort", "towncrier/api.ErrQuota", "towncrier/api.ErrState"], apart := false, laid := [("errors.errorType", laid_errors_errorType), ("towncrier/api.ErrShort", laid_towncrier_api_ErrShort), ("towncrier/api.ErrMalformed", laid_towncrier_api_ErrMalformed), ("towncrier/api.ErrProtocol", laid_towncrier_api_ErrProtocol), ("towncrier/api.ErrTooLarge", laid_towncrier_api_ErrTooLarge), ("towncrier/api.ErrQuota", laid_towncrier_api_ErrQuota), ("towncrier/api.ErrState", laid_towncrier_api_ErrState), ("towncrier/api.ErrArgument", laid_towncrier_api_ErrArgument)] }
def StoreTakesSaid : Prop := storeTakesRow.holds Tryz.pinned (OpenSpec.ofChange storeTakesSpec)

/-- ITS FALSE NEIGHBOUR: 'it returns false'. Refute it at one input. -/
def storeTakesWrong : ChangeSpec := { name := "storeTakes", fn := fun _ => fun
  | [d] => { results := [.lit (.bool false)], args := [d] }
  | _ => none }
def StoreTakesWrongFalsely : Prop := storeTakesRow.holds Tryz.pinned (OpenSpec.ofChange storeTakesWrong)

/-- 'towncrierlaw15.PacketEncodes': WHATEVER THE INPUT: true; the input reads as it did. -/
def packetEncodesSpec : ChangeSpec := { name := "packetEncodes", fn := fun _ => fun
  | [d1, d2] => { results := [.lit (.bool true)], args := [d1, d2] }
  | _ => none }
def packetEncodesRow : OpenClaim := { program := "ytkhcbbpfchgemaagreatdoor", sum := "bfd470ff9c467885d285805d027716f17715d77905854f8898e0a86b9e5bb1a5", func := "towncrier/towncrierlaw15.PacketEncodes", spec := "packetEncodes", inPlace := ["internal/reflectlite.TypeOf", "internal/reflectlite.ValueOf", "(internal/reflectlite.Value).Type", "(internal/reflectlite.Value).IsNil", "(internal/reflectlite.Value).Elem", "(internal/reflectlite.Value).Set"], unfollowed := true, recurses := true, named := ["towncrier/api.ErrMalformed", "towncrier/api.ErrShort", "towncrier/api.ErrTooLarge", "errors.errorType", "towncrier/api.ErrProtocol", "towncrier/api.ErrArgument", "towncrier/api.ErrQuota", "towncrier/api.ErrState"], apart := false, laid := [("errors.errorType", laid_errors_errorType), ("towncrier/api.ErrShort", laid_towncrier_api_ErrShort), ("towncrier/api.ErrMalformed", laid_towncrier_api_ErrMalformed), ("towncrier/api.ErrProtocol", laid_towncrier_api_ErrProtocol), ("towncrier/api.ErrTooLarge", laid_towncrier_api_ErrTooLarge), ("towncrier/api.ErrQuota", laid_towncrier_api_ErrQuota), ("towncrier/api.ErrState", laid_towncrier_api_ErrState), ("towncrier/api.ErrArgument", laid_towncrier_api_ErrArgument)] }
def PacketEncodesSaid : Prop := packetEncodesRow.holds Tryz.pinned (OpenSpec.ofChange packetEncodesSpec)

/-- ITS FALSE NEIGHBOUR: 'it returns false'. Refute it at one input. -/
def packetEncodesWrong : ChangeSpec := { name := "packetEncodes", fn := fun _ => fun
  | [d1, d2] => { results := [.lit (.bool false)], args := [d1, d2] }
  | _ => none }
def PacketEncodesWrongFalsely : Prop := packetEncodesRow.holds Tryz.pinned (OpenSpec.ofChange packetEncodesWrong)

/-- 'towncrierlaw15.PacketBack': WHATEVER THE INPUT: true; the input reads as it did. -/
def packetBackSpec : ChangeSpec := { name := "packetBack", fn := fun _ => fun
  | [d] => { results := [.lit (.bool true)], args := [d] }
  | _ => none }
def packetBackRow : OpenClaim := { program := "ytkhcbbpfchgemaagreatdoor", sum := "bfd470ff9c467885d285805d027716f17715d77905854f8898e0a86b9e5bb1a5", func := "towncrier/towncrierlaw15.PacketBack", spec := "packetBack", inPlace := ["internal/reflectlite.TypeOf", "internal/reflectlite.ValueOf", "(internal/reflectlite.Value).Type", "(internal/reflectlite.Value).IsNil", "(internal/reflectlite.Value).Elem", "(internal/reflectlite.Value).Set"], unfollowed := true, recurses := true, named := ["towncrier/api.ErrMalformed", "towncrier/api.ErrShort", "towncrier/api.ErrTooLarge", "errors.errorType", "towncrier/api.ErrProtocol", "towncrier/api.ErrArgument", "towncrier/api.ErrQuota", "towncrier/api.ErrState"], apart := false, laid := [("errors.errorType", laid_errors_errorType), ("towncrier/api.ErrShort", laid_towncrier_api_ErrShort), ("towncrier/api.ErrMalformed", laid_towncrier_api_ErrMalformed), ("towncrier/api.ErrProtocol", laid_towncrier_api_ErrProtocol), ("towncrier/api.ErrTooLarge", laid_towncrier_api_ErrTooLarge), ("towncrier/api.ErrQuota", laid_towncrier_api_ErrQuota), ("towncrier/api.ErrState", laid_towncrier_api_ErrState), ("towncrier/api.ErrArgument", laid_towncrier_api_ErrArgument)] }
def PacketBackSaid : Prop := packetBackRow.holds Tryz.pinned (OpenSpec.ofChange packetBackSpec)

/-- ITS FALSE NEIGHBOUR: 'it returns false'. Refute it at one input. -/
def packetBackWrong : ChangeSpec := { name := "packetBack", fn := fun _ => fun
  | [d] => { results := [.lit (.bool false)], args := [d] }
  | _ => none }
def PacketBackWrongFalsely : Prop := packetBackRow.holds Tryz.pinned (OpenSpec.ofChange packetBackWrong)

/-- 'towncrierlaw37.ConnNobody': WHATEVER THE INPUT: true; the input reads as it did. -/
def connNobodySpec : ChangeSpec := { name := "connNobody", fn := fun _ => fun
  | [d] => { results := [.lit (.bool true)], args := [d] }
  | _ => none }
def connNobodyRow : OpenClaim := { program := "ytkhcbbpfchgemaagreatdoor", sum := "bfd470ff9c467885d285805d027716f17715d77905854f8898e0a86b9e5bb1a5", func := "towncrier/towncrierlaw37.ConnNobody", spec := "connNobody", inPlace := ["internal/reflectlite.TypeOf", "internal/reflectlite.ValueOf", "(internal/reflectlite.Value).Type", "(internal/reflectlite.Value).IsNil", "(internal/reflectlite.Value).Elem", "(internal/reflectlite.Value).Set"], unfollowed := true, recurses := true, named := ["towncrier/api.ErrMalformed", "towncrier/api.ErrShort", "towncrier/api.ErrTooLarge", "errors.errorType", "towncrier/api.ErrProtocol", "towncrier/api.ErrArgument", "towncrier/api.ErrQuota", "towncrier/api.ErrState"], apart := false, laid := [("errors.errorType", laid_errors_errorType), ("towncrier/api.ErrShort", laid_towncrier_api_ErrShort), ("towncrier/api.ErrMalformed", laid_towncrier_api_ErrMalformed), ("towncrier/api.ErrProtocol", laid_towncrier_api_ErrProtocol), ("towncrier/api.ErrTooLarge", laid_towncrier_api_ErrTooLarge), ("towncrier/api.ErrQuota", laid_towncrier_api_ErrQuota), ("towncrier/api.ErrState", laid_towncrier_api_ErrState), ("towncrier/api.ErrArgument", laid_towncrier_api_ErrArgument)] }
def ConnNobodySaid : Prop := connNobodyRow.holds Tryz.pinned (OpenSpec.ofChange connNobodySpec)

/-- ITS FALSE NEIGHBOUR: 'it returns false'. Refute it at one input. -/
def connNobodyWrong : ChangeSpec := { name := "connNobody", fn := fun _ => fun
  | [d] => { results := [.lit (.bool false)], args := [d] }
  | _ => none }
def ConnNobodyWrongFalsely : Prop := connNobodyRow.holds Tryz.pinned (OpenSpec.ofChange connNobodyWrong)

/- THE SECOND FORM. 'bulk': how many values and letters a reading holds, each counted each time it is reached (what is shared counts as often as it is met; a slice's spare places count too). A statement '..UptoSaid' is the law's where the arguments, and the package variables that the reading takes, are together of bulk at most 1048576: NARROWER than '..Said'. Prove '..Said' where nothing that the law and all that it calls make is longer than what came in: it says more and counts as full. Else prove '..UptoSaid'. A law counts once. -/
mutual
def uptoBulk {H : Type} : DataW H → Nat
  | .lit (.string bytes) => bytes.length + 1
  | .lit _ => 1
  | .nil => 1
  | .ptr d => uptoBulk d + 1
  | .slice elems spare => uptoBulkAll elems + uptoBulkAll spare + 1
  | .agg parts => uptoBulkAll parts + 1
  | .iface _ d => uptoBulk d + 1
  | .map entries => uptoBulkEntries entries + 1
  | .held _ => 1
def uptoBulkAll {H : Type} : List (DataW H) → Nat
  | [] => 0
  | d :: r => uptoBulk d + uptoBulkAll r
def uptoBulkEntries {H : Type} : List (Lit × DataW H) → Nat
  | [] => 0
  | x :: r => uptoBulkEntry x + uptoBulkEntries r
def uptoBulkEntry {H : Type} : Lit × DataW H → Nat
  | (.string bytes, d) => bytes.length + uptoBulk d + 1
  | (_, d) => uptoBulk d + 1
 end
def uptoSmall : (H : Type) → List (DataW H) → Bool := fun _ ds => decide (uptoBulkAll ds ≤ 1048576)
def OpenSpec.upto (s : _root_.Go.ChangeSpec) : _root_.Go.OpenSpec := { _root_.Go.OpenSpec.ofChange s with cond := some uptoSmall }

/-- 'towncrierlaw34.StoreReplays', WHERE WHAT IT READS IS OF BULK AT MOST 1048576: true; the input reads as it did. -/
def storeReplaysUptoRow : OpenClaim := { program := "ytkhcbbpfchgemaagreatdoor", sum := "bfd470ff9c467885d285805d027716f17715d77905854f8898e0a86b9e5bb1a5", func := "towncrier/towncrierlaw34.StoreReplays", spec := "storeReplays", inPlace := ["internal/reflectlite.ValueOf", "(internal/reflectlite.Value).Type", "(internal/reflectlite.Value).IsNil", "internal/reflectlite.TypeOf", "(internal/reflectlite.Value).Elem", "(internal/reflectlite.Value).Set"], unfollowed := true, recurses := true, named := ["towncrier/api.ErrArgument", "towncrier/api.ErrTooLarge", "towncrier/api.ErrMalformed", "towncrier/api.ErrProtocol", "errors.errorType", "towncrier/api.ErrShort"], apart := false, laid := [("errors.errorType", laid_errors_errorType), ("towncrier/api.ErrShort", laid_towncrier_api_ErrShort), ("towncrier/api.ErrMalformed", laid_towncrier_api_ErrMalformed), ("towncrier/api.ErrProtocol", laid_towncrier_api_ErrProtocol), ("towncrier/api.ErrTooLarge", laid_towncrier_api_ErrTooLarge), ("towncrier/api.ErrArgument", laid_towncrier_api_ErrArgument)], narrowed := true }
def StoreReplaysUptoSaid : Prop := storeReplaysUptoRow.holds Tryz.pinned (OpenSpec.upto storeReplaysSpec)

/-- 'towncrierlaw34.StoreTakes', WHERE WHAT IT READS IS OF BULK AT MOST 1048576: true; the input reads as it did. -/
def storeTakesUptoRow : OpenClaim := { program := "ytkhcbbpfchgemaagreatdoor", sum := "bfd470ff9c467885d285805d027716f17715d77905854f8898e0a86b9e5bb1a5", func := "towncrier/towncrierlaw34.StoreTakes", spec := "storeTakes", inPlace := ["internal/reflectlite.ValueOf", "(internal/reflectlite.Value).Type", "(internal/reflectlite.Value).IsNil", "internal/reflectlite.TypeOf", "(internal/reflectlite.Value).Elem", "(internal/reflectlite.Value).Set"], unfollowed := true, recurses := true, named := ["towncrier/api.ErrArgument", "towncrier/api.ErrTooLarge", "towncrier/api.ErrMalformed", "towncrier/api.ErrProtocol", "errors.errorType", "towncrier/api.ErrShort", "towncrier/api.ErrQuota", "towncrier/api.ErrState"], apart := false, laid := [("errors.errorType", laid_errors_errorType), ("towncrier/api.ErrShort", laid_towncrier_api_ErrShort), ("towncrier/api.ErrMalformed", laid_towncrier_api_ErrMalformed), ("towncrier/api.ErrProtocol", laid_towncrier_api_ErrProtocol), ("towncrier/api.ErrTooLarge", laid_towncrier_api_ErrTooLarge), ("towncrier/api.ErrQuota", laid_towncrier_api_ErrQuota), ("towncrier/api.ErrState", laid_towncrier_api_ErrState), ("towncrier/api.ErrArgument", laid_towncrier_api_ErrArgument)], narrowed := true }
def StoreTakesUptoSaid : Prop := storeTakesUptoRow.holds Tryz.pinned (OpenSpec.upto storeTakesSpec)

/-- 'towncrierlaw15.PacketEncodes', WHERE WHAT IT READS IS OF BULK AT MOST 1048576: true; the input reads as it did. -/
def packetEncodesUptoRow : OpenClaim := { program := "ytkhcbbpfchgemaagreatdoor", sum := "bfd470ff9c467885d285805d027716f17715d77905854f8898e0a86b9e5bb1a5", func := "towncrier/towncrierlaw15.PacketEncodes", spec := "packetEncodes", inPlace := ["internal/reflectlite.TypeOf", "internal/reflectlite.ValueOf", "(internal/reflectlite.Value).Type", "(internal/reflectlite.Value).IsNil", "(internal/reflectlite.Value).Elem", "(internal/reflectlite.Value).Set"], unfollowed := true, recurses := true, named := ["towncrier/api.ErrMalformed", "towncrier/api.ErrShort", "towncrier/api.ErrTooLarge", "errors.errorType", "towncrier/api.ErrProtocol", "towncrier/api.ErrArgument", "towncrier/api.ErrQuota", "towncrier/api.ErrState"], apart := false, laid := [("errors.errorType", laid_errors_errorType), ("towncrier/api.ErrShort", laid_towncrier_api_ErrShort), ("towncrier/api.ErrMalformed", laid_towncrier_api_ErrMalformed), ("towncrier/api.ErrProtocol", laid_towncrier_api_ErrProtocol), ("towncrier/api.ErrTooLarge", laid_towncrier_api_ErrTooLarge), ("towncrier/api.ErrQuota", laid_towncrier_api_ErrQuota), ("towncrier/api.ErrState", laid_towncrier_api_ErrState), ("towncrier/api.ErrArgument", laid_towncrier_api_ErrArgument)], narrowed := true }
def PacketEncodesUptoSaid : Prop := packetEncodesUptoRow.holds Tryz.pinned (OpenSpec.upto packetEncodesSpec)

/-- 'towncrierlaw15.PacketBack', WHERE WHAT IT READS IS OF BULK AT MOST 1048576: true; the input reads as it did. -/
def packetBackUptoRow : OpenClaim := { program := "ytkhcbbpfchgemaagreatdoor", sum := "bfd470ff9c467885d285805d027716f17715d77905854f8898e0a86b9e5bb1a5", func := "towncrier/towncrierlaw15.PacketBack", spec := "packetBack", inPlace := ["internal/reflectlite.TypeOf", "internal/reflectlite.ValueOf", "(internal/reflectlite.Value).Type", "(internal/reflectlite.Value).IsNil", "(internal/reflectlite.Value).Elem", "(internal/reflectlite.Value).Set"], unfollowed := true, recurses := true, named := ["towncrier/api.ErrMalformed", "towncrier/api.ErrShort", "towncrier/api.ErrTooLarge", "errors.errorType", "towncrier/api.ErrProtocol", "towncrier/api.ErrArgument", "towncrier/api.ErrQuota", "towncrier/api.ErrState"], apart := false, laid := [("errors.errorType", laid_errors_errorType), ("towncrier/api.ErrShort", laid_towncrier_api_ErrShort), ("towncrier/api.ErrMalformed", laid_towncrier_api_ErrMalformed), ("towncrier/api.ErrProtocol", laid_towncrier_api_ErrProtocol), ("towncrier/api.ErrTooLarge", laid_towncrier_api_ErrTooLarge), ("towncrier/api.ErrQuota", laid_towncrier_api_ErrQuota), ("towncrier/api.ErrState", laid_towncrier_api_ErrState), ("towncrier/api.ErrArgument", laid_towncrier_api_ErrArgument)], narrowed := true }
def PacketBackUptoSaid : Prop := packetBackUptoRow.holds Tryz.pinned (OpenSpec.upto packetBackSpec)

/-- 'towncrierlaw37.ConnNobody', WHERE WHAT IT READS IS OF BULK AT MOST 1048576: true; the input reads as it did. -/
def connNobodyUptoRow : OpenClaim := { program := "ytkhcbbpfchgemaagreatdoor", sum := "bfd470ff9c467885d285805d027716f17715d77905854f8898e0a86b9e5bb1a5", func := "towncrier/towncrierlaw37.ConnNobody", spec := "connNobody", inPlace := ["internal/reflectlite.TypeOf", "internal/reflectlite.ValueOf", "(internal/reflectlite.Value).Type", "(internal/reflectlite.Value).IsNil", "(internal/reflectlite.Value).Elem", "(internal/reflectlite.Value).Set"], unfollowed := true, recurses := true, named := ["towncrier/api.ErrMalformed", "towncrier/api.ErrShort", "towncrier/api.ErrTooLarge", "errors.errorType", "towncrier/api.ErrProtocol", "towncrier/api.ErrArgument", "towncrier/api.ErrQuota", "towncrier/api.ErrState"], apart := false, laid := [("errors.errorType", laid_errors_errorType), ("towncrier/api.ErrShort", laid_towncrier_api_ErrShort), ("towncrier/api.ErrMalformed", laid_towncrier_api_ErrMalformed), ("towncrier/api.ErrProtocol", laid_towncrier_api_ErrProtocol), ("towncrier/api.ErrTooLarge", laid_towncrier_api_ErrTooLarge), ("towncrier/api.ErrQuota", laid_towncrier_api_ErrQuota), ("towncrier/api.ErrState", laid_towncrier_api_ErrState), ("towncrier/api.ErrArgument", laid_towncrier_api_ErrArgument)], narrowed := true }
def ConnNobodyUptoSaid : Prop := connNobodyUptoRow.holds Tryz.pinned (OpenSpec.upto connNobodySpec)

end Rows
end Go.Proofs.YtkhcbbpfchgemaaGreatDoor
