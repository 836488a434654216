/-
  NARROWER THAN 'FOR EVERY INPUT', by the rows' own cells (each row's printed sentence says how): PropIs: laid · PropEncodes: laid · AckBack: laid · UnsubBack: laid · AckEncodes: laid · SubscribeBack: laid · UnsubEncodes: laid · SubscribeEncodes: laid.
  DERIVED. THE GIVEN ROWS OF THIS SEAT. 8 by the template 'for every input the law returns true; each argument reads behind the call as it read before'; 0 by the template 'total and deterministic' (their statements: YtonmjhdcijibgaaGreatDoorTotals.lean).
  GIVEN WITH THE SEED: the statements are not yours to turn. If you find one false, say at which input.
  Laid BY PROGRAM, IN A SANDBOX (cutbox-rows.mjs): the forced cells as the released guide's own fill.sh prints them over the translation 7dfe10d0a640d541… (all of the seat's roots in one cut). By AI agents, Wed Nov 11 2026. No macro, syntax, notation, axiom, sorry.
-/
import Derived.Test.YtonmjhdcijibgaaGreatDoorChecked
import GoSem.Claim
import GoSem.ClaimJoined
import GoSem.ClaimMapViews
import Derived.JoinedTies
import Derived.KernelRfl
namespace Go.Proofs.YtonmjhdcijibgaaGreatDoor
/- THE CELL 'sum', in the pinned program and in every row, IS THE sha256 OF THE DUMP (.gsa) THAT YtonmjhdcijibgaaGreatDoorProg.lean LOADS. Nothing in Lean hashes anything: it is a label: what it is worth is what the hold of that sum in a sandbox is worth. -/
noncomputable def Tryz.pinned : Pinned := { name := "ytonmjhdcijibgaagreatdoor", sum := "7dfe10d0a640d541f2ec2a82c53c96347a91d51029dc1198d5a82467ddd1ccd4", checked := Tryz.checked }
namespace Rows
def none {H : Type} : Left H := { results := [], args := [] }

/- WHAT THE LISTED PACKAGE-LEVEL VARIABLES READ AS WHEN THE CALL BEGINS. Each datum BY PROGRAM (the guide's laid-datum.mjs) off the statement by which the dump's own 'gosem.cut.vars' lays the variable. In a bare row this is a premise. The card (YtonmjhdcijibgaaGreatDoorCards.lean) ties it to the program's text. -/
def laid_errors_errorType {H : Type} : DataW H := .iface "internal/reflectlite.rtype" (.agg [.ptr (.lit (.string [101, 114, 114, 111, 114]))])
def laid_towncrier_api_ErrShort {H : Type} : DataW H := .iface "*errors.errorString" (.ptr (.agg [.lit (.string [116, 111, 111, 32, 102, 101, 119, 32, 98, 121, 116, 101, 115])]))
def laid_towncrier_api_ErrMalformed {H : Type} : DataW H := .iface "*errors.errorString" (.ptr (.agg [.lit (.string [109, 97, 108, 102, 111, 114, 109, 101, 100])]))
def laid_towncrier_api_ErrProtocol {H : Type} : DataW H := .iface "*errors.errorString" (.ptr (.agg [.lit (.string [97, 103, 97, 105, 110, 115, 116, 32, 116, 104, 101, 32, 112, 114, 111, 116, 111, 99, 111, 108])]))
def laid_towncrier_api_ErrTooLarge {H : Type} : DataW H := .iface "*errors.errorString" (.ptr (.agg [.lit (.string [116, 111, 111, 32, 108, 97, 114, 103, 101])]))
def laid_towncrier_api_ErrQuota {H : Type} : DataW H := .iface "*errors.errorString" (.ptr (.agg [.lit (.string [110, 111, 32, 114, 111, 111, 109])]))
def laid_towncrier_api_ErrState {H : Type} : DataW H := .iface "*errors.errorString" (.ptr (.agg [.lit (.string [110, 111, 116, 32, 110, 111, 119])]))
def laid_towncrier_api_ErrArgument {H : Type} : DataW H := .iface "*errors.errorString" (.ptr (.agg [.lit (.string [110, 111, 32, 115, 117, 99, 104, 32, 116, 104, 105, 110, 103])]))

/-- 'towncrierlaw06.PropIs': WHATEVER THE INPUT: true; the input reads as it did. -/
def propIsSpec : ChangeSpec := { name := "propIs", fn := fun _ => fun
  | [d1, d2, d3] => { results := [.lit (.bool true)], args := [d1, d2, d3] }
  | _ => none }
def propIsRow : OpenClaim := { program := "ytonmjhdcijibgaagreatdoor", sum := "7dfe10d0a640d541f2ec2a82c53c96347a91d51029dc1198d5a82467ddd1ccd4", func := "towncrier/towncrierlaw06.PropIs", spec := "propIs", inPlace := ["internal/reflectlite.ValueOf", "(internal/reflectlite.Value).Type", "(internal/reflectlite.Value).IsNil", "internal/reflectlite.TypeOf", "(internal/reflectlite.Value).Elem", "(internal/reflectlite.Value).Set"], unfollowed := true, recurses := true, named := ["towncrier/api.ErrTooLarge", "towncrier/api.ErrMalformed", "towncrier/api.ErrProtocol", "errors.errorType", "towncrier/api.ErrShort", "towncrier/api.ErrQuota", "towncrier/api.ErrState", "towncrier/api.ErrArgument"], apart := false, laid := [("errors.errorType", laid_errors_errorType), ("towncrier/api.ErrShort", laid_towncrier_api_ErrShort), ("towncrier/api.ErrMalformed", laid_towncrier_api_ErrMalformed), ("towncrier/api.ErrProtocol", laid_towncrier_api_ErrProtocol), ("towncrier/api.ErrTooLarge", laid_towncrier_api_ErrTooLarge), ("towncrier/api.ErrQuota", laid_towncrier_api_ErrQuota), ("towncrier/api.ErrState", laid_towncrier_api_ErrState), ("towncrier/api.ErrArgument", laid_towncrier_api_ErrArgument)] }
def PropIsSaid : Prop := propIsRow.holds Tryz.pinned (OpenSpec.ofChange propIsSpec)

/-- ITS FALSE NEIGHBOUR: 'it returns false'. Refute it at one input. -/
def propIsWrong : ChangeSpec := { name := "propIs", fn := fun _ => fun
  | [d1, d2, d3] => { results := [.lit (.bool false)], args := [d1, d2, d3] }
  | _ => none }
def PropIsWrongFalsely : Prop := propIsRow.holds Tryz.pinned (OpenSpec.ofChange propIsWrong)

/-- 'towncrierlaw06.PropEncodes': WHATEVER THE INPUT: true; the input reads as it did. -/
def propEncodesSpec : ChangeSpec := { name := "propEncodes", fn := fun _ => fun
  | [d1, d2] => { results := [.lit (.bool true)], args := [d1, d2] }
  | _ => none }
def propEncodesRow : OpenClaim := { program := "ytonmjhdcijibgaagreatdoor", sum := "7dfe10d0a640d541f2ec2a82c53c96347a91d51029dc1198d5a82467ddd1ccd4", func := "towncrier/towncrierlaw06.PropEncodes", spec := "propEncodes", inPlace := ["internal/reflectlite.ValueOf", "(internal/reflectlite.Value).Type", "(internal/reflectlite.Value).IsNil", "internal/reflectlite.TypeOf", "(internal/reflectlite.Value).Elem", "(internal/reflectlite.Value).Set"], unfollowed := true, recurses := true, named := ["towncrier/api.ErrTooLarge", "towncrier/api.ErrMalformed", "towncrier/api.ErrProtocol", "errors.errorType", "towncrier/api.ErrShort", "towncrier/api.ErrQuota", "towncrier/api.ErrState", "towncrier/api.ErrArgument"], apart := false, laid := [("errors.errorType", laid_errors_errorType), ("towncrier/api.ErrShort", laid_towncrier_api_ErrShort), ("towncrier/api.ErrMalformed", laid_towncrier_api_ErrMalformed), ("towncrier/api.ErrProtocol", laid_towncrier_api_ErrProtocol), ("towncrier/api.ErrTooLarge", laid_towncrier_api_ErrTooLarge), ("towncrier/api.ErrQuota", laid_towncrier_api_ErrQuota), ("towncrier/api.ErrState", laid_towncrier_api_ErrState), ("towncrier/api.ErrArgument", laid_towncrier_api_ErrArgument)] }
def PropEncodesSaid : Prop := propEncodesRow.holds Tryz.pinned (OpenSpec.ofChange propEncodesSpec)

/-- ITS FALSE NEIGHBOUR: 'it returns false'. Refute it at one input. -/
def propEncodesWrong : ChangeSpec := { name := "propEncodes", fn := fun _ => fun
  | [d1, d2] => { results := [.lit (.bool false)], args := [d1, d2] }
  | _ => none }
def PropEncodesWrongFalsely : Prop := propEncodesRow.holds Tryz.pinned (OpenSpec.ofChange propEncodesWrong)

/-- 'towncrierlaw11.AckBack': WHATEVER THE INPUT: true; the input reads as it did. -/
def ackBackSpec : ChangeSpec := { name := "ackBack", fn := fun _ => fun
  | [d1, d2, d3] => { results := [.lit (.bool true)], args := [d1, d2, d3] }
  | _ => none }
def ackBackRow : OpenClaim := { program := "ytonmjhdcijibgaagreatdoor", sum := "7dfe10d0a640d541f2ec2a82c53c96347a91d51029dc1198d5a82467ddd1ccd4", func := "towncrier/towncrierlaw11.AckBack", spec := "ackBack", inPlace := ["internal/reflectlite.ValueOf", "(internal/reflectlite.Value).Type", "(internal/reflectlite.Value).IsNil", "internal/reflectlite.TypeOf", "(internal/reflectlite.Value).Elem", "(internal/reflectlite.Value).Set"], unfollowed := true, recurses := true, named := ["towncrier/api.ErrArgument", "towncrier/api.ErrTooLarge", "towncrier/api.ErrMalformed", "towncrier/api.ErrProtocol", "errors.errorType", "towncrier/api.ErrShort"], apart := false, laid := [("errors.errorType", laid_errors_errorType), ("towncrier/api.ErrShort", laid_towncrier_api_ErrShort), ("towncrier/api.ErrMalformed", laid_towncrier_api_ErrMalformed), ("towncrier/api.ErrProtocol", laid_towncrier_api_ErrProtocol), ("towncrier/api.ErrTooLarge", laid_towncrier_api_ErrTooLarge), ("towncrier/api.ErrArgument", laid_towncrier_api_ErrArgument)] }
def AckBackSaid : Prop := ackBackRow.holds Tryz.pinned (OpenSpec.ofChange ackBackSpec)

/-- ITS FALSE NEIGHBOUR: 'it returns false'. Refute it at one input. -/
def ackBackWrong : ChangeSpec := { name := "ackBack", fn := fun _ => fun
  | [d1, d2, d3] => { results := [.lit (.bool false)], args := [d1, d2, d3] }
  | _ => none }
def AckBackWrongFalsely : Prop := ackBackRow.holds Tryz.pinned (OpenSpec.ofChange ackBackWrong)

/-- 'towncrierlaw13.UnsubBack': WHATEVER THE INPUT: true; the input reads as it did. -/
def unsubBackSpec : ChangeSpec := { name := "unsubBack", fn := fun _ => fun
  | [d1, d2, d3] => { results := [.lit (.bool true)], args := [d1, d2, d3] }
  | _ => none }
def unsubBackRow : OpenClaim := { program := "ytonmjhdcijibgaagreatdoor", sum := "7dfe10d0a640d541f2ec2a82c53c96347a91d51029dc1198d5a82467ddd1ccd4", func := "towncrier/towncrierlaw13.UnsubBack", spec := "unsubBack", inPlace := ["internal/reflectlite.ValueOf", "(internal/reflectlite.Value).Type", "(internal/reflectlite.Value).IsNil", "internal/reflectlite.TypeOf", "(internal/reflectlite.Value).Elem", "(internal/reflectlite.Value).Set"], unfollowed := true, recurses := true, named := ["towncrier/api.ErrArgument", "towncrier/api.ErrTooLarge", "towncrier/api.ErrMalformed", "towncrier/api.ErrProtocol", "errors.errorType", "towncrier/api.ErrShort"], apart := false, laid := [("errors.errorType", laid_errors_errorType), ("towncrier/api.ErrShort", laid_towncrier_api_ErrShort), ("towncrier/api.ErrMalformed", laid_towncrier_api_ErrMalformed), ("towncrier/api.ErrProtocol", laid_towncrier_api_ErrProtocol), ("towncrier/api.ErrTooLarge", laid_towncrier_api_ErrTooLarge), ("towncrier/api.ErrArgument", laid_towncrier_api_ErrArgument)] }
def UnsubBackSaid : Prop := unsubBackRow.holds Tryz.pinned (OpenSpec.ofChange unsubBackSpec)

/-- ITS FALSE NEIGHBOUR: 'it returns false'. Refute it at one input. -/
def unsubBackWrong : ChangeSpec := { name := "unsubBack", fn := fun _ => fun
  | [d1, d2, d3] => { results := [.lit (.bool false)], args := [d1, d2, d3] }
  | _ => none }
def UnsubBackWrongFalsely : Prop := unsubBackRow.holds Tryz.pinned (OpenSpec.ofChange unsubBackWrong)

/-- 'towncrierlaw11.AckEncodes': WHATEVER THE INPUT: true; the input reads as it did. -/
def ackEncodesSpec : ChangeSpec := { name := "ackEncodes", fn := fun _ => fun
  | [d] => { results := [.lit (.bool true)], args := [d] }
  | _ => none }
def ackEncodesRow : OpenClaim := { program := "ytonmjhdcijibgaagreatdoor", sum := "7dfe10d0a640d541f2ec2a82c53c96347a91d51029dc1198d5a82467ddd1ccd4", func := "towncrier/towncrierlaw11.AckEncodes", spec := "ackEncodes", inPlace := ["internal/reflectlite.ValueOf", "(internal/reflectlite.Value).Type", "(internal/reflectlite.Value).IsNil", "internal/reflectlite.TypeOf", "(internal/reflectlite.Value).Elem", "(internal/reflectlite.Value).Set"], unfollowed := true, recurses := true, named := ["towncrier/api.ErrArgument", "towncrier/api.ErrTooLarge", "towncrier/api.ErrMalformed", "towncrier/api.ErrProtocol", "errors.errorType", "towncrier/api.ErrShort", "towncrier/api.ErrQuota", "towncrier/api.ErrState"], apart := false, laid := [("errors.errorType", laid_errors_errorType), ("towncrier/api.ErrShort", laid_towncrier_api_ErrShort), ("towncrier/api.ErrMalformed", laid_towncrier_api_ErrMalformed), ("towncrier/api.ErrProtocol", laid_towncrier_api_ErrProtocol), ("towncrier/api.ErrTooLarge", laid_towncrier_api_ErrTooLarge), ("towncrier/api.ErrQuota", laid_towncrier_api_ErrQuota), ("towncrier/api.ErrState", laid_towncrier_api_ErrState), ("towncrier/api.ErrArgument", laid_towncrier_api_ErrArgument)] }
def AckEncodesSaid : Prop := ackEncodesRow.holds Tryz.pinned (OpenSpec.ofChange ackEncodesSpec)

/-- ITS FALSE NEIGHBOUR: 'it returns false'. Refute it at one input. -/
def ackEncodesWrong : ChangeSpec := { name := "ackEncodes", fn := fun _ => fun
  | [d] => { results := [.lit (.bool false)], args := [d] }
  | _ => none }
def AckEncodesWrongFalsely : Prop := ackEncodesRow.holds Tryz.pinned (OpenSpec.ofChange ackEncodesWrong)

/-- 'towncrierlaw12.SubscribeBack': WHATEVER THE INPUT: true; the input reads as it did. -/
def subscribeBackSpec : ChangeSpec := { name := "subscribeBack", fn := fun _ => fun
  | [d1, d2, d3] => { results := [.lit (.bool true)], args := [d1, d2, d3] }
  | _ => none }
def subscribeBackRow : OpenClaim := { program := "ytonmjhdcijibgaagreatdoor", sum := "7dfe10d0a640d541f2ec2a82c53c96347a91d51029dc1198d5a82467ddd1ccd4", func := "towncrier/towncrierlaw12.SubscribeBack", spec := "subscribeBack", inPlace := ["internal/reflectlite.ValueOf", "(internal/reflectlite.Value).Type", "(internal/reflectlite.Value).IsNil", "internal/reflectlite.TypeOf", "(internal/reflectlite.Value).Elem", "(internal/reflectlite.Value).Set"], unfollowed := true, recurses := true, named := ["towncrier/api.ErrArgument", "towncrier/api.ErrTooLarge", "towncrier/api.ErrMalformed", "towncrier/api.ErrProtocol", "errors.errorType", "towncrier/api.ErrShort"], apart := false, laid := [("errors.errorType", laid_errors_errorType), ("towncrier/api.ErrShort", laid_towncrier_api_ErrShort), ("towncrier/api.ErrMalformed", laid_towncrier_api_ErrMalformed), ("towncrier/api.ErrProtocol", laid_towncrier_api_ErrProtocol), ("towncrier/api.ErrTooLarge", laid_towncrier_api_ErrTooLarge), ("towncrier/api.ErrArgument", laid_towncrier_api_ErrArgument)] }
def SubscribeBackSaid : Prop := subscribeBackRow.holds Tryz.pinned (OpenSpec.ofChange subscribeBackSpec)

/-- ITS FALSE NEIGHBOUR: 'it returns false'. Refute it at one input. -/
def subscribeBackWrong : ChangeSpec := { name := "subscribeBack", fn := fun _ => fun
  | [d1, d2, d3] => { results := [.lit (.bool false)], args := [d1, d2, d3] }
  | _ => none }
def SubscribeBackWrongFalsely : Prop := subscribeBackRow.holds Tryz.pinned (OpenSpec.ofChange subscribeBackWrong)

/-- 'towncrierlaw13.UnsubEncodes': WHATEVER THE INPUT: true; the input reads as it did. -/
def unsubEncodesSpec : ChangeSpec := { name := "unsubEncodes", fn := fun _ => fun
  | [d] => { results := [.lit (.bool true)], args := [d] }
  | _ => none }
def unsubEncodesRow : OpenClaim := { program := "ytonmjhdcijibgaagreatdoor", sum := "7dfe10d0a640d541f2ec2a82c53c96347a91d51029dc1198d5a82467ddd1ccd4", func := "towncrier/towncrierlaw13.UnsubEncodes", spec := "unsubEncodes", inPlace := ["internal/reflectlite.ValueOf", "(internal/reflectlite.Value).Type", "(internal/reflectlite.Value).IsNil", "internal/reflectlite.TypeOf", "(internal/reflectlite.Value).Elem", "(internal/reflectlite.Value).Set"], unfollowed := true, recurses := true, named := ["towncrier/api.ErrArgument", "towncrier/api.ErrTooLarge", "towncrier/api.ErrMalformed", "towncrier/api.ErrProtocol", "errors.errorType", "towncrier/api.ErrShort", "towncrier/api.ErrQuota", "towncrier/api.ErrState"], apart := false, laid := [("errors.errorType", laid_errors_errorType), ("towncrier/api.ErrShort", laid_towncrier_api_ErrShort), ("towncrier/api.ErrMalformed", laid_towncrier_api_ErrMalformed), ("towncrier/api.ErrProtocol", laid_towncrier_api_ErrProtocol), ("towncrier/api.ErrTooLarge", laid_towncrier_api_ErrTooLarge), ("towncrier/api.ErrQuota", laid_towncrier_api_ErrQuota), ("towncrier/api.ErrState", laid_towncrier_api_ErrState), ("towncrier/api.ErrArgument", laid_towncrier_api_ErrArgument)] }
def UnsubEncodesSaid : Prop := unsubEncodesRow.holds Tryz.pinned (OpenSpec.ofChange unsubEncodesSpec)

/-- ITS FALSE NEIGHBOUR: 'it returns false'. Refute it at one input. -/
def unsubEncodesWrong : ChangeSpec := { name := "unsubEncodes", fn := fun _ => fun
  | [d] => { results := [.lit (.bool false)], args := [d] }
  | _ => none }
def UnsubEncodesWrongFalsely : Prop := unsubEncodesRow.holds Tryz.pinned (OpenSpec.ofChange unsubEncodesWrong)

/-- 'towncrierlaw12.SubscribeEncodes': WHATEVER THE INPUT: true; the input reads as it did. -/
def subscribeEncodesSpec : ChangeSpec := { name := "subscribeEncodes", fn := fun _ => fun
  | [d] => { results := [.lit (.bool true)], args := [d] }
  | _ => none }
def subscribeEncodesRow : OpenClaim := { program := "ytonmjhdcijibgaagreatdoor", sum := "7dfe10d0a640d541f2ec2a82c53c96347a91d51029dc1198d5a82467ddd1ccd4", func := "towncrier/towncrierlaw12.SubscribeEncodes", spec := "subscribeEncodes", inPlace := ["internal/reflectlite.ValueOf", "(internal/reflectlite.Value).Type", "(internal/reflectlite.Value).IsNil", "internal/reflectlite.TypeOf", "(internal/reflectlite.Value).Elem", "(internal/reflectlite.Value).Set"], unfollowed := true, recurses := true, named := ["towncrier/api.ErrArgument", "towncrier/api.ErrTooLarge", "towncrier/api.ErrMalformed", "towncrier/api.ErrProtocol", "errors.errorType", "towncrier/api.ErrShort", "towncrier/api.ErrQuota", "towncrier/api.ErrState"], apart := false, laid := [("errors.errorType", laid_errors_errorType), ("towncrier/api.ErrShort", laid_towncrier_api_ErrShort), ("towncrier/api.ErrMalformed", laid_towncrier_api_ErrMalformed), ("towncrier/api.ErrProtocol", laid_towncrier_api_ErrProtocol), ("towncrier/api.ErrTooLarge", laid_towncrier_api_ErrTooLarge), ("towncrier/api.ErrQuota", laid_towncrier_api_ErrQuota), ("towncrier/api.ErrState", laid_towncrier_api_ErrState), ("towncrier/api.ErrArgument", laid_towncrier_api_ErrArgument)] }
def SubscribeEncodesSaid : Prop := subscribeEncodesRow.holds Tryz.pinned (OpenSpec.ofChange subscribeEncodesSpec)

/-- ITS FALSE NEIGHBOUR: 'it returns false'. Refute it at one input. -/
def subscribeEncodesWrong : ChangeSpec := { name := "subscribeEncodes", fn := fun _ => fun
  | [d] => { results := [.lit (.bool false)], args := [d] }
  | _ => none }
def SubscribeEncodesWrongFalsely : Prop := subscribeEncodesRow.holds Tryz.pinned (OpenSpec.ofChange subscribeEncodesWrong)

/- THE SECOND FORM. 'bulk': how many values and letters a reading holds, each counted each time it is reached (what is shared counts as often as it is met; a slice's spare places count too). A statement '..UptoSaid' is the law's where the arguments, and the package variables that the reading takes, are together of bulk at most 1048576: NARROWER than '..Said'. Prove '..Said' where nothing that the law and all that it calls make is longer than what came in: it says more and counts as full. Else prove '..UptoSaid'. A law counts once. -/
mutual
def uptoBulk {H : Type} : DataW H → Nat
  | .lit (.string bytes) => bytes.length + 1
  | .lit _ => 1
  | .nil => 1
  | .ptr d => uptoBulk d + 1
  | .slice elems spare => uptoBulkAll elems + uptoBulkAll spare + 1
  | .agg parts => uptoBulkAll parts + 1
  | .iface _ d => uptoBulk d + 1
  | .map entries => uptoBulkEntries entries + 1
  | .held _ => 1
def uptoBulkAll {H : Type} : List (DataW H) → Nat
  | [] => 0
  | d :: r => uptoBulk d + uptoBulkAll r
def uptoBulkEntries {H : Type} : List (Lit × DataW H) → Nat
  | [] => 0
  | x :: r => uptoBulkEntry x + uptoBulkEntries r
def uptoBulkEntry {H : Type} : Lit × DataW H → Nat
  | (.string bytes, d) => bytes.length + uptoBulk d + 1
  | (_, d) => uptoBulk d + 1
 end
def uptoSmall : (H : Type) → List (DataW H) → Bool := fun _ ds => decide (uptoBulkAll ds ≤ 1048576)
def OpenSpec.upto (s : _root_.Go.ChangeSpec) : _root_.Go.OpenSpec := { _root_.Go.OpenSpec.ofChange s with cond := some uptoSmall }

/-- 'towncrierlaw06.PropIs', WHERE WHAT IT READS IS OF BULK AT MOST 1048576: true; the input reads as it did. -/
def propIsUptoRow : OpenClaim := { program := "ytonmjhdcijibgaagreatdoor", sum := "7dfe10d0a640d541f2ec2a82c53c96347a91d51029dc1198d5a82467ddd1ccd4", func := "towncrier/towncrierlaw06.PropIs", spec := "propIs", inPlace := ["internal/reflectlite.ValueOf", "(internal/reflectlite.Value).Type", "(internal/reflectlite.Value).IsNil", "internal/reflectlite.TypeOf", "(internal/reflectlite.Value).Elem", "(internal/reflectlite.Value).Set"], unfollowed := true, recurses := true, named := ["towncrier/api.ErrTooLarge", "towncrier/api.ErrMalformed", "towncrier/api.ErrProtocol", "errors.errorType", "towncrier/api.ErrShort", "towncrier/api.ErrQuota", "towncrier/api.ErrState", "towncrier/api.ErrArgument"], apart := false, laid := [("errors.errorType", laid_errors_errorType), ("towncrier/api.ErrShort", laid_towncrier_api_ErrShort), ("towncrier/api.ErrMalformed", laid_towncrier_api_ErrMalformed), ("towncrier/api.ErrProtocol", laid_towncrier_api_ErrProtocol), ("towncrier/api.ErrTooLarge", laid_towncrier_api_ErrTooLarge), ("towncrier/api.ErrQuota", laid_towncrier_api_ErrQuota), ("towncrier/api.ErrState", laid_towncrier_api_ErrState), ("towncrier/api.ErrArgument", laid_towncrier_api_ErrArgument)], narrowed := true }
def PropIsUptoSaid : Prop := propIsUptoRow.holds Tryz.pinned (OpenSpec.upto propIsSpec)

/-- 'towncrierlaw06.PropEncodes', WHERE WHAT IT READS IS OF BULK AT MOST 1048576: true; the input reads as it did. -/
def propEncodesUptoRow : OpenClaim := { program := "ytonmjhdcijibgaagreatdoor", sum := "7dfe10d0a640d541f2ec2a82c53c96347a91d51029dc1198d5a82467ddd1ccd4", func := "towncrier/towncrierlaw06.PropEncodes", spec := "propEncodes", inPlace := ["internal/reflectlite.ValueOf", "(internal/reflectlite.Value).Type", "(internal/reflectlite.Value).IsNil", "internal/reflectlite.TypeOf", "(internal/reflectlite.Value).Elem", "(internal/reflectlite.Value).Set"], unfollowed := true, recurses := true, named := ["towncrier/api.ErrTooLarge", "towncrier/api.ErrMalformed", "towncrier/api.ErrProtocol", "errors.errorType", "towncrier/api.ErrShort", "towncrier/api.ErrQuota", "towncrier/api.ErrState", "towncrier/api.ErrArgument"], apart := false, laid := [("errors.errorType", laid_errors_errorType), ("towncrier/api.ErrShort", laid_towncrier_api_ErrShort), ("towncrier/api.ErrMalformed", laid_towncrier_api_ErrMalformed), ("towncrier/api.ErrProtocol", laid_towncrier_api_ErrProtocol), ("towncrier/api.ErrTooLarge", laid_towncrier_api_ErrTooLarge), ("towncrier/api.ErrQuota", laid_towncrier_api_ErrQuota), ("towncrier/api.ErrState", laid_towncrier_api_ErrState), ("towncrier/api.ErrArgument", laid_towncrier_api_ErrArgument)], narrowed := true }
def PropEncodesUptoSaid : Prop := propEncodesUptoRow.holds Tryz.pinned (OpenSpec.upto propEncodesSpec)

/-- 'towncrierlaw11.AckBack', WHERE WHAT IT READS IS OF BULK AT MOST 1048576: true; the input reads as it did. -/
def ackBackUptoRow : OpenClaim := { program := "ytonmjhdcijibgaagreatdoor", sum := "7dfe10d0a640d541f2ec2a82c53c96347a91d51029dc1198d5a82467ddd1ccd4", func := "towncrier/towncrierlaw11.AckBack", spec := "ackBack", inPlace := ["internal/reflectlite.ValueOf", "(internal/reflectlite.Value).Type", "(internal/reflectlite.Value).IsNil", "internal/reflectlite.TypeOf", "(internal/reflectlite.Value).Elem", "(internal/reflectlite.Value).Set"], unfollowed := true, recurses := true, named := ["towncrier/api.ErrArgument", "towncrier/api.ErrTooLarge", "towncrier/api.ErrMalformed", "towncrier/api.ErrProtocol", "errors.errorType", "towncrier/api.ErrShort"], apart := false, laid := [("errors.errorType", laid_errors_errorType), ("towncrier/api.ErrShort", laid_towncrier_api_ErrShort), ("towncrier/api.ErrMalformed", laid_towncrier_api_ErrMalformed), ("towncrier/api.ErrProtocol", laid_towncrier_api_ErrProtocol), ("towncrier/api.ErrTooLarge", laid_towncrier_api_ErrTooLarge), ("towncrier/api.ErrArgument", laid_towncrier_api_ErrArgument)], narrowed := true }
def AckBackUptoSaid : Prop := ackBackUptoRow.holds Tryz.pinned (OpenSpec.upto ackBackSpec)

/-- 'towncrierlaw13.UnsubBack', WHERE WHAT IT READS IS OF BULK AT MOST 1048576: true; the input reads as it did. -/
def unsubBackUptoRow : OpenClaim := { program := "ytonmjhdcijibgaagreatdoor", sum := "7dfe10d0a640d541f2ec2a82c53c96347a91d51029dc1198d5a82467ddd1ccd4", func := "towncrier/towncrierlaw13.UnsubBack", spec := "unsubBack", inPlace := ["internal/reflectlite.ValueOf", "(internal/reflectlite.Value).Type", "(internal/reflectlite.Value).IsNil", "internal/reflectlite.TypeOf", "(internal/reflectlite.Value).Elem", "(internal/reflectlite.Value).Set"], unfollowed := true, recurses := true, named := ["towncrier/api.ErrArgument", "towncrier/api.ErrTooLarge", "towncrier/api.ErrMalformed", "towncrier/api.ErrProtocol", "errors.errorType", "towncrier/api.ErrShort"], apart := false, laid := [("errors.errorType", laid_errors_errorType), ("towncrier/api.ErrShort", laid_towncrier_api_ErrShort), ("towncrier/api.ErrMalformed", laid_towncrier_api_ErrMalformed), ("towncrier/api.ErrProtocol", laid_towncrier_api_ErrProtocol), ("towncrier/api.ErrTooLarge", laid_towncrier_api_ErrTooLarge), ("towncrier/api.ErrArgument", laid_towncrier_api_ErrArgument)], narrowed := true }
def UnsubBackUptoSaid : Prop := unsubBackUptoRow.holds Tryz.pinned (OpenSpec.upto unsubBackSpec)

/-- 'towncrierlaw11.AckEncodes', WHERE WHAT IT READS IS OF BULK AT MOST 1048576: true; the input reads as it did. -/
def ackEncodesUptoRow : OpenClaim := { program := "ytonmjhdcijibgaagreatdoor", sum := "7dfe10d0a640d541f2ec2a82c53c96347a91d51029dc1198d5a82467ddd1ccd4", func := "towncrier/towncrierlaw11.AckEncodes", spec := "ackEncodes", inPlace := ["internal/reflectlite.ValueOf", "(internal/reflectlite.Value).Type", "(internal/reflectlite.Value).IsNil", "internal/reflectlite.TypeOf", "(internal/reflectlite.Value).Elem", "(internal/reflectlite.Value).Set"], unfollowed := true, recurses := true, named := ["towncrier/api.ErrArgument", "towncrier/api.ErrTooLarge", "towncrier/api.ErrMalformed", "towncrier/api.ErrProtocol", "errors.errorType", "towncrier/api.ErrShort", "towncrier/api.ErrQuota", "towncrier/api.ErrState"], apart := false, laid := [("errors.errorType", laid_errors_errorType), ("towncrier/api.ErrShort", laid_towncrier_api_ErrShort), ("towncrier/api.ErrMalformed", laid_towncrier_api_ErrMalformed), ("towncrier/api.ErrProtocol", laid_towncrier_api_ErrProtocol), ("towncrier/api.ErrTooLarge", laid_towncrier_api_ErrTooLarge), ("towncrier/api.ErrQuota", laid_towncrier_api_ErrQuota), ("towncrier/api.ErrState", laid_towncrier_api_ErrState), ("towncrier/api.ErrArgument", laid_towncrier_api_ErrArgument)], narrowed := true }
def AckEncodesUptoSaid : Prop := ackEncodesUptoRow.holds Tryz.pinned (OpenSpec.upto ackEncodesSpec)

/-- 'towncrierlaw12.SubscribeBack', WHERE WHAT IT READS IS OF BULK AT MOST 1048576: true; the input reads as it did. -/
def subscribeBackUptoRow : OpenClaim := { program := "ytonmjhdcijibgaagreatdoor", sum := "7dfe10d0a640d541f2ec2a82c53c96347a91d51029dc1198d5a82467ddd1ccd4", func := "towncrier/towncrierlaw12.SubscribeBack", spec := "subscribeBack", inPlace := ["internal/reflectlite.ValueOf", "(internal/reflectlite.Value).Type", "(internal/reflectlite.Value).IsNil", "internal/reflectlite.TypeOf", "(internal/reflectlite.Value).Elem", "(internal/reflectlite.Value).Set"], unfollowed := true, recurses := true, named := ["towncrier/api.ErrArgument", "towncrier/api.ErrTooLarge", "towncrier/api.ErrMalformed", "towncrier/api.ErrProtocol", "errors.errorType", "towncrier/api.ErrShort"], apart := false, laid := [("errors.errorType", laid_errors_errorType), ("towncrier/api.ErrShort", laid_towncrier_api_ErrShort), ("towncrier/api.ErrMalformed", laid_towncrier_api_ErrMalformed), ("towncrier/api.ErrProtocol", laid_towncrier_api_ErrProtocol), ("towncrier/api.ErrTooLarge", laid_towncrier_api_ErrTooLarge), ("towncrier/api.ErrArgument", laid_towncrier_api_ErrArgument)], narrowed := true }
def SubscribeBackUptoSaid : Prop := subscribeBackUptoRow.holds Tryz.pinned (OpenSpec.upto subscribeBackSpec)

/-- 'towncrierlaw13.UnsubEncodes', WHERE WHAT IT READS IS OF BULK AT MOST 1048576: true; the input reads as it did. -/
def unsubEncodesUptoRow : OpenClaim := { program := "ytonmjhdcijibgaagreatdoor", sum := "7dfe10d0a640d541f2ec2a82c53c96347a91d51029dc1198d5a82467ddd1ccd4", func := "towncrier/towncrierlaw13.UnsubEncodes", spec := "unsubEncodes", inPlace := ["internal/reflectlite.ValueOf", "(internal/reflectlite.Value).Type", "(internal/reflectlite.Value).IsNil", "internal/reflectlite.TypeOf", "(internal/reflectlite.Value).Elem", "(internal/reflectlite.Value).Set"], unfollowed := true, recurses := true, named := ["towncrier/api.ErrArgument", "towncrier/api.ErrTooLarge", "towncrier/api.ErrMalformed", "towncrier/api.ErrProtocol", "errors.errorType", "towncrier/api.ErrShort", "towncrier/api.ErrQuota", "towncrier/api.ErrState"], apart := false, laid := [("errors.errorType", laid_errors_errorType), ("towncrier/api.ErrShort", laid_towncrier_api_ErrShort), ("towncrier/api.ErrMalformed", laid_towncrier_api_ErrMalformed), ("towncrier/api.ErrProtocol", laid_towncrier_api_ErrProtocol), ("towncrier/api.ErrTooLarge", laid_towncrier_api_ErrTooLarge), ("towncrier/api.ErrQuota", laid_towncrier_api_ErrQuota), ("towncrier/api.ErrState", laid_towncrier_api_ErrState), ("towncrier/api.ErrArgument", laid_towncrier_api_ErrArgument)], narrowed := true }
def UnsubEncodesUptoSaid : Prop := unsubEncodesUptoRow.holds Tryz.pinned (OpenSpec.upto unsubEncodesSpec)

/-- 'towncrierlaw12.SubscribeEncodes', WHERE WHAT IT READS IS OF BULK AT MOST 1048576: true; the input reads as it did. -/
def subscribeEncodesUptoRow : OpenClaim := { program := "ytonmjhdcijibgaagreatdoor", sum := "7dfe10d0a640d541f2ec2a82c53c96347a91d51029dc1198d5a82467ddd1ccd4", func := "towncrier/towncrierlaw12.SubscribeEncodes", spec := "subscribeEncodes", inPlace := ["internal/reflectlite.ValueOf", "(internal/reflectlite.Value).Type", "(internal/reflectlite.Value).IsNil", "internal/reflectlite.TypeOf", "(internal/reflectlite.Value).Elem", "(internal/reflectlite.Value).Set"], unfollowed := true, recurses := true, named := ["towncrier/api.ErrArgument", "towncrier/api.ErrTooLarge", "towncrier/api.ErrMalformed", "towncrier/api.ErrProtocol", "errors.errorType", "towncrier/api.ErrShort", "towncrier/api.ErrQuota", "towncrier/api.ErrState"], apart := false, laid := [("errors.errorType", laid_errors_errorType), ("towncrier/api.ErrShort", laid_towncrier_api_ErrShort), ("towncrier/api.ErrMalformed", laid_towncrier_api_ErrMalformed), ("towncrier/api.ErrProtocol", laid_towncrier_api_ErrProtocol), ("towncrier/api.ErrTooLarge", laid_towncrier_api_ErrTooLarge), ("towncrier/api.ErrQuota", laid_towncrier_api_ErrQuota), ("towncrier/api.ErrState", laid_towncrier_api_ErrState), ("towncrier/api.ErrArgument", laid_towncrier_api_ErrArgument)], narrowed := true }
def SubscribeEncodesUptoSaid : Prop := subscribeEncodesUptoRow.holds Tryz.pinned (OpenSpec.upto subscribeEncodesSpec)

end Rows
end Go.Proofs.YtonmjhdcijibgaaGreatDoor
