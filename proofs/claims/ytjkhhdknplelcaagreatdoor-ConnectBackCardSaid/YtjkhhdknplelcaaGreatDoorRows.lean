/-
  NARROWER THAN 'FOR EVERY INPUT', by the rows' own cells (each row's printed sentence says how): PublishEncodes: laid · PublishBack: laid · ConnectBack: laid · ConnectEncodes: laid · ConnackEncodes: laid · ConnackBack: laid · MiscEncodes: laid · MiscBack: laid.
  DERIVED. THE GIVEN ROWS OF THIS SEAT. 8 by the template 'for every input the law returns true; each argument reads behind the call as it read before'; 0 by the template 'total and deterministic' (their statements: YtjkhhdknplelcaaGreatDoorTotals.lean).
  GIVEN WITH THE SEED: the statements are not yours to turn. If you find one false, say at which input.
  Laid BY PROGRAM, IN A SANDBOX (cutbox-rows.mjs): the forced cells as the released guide's own fill.sh prints them over the translation a3d385fea2df0070… (all of the seat's roots in one cut). By AI agents, Wed Nov 11 2026. No macro, syntax, notation, axiom, sorry.
-/
import Derived.Test.YtjkhhdknplelcaaGreatDoorChecked
import GoSem.Claim
import GoSem.ClaimJoined
import GoSem.ClaimMapViews
import Derived.JoinedTies
import Derived.KernelRfl
namespace Go.Proofs.YtjkhhdknplelcaaGreatDoor
/- THE CELL 'sum', in the pinned program and in every row, IS THE sha256 OF THE DUMP (.gsa) THAT YtjkhhdknplelcaaGreatDoorProg.lean LOADS. Nothing in Lean hashes anything: it is a label: what it is worth is what the hold of that sum in a sandbox is worth. -/
noncomputable def Tryz.pinned : Pinned := { name := "ytjkhhdknplelcaagreatdoor", sum := "a3d385fea2df0070e3f04399f2297c91ee5c32ea828a9e8da0ccd432dbe101de", checked := Tryz.checked }
namespace Rows
def none {H : Type} : Left H := { results := [], args := [] }

/- WHAT THE LISTED PACKAGE-LEVEL VARIABLES READ AS WHEN THE CALL BEGINS. Each datum BY PROGRAM (the guide's laid-datum.mjs) off the statement by which the dump's own 'gosem.cut.vars' lays the variable. In a bare row this is a premise. The card (YtjkhhdknplelcaaGreatDoorCards.lean) ties it to the program's text. -/
def laid_errors_errorType {H : Type} : DataW H := .iface "internal/reflectlite.rtype" (.agg [.ptr (.lit (.string [101, 114, 114, 111, 114]))])
def laid_towncrier_api_ErrShort {H : Type} : DataW H := .iface "*errors.errorString" (.ptr (.agg [.lit (.string [116, 111, 111, 32, 102, 101, 119, 32, 98, 121, 116, 101, 115])]))
def laid_towncrier_api_ErrMalformed {H : Type} : DataW H := .iface "*errors.errorString" (.ptr (.agg [.lit (.string [109, 97, 108, 102, 111, 114, 109, 101, 100])]))
def laid_towncrier_api_ErrProtocol {H : Type} : DataW H := .iface "*errors.errorString" (.ptr (.agg [.lit (.string [97, 103, 97, 105, 110, 115, 116, 32, 116, 104, 101, 32, 112, 114, 111, 116, 111, 99, 111, 108])]))
def laid_towncrier_api_ErrTooLarge {H : Type} : DataW H := .iface "*errors.errorString" (.ptr (.agg [.lit (.string [116, 111, 111, 32, 108, 97, 114, 103, 101])]))
def laid_towncrier_api_ErrQuota {H : Type} : DataW H := .iface "*errors.errorString" (.ptr (.agg [.lit (.string [110, 111, 32, 114, 111, 111, 109])]))
def laid_towncrier_api_ErrState {H : Type} : DataW H := .iface "*errors.errorString" (.ptr (.agg [.lit (.string [110, 111, 116, 32, 110, 111, 119])]))
def laid_towncrier_api_ErrArgument {H : Type} : DataW H := .iface "*errors.errorString" (.ptr (.agg [.lit (.string [110, 111, 32, 115, 117, 99, 104, 32, 116, 104, 105, 110, 103])]))

/-- 'towncrierlaw10.PublishEncodes': WHATEVER THE INPUT: true; the input reads as it did. -/
def publishEncodesSpec : ChangeSpec := { name := "publishEncodes", fn := fun _ => fun
  | [d] => { results := [.lit (.bool true)], args := [d] }
  | _ => none }
def publishEncodesRow : OpenClaim := { program := "ytjkhhdknplelcaagreatdoor", sum := "a3d385fea2df0070e3f04399f2297c91ee5c32ea828a9e8da0ccd432dbe101de", func := "towncrier/towncrierlaw10.PublishEncodes", spec := "publishEncodes", inPlace := ["internal/reflectlite.ValueOf", "(internal/reflectlite.Value).Type", "(internal/reflectlite.Value).IsNil", "internal/reflectlite.TypeOf", "(internal/reflectlite.Value).Elem", "(internal/reflectlite.Value).Set"], unfollowed := true, recurses := true, named := ["towncrier/api.ErrMalformed", "towncrier/api.ErrTooLarge", "towncrier/api.ErrProtocol", "errors.errorType", "towncrier/api.ErrShort", "towncrier/api.ErrQuota", "towncrier/api.ErrState", "towncrier/api.ErrArgument"], apart := false, laid := [("errors.errorType", laid_errors_errorType), ("towncrier/api.ErrShort", laid_towncrier_api_ErrShort), ("towncrier/api.ErrMalformed", laid_towncrier_api_ErrMalformed), ("towncrier/api.ErrProtocol", laid_towncrier_api_ErrProtocol), ("towncrier/api.ErrTooLarge", laid_towncrier_api_ErrTooLarge), ("towncrier/api.ErrQuota", laid_towncrier_api_ErrQuota), ("towncrier/api.ErrState", laid_towncrier_api_ErrState), ("towncrier/api.ErrArgument", laid_towncrier_api_ErrArgument)] }
def PublishEncodesSaid : Prop := publishEncodesRow.holds Tryz.pinned (OpenSpec.ofChange publishEncodesSpec)

/-- ITS FALSE NEIGHBOUR: 'it returns false'. Refute it at one input. -/
def publishEncodesWrong : ChangeSpec := { name := "publishEncodes", fn := fun _ => fun
  | [d] => { results := [.lit (.bool false)], args := [d] }
  | _ => none }
def PublishEncodesWrongFalsely : Prop := publishEncodesRow.holds Tryz.pinned (OpenSpec.ofChange publishEncodesWrong)

/-- 'towncrierlaw10.PublishBack': WHATEVER THE INPUT: true; the input reads as it did. -/
def publishBackSpec : ChangeSpec := { name := "publishBack", fn := fun _ => fun
  | [d1, d2, d3] => { results := [.lit (.bool true)], args := [d1, d2, d3] }
  | _ => none }
def publishBackRow : OpenClaim := { program := "ytjkhhdknplelcaagreatdoor", sum := "a3d385fea2df0070e3f04399f2297c91ee5c32ea828a9e8da0ccd432dbe101de", func := "towncrier/towncrierlaw10.PublishBack", spec := "publishBack", inPlace := ["internal/reflectlite.ValueOf", "(internal/reflectlite.Value).Type", "(internal/reflectlite.Value).IsNil", "internal/reflectlite.TypeOf", "(internal/reflectlite.Value).Elem", "(internal/reflectlite.Value).Set"], unfollowed := true, recurses := true, named := ["towncrier/api.ErrMalformed", "towncrier/api.ErrTooLarge", "towncrier/api.ErrProtocol", "errors.errorType", "towncrier/api.ErrShort", "towncrier/api.ErrQuota", "towncrier/api.ErrState", "towncrier/api.ErrArgument"], apart := false, laid := [("errors.errorType", laid_errors_errorType), ("towncrier/api.ErrShort", laid_towncrier_api_ErrShort), ("towncrier/api.ErrMalformed", laid_towncrier_api_ErrMalformed), ("towncrier/api.ErrProtocol", laid_towncrier_api_ErrProtocol), ("towncrier/api.ErrTooLarge", laid_towncrier_api_ErrTooLarge), ("towncrier/api.ErrQuota", laid_towncrier_api_ErrQuota), ("towncrier/api.ErrState", laid_towncrier_api_ErrState), ("towncrier/api.ErrArgument", laid_towncrier_api_ErrArgument)] }
def PublishBackSaid : Prop := publishBackRow.holds Tryz.pinned (OpenSpec.ofChange publishBackSpec)

/-- ITS FALSE NEIGHBOUR: 'it returns false'. Refute it at one input. -/
def publishBackWrong : ChangeSpec := { name := "publishBack", fn := fun _ => fun
  | [d1, d2, d3] => { results := [.lit (.bool false)], args := [d1, d2, d3] }
  | _ => none }
def PublishBackWrongFalsely : Prop := publishBackRow.holds Tryz.pinned (OpenSpec.ofChange publishBackWrong)

/-- 'towncrierlaw08.ConnectBack': WHATEVER THE INPUT: true; the input reads as it did. -/
def connectBackSpec : ChangeSpec := { name := "connectBack", fn := fun _ => fun
  | [d1, d2, d3] => { results := [.lit (.bool true)], args := [d1, d2, d3] }
  | _ => none }
def connectBackRow : OpenClaim := { program := "ytjkhhdknplelcaagreatdoor", sum := "a3d385fea2df0070e3f04399f2297c91ee5c32ea828a9e8da0ccd432dbe101de", func := "towncrier/towncrierlaw08.ConnectBack", spec := "connectBack", inPlace := ["internal/reflectlite.ValueOf", "(internal/reflectlite.Value).Type", "(internal/reflectlite.Value).IsNil", "internal/reflectlite.TypeOf", "(internal/reflectlite.Value).Elem", "(internal/reflectlite.Value).Set"], unfollowed := true, recurses := true, named := ["towncrier/api.ErrMalformed", "towncrier/api.ErrTooLarge", "towncrier/api.ErrProtocol", "errors.errorType", "towncrier/api.ErrShort"], apart := false, laid := [("errors.errorType", laid_errors_errorType), ("towncrier/api.ErrShort", laid_towncrier_api_ErrShort), ("towncrier/api.ErrMalformed", laid_towncrier_api_ErrMalformed), ("towncrier/api.ErrProtocol", laid_towncrier_api_ErrProtocol), ("towncrier/api.ErrTooLarge", laid_towncrier_api_ErrTooLarge)] }
def ConnectBackSaid : Prop := connectBackRow.holds Tryz.pinned (OpenSpec.ofChange connectBackSpec)

/-- ITS FALSE NEIGHBOUR: 'it returns false'. Refute it at one input. -/
def connectBackWrong : ChangeSpec := { name := "connectBack", fn := fun _ => fun
  | [d1, d2, d3] => { results := [.lit (.bool false)], args := [d1, d2, d3] }
  | _ => none }
def ConnectBackWrongFalsely : Prop := connectBackRow.holds Tryz.pinned (OpenSpec.ofChange connectBackWrong)

/-- 'towncrierlaw08.ConnectEncodes': WHATEVER THE INPUT: true; the input reads as it did. -/
def connectEncodesSpec : ChangeSpec := { name := "connectEncodes", fn := fun _ => fun
  | [d] => { results := [.lit (.bool true)], args := [d] }
  | _ => none }
def connectEncodesRow : OpenClaim := { program := "ytjkhhdknplelcaagreatdoor", sum := "a3d385fea2df0070e3f04399f2297c91ee5c32ea828a9e8da0ccd432dbe101de", func := "towncrier/towncrierlaw08.ConnectEncodes", spec := "connectEncodes", inPlace := ["internal/reflectlite.ValueOf", "(internal/reflectlite.Value).Type", "(internal/reflectlite.Value).IsNil", "internal/reflectlite.TypeOf", "(internal/reflectlite.Value).Elem", "(internal/reflectlite.Value).Set"], unfollowed := true, recurses := true, named := ["towncrier/api.ErrMalformed", "towncrier/api.ErrTooLarge", "towncrier/api.ErrProtocol", "errors.errorType", "towncrier/api.ErrShort", "towncrier/api.ErrQuota", "towncrier/api.ErrState", "towncrier/api.ErrArgument"], apart := false, laid := [("errors.errorType", laid_errors_errorType), ("towncrier/api.ErrShort", laid_towncrier_api_ErrShort), ("towncrier/api.ErrMalformed", laid_towncrier_api_ErrMalformed), ("towncrier/api.ErrProtocol", laid_towncrier_api_ErrProtocol), ("towncrier/api.ErrTooLarge", laid_towncrier_api_ErrTooLarge), ("towncrier/api.ErrQuota", laid_towncrier_api_ErrQuota), ("towncrier/api.ErrState", laid_towncrier_api_ErrState), ("towncrier/api.ErrArgument", laid_towncrier_api_ErrArgument)] }
def ConnectEncodesSaid : Prop := connectEncodesRow.holds Tryz.pinned (OpenSpec.ofChange connectEncodesSpec)

/-- ITS FALSE NEIGHBOUR: 'it returns false'. Refute it at one input. -/
def connectEncodesWrong : ChangeSpec := { name := "connectEncodes", fn := fun _ => fun
  | [d] => { results := [.lit (.bool false)], args := [d] }
  | _ => none }
def ConnectEncodesWrongFalsely : Prop := connectEncodesRow.holds Tryz.pinned (OpenSpec.ofChange connectEncodesWrong)

/-- 'towncrierlaw09.ConnackEncodes': WHATEVER THE INPUT: true; the input reads as it did. -/
def connackEncodesSpec : ChangeSpec := { name := "connackEncodes", fn := fun _ => fun
  | [d] => { results := [.lit (.bool true)], args := [d] }
  | _ => none }
def connackEncodesRow : OpenClaim := { program := "ytjkhhdknplelcaagreatdoor", sum := "a3d385fea2df0070e3f04399f2297c91ee5c32ea828a9e8da0ccd432dbe101de", func := "towncrier/towncrierlaw09.ConnackEncodes", spec := "connackEncodes", inPlace := ["internal/reflectlite.ValueOf", "(internal/reflectlite.Value).Type", "(internal/reflectlite.Value).IsNil", "internal/reflectlite.TypeOf", "(internal/reflectlite.Value).Elem", "(internal/reflectlite.Value).Set"], unfollowed := true, recurses := true, named := ["towncrier/api.ErrTooLarge", "towncrier/api.ErrMalformed", "towncrier/api.ErrProtocol", "errors.errorType", "towncrier/api.ErrShort", "towncrier/api.ErrQuota", "towncrier/api.ErrState", "towncrier/api.ErrArgument"], apart := false, laid := [("errors.errorType", laid_errors_errorType), ("towncrier/api.ErrShort", laid_towncrier_api_ErrShort), ("towncrier/api.ErrMalformed", laid_towncrier_api_ErrMalformed), ("towncrier/api.ErrProtocol", laid_towncrier_api_ErrProtocol), ("towncrier/api.ErrTooLarge", laid_towncrier_api_ErrTooLarge), ("towncrier/api.ErrQuota", laid_towncrier_api_ErrQuota), ("towncrier/api.ErrState", laid_towncrier_api_ErrState), ("towncrier/api.ErrArgument", laid_towncrier_api_ErrArgument)] }
def ConnackEncodesSaid : Prop := connackEncodesRow.holds Tryz.pinned (OpenSpec.ofChange connackEncodesSpec)

/-- ITS FALSE NEIGHBOUR: 'it returns false'. Refute it at one input. -/
def connackEncodesWrong : ChangeSpec := { name := "connackEncodes", fn := fun _ => fun
  | [d] => { results := [.lit (.bool false)], args := [d] }
  | _ => none }
def ConnackEncodesWrongFalsely : Prop := connackEncodesRow.holds Tryz.pinned (OpenSpec.ofChange connackEncodesWrong)

/-- 'towncrierlaw09.ConnackBack': WHATEVER THE INPUT: true; the input reads as it did. -/
def connackBackSpec : ChangeSpec := { name := "connackBack", fn := fun _ => fun
  | [d1, d2, d3] => { results := [.lit (.bool true)], args := [d1, d2, d3] }
  | _ => none }
def connackBackRow : OpenClaim := { program := "ytjkhhdknplelcaagreatdoor", sum := "a3d385fea2df0070e3f04399f2297c91ee5c32ea828a9e8da0ccd432dbe101de", func := "towncrier/towncrierlaw09.ConnackBack", spec := "connackBack", inPlace := ["internal/reflectlite.ValueOf", "(internal/reflectlite.Value).Type", "(internal/reflectlite.Value).IsNil", "internal/reflectlite.TypeOf", "(internal/reflectlite.Value).Elem", "(internal/reflectlite.Value).Set"], unfollowed := true, recurses := true, named := ["towncrier/api.ErrTooLarge", "towncrier/api.ErrMalformed", "towncrier/api.ErrProtocol", "errors.errorType", "towncrier/api.ErrShort", "towncrier/api.ErrQuota", "towncrier/api.ErrState", "towncrier/api.ErrArgument"], apart := false, laid := [("errors.errorType", laid_errors_errorType), ("towncrier/api.ErrShort", laid_towncrier_api_ErrShort), ("towncrier/api.ErrMalformed", laid_towncrier_api_ErrMalformed), ("towncrier/api.ErrProtocol", laid_towncrier_api_ErrProtocol), ("towncrier/api.ErrTooLarge", laid_towncrier_api_ErrTooLarge), ("towncrier/api.ErrQuota", laid_towncrier_api_ErrQuota), ("towncrier/api.ErrState", laid_towncrier_api_ErrState), ("towncrier/api.ErrArgument", laid_towncrier_api_ErrArgument)] }
def ConnackBackSaid : Prop := connackBackRow.holds Tryz.pinned (OpenSpec.ofChange connackBackSpec)

/-- ITS FALSE NEIGHBOUR: 'it returns false'. Refute it at one input. -/
def connackBackWrong : ChangeSpec := { name := "connackBack", fn := fun _ => fun
  | [d1, d2, d3] => { results := [.lit (.bool false)], args := [d1, d2, d3] }
  | _ => none }
def ConnackBackWrongFalsely : Prop := connackBackRow.holds Tryz.pinned (OpenSpec.ofChange connackBackWrong)

/-- 'towncrierlaw14.MiscEncodes': WHATEVER THE INPUT: true; the input reads as it did. -/
def miscEncodesSpec : ChangeSpec := { name := "miscEncodes", fn := fun _ => fun
  | [d] => { results := [.lit (.bool true)], args := [d] }
  | _ => none }
def miscEncodesRow : OpenClaim := { program := "ytjkhhdknplelcaagreatdoor", sum := "a3d385fea2df0070e3f04399f2297c91ee5c32ea828a9e8da0ccd432dbe101de", func := "towncrier/towncrierlaw14.MiscEncodes", spec := "miscEncodes", inPlace := ["internal/reflectlite.ValueOf", "(internal/reflectlite.Value).Type", "(internal/reflectlite.Value).IsNil", "internal/reflectlite.TypeOf", "(internal/reflectlite.Value).Elem", "(internal/reflectlite.Value).Set"], unfollowed := true, recurses := true, named := ["towncrier/api.ErrArgument", "towncrier/api.ErrTooLarge", "towncrier/api.ErrMalformed", "towncrier/api.ErrProtocol", "errors.errorType", "towncrier/api.ErrShort", "towncrier/api.ErrQuota", "towncrier/api.ErrState"], apart := false, laid := [("errors.errorType", laid_errors_errorType), ("towncrier/api.ErrShort", laid_towncrier_api_ErrShort), ("towncrier/api.ErrMalformed", laid_towncrier_api_ErrMalformed), ("towncrier/api.ErrProtocol", laid_towncrier_api_ErrProtocol), ("towncrier/api.ErrTooLarge", laid_towncrier_api_ErrTooLarge), ("towncrier/api.ErrQuota", laid_towncrier_api_ErrQuota), ("towncrier/api.ErrState", laid_towncrier_api_ErrState), ("towncrier/api.ErrArgument", laid_towncrier_api_ErrArgument)] }
def MiscEncodesSaid : Prop := miscEncodesRow.holds Tryz.pinned (OpenSpec.ofChange miscEncodesSpec)

/-- ITS FALSE NEIGHBOUR: 'it returns false'. Refute it at one input. -/
def miscEncodesWrong : ChangeSpec := { name := "miscEncodes", fn := fun _ => fun
  | [d] => { results := [.lit (.bool false)], args := [d] }
  | _ => none }
def MiscEncodesWrongFalsely : Prop := miscEncodesRow.holds Tryz.pinned (OpenSpec.ofChange miscEncodesWrong)

/-- 'towncrierlaw14.MiscBack': WHATEVER THE INPUT: true; the input reads as it did. -/
def miscBackSpec : ChangeSpec := { name := "miscBack", fn := fun _ => fun
  | [d1, d2, d3] => { results := [.lit (.bool true)], args := [d1, d2, d3] }
  | _ => none }
def miscBackRow : OpenClaim := { program := "ytjkhhdknplelcaagreatdoor", sum := "a3d385fea2df0070e3f04399f2297c91ee5c32ea828a9e8da0ccd432dbe101de", func := "towncrier/towncrierlaw14.MiscBack", spec := "miscBack", inPlace := ["internal/reflectlite.ValueOf", "(internal/reflectlite.Value).Type", "(internal/reflectlite.Value).IsNil", "internal/reflectlite.TypeOf", "(internal/reflectlite.Value).Elem", "(internal/reflectlite.Value).Set"], unfollowed := true, recurses := true, named := ["towncrier/api.ErrArgument", "towncrier/api.ErrTooLarge", "towncrier/api.ErrMalformed", "towncrier/api.ErrProtocol", "errors.errorType", "towncrier/api.ErrShort", "towncrier/api.ErrQuota", "towncrier/api.ErrState"], apart := false, laid := [("errors.errorType", laid_errors_errorType), ("towncrier/api.ErrShort", laid_towncrier_api_ErrShort), ("towncrier/api.ErrMalformed", laid_towncrier_api_ErrMalformed), ("towncrier/api.ErrProtocol", laid_towncrier_api_ErrProtocol), ("towncrier/api.ErrTooLarge", laid_towncrier_api_ErrTooLarge), ("towncrier/api.ErrQuota", laid_towncrier_api_ErrQuota), ("towncrier/api.ErrState", laid_towncrier_api_ErrState), ("towncrier/api.ErrArgument", laid_towncrier_api_ErrArgument)] }
def MiscBackSaid : Prop := miscBackRow.holds Tryz.pinned (OpenSpec.ofChange miscBackSpec)

/-- ITS FALSE NEIGHBOUR: 'it returns false'. Refute it at one input. -/
def miscBackWrong : ChangeSpec := { name := "miscBack", fn := fun _ => fun
  | [d1, d2, d3] => { results := [.lit (.bool false)], args := [d1, d2, d3] }
  | _ => none }
def MiscBackWrongFalsely : Prop := miscBackRow.holds Tryz.pinned (OpenSpec.ofChange miscBackWrong)

/- THE SECOND FORM. 'bulk': how many values and letters a reading holds, each counted each time it is reached (what is shared counts as often as it is met; a slice's spare places count too). A statement '..UptoSaid' is the law's where the arguments, and the package variables that the reading takes, are together of bulk at most 1048576: NARROWER than '..Said'. Prove '..Said' where nothing that the law and all that it calls make is longer than what came in: it says more and counts as full. Else prove '..UptoSaid'. A law counts once. -/
mutual
def uptoBulk {H : Type} : DataW H → Nat
  | .lit (.string bytes) => bytes.length + 1
  | .lit _ => 1
  | .nil => 1
  | .ptr d => uptoBulk d + 1
  | .slice elems spare => uptoBulkAll elems + uptoBulkAll spare + 1
  | .agg parts => uptoBulkAll parts + 1
  | .iface _ d => uptoBulk d + 1
  | .map entries => uptoBulkEntries entries + 1
  | .held _ => 1
def uptoBulkAll {H : Type} : List (DataW H) → Nat
  | [] => 0
  | d :: r => uptoBulk d + uptoBulkAll r
def uptoBulkEntries {H : Type} : List (Lit × DataW H) → Nat
  | [] => 0
  | x :: r => uptoBulkEntry x + uptoBulkEntries r
def uptoBulkEntry {H : Type} : Lit × DataW H → Nat
  | (.string bytes, d) => bytes.length + uptoBulk d + 1
  | (_, d) => uptoBulk d + 1
 end
def uptoSmall : (H : Type) → List (DataW H) → Bool := fun _ ds => decide (uptoBulkAll ds ≤ 1048576)
def OpenSpec.upto (s : _root_.Go.ChangeSpec) : _root_.Go.OpenSpec := { _root_.Go.OpenSpec.ofChange s with cond := some uptoSmall }

/-- 'towncrierlaw10.PublishEncodes', WHERE WHAT IT READS IS OF BULK AT MOST 1048576: true; the input reads as it did. -/
def publishEncodesUptoRow : OpenClaim := { program := "ytjkhhdknplelcaagreatdoor", sum := "a3d385fea2df0070e3f04399f2297c91ee5c32ea828a9e8da0ccd432dbe101de", func := "towncrier/towncrierlaw10.PublishEncodes", spec := "publishEncodes", inPlace := ["internal/reflectlite.ValueOf", "(internal/reflectlite.Value).Type", "(internal/reflectlite.Value).IsNil", "internal/reflectlite.TypeOf", "(internal/reflectlite.Value).Elem", "(internal/reflectlite.Value).Set"], unfollowed := true, recurses := true, named := ["towncrier/api.ErrMalformed", "towncrier/api.ErrTooLarge", "towncrier/api.ErrProtocol", "errors.errorType", "towncrier/api.ErrShort", "towncrier/api.ErrQuota", "towncrier/api.ErrState", "towncrier/api.ErrArgument"], apart := false, laid := [("errors.errorType", laid_errors_errorType), ("towncrier/api.ErrShort", laid_towncrier_api_ErrShort), ("towncrier/api.ErrMalformed", laid_towncrier_api_ErrMalformed), ("towncrier/api.ErrProtocol", laid_towncrier_api_ErrProtocol), ("towncrier/api.ErrTooLarge", laid_towncrier_api_ErrTooLarge), ("towncrier/api.ErrQuota", laid_towncrier_api_ErrQuota), ("towncrier/api.ErrState", laid_towncrier_api_ErrState), ("towncrier/api.ErrArgument", laid_towncrier_api_ErrArgument)], narrowed := true }
def PublishEncodesUptoSaid : Prop := publishEncodesUptoRow.holds Tryz.pinned (OpenSpec.upto publishEncodesSpec)

/-- 'towncrierlaw10.PublishBack', WHERE WHAT IT READS IS OF BULK AT MOST 1048576: true; the input reads as it did. -/
def publishBackUptoRow : OpenClaim := { program := "ytjkhhdknplelcaagreatdoor", sum := "a3d385fea2df0070e3f04399f2297c91ee5c32ea828a9e8da0ccd432dbe101de", func := "towncrier/towncrierlaw10.PublishBack", spec := "publishBack", inPlace := ["internal/reflectlite.ValueOf", "(internal/reflectlite.Value).Type", "(internal/reflectlite.Value).IsNil", "internal/reflectlite.TypeOf", "(internal/reflectlite.Value).Elem", "(internal/reflectlite.Value).Set"], unfollowed := true, recurses := true, named := ["towncrier/api.ErrMalformed", "towncrier/api.ErrTooLarge", "towncrier/api.ErrProtocol", "errors.errorType", "towncrier/api.ErrShort", "towncrier/api.ErrQuota", "towncrier/api.ErrState", "towncrier/api.ErrArgument"], apart := false, laid := [("errors.errorType", laid_errors_errorType), ("towncrier/api.ErrShort", laid_towncrier_api_ErrShort), ("towncrier/api.ErrMalformed", laid_towncrier_api_ErrMalformed), ("towncrier/api.ErrProtocol", laid_towncrier_api_ErrProtocol), ("towncrier/api.ErrTooLarge", laid_towncrier_api_ErrTooLarge), ("towncrier/api.ErrQuota", laid_towncrier_api_ErrQuota), ("towncrier/api.ErrState", laid_towncrier_api_ErrState), ("towncrier/api.ErrArgument", laid_towncrier_api_ErrArgument)], narrowed := true }
def PublishBackUptoSaid : Prop := publishBackUptoRow.holds Tryz.pinned (OpenSpec.upto publishBackSpec)

/-- 'towncrierlaw08.ConnectBack', WHERE WHAT IT READS IS OF BULK AT MOST 1048576: true; the input reads as it did. -/
def connectBackUptoRow : OpenClaim := { program := "ytjkhhdknplelcaagreatdoor", sum := "a3d385fea2df0070e3f04399f2297c91ee5c32ea828a9e8da0ccd432dbe101de", func := "towncrier/towncrierlaw08.ConnectBack", spec := "connectBack", inPlace := ["internal/reflectlite.ValueOf", "(internal/reflectlite.Value).Type", "(internal/reflectlite.Value).IsNil", "internal/reflectlite.TypeOf", "(internal/reflectlite.Value).Elem", "(internal/reflectlite.Value).Set"], unfollowed := true, recurses := true, named := ["towncrier/api.ErrMalformed", "towncrier/api.ErrTooLarge", "towncrier/api.ErrProtocol", "errors.errorType", "towncrier/api.ErrShort"], apart := false, laid := [("errors.errorType", laid_errors_errorType), ("towncrier/api.ErrShort", laid_towncrier_api_ErrShort), ("towncrier/api.ErrMalformed", laid_towncrier_api_ErrMalformed), ("towncrier/api.ErrProtocol", laid_towncrier_api_ErrProtocol), ("towncrier/api.ErrTooLarge", laid_towncrier_api_ErrTooLarge)], narrowed := true }
def ConnectBackUptoSaid : Prop := connectBackUptoRow.holds Tryz.pinned (OpenSpec.upto connectBackSpec)

/-- 'towncrierlaw08.ConnectEncodes', WHERE WHAT IT READS IS OF BULK AT MOST 1048576: true; the input reads as it did. -/
def connectEncodesUptoRow : OpenClaim := { program := "ytjkhhdknplelcaagreatdoor", sum := "a3d385fea2df0070e3f04399f2297c91ee5c32ea828a9e8da0ccd432dbe101de", func := "towncrier/towncrierlaw08.ConnectEncodes", spec := "connectEncodes", inPlace := ["internal/reflectlite.ValueOf", "(internal/reflectlite.Value).Type", "(internal/reflectlite.Value).IsNil", "internal/reflectlite.TypeOf", "(internal/reflectlite.Value).Elem", "(internal/reflectlite.Value).Set"], unfollowed := true, recurses := true, named := ["towncrier/api.ErrMalformed", "towncrier/api.ErrTooLarge", "towncrier/api.ErrProtocol", "errors.errorType", "towncrier/api.ErrShort", "towncrier/api.ErrQuota", "towncrier/api.ErrState", "towncrier/api.ErrArgument"], apart := false, laid := [("errors.errorType", laid_errors_errorType), ("towncrier/api.ErrShort", laid_towncrier_api_ErrShort), ("towncrier/api.ErrMalformed", laid_towncrier_api_ErrMalformed), ("towncrier/api.ErrProtocol", laid_towncrier_api_ErrProtocol), ("towncrier/api.ErrTooLarge", laid_towncrier_api_ErrTooLarge), ("towncrier/api.ErrQuota", laid_towncrier_api_ErrQuota), ("towncrier/api.ErrState", laid_towncrier_api_ErrState), ("towncrier/api.ErrArgument", laid_towncrier_api_ErrArgument)], narrowed := true }
def ConnectEncodesUptoSaid : Prop := connectEncodesUptoRow.holds Tryz.pinned (OpenSpec.upto connectEncodesSpec)

/-- 'towncrierlaw09.ConnackEncodes', WHERE WHAT IT READS IS OF BULK AT MOST 1048576: true; the input reads as it did. -/
def connackEncodesUptoRow : OpenClaim := { program := "ytjkhhdknplelcaagreatdoor", sum := "a3d385fea2df0070e3f04399f2297c91ee5c32ea828a9e8da0ccd432dbe101de", func := "towncrier/towncrierlaw09.ConnackEncodes", spec := "connackEncodes", inPlace := ["internal/reflectlite.ValueOf", "(internal/reflectlite.Value).Type", "(internal/reflectlite.Value).IsNil", "internal/reflectlite.TypeOf", "(internal/reflectlite.Value).Elem", "(internal/reflectlite.Value).Set"], unfollowed := true, recurses := true, named := ["towncrier/api.ErrTooLarge", "towncrier/api.ErrMalformed", "towncrier/api.ErrProtocol", "errors.errorType", "towncrier/api.ErrShort", "towncrier/api.ErrQuota", "towncrier/api.ErrState", "towncrier/api.ErrArgument"], apart := false, laid := [("errors.errorType", laid_errors_errorType), ("towncrier/api.ErrShort", laid_towncrier_api_ErrShort), ("towncrier/api.ErrMalformed", laid_towncrier_api_ErrMalformed), ("towncrier/api.ErrProtocol", laid_towncrier_api_ErrProtocol), ("towncrier/api.ErrTooLarge", laid_towncrier_api_ErrTooLarge), ("towncrier/api.ErrQuota", laid_towncrier_api_ErrQuota), ("towncrier/api.ErrState", laid_towncrier_api_ErrState), ("towncrier/api.ErrArgument", laid_towncrier_api_ErrArgument)], narrowed := true }
def ConnackEncodesUptoSaid : Prop := connackEncodesUptoRow.holds Tryz.pinned (OpenSpec.upto connackEncodesSpec)

/-- 'towncrierlaw09.ConnackBack', WHERE WHAT IT READS IS OF BULK AT MOST 1048576: true; the input reads as it did. -/
def connackBackUptoRow : OpenClaim := { program := "ytjkhhdknplelcaagreatdoor", sum := "a3d385fea2df0070e3f04399f2297c91ee5c32ea828a9e8da0ccd432dbe101de", func := "towncrier/towncrierlaw09.ConnackBack", spec := "connackBack", inPlace := ["internal/reflectlite.ValueOf", "(internal/reflectlite.Value).Type", "(internal/reflectlite.Value).IsNil", "internal/reflectlite.TypeOf", "(internal/reflectlite.Value).Elem", "(internal/reflectlite.Value).Set"], unfollowed := true, recurses := true, named := ["towncrier/api.ErrTooLarge", "towncrier/api.ErrMalformed", "towncrier/api.ErrProtocol", "errors.errorType", "towncrier/api.ErrShort", "towncrier/api.ErrQuota", "towncrier/api.ErrState", "towncrier/api.ErrArgument"], apart := false, laid := [("errors.errorType", laid_errors_errorType), ("towncrier/api.ErrShort", laid_towncrier_api_ErrShort), ("towncrier/api.ErrMalformed", laid_towncrier_api_ErrMalformed), ("towncrier/api.ErrProtocol", laid_towncrier_api_ErrProtocol), ("towncrier/api.ErrTooLarge", laid_towncrier_api_ErrTooLarge), ("towncrier/api.ErrQuota", laid_towncrier_api_ErrQuota), ("towncrier/api.ErrState", laid_towncrier_api_ErrState), ("towncrier/api.ErrArgument", laid_towncrier_api_ErrArgument)], narrowed := true }
def ConnackBackUptoSaid : Prop := connackBackUptoRow.holds Tryz.pinned (OpenSpec.upto connackBackSpec)

/-- 'towncrierlaw14.MiscEncodes', WHERE WHAT IT READS IS OF BULK AT MOST 1048576: true; the input reads as it did. -/
def miscEncodesUptoRow : OpenClaim := { program := "ytjkhhdknplelcaagreatdoor", sum := "a3d385fea2df0070e3f04399f2297c91ee5c32ea828a9e8da0ccd432dbe101de", func := "towncrier/towncrierlaw14.MiscEncodes", spec := "miscEncodes", inPlace := ["internal/reflectlite.ValueOf", "(internal/reflectlite.Value).Type", "(internal/reflectlite.Value).IsNil", "internal/reflectlite.TypeOf", "(internal/reflectlite.Value).Elem", "(internal/reflectlite.Value).Set"], unfollowed := true, recurses := true, named := ["towncrier/api.ErrArgument", "towncrier/api.ErrTooLarge", "towncrier/api.ErrMalformed", "towncrier/api.ErrProtocol", "errors.errorType", "towncrier/api.ErrShort", "towncrier/api.ErrQuota", "towncrier/api.ErrState"], apart := false, laid := [("errors.errorType", laid_errors_errorType), ("towncrier/api.ErrShort", laid_towncrier_api_ErrShort), ("towncrier/api.ErrMalformed", laid_towncrier_api_ErrMalformed), ("towncrier/api.ErrProtocol", laid_towncrier_api_ErrProtocol), ("towncrier/api.ErrTooLarge", laid_towncrier_api_ErrTooLarge), ("towncrier/api.ErrQuota", laid_towncrier_api_ErrQuota), ("towncrier/api.ErrState", laid_towncrier_api_ErrState), ("towncrier/api.ErrArgument", laid_towncrier_api_ErrArgument)], narrowed := true }
def MiscEncodesUptoSaid : Prop := miscEncodesUptoRow.holds Tryz.pinned (OpenSpec.upto miscEncodesSpec)

/-- 'towncrierlaw14.MiscBack', WHERE WHAT IT READS IS OF BULK AT MOST 1048576: true; the input reads as it did. -/
def miscBackUptoRow : OpenClaim := { program := "ytjkhhdknplelcaagreatdoor", sum := "a3d385fea2df0070e3f04399f2297c91ee5c32ea828a9e8da0ccd432dbe101de", func := "towncrier/towncrierlaw14.MiscBack", spec := "miscBack", inPlace := ["internal/reflectlite.ValueOf", "(internal/reflectlite.Value).Type", "(internal/reflectlite.Value).IsNil", "internal/reflectlite.TypeOf", "(internal/reflectlite.Value).Elem", "(internal/reflectlite.Value).Set"], unfollowed := true, recurses := true, named := ["towncrier/api.ErrArgument", "towncrier/api.ErrTooLarge", "towncrier/api.ErrMalformed", "towncrier/api.ErrProtocol", "errors.errorType", "towncrier/api.ErrShort", "towncrier/api.ErrQuota", "towncrier/api.ErrState"], apart := false, laid := [("errors.errorType", laid_errors_errorType), ("towncrier/api.ErrShort", laid_towncrier_api_ErrShort), ("towncrier/api.ErrMalformed", laid_towncrier_api_ErrMalformed), ("towncrier/api.ErrProtocol", laid_towncrier_api_ErrProtocol), ("towncrier/api.ErrTooLarge", laid_towncrier_api_ErrTooLarge), ("towncrier/api.ErrQuota", laid_towncrier_api_ErrQuota), ("towncrier/api.ErrState", laid_towncrier_api_ErrState), ("towncrier/api.ErrArgument", laid_towncrier_api_ErrArgument)], narrowed := true }
def MiscBackUptoSaid : Prop := miscBackUptoRow.holds Tryz.pinned (OpenSpec.upto miscBackSpec)

end Rows
end Go.Proofs.YtjkhhdknplelcaaGreatDoor
