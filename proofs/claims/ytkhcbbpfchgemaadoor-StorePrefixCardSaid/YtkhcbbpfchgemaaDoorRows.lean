/-
  NARROWER THAN 'FOR EVERY INPUT', by the rows' own cells (each row's printed sentence says how): StorePrefix: laid.
  DERIVED. THE GIVEN ROWS OF THIS SEAT. 1 by the template 'for every input the law returns true; each argument reads behind the call as it read before'; 0 by the template 'total and deterministic' (their statements: YtkhcbbpfchgemaaDoorTotals.lean).
  GIVEN WITH THE SEED: the statements are not yours to turn. If you find one false, say at which input.
  Laid BY PROGRAM, IN A SANDBOX (cutbox-rows.mjs): the forced cells as the released guide's own fill.sh prints them over the translation 2acc48ff905c2ab5… (all of the seat's roots in one cut). By AI agents, Wed Nov 11 2026. No macro, syntax, notation, axiom, sorry.
-/
import Derived.Test.YtkhcbbpfchgemaaDoorChecked
import GoSem.Claim
import GoSem.ClaimJoined
import GoSem.ClaimMapViews
import Derived.JoinedTies
import Derived.KernelRfl
namespace Go.Proofs.YtkhcbbpfchgemaaDoor
/- THE CELL 'sum', in the pinned program and in every row, IS THE sha256 OF THE DUMP (.gsa) THAT YtkhcbbpfchgemaaDoorProg.lean LOADS. Nothing in Lean hashes anything: it is a label: what it is worth is what the hold of that sum in a sandbox is worth. -/
noncomputable def Tryd.pinned : Pinned := { name := "ytkhcbbpfchgemaadoor", sum := "2acc48ff905c2ab5fc155f19bb4365fcc06b647452518721f43ae2ebc9cc77e4", checked := Tryd.checked }
namespace Rows
def none {H : Type} : Left H := { results := [], args := [] }

/- WHAT THE LISTED PACKAGE-LEVEL VARIABLES READ AS WHEN THE CALL BEGINS. Each datum BY PROGRAM (the guide's laid-datum.mjs) off the statement by which the dump's own 'gosem.cut.vars' lays the variable. In a bare row this is a premise. The card (YtkhcbbpfchgemaaDoorCards.lean) ties it to the program's text. -/
def laid_errors_errorType {H : Type} : DataW H := .iface "internal/reflectlite.rtype" (.agg [.ptr (.lit (.string [101, 114, 114, 111, 114]))])
def laid_towncrier_api_ErrShort {H : Type} : DataW H := .iface "*errors.errorString" (.ptr (.agg [.lit (.string [116, 111, 111, 32, 102, 101, 119, 32, 98, 121, 116, 101, 115])]))
def laid_towncrier_api_ErrMalformed {H : Type} : DataW H := .iface "*errors.errorString" (.ptr (.agg [.lit (.string [109, 97, 108, 102, 111, 114, 109, 101, 100])]))
def laid_towncrier_api_ErrProtocol {H : Type} : DataW H := .iface "*errors.errorString" (.ptr (.agg [.lit (.string [97, 103, 97, 105, 110, 115, 116, 32, 116, 104, 101, 32, 112, 114, 111, 116, 111, 99, 111, 108])]))
def laid_towncrier_api_ErrTooLarge {H : Type} : DataW H := .iface "*errors.errorString" (.ptr (.agg [.lit (.string [116, 111, 111, 32, 108, 97, 114, 103, 101])]))
def laid_towncrier_api_ErrArgument {H : Type} : DataW H := .iface "*errors.errorString" (.ptr (.agg [.lit (.string [110, 111, 32, 115, 117, 99, 104, 32, 116, 104, 105, 110, 103])]))

/-- 'towncrierlaw34.StorePrefix': WHATEVER THE INPUT: true; the input reads as it did. -/
def storePrefixSpec : ChangeSpec := { name := "storePrefix", fn := fun _ => fun
  | [d1, d2] => { results := [.lit (.bool true)], args := [d1, d2] }
  | _ => none }
def storePrefixRow : OpenClaim := { program := "ytkhcbbpfchgemaadoor", sum := "2acc48ff905c2ab5fc155f19bb4365fcc06b647452518721f43ae2ebc9cc77e4", func := "towncrier/towncrierlaw34.StorePrefix", spec := "storePrefix", inPlace := ["internal/reflectlite.ValueOf", "(internal/reflectlite.Value).Type", "(internal/reflectlite.Value).IsNil", "internal/reflectlite.TypeOf", "(internal/reflectlite.Value).Elem", "(internal/reflectlite.Value).Set"], unfollowed := true, recurses := true, named := ["towncrier/api.ErrArgument", "towncrier/api.ErrTooLarge", "towncrier/api.ErrMalformed", "towncrier/api.ErrProtocol", "errors.errorType", "towncrier/api.ErrShort"], apart := false, laid := [("errors.errorType", laid_errors_errorType), ("towncrier/api.ErrShort", laid_towncrier_api_ErrShort), ("towncrier/api.ErrMalformed", laid_towncrier_api_ErrMalformed), ("towncrier/api.ErrProtocol", laid_towncrier_api_ErrProtocol), ("towncrier/api.ErrTooLarge", laid_towncrier_api_ErrTooLarge), ("towncrier/api.ErrArgument", laid_towncrier_api_ErrArgument)] }
def StorePrefixSaid : Prop := storePrefixRow.holds Tryd.pinned (OpenSpec.ofChange storePrefixSpec)

/-- ITS FALSE NEIGHBOUR: 'it returns false'. Refute it at one input. -/
def storePrefixWrong : ChangeSpec := { name := "storePrefix", fn := fun _ => fun
  | [d1, d2] => { results := [.lit (.bool false)], args := [d1, d2] }
  | _ => none }
def StorePrefixWrongFalsely : Prop := storePrefixRow.holds Tryd.pinned (OpenSpec.ofChange storePrefixWrong)

/- THE SECOND FORM. 'bulk': how many values and letters a reading holds, each counted each time it is reached (what is shared counts as often as it is met; a slice's spare places count too). A statement '..UptoSaid' is the law's where the arguments, and the package variables that the reading takes, are together of bulk at most 1048576: NARROWER than '..Said'. Prove '..Said' where nothing that the law and all that it calls make is longer than what came in: it says more and counts as full. Else prove '..UptoSaid'. A law counts once. -/
mutual
def uptoBulk {H : Type} : DataW H → Nat
  | .lit (.string bytes) => bytes.length + 1
  | .lit _ => 1
  | .nil => 1
  | .ptr d => uptoBulk d + 1
  | .slice elems spare => uptoBulkAll elems + uptoBulkAll spare + 1
  | .agg parts => uptoBulkAll parts + 1
  | .iface _ d => uptoBulk d + 1
  | .map entries => uptoBulkEntries entries + 1
  | .held _ => 1
def uptoBulkAll {H : Type} : List (DataW H) → Nat
  | [] => 0
  | d :: r => uptoBulk d + uptoBulkAll r
def uptoBulkEntries {H : Type} : List (Lit × DataW H) → Nat
  | [] => 0
  | x :: r => uptoBulkEntry x + uptoBulkEntries r
def uptoBulkEntry {H : Type} : Lit × DataW H → Nat
  | (.string bytes, d) => bytes.length + uptoBulk d + 1
  | (_, d) => uptoBulk d + 1
 end
def uptoSmall : (H : Type) → List (DataW H) → Bool := fun _ ds => decide (uptoBulkAll ds ≤ 1048576)
def OpenSpec.upto (s : _root_.Go.ChangeSpec) : _root_.Go.OpenSpec := { _root_.Go.OpenSpec.ofChange s with cond := some uptoSmall }

/-- 'towncrierlaw34.StorePrefix', WHERE WHAT IT READS IS OF BULK AT MOST 1048576: true; the input reads as it did. -/
def storePrefixUptoRow : OpenClaim := { program := "ytkhcbbpfchgemaadoor", sum := "2acc48ff905c2ab5fc155f19bb4365fcc06b647452518721f43ae2ebc9cc77e4", func := "towncrier/towncrierlaw34.StorePrefix", spec := "storePrefix", inPlace := ["internal/reflectlite.ValueOf", "(internal/reflectlite.Value).Type", "(internal/reflectlite.Value).IsNil", "internal/reflectlite.TypeOf", "(internal/reflectlite.Value).Elem", "(internal/reflectlite.Value).Set"], unfollowed := true, recurses := true, named := ["towncrier/api.ErrArgument", "towncrier/api.ErrTooLarge", "towncrier/api.ErrMalformed", "towncrier/api.ErrProtocol", "errors.errorType", "towncrier/api.ErrShort"], apart := false, laid := [("errors.errorType", laid_errors_errorType), ("towncrier/api.ErrShort", laid_towncrier_api_ErrShort), ("towncrier/api.ErrMalformed", laid_towncrier_api_ErrMalformed), ("towncrier/api.ErrProtocol", laid_towncrier_api_ErrProtocol), ("towncrier/api.ErrTooLarge", laid_towncrier_api_ErrTooLarge), ("towncrier/api.ErrArgument", laid_towncrier_api_ErrArgument)], narrowed := true }
def StorePrefixUptoSaid : Prop := storePrefixUptoRow.holds Tryd.pinned (OpenSpec.upto storePrefixSpec)

end Rows
end Go.Proofs.YtkhcbbpfchgemaaDoor
