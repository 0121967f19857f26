/-
  NARROWER THAN 'FOR EVERY INPUT', by the rows' own cells (each row's printed sentence says how): AggAll: laid · AggSums: laid · AggOver: laid · AggForms: laid.
  DERIVED. THE GIVEN ROWS OF THIS SEAT. 4 by the template 'for every input the law returns true; each argument reads behind the call as it read before'; 0 by the template 'total and deterministic' (their statements: YtlhijlnhjnceoaaDoorTotals.lean).
  GIVEN WITH THE SEED: the statements are not yours to turn. If you find one false, say at which input.
  Laid BY PROGRAM, IN A SANDBOX (cutbox-rows.mjs): the forced cells as the released guide's own fill.sh prints them over the translation 9a9c393a2be1343d… (all of the seat's roots in one cut). By AI agents, Wed Nov 11 2026. No macro, syntax, notation, axiom, sorry.
-/
import Derived.Test.YtlhijlnhjnceoaaDoorChecked
import GoSem.Claim
import GoSem.ClaimJoined
import GoSem.ClaimMapViews
import Derived.JoinedTies
import Derived.KernelRfl
namespace Go.Proofs.YtlhijlnhjnceoaaDoor
/- THE CELL 'sum', in the pinned program and in every row, IS THE sha256 OF THE DUMP (.gsa) THAT YtlhijlnhjnceoaaDoorProg.lean LOADS. Nothing in Lean hashes anything: it is a label: what it is worth is what the hold of that sum in a sandbox is worth. -/
noncomputable def Tryd.pinned : Pinned := { name := "ytlhijlnhjnceoaadoor", sum := "9a9c393a2be1343d3fd7f658189a824cdf0883e77290ffc493148d09cc181f66", checked := Tryd.checked }
namespace Rows
def none {H : Type} : Left H := { results := [], args := [] }

/- WHAT THE LISTED PACKAGE-LEVEL VARIABLES READ AS WHEN THE CALL BEGINS. Each datum BY PROGRAM (the guide's laid-datum.mjs) off the statement by which the dump's own 'gosem.cut.vars' lays the variable. In a bare row this is a premise. The card (YtlhijlnhjnceoaaDoorCards.lean) ties it to the program's text. -/
def laid_rabbet_agg_errArg {H : Type} : DataW H := .iface "*errors.errorString" (.ptr (.agg [.lit (.string [119, 104, 97, 116, 32, 109, 97, 121, 32, 110, 111, 116, 32, 98, 101])]))
def laid_rabbet_agg_errType {H : Type} : DataW H := .iface "*errors.errorString" (.ptr (.agg [.lit (.string [111, 102, 32, 97, 110, 111, 116, 104, 101, 114, 32, 116, 121, 112, 101])]))
def laid_rabbet_agg_errOver {H : Type} : DataW H := .iface "*errors.errorString" (.ptr (.agg [.lit (.string [98, 101, 121, 111, 110, 100, 32, 105, 116, 115, 32, 110, 117, 109, 98, 101, 114, 115])]))

/-- 'rabbetlaw24.AggAll': WHATEVER THE INPUT: true; the input reads as it did. -/
def aggAllSpec : ChangeSpec := { name := "aggAll", fn := fun _ => fun
  | [d1, d2, d3, d4] => { results := [.lit (.bool true)], args := [d1, d2, d3, d4] }
  | _ => none }
def aggAllRow : OpenClaim := { program := "ytlhijlnhjnceoaadoor", sum := "9a9c393a2be1343d3fd7f658189a824cdf0883e77290ffc493148d09cc181f66", func := "rabbet/rabbetlaw24.AggAll", spec := "aggAll", inPlace := ["internal/bytealg.abigen_runtime_cmpstring", "math/bits.Add64", "internal/reflectlite.TypeOf"], unfollowed := true, recurses := true, named := ["rabbet/agg.errArg", "rabbet/agg.errType", "rabbet/agg.errOver"], apart := false, laid := [("rabbet/agg.errArg", laid_rabbet_agg_errArg), ("rabbet/agg.errType", laid_rabbet_agg_errType), ("rabbet/agg.errOver", laid_rabbet_agg_errOver)] }
def AggAllSaid : Prop := aggAllRow.holds Tryd.pinned (OpenSpec.ofChange aggAllSpec)

/-- ITS FALSE NEIGHBOUR: 'it returns false'. Refute it at one input. -/
def aggAllWrong : ChangeSpec := { name := "aggAll", fn := fun _ => fun
  | [d1, d2, d3, d4] => { results := [.lit (.bool false)], args := [d1, d2, d3, d4] }
  | _ => none }
def AggAllWrongFalsely : Prop := aggAllRow.holds Tryd.pinned (OpenSpec.ofChange aggAllWrong)

/-- 'rabbetlaw24.AggSums': WHATEVER THE INPUT: true; the input reads as it did. -/
def aggSumsSpec : ChangeSpec := { name := "aggSums", fn := fun _ => fun
  | [d1, d2, d3] => { results := [.lit (.bool true)], args := [d1, d2, d3] }
  | _ => none }
def aggSumsRow : OpenClaim := { program := "ytlhijlnhjnceoaadoor", sum := "9a9c393a2be1343d3fd7f658189a824cdf0883e77290ffc493148d09cc181f66", func := "rabbet/rabbetlaw24.AggSums", spec := "aggSums", inPlace := ["internal/bytealg.abigen_runtime_cmpstring", "math/bits.Add64", "internal/reflectlite.TypeOf"], unfollowed := true, recurses := true, named := ["rabbet/agg.errArg", "rabbet/agg.errType", "rabbet/agg.errOver"], apart := false, laid := [("rabbet/agg.errArg", laid_rabbet_agg_errArg), ("rabbet/agg.errType", laid_rabbet_agg_errType), ("rabbet/agg.errOver", laid_rabbet_agg_errOver)] }
def AggSumsSaid : Prop := aggSumsRow.holds Tryd.pinned (OpenSpec.ofChange aggSumsSpec)

/-- ITS FALSE NEIGHBOUR: 'it returns false'. Refute it at one input. -/
def aggSumsWrong : ChangeSpec := { name := "aggSums", fn := fun _ => fun
  | [d1, d2, d3] => { results := [.lit (.bool false)], args := [d1, d2, d3] }
  | _ => none }
def AggSumsWrongFalsely : Prop := aggSumsRow.holds Tryd.pinned (OpenSpec.ofChange aggSumsWrong)

/-- 'rabbetlaw24.AggOver': WHATEVER THE INPUT: true; the input reads as it did. -/
def aggOverSpec : ChangeSpec := { name := "aggOver", fn := fun _ => fun
  | [d1, d2, d3, d4, d5] => { results := [.lit (.bool true)], args := [d1, d2, d3, d4, d5] }
  | _ => none }
def aggOverRow : OpenClaim := { program := "ytlhijlnhjnceoaadoor", sum := "9a9c393a2be1343d3fd7f658189a824cdf0883e77290ffc493148d09cc181f66", func := "rabbet/rabbetlaw24.AggOver", spec := "aggOver", inPlace := ["internal/bytealg.abigen_runtime_cmpstring", "math/bits.Add64", "internal/reflectlite.TypeOf"], unfollowed := true, recurses := true, named := ["rabbet/agg.errArg", "rabbet/agg.errType", "rabbet/agg.errOver"], apart := false, laid := [("rabbet/agg.errArg", laid_rabbet_agg_errArg), ("rabbet/agg.errType", laid_rabbet_agg_errType), ("rabbet/agg.errOver", laid_rabbet_agg_errOver)] }
def AggOverSaid : Prop := aggOverRow.holds Tryd.pinned (OpenSpec.ofChange aggOverSpec)

/-- ITS FALSE NEIGHBOUR: 'it returns false'. Refute it at one input. -/
def aggOverWrong : ChangeSpec := { name := "aggOver", fn := fun _ => fun
  | [d1, d2, d3, d4, d5] => { results := [.lit (.bool false)], args := [d1, d2, d3, d4, d5] }
  | _ => none }
def AggOverWrongFalsely : Prop := aggOverRow.holds Tryd.pinned (OpenSpec.ofChange aggOverWrong)

/-- 'rabbetlaw24.AggForms': WHATEVER THE INPUT: true; the input reads as it did. -/
def aggFormsSpec : ChangeSpec := { name := "aggForms", fn := fun _ => fun
  | [] => { results := [.lit (.bool true)], args := [] }
  | _ => none }
def aggFormsRow : OpenClaim := { program := "ytlhijlnhjnceoaadoor", sum := "9a9c393a2be1343d3fd7f658189a824cdf0883e77290ffc493148d09cc181f66", func := "rabbet/rabbetlaw24.AggForms", spec := "aggForms", inPlace := ["internal/bytealg.abigen_runtime_cmpstring", "math/bits.Add64", "internal/reflectlite.TypeOf"], unfollowed := true, recurses := true, named := ["rabbet/agg.errArg", "rabbet/agg.errType", "rabbet/agg.errOver"], apart := false, laid := [("rabbet/agg.errArg", laid_rabbet_agg_errArg), ("rabbet/agg.errType", laid_rabbet_agg_errType), ("rabbet/agg.errOver", laid_rabbet_agg_errOver)] }
def AggFormsSaid : Prop := aggFormsRow.holds Tryd.pinned (OpenSpec.ofChange aggFormsSpec)

/-- ITS FALSE NEIGHBOUR: 'it returns false'. Refute it at one input. -/
def aggFormsWrong : ChangeSpec := { name := "aggForms", fn := fun _ => fun
  | [] => { results := [.lit (.bool false)], args := [] }
  | _ => none }
def AggFormsWrongFalsely : Prop := aggFormsRow.holds Tryd.pinned (OpenSpec.ofChange aggFormsWrong)

/- THE SECOND FORM. 'bulk': how many values and letters a reading holds, each counted each time it is reached (what is shared counts as often as it is met; a slice's spare places count too). A statement '..UptoSaid' is the law's where the arguments, and the package variables that the reading takes, are together of bulk at most 1048576: NARROWER than '..Said'. Prove '..Said' where nothing that the law and all that it calls make is longer than what came in: it says more and counts as full. Else prove '..UptoSaid'. A law counts once. -/
mutual
def uptoBulk {H : Type} : DataW H → Nat
  | .lit (.string bytes) => bytes.length + 1
  | .lit _ => 1
  | .nil => 1
  | .ptr d => uptoBulk d + 1
  | .slice elems spare => uptoBulkAll elems + uptoBulkAll spare + 1
  | .agg parts => uptoBulkAll parts + 1
  | .iface _ d => uptoBulk d + 1
  | .map entries => uptoBulkEntries entries + 1
  | .held _ => 1
def uptoBulkAll {H : Type} : List (DataW H) → Nat
  | [] => 0
  | d :: r => uptoBulk d + uptoBulkAll r
def uptoBulkEntries {H : Type} : List (Lit × DataW H) → Nat
  | [] => 0
  | x :: r => uptoBulkEntry x + uptoBulkEntries r
def uptoBulkEntry {H : Type} : Lit × DataW H → Nat
  | (.string bytes, d) => bytes.length + uptoBulk d + 1
  | (_, d) => uptoBulk d + 1
 end
def uptoSmall : (H : Type) → List (DataW H) → Bool := fun _ ds => decide (uptoBulkAll ds ≤ 1048576)
def OpenSpec.upto (s : _root_.Go.ChangeSpec) : _root_.Go.OpenSpec := { _root_.Go.OpenSpec.ofChange s with cond := some uptoSmall }

/-- 'rabbetlaw24.AggAll', WHERE WHAT IT READS IS OF BULK AT MOST 1048576: true; the input reads as it did. -/
def aggAllUptoRow : OpenClaim := { program := "ytlhijlnhjnceoaadoor", sum := "9a9c393a2be1343d3fd7f658189a824cdf0883e77290ffc493148d09cc181f66", func := "rabbet/rabbetlaw24.AggAll", spec := "aggAll", inPlace := ["internal/bytealg.abigen_runtime_cmpstring", "math/bits.Add64", "internal/reflectlite.TypeOf"], unfollowed := true, recurses := true, named := ["rabbet/agg.errArg", "rabbet/agg.errType", "rabbet/agg.errOver"], apart := false, laid := [("rabbet/agg.errArg", laid_rabbet_agg_errArg), ("rabbet/agg.errType", laid_rabbet_agg_errType), ("rabbet/agg.errOver", laid_rabbet_agg_errOver)], narrowed := true }
def AggAllUptoSaid : Prop := aggAllUptoRow.holds Tryd.pinned (OpenSpec.upto aggAllSpec)

/-- 'rabbetlaw24.AggSums', WHERE WHAT IT READS IS OF BULK AT MOST 1048576: true; the input reads as it did. -/
def aggSumsUptoRow : OpenClaim := { program := "ytlhijlnhjnceoaadoor", sum := "9a9c393a2be1343d3fd7f658189a824cdf0883e77290ffc493148d09cc181f66", func := "rabbet/rabbetlaw24.AggSums", spec := "aggSums", inPlace := ["internal/bytealg.abigen_runtime_cmpstring", "math/bits.Add64", "internal/reflectlite.TypeOf"], unfollowed := true, recurses := true, named := ["rabbet/agg.errArg", "rabbet/agg.errType", "rabbet/agg.errOver"], apart := false, laid := [("rabbet/agg.errArg", laid_rabbet_agg_errArg), ("rabbet/agg.errType", laid_rabbet_agg_errType), ("rabbet/agg.errOver", laid_rabbet_agg_errOver)], narrowed := true }
def AggSumsUptoSaid : Prop := aggSumsUptoRow.holds Tryd.pinned (OpenSpec.upto aggSumsSpec)

/-- 'rabbetlaw24.AggOver', WHERE WHAT IT READS IS OF BULK AT MOST 1048576: true; the input reads as it did. -/
def aggOverUptoRow : OpenClaim := { program := "ytlhijlnhjnceoaadoor", sum := "9a9c393a2be1343d3fd7f658189a824cdf0883e77290ffc493148d09cc181f66", func := "rabbet/rabbetlaw24.AggOver", spec := "aggOver", inPlace := ["internal/bytealg.abigen_runtime_cmpstring", "math/bits.Add64", "internal/reflectlite.TypeOf"], unfollowed := true, recurses := true, named := ["rabbet/agg.errArg", "rabbet/agg.errType", "rabbet/agg.errOver"], apart := false, laid := [("rabbet/agg.errArg", laid_rabbet_agg_errArg), ("rabbet/agg.errType", laid_rabbet_agg_errType), ("rabbet/agg.errOver", laid_rabbet_agg_errOver)], narrowed := true }
def AggOverUptoSaid : Prop := aggOverUptoRow.holds Tryd.pinned (OpenSpec.upto aggOverSpec)

/-- 'rabbetlaw24.AggForms', WHERE WHAT IT READS IS OF BULK AT MOST 1048576: true; the input reads as it did. -/
def aggFormsUptoRow : OpenClaim := { program := "ytlhijlnhjnceoaadoor", sum := "9a9c393a2be1343d3fd7f658189a824cdf0883e77290ffc493148d09cc181f66", func := "rabbet/rabbetlaw24.AggForms", spec := "aggForms", inPlace := ["internal/bytealg.abigen_runtime_cmpstring", "math/bits.Add64", "internal/reflectlite.TypeOf"], unfollowed := true, recurses := true, named := ["rabbet/agg.errArg", "rabbet/agg.errType", "rabbet/agg.errOver"], apart := false, laid := [("rabbet/agg.errArg", laid_rabbet_agg_errArg), ("rabbet/agg.errType", laid_rabbet_agg_errType), ("rabbet/agg.errOver", laid_rabbet_agg_errOver)], narrowed := true }
def AggFormsUptoSaid : Prop := aggFormsUptoRow.holds Tryd.pinned (OpenSpec.upto aggFormsSpec)

end Rows
end Go.Proofs.YtlhijlnhjnceoaaDoor
