/-
  NARROWER THAN 'FOR EVERY INPUT', by the rows' own cells (each row's printed sentence says how): ExecAll: laid · ExecBatches: laid · ExecLimit: laid · ExecForms: laid · ExecNames: laid.
  DERIVED. THE GIVEN ROWS OF THIS SEAT. 5 by the template 'for every input the law returns true; each argument reads behind the call as it read before'; 0 by the template 'total and deterministic' (their statements: YtnmecckkoiccfaaGreatDoorTotals.lean).
  GIVEN WITH THE SEED: the statements are not yours to turn. If you find one false, say at which input.
  Laid BY PROGRAM, IN A SANDBOX (cutbox-rows.mjs): the forced cells as the released guide's own fill.sh prints them over the translation 409e5f788a818928… (all of the seat's roots in one cut). By AI agents, Wed Nov 11 2026. No macro, syntax, notation, axiom, sorry.
-/
import Derived.Test.YtnmecckkoiccfaaGreatDoorChecked
import GoSem.Claim
import GoSem.ClaimJoined
import GoSem.ClaimMapViews
import Derived.JoinedTies
import Derived.KernelRfl
namespace Go.Proofs.YtnmecckkoiccfaaGreatDoor
/- THE CELL 'sum', in the pinned program and in every row, IS THE sha256 OF THE DUMP (.gsa) THAT YtnmecckkoiccfaaGreatDoorProg.lean LOADS. Nothing in Lean hashes anything: it is a label: what it is worth is what the hold of that sum in a sandbox is worth. -/
noncomputable def Tryz.pinned : Pinned := { name := "ytnmecckkoiccfaagreatdoor", sum := "409e5f788a818928e6bab03219e1b1d4a4f1a3a488da8a15afdb0ed4c7ea5c8c", checked := Tryz.checked }
namespace Rows
def none {H : Type} : Left H := { results := [], args := [] }

/- WHAT THE LISTED PACKAGE-LEVEL VARIABLES READ AS WHEN THE CALL BEGINS. Each datum BY PROGRAM (the guide's laid-datum.mjs) off the statement by which the dump's own 'gosem.cut.vars' lays the variable. In a bare row this is a premise. The card (YtnmecckkoiccfaaGreatDoorCards.lean) ties it to the program's text. -/
def laid_errors_errorType {H : Type} : DataW H := .iface "internal/reflectlite.rtype" (.agg [.ptr (.lit (.string [101, 114, 114, 111, 114]))])
def laid_rabbet_agg_errArg {H : Type} : DataW H := .iface "*errors.errorString" (.ptr (.agg [.lit (.string [119, 104, 97, 116, 32, 109, 97, 121, 32, 110, 111, 116, 32, 98, 101])]))
def laid_rabbet_agg_errType {H : Type} : DataW H := .iface "*errors.errorString" (.ptr (.agg [.lit (.string [111, 102, 32, 97, 110, 111, 116, 104, 101, 114, 32, 116, 121, 112, 101])]))
def laid_rabbet_agg_errOver {H : Type} : DataW H := .iface "*errors.errorString" (.ptr (.agg [.lit (.string [98, 101, 121, 111, 110, 100, 32, 105, 116, 115, 32, 110, 117, 109, 98, 101, 114, 115])]))

/-- 'rabbetlaw25.ExecAll': WHATEVER THE INPUT: true; the input reads as it did. -/
def execAllSpec : ChangeSpec := { name := "execAll", fn := fun _ => fun
  | [d1, d2, d3, d4] => { results := [.lit (.bool true)], args := [d1, d2, d3, d4] }
  | _ => none }
def execAllRow : OpenClaim := { program := "ytnmecckkoiccfaagreatdoor", sum := "409e5f788a818928e6bab03219e1b1d4a4f1a3a488da8a15afdb0ed4c7ea5c8c", func := "rabbet/rabbetlaw25.ExecAll", spec := "execAll", inPlace := ["internal/bytealg.abigen_runtime_cmpstring", "math/bits.Add64", "internal/reflectlite.TypeOf", "internal/reflectlite.ValueOf", "(internal/reflectlite.Value).Type", "(internal/reflectlite.Value).IsNil", "(internal/reflectlite.Value).Elem", "(internal/reflectlite.Value).Set"], unfollowed := true, recurses := true, named := ["rabbet/agg.errArg", "rabbet/agg.errType", "rabbet/agg.errOver", "errors.errorType"], apart := false, laid := [("errors.errorType", laid_errors_errorType), ("rabbet/agg.errArg", laid_rabbet_agg_errArg), ("rabbet/agg.errType", laid_rabbet_agg_errType), ("rabbet/agg.errOver", laid_rabbet_agg_errOver)] }
def ExecAllSaid : Prop := execAllRow.holds Tryz.pinned (OpenSpec.ofChange execAllSpec)

/-- ITS FALSE NEIGHBOUR: 'it returns false'. Refute it at one input. -/
def execAllWrong : ChangeSpec := { name := "execAll", fn := fun _ => fun
  | [d1, d2, d3, d4] => { results := [.lit (.bool false)], args := [d1, d2, d3, d4] }
  | _ => none }
def ExecAllWrongFalsely : Prop := execAllRow.holds Tryz.pinned (OpenSpec.ofChange execAllWrong)

/-- 'rabbetlaw25.ExecBatches': WHATEVER THE INPUT: true; the input reads as it did. -/
def execBatchesSpec : ChangeSpec := { name := "execBatches", fn := fun _ => fun
  | [d1, d2, d3, d4] => { results := [.lit (.bool true)], args := [d1, d2, d3, d4] }
  | _ => none }
def execBatchesRow : OpenClaim := { program := "ytnmecckkoiccfaagreatdoor", sum := "409e5f788a818928e6bab03219e1b1d4a4f1a3a488da8a15afdb0ed4c7ea5c8c", func := "rabbet/rabbetlaw25.ExecBatches", spec := "execBatches", inPlace := ["internal/bytealg.abigen_runtime_cmpstring", "math/bits.Add64", "internal/reflectlite.TypeOf", "internal/reflectlite.ValueOf", "(internal/reflectlite.Value).Type", "(internal/reflectlite.Value).IsNil", "(internal/reflectlite.Value).Elem", "(internal/reflectlite.Value).Set"], unfollowed := true, recurses := true, named := ["rabbet/agg.errArg", "rabbet/agg.errType", "rabbet/agg.errOver", "errors.errorType"], apart := false, laid := [("errors.errorType", laid_errors_errorType), ("rabbet/agg.errArg", laid_rabbet_agg_errArg), ("rabbet/agg.errType", laid_rabbet_agg_errType), ("rabbet/agg.errOver", laid_rabbet_agg_errOver)] }
def ExecBatchesSaid : Prop := execBatchesRow.holds Tryz.pinned (OpenSpec.ofChange execBatchesSpec)

/-- ITS FALSE NEIGHBOUR: 'it returns false'. Refute it at one input. -/
def execBatchesWrong : ChangeSpec := { name := "execBatches", fn := fun _ => fun
  | [d1, d2, d3, d4] => { results := [.lit (.bool false)], args := [d1, d2, d3, d4] }
  | _ => none }
def ExecBatchesWrongFalsely : Prop := execBatchesRow.holds Tryz.pinned (OpenSpec.ofChange execBatchesWrong)

/-- 'rabbetlaw25.ExecLimit': WHATEVER THE INPUT: true; the input reads as it did. -/
def execLimitSpec : ChangeSpec := { name := "execLimit", fn := fun _ => fun
  | [d1, d2, d3] => { results := [.lit (.bool true)], args := [d1, d2, d3] }
  | _ => none }
def execLimitRow : OpenClaim := { program := "ytnmecckkoiccfaagreatdoor", sum := "409e5f788a818928e6bab03219e1b1d4a4f1a3a488da8a15afdb0ed4c7ea5c8c", func := "rabbet/rabbetlaw25.ExecLimit", spec := "execLimit", inPlace := ["internal/bytealg.abigen_runtime_cmpstring", "math/bits.Add64", "internal/reflectlite.TypeOf", "internal/reflectlite.ValueOf", "(internal/reflectlite.Value).Type", "(internal/reflectlite.Value).IsNil", "(internal/reflectlite.Value).Elem", "(internal/reflectlite.Value).Set"], unfollowed := true, recurses := true, named := ["rabbet/agg.errArg", "rabbet/agg.errType", "rabbet/agg.errOver", "errors.errorType"], apart := false, laid := [("errors.errorType", laid_errors_errorType), ("rabbet/agg.errArg", laid_rabbet_agg_errArg), ("rabbet/agg.errType", laid_rabbet_agg_errType), ("rabbet/agg.errOver", laid_rabbet_agg_errOver)] }
def ExecLimitSaid : Prop := execLimitRow.holds Tryz.pinned (OpenSpec.ofChange execLimitSpec)

/-- ITS FALSE NEIGHBOUR: 'it returns false'. Refute it at one input. -/
def execLimitWrong : ChangeSpec := { name := "execLimit", fn := fun _ => fun
  | [d1, d2, d3] => { results := [.lit (.bool false)], args := [d1, d2, d3] }
  | _ => none }
def ExecLimitWrongFalsely : Prop := execLimitRow.holds Tryz.pinned (OpenSpec.ofChange execLimitWrong)

/-- 'rabbetlaw25.ExecForms': WHATEVER THE INPUT: true; the input reads as it did. -/
def execFormsSpec : ChangeSpec := { name := "execForms", fn := fun _ => fun
  | [] => { results := [.lit (.bool true)], args := [] }
  | _ => none }
def execFormsRow : OpenClaim := { program := "ytnmecckkoiccfaagreatdoor", sum := "409e5f788a818928e6bab03219e1b1d4a4f1a3a488da8a15afdb0ed4c7ea5c8c", func := "rabbet/rabbetlaw25.ExecForms", spec := "execForms", inPlace := ["internal/bytealg.abigen_runtime_cmpstring", "math/bits.Add64", "internal/reflectlite.TypeOf", "internal/reflectlite.ValueOf", "(internal/reflectlite.Value).Type", "(internal/reflectlite.Value).IsNil", "(internal/reflectlite.Value).Elem", "(internal/reflectlite.Value).Set"], unfollowed := true, recurses := true, named := ["rabbet/agg.errArg", "rabbet/agg.errType", "rabbet/agg.errOver", "errors.errorType"], apart := false, laid := [("errors.errorType", laid_errors_errorType), ("rabbet/agg.errArg", laid_rabbet_agg_errArg), ("rabbet/agg.errType", laid_rabbet_agg_errType), ("rabbet/agg.errOver", laid_rabbet_agg_errOver)] }
def ExecFormsSaid : Prop := execFormsRow.holds Tryz.pinned (OpenSpec.ofChange execFormsSpec)

/-- ITS FALSE NEIGHBOUR: 'it returns false'. Refute it at one input. -/
def execFormsWrong : ChangeSpec := { name := "execForms", fn := fun _ => fun
  | [] => { results := [.lit (.bool false)], args := [] }
  | _ => none }
def ExecFormsWrongFalsely : Prop := execFormsRow.holds Tryz.pinned (OpenSpec.ofChange execFormsWrong)

/-- 'rabbetlaw25.ExecNames': WHATEVER THE INPUT: true; the input reads as it did. -/
def execNamesSpec : ChangeSpec := { name := "execNames", fn := fun _ => fun
  | [d1, d2] => { results := [.lit (.bool true)], args := [d1, d2] }
  | _ => none }
def execNamesRow : OpenClaim := { program := "ytnmecckkoiccfaagreatdoor", sum := "409e5f788a818928e6bab03219e1b1d4a4f1a3a488da8a15afdb0ed4c7ea5c8c", func := "rabbet/rabbetlaw25.ExecNames", spec := "execNames", inPlace := ["internal/bytealg.abigen_runtime_cmpstring", "math/bits.Add64", "internal/reflectlite.TypeOf", "internal/reflectlite.ValueOf", "(internal/reflectlite.Value).Type", "(internal/reflectlite.Value).IsNil", "(internal/reflectlite.Value).Elem", "(internal/reflectlite.Value).Set"], unfollowed := true, recurses := true, named := ["rabbet/agg.errArg", "rabbet/agg.errType", "rabbet/agg.errOver", "errors.errorType"], apart := false, laid := [("errors.errorType", laid_errors_errorType), ("rabbet/agg.errArg", laid_rabbet_agg_errArg), ("rabbet/agg.errType", laid_rabbet_agg_errType), ("rabbet/agg.errOver", laid_rabbet_agg_errOver)] }
def ExecNamesSaid : Prop := execNamesRow.holds Tryz.pinned (OpenSpec.ofChange execNamesSpec)

/-- ITS FALSE NEIGHBOUR: 'it returns false'. Refute it at one input. -/
def execNamesWrong : ChangeSpec := { name := "execNames", fn := fun _ => fun
  | [d1, d2] => { results := [.lit (.bool false)], args := [d1, d2] }
  | _ => none }
def ExecNamesWrongFalsely : Prop := execNamesRow.holds Tryz.pinned (OpenSpec.ofChange execNamesWrong)

/- THE SECOND FORM. 'bulk': how many values and letters a reading holds, each counted each time it is reached (what is shared counts as often as it is met; a slice's spare places count too). A statement '..UptoSaid' is the law's where the arguments, and the package variables that the reading takes, are together of bulk at most 1048576: NARROWER than '..Said'. Prove '..Said' where nothing that the law and all that it calls make is longer than what came in: it says more and counts as full. Else prove '..UptoSaid'. A law counts once. -/
mutual
def uptoBulk {H : Type} : DataW H → Nat
  | .lit (.string bytes) => bytes.length + 1
  | .lit _ => 1
  | .nil => 1
  | .ptr d => uptoBulk d + 1
  | .slice elems spare => uptoBulkAll elems + uptoBulkAll spare + 1
  | .agg parts => uptoBulkAll parts + 1
  | .iface _ d => uptoBulk d + 1
  | .map entries => uptoBulkEntries entries + 1
  | .held _ => 1
def uptoBulkAll {H : Type} : List (DataW H) → Nat
  | [] => 0
  | d :: r => uptoBulk d + uptoBulkAll r
def uptoBulkEntries {H : Type} : List (Lit × DataW H) → Nat
  | [] => 0
  | x :: r => uptoBulkEntry x + uptoBulkEntries r
def uptoBulkEntry {H : Type} : Lit × DataW H → Nat
  | (.string bytes, d) => bytes.length + uptoBulk d + 1
  | (_, d) => uptoBulk d + 1
 end
def uptoSmall : (H : Type) → List (DataW H) → Bool := fun _ ds => decide (uptoBulkAll ds ≤ 1048576)
def OpenSpec.upto (s : _root_.Go.ChangeSpec) : _root_.Go.OpenSpec := { _root_.Go.OpenSpec.ofChange s with cond := some uptoSmall }

/-- 'rabbetlaw25.ExecAll', WHERE WHAT IT READS IS OF BULK AT MOST 1048576: true; the input reads as it did. -/
def execAllUptoRow : OpenClaim := { program := "ytnmecckkoiccfaagreatdoor", sum := "409e5f788a818928e6bab03219e1b1d4a4f1a3a488da8a15afdb0ed4c7ea5c8c", func := "rabbet/rabbetlaw25.ExecAll", spec := "execAll", inPlace := ["internal/bytealg.abigen_runtime_cmpstring", "math/bits.Add64", "internal/reflectlite.TypeOf", "internal/reflectlite.ValueOf", "(internal/reflectlite.Value).Type", "(internal/reflectlite.Value).IsNil", "(internal/reflectlite.Value).Elem", "(internal/reflectlite.Value).Set"], unfollowed := true, recurses := true, named := ["rabbet/agg.errArg", "rabbet/agg.errType", "rabbet/agg.errOver", "errors.errorType"], apart := false, laid := [("errors.errorType", laid_errors_errorType), ("rabbet/agg.errArg", laid_rabbet_agg_errArg), ("rabbet/agg.errType", laid_rabbet_agg_errType), ("rabbet/agg.errOver", laid_rabbet_agg_errOver)], narrowed := true }
def ExecAllUptoSaid : Prop := execAllUptoRow.holds Tryz.pinned (OpenSpec.upto execAllSpec)

/-- 'rabbetlaw25.ExecBatches', WHERE WHAT IT READS IS OF BULK AT MOST 1048576: true; the input reads as it did. -/
def execBatchesUptoRow : OpenClaim := { program := "ytnmecckkoiccfaagreatdoor", sum := "409e5f788a818928e6bab03219e1b1d4a4f1a3a488da8a15afdb0ed4c7ea5c8c", func := "rabbet/rabbetlaw25.ExecBatches", spec := "execBatches", inPlace := ["internal/bytealg.abigen_runtime_cmpstring", "math/bits.Add64", "internal/reflectlite.TypeOf", "internal/reflectlite.ValueOf", "(internal/reflectlite.Value).Type", "(internal/reflectlite.Value).IsNil", "(internal/reflectlite.Value).Elem", "(internal/reflectlite.Value).Set"], unfollowed := true, recurses := true, named := ["rabbet/agg.errArg", "rabbet/agg.errType", "rabbet/agg.errOver", "errors.errorType"], apart := false, laid := [("errors.errorType", laid_errors_errorType), ("rabbet/agg.errArg", laid_rabbet_agg_errArg), ("rabbet/agg.errType", laid_rabbet_agg_errType), ("rabbet/agg.errOver", laid_rabbet_agg_errOver)], narrowed := true }
def ExecBatchesUptoSaid : Prop := execBatchesUptoRow.holds Tryz.pinned (OpenSpec.upto execBatchesSpec)

/-- 'rabbetlaw25.ExecLimit', WHERE WHAT IT READS IS OF BULK AT MOST 1048576: true; the input reads as it did. -/
def execLimitUptoRow : OpenClaim := { program := "ytnmecckkoiccfaagreatdoor", sum := "409e5f788a818928e6bab03219e1b1d4a4f1a3a488da8a15afdb0ed4c7ea5c8c", func := "rabbet/rabbetlaw25.ExecLimit", spec := "execLimit", inPlace := ["internal/bytealg.abigen_runtime_cmpstring", "math/bits.Add64", "internal/reflectlite.TypeOf", "internal/reflectlite.ValueOf", "(internal/reflectlite.Value).Type", "(internal/reflectlite.Value).IsNil", "(internal/reflectlite.Value).Elem", "(internal/reflectlite.Value).Set"], unfollowed := true, recurses := true, named := ["rabbet/agg.errArg", "rabbet/agg.errType", "rabbet/agg.errOver", "errors.errorType"], apart := false, laid := [("errors.errorType", laid_errors_errorType), ("rabbet/agg.errArg", laid_rabbet_agg_errArg), ("rabbet/agg.errType", laid_rabbet_agg_errType), ("rabbet/agg.errOver", laid_rabbet_agg_errOver)], narrowed := true }
def ExecLimitUptoSaid : Prop := execLimitUptoRow.holds Tryz.pinned (OpenSpec.upto execLimitSpec)

/-- 'rabbetlaw25.ExecForms', WHERE WHAT IT READS IS OF BULK AT MOST 1048576: true; the input reads as it did. -/
def execFormsUptoRow : OpenClaim := { program := "ytnmecckkoiccfaagreatdoor", sum := "409e5f788a818928e6bab03219e1b1d4a4f1a3a488da8a15afdb0ed4c7ea5c8c", func := "rabbet/rabbetlaw25.ExecForms", spec := "execForms", inPlace := ["internal/bytealg.abigen_runtime_cmpstring", "math/bits.Add64", "internal/reflectlite.TypeOf", "internal/reflectlite.ValueOf", "(internal/reflectlite.Value).Type", "(internal/reflectlite.Value).IsNil", "(internal/reflectlite.Value).Elem", "(internal/reflectlite.Value).Set"], unfollowed := true, recurses := true, named := ["rabbet/agg.errArg", "rabbet/agg.errType", "rabbet/agg.errOver", "errors.errorType"], apart := false, laid := [("errors.errorType", laid_errors_errorType), ("rabbet/agg.errArg", laid_rabbet_agg_errArg), ("rabbet/agg.errType", laid_rabbet_agg_errType), ("rabbet/agg.errOver", laid_rabbet_agg_errOver)], narrowed := true }
def ExecFormsUptoSaid : Prop := execFormsUptoRow.holds Tryz.pinned (OpenSpec.upto execFormsSpec)

/-- 'rabbetlaw25.ExecNames', WHERE WHAT IT READS IS OF BULK AT MOST 1048576: true; the input reads as it did. -/
def execNamesUptoRow : OpenClaim := { program := "ytnmecckkoiccfaagreatdoor", sum := "409e5f788a818928e6bab03219e1b1d4a4f1a3a488da8a15afdb0ed4c7ea5c8c", func := "rabbet/rabbetlaw25.ExecNames", spec := "execNames", inPlace := ["internal/bytealg.abigen_runtime_cmpstring", "math/bits.Add64", "internal/reflectlite.TypeOf", "internal/reflectlite.ValueOf", "(internal/reflectlite.Value).Type", "(internal/reflectlite.Value).IsNil", "(internal/reflectlite.Value).Elem", "(internal/reflectlite.Value).Set"], unfollowed := true, recurses := true, named := ["rabbet/agg.errArg", "rabbet/agg.errType", "rabbet/agg.errOver", "errors.errorType"], apart := false, laid := [("errors.errorType", laid_errors_errorType), ("rabbet/agg.errArg", laid_rabbet_agg_errArg), ("rabbet/agg.errType", laid_rabbet_agg_errType), ("rabbet/agg.errOver", laid_rabbet_agg_errOver)], narrowed := true }
def ExecNamesUptoSaid : Prop := execNamesUptoRow.holds Tryz.pinned (OpenSpec.upto execNamesSpec)

end Rows
end Go.Proofs.YtnmecckkoiccfaaGreatDoor
