/-
  NARROWER THAN 'FOR EVERY INPUT', by the rows' own cells (each row's printed sentence says how): BatchAll: laid · BatchSets: laid · BatchLaws: laid · BatchBag: laid · BatchTurns: laid.
  DERIVED. THE GIVEN ROWS OF THIS SEAT. 5 by the template 'for every input the law returns true; each argument reads behind the call as it read before'; 0 by the template 'total and deterministic' (their statements: YtbamopkfooahgaaDoorTotals.lean).
  GIVEN WITH THE SEED: the statements are not yours to turn. If you find one false, say at which input.
  Laid BY PROGRAM, IN A SANDBOX (cutbox-rows.mjs): the forced cells as the released guide's own fill.sh prints them over the translation 50230106770fcdb6… (all of the seat's roots in one cut). By AI agents, Wed Nov 11 2026. No macro, syntax, notation, axiom, sorry.
-/
import Derived.Test.YtbamopkfooahgaaDoorChecked
import GoSem.Claim
import GoSem.ClaimJoined
import GoSem.ClaimMapViews
import Derived.JoinedTies
import Derived.KernelRfl
namespace Go.Proofs.YtbamopkfooahgaaDoor
/- THE CELL 'sum', in the pinned program and in every row, IS THE sha256 OF THE DUMP (.gsa) THAT YtbamopkfooahgaaDoorProg.lean LOADS. Nothing in Lean hashes anything: it is a label: what it is worth is what the hold of that sum in a sandbox is worth. -/
noncomputable def Tryd.pinned : Pinned := { name := "ytbamopkfooahgaadoor", sum := "50230106770fcdb6e19ed925448d0b4122f197523708ccb34ca0b78d9b298557", checked := Tryd.checked }
namespace Rows
def none {H : Type} : Left H := { results := [], args := [] }

/- WHAT THE LISTED PACKAGE-LEVEL VARIABLES READ AS WHEN THE CALL BEGINS. Each datum BY PROGRAM (the guide's laid-datum.mjs) off the statement by which the dump's own 'gosem.cut.vars' lays the variable. In a bare row this is a premise. The card (YtbamopkfooahgaaDoorCards.lean) ties it to the program's text. -/
def laid_errors_errorType {H : Type} : DataW H := .iface "internal/reflectlite.rtype" (.agg [.ptr (.lit (.string [101, 114, 114, 111, 114]))])

/-- 'rabbetlaw12.BatchAll': WHATEVER THE INPUT: true; the input reads as it did. -/
def batchAllSpec : ChangeSpec := { name := "batchAll", fn := fun _ => fun
  | [d1, d2, d3, d4, d5] => { results := [.lit (.bool true)], args := [d1, d2, d3, d4, d5] }
  | _ => none }
def batchAllRow : OpenClaim := { program := "ytbamopkfooahgaadoor", sum := "50230106770fcdb6e19ed925448d0b4122f197523708ccb34ca0b78d9b298557", func := "rabbet/rabbetlaw12.BatchAll", spec := "batchAll", inPlace := ["internal/reflectlite.ValueOf", "(internal/reflectlite.Value).Type", "(internal/reflectlite.Value).IsNil", "internal/reflectlite.TypeOf", "(internal/reflectlite.Value).Elem", "(internal/reflectlite.Value).Set"], unfollowed := true, recurses := true, named := ["errors.errorType"], apart := false, laid := [("errors.errorType", laid_errors_errorType)] }
def BatchAllSaid : Prop := batchAllRow.holds Tryd.pinned (OpenSpec.ofChange batchAllSpec)

/-- ITS FALSE NEIGHBOUR: 'it returns false'. Refute it at one input. -/
def batchAllWrong : ChangeSpec := { name := "batchAll", fn := fun _ => fun
  | [d1, d2, d3, d4, d5] => { results := [.lit (.bool false)], args := [d1, d2, d3, d4, d5] }
  | _ => none }
def BatchAllWrongFalsely : Prop := batchAllRow.holds Tryd.pinned (OpenSpec.ofChange batchAllWrong)

/-- 'rabbetlaw12.BatchSets': WHATEVER THE INPUT: true; the input reads as it did. -/
def batchSetsSpec : ChangeSpec := { name := "batchSets", fn := fun _ => fun
  | [d1, d2, d3] => { results := [.lit (.bool true)], args := [d1, d2, d3] }
  | _ => none }
def batchSetsRow : OpenClaim := { program := "ytbamopkfooahgaadoor", sum := "50230106770fcdb6e19ed925448d0b4122f197523708ccb34ca0b78d9b298557", func := "rabbet/rabbetlaw12.BatchSets", spec := "batchSets", inPlace := ["internal/reflectlite.ValueOf", "(internal/reflectlite.Value).Type", "(internal/reflectlite.Value).IsNil", "internal/reflectlite.TypeOf", "(internal/reflectlite.Value).Elem", "(internal/reflectlite.Value).Set"], unfollowed := true, recurses := true, named := ["errors.errorType"], apart := false, laid := [("errors.errorType", laid_errors_errorType)] }
def BatchSetsSaid : Prop := batchSetsRow.holds Tryd.pinned (OpenSpec.ofChange batchSetsSpec)

/-- ITS FALSE NEIGHBOUR: 'it returns false'. Refute it at one input. -/
def batchSetsWrong : ChangeSpec := { name := "batchSets", fn := fun _ => fun
  | [d1, d2, d3] => { results := [.lit (.bool false)], args := [d1, d2, d3] }
  | _ => none }
def BatchSetsWrongFalsely : Prop := batchSetsRow.holds Tryd.pinned (OpenSpec.ofChange batchSetsWrong)

/-- 'rabbetlaw12.BatchLaws': WHATEVER THE INPUT: true; the input reads as it did. -/
def batchLawsSpec : ChangeSpec := { name := "batchLaws", fn := fun _ => fun
  | [d1, d2] => { results := [.lit (.bool true)], args := [d1, d2] }
  | _ => none }
def batchLawsRow : OpenClaim := { program := "ytbamopkfooahgaadoor", sum := "50230106770fcdb6e19ed925448d0b4122f197523708ccb34ca0b78d9b298557", func := "rabbet/rabbetlaw12.BatchLaws", spec := "batchLaws", inPlace := ["internal/reflectlite.ValueOf", "(internal/reflectlite.Value).Type", "(internal/reflectlite.Value).IsNil", "internal/reflectlite.TypeOf", "(internal/reflectlite.Value).Elem", "(internal/reflectlite.Value).Set"], unfollowed := true, recurses := true, named := ["errors.errorType"], apart := false, laid := [("errors.errorType", laid_errors_errorType)] }
def BatchLawsSaid : Prop := batchLawsRow.holds Tryd.pinned (OpenSpec.ofChange batchLawsSpec)

/-- ITS FALSE NEIGHBOUR: 'it returns false'. Refute it at one input. -/
def batchLawsWrong : ChangeSpec := { name := "batchLaws", fn := fun _ => fun
  | [d1, d2] => { results := [.lit (.bool false)], args := [d1, d2] }
  | _ => none }
def BatchLawsWrongFalsely : Prop := batchLawsRow.holds Tryd.pinned (OpenSpec.ofChange batchLawsWrong)

/-- 'rabbetlaw12.BatchBag': WHATEVER THE INPUT: true; the input reads as it did. -/
def batchBagSpec : ChangeSpec := { name := "batchBag", fn := fun _ => fun
  | [d1, d2, d3] => { results := [.lit (.bool true)], args := [d1, d2, d3] }
  | _ => none }
def batchBagRow : OpenClaim := { program := "ytbamopkfooahgaadoor", sum := "50230106770fcdb6e19ed925448d0b4122f197523708ccb34ca0b78d9b298557", func := "rabbet/rabbetlaw12.BatchBag", spec := "batchBag", inPlace := ["internal/reflectlite.ValueOf", "(internal/reflectlite.Value).Type", "(internal/reflectlite.Value).IsNil", "internal/reflectlite.TypeOf", "(internal/reflectlite.Value).Elem", "(internal/reflectlite.Value).Set"], unfollowed := true, recurses := true, named := ["errors.errorType"], apart := false, laid := [("errors.errorType", laid_errors_errorType)] }
def BatchBagSaid : Prop := batchBagRow.holds Tryd.pinned (OpenSpec.ofChange batchBagSpec)

/-- ITS FALSE NEIGHBOUR: 'it returns false'. Refute it at one input. -/
def batchBagWrong : ChangeSpec := { name := "batchBag", fn := fun _ => fun
  | [d1, d2, d3] => { results := [.lit (.bool false)], args := [d1, d2, d3] }
  | _ => none }
def BatchBagWrongFalsely : Prop := batchBagRow.holds Tryd.pinned (OpenSpec.ofChange batchBagWrong)

/-- 'rabbetlaw12.BatchTurns': WHATEVER THE INPUT: true; the input reads as it did. -/
def batchTurnsSpec : ChangeSpec := { name := "batchTurns", fn := fun _ => fun
  | [d1, d2] => { results := [.lit (.bool true)], args := [d1, d2] }
  | _ => none }
def batchTurnsRow : OpenClaim := { program := "ytbamopkfooahgaadoor", sum := "50230106770fcdb6e19ed925448d0b4122f197523708ccb34ca0b78d9b298557", func := "rabbet/rabbetlaw12.BatchTurns", spec := "batchTurns", inPlace := ["internal/reflectlite.ValueOf", "(internal/reflectlite.Value).Type", "(internal/reflectlite.Value).IsNil", "internal/reflectlite.TypeOf", "(internal/reflectlite.Value).Elem", "(internal/reflectlite.Value).Set"], unfollowed := true, recurses := true, named := ["errors.errorType"], apart := false, laid := [("errors.errorType", laid_errors_errorType)] }
def BatchTurnsSaid : Prop := batchTurnsRow.holds Tryd.pinned (OpenSpec.ofChange batchTurnsSpec)

/-- ITS FALSE NEIGHBOUR: 'it returns false'. Refute it at one input. -/
def batchTurnsWrong : ChangeSpec := { name := "batchTurns", fn := fun _ => fun
  | [d1, d2] => { results := [.lit (.bool false)], args := [d1, d2] }
  | _ => none }
def BatchTurnsWrongFalsely : Prop := batchTurnsRow.holds Tryd.pinned (OpenSpec.ofChange batchTurnsWrong)

/- THE SECOND FORM. 'bulk': how many values and letters a reading holds, each counted each time it is reached (what is shared counts as often as it is met; a slice's spare places count too). A statement '..UptoSaid' is the law's where the arguments, and the package variables that the reading takes, are together of bulk at most 1048576: NARROWER than '..Said'. Prove '..Said' where nothing that the law and all that it calls make is longer than what came in: it says more and counts as full. Else prove '..UptoSaid'. A law counts once. -/
mutual
def uptoBulk {H : Type} : DataW H → Nat
  | .lit (.string bytes) => bytes.length + 1
  | .lit _ => 1
  | .nil => 1
  | .ptr d => uptoBulk d + 1
  | .slice elems spare => uptoBulkAll elems + uptoBulkAll spare + 1
  | .agg parts => uptoBulkAll parts + 1
  | .iface _ d => uptoBulk d + 1
  | .map entries => uptoBulkEntries entries + 1
  | .held _ => 1
def uptoBulkAll {H : Type} : List (DataW H) → Nat
  | [] => 0
  | d :: r => uptoBulk d + uptoBulkAll r
def uptoBulkEntries {H : Type} : List (Lit × DataW H) → Nat
  | [] => 0
  | x :: r => uptoBulkEntry x + uptoBulkEntries r
def uptoBulkEntry {H : Type} : Lit × DataW H → Nat
  | (.string bytes, d) => bytes.length + uptoBulk d + 1
  | (_, d) => uptoBulk d + 1
 end
def uptoSmall : (H : Type) → List (DataW H) → Bool := fun _ ds => decide (uptoBulkAll ds ≤ 1048576)
def OpenSpec.upto (s : _root_.Go.ChangeSpec) : _root_.Go.OpenSpec := { _root_.Go.OpenSpec.ofChange s with cond := some uptoSmall }

/-- 'rabbetlaw12.BatchAll', WHERE WHAT IT READS IS OF BULK AT MOST 1048576: true; the input reads as it did. -/
def batchAllUptoRow : OpenClaim := { program := "ytbamopkfooahgaadoor", sum := "50230106770fcdb6e19ed925448d0b4122f197523708ccb34ca0b78d9b298557", func := "rabbet/rabbetlaw12.BatchAll", spec := "batchAll", inPlace := ["internal/reflectlite.ValueOf", "(internal/reflectlite.Value).Type", "(internal/reflectlite.Value).IsNil", "internal/reflectlite.TypeOf", "(internal/reflectlite.Value).Elem", "(internal/reflectlite.Value).Set"], unfollowed := true, recurses := true, named := ["errors.errorType"], apart := false, laid := [("errors.errorType", laid_errors_errorType)], narrowed := true }
def BatchAllUptoSaid : Prop := batchAllUptoRow.holds Tryd.pinned (OpenSpec.upto batchAllSpec)

/-- 'rabbetlaw12.BatchSets', WHERE WHAT IT READS IS OF BULK AT MOST 1048576: true; the input reads as it did. -/
def batchSetsUptoRow : OpenClaim := { program := "ytbamopkfooahgaadoor", sum := "50230106770fcdb6e19ed925448d0b4122f197523708ccb34ca0b78d9b298557", func := "rabbet/rabbetlaw12.BatchSets", spec := "batchSets", inPlace := ["internal/reflectlite.ValueOf", "(internal/reflectlite.Value).Type", "(internal/reflectlite.Value).IsNil", "internal/reflectlite.TypeOf", "(internal/reflectlite.Value).Elem", "(internal/reflectlite.Value).Set"], unfollowed := true, recurses := true, named := ["errors.errorType"], apart := false, laid := [("errors.errorType", laid_errors_errorType)], narrowed := true }
def BatchSetsUptoSaid : Prop := batchSetsUptoRow.holds Tryd.pinned (OpenSpec.upto batchSetsSpec)

/-- 'rabbetlaw12.BatchLaws', WHERE WHAT IT READS IS OF BULK AT MOST 1048576: true; the input reads as it did. -/
def batchLawsUptoRow : OpenClaim := { program := "ytbamopkfooahgaadoor", sum := "50230106770fcdb6e19ed925448d0b4122f197523708ccb34ca0b78d9b298557", func := "rabbet/rabbetlaw12.BatchLaws", spec := "batchLaws", inPlace := ["internal/reflectlite.ValueOf", "(internal/reflectlite.Value).Type", "(internal/reflectlite.Value).IsNil", "internal/reflectlite.TypeOf", "(internal/reflectlite.Value).Elem", "(internal/reflectlite.Value).Set"], unfollowed := true, recurses := true, named := ["errors.errorType"], apart := false, laid := [("errors.errorType", laid_errors_errorType)], narrowed := true }
def BatchLawsUptoSaid : Prop := batchLawsUptoRow.holds Tryd.pinned (OpenSpec.upto batchLawsSpec)

/-- 'rabbetlaw12.BatchBag', WHERE WHAT IT READS IS OF BULK AT MOST 1048576: true; the input reads as it did. -/
def batchBagUptoRow : OpenClaim := { program := "ytbamopkfooahgaadoor", sum := "50230106770fcdb6e19ed925448d0b4122f197523708ccb34ca0b78d9b298557", func := "rabbet/rabbetlaw12.BatchBag", spec := "batchBag", inPlace := ["internal/reflectlite.ValueOf", "(internal/reflectlite.Value).Type", "(internal/reflectlite.Value).IsNil", "internal/reflectlite.TypeOf", "(internal/reflectlite.Value).Elem", "(internal/reflectlite.Value).Set"], unfollowed := true, recurses := true, named := ["errors.errorType"], apart := false, laid := [("errors.errorType", laid_errors_errorType)], narrowed := true }
def BatchBagUptoSaid : Prop := batchBagUptoRow.holds Tryd.pinned (OpenSpec.upto batchBagSpec)

/-- 'rabbetlaw12.BatchTurns', WHERE WHAT IT READS IS OF BULK AT MOST 1048576: true; the input reads as it did. -/
def batchTurnsUptoRow : OpenClaim := { program := "ytbamopkfooahgaadoor", sum := "50230106770fcdb6e19ed925448d0b4122f197523708ccb34ca0b78d9b298557", func := "rabbet/rabbetlaw12.BatchTurns", spec := "batchTurns", inPlace := ["internal/reflectlite.ValueOf", "(internal/reflectlite.Value).Type", "(internal/reflectlite.Value).IsNil", "internal/reflectlite.TypeOf", "(internal/reflectlite.Value).Elem", "(internal/reflectlite.Value).Set"], unfollowed := true, recurses := true, named := ["errors.errorType"], apart := false, laid := [("errors.errorType", laid_errors_errorType)], narrowed := true }
def BatchTurnsUptoSaid : Prop := batchTurnsUptoRow.holds Tryd.pinned (OpenSpec.upto batchTurnsSpec)

end Rows
end Go.Proofs.YtbamopkfooahgaaDoor
