/-
  NARROWER THAN 'FOR EVERY INPUT', by the rows' own cells (each row's printed sentence says how): ValueAll: laid · ValueOrder: laid · ValueBack: laid · ValueForms: laid · ValueTypes: laid.
  DERIVED. THE GIVEN ROWS OF THIS SEAT. 5 by the template 'for every input the law returns true; each argument reads behind the call as it read before'; 0 by the template 'total and deterministic' (their statements: YtbkgdkhdmchdcaaDoorTotals.lean).
  GIVEN WITH THE SEED: the statements are not yours to turn. If you find one false, say at which input.
  Laid BY PROGRAM, IN A SANDBOX (cutbox-rows.mjs): the forced cells as the released guide's own fill.sh prints them over the translation 668fde1dfcdaca9c… (all of the seat's roots in one cut). By AI agents, Wed Nov 11 2026. No macro, syntax, notation, axiom, sorry.
-/
import Derived.Test.YtbkgdkhdmchdcaaDoorChecked
import GoSem.Claim
import GoSem.ClaimJoined
import GoSem.ClaimMapViews
import Derived.JoinedTies
import Derived.KernelRfl
namespace Go.Proofs.YtbkgdkhdmchdcaaDoor
/- THE CELL 'sum', in the pinned program and in every row, IS THE sha256 OF THE DUMP (.gsa) THAT YtbkgdkhdmchdcaaDoorProg.lean LOADS. Nothing in Lean hashes anything: it is a label: what it is worth is what the hold of that sum in a sandbox is worth. -/
noncomputable def Tryd.pinned : Pinned := { name := "ytbkgdkhdmchdcaadoor", sum := "668fde1dfcdaca9c75ba7b3fe35fb2a274c5efc289497717acaf47bcfef469f1", checked := Tryd.checked }
namespace Rows
def none {H : Type} : Left H := { results := [], args := [] }

/- WHAT THE LISTED PACKAGE-LEVEL VARIABLES READ AS WHEN THE CALL BEGINS. Each datum BY PROGRAM (the guide's laid-datum.mjs) off the statement by which the dump's own 'gosem.cut.vars' lays the variable. In a bare row this is a premise. The card (YtbkgdkhdmchdcaaDoorCards.lean) ties it to the program's text. -/
def laid_rabbet_value_errShort {H : Type} : DataW H := .iface "*errors.errorString" (.ptr (.agg [.lit (.string [101, 110, 100, 115, 32, 116, 111, 111, 32, 115, 111, 111, 110])]))

/-- 'rabbetlaw1.ValueAll': WHATEVER THE INPUT: true; the input reads as it did. -/
def valueAllSpec : ChangeSpec := { name := "valueAll", fn := fun _ => fun
  | [d1, d2, d3, d4] => { results := [.lit (.bool true)], args := [d1, d2, d3, d4] }
  | _ => none }
def valueAllRow : OpenClaim := { program := "ytbkgdkhdmchdcaadoor", sum := "668fde1dfcdaca9c75ba7b3fe35fb2a274c5efc289497717acaf47bcfef469f1", func := "rabbet/rabbetlaw1.ValueAll", spec := "valueAll", inPlace := ["internal/reflectlite.TypeOf", "internal/bytealg.abigen_runtime_cmpstring"], unfollowed := true, recurses := true, named := ["rabbet/value.errShort"], apart := false, laid := [("rabbet/value.errShort", laid_rabbet_value_errShort)] }
def ValueAllSaid : Prop := valueAllRow.holds Tryd.pinned (OpenSpec.ofChange valueAllSpec)

/-- ITS FALSE NEIGHBOUR: 'it returns false'. Refute it at one input. -/
def valueAllWrong : ChangeSpec := { name := "valueAll", fn := fun _ => fun
  | [d1, d2, d3, d4] => { results := [.lit (.bool false)], args := [d1, d2, d3, d4] }
  | _ => none }
def ValueAllWrongFalsely : Prop := valueAllRow.holds Tryd.pinned (OpenSpec.ofChange valueAllWrong)

/-- 'rabbetlaw1.ValueOrder': WHATEVER THE INPUT: true; the input reads as it did. -/
def valueOrderSpec : ChangeSpec := { name := "valueOrder", fn := fun _ => fun
  | [d1, d2, d3] => { results := [.lit (.bool true)], args := [d1, d2, d3] }
  | _ => none }
def valueOrderRow : OpenClaim := { program := "ytbkgdkhdmchdcaadoor", sum := "668fde1dfcdaca9c75ba7b3fe35fb2a274c5efc289497717acaf47bcfef469f1", func := "rabbet/rabbetlaw1.ValueOrder", spec := "valueOrder", inPlace := ["internal/reflectlite.TypeOf", "internal/bytealg.abigen_runtime_cmpstring"], unfollowed := true, recurses := true, named := ["rabbet/value.errShort"], apart := false, laid := [("rabbet/value.errShort", laid_rabbet_value_errShort)] }
def ValueOrderSaid : Prop := valueOrderRow.holds Tryd.pinned (OpenSpec.ofChange valueOrderSpec)

/-- ITS FALSE NEIGHBOUR: 'it returns false'. Refute it at one input. -/
def valueOrderWrong : ChangeSpec := { name := "valueOrder", fn := fun _ => fun
  | [d1, d2, d3] => { results := [.lit (.bool false)], args := [d1, d2, d3] }
  | _ => none }
def ValueOrderWrongFalsely : Prop := valueOrderRow.holds Tryd.pinned (OpenSpec.ofChange valueOrderWrong)

/-- 'rabbetlaw1.ValueBack': WHATEVER THE INPUT: true; the input reads as it did. -/
def valueBackSpec : ChangeSpec := { name := "valueBack", fn := fun _ => fun
  | [d1, d2, d3] => { results := [.lit (.bool true)], args := [d1, d2, d3] }
  | _ => none }
def valueBackRow : OpenClaim := { program := "ytbkgdkhdmchdcaadoor", sum := "668fde1dfcdaca9c75ba7b3fe35fb2a274c5efc289497717acaf47bcfef469f1", func := "rabbet/rabbetlaw1.ValueBack", spec := "valueBack", inPlace := ["internal/reflectlite.TypeOf", "internal/bytealg.abigen_runtime_cmpstring"], unfollowed := true, recurses := true, named := ["rabbet/value.errShort"], apart := false, laid := [("rabbet/value.errShort", laid_rabbet_value_errShort)] }
def ValueBackSaid : Prop := valueBackRow.holds Tryd.pinned (OpenSpec.ofChange valueBackSpec)

/-- ITS FALSE NEIGHBOUR: 'it returns false'. Refute it at one input. -/
def valueBackWrong : ChangeSpec := { name := "valueBack", fn := fun _ => fun
  | [d1, d2, d3] => { results := [.lit (.bool false)], args := [d1, d2, d3] }
  | _ => none }
def ValueBackWrongFalsely : Prop := valueBackRow.holds Tryd.pinned (OpenSpec.ofChange valueBackWrong)

/-- 'rabbetlaw1.ValueForms': WHATEVER THE INPUT: true; the input reads as it did. -/
def valueFormsSpec : ChangeSpec := { name := "valueForms", fn := fun _ => fun
  | [] => { results := [.lit (.bool true)], args := [] }
  | _ => none }
def valueFormsRow : OpenClaim := { program := "ytbkgdkhdmchdcaadoor", sum := "668fde1dfcdaca9c75ba7b3fe35fb2a274c5efc289497717acaf47bcfef469f1", func := "rabbet/rabbetlaw1.ValueForms", spec := "valueForms", inPlace := ["internal/reflectlite.TypeOf", "internal/bytealg.abigen_runtime_cmpstring"], unfollowed := true, recurses := true, named := ["rabbet/value.errShort"], apart := false, laid := [("rabbet/value.errShort", laid_rabbet_value_errShort)] }
def ValueFormsSaid : Prop := valueFormsRow.holds Tryd.pinned (OpenSpec.ofChange valueFormsSpec)

/-- ITS FALSE NEIGHBOUR: 'it returns false'. Refute it at one input. -/
def valueFormsWrong : ChangeSpec := { name := "valueForms", fn := fun _ => fun
  | [] => { results := [.lit (.bool false)], args := [] }
  | _ => none }
def ValueFormsWrongFalsely : Prop := valueFormsRow.holds Tryd.pinned (OpenSpec.ofChange valueFormsWrong)

/-- 'rabbetlaw1.ValueTypes': WHATEVER THE INPUT: true; the input reads as it did. -/
def valueTypesSpec : ChangeSpec := { name := "valueTypes", fn := fun _ => fun
  | [d] => { results := [.lit (.bool true)], args := [d] }
  | _ => none }
def valueTypesRow : OpenClaim := { program := "ytbkgdkhdmchdcaadoor", sum := "668fde1dfcdaca9c75ba7b3fe35fb2a274c5efc289497717acaf47bcfef469f1", func := "rabbet/rabbetlaw1.ValueTypes", spec := "valueTypes", inPlace := ["internal/reflectlite.TypeOf", "internal/bytealg.abigen_runtime_cmpstring"], unfollowed := true, recurses := true, named := ["rabbet/value.errShort"], apart := false, laid := [("rabbet/value.errShort", laid_rabbet_value_errShort)] }
def ValueTypesSaid : Prop := valueTypesRow.holds Tryd.pinned (OpenSpec.ofChange valueTypesSpec)

/-- ITS FALSE NEIGHBOUR: 'it returns false'. Refute it at one input. -/
def valueTypesWrong : ChangeSpec := { name := "valueTypes", fn := fun _ => fun
  | [d] => { results := [.lit (.bool false)], args := [d] }
  | _ => none }
def ValueTypesWrongFalsely : Prop := valueTypesRow.holds Tryd.pinned (OpenSpec.ofChange valueTypesWrong)

/- THE SECOND FORM. 'bulk': how many values and letters a reading holds, each counted each time it is reached (what is shared counts as often as it is met; a slice's spare places count too). A statement '..UptoSaid' is the law's where the arguments, and the package variables that the reading takes, are together of bulk at most 1048576: NARROWER than '..Said'. Prove '..Said' where nothing that the law and all that it calls make is longer than what came in: it says more and counts as full. Else prove '..UptoSaid'. A law counts once. -/
mutual
def uptoBulk {H : Type} : DataW H → Nat
  | .lit (.string bytes) => bytes.length + 1
  | .lit _ => 1
  | .nil => 1
  | .ptr d => uptoBulk d + 1
  | .slice elems spare => uptoBulkAll elems + uptoBulkAll spare + 1
  | .agg parts => uptoBulkAll parts + 1
  | .iface _ d => uptoBulk d + 1
  | .map entries => uptoBulkEntries entries + 1
  | .held _ => 1
def uptoBulkAll {H : Type} : List (DataW H) → Nat
  | [] => 0
  | d :: r => uptoBulk d + uptoBulkAll r
def uptoBulkEntries {H : Type} : List (Lit × DataW H) → Nat
  | [] => 0
  | x :: r => uptoBulkEntry x + uptoBulkEntries r
def uptoBulkEntry {H : Type} : Lit × DataW H → Nat
  | (.string bytes, d) => bytes.length + uptoBulk d + 1
  | (_, d) => uptoBulk d + 1
 end
def uptoSmall : (H : Type) → List (DataW H) → Bool := fun _ ds => decide (uptoBulkAll ds ≤ 1048576)
def OpenSpec.upto (s : _root_.Go.ChangeSpec) : _root_.Go.OpenSpec := { _root_.Go.OpenSpec.ofChange s with cond := some uptoSmall }

/-- 'rabbetlaw1.ValueAll', WHERE WHAT IT READS IS OF BULK AT MOST 1048576: true; the input reads as it did. -/
def valueAllUptoRow : OpenClaim := { program := "ytbkgdkhdmchdcaadoor", sum := "668fde1dfcdaca9c75ba7b3fe35fb2a274c5efc289497717acaf47bcfef469f1", func := "rabbet/rabbetlaw1.ValueAll", spec := "valueAll", inPlace := ["internal/reflectlite.TypeOf", "internal/bytealg.abigen_runtime_cmpstring"], unfollowed := true, recurses := true, named := ["rabbet/value.errShort"], apart := false, laid := [("rabbet/value.errShort", laid_rabbet_value_errShort)], narrowed := true }
def ValueAllUptoSaid : Prop := valueAllUptoRow.holds Tryd.pinned (OpenSpec.upto valueAllSpec)

/-- 'rabbetlaw1.ValueOrder', WHERE WHAT IT READS IS OF BULK AT MOST 1048576: true; the input reads as it did. -/
def valueOrderUptoRow : OpenClaim := { program := "ytbkgdkhdmchdcaadoor", sum := "668fde1dfcdaca9c75ba7b3fe35fb2a274c5efc289497717acaf47bcfef469f1", func := "rabbet/rabbetlaw1.ValueOrder", spec := "valueOrder", inPlace := ["internal/reflectlite.TypeOf", "internal/bytealg.abigen_runtime_cmpstring"], unfollowed := true, recurses := true, named := ["rabbet/value.errShort"], apart := false, laid := [("rabbet/value.errShort", laid_rabbet_value_errShort)], narrowed := true }
def ValueOrderUptoSaid : Prop := valueOrderUptoRow.holds Tryd.pinned (OpenSpec.upto valueOrderSpec)

/-- 'rabbetlaw1.ValueBack', WHERE WHAT IT READS IS OF BULK AT MOST 1048576: true; the input reads as it did. -/
def valueBackUptoRow : OpenClaim := { program := "ytbkgdkhdmchdcaadoor", sum := "668fde1dfcdaca9c75ba7b3fe35fb2a274c5efc289497717acaf47bcfef469f1", func := "rabbet/rabbetlaw1.ValueBack", spec := "valueBack", inPlace := ["internal/reflectlite.TypeOf", "internal/bytealg.abigen_runtime_cmpstring"], unfollowed := true, recurses := true, named := ["rabbet/value.errShort"], apart := false, laid := [("rabbet/value.errShort", laid_rabbet_value_errShort)], narrowed := true }
def ValueBackUptoSaid : Prop := valueBackUptoRow.holds Tryd.pinned (OpenSpec.upto valueBackSpec)

/-- 'rabbetlaw1.ValueForms', WHERE WHAT IT READS IS OF BULK AT MOST 1048576: true; the input reads as it did. -/
def valueFormsUptoRow : OpenClaim := { program := "ytbkgdkhdmchdcaadoor", sum := "668fde1dfcdaca9c75ba7b3fe35fb2a274c5efc289497717acaf47bcfef469f1", func := "rabbet/rabbetlaw1.ValueForms", spec := "valueForms", inPlace := ["internal/reflectlite.TypeOf", "internal/bytealg.abigen_runtime_cmpstring"], unfollowed := true, recurses := true, named := ["rabbet/value.errShort"], apart := false, laid := [("rabbet/value.errShort", laid_rabbet_value_errShort)], narrowed := true }
def ValueFormsUptoSaid : Prop := valueFormsUptoRow.holds Tryd.pinned (OpenSpec.upto valueFormsSpec)

/-- 'rabbetlaw1.ValueTypes', WHERE WHAT IT READS IS OF BULK AT MOST 1048576: true; the input reads as it did. -/
def valueTypesUptoRow : OpenClaim := { program := "ytbkgdkhdmchdcaadoor", sum := "668fde1dfcdaca9c75ba7b3fe35fb2a274c5efc289497717acaf47bcfef469f1", func := "rabbet/rabbetlaw1.ValueTypes", spec := "valueTypes", inPlace := ["internal/reflectlite.TypeOf", "internal/bytealg.abigen_runtime_cmpstring"], unfollowed := true, recurses := true, named := ["rabbet/value.errShort"], apart := false, laid := [("rabbet/value.errShort", laid_rabbet_value_errShort)], narrowed := true }
def ValueTypesUptoSaid : Prop := valueTypesUptoRow.holds Tryd.pinned (OpenSpec.upto valueTypesSpec)

end Rows
end Go.Proofs.YtbkgdkhdmchdcaaDoor
