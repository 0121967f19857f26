/-
  NARROWER THAN 'FOR EVERY INPUT', by the rows' own cells (each row's printed sentence says how): ZoneTrue: laid · ZoneParts: laid · ZoneForms: laid.
  DERIVED. THE GIVEN ROWS OF THIS SEAT. 3 by the template 'for every input the law returns true; each argument reads behind the call as it read before'; 0 by the template 'total and deterministic' (their statements: YthdhcdknbebohaaDoorTotals.lean).
  GIVEN WITH THE SEED: the statements are not yours to turn. If you find one false, say at which input.
  Laid BY PROGRAM, IN A SANDBOX (cutbox-rows.mjs): the forced cells as the released guide's own fill.sh prints them over the translation 434e9b63d94717d8… (all of the seat's roots in one cut). By AI agents, Wed Nov 11 2026. No macro, syntax, notation, axiom, sorry.
-/
import Derived.Test.YthdhcdknbebohaaDoorChecked
import GoSem.Claim
import GoSem.ClaimJoined
import GoSem.ClaimMapViews
import Derived.JoinedTies
import Derived.KernelRfl
namespace Go.Proofs.YthdhcdknbebohaaDoor
/- THE CELL 'sum', in the pinned program and in every row, IS THE sha256 OF THE DUMP (.gsa) THAT YthdhcdknbebohaaDoorProg.lean LOADS. Nothing in Lean hashes anything: it is a label: what it is worth is what the hold of that sum in a sandbox is worth. -/
noncomputable def Tryd.pinned : Pinned := { name := "ythdhcdknbebohaadoor", sum := "434e9b63d94717d8d6da7cd7ec42fc5b5b4b88323f94575f30f893eec0238d51", checked := Tryd.checked }
namespace Rows
def none {H : Type} : Left H := { results := [], args := [] }

/- WHAT THE LISTED PACKAGE-LEVEL VARIABLES READ AS WHEN THE CALL BEGINS. Each datum BY PROGRAM (the guide's laid-datum.mjs) off the statement by which the dump's own 'gosem.cut.vars' lays the variable. In a bare row this is a premise. The card (YthdhcdknbebohaaDoorCards.lean) ties it to the program's text. -/
def laid_rabbet_num_errShort {H : Type} : DataW H := .iface "*errors.errorString" (.ptr (.agg [.lit (.string [101, 110, 100, 115, 32, 116, 111, 111, 32, 115, 111, 111, 110])]))
def laid_rabbet_num_errLong {H : Type} : DataW H := .iface "*errors.errorString" (.ptr (.agg [.lit (.string [105, 115, 32, 110, 111, 116, 32, 97, 115, 32, 115, 104, 111, 114, 116, 32, 97, 115, 32, 109, 97, 121, 32, 98, 101])]))
def laid_rabbet_value_errShort {H : Type} : DataW H := .iface "*errors.errorString" (.ptr (.agg [.lit (.string [101, 110, 100, 115, 32, 116, 111, 111, 32, 115, 111, 111, 110])]))

/-- 'rabbetlaw11.ZoneTrue': WHATEVER THE INPUT: true; the input reads as it did. -/
def zoneTrueSpec : ChangeSpec := { name := "zoneTrue", fn := fun _ => fun
  | [d1, d2, d3, d4] => { results := [.lit (.bool true)], args := [d1, d2, d3, d4] }
  | _ => none }
def zoneTrueRow : OpenClaim := { program := "ythdhcdknbebohaadoor", sum := "434e9b63d94717d8d6da7cd7ec42fc5b5b4b88323f94575f30f893eec0238d51", func := "rabbet/rabbetlaw11.ZoneTrue", spec := "zoneTrue", inPlace := ["internal/bytealg.abigen_runtime_cmpstring", "internal/reflectlite.TypeOf"], unfollowed := true, recurses := true, named := ["rabbet/num.errShort", "rabbet/num.errLong", "rabbet/value.errShort"], apart := false, laid := [("rabbet/num.errShort", laid_rabbet_num_errShort), ("rabbet/num.errLong", laid_rabbet_num_errLong), ("rabbet/value.errShort", laid_rabbet_value_errShort)] }
def ZoneTrueSaid : Prop := zoneTrueRow.holds Tryd.pinned (OpenSpec.ofChange zoneTrueSpec)

/-- ITS FALSE NEIGHBOUR: 'it returns false'. Refute it at one input. -/
def zoneTrueWrong : ChangeSpec := { name := "zoneTrue", fn := fun _ => fun
  | [d1, d2, d3, d4] => { results := [.lit (.bool false)], args := [d1, d2, d3, d4] }
  | _ => none }
def ZoneTrueWrongFalsely : Prop := zoneTrueRow.holds Tryd.pinned (OpenSpec.ofChange zoneTrueWrong)

/-- 'rabbetlaw11.ZoneParts': WHATEVER THE INPUT: true; the input reads as it did. -/
def zonePartsSpec : ChangeSpec := { name := "zoneParts", fn := fun _ => fun
  | [d1, d2, d3] => { results := [.lit (.bool true)], args := [d1, d2, d3] }
  | _ => none }
def zonePartsRow : OpenClaim := { program := "ythdhcdknbebohaadoor", sum := "434e9b63d94717d8d6da7cd7ec42fc5b5b4b88323f94575f30f893eec0238d51", func := "rabbet/rabbetlaw11.ZoneParts", spec := "zoneParts", inPlace := ["internal/bytealg.abigen_runtime_cmpstring", "internal/reflectlite.TypeOf"], unfollowed := true, recurses := true, named := ["rabbet/num.errShort", "rabbet/num.errLong", "rabbet/value.errShort"], apart := false, laid := [("rabbet/num.errShort", laid_rabbet_num_errShort), ("rabbet/num.errLong", laid_rabbet_num_errLong), ("rabbet/value.errShort", laid_rabbet_value_errShort)] }
def ZonePartsSaid : Prop := zonePartsRow.holds Tryd.pinned (OpenSpec.ofChange zonePartsSpec)

/-- ITS FALSE NEIGHBOUR: 'it returns false'. Refute it at one input. -/
def zonePartsWrong : ChangeSpec := { name := "zoneParts", fn := fun _ => fun
  | [d1, d2, d3] => { results := [.lit (.bool false)], args := [d1, d2, d3] }
  | _ => none }
def ZonePartsWrongFalsely : Prop := zonePartsRow.holds Tryd.pinned (OpenSpec.ofChange zonePartsWrong)

/-- 'rabbetlaw11.ZoneForms': WHATEVER THE INPUT: true; the input reads as it did. -/
def zoneFormsSpec : ChangeSpec := { name := "zoneForms", fn := fun _ => fun
  | [] => { results := [.lit (.bool true)], args := [] }
  | _ => none }
def zoneFormsRow : OpenClaim := { program := "ythdhcdknbebohaadoor", sum := "434e9b63d94717d8d6da7cd7ec42fc5b5b4b88323f94575f30f893eec0238d51", func := "rabbet/rabbetlaw11.ZoneForms", spec := "zoneForms", inPlace := ["internal/bytealg.abigen_runtime_cmpstring", "internal/reflectlite.TypeOf"], unfollowed := true, recurses := true, named := ["rabbet/num.errShort", "rabbet/num.errLong", "rabbet/value.errShort"], apart := false, laid := [("rabbet/num.errShort", laid_rabbet_num_errShort), ("rabbet/num.errLong", laid_rabbet_num_errLong), ("rabbet/value.errShort", laid_rabbet_value_errShort)] }
def ZoneFormsSaid : Prop := zoneFormsRow.holds Tryd.pinned (OpenSpec.ofChange zoneFormsSpec)

/-- ITS FALSE NEIGHBOUR: 'it returns false'. Refute it at one input. -/
def zoneFormsWrong : ChangeSpec := { name := "zoneForms", fn := fun _ => fun
  | [] => { results := [.lit (.bool false)], args := [] }
  | _ => none }
def ZoneFormsWrongFalsely : Prop := zoneFormsRow.holds Tryd.pinned (OpenSpec.ofChange zoneFormsWrong)

/- THE SECOND FORM. 'bulk': how many values and letters a reading holds, each counted each time it is reached (what is shared counts as often as it is met; a slice's spare places count too). A statement '..UptoSaid' is the law's where the arguments, and the package variables that the reading takes, are together of bulk at most 1048576: NARROWER than '..Said'. Prove '..Said' where nothing that the law and all that it calls make is longer than what came in: it says more and counts as full. Else prove '..UptoSaid'. A law counts once. -/
mutual
def uptoBulk {H : Type} : DataW H → Nat
  | .lit (.string bytes) => bytes.length + 1
  | .lit _ => 1
  | .nil => 1
  | .ptr d => uptoBulk d + 1
  | .slice elems spare => uptoBulkAll elems + uptoBulkAll spare + 1
  | .agg parts => uptoBulkAll parts + 1
  | .iface _ d => uptoBulk d + 1
  | .map entries => uptoBulkEntries entries + 1
  | .held _ => 1
def uptoBulkAll {H : Type} : List (DataW H) → Nat
  | [] => 0
  | d :: r => uptoBulk d + uptoBulkAll r
def uptoBulkEntries {H : Type} : List (Lit × DataW H) → Nat
  | [] => 0
  | x :: r => uptoBulkEntry x + uptoBulkEntries r
def uptoBulkEntry {H : Type} : Lit × DataW H → Nat
  | (.string bytes, d) => bytes.length + uptoBulk d + 1
  | (_, d) => uptoBulk d + 1
 end
def uptoSmall : (H : Type) → List (DataW H) → Bool := fun _ ds => decide (uptoBulkAll ds ≤ 1048576)
def OpenSpec.upto (s : _root_.Go.ChangeSpec) : _root_.Go.OpenSpec := { _root_.Go.OpenSpec.ofChange s with cond := some uptoSmall }

/-- 'rabbetlaw11.ZoneTrue', WHERE WHAT IT READS IS OF BULK AT MOST 1048576: true; the input reads as it did. -/
def zoneTrueUptoRow : OpenClaim := { program := "ythdhcdknbebohaadoor", sum := "434e9b63d94717d8d6da7cd7ec42fc5b5b4b88323f94575f30f893eec0238d51", func := "rabbet/rabbetlaw11.ZoneTrue", spec := "zoneTrue", inPlace := ["internal/bytealg.abigen_runtime_cmpstring", "internal/reflectlite.TypeOf"], unfollowed := true, recurses := true, named := ["rabbet/num.errShort", "rabbet/num.errLong", "rabbet/value.errShort"], apart := false, laid := [("rabbet/num.errShort", laid_rabbet_num_errShort), ("rabbet/num.errLong", laid_rabbet_num_errLong), ("rabbet/value.errShort", laid_rabbet_value_errShort)], narrowed := true }
def ZoneTrueUptoSaid : Prop := zoneTrueUptoRow.holds Tryd.pinned (OpenSpec.upto zoneTrueSpec)

/-- 'rabbetlaw11.ZoneParts', WHERE WHAT IT READS IS OF BULK AT MOST 1048576: true; the input reads as it did. -/
def zonePartsUptoRow : OpenClaim := { program := "ythdhcdknbebohaadoor", sum := "434e9b63d94717d8d6da7cd7ec42fc5b5b4b88323f94575f30f893eec0238d51", func := "rabbet/rabbetlaw11.ZoneParts", spec := "zoneParts", inPlace := ["internal/bytealg.abigen_runtime_cmpstring", "internal/reflectlite.TypeOf"], unfollowed := true, recurses := true, named := ["rabbet/num.errShort", "rabbet/num.errLong", "rabbet/value.errShort"], apart := false, laid := [("rabbet/num.errShort", laid_rabbet_num_errShort), ("rabbet/num.errLong", laid_rabbet_num_errLong), ("rabbet/value.errShort", laid_rabbet_value_errShort)], narrowed := true }
def ZonePartsUptoSaid : Prop := zonePartsUptoRow.holds Tryd.pinned (OpenSpec.upto zonePartsSpec)

/-- 'rabbetlaw11.ZoneForms', WHERE WHAT IT READS IS OF BULK AT MOST 1048576: true; the input reads as it did. -/
def zoneFormsUptoRow : OpenClaim := { program := "ythdhcdknbebohaadoor", sum := "434e9b63d94717d8d6da7cd7ec42fc5b5b4b88323f94575f30f893eec0238d51", func := "rabbet/rabbetlaw11.ZoneForms", spec := "zoneForms", inPlace := ["internal/bytealg.abigen_runtime_cmpstring", "internal/reflectlite.TypeOf"], unfollowed := true, recurses := true, named := ["rabbet/num.errShort", "rabbet/num.errLong", "rabbet/value.errShort"], apart := false, laid := [("rabbet/num.errShort", laid_rabbet_num_errShort), ("rabbet/num.errLong", laid_rabbet_num_errLong), ("rabbet/value.errShort", laid_rabbet_value_errShort)], narrowed := true }
def ZoneFormsUptoSaid : Prop := zoneFormsUptoRow.holds Tryd.pinned (OpenSpec.upto zoneFormsSpec)

end Rows
end Go.Proofs.YthdhcdknbebohaaDoor
