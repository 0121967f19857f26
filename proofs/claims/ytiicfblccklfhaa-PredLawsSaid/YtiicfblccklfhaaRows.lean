/-
  No cell of these rows narrows 'for every input' (looked for: loops, veiled, ifaces, maps, wideKeys, modest, calm, conditions, laid).
  DERIVED. THE GIVEN ROWS OF THIS SEAT. 4 by the template 'for every input the law returns true; each argument reads behind the call as it read before'; 0 by the template 'total and deterministic' (their statements: YtiicfblccklfhaaTotals.lean).
  GIVEN WITH THE SEED: the statements are not yours to turn. If you find one false, say at which input.
  Laid BY PROGRAM, IN A SANDBOX (cutbox-rows.mjs): the forced cells as the released guide's own fill.sh prints them over the translation 9b92655727aff04a… (all of the seat's roots in one cut). By AI agents, Wed Nov 11 2026. No macro, syntax, notation, axiom, sorry.
-/
import Derived.Test.YtiicfblccklfhaaChecked
import GoSem.Claim
import GoSem.ClaimJoined
import GoSem.ClaimMapViews
import Derived.JoinedTies
import Derived.KernelRfl
namespace Go.Proofs.Ytiicfblccklfhaa
/- THE CELL 'sum', in the pinned program and in every row, IS THE sha256 OF THE DUMP (.gsa) THAT YtiicfblccklfhaaProg.lean LOADS. Nothing in Lean hashes anything: it is a label: what it is worth is what the hold of that sum in a sandbox is worth. -/
noncomputable def Try.pinned : Pinned := { name := "ytiicfblccklfhaa", sum := "9b92655727aff04ab3a799050411e5bdd42122f3d7d6f8513f9002d9f10c4d3f", checked := Try.checked }
namespace Rows
def none {H : Type} : Left H := { results := [], args := [] }

/-- 'rabbetlaw23.PredAll': WHATEVER THE INPUT: true; the input reads as it did. -/
def predAllSpec : ChangeSpec := { name := "predAll", fn := fun _ => fun
  | [d1, d2, d3] => { results := [.lit (.bool true)], args := [d1, d2, d3] }
  | _ => none }
def predAllRow : OpenClaim := { program := "ytiicfblccklfhaa", sum := "9b92655727aff04ab3a799050411e5bdd42122f3d7d6f8513f9002d9f10c4d3f", func := "rabbet/rabbetlaw23.PredAll", spec := "predAll", inPlace := ["internal/bytealg.abigen_runtime_cmpstring"], unfollowed := true, recurses := true, apart := false }
def PredAllSaid : Prop := predAllRow.holds Try.pinned (OpenSpec.ofChange predAllSpec)

/-- ITS FALSE NEIGHBOUR: 'it returns false'. Refute it at one input. -/
def predAllWrong : ChangeSpec := { name := "predAll", fn := fun _ => fun
  | [d1, d2, d3] => { results := [.lit (.bool false)], args := [d1, d2, d3] }
  | _ => none }
def PredAllWrongFalsely : Prop := predAllRow.holds Try.pinned (OpenSpec.ofChange predAllWrong)

/-- 'rabbetlaw23.PredLaws': WHATEVER THE INPUT: true; the input reads as it did. -/
def predLawsSpec : ChangeSpec := { name := "predLaws", fn := fun _ => fun
  | [d1, d2] => { results := [.lit (.bool true)], args := [d1, d2] }
  | _ => none }
def predLawsRow : OpenClaim := { program := "ytiicfblccklfhaa", sum := "9b92655727aff04ab3a799050411e5bdd42122f3d7d6f8513f9002d9f10c4d3f", func := "rabbet/rabbetlaw23.PredLaws", spec := "predLaws", inPlace := ["internal/bytealg.abigen_runtime_cmpstring"], unfollowed := true, recurses := true, apart := false }
def PredLawsSaid : Prop := predLawsRow.holds Try.pinned (OpenSpec.ofChange predLawsSpec)

/-- ITS FALSE NEIGHBOUR: 'it returns false'. Refute it at one input. -/
def predLawsWrong : ChangeSpec := { name := "predLaws", fn := fun _ => fun
  | [d1, d2] => { results := [.lit (.bool false)], args := [d1, d2] }
  | _ => none }
def PredLawsWrongFalsely : Prop := predLawsRow.holds Try.pinned (OpenSpec.ofChange predLawsWrong)

/-- 'rabbetlaw23.PredForms': WHATEVER THE INPUT: true; the input reads as it did. -/
def predFormsSpec : ChangeSpec := { name := "predForms", fn := fun _ => fun
  | [] => { results := [.lit (.bool true)], args := [] }
  | _ => none }
def predFormsRow : OpenClaim := { program := "ytiicfblccklfhaa", sum := "9b92655727aff04ab3a799050411e5bdd42122f3d7d6f8513f9002d9f10c4d3f", func := "rabbet/rabbetlaw23.PredForms", spec := "predForms", inPlace := ["internal/bytealg.abigen_runtime_cmpstring"], unfollowed := true, recurses := true, apart := false }
def PredFormsSaid : Prop := predFormsRow.holds Try.pinned (OpenSpec.ofChange predFormsSpec)

/-- ITS FALSE NEIGHBOUR: 'it returns false'. Refute it at one input. -/
def predFormsWrong : ChangeSpec := { name := "predForms", fn := fun _ => fun
  | [] => { results := [.lit (.bool false)], args := [] }
  | _ => none }
def PredFormsWrongFalsely : Prop := predFormsRow.holds Try.pinned (OpenSpec.ofChange predFormsWrong)

/-- 'rabbetlaw23.PredNulls': WHATEVER THE INPUT: true; the input reads as it did. -/
def predNullsSpec : ChangeSpec := { name := "predNulls", fn := fun _ => fun
  | [d1, d2, d3, d4] => { results := [.lit (.bool true)], args := [d1, d2, d3, d4] }
  | _ => none }
def predNullsRow : OpenClaim := { program := "ytiicfblccklfhaa", sum := "9b92655727aff04ab3a799050411e5bdd42122f3d7d6f8513f9002d9f10c4d3f", func := "rabbet/rabbetlaw23.PredNulls", spec := "predNulls", inPlace := ["internal/bytealg.abigen_runtime_cmpstring"], unfollowed := true, recurses := true, apart := false }
def PredNullsSaid : Prop := predNullsRow.holds Try.pinned (OpenSpec.ofChange predNullsSpec)

/-- ITS FALSE NEIGHBOUR: 'it returns false'. Refute it at one input. -/
def predNullsWrong : ChangeSpec := { name := "predNulls", fn := fun _ => fun
  | [d1, d2, d3, d4] => { results := [.lit (.bool false)], args := [d1, d2, d3, d4] }
  | _ => none }
def PredNullsWrongFalsely : Prop := predNullsRow.holds Try.pinned (OpenSpec.ofChange predNullsWrong)

/- THE SECOND FORM. 'bulk': how many values and letters a reading holds, each counted each time it is reached (what is shared counts as often as it is met; a slice's spare places count too). A statement '..UptoSaid' is the law's where the arguments, and the package variables that the reading takes, are together of bulk at most 1048576: NARROWER than '..Said'. Prove '..Said' where nothing that the law and all that it calls make is longer than what came in: it says more and counts as full. Else prove '..UptoSaid'. A law counts once. -/
mutual
def uptoBulk {H : Type} : DataW H → Nat
  | .lit (.string bytes) => bytes.length + 1
  | .lit _ => 1
  | .nil => 1
  | .ptr d => uptoBulk d + 1
  | .slice elems spare => uptoBulkAll elems + uptoBulkAll spare + 1
  | .agg parts => uptoBulkAll parts + 1
  | .iface _ d => uptoBulk d + 1
  | .map entries => uptoBulkEntries entries + 1
  | .held _ => 1
def uptoBulkAll {H : Type} : List (DataW H) → Nat
  | [] => 0
  | d :: r => uptoBulk d + uptoBulkAll r
def uptoBulkEntries {H : Type} : List (Lit × DataW H) → Nat
  | [] => 0
  | x :: r => uptoBulkEntry x + uptoBulkEntries r
def uptoBulkEntry {H : Type} : Lit × DataW H → Nat
  | (.string bytes, d) => bytes.length + uptoBulk d + 1
  | (_, d) => uptoBulk d + 1
 end
def uptoSmall : (H : Type) → List (DataW H) → Bool := fun _ ds => decide (uptoBulkAll ds ≤ 1048576)
def OpenSpec.upto (s : _root_.Go.ChangeSpec) : _root_.Go.OpenSpec := { _root_.Go.OpenSpec.ofChange s with cond := some uptoSmall }

/-- 'rabbetlaw23.PredAll', WHERE WHAT IT READS IS OF BULK AT MOST 1048576: true; the input reads as it did. -/
def predAllUptoRow : OpenClaim := { program := "ytiicfblccklfhaa", sum := "9b92655727aff04ab3a799050411e5bdd42122f3d7d6f8513f9002d9f10c4d3f", func := "rabbet/rabbetlaw23.PredAll", spec := "predAll", inPlace := ["internal/bytealg.abigen_runtime_cmpstring"], unfollowed := true, recurses := true, apart := false, narrowed := true }
def PredAllUptoSaid : Prop := predAllUptoRow.holds Try.pinned (OpenSpec.upto predAllSpec)

/-- 'rabbetlaw23.PredLaws', WHERE WHAT IT READS IS OF BULK AT MOST 1048576: true; the input reads as it did. -/
def predLawsUptoRow : OpenClaim := { program := "ytiicfblccklfhaa", sum := "9b92655727aff04ab3a799050411e5bdd42122f3d7d6f8513f9002d9f10c4d3f", func := "rabbet/rabbetlaw23.PredLaws", spec := "predLaws", inPlace := ["internal/bytealg.abigen_runtime_cmpstring"], unfollowed := true, recurses := true, apart := false, narrowed := true }
def PredLawsUptoSaid : Prop := predLawsUptoRow.holds Try.pinned (OpenSpec.upto predLawsSpec)

/-- 'rabbetlaw23.PredForms', WHERE WHAT IT READS IS OF BULK AT MOST 1048576: true; the input reads as it did. -/
def predFormsUptoRow : OpenClaim := { program := "ytiicfblccklfhaa", sum := "9b92655727aff04ab3a799050411e5bdd42122f3d7d6f8513f9002d9f10c4d3f", func := "rabbet/rabbetlaw23.PredForms", spec := "predForms", inPlace := ["internal/bytealg.abigen_runtime_cmpstring"], unfollowed := true, recurses := true, apart := false, narrowed := true }
def PredFormsUptoSaid : Prop := predFormsUptoRow.holds Try.pinned (OpenSpec.upto predFormsSpec)

/-- 'rabbetlaw23.PredNulls', WHERE WHAT IT READS IS OF BULK AT MOST 1048576: true; the input reads as it did. -/
def predNullsUptoRow : OpenClaim := { program := "ytiicfblccklfhaa", sum := "9b92655727aff04ab3a799050411e5bdd42122f3d7d6f8513f9002d9f10c4d3f", func := "rabbet/rabbetlaw23.PredNulls", spec := "predNulls", inPlace := ["internal/bytealg.abigen_runtime_cmpstring"], unfollowed := true, recurses := true, apart := false, narrowed := true }
def PredNullsUptoSaid : Prop := predNullsUptoRow.holds Try.pinned (OpenSpec.upto predNullsSpec)

end Rows
end Go.Proofs.Ytiicfblccklfhaa
