/-
  No cell of these rows narrows 'for every input' (looked for: loops, veiled, ifaces, maps, wideKeys, modest, calm, conditions, laid).
  DERIVED. THE GIVEN ROWS OF THIS SEAT. 4 by the template 'for every input the law returns true; each argument reads behind the call as it read before'; 0 by the template 'total and deterministic' (their statements: YtcildnkckgfcpaaTotals.lean).
  GIVEN WITH THE SEED: the statements are not yours to turn. If you find one false, say at which input.
  Laid BY PROGRAM, IN A SANDBOX (cutbox-rows.mjs): the forced cells as the released guide's own fill.sh prints them over the translation 7b09b8cd293dff1b… (all of the seat's roots in one cut). By AI agents, Wed Nov 11 2026. No macro, syntax, notation, axiom, sorry.
-/
import Derived.Test.YtcildnkckgfcpaaChecked
import GoSem.Claim
import GoSem.ClaimJoined
import GoSem.ClaimMapViews
import Derived.JoinedTies
import Derived.KernelRfl
namespace Go.Proofs.Ytcildnkckgfcpaa
/- THE CELL 'sum', in the pinned program and in every row, IS THE sha256 OF THE DUMP (.gsa) THAT YtcildnkckgfcpaaProg.lean LOADS. Nothing in Lean hashes anything: it is a label: what it is worth is what the hold of that sum in a sandbox is worth. -/
noncomputable def Try.pinned : Pinned := { name := "ytcildnkckgfcpaa", sum := "7b09b8cd293dff1b835006a7490206c78fa6e2be17652dc5b27d840c24bde3e0", checked := Try.checked }
namespace Rows
def none {H : Type} : Left H := { results := [], args := [] }

/-- 'rabbetlaw13.SortsAll': WHATEVER THE INPUT: true; the input reads as it did. -/
def sortsAllSpec : ChangeSpec := { name := "sortsAll", fn := fun _ => fun
  | [d1, d2] => { results := [.lit (.bool true)], args := [d1, d2] }
  | _ => none }
def sortsAllRow : OpenClaim := { program := "ytcildnkckgfcpaa", sum := "7b09b8cd293dff1b835006a7490206c78fa6e2be17652dc5b27d840c24bde3e0", func := "rabbet/rabbetlaw13.SortsAll", spec := "sortsAll", inPlace := ["internal/bytealg.abigen_runtime_cmpstring"], unfollowed := true, recurses := true, apart := false }
def SortsAllSaid : Prop := sortsAllRow.holds Try.pinned (OpenSpec.ofChange sortsAllSpec)

/-- ITS FALSE NEIGHBOUR: 'it returns false'. Refute it at one input. -/
def sortsAllWrong : ChangeSpec := { name := "sortsAll", fn := fun _ => fun
  | [d1, d2] => { results := [.lit (.bool false)], args := [d1, d2] }
  | _ => none }
def SortsAllWrongFalsely : Prop := sortsAllRow.holds Try.pinned (OpenSpec.ofChange sortsAllWrong)

/-- 'rabbetlaw13.SortsTrue': WHATEVER THE INPUT: true; the input reads as it did. -/
def sortsTrueSpec : ChangeSpec := { name := "sortsTrue", fn := fun _ => fun
  | [d1, d2] => { results := [.lit (.bool true)], args := [d1, d2] }
  | _ => none }
def sortsTrueRow : OpenClaim := { program := "ytcildnkckgfcpaa", sum := "7b09b8cd293dff1b835006a7490206c78fa6e2be17652dc5b27d840c24bde3e0", func := "rabbet/rabbetlaw13.SortsTrue", spec := "sortsTrue", inPlace := ["internal/bytealg.abigen_runtime_cmpstring"], unfollowed := true, recurses := true, apart := false }
def SortsTrueSaid : Prop := sortsTrueRow.holds Try.pinned (OpenSpec.ofChange sortsTrueSpec)

/-- ITS FALSE NEIGHBOUR: 'it returns false'. Refute it at one input. -/
def sortsTrueWrong : ChangeSpec := { name := "sortsTrue", fn := fun _ => fun
  | [d1, d2] => { results := [.lit (.bool false)], args := [d1, d2] }
  | _ => none }
def SortsTrueWrongFalsely : Prop := sortsTrueRow.holds Try.pinned (OpenSpec.ofChange sortsTrueWrong)

/-- 'rabbetlaw13.SortsAgain': WHATEVER THE INPUT: true; the input reads as it did. -/
def sortsAgainSpec : ChangeSpec := { name := "sortsAgain", fn := fun _ => fun
  | [d1, d2] => { results := [.lit (.bool true)], args := [d1, d2] }
  | _ => none }
def sortsAgainRow : OpenClaim := { program := "ytcildnkckgfcpaa", sum := "7b09b8cd293dff1b835006a7490206c78fa6e2be17652dc5b27d840c24bde3e0", func := "rabbet/rabbetlaw13.SortsAgain", spec := "sortsAgain", inPlace := ["internal/bytealg.abigen_runtime_cmpstring"], unfollowed := true, recurses := true, apart := false }
def SortsAgainSaid : Prop := sortsAgainRow.holds Try.pinned (OpenSpec.ofChange sortsAgainSpec)

/-- ITS FALSE NEIGHBOUR: 'it returns false'. Refute it at one input. -/
def sortsAgainWrong : ChangeSpec := { name := "sortsAgain", fn := fun _ => fun
  | [d1, d2] => { results := [.lit (.bool false)], args := [d1, d2] }
  | _ => none }
def SortsAgainWrongFalsely : Prop := sortsAgainRow.holds Try.pinned (OpenSpec.ofChange sortsAgainWrong)

/-- 'rabbetlaw13.SortsDown': WHATEVER THE INPUT: true; the input reads as it did. -/
def sortsDownSpec : ChangeSpec := { name := "sortsDown", fn := fun _ => fun
  | [d] => { results := [.lit (.bool true)], args := [d] }
  | _ => none }
def sortsDownRow : OpenClaim := { program := "ytcildnkckgfcpaa", sum := "7b09b8cd293dff1b835006a7490206c78fa6e2be17652dc5b27d840c24bde3e0", func := "rabbet/rabbetlaw13.SortsDown", spec := "sortsDown", inPlace := ["internal/bytealg.abigen_runtime_cmpstring"], unfollowed := true, recurses := true, apart := false }
def SortsDownSaid : Prop := sortsDownRow.holds Try.pinned (OpenSpec.ofChange sortsDownSpec)

/-- ITS FALSE NEIGHBOUR: 'it returns false'. Refute it at one input. -/
def sortsDownWrong : ChangeSpec := { name := "sortsDown", fn := fun _ => fun
  | [d] => { results := [.lit (.bool false)], args := [d] }
  | _ => none }
def SortsDownWrongFalsely : Prop := sortsDownRow.holds Try.pinned (OpenSpec.ofChange sortsDownWrong)

/- THE SECOND FORM. 'bulk': how many values and letters a reading holds, each counted each time it is reached (what is shared counts as often as it is met; a slice's spare places count too). A statement '..UptoSaid' is the law's where the arguments, and the package variables that the reading takes, are together of bulk at most 1048576: NARROWER than '..Said'. Prove '..Said' where nothing that the law and all that it calls make is longer than what came in: it says more and counts as full. Else prove '..UptoSaid'. A law counts once. -/
mutual
def uptoBulk {H : Type} : DataW H → Nat
  | .lit (.string bytes) => bytes.length + 1
  | .lit _ => 1
  | .nil => 1
  | .ptr d => uptoBulk d + 1
  | .slice elems spare => uptoBulkAll elems + uptoBulkAll spare + 1
  | .agg parts => uptoBulkAll parts + 1
  | .iface _ d => uptoBulk d + 1
  | .map entries => uptoBulkEntries entries + 1
  | .held _ => 1
def uptoBulkAll {H : Type} : List (DataW H) → Nat
  | [] => 0
  | d :: r => uptoBulk d + uptoBulkAll r
def uptoBulkEntries {H : Type} : List (Lit × DataW H) → Nat
  | [] => 0
  | x :: r => uptoBulkEntry x + uptoBulkEntries r
def uptoBulkEntry {H : Type} : Lit × DataW H → Nat
  | (.string bytes, d) => bytes.length + uptoBulk d + 1
  | (_, d) => uptoBulk d + 1
 end
def uptoSmall : (H : Type) → List (DataW H) → Bool := fun _ ds => decide (uptoBulkAll ds ≤ 1048576)
def OpenSpec.upto (s : _root_.Go.ChangeSpec) : _root_.Go.OpenSpec := { _root_.Go.OpenSpec.ofChange s with cond := some uptoSmall }

/-- 'rabbetlaw13.SortsAll', WHERE WHAT IT READS IS OF BULK AT MOST 1048576: true; the input reads as it did. -/
def sortsAllUptoRow : OpenClaim := { program := "ytcildnkckgfcpaa", sum := "7b09b8cd293dff1b835006a7490206c78fa6e2be17652dc5b27d840c24bde3e0", func := "rabbet/rabbetlaw13.SortsAll", spec := "sortsAll", inPlace := ["internal/bytealg.abigen_runtime_cmpstring"], unfollowed := true, recurses := true, apart := false, narrowed := true }
def SortsAllUptoSaid : Prop := sortsAllUptoRow.holds Try.pinned (OpenSpec.upto sortsAllSpec)

/-- 'rabbetlaw13.SortsTrue', WHERE WHAT IT READS IS OF BULK AT MOST 1048576: true; the input reads as it did. -/
def sortsTrueUptoRow : OpenClaim := { program := "ytcildnkckgfcpaa", sum := "7b09b8cd293dff1b835006a7490206c78fa6e2be17652dc5b27d840c24bde3e0", func := "rabbet/rabbetlaw13.SortsTrue", spec := "sortsTrue", inPlace := ["internal/bytealg.abigen_runtime_cmpstring"], unfollowed := true, recurses := true, apart := false, narrowed := true }
def SortsTrueUptoSaid : Prop := sortsTrueUptoRow.holds Try.pinned (OpenSpec.upto sortsTrueSpec)

/-- 'rabbetlaw13.SortsAgain', WHERE WHAT IT READS IS OF BULK AT MOST 1048576: true; the input reads as it did. -/
def sortsAgainUptoRow : OpenClaim := { program := "ytcildnkckgfcpaa", sum := "7b09b8cd293dff1b835006a7490206c78fa6e2be17652dc5b27d840c24bde3e0", func := "rabbet/rabbetlaw13.SortsAgain", spec := "sortsAgain", inPlace := ["internal/bytealg.abigen_runtime_cmpstring"], unfollowed := true, recurses := true, apart := false, narrowed := true }
def SortsAgainUptoSaid : Prop := sortsAgainUptoRow.holds Try.pinned (OpenSpec.upto sortsAgainSpec)

/-- 'rabbetlaw13.SortsDown', WHERE WHAT IT READS IS OF BULK AT MOST 1048576: true; the input reads as it did. -/
def sortsDownUptoRow : OpenClaim := { program := "ytcildnkckgfcpaa", sum := "7b09b8cd293dff1b835006a7490206c78fa6e2be17652dc5b27d840c24bde3e0", func := "rabbet/rabbetlaw13.SortsDown", spec := "sortsDown", inPlace := ["internal/bytealg.abigen_runtime_cmpstring"], unfollowed := true, recurses := true, apart := false, narrowed := true }
def SortsDownUptoSaid : Prop := sortsDownUptoRow.holds Try.pinned (OpenSpec.upto sortsDownSpec)

end Rows
end Go.Proofs.Ytcildnkckgfcpaa
