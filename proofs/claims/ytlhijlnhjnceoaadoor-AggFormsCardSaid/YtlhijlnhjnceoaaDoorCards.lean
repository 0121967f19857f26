/-
  DERIVED. GIVEN WITH THE SEED: THE CARDS: each row of YtlhijlnhjnceoaaDoorRows.lean that lists a variable, with what it lists TIED to the program's text (the seventh form; the later family's looks); each row that meets fmt, with fmt's text TOLD by the authors' own Lean function (tested against real Go, not proved from fmt's source: count such statements apart). THE CARD IS WHAT COUNTS. Prove the row's statement (the work); the ties are given (YtlhijlnhjnceoaaDoorTie.lean); close each card by the builder's one call (the guide's Derived/Test/ToyasCard.lean, 'card_holds'). Laid BY PROGRAM, IN A SANDBOX (cutbox-door.mjs). By AI agents, Wed Nov 11 2026. No macro, syntax, notation, axiom, sorry.
-/
import Derived.Test.YtlhijlnhjnceoaaDoorRows
import GoSem.ClaimSeven
namespace Go.Proofs.YtlhijlnhjnceoaaDoor
namespace Rows

/-- THE TIED CARD OF 'rabbetlaw24.AggAll'. -/
def aggAllCard : Claim7 := { stood := { row := aggAllRow, standIns := [], harness := (true, "2a35b7e36ada3eaafec7fbe5b2ef5ab3a0ffa2e36d7f1aeb0cc11900f03daa1d"), looks := true }, kinds := [], alts := [], laidByText := true, laidKinds := [.sentinel, .sentinel, .sentinel], laidTests := true, laidLooks := .later }
def AggAllCardSaid : Prop := Claim7.holds Tryd.pinned (.plain (OpenSpec.ofChange aggAllSpec)) aggAllCard

/-- THE TIED CARD OF 'rabbetlaw24.AggSums'. -/
def aggSumsCard : Claim7 := { stood := { row := aggSumsRow, standIns := [], harness := (true, "2a35b7e36ada3eaafec7fbe5b2ef5ab3a0ffa2e36d7f1aeb0cc11900f03daa1d"), looks := true }, kinds := [], alts := [], laidByText := true, laidKinds := [.sentinel, .sentinel, .sentinel], laidTests := true, laidLooks := .later }
def AggSumsCardSaid : Prop := Claim7.holds Tryd.pinned (.plain (OpenSpec.ofChange aggSumsSpec)) aggSumsCard

/-- THE TIED CARD OF 'rabbetlaw24.AggOver'. -/
def aggOverCard : Claim7 := { stood := { row := aggOverRow, standIns := [], harness := (true, "2a35b7e36ada3eaafec7fbe5b2ef5ab3a0ffa2e36d7f1aeb0cc11900f03daa1d"), looks := true }, kinds := [], alts := [], laidByText := true, laidKinds := [.sentinel, .sentinel, .sentinel], laidTests := true, laidLooks := .later }
def AggOverCardSaid : Prop := Claim7.holds Tryd.pinned (.plain (OpenSpec.ofChange aggOverSpec)) aggOverCard

/-- THE TIED CARD OF 'rabbetlaw24.AggForms'. -/
def aggFormsCard : Claim7 := { stood := { row := aggFormsRow, standIns := [], harness := (true, "2a35b7e36ada3eaafec7fbe5b2ef5ab3a0ffa2e36d7f1aeb0cc11900f03daa1d"), looks := true }, kinds := [], alts := [], laidByText := true, laidKinds := [.sentinel, .sentinel, .sentinel], laidTests := true, laidLooks := .later }
def AggFormsCardSaid : Prop := Claim7.holds Tryd.pinned (.plain (OpenSpec.ofChange aggFormsSpec)) aggFormsCard

/-- THE SECOND FORM's CARD OF 'rabbetlaw24.AggAll'. -/
def aggAllUptoCard : Claim7 := { stood := { row := aggAllUptoRow, standIns := [], harness := (true, "2a35b7e36ada3eaafec7fbe5b2ef5ab3a0ffa2e36d7f1aeb0cc11900f03daa1d"), looks := true }, kinds := [], alts := [], laidByText := true, laidKinds := [.sentinel, .sentinel, .sentinel], laidTests := true, laidLooks := .later }
def AggAllUptoCardSaid : Prop := Claim7.holds Tryd.pinned (.plain (OpenSpec.upto aggAllSpec)) aggAllUptoCard

/-- THE SECOND FORM's CARD OF 'rabbetlaw24.AggSums'. -/
def aggSumsUptoCard : Claim7 := { stood := { row := aggSumsUptoRow, standIns := [], harness := (true, "2a35b7e36ada3eaafec7fbe5b2ef5ab3a0ffa2e36d7f1aeb0cc11900f03daa1d"), looks := true }, kinds := [], alts := [], laidByText := true, laidKinds := [.sentinel, .sentinel, .sentinel], laidTests := true, laidLooks := .later }
def AggSumsUptoCardSaid : Prop := Claim7.holds Tryd.pinned (.plain (OpenSpec.upto aggSumsSpec)) aggSumsUptoCard

/-- THE SECOND FORM's CARD OF 'rabbetlaw24.AggOver'. -/
def aggOverUptoCard : Claim7 := { stood := { row := aggOverUptoRow, standIns := [], harness := (true, "2a35b7e36ada3eaafec7fbe5b2ef5ab3a0ffa2e36d7f1aeb0cc11900f03daa1d"), looks := true }, kinds := [], alts := [], laidByText := true, laidKinds := [.sentinel, .sentinel, .sentinel], laidTests := true, laidLooks := .later }
def AggOverUptoCardSaid : Prop := Claim7.holds Tryd.pinned (.plain (OpenSpec.upto aggOverSpec)) aggOverUptoCard

/-- THE SECOND FORM's CARD OF 'rabbetlaw24.AggForms'. -/
def aggFormsUptoCard : Claim7 := { stood := { row := aggFormsUptoRow, standIns := [], harness := (true, "2a35b7e36ada3eaafec7fbe5b2ef5ab3a0ffa2e36d7f1aeb0cc11900f03daa1d"), looks := true }, kinds := [], alts := [], laidByText := true, laidKinds := [.sentinel, .sentinel, .sentinel], laidTests := true, laidLooks := .later }
def AggFormsUptoCardSaid : Prop := Claim7.holds Tryd.pinned (.plain (OpenSpec.upto aggFormsSpec)) aggFormsUptoCard
end Rows
end Go.Proofs.YtlhijlnhjnceoaaDoor
