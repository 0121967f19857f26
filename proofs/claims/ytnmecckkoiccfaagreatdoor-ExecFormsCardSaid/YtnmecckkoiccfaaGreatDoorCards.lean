/-
  DERIVED. GIVEN WITH THE SEED: THE CARDS: each row of YtnmecckkoiccfaaGreatDoorRows.lean that lists a variable, with what it lists TIED to the program's text (the seventh form; the later family's looks); each row that meets fmt, with fmt's text TOLD by the authors' own Lean function (tested against real Go, not proved from fmt's source: count such statements apart). THE CARD IS WHAT COUNTS. Prove the row's statement (the work); the ties are given (YtnmecckkoiccfaaGreatDoorTie.lean); close each card by the builder's one call (the guide's Derived/Test/ToyasCard.lean, 'card_holds'). Laid BY PROGRAM, IN A SANDBOX (cutbox-door.mjs). By AI agents, Wed Nov 11 2026. No macro, syntax, notation, axiom, sorry.
-/
import Derived.Test.YtnmecckkoiccfaaGreatDoorRows
import GoSem.ClaimSeven
namespace Go.Proofs.YtnmecckkoiccfaaGreatDoor
namespace Rows

/-- THE TIED CARD OF 'rabbetlaw25.ExecAll'. -/
def execAllCard : Claim7 := { stood := { row := execAllRow, standIns := [], harness := (true, "81fe246e7329bd7c68bb903b3eadfe4753e4713430ea736c2256b7db868b7e89"), looks := true }, kinds := [], alts := [], laidByText := true, laidKinds := [.handle, .sentinel, .sentinel, .sentinel], laidTests := true, laidLooks := .later }
def ExecAllCardSaid : Prop := Claim7.holds Tryz.pinned (.plain (OpenSpec.ofChange execAllSpec)) execAllCard

/-- THE TIED CARD OF 'rabbetlaw25.ExecBatches'. -/
def execBatchesCard : Claim7 := { stood := { row := execBatchesRow, standIns := [], harness := (true, "81fe246e7329bd7c68bb903b3eadfe4753e4713430ea736c2256b7db868b7e89"), looks := true }, kinds := [], alts := [], laidByText := true, laidKinds := [.handle, .sentinel, .sentinel, .sentinel], laidTests := true, laidLooks := .later }
def ExecBatchesCardSaid : Prop := Claim7.holds Tryz.pinned (.plain (OpenSpec.ofChange execBatchesSpec)) execBatchesCard

/-- THE TIED CARD OF 'rabbetlaw25.ExecLimit'. -/
def execLimitCard : Claim7 := { stood := { row := execLimitRow, standIns := [], harness := (true, "81fe246e7329bd7c68bb903b3eadfe4753e4713430ea736c2256b7db868b7e89"), looks := true }, kinds := [], alts := [], laidByText := true, laidKinds := [.handle, .sentinel, .sentinel, .sentinel], laidTests := true, laidLooks := .later }
def ExecLimitCardSaid : Prop := Claim7.holds Tryz.pinned (.plain (OpenSpec.ofChange execLimitSpec)) execLimitCard

/-- THE TIED CARD OF 'rabbetlaw25.ExecForms'. -/
def execFormsCard : Claim7 := { stood := { row := execFormsRow, standIns := [], harness := (true, "81fe246e7329bd7c68bb903b3eadfe4753e4713430ea736c2256b7db868b7e89"), looks := true }, kinds := [], alts := [], laidByText := true, laidKinds := [.handle, .sentinel, .sentinel, .sentinel], laidTests := true, laidLooks := .later }
def ExecFormsCardSaid : Prop := Claim7.holds Tryz.pinned (.plain (OpenSpec.ofChange execFormsSpec)) execFormsCard

/-- THE TIED CARD OF 'rabbetlaw25.ExecNames'. -/
def execNamesCard : Claim7 := { stood := { row := execNamesRow, standIns := [], harness := (true, "81fe246e7329bd7c68bb903b3eadfe4753e4713430ea736c2256b7db868b7e89"), looks := true }, kinds := [], alts := [], laidByText := true, laidKinds := [.handle, .sentinel, .sentinel, .sentinel], laidTests := true, laidLooks := .later }
def ExecNamesCardSaid : Prop := Claim7.holds Tryz.pinned (.plain (OpenSpec.ofChange execNamesSpec)) execNamesCard

/-- THE SECOND FORM's CARD OF 'rabbetlaw25.ExecAll'. -/
def execAllUptoCard : Claim7 := { stood := { row := execAllUptoRow, standIns := [], harness := (true, "81fe246e7329bd7c68bb903b3eadfe4753e4713430ea736c2256b7db868b7e89"), looks := true }, kinds := [], alts := [], laidByText := true, laidKinds := [.handle, .sentinel, .sentinel, .sentinel], laidTests := true, laidLooks := .later }
def ExecAllUptoCardSaid : Prop := Claim7.holds Tryz.pinned (.plain (OpenSpec.upto execAllSpec)) execAllUptoCard

/-- THE SECOND FORM's CARD OF 'rabbetlaw25.ExecBatches'. -/
def execBatchesUptoCard : Claim7 := { stood := { row := execBatchesUptoRow, standIns := [], harness := (true, "81fe246e7329bd7c68bb903b3eadfe4753e4713430ea736c2256b7db868b7e89"), looks := true }, kinds := [], alts := [], laidByText := true, laidKinds := [.handle, .sentinel, .sentinel, .sentinel], laidTests := true, laidLooks := .later }
def ExecBatchesUptoCardSaid : Prop := Claim7.holds Tryz.pinned (.plain (OpenSpec.upto execBatchesSpec)) execBatchesUptoCard

/-- THE SECOND FORM's CARD OF 'rabbetlaw25.ExecLimit'. -/
def execLimitUptoCard : Claim7 := { stood := { row := execLimitUptoRow, standIns := [], harness := (true, "81fe246e7329bd7c68bb903b3eadfe4753e4713430ea736c2256b7db868b7e89"), looks := true }, kinds := [], alts := [], laidByText := true, laidKinds := [.handle, .sentinel, .sentinel, .sentinel], laidTests := true, laidLooks := .later }
def ExecLimitUptoCardSaid : Prop := Claim7.holds Tryz.pinned (.plain (OpenSpec.upto execLimitSpec)) execLimitUptoCard

/-- THE SECOND FORM's CARD OF 'rabbetlaw25.ExecForms'. -/
def execFormsUptoCard : Claim7 := { stood := { row := execFormsUptoRow, standIns := [], harness := (true, "81fe246e7329bd7c68bb903b3eadfe4753e4713430ea736c2256b7db868b7e89"), looks := true }, kinds := [], alts := [], laidByText := true, laidKinds := [.handle, .sentinel, .sentinel, .sentinel], laidTests := true, laidLooks := .later }
def ExecFormsUptoCardSaid : Prop := Claim7.holds Tryz.pinned (.plain (OpenSpec.upto execFormsSpec)) execFormsUptoCard

/-- THE SECOND FORM's CARD OF 'rabbetlaw25.ExecNames'. -/
def execNamesUptoCard : Claim7 := { stood := { row := execNamesUptoRow, standIns := [], harness := (true, "81fe246e7329bd7c68bb903b3eadfe4753e4713430ea736c2256b7db868b7e89"), looks := true }, kinds := [], alts := [], laidByText := true, laidKinds := [.handle, .sentinel, .sentinel, .sentinel], laidTests := true, laidLooks := .later }
def ExecNamesUptoCardSaid : Prop := Claim7.holds Tryz.pinned (.plain (OpenSpec.upto execNamesSpec)) execNamesUptoCard
end Rows
end Go.Proofs.YtnmecckkoiccfaaGreatDoor
