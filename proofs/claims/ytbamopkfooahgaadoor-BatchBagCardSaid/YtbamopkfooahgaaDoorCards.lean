/-
  DERIVED. GIVEN WITH THE SEED: THE CARDS: each row of YtbamopkfooahgaaDoorRows.lean that lists a variable, with what it lists TIED to the program's text (the seventh form; the later family's looks); each row that meets fmt, with fmt's text TOLD by the authors' own Lean function (tested against real Go, not proved from fmt's source: count such statements apart). THE CARD IS WHAT COUNTS. Prove the row's statement (the work); the ties are given (YtbamopkfooahgaaDoorTie.lean); close each card by the builder's one call (the guide's Derived/Test/ToyasCard.lean, 'card_holds'). Laid BY PROGRAM, IN A SANDBOX (cutbox-door.mjs). By AI agents, Wed Nov 11 2026. No macro, syntax, notation, axiom, sorry.
-/
import Derived.Test.YtbamopkfooahgaaDoorRows
import GoSem.ClaimSeven
namespace Go.Proofs.YtbamopkfooahgaaDoor
namespace Rows

/-- THE TIED CARD OF 'rabbetlaw12.BatchAll'. -/
def batchAllCard : Claim7 := { stood := { row := batchAllRow, standIns := [], harness := (true, "68a0addb51361c10595217b2678b456d816bfb22ee4e9d54ae05ebf260c34c6c"), looks := true }, kinds := [], alts := [], laidByText := true, laidKinds := [.handle], laidTests := true, laidLooks := .later }
def BatchAllCardSaid : Prop := Claim7.holds Tryd.pinned (.plain (OpenSpec.ofChange batchAllSpec)) batchAllCard

/-- THE TIED CARD OF 'rabbetlaw12.BatchSets'. -/
def batchSetsCard : Claim7 := { stood := { row := batchSetsRow, standIns := [], harness := (true, "68a0addb51361c10595217b2678b456d816bfb22ee4e9d54ae05ebf260c34c6c"), looks := true }, kinds := [], alts := [], laidByText := true, laidKinds := [.handle], laidTests := true, laidLooks := .later }
def BatchSetsCardSaid : Prop := Claim7.holds Tryd.pinned (.plain (OpenSpec.ofChange batchSetsSpec)) batchSetsCard

/-- THE TIED CARD OF 'rabbetlaw12.BatchLaws'. -/
def batchLawsCard : Claim7 := { stood := { row := batchLawsRow, standIns := [], harness := (true, "68a0addb51361c10595217b2678b456d816bfb22ee4e9d54ae05ebf260c34c6c"), looks := true }, kinds := [], alts := [], laidByText := true, laidKinds := [.handle], laidTests := true, laidLooks := .later }
def BatchLawsCardSaid : Prop := Claim7.holds Tryd.pinned (.plain (OpenSpec.ofChange batchLawsSpec)) batchLawsCard

/-- THE TIED CARD OF 'rabbetlaw12.BatchBag'. -/
def batchBagCard : Claim7 := { stood := { row := batchBagRow, standIns := [], harness := (true, "68a0addb51361c10595217b2678b456d816bfb22ee4e9d54ae05ebf260c34c6c"), looks := true }, kinds := [], alts := [], laidByText := true, laidKinds := [.handle], laidTests := true, laidLooks := .later }
def BatchBagCardSaid : Prop := Claim7.holds Tryd.pinned (.plain (OpenSpec.ofChange batchBagSpec)) batchBagCard

/-- THE TIED CARD OF 'rabbetlaw12.BatchTurns'. -/
def batchTurnsCard : Claim7 := { stood := { row := batchTurnsRow, standIns := [], harness := (true, "68a0addb51361c10595217b2678b456d816bfb22ee4e9d54ae05ebf260c34c6c"), looks := true }, kinds := [], alts := [], laidByText := true, laidKinds := [.handle], laidTests := true, laidLooks := .later }
def BatchTurnsCardSaid : Prop := Claim7.holds Tryd.pinned (.plain (OpenSpec.ofChange batchTurnsSpec)) batchTurnsCard

/-- THE SECOND FORM's CARD OF 'rabbetlaw12.BatchAll'. -/
def batchAllUptoCard : Claim7 := { stood := { row := batchAllUptoRow, standIns := [], harness := (true, "68a0addb51361c10595217b2678b456d816bfb22ee4e9d54ae05ebf260c34c6c"), looks := true }, kinds := [], alts := [], laidByText := true, laidKinds := [.handle], laidTests := true, laidLooks := .later }
def BatchAllUptoCardSaid : Prop := Claim7.holds Tryd.pinned (.plain (OpenSpec.upto batchAllSpec)) batchAllUptoCard

/-- THE SECOND FORM's CARD OF 'rabbetlaw12.BatchSets'. -/
def batchSetsUptoCard : Claim7 := { stood := { row := batchSetsUptoRow, standIns := [], harness := (true, "68a0addb51361c10595217b2678b456d816bfb22ee4e9d54ae05ebf260c34c6c"), looks := true }, kinds := [], alts := [], laidByText := true, laidKinds := [.handle], laidTests := true, laidLooks := .later }
def BatchSetsUptoCardSaid : Prop := Claim7.holds Tryd.pinned (.plain (OpenSpec.upto batchSetsSpec)) batchSetsUptoCard

/-- THE SECOND FORM's CARD OF 'rabbetlaw12.BatchLaws'. -/
def batchLawsUptoCard : Claim7 := { stood := { row := batchLawsUptoRow, standIns := [], harness := (true, "68a0addb51361c10595217b2678b456d816bfb22ee4e9d54ae05ebf260c34c6c"), looks := true }, kinds := [], alts := [], laidByText := true, laidKinds := [.handle], laidTests := true, laidLooks := .later }
def BatchLawsUptoCardSaid : Prop := Claim7.holds Tryd.pinned (.plain (OpenSpec.upto batchLawsSpec)) batchLawsUptoCard

/-- THE SECOND FORM's CARD OF 'rabbetlaw12.BatchBag'. -/
def batchBagUptoCard : Claim7 := { stood := { row := batchBagUptoRow, standIns := [], harness := (true, "68a0addb51361c10595217b2678b456d816bfb22ee4e9d54ae05ebf260c34c6c"), looks := true }, kinds := [], alts := [], laidByText := true, laidKinds := [.handle], laidTests := true, laidLooks := .later }
def BatchBagUptoCardSaid : Prop := Claim7.holds Tryd.pinned (.plain (OpenSpec.upto batchBagSpec)) batchBagUptoCard

/-- THE SECOND FORM's CARD OF 'rabbetlaw12.BatchTurns'. -/
def batchTurnsUptoCard : Claim7 := { stood := { row := batchTurnsUptoRow, standIns := [], harness := (true, "68a0addb51361c10595217b2678b456d816bfb22ee4e9d54ae05ebf260c34c6c"), looks := true }, kinds := [], alts := [], laidByText := true, laidKinds := [.handle], laidTests := true, laidLooks := .later }
def BatchTurnsUptoCardSaid : Prop := Claim7.holds Tryd.pinned (.plain (OpenSpec.upto batchTurnsSpec)) batchTurnsUptoCard
end Rows
end Go.Proofs.YtbamopkfooahgaaDoor
