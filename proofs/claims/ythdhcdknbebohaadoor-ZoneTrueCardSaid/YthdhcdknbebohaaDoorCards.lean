/-
  DERIVED. GIVEN WITH THE SEED: THE CARDS: each row of YthdhcdknbebohaaDoorRows.lean that lists a variable, with what it lists TIED to the program's text (the seventh form; the later family's looks); each row that meets fmt, with fmt's text TOLD by the authors' own Lean function (tested against real Go, not proved from fmt's source: count such statements apart). THE CARD IS WHAT COUNTS. Prove the row's statement (the work); the ties are given (YthdhcdknbebohaaDoorTie.lean); close each card by the builder's one call (the guide's Derived/Test/ToyasCard.lean, 'card_holds'). Laid BY PROGRAM, IN A SANDBOX (cutbox-door.mjs). By AI agents, Wed Nov 11 2026. No macro, syntax, notation, axiom, sorry.
-/
import Derived.Test.YthdhcdknbebohaaDoorRows
import GoSem.ClaimSeven
namespace Go.Proofs.YthdhcdknbebohaaDoor
namespace Rows

/-- THE TIED CARD OF 'rabbetlaw11.ZoneTrue'. -/
def zoneTrueCard : Claim7 := { stood := { row := zoneTrueRow, standIns := [], harness := (true, "709c4ef8c7f4a91f15377f4e64761acf7f3b72cf37bc475220da10d0daf75753"), looks := true }, kinds := [], alts := [], laidByText := true, laidKinds := [.sentinel, .sentinel, .sentinel], laidTests := true, laidLooks := .later }
def ZoneTrueCardSaid : Prop := Claim7.holds Tryd.pinned (.plain (OpenSpec.ofChange zoneTrueSpec)) zoneTrueCard

/-- THE TIED CARD OF 'rabbetlaw11.ZoneParts'. -/
def zonePartsCard : Claim7 := { stood := { row := zonePartsRow, standIns := [], harness := (true, "709c4ef8c7f4a91f15377f4e64761acf7f3b72cf37bc475220da10d0daf75753"), looks := true }, kinds := [], alts := [], laidByText := true, laidKinds := [.sentinel, .sentinel, .sentinel], laidTests := true, laidLooks := .later }
def ZonePartsCardSaid : Prop := Claim7.holds Tryd.pinned (.plain (OpenSpec.ofChange zonePartsSpec)) zonePartsCard

/-- THE TIED CARD OF 'rabbetlaw11.ZoneForms'. -/
def zoneFormsCard : Claim7 := { stood := { row := zoneFormsRow, standIns := [], harness := (true, "709c4ef8c7f4a91f15377f4e64761acf7f3b72cf37bc475220da10d0daf75753"), looks := true }, kinds := [], alts := [], laidByText := true, laidKinds := [.sentinel, .sentinel, .sentinel], laidTests := true, laidLooks := .later }
def ZoneFormsCardSaid : Prop := Claim7.holds Tryd.pinned (.plain (OpenSpec.ofChange zoneFormsSpec)) zoneFormsCard

/-- THE SECOND FORM's CARD OF 'rabbetlaw11.ZoneTrue'. -/
def zoneTrueUptoCard : Claim7 := { stood := { row := zoneTrueUptoRow, standIns := [], harness := (true, "709c4ef8c7f4a91f15377f4e64761acf7f3b72cf37bc475220da10d0daf75753"), looks := true }, kinds := [], alts := [], laidByText := true, laidKinds := [.sentinel, .sentinel, .sentinel], laidTests := true, laidLooks := .later }
def ZoneTrueUptoCardSaid : Prop := Claim7.holds Tryd.pinned (.plain (OpenSpec.upto zoneTrueSpec)) zoneTrueUptoCard

/-- THE SECOND FORM's CARD OF 'rabbetlaw11.ZoneParts'. -/
def zonePartsUptoCard : Claim7 := { stood := { row := zonePartsUptoRow, standIns := [], harness := (true, "709c4ef8c7f4a91f15377f4e64761acf7f3b72cf37bc475220da10d0daf75753"), looks := true }, kinds := [], alts := [], laidByText := true, laidKinds := [.sentinel, .sentinel, .sentinel], laidTests := true, laidLooks := .later }
def ZonePartsUptoCardSaid : Prop := Claim7.holds Tryd.pinned (.plain (OpenSpec.upto zonePartsSpec)) zonePartsUptoCard

/-- THE SECOND FORM's CARD OF 'rabbetlaw11.ZoneForms'. -/
def zoneFormsUptoCard : Claim7 := { stood := { row := zoneFormsUptoRow, standIns := [], harness := (true, "709c4ef8c7f4a91f15377f4e64761acf7f3b72cf37bc475220da10d0daf75753"), looks := true }, kinds := [], alts := [], laidByText := true, laidKinds := [.sentinel, .sentinel, .sentinel], laidTests := true, laidLooks := .later }
def ZoneFormsUptoCardSaid : Prop := Claim7.holds Tryd.pinned (.plain (OpenSpec.upto zoneFormsSpec)) zoneFormsUptoCard
end Rows
end Go.Proofs.YthdhcdknbebohaaDoor
