/-
  DERIVED. GIVEN WITH THE SEED: THE CARDS: each row of YtihekdlcfohkkaaGreatDoorRows.lean that lists a variable, with what it lists TIED to the program's text (the seventh form; the later family's looks); each row that meets fmt, with fmt's text TOLD by the authors' own Lean function (tested against real Go, not proved from fmt's source: count such statements apart). THE CARD IS WHAT COUNTS. Prove the row's statement (the work); the ties are given (YtihekdlcfohkkaaGreatDoorTie.lean); close each card by the builder's one call (the guide's Derived/Test/ToyasCard.lean, 'card_holds'). Laid BY PROGRAM, IN A SANDBOX (cutbox-door.mjs). By AI agents, Wed Nov 11 2026. No macro, syntax, notation, axiom, sorry.
-/
import Derived.Test.YtihekdlcfohkkaaGreatDoorRows
import GoSem.ClaimSeven
namespace Go.Proofs.YtihekdlcfohkkaaGreatDoor
namespace Rows

/-- THE TIED CARD OF 'laws.FnExactSettleNet'. -/
def fnExactSettleNetCard : Claim7 := { stood := { row := fnExactSettleNetRow, standIns := [], harness := (true, "70c8ab9978485109f3e0cdbdc6e7f19b00bfdc69d6a0e359aab9e79e35d5b23a"), looks := false }, kinds := [], alts := [], laidByText := true, laidKinds := [.data, .pinned], laidTests := true, laidLooks := .later }
def FnExactSettleNetCardSaid : Prop := Claim7.holds Tryz.pinned (.plain (OpenSpec.ofChange fnExactSettleNetSpec)) fnExactSettleNetCard

/-- THE TIED CARD OF 'laws.FnExactPlayNet'. -/
def fnExactPlayNetCard : Claim7 := { stood := { row := fnExactPlayNetRow, standIns := [], harness := (true, "70c8ab9978485109f3e0cdbdc6e7f19b00bfdc69d6a0e359aab9e79e35d5b23a"), looks := false }, kinds := [], alts := [], laidByText := true, laidKinds := [.data, .pinned], laidTests := true, laidLooks := .later }
def FnExactPlayNetCardSaid : Prop := Claim7.holds Tryz.pinned (.plain (OpenSpec.ofChange fnExactPlayNetSpec)) fnExactPlayNetCard

/-- THE TIED CARD OF 'laws.FnExactStepNet'. -/
def fnExactStepNetCard : Claim7 := { stood := { row := fnExactStepNetRow, standIns := [], harness := (true, "70c8ab9978485109f3e0cdbdc6e7f19b00bfdc69d6a0e359aab9e79e35d5b23a"), looks := false }, kinds := [], alts := [], laidByText := true, laidKinds := [.data, .pinned], laidTests := true, laidLooks := .later }
def FnExactStepNetCardSaid : Prop := Claim7.holds Tryz.pinned (.plain (OpenSpec.ofChange fnExactStepNetSpec)) fnExactStepNetCard

/-- THE TIED CARD OF 'laws.FnNet'. -/
def fnNetCard : Claim7 := { stood := { row := fnNetRow, standIns := [], harness := (true, "70c8ab9978485109f3e0cdbdc6e7f19b00bfdc69d6a0e359aab9e79e35d5b23a"), looks := false }, kinds := [], alts := [], laidByText := true, laidKinds := [.data, .pinned], laidTests := true, laidLooks := .later }
def FnNetCardSaid : Prop := Claim7.holds Tryz.pinned (.plain (OpenSpec.ofChange fnNetSpec)) fnNetCard

/-- THE TIED CARD OF 'laws.FnNets'. -/
def fnNetsCard : Claim7 := { stood := { row := fnNetsRow, standIns := [], harness := (true, "70c8ab9978485109f3e0cdbdc6e7f19b00bfdc69d6a0e359aab9e79e35d5b23a"), looks := false }, kinds := [], alts := [], laidByText := true, laidKinds := [.data, .pinned], laidTests := true, laidLooks := .later }
def FnNetsCardSaid : Prop := Claim7.holds Tryz.pinned (.plain (OpenSpec.ofChange fnNetsSpec)) fnNetsCard

/-- THE SECOND FORM's CARD OF 'laws.FnExactSettleNet'. -/
def fnExactSettleNetUptoCard : Claim7 := { stood := { row := fnExactSettleNetUptoRow, standIns := [], harness := (true, "70c8ab9978485109f3e0cdbdc6e7f19b00bfdc69d6a0e359aab9e79e35d5b23a"), looks := false }, kinds := [], alts := [], laidByText := true, laidKinds := [.data, .pinned], laidTests := true, laidLooks := .later }
def FnExactSettleNetUptoCardSaid : Prop := Claim7.holds Tryz.pinned (.plain (OpenSpec.upto fnExactSettleNetSpec)) fnExactSettleNetUptoCard

/-- THE SECOND FORM's CARD OF 'laws.FnExactPlayNet'. -/
def fnExactPlayNetUptoCard : Claim7 := { stood := { row := fnExactPlayNetUptoRow, standIns := [], harness := (true, "70c8ab9978485109f3e0cdbdc6e7f19b00bfdc69d6a0e359aab9e79e35d5b23a"), looks := false }, kinds := [], alts := [], laidByText := true, laidKinds := [.data, .pinned], laidTests := true, laidLooks := .later }
def FnExactPlayNetUptoCardSaid : Prop := Claim7.holds Tryz.pinned (.plain (OpenSpec.upto fnExactPlayNetSpec)) fnExactPlayNetUptoCard

/-- THE SECOND FORM's CARD OF 'laws.FnExactStepNet'. -/
def fnExactStepNetUptoCard : Claim7 := { stood := { row := fnExactStepNetUptoRow, standIns := [], harness := (true, "70c8ab9978485109f3e0cdbdc6e7f19b00bfdc69d6a0e359aab9e79e35d5b23a"), looks := false }, kinds := [], alts := [], laidByText := true, laidKinds := [.data, .pinned], laidTests := true, laidLooks := .later }
def FnExactStepNetUptoCardSaid : Prop := Claim7.holds Tryz.pinned (.plain (OpenSpec.upto fnExactStepNetSpec)) fnExactStepNetUptoCard

/-- THE SECOND FORM's CARD OF 'laws.FnNet'. -/
def fnNetUptoCard : Claim7 := { stood := { row := fnNetUptoRow, standIns := [], harness := (true, "70c8ab9978485109f3e0cdbdc6e7f19b00bfdc69d6a0e359aab9e79e35d5b23a"), looks := false }, kinds := [], alts := [], laidByText := true, laidKinds := [.data, .pinned], laidTests := true, laidLooks := .later }
def FnNetUptoCardSaid : Prop := Claim7.holds Tryz.pinned (.plain (OpenSpec.upto fnNetSpec)) fnNetUptoCard

/-- THE SECOND FORM's CARD OF 'laws.FnNets'. -/
def fnNetsUptoCard : Claim7 := { stood := { row := fnNetsUptoRow, standIns := [], harness := (true, "70c8ab9978485109f3e0cdbdc6e7f19b00bfdc69d6a0e359aab9e79e35d5b23a"), looks := false }, kinds := [], alts := [], laidByText := true, laidKinds := [.data, .pinned], laidTests := true, laidLooks := .later }
def FnNetsUptoCardSaid : Prop := Claim7.holds Tryz.pinned (.plain (OpenSpec.upto fnNetsSpec)) fnNetsUptoCard
end Rows
end Go.Proofs.YtihekdlcfohkkaaGreatDoor
