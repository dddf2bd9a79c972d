/-
  DERIVED. GIVEN WITH THE SEED: THE CARDS: each row of YteobfgmkajddfaaGreatDoorRows.lean that lists a variable, with what it lists TIED to the program's text (the seventh form; the later family's looks); each row that meets fmt, with fmt's text TOLD by the authors' own Lean function (tested against real Go, not proved from fmt's source: count such statements apart). THE CARD IS WHAT COUNTS. Prove the row's statement (the work); the ties are given (YteobfgmkajddfaaGreatDoorTie.lean); close each card by the builder's one call (the guide's Derived/Test/ToyasCard.lean, 'card_holds'). Laid BY PROGRAM, IN A SANDBOX (cutbox-door.mjs). By AI agents, Wed Nov 11 2026. No macro, syntax, notation, axiom, sorry.
-/
import Derived.Test.YteobfgmkajddfaaGreatDoorRows
import GoSem.ClaimSeven
namespace Go.Proofs.YteobfgmkajddfaaGreatDoor
namespace Rows

/-- THE TIED CARD OF 'satrapylaw15.ZoneStates'. -/
def zoneStatesCard : Claim7 := { stood := { row := zoneStatesRow, standIns := [], harness := (true, "9136f48bb7bcd2a46184cb49a1cb5fe8bc4b790fecab0d14f30913855dd4de38"), looks := true }, kinds := [], alts := [], laidByText := true, laidKinds := [.data, .data, .data], laidTests := true, laidLooks := .later }
def ZoneStatesCardSaid : Prop := Claim7.holds Tryz.pinned (.plain (OpenSpec.ofChange zoneStatesSpec)) zoneStatesCard

/-- THE TIED CARD OF 'satrapylaw15.ZoneOld'. -/
def zoneOldCard : Claim7 := { stood := { row := zoneOldRow, standIns := [], harness := (true, "9136f48bb7bcd2a46184cb49a1cb5fe8bc4b790fecab0d14f30913855dd4de38"), looks := true }, kinds := [], alts := [], laidByText := true, laidKinds := [.data, .data, .data], laidTests := true, laidLooks := .later }
def ZoneOldCardSaid : Prop := Claim7.holds Tryz.pinned (.plain (OpenSpec.ofChange zoneOldSpec)) zoneOldCard

/-- THE TIED CARD OF 'satrapylaw15.ZoneOfNothing'. -/
def zoneOfNothingCard : Claim7 := { stood := { row := zoneOfNothingRow, standIns := [], harness := (true, "9136f48bb7bcd2a46184cb49a1cb5fe8bc4b790fecab0d14f30913855dd4de38"), looks := true }, kinds := [], alts := [], laidByText := true, laidKinds := [.data, .data, .data], laidTests := true, laidLooks := .later }
def ZoneOfNothingCardSaid : Prop := Claim7.holds Tryz.pinned (.plain (OpenSpec.ofChange zoneOfNothingSpec)) zoneOfNothingCard

/-- THE TIED CARD OF 'satrapylaw23.TargetOfNothing'. -/
def targetOfNothingCard : Claim7 := { stood := { row := targetOfNothingRow, standIns := [], harness := (true, "9136f48bb7bcd2a46184cb49a1cb5fe8bc4b790fecab0d14f30913855dd4de38"), looks := true }, kinds := [], alts := [], laidByText := true, laidKinds := [.data, .data, .data], laidTests := true, laidLooks := .later }
def TargetOfNothingCardSaid : Prop := Claim7.holds Tryz.pinned (.plain (OpenSpec.ofChange targetOfNothingSpec)) targetOfNothingCard

/-- THE SECOND FORM's CARD OF 'satrapylaw15.ZoneStates'. -/
def zoneStatesUptoCard : Claim7 := { stood := { row := zoneStatesUptoRow, standIns := [], harness := (true, "9136f48bb7bcd2a46184cb49a1cb5fe8bc4b790fecab0d14f30913855dd4de38"), looks := true }, kinds := [], alts := [], laidByText := true, laidKinds := [.data, .data, .data], laidTests := true, laidLooks := .later }
def ZoneStatesUptoCardSaid : Prop := Claim7.holds Tryz.pinned (.plain (OpenSpec.upto zoneStatesSpec)) zoneStatesUptoCard

/-- THE SECOND FORM's CARD OF 'satrapylaw15.ZoneOld'. -/
def zoneOldUptoCard : Claim7 := { stood := { row := zoneOldUptoRow, standIns := [], harness := (true, "9136f48bb7bcd2a46184cb49a1cb5fe8bc4b790fecab0d14f30913855dd4de38"), looks := true }, kinds := [], alts := [], laidByText := true, laidKinds := [.data, .data, .data], laidTests := true, laidLooks := .later }
def ZoneOldUptoCardSaid : Prop := Claim7.holds Tryz.pinned (.plain (OpenSpec.upto zoneOldSpec)) zoneOldUptoCard

/-- THE SECOND FORM's CARD OF 'satrapylaw15.ZoneOfNothing'. -/
def zoneOfNothingUptoCard : Claim7 := { stood := { row := zoneOfNothingUptoRow, standIns := [], harness := (true, "9136f48bb7bcd2a46184cb49a1cb5fe8bc4b790fecab0d14f30913855dd4de38"), looks := true }, kinds := [], alts := [], laidByText := true, laidKinds := [.data, .data, .data], laidTests := true, laidLooks := .later }
def ZoneOfNothingUptoCardSaid : Prop := Claim7.holds Tryz.pinned (.plain (OpenSpec.upto zoneOfNothingSpec)) zoneOfNothingUptoCard

/-- THE SECOND FORM's CARD OF 'satrapylaw23.TargetOfNothing'. -/
def targetOfNothingUptoCard : Claim7 := { stood := { row := targetOfNothingUptoRow, standIns := [], harness := (true, "9136f48bb7bcd2a46184cb49a1cb5fe8bc4b790fecab0d14f30913855dd4de38"), looks := true }, kinds := [], alts := [], laidByText := true, laidKinds := [.data, .data, .data], laidTests := true, laidLooks := .later }
def TargetOfNothingUptoCardSaid : Prop := Claim7.holds Tryz.pinned (.plain (OpenSpec.upto targetOfNothingSpec)) targetOfNothingUptoCard
end Rows
end Go.Proofs.YteobfgmkajddfaaGreatDoor
