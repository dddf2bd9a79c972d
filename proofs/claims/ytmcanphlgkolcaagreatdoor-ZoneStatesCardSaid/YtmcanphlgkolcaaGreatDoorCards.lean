/-
  DERIVED. GIVEN WITH THE SEED: THE CARDS: each row of YtmcanphlgkolcaaGreatDoorRows.lean that lists a variable, with what it lists TIED to the program's text (the seventh form; the later family's looks); each row that meets fmt, with fmt's text TOLD by the authors' own Lean function (tested against real Go, not proved from fmt's source: count such statements apart). THE CARD IS WHAT COUNTS. Prove the row's statement (the work); the ties are given (YtmcanphlgkolcaaGreatDoorTie.lean); close each card by the builder's one call (the guide's Derived/Test/ToyasCard.lean, 'card_holds'). Laid BY PROGRAM, IN A SANDBOX (cutbox-door.mjs). By AI agents, Wed Nov 11 2026. No macro, syntax, notation, axiom, sorry.
-/
import Derived.Test.YtmcanphlgkolcaaGreatDoorRows
import GoSem.ClaimSeven
namespace Go.Proofs.YtmcanphlgkolcaaGreatDoor
namespace Rows

/-- THE TIED CARD OF 'satrapylaw15.ZoneStates'. -/
def zoneStatesCard : Claim7 := { stood := { row := zoneStatesRow, standIns := [], harness := (true, "122c0cb2dfa944089ca54db68d27fd63e3457a982a91cf9d718c002f74975b35"), looks := true }, kinds := [], alts := [], laidByText := true, laidKinds := [.data, .data, .data], laidTests := true, laidLooks := .later }
def ZoneStatesCardSaid : Prop := Claim7.holds Tryz.pinned (.plain (OpenSpec.ofChange zoneStatesSpec)) zoneStatesCard

/-- THE TIED CARD OF 'satrapylaw15.ZoneApart'. -/
def zoneApartCard : Claim7 := { stood := { row := zoneApartRow, standIns := [], harness := (true, "122c0cb2dfa944089ca54db68d27fd63e3457a982a91cf9d718c002f74975b35"), looks := true }, kinds := [], alts := [], laidByText := true, laidKinds := [.data, .data, .data], laidTests := true, laidLooks := .later }
def ZoneApartCardSaid : Prop := Claim7.holds Tryz.pinned (.plain (OpenSpec.ofChange zoneApartSpec)) zoneApartCard

/-- THE TIED CARD OF 'satrapylaw15.ZoneShips'. -/
def zoneShipsCard : Claim7 := { stood := { row := zoneShipsRow, standIns := [], harness := (true, "122c0cb2dfa944089ca54db68d27fd63e3457a982a91cf9d718c002f74975b35"), looks := true }, kinds := [], alts := [], laidByText := true, laidKinds := [.data, .data, .data], laidTests := true, laidLooks := .later }
def ZoneShipsCardSaid : Prop := Claim7.holds Tryz.pinned (.plain (OpenSpec.ofChange zoneShipsSpec)) zoneShipsCard

/-- THE TIED CARD OF 'satrapylaw15.ZoneParts'. -/
def zonePartsCard : Claim7 := { stood := { row := zonePartsRow, standIns := [], harness := (true, "122c0cb2dfa944089ca54db68d27fd63e3457a982a91cf9d718c002f74975b35"), looks := true }, kinds := [], alts := [], laidByText := true, laidKinds := [.data, .data, .data], laidTests := true, laidLooks := .later }
def ZonePartsCardSaid : Prop := Claim7.holds Tryz.pinned (.plain (OpenSpec.ofChange zonePartsSpec)) zonePartsCard

/-- THE SECOND FORM's CARD OF 'satrapylaw15.ZoneStates'. -/
def zoneStatesUptoCard : Claim7 := { stood := { row := zoneStatesUptoRow, standIns := [], harness := (true, "122c0cb2dfa944089ca54db68d27fd63e3457a982a91cf9d718c002f74975b35"), looks := true }, kinds := [], alts := [], laidByText := true, laidKinds := [.data, .data, .data], laidTests := true, laidLooks := .later }
def ZoneStatesUptoCardSaid : Prop := Claim7.holds Tryz.pinned (.plain (OpenSpec.upto zoneStatesSpec)) zoneStatesUptoCard

/-- THE SECOND FORM's CARD OF 'satrapylaw15.ZoneApart'. -/
def zoneApartUptoCard : Claim7 := { stood := { row := zoneApartUptoRow, standIns := [], harness := (true, "122c0cb2dfa944089ca54db68d27fd63e3457a982a91cf9d718c002f74975b35"), looks := true }, kinds := [], alts := [], laidByText := true, laidKinds := [.data, .data, .data], laidTests := true, laidLooks := .later }
def ZoneApartUptoCardSaid : Prop := Claim7.holds Tryz.pinned (.plain (OpenSpec.upto zoneApartSpec)) zoneApartUptoCard

/-- THE SECOND FORM's CARD OF 'satrapylaw15.ZoneShips'. -/
def zoneShipsUptoCard : Claim7 := { stood := { row := zoneShipsUptoRow, standIns := [], harness := (true, "122c0cb2dfa944089ca54db68d27fd63e3457a982a91cf9d718c002f74975b35"), looks := true }, kinds := [], alts := [], laidByText := true, laidKinds := [.data, .data, .data], laidTests := true, laidLooks := .later }
def ZoneShipsUptoCardSaid : Prop := Claim7.holds Tryz.pinned (.plain (OpenSpec.upto zoneShipsSpec)) zoneShipsUptoCard

/-- THE SECOND FORM's CARD OF 'satrapylaw15.ZoneParts'. -/
def zonePartsUptoCard : Claim7 := { stood := { row := zonePartsUptoRow, standIns := [], harness := (true, "122c0cb2dfa944089ca54db68d27fd63e3457a982a91cf9d718c002f74975b35"), looks := true }, kinds := [], alts := [], laidByText := true, laidKinds := [.data, .data, .data], laidTests := true, laidLooks := .later }
def ZonePartsUptoCardSaid : Prop := Claim7.holds Tryz.pinned (.plain (OpenSpec.upto zonePartsSpec)) zonePartsUptoCard
end Rows
end Go.Proofs.YtmcanphlgkolcaaGreatDoor
