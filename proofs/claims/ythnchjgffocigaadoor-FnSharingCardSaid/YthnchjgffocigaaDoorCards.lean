/-
  DERIVED. GIVEN WITH THE SEED: THE CARDS: each row of YthnchjgffocigaaDoorRows.lean that lists a variable, with what it lists TIED to the program's text (the seventh form; the later family's looks); each row that meets fmt, with fmt's text TOLD by the authors' own Lean function (tested against real Go, not proved from fmt's source: count such statements apart). THE CARD IS WHAT COUNTS. Prove the row's statement (the work); the ties are given (YthnchjgffocigaaDoorTie.lean); close each card by the builder's one call (the guide's Derived/Test/ToyasCard.lean, 'card_holds'). Laid BY PROGRAM, IN A SANDBOX (cutbox-door.mjs). By AI agents, Wed Nov 11 2026. No macro, syntax, notation, axiom, sorry.
-/
import Derived.Test.YthnchjgffocigaaDoorRows
import GoSem.ClaimSeven
namespace Go.Proofs.YthnchjgffocigaaDoor
namespace Rows

/-- THE TIED CARD OF 'laws.FnSharing'. -/
def fnSharingCard : Claim7 := { stood := { row := fnSharingRow, standIns := [], harness := (true, "0286eec5d63251e4d9c124edb7c430d0f58ca461609789ebc4f4d0c7a50c3b0b"), looks := false }, kinds := [], alts := [], laidByText := true, laidKinds := [.data, .data], laidTests := true, laidLooks := .later }
def FnSharingCardSaid : Prop := Claim7.holds Tryd.pinned (.plain (OpenSpec.ofChange fnSharingSpec)) fnSharingCard

/-- THE TIED CARD OF 'laws.FnExactMostApart'. -/
def fnExactMostApartCard : Claim7 := { stood := { row := fnExactMostApartRow, standIns := [], harness := (true, "0286eec5d63251e4d9c124edb7c430d0f58ca461609789ebc4f4d0c7a50c3b0b"), looks := false }, kinds := [], alts := [], laidByText := true, laidKinds := [.data, .data], laidTests := true, laidLooks := .later }
def FnExactMostApartCardSaid : Prop := Claim7.holds Tryd.pinned (.plain (OpenSpec.ofChange fnExactMostApartSpec)) fnExactMostApartCard

/-- THE TIED CARD OF 'laws.FnSlices'. -/
def fnSlicesCard : Claim7 := { stood := { row := fnSlicesRow, standIns := [], harness := (true, "0286eec5d63251e4d9c124edb7c430d0f58ca461609789ebc4f4d0c7a50c3b0b"), looks := false }, kinds := [], alts := [], laidByText := true, laidKinds := [.data, .data, .data], laidTests := true, laidLooks := .later }
def FnSlicesCardSaid : Prop := Claim7.holds Tryd.pinned (.plain (OpenSpec.ofChange fnSlicesSpec)) fnSlicesCard

/-- THE SECOND FORM's CARD OF 'laws.FnSharing'. -/
def fnSharingUptoCard : Claim7 := { stood := { row := fnSharingUptoRow, standIns := [], harness := (true, "0286eec5d63251e4d9c124edb7c430d0f58ca461609789ebc4f4d0c7a50c3b0b"), looks := false }, kinds := [], alts := [], laidByText := true, laidKinds := [.data, .data], laidTests := true, laidLooks := .later }
def FnSharingUptoCardSaid : Prop := Claim7.holds Tryd.pinned (.plain (OpenSpec.upto fnSharingSpec)) fnSharingUptoCard

/-- THE SECOND FORM's CARD OF 'laws.FnExactMostApart'. -/
def fnExactMostApartUptoCard : Claim7 := { stood := { row := fnExactMostApartUptoRow, standIns := [], harness := (true, "0286eec5d63251e4d9c124edb7c430d0f58ca461609789ebc4f4d0c7a50c3b0b"), looks := false }, kinds := [], alts := [], laidByText := true, laidKinds := [.data, .data], laidTests := true, laidLooks := .later }
def FnExactMostApartUptoCardSaid : Prop := Claim7.holds Tryd.pinned (.plain (OpenSpec.upto fnExactMostApartSpec)) fnExactMostApartUptoCard

/-- THE SECOND FORM's CARD OF 'laws.FnSlices'. -/
def fnSlicesUptoCard : Claim7 := { stood := { row := fnSlicesUptoRow, standIns := [], harness := (true, "0286eec5d63251e4d9c124edb7c430d0f58ca461609789ebc4f4d0c7a50c3b0b"), looks := false }, kinds := [], alts := [], laidByText := true, laidKinds := [.data, .data, .data], laidTests := true, laidLooks := .later }
def FnSlicesUptoCardSaid : Prop := Claim7.holds Tryd.pinned (.plain (OpenSpec.upto fnSlicesSpec)) fnSlicesUptoCard
end Rows
end Go.Proofs.YthnchjgffocigaaDoor
