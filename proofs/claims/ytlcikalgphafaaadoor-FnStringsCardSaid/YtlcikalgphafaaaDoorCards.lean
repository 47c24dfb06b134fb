/-
  DERIVED. GIVEN WITH THE SEED: THE CARDS: each row of YtlcikalgphafaaaDoorRows.lean that lists a variable, with what it lists TIED to the program's text (the seventh form; the later family's looks); each row that meets fmt, with fmt's text TOLD by the authors' own Lean function (tested against real Go, not proved from fmt's source: count such statements apart). THE CARD IS WHAT COUNTS. Prove the row's statement (the work); the ties are given (YtlcikalgphafaaaDoorTie.lean); close each card by the builder's one call (the guide's Derived/Test/ToyasCard.lean, 'card_holds'). Laid BY PROGRAM, IN A SANDBOX (cutbox-door.mjs). By AI agents, Wed Nov 11 2026. No macro, syntax, notation, axiom, sorry.
-/
import Derived.Test.YtlcikalgphafaaaDoorRows
import GoSem.ClaimSeven
namespace Go.Proofs.YtlcikalgphafaaaDoor
namespace Rows

/-- THE TIED CARD OF 'laws.FnStrings'. -/
def fnStringsCard : Claim7 := { stood := { row := fnStringsRow, standIns := [], harness := (true, "873e5595ee93fdd86db99b059e80e3b6f11583fd0092b8a274be8cab4ac549e2"), looks := true }, kinds := [], alts := [], laidByText := true, laidKinds := [.data, .data, .data, .sentinel, .sentinel], laidTests := true, laidLooks := .later }
def FnStringsCardSaid : Prop := Claim7.holds Tryd.pinned (.plain (OpenSpec.ofChange fnStringsSpec)) fnStringsCard

/-- THE TIED CARD OF 'laws.FnSplitJoin'. -/
def fnSplitJoinCard : Claim7 := { stood := { row := fnSplitJoinRow, standIns := [], harness := (true, "873e5595ee93fdd86db99b059e80e3b6f11583fd0092b8a274be8cab4ac549e2"), looks := true }, kinds := [], alts := [], laidByText := true, laidKinds := [.data, .pinned], laidTests := true, laidLooks := .later }
def FnSplitJoinCardSaid : Prop := Claim7.holds Tryd.pinned (.plain (OpenSpec.ofChange fnSplitJoinSpec)) fnSplitJoinCard

/-- THE TIED CARD OF 'laws.FnSlices'. -/
def fnSlicesCard : Claim7 := { stood := { row := fnSlicesRow, standIns := [], harness := (true, "873e5595ee93fdd86db99b059e80e3b6f11583fd0092b8a274be8cab4ac549e2"), looks := true }, kinds := [], alts := [], laidByText := true, laidKinds := [.data, .data, .data], laidTests := true, laidLooks := .later }
def FnSlicesCardSaid : Prop := Claim7.holds Tryd.pinned (.plain (OpenSpec.ofChange fnSlicesSpec)) fnSlicesCard

/-- THE TIED CARD OF 'laws.FnExactParseMemory'. -/
def fnExactParseMemoryCard : Claim7 := { stood := { row := fnExactParseMemoryRow, standIns := [], harness := (true, "873e5595ee93fdd86db99b059e80e3b6f11583fd0092b8a274be8cab4ac549e2"), looks := true }, kinds := [], alts := [], laidByText := true, laidKinds := [.data, .pinned], laidTests := true, laidLooks := .later }
def FnExactParseMemoryCardSaid : Prop := Claim7.holds Tryd.pinned (.plain (OpenSpec.ofChange fnExactParseMemorySpec)) fnExactParseMemoryCard

/-- THE SECOND FORM's CARD OF 'laws.FnStrings'. -/
def fnStringsUptoCard : Claim7 := { stood := { row := fnStringsUptoRow, standIns := [], harness := (true, "873e5595ee93fdd86db99b059e80e3b6f11583fd0092b8a274be8cab4ac549e2"), looks := true }, kinds := [], alts := [], laidByText := true, laidKinds := [.data, .data, .data, .sentinel, .sentinel], laidTests := true, laidLooks := .later }
def FnStringsUptoCardSaid : Prop := Claim7.holds Tryd.pinned (.plain (OpenSpec.upto fnStringsSpec)) fnStringsUptoCard

/-- THE SECOND FORM's CARD OF 'laws.FnSplitJoin'. -/
def fnSplitJoinUptoCard : Claim7 := { stood := { row := fnSplitJoinUptoRow, standIns := [], harness := (true, "873e5595ee93fdd86db99b059e80e3b6f11583fd0092b8a274be8cab4ac549e2"), looks := true }, kinds := [], alts := [], laidByText := true, laidKinds := [.data, .pinned], laidTests := true, laidLooks := .later }
def FnSplitJoinUptoCardSaid : Prop := Claim7.holds Tryd.pinned (.plain (OpenSpec.upto fnSplitJoinSpec)) fnSplitJoinUptoCard

/-- THE SECOND FORM's CARD OF 'laws.FnSlices'. -/
def fnSlicesUptoCard : Claim7 := { stood := { row := fnSlicesUptoRow, standIns := [], harness := (true, "873e5595ee93fdd86db99b059e80e3b6f11583fd0092b8a274be8cab4ac549e2"), looks := true }, kinds := [], alts := [], laidByText := true, laidKinds := [.data, .data, .data], laidTests := true, laidLooks := .later }
def FnSlicesUptoCardSaid : Prop := Claim7.holds Tryd.pinned (.plain (OpenSpec.upto fnSlicesSpec)) fnSlicesUptoCard

/-- THE SECOND FORM's CARD OF 'laws.FnExactParseMemory'. -/
def fnExactParseMemoryUptoCard : Claim7 := { stood := { row := fnExactParseMemoryUptoRow, standIns := [], harness := (true, "873e5595ee93fdd86db99b059e80e3b6f11583fd0092b8a274be8cab4ac549e2"), looks := true }, kinds := [], alts := [], laidByText := true, laidKinds := [.data, .pinned], laidTests := true, laidLooks := .later }
def FnExactParseMemoryUptoCardSaid : Prop := Claim7.holds Tryd.pinned (.plain (OpenSpec.upto fnExactParseMemorySpec)) fnExactParseMemoryUptoCard
end Rows
end Go.Proofs.YtlcikalgphafaaaDoor
