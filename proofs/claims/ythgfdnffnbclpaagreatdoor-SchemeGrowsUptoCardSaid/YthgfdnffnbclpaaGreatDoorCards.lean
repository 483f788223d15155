/-
  DERIVED. GIVEN WITH THE SEED: THE CARDS: each row of YthgfdnffnbclpaaGreatDoorRows.lean that lists a variable, with what it lists TIED to the program's text (the seventh form; the later family's looks); each row that meets fmt, with fmt's text TOLD by the authors' own Lean function (tested against real Go, not proved from fmt's source: count such statements apart). THE CARD IS WHAT COUNTS. Prove the row's statement (the work); the ties are given (YthgfdnffnbclpaaGreatDoorTie.lean); close each card by the builder's one call (the guide's Derived/Test/ToyasCard.lean, 'card_holds'). Laid BY PROGRAM, IN A SANDBOX (cutbox-door.mjs). By AI agents, Wed Nov 11 2026. No macro, syntax, notation, axiom, sorry.
-/
import Derived.Test.YthgfdnffnbclpaaGreatDoorRows
import GoSem.ClaimSeven
namespace Go.Proofs.YthgfdnffnbclpaaGreatDoor
namespace Rows

/-- THE TIED CARD OF 'jointerlaw07.SchemeDrops'. -/
def schemeDropsCard : Claim7 := { stood := { row := schemeDropsRow, standIns := [], harness := (true, "0ec421b691499f29c5645e9ec86aeca7d452af18f5c4e758701c9dd3b62d6445"), looks := false }, kinds := [], alts := [], laidByText := true, laidKinds := [.data, .listed, .data, .pinned, .pinned], laidTests := true, laidLooks := .later }
def SchemeDropsCardSaid : Prop := Claim7.holds Tryz.pinned (.plain (OpenSpec.ofChange schemeDropsSpec)) schemeDropsCard

/-- THE TIED CARD OF 'jointerlaw07.SchemeIndexes'. -/
def schemeIndexesCard : Claim7 := { stood := { row := schemeIndexesRow, standIns := [], harness := (true, "0ec421b691499f29c5645e9ec86aeca7d452af18f5c4e758701c9dd3b62d6445"), looks := false }, kinds := [], alts := [], laidByText := true, laidKinds := [.data, .listed, .data, .pinned, .pinned], laidTests := true, laidLooks := .later }
def SchemeIndexesCardSaid : Prop := Claim7.holds Tryz.pinned (.plain (OpenSpec.ofChange schemeIndexesSpec)) schemeIndexesCard

/-- THE TIED CARD OF 'jointerlaw07.SchemeCreates'. -/
def schemeCreatesCard : Claim7 := { stood := { row := schemeCreatesRow, standIns := [], harness := (true, "0ec421b691499f29c5645e9ec86aeca7d452af18f5c4e758701c9dd3b62d6445"), looks := false }, kinds := [], alts := [], laidByText := true, laidKinds := [.data, .listed, .data, .pinned, .pinned], laidTests := true, laidLooks := .later }
def SchemeCreatesCardSaid : Prop := Claim7.holds Tryz.pinned (.plain (OpenSpec.ofChange schemeCreatesSpec)) schemeCreatesCard

/-- THE TIED CARD OF 'jointerlaw07.SchemeMemory'. -/
def schemeMemoryCard : Claim7 := { stood := { row := schemeMemoryRow, standIns := [], harness := (true, "0ec421b691499f29c5645e9ec86aeca7d452af18f5c4e758701c9dd3b62d6445"), looks := false }, kinds := [], alts := [], laidByText := true, laidKinds := [.data, .listed, .data, .pinned, .pinned], laidTests := true, laidLooks := .later }
def SchemeMemoryCardSaid : Prop := Claim7.holds Tryz.pinned (.plain (OpenSpec.ofChange schemeMemorySpec)) schemeMemoryCard

/-- THE TIED CARD OF 'jointerlaw07.SchemeGrows'. -/
def schemeGrowsCard : Claim7 := { stood := { row := schemeGrowsRow, standIns := [], harness := (true, "0ec421b691499f29c5645e9ec86aeca7d452af18f5c4e758701c9dd3b62d6445"), looks := false }, kinds := [], alts := [], laidByText := true, laidKinds := [.data, .listed, .data, .pinned, .pinned], laidTests := true, laidLooks := .later }
def SchemeGrowsCardSaid : Prop := Claim7.holds Tryz.pinned (.plain (OpenSpec.ofChange schemeGrowsSpec)) schemeGrowsCard

/-- THE SECOND FORM's CARD OF 'jointerlaw07.SchemeDrops'. -/
def schemeDropsUptoCard : Claim7 := { stood := { row := schemeDropsUptoRow, standIns := [], harness := (true, "0ec421b691499f29c5645e9ec86aeca7d452af18f5c4e758701c9dd3b62d6445"), looks := false }, kinds := [], alts := [], laidByText := true, laidKinds := [.data, .listed, .data, .pinned, .pinned], laidTests := true, laidLooks := .later }
def SchemeDropsUptoCardSaid : Prop := Claim7.holds Tryz.pinned (.plain (OpenSpec.upto schemeDropsSpec)) schemeDropsUptoCard

/-- THE SECOND FORM's CARD OF 'jointerlaw07.SchemeIndexes'. -/
def schemeIndexesUptoCard : Claim7 := { stood := { row := schemeIndexesUptoRow, standIns := [], harness := (true, "0ec421b691499f29c5645e9ec86aeca7d452af18f5c4e758701c9dd3b62d6445"), looks := false }, kinds := [], alts := [], laidByText := true, laidKinds := [.data, .listed, .data, .pinned, .pinned], laidTests := true, laidLooks := .later }
def SchemeIndexesUptoCardSaid : Prop := Claim7.holds Tryz.pinned (.plain (OpenSpec.upto schemeIndexesSpec)) schemeIndexesUptoCard

/-- THE SECOND FORM's CARD OF 'jointerlaw07.SchemeCreates'. -/
def schemeCreatesUptoCard : Claim7 := { stood := { row := schemeCreatesUptoRow, standIns := [], harness := (true, "0ec421b691499f29c5645e9ec86aeca7d452af18f5c4e758701c9dd3b62d6445"), looks := false }, kinds := [], alts := [], laidByText := true, laidKinds := [.data, .listed, .data, .pinned, .pinned], laidTests := true, laidLooks := .later }
def SchemeCreatesUptoCardSaid : Prop := Claim7.holds Tryz.pinned (.plain (OpenSpec.upto schemeCreatesSpec)) schemeCreatesUptoCard

/-- THE SECOND FORM's CARD OF 'jointerlaw07.SchemeMemory'. -/
def schemeMemoryUptoCard : Claim7 := { stood := { row := schemeMemoryUptoRow, standIns := [], harness := (true, "0ec421b691499f29c5645e9ec86aeca7d452af18f5c4e758701c9dd3b62d6445"), looks := false }, kinds := [], alts := [], laidByText := true, laidKinds := [.data, .listed, .data, .pinned, .pinned], laidTests := true, laidLooks := .later }
def SchemeMemoryUptoCardSaid : Prop := Claim7.holds Tryz.pinned (.plain (OpenSpec.upto schemeMemorySpec)) schemeMemoryUptoCard

/-- THE SECOND FORM's CARD OF 'jointerlaw07.SchemeGrows'. -/
def schemeGrowsUptoCard : Claim7 := { stood := { row := schemeGrowsUptoRow, standIns := [], harness := (true, "0ec421b691499f29c5645e9ec86aeca7d452af18f5c4e758701c9dd3b62d6445"), looks := false }, kinds := [], alts := [], laidByText := true, laidKinds := [.data, .listed, .data, .pinned, .pinned], laidTests := true, laidLooks := .later }
def SchemeGrowsUptoCardSaid : Prop := Claim7.holds Tryz.pinned (.plain (OpenSpec.upto schemeGrowsSpec)) schemeGrowsUptoCard
end Rows
end Go.Proofs.YthgfdnffnbclpaaGreatDoor
