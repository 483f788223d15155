/-
  DERIVED. GIVEN WITH THE SEED: THE CARDS: each row of YthgfdnffnbclpaaDoorRows.lean that lists a variable, with what it lists TIED to the program's text (the seventh form; the later family's looks); each row that meets fmt, with fmt's text TOLD by the authors' own Lean function (tested against real Go, not proved from fmt's source: count such statements apart). THE CARD IS WHAT COUNTS. Prove the row's statement (the work); the ties are given (YthgfdnffnbclpaaDoorTie.lean); close each card by the builder's one call (the guide's Derived/Test/ToyasCard.lean, 'card_holds'). Laid BY PROGRAM, IN A SANDBOX (cutbox-door.mjs). By AI agents, Wed Nov 11 2026. No macro, syntax, notation, axiom, sorry.
-/
import Derived.Test.YthgfdnffnbclpaaDoorRows
import GoSem.ClaimSeven
namespace Go.Proofs.YthgfdnffnbclpaaDoor
namespace Rows

/-- THE TIED CARD OF 'jointerlaw07.SchemeValids'. -/
def schemeValidsCard : Claim7 := { stood := { row := schemeValidsRow, standIns := [], harness := (true, "074d713a356e718f8dd08c80de87704cfd350ce78b5f3136476fc775d011eead"), looks := false }, kinds := [], alts := [], laidByText := true, laidKinds := [.data, .listed, .data, .pinned, .pinned], laidTests := true, laidLooks := .later }
def SchemeValidsCardSaid : Prop := Claim7.holds Tryd.pinned (.plain (OpenSpec.ofChange schemeValidsSpec)) schemeValidsCard

/-- THE TIED CARD OF 'jointerlaw07.SchemeInserts'. -/
def schemeInsertsCard : Claim7 := { stood := { row := schemeInsertsRow, standIns := [], harness := (true, "074d713a356e718f8dd08c80de87704cfd350ce78b5f3136476fc775d011eead"), looks := false }, kinds := [], alts := [], laidByText := true, laidKinds := [.data, .listed, .data, .pinned, .pinned], laidTests := true, laidLooks := .later }
def SchemeInsertsCardSaid : Prop := Claim7.holds Tryd.pinned (.plain (OpenSpec.ofChange schemeInsertsSpec)) schemeInsertsCard

/-- THE TIED CARD OF 'jointerlaw07.SchemeDeletes'. -/
def schemeDeletesCard : Claim7 := { stood := { row := schemeDeletesRow, standIns := [], harness := (true, "074d713a356e718f8dd08c80de87704cfd350ce78b5f3136476fc775d011eead"), looks := false }, kinds := [], alts := [], laidByText := true, laidKinds := [.data, .listed, .data, .pinned, .pinned], laidTests := true, laidLooks := .later }
def SchemeDeletesCardSaid : Prop := Claim7.holds Tryd.pinned (.plain (OpenSpec.ofChange schemeDeletesSpec)) schemeDeletesCard

/-- THE TIED CARD OF 'jointerlaw07.SchemeParts'. -/
def schemePartsCard : Claim7 := { stood := { row := schemePartsRow, standIns := [], harness := (true, "074d713a356e718f8dd08c80de87704cfd350ce78b5f3136476fc775d011eead"), looks := false }, kinds := [], alts := [], laidByText := true, laidKinds := [.data, .listed, .data, .pinned, .pinned], laidTests := true, laidLooks := .later }
def SchemePartsCardSaid : Prop := Claim7.holds Tryd.pinned (.plain (OpenSpec.ofChange schemePartsSpec)) schemePartsCard

/-- THE SECOND FORM's CARD OF 'jointerlaw07.SchemeValids'. -/
def schemeValidsUptoCard : Claim7 := { stood := { row := schemeValidsUptoRow, standIns := [], harness := (true, "074d713a356e718f8dd08c80de87704cfd350ce78b5f3136476fc775d011eead"), looks := false }, kinds := [], alts := [], laidByText := true, laidKinds := [.data, .listed, .data, .pinned, .pinned], laidTests := true, laidLooks := .later }
def SchemeValidsUptoCardSaid : Prop := Claim7.holds Tryd.pinned (.plain (OpenSpec.upto schemeValidsSpec)) schemeValidsUptoCard

/-- THE SECOND FORM's CARD OF 'jointerlaw07.SchemeInserts'. -/
def schemeInsertsUptoCard : Claim7 := { stood := { row := schemeInsertsUptoRow, standIns := [], harness := (true, "074d713a356e718f8dd08c80de87704cfd350ce78b5f3136476fc775d011eead"), looks := false }, kinds := [], alts := [], laidByText := true, laidKinds := [.data, .listed, .data, .pinned, .pinned], laidTests := true, laidLooks := .later }
def SchemeInsertsUptoCardSaid : Prop := Claim7.holds Tryd.pinned (.plain (OpenSpec.upto schemeInsertsSpec)) schemeInsertsUptoCard

/-- THE SECOND FORM's CARD OF 'jointerlaw07.SchemeDeletes'. -/
def schemeDeletesUptoCard : Claim7 := { stood := { row := schemeDeletesUptoRow, standIns := [], harness := (true, "074d713a356e718f8dd08c80de87704cfd350ce78b5f3136476fc775d011eead"), looks := false }, kinds := [], alts := [], laidByText := true, laidKinds := [.data, .listed, .data, .pinned, .pinned], laidTests := true, laidLooks := .later }
def SchemeDeletesUptoCardSaid : Prop := Claim7.holds Tryd.pinned (.plain (OpenSpec.upto schemeDeletesSpec)) schemeDeletesUptoCard

/-- THE SECOND FORM's CARD OF 'jointerlaw07.SchemeParts'. -/
def schemePartsUptoCard : Claim7 := { stood := { row := schemePartsUptoRow, standIns := [], harness := (true, "074d713a356e718f8dd08c80de87704cfd350ce78b5f3136476fc775d011eead"), looks := false }, kinds := [], alts := [], laidByText := true, laidKinds := [.data, .listed, .data, .pinned, .pinned], laidTests := true, laidLooks := .later }
def SchemePartsUptoCardSaid : Prop := Claim7.holds Tryd.pinned (.plain (OpenSpec.upto schemePartsSpec)) schemePartsUptoCard
end Rows
end Go.Proofs.YthgfdnffnbclpaaDoor
