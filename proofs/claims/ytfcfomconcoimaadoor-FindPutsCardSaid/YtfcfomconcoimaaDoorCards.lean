/-
  DERIVED. GIVEN WITH THE SEED: THE CARDS: each row of YtfcfomconcoimaaDoorRows.lean that lists a variable, with what it lists TIED to the program's text (the seventh form; the later family's looks); each row that meets fmt, with fmt's text TOLD by the authors' own Lean function (tested against real Go, not proved from fmt's source: count such statements apart). THE CARD IS WHAT COUNTS. Prove the row's statement (the work); the ties are given (YtfcfomconcoimaaDoorTie.lean); close each card by the builder's one call (the guide's Derived/Test/ToyasCard.lean, 'card_holds'). Laid BY PROGRAM, IN A SANDBOX (cutbox-door.mjs). By AI agents, Wed Nov 11 2026. No macro, syntax, notation, axiom, sorry.
-/
import Derived.Test.YtfcfomconcoimaaDoorRows
import GoSem.ClaimSeven
namespace Go.Proofs.YtfcfomconcoimaaDoor
namespace Rows

/-- THE TIED CARD OF 'emenderlaw26.FindFolds'. -/
def findFoldsCard : Claim7 := { stood := { row := findFoldsRow, standIns := [], harness := (true, "60fe3b0bb26cb1aa178cca663dd8cc3ee2b3390cf6de4945f091c253ff869a2b"), looks := false }, kinds := [], alts := [], laidByText := true, laidKinds := [.data, .pinned], laidTests := true, laidLooks := .later }
def FindFoldsCardSaid : Prop := Claim7.holds Tryd.pinned (.plain (OpenSpec.ofChange findFoldsSpec)) findFoldsCard

/-- THE TIED CARD OF 'emenderlaw26.FindFits'. -/
def findFitsCard : Claim7 := { stood := { row := findFitsRow, standIns := [], harness := (true, "60fe3b0bb26cb1aa178cca663dd8cc3ee2b3390cf6de4945f091c253ff869a2b"), looks := false }, kinds := [], alts := [], laidByText := true, laidKinds := [.data, .pinned], laidTests := true, laidLooks := .later }
def FindFitsCardSaid : Prop := Claim7.holds Tryd.pinned (.plain (OpenSpec.ofChange findFitsSpec)) findFitsCard

/-- THE TIED CARD OF 'emenderlaw26.FindPuts'. -/
def findPutsCard : Claim7 := { stood := { row := findPutsRow, standIns := [], harness := (true, "60fe3b0bb26cb1aa178cca663dd8cc3ee2b3390cf6de4945f091c253ff869a2b"), looks := false }, kinds := [], alts := [], laidByText := true, laidKinds := [.data, .pinned], laidTests := true, laidLooks := .later }
def FindPutsCardSaid : Prop := Claim7.holds Tryd.pinned (.plain (OpenSpec.ofChange findPutsSpec)) findPutsCard

/-- THE TIED CARD OF 'emenderlaw26.FindSelf'. -/
def findSelfCard : Claim7 := { stood := { row := findSelfRow, standIns := [], harness := (true, "60fe3b0bb26cb1aa178cca663dd8cc3ee2b3390cf6de4945f091c253ff869a2b"), looks := false }, kinds := [], alts := [], laidByText := true, laidKinds := [.data, .pinned], laidTests := true, laidLooks := .later }
def FindSelfCardSaid : Prop := Claim7.holds Tryd.pinned (.plain (OpenSpec.ofChange findSelfSpec)) findSelfCard

/-- THE SECOND FORM's CARD OF 'emenderlaw26.FindFolds'. -/
def findFoldsUptoCard : Claim7 := { stood := { row := findFoldsUptoRow, standIns := [], harness := (true, "60fe3b0bb26cb1aa178cca663dd8cc3ee2b3390cf6de4945f091c253ff869a2b"), looks := false }, kinds := [], alts := [], laidByText := true, laidKinds := [.data, .pinned], laidTests := true, laidLooks := .later }
def FindFoldsUptoCardSaid : Prop := Claim7.holds Tryd.pinned (.plain (OpenSpec.upto findFoldsSpec)) findFoldsUptoCard

/-- THE SECOND FORM's CARD OF 'emenderlaw26.FindFits'. -/
def findFitsUptoCard : Claim7 := { stood := { row := findFitsUptoRow, standIns := [], harness := (true, "60fe3b0bb26cb1aa178cca663dd8cc3ee2b3390cf6de4945f091c253ff869a2b"), looks := false }, kinds := [], alts := [], laidByText := true, laidKinds := [.data, .pinned], laidTests := true, laidLooks := .later }
def FindFitsUptoCardSaid : Prop := Claim7.holds Tryd.pinned (.plain (OpenSpec.upto findFitsSpec)) findFitsUptoCard

/-- THE SECOND FORM's CARD OF 'emenderlaw26.FindPuts'. -/
def findPutsUptoCard : Claim7 := { stood := { row := findPutsUptoRow, standIns := [], harness := (true, "60fe3b0bb26cb1aa178cca663dd8cc3ee2b3390cf6de4945f091c253ff869a2b"), looks := false }, kinds := [], alts := [], laidByText := true, laidKinds := [.data, .pinned], laidTests := true, laidLooks := .later }
def FindPutsUptoCardSaid : Prop := Claim7.holds Tryd.pinned (.plain (OpenSpec.upto findPutsSpec)) findPutsUptoCard

/-- THE SECOND FORM's CARD OF 'emenderlaw26.FindSelf'. -/
def findSelfUptoCard : Claim7 := { stood := { row := findSelfUptoRow, standIns := [], harness := (true, "60fe3b0bb26cb1aa178cca663dd8cc3ee2b3390cf6de4945f091c253ff869a2b"), looks := false }, kinds := [], alts := [], laidByText := true, laidKinds := [.data, .pinned], laidTests := true, laidLooks := .later }
def FindSelfUptoCardSaid : Prop := Claim7.holds Tryd.pinned (.plain (OpenSpec.upto findSelfSpec)) findSelfUptoCard
end Rows
end Go.Proofs.YtfcfomconcoimaaDoor
