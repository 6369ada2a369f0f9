/-
  DERIVED. GIVEN WITH THE SEED: THE CARDS: each row of YtebbngeamnpgjaaDoorRows.lean that lists a variable, with what it lists TIED to the program's text (the seventh form; the later family's looks); each row that meets fmt, with fmt's text TOLD by the authors' own Lean function (tested against real Go, not proved from fmt's source: count such statements apart). THE CARD IS WHAT COUNTS. Prove the row's statement (the work); the ties are given (YtebbngeamnpgjaaDoorTie.lean); close each card by the builder's one call (the guide's Derived/Test/ToyasCard.lean, 'card_holds'). Laid BY PROGRAM, IN A SANDBOX (cutbox-door.mjs). By AI agents, Wed Nov 11 2026. No macro, syntax, notation, axiom, sorry.
-/
import Derived.Test.YtebbngeamnpgjaaDoorRows
import GoSem.ClaimSeven
namespace Go.Proofs.YtebbngeamnpgjaaDoor
namespace Rows

/-- THE TIED CARD OF 'emenderlaw14.InlineParses'. -/
def inlineParsesCard : Claim7 := { stood := { row := inlineParsesRow, standIns := [], harness := (true, "f78adf078c3e108d1a9e75066f061e7cdc1ea1a27406d35c6e4a20dc3416decb"), looks := false }, kinds := [], alts := [], laidByText := true, laidKinds := [.data, .pinned], laidTests := true, laidLooks := .later }
def InlineParsesCardSaid : Prop := Claim7.holds Tryd.pinned (.plain (OpenSpec.ofChange inlineParsesSpec)) inlineParsesCard

/-- THE TIED CARD OF 'emenderlaw14.InlineBack'. -/
def inlineBackCard : Claim7 := { stood := { row := inlineBackRow, standIns := [], harness := (true, "f78adf078c3e108d1a9e75066f061e7cdc1ea1a27406d35c6e4a20dc3416decb"), looks := false }, kinds := [], alts := [], laidByText := true, laidKinds := [.data, .pinned], laidTests := true, laidLooks := .later }
def InlineBackCardSaid : Prop := Claim7.holds Tryd.pinned (.plain (OpenSpec.ofChange inlineBackSpec)) inlineBackCard

/-- THE TIED CARD OF 'emenderlaw14.InlineRight'. -/
def inlineRightCard : Claim7 := { stood := { row := inlineRightRow, standIns := [], harness := (true, "f78adf078c3e108d1a9e75066f061e7cdc1ea1a27406d35c6e4a20dc3416decb"), looks := false }, kinds := [], alts := [], laidByText := true, laidKinds := [.data, .pinned], laidTests := true, laidLooks := .later }
def InlineRightCardSaid : Prop := Claim7.holds Tryd.pinned (.plain (OpenSpec.ofChange inlineRightSpec)) inlineRightCard

/-- THE TIED CARD OF 'emenderlaw14.InlinePlain'. -/
def inlinePlainCard : Claim7 := { stood := { row := inlinePlainRow, standIns := [], harness := (true, "f78adf078c3e108d1a9e75066f061e7cdc1ea1a27406d35c6e4a20dc3416decb"), looks := false }, kinds := [], alts := [], laidByText := true, laidKinds := [.data, .pinned], laidTests := true, laidLooks := .later }
def InlinePlainCardSaid : Prop := Claim7.holds Tryd.pinned (.plain (OpenSpec.ofChange inlinePlainSpec)) inlinePlainCard

/-- THE TIED CARD OF 'emenderlaw14.InlineEscapes'. -/
def inlineEscapesCard : Claim7 := { stood := { row := inlineEscapesRow, standIns := [], harness := (true, "f78adf078c3e108d1a9e75066f061e7cdc1ea1a27406d35c6e4a20dc3416decb"), looks := false }, kinds := [], alts := [], laidByText := true, laidKinds := [.data, .pinned], laidTests := true, laidLooks := .later }
def InlineEscapesCardSaid : Prop := Claim7.holds Tryd.pinned (.plain (OpenSpec.ofChange inlineEscapesSpec)) inlineEscapesCard

/-- THE SECOND FORM's CARD OF 'emenderlaw14.InlineParses'. -/
def inlineParsesUptoCard : Claim7 := { stood := { row := inlineParsesUptoRow, standIns := [], harness := (true, "f78adf078c3e108d1a9e75066f061e7cdc1ea1a27406d35c6e4a20dc3416decb"), looks := false }, kinds := [], alts := [], laidByText := true, laidKinds := [.data, .pinned], laidTests := true, laidLooks := .later }
def InlineParsesUptoCardSaid : Prop := Claim7.holds Tryd.pinned (.plain (OpenSpec.upto inlineParsesSpec)) inlineParsesUptoCard

/-- THE SECOND FORM's CARD OF 'emenderlaw14.InlineBack'. -/
def inlineBackUptoCard : Claim7 := { stood := { row := inlineBackUptoRow, standIns := [], harness := (true, "f78adf078c3e108d1a9e75066f061e7cdc1ea1a27406d35c6e4a20dc3416decb"), looks := false }, kinds := [], alts := [], laidByText := true, laidKinds := [.data, .pinned], laidTests := true, laidLooks := .later }
def InlineBackUptoCardSaid : Prop := Claim7.holds Tryd.pinned (.plain (OpenSpec.upto inlineBackSpec)) inlineBackUptoCard

/-- THE SECOND FORM's CARD OF 'emenderlaw14.InlineRight'. -/
def inlineRightUptoCard : Claim7 := { stood := { row := inlineRightUptoRow, standIns := [], harness := (true, "f78adf078c3e108d1a9e75066f061e7cdc1ea1a27406d35c6e4a20dc3416decb"), looks := false }, kinds := [], alts := [], laidByText := true, laidKinds := [.data, .pinned], laidTests := true, laidLooks := .later }
def InlineRightUptoCardSaid : Prop := Claim7.holds Tryd.pinned (.plain (OpenSpec.upto inlineRightSpec)) inlineRightUptoCard

/-- THE SECOND FORM's CARD OF 'emenderlaw14.InlinePlain'. -/
def inlinePlainUptoCard : Claim7 := { stood := { row := inlinePlainUptoRow, standIns := [], harness := (true, "f78adf078c3e108d1a9e75066f061e7cdc1ea1a27406d35c6e4a20dc3416decb"), looks := false }, kinds := [], alts := [], laidByText := true, laidKinds := [.data, .pinned], laidTests := true, laidLooks := .later }
def InlinePlainUptoCardSaid : Prop := Claim7.holds Tryd.pinned (.plain (OpenSpec.upto inlinePlainSpec)) inlinePlainUptoCard

/-- THE SECOND FORM's CARD OF 'emenderlaw14.InlineEscapes'. -/
def inlineEscapesUptoCard : Claim7 := { stood := { row := inlineEscapesUptoRow, standIns := [], harness := (true, "f78adf078c3e108d1a9e75066f061e7cdc1ea1a27406d35c6e4a20dc3416decb"), looks := false }, kinds := [], alts := [], laidByText := true, laidKinds := [.data, .pinned], laidTests := true, laidLooks := .later }
def InlineEscapesUptoCardSaid : Prop := Claim7.holds Tryd.pinned (.plain (OpenSpec.upto inlineEscapesSpec)) inlineEscapesUptoCard
end Rows
end Go.Proofs.YtebbngeamnpgjaaDoor
