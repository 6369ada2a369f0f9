/-
  DERIVED. GIVEN WITH THE SEED: THE CARDS: each row of YtfnafjohfmlniaaDoorRows.lean that lists a variable, with what it lists TIED to the program's text (the seventh form; the later family's looks); each row that meets fmt, with fmt's text TOLD by the authors' own Lean function (tested against real Go, not proved from fmt's source: count such statements apart). THE CARD IS WHAT COUNTS. Prove the row's statement (the work); the ties are given (YtfnafjohfmlniaaDoorTie.lean); close each card by the builder's one call (the guide's Derived/Test/ToyasCard.lean, 'card_holds'). Laid BY PROGRAM, IN A SANDBOX (cutbox-door.mjs). By AI agents, Wed Nov 11 2026. No macro, syntax, notation, axiom, sorry.
-/
import Derived.Test.YtfnafjohfmlniaaDoorRows
import GoSem.ClaimSeven
namespace Go.Proofs.YtfnafjohfmlniaaDoor
namespace Rows

/-- THE TIED CARD OF 'emenderlaw28.CommonParses'. -/
def commonParsesCard : Claim7 := { stood := { row := commonParsesRow, standIns := [], harness := (true, "826b4f53140a80bf6d139ff5003c0816d510f089292da91d2bd8b34d005d801f"), looks := false }, kinds := [], alts := [], laidByText := true, laidKinds := [.data, .pinned], laidTests := true, laidLooks := .later }
def CommonParsesCardSaid : Prop := Claim7.holds Tryd.pinned (.plain (OpenSpec.ofChange commonParsesSpec)) commonParsesCard

/-- THE TIED CARD OF 'emenderlaw28.CommonRuns'. -/
def commonRunsCard : Claim7 := { stood := { row := commonRunsRow, standIns := [], harness := (true, "826b4f53140a80bf6d139ff5003c0816d510f089292da91d2bd8b34d005d801f"), looks := false }, kinds := [], alts := [], laidByText := true, laidKinds := [.data, .pinned], laidTests := true, laidLooks := .later }
def CommonRunsCardSaid : Prop := Claim7.holds Tryd.pinned (.plain (OpenSpec.ofChange commonRunsSpec)) commonRunsCard

/-- THE TIED CARD OF 'emenderlaw28.CommonPlain'. -/
def commonPlainCard : Claim7 := { stood := { row := commonPlainRow, standIns := [], harness := (true, "826b4f53140a80bf6d139ff5003c0816d510f089292da91d2bd8b34d005d801f"), looks := false }, kinds := [], alts := [], laidByText := true, laidKinds := [.data, .pinned], laidTests := true, laidLooks := .later }
def CommonPlainCardSaid : Prop := Claim7.holds Tryd.pinned (.plain (OpenSpec.ofChange commonPlainSpec)) commonPlainCard

/-- THE TIED CARD OF 'emenderlaw28.CommonMarks'. -/
def commonMarksCard : Claim7 := { stood := { row := commonMarksRow, standIns := [], harness := (true, "826b4f53140a80bf6d139ff5003c0816d510f089292da91d2bd8b34d005d801f"), looks := false }, kinds := [], alts := [], laidByText := true, laidKinds := [.data, .pinned], laidTests := true, laidLooks := .later }
def CommonMarksCardSaid : Prop := Claim7.holds Tryd.pinned (.plain (OpenSpec.ofChange commonMarksSpec)) commonMarksCard

/-- THE TIED CARD OF 'emenderlaw28.CommonRight'. -/
def commonRightCard : Claim7 := { stood := { row := commonRightRow, standIns := [], harness := (true, "826b4f53140a80bf6d139ff5003c0816d510f089292da91d2bd8b34d005d801f"), looks := false }, kinds := [], alts := [], laidByText := true, laidKinds := [.data, .pinned], laidTests := true, laidLooks := .later }
def CommonRightCardSaid : Prop := Claim7.holds Tryd.pinned (.plain (OpenSpec.ofChange commonRightSpec)) commonRightCard

/-- THE TIED CARD OF 'emenderlaw28.CommonEscapes'. -/
def commonEscapesCard : Claim7 := { stood := { row := commonEscapesRow, standIns := [], harness := (true, "826b4f53140a80bf6d139ff5003c0816d510f089292da91d2bd8b34d005d801f"), looks := false }, kinds := [], alts := [], laidByText := true, laidKinds := [.data, .pinned], laidTests := true, laidLooks := .later }
def CommonEscapesCardSaid : Prop := Claim7.holds Tryd.pinned (.plain (OpenSpec.ofChange commonEscapesSpec)) commonEscapesCard

/-- THE SECOND FORM's CARD OF 'emenderlaw28.CommonParses'. -/
def commonParsesUptoCard : Claim7 := { stood := { row := commonParsesUptoRow, standIns := [], harness := (true, "826b4f53140a80bf6d139ff5003c0816d510f089292da91d2bd8b34d005d801f"), looks := false }, kinds := [], alts := [], laidByText := true, laidKinds := [.data, .pinned], laidTests := true, laidLooks := .later }
def CommonParsesUptoCardSaid : Prop := Claim7.holds Tryd.pinned (.plain (OpenSpec.upto commonParsesSpec)) commonParsesUptoCard

/-- THE SECOND FORM's CARD OF 'emenderlaw28.CommonRuns'. -/
def commonRunsUptoCard : Claim7 := { stood := { row := commonRunsUptoRow, standIns := [], harness := (true, "826b4f53140a80bf6d139ff5003c0816d510f089292da91d2bd8b34d005d801f"), looks := false }, kinds := [], alts := [], laidByText := true, laidKinds := [.data, .pinned], laidTests := true, laidLooks := .later }
def CommonRunsUptoCardSaid : Prop := Claim7.holds Tryd.pinned (.plain (OpenSpec.upto commonRunsSpec)) commonRunsUptoCard

/-- THE SECOND FORM's CARD OF 'emenderlaw28.CommonPlain'. -/
def commonPlainUptoCard : Claim7 := { stood := { row := commonPlainUptoRow, standIns := [], harness := (true, "826b4f53140a80bf6d139ff5003c0816d510f089292da91d2bd8b34d005d801f"), looks := false }, kinds := [], alts := [], laidByText := true, laidKinds := [.data, .pinned], laidTests := true, laidLooks := .later }
def CommonPlainUptoCardSaid : Prop := Claim7.holds Tryd.pinned (.plain (OpenSpec.upto commonPlainSpec)) commonPlainUptoCard

/-- THE SECOND FORM's CARD OF 'emenderlaw28.CommonMarks'. -/
def commonMarksUptoCard : Claim7 := { stood := { row := commonMarksUptoRow, standIns := [], harness := (true, "826b4f53140a80bf6d139ff5003c0816d510f089292da91d2bd8b34d005d801f"), looks := false }, kinds := [], alts := [], laidByText := true, laidKinds := [.data, .pinned], laidTests := true, laidLooks := .later }
def CommonMarksUptoCardSaid : Prop := Claim7.holds Tryd.pinned (.plain (OpenSpec.upto commonMarksSpec)) commonMarksUptoCard

/-- THE SECOND FORM's CARD OF 'emenderlaw28.CommonRight'. -/
def commonRightUptoCard : Claim7 := { stood := { row := commonRightUptoRow, standIns := [], harness := (true, "826b4f53140a80bf6d139ff5003c0816d510f089292da91d2bd8b34d005d801f"), looks := false }, kinds := [], alts := [], laidByText := true, laidKinds := [.data, .pinned], laidTests := true, laidLooks := .later }
def CommonRightUptoCardSaid : Prop := Claim7.holds Tryd.pinned (.plain (OpenSpec.upto commonRightSpec)) commonRightUptoCard

/-- THE SECOND FORM's CARD OF 'emenderlaw28.CommonEscapes'. -/
def commonEscapesUptoCard : Claim7 := { stood := { row := commonEscapesUptoRow, standIns := [], harness := (true, "826b4f53140a80bf6d139ff5003c0816d510f089292da91d2bd8b34d005d801f"), looks := false }, kinds := [], alts := [], laidByText := true, laidKinds := [.data, .pinned], laidTests := true, laidLooks := .later }
def CommonEscapesUptoCardSaid : Prop := Claim7.holds Tryd.pinned (.plain (OpenSpec.upto commonEscapesSpec)) commonEscapesUptoCard
end Rows
end Go.Proofs.YtfnafjohfmlniaaDoor
