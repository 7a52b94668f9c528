/-
  DERIVED. GIVEN WITH THE SEED: THE CARDS: each row of YtakcacejpbiogaaGreatDoorRows.lean that lists a variable, with what it lists TIED to the program's text (the seventh form; the later family's looks); each row that meets fmt, with fmt's text TOLD by the authors' own Lean function (tested against real Go, not proved from fmt's source: count such statements apart). THE CARD IS WHAT COUNTS. Prove the row's statement (the work); the ties are given (YtakcacejpbiogaaGreatDoorTie.lean); close each card by the builder's one call (the guide's Derived/Test/ToyasCard.lean, 'card_holds'). Laid BY PROGRAM, IN A SANDBOX (cutbox-door.mjs). By AI agents, Wed Nov 11 2026. No macro, syntax, notation, axiom, sorry.
-/
import Derived.Test.YtakcacejpbiogaaGreatDoorRows
import GoSem.ClaimSeven
namespace Go.Proofs.YtakcacejpbiogaaGreatDoor
namespace Rows

/-- THE TIED CARD OF 'sondagelaw40.ReplyValues'. -/
def replyValuesCard : Claim7 := { stood := { row := replyValuesRow, standIns := [], harness := (true, "0aa8753b39ef07424f7fc315b9913de42fd156c0d230732702a98a6aeb174fbb"), looks := true }, kinds := [], alts := [], laidByText := true, laidKinds := [.data, .data, .data, .data, .sentinel, .sentinel, .pinned], laidTests := true, laidLooks := .later }
def ReplyValuesCardSaid : Prop := Claim7.holds Tryz.pinned (.plain (OpenSpec.ofChange replyValuesSpec)) replyValuesCard

/-- THE TIED CARD OF 'sondagelaw40.ReplyBack'. -/
def replyBackCard : Claim7 := { stood := { row := replyBackRow, standIns := [], harness := (true, "0aa8753b39ef07424f7fc315b9913de42fd156c0d230732702a98a6aeb174fbb"), looks := true }, kinds := [], alts := [], laidByText := true, laidKinds := [.data, .data, .data, .data, .sentinel, .sentinel, .pinned], laidTests := true, laidLooks := .later }
def ReplyBackCardSaid : Prop := Claim7.holds Tryz.pinned (.plain (OpenSpec.ofChange replyBackSpec)) replyBackCard

/-- THE TIED CARD OF 'sondagelaw40.ReplyOne'. -/
def replyOneCard : Claim7 := { stood := { row := replyOneRow, standIns := [], harness := (true, "0aa8753b39ef07424f7fc315b9913de42fd156c0d230732702a98a6aeb174fbb"), looks := true }, kinds := [], alts := [], laidByText := true, laidKinds := [.data, .data, .data, .data, .sentinel, .sentinel, .pinned], laidTests := true, laidLooks := .later }
def ReplyOneCardSaid : Prop := Claim7.holds Tryz.pinned (.plain (OpenSpec.ofChange replyOneSpec)) replyOneCard

/-- THE TIED CARD OF 'sondagelaw40.ReplyTexts'. -/
def replyTextsCard : Claim7 := { stood := { row := replyTextsRow, standIns := [], harness := (true, "0aa8753b39ef07424f7fc315b9913de42fd156c0d230732702a98a6aeb174fbb"), looks := true }, kinds := [], alts := [], laidByText := true, laidKinds := [.data, .data, .data, .data, .sentinel, .sentinel, .pinned], laidTests := true, laidLooks := .later }
def ReplyTextsCardSaid : Prop := Claim7.holds Tryz.pinned (.plain (OpenSpec.ofChange replyTextsSpec)) replyTextsCard

/-- THE SECOND FORM's CARD OF 'sondagelaw40.ReplyValues'. -/
def replyValuesUptoCard : Claim7 := { stood := { row := replyValuesUptoRow, standIns := [], harness := (true, "0aa8753b39ef07424f7fc315b9913de42fd156c0d230732702a98a6aeb174fbb"), looks := true }, kinds := [], alts := [], laidByText := true, laidKinds := [.data, .data, .data, .data, .sentinel, .sentinel, .pinned], laidTests := true, laidLooks := .later }
def ReplyValuesUptoCardSaid : Prop := Claim7.holds Tryz.pinned (.plain (OpenSpec.upto replyValuesSpec)) replyValuesUptoCard

/-- THE SECOND FORM's CARD OF 'sondagelaw40.ReplyBack'. -/
def replyBackUptoCard : Claim7 := { stood := { row := replyBackUptoRow, standIns := [], harness := (true, "0aa8753b39ef07424f7fc315b9913de42fd156c0d230732702a98a6aeb174fbb"), looks := true }, kinds := [], alts := [], laidByText := true, laidKinds := [.data, .data, .data, .data, .sentinel, .sentinel, .pinned], laidTests := true, laidLooks := .later }
def ReplyBackUptoCardSaid : Prop := Claim7.holds Tryz.pinned (.plain (OpenSpec.upto replyBackSpec)) replyBackUptoCard

/-- THE SECOND FORM's CARD OF 'sondagelaw40.ReplyOne'. -/
def replyOneUptoCard : Claim7 := { stood := { row := replyOneUptoRow, standIns := [], harness := (true, "0aa8753b39ef07424f7fc315b9913de42fd156c0d230732702a98a6aeb174fbb"), looks := true }, kinds := [], alts := [], laidByText := true, laidKinds := [.data, .data, .data, .data, .sentinel, .sentinel, .pinned], laidTests := true, laidLooks := .later }
def ReplyOneUptoCardSaid : Prop := Claim7.holds Tryz.pinned (.plain (OpenSpec.upto replyOneSpec)) replyOneUptoCard

/-- THE SECOND FORM's CARD OF 'sondagelaw40.ReplyTexts'. -/
def replyTextsUptoCard : Claim7 := { stood := { row := replyTextsUptoRow, standIns := [], harness := (true, "0aa8753b39ef07424f7fc315b9913de42fd156c0d230732702a98a6aeb174fbb"), looks := true }, kinds := [], alts := [], laidByText := true, laidKinds := [.data, .data, .data, .data, .sentinel, .sentinel, .pinned], laidTests := true, laidLooks := .later }
def ReplyTextsUptoCardSaid : Prop := Claim7.holds Tryz.pinned (.plain (OpenSpec.upto replyTextsSpec)) replyTextsUptoCard
end Rows
end Go.Proofs.YtakcacejpbiogaaGreatDoor
