/-
  DERIVED. GIVEN WITH THE SEED: THE CARDS: each row of YtekjcdcmiingmaaDoorRows.lean that lists a variable, with what it lists TIED to the program's text (the seventh form; the later family's looks); each row that meets fmt, with fmt's text TOLD by the authors' own Lean function (tested against real Go, not proved from fmt's source: count such statements apart). THE CARD IS WHAT COUNTS. Prove the row's statement (the work); the ties are given (YtekjcdcmiingmaaDoorTie.lean); close each card by the builder's one call (the guide's Derived/Test/ToyasCard.lean, 'card_holds'). Laid BY PROGRAM, IN A SANDBOX (cutbox-door.mjs). By AI agents, Wed Nov 11 2026. No macro, syntax, notation, axiom, sorry.
-/
import Derived.Test.YtekjcdcmiingmaaDoorRows
import GoSem.ClaimSeven
namespace Go.Proofs.YtekjcdcmiingmaaDoor
namespace Rows

/-- THE TIED CARD OF 'laws.FnExactNameOk'. -/
def fnExactNameOkCard : Claim7 := { stood := { row := fnExactNameOkRow, standIns := [], harness := (true, "a4f663ca874276ef945d107387db05734f1c41c93b6bbece64078849e92d1571"), looks := true }, kinds := [], alts := [], laidByText := true, laidKinds := [.data, .pinned], laidTests := true, laidLooks := .later }
def FnExactNameOkCardSaid : Prop := Claim7.holds Tryd.pinned (.plain (OpenSpec.ofChange fnExactNameOkSpec)) fnExactNameOkCard

/-- THE TIED CARD OF 'laws.FnExactVersionText'. -/
def fnExactVersionTextCard : Claim7 := { stood := { row := fnExactVersionTextRow, standIns := [], harness := (true, "a4f663ca874276ef945d107387db05734f1c41c93b6bbece64078849e92d1571"), looks := true }, kinds := [], alts := [], laidByText := true, laidKinds := [.data, .data, .data], laidTests := true, laidLooks := .later }
def FnExactVersionTextCardSaid : Prop := Claim7.holds Tryd.pinned (.plain (OpenSpec.ofChange fnExactVersionTextSpec)) fnExactVersionTextCard

/-- THE TIED CARD OF 'laws.FnExactBoardOk'. -/
def fnExactBoardOkCard : Claim7 := { stood := { row := fnExactBoardOkRow, standIns := [], harness := (true, "a4f663ca874276ef945d107387db05734f1c41c93b6bbece64078849e92d1571"), looks := true }, kinds := [], alts := [], laidByText := true, laidKinds := [.data, .pinned], laidTests := true, laidLooks := .later }
def FnExactBoardOkCardSaid : Prop := Claim7.holds Tryd.pinned (.plain (OpenSpec.ofChange fnExactBoardOkSpec)) fnExactBoardOkCard

/-- THE TIED CARD OF 'laws.FnExactFits'. -/
def fnExactFitsCard : Claim7 := { stood := { row := fnExactFitsRow, standIns := [], harness := (true, "a4f663ca874276ef945d107387db05734f1c41c93b6bbece64078849e92d1571"), looks := true }, kinds := [], alts := [], laidByText := true, laidKinds := [.data, .pinned], laidTests := true, laidLooks := .later }
def FnExactFitsCardSaid : Prop := Claim7.holds Tryd.pinned (.plain (OpenSpec.ofChange fnExactFitsSpec)) fnExactFitsCard

/-- THE TIED CARD OF 'laws.FnBoards'. -/
def fnBoardsCard : Claim7 := { stood := { row := fnBoardsRow, standIns := [], harness := (true, "a4f663ca874276ef945d107387db05734f1c41c93b6bbece64078849e92d1571"), looks := true }, kinds := [], alts := [], laidByText := true, laidKinds := [.data, .pinned], laidTests := true, laidLooks := .later }
def FnBoardsCardSaid : Prop := Claim7.holds Tryd.pinned (.plain (OpenSpec.ofChange fnBoardsSpec)) fnBoardsCard

/-- THE TIED CARD OF 'laws.FnExactPaperOk'. -/
def fnExactPaperOkCard : Claim7 := { stood := { row := fnExactPaperOkRow, standIns := [], harness := (true, "a4f663ca874276ef945d107387db05734f1c41c93b6bbece64078849e92d1571"), looks := true }, kinds := [], alts := [], laidByText := true, laidKinds := [.data, .pinned], laidTests := true, laidLooks := .later }
def FnExactPaperOkCardSaid : Prop := Claim7.holds Tryd.pinned (.plain (OpenSpec.ofChange fnExactPaperOkSpec)) fnExactPaperOkCard

/-- THE TIED CARD OF 'laws.FnExactParseVersion'. -/
def fnExactParseVersionCard : Claim7 := { stood := { row := fnExactParseVersionRow, standIns := [], harness := (true, "a4f663ca874276ef945d107387db05734f1c41c93b6bbece64078849e92d1571"), looks := true }, kinds := [], alts := [], laidByText := true, laidKinds := [.data, .data, .data, .data, .sentinel, .sentinel, .pinned], laidTests := true, laidLooks := .later }
def FnExactParseVersionCardSaid : Prop := Claim7.holds Tryd.pinned (.plain (OpenSpec.ofChange fnExactParseVersionSpec)) fnExactParseVersionCard

/-- THE TIED CARD OF 'laws.FnExactPaperText'. -/
def fnExactPaperTextCard : Claim7 := { stood := { row := fnExactPaperTextRow, standIns := [], harness := (true, "a4f663ca874276ef945d107387db05734f1c41c93b6bbece64078849e92d1571"), looks := true }, kinds := [], alts := [], laidByText := true, laidKinds := [.data, .data, .data, .data, .pinned], laidTests := true, laidLooks := .later }
def FnExactPaperTextCardSaid : Prop := Claim7.holds Tryd.pinned (.plain (OpenSpec.ofChange fnExactPaperTextSpec)) fnExactPaperTextCard

/-- THE TIED CARD OF 'laws.FnVersions'. -/
def fnVersionsCard : Claim7 := { stood := { row := fnVersionsRow, standIns := [], harness := (true, "a4f663ca874276ef945d107387db05734f1c41c93b6bbece64078849e92d1571"), looks := true }, kinds := [], alts := [], laidByText := true, laidKinds := [.data, .data, .data, .data, .sentinel, .sentinel, .pinned], laidTests := true, laidLooks := .later }
def FnVersionsCardSaid : Prop := Claim7.holds Tryd.pinned (.plain (OpenSpec.ofChange fnVersionsSpec)) fnVersionsCard

/-- THE SECOND FORM's CARD OF 'laws.FnExactNameOk'. -/
def fnExactNameOkUptoCard : Claim7 := { stood := { row := fnExactNameOkUptoRow, standIns := [], harness := (true, "a4f663ca874276ef945d107387db05734f1c41c93b6bbece64078849e92d1571"), looks := true }, kinds := [], alts := [], laidByText := true, laidKinds := [.data, .pinned], laidTests := true, laidLooks := .later }
def FnExactNameOkUptoCardSaid : Prop := Claim7.holds Tryd.pinned (.plain (OpenSpec.upto fnExactNameOkSpec)) fnExactNameOkUptoCard

/-- THE SECOND FORM's CARD OF 'laws.FnExactVersionText'. -/
def fnExactVersionTextUptoCard : Claim7 := { stood := { row := fnExactVersionTextUptoRow, standIns := [], harness := (true, "a4f663ca874276ef945d107387db05734f1c41c93b6bbece64078849e92d1571"), looks := true }, kinds := [], alts := [], laidByText := true, laidKinds := [.data, .data, .data], laidTests := true, laidLooks := .later }
def FnExactVersionTextUptoCardSaid : Prop := Claim7.holds Tryd.pinned (.plain (OpenSpec.upto fnExactVersionTextSpec)) fnExactVersionTextUptoCard

/-- THE SECOND FORM's CARD OF 'laws.FnExactBoardOk'. -/
def fnExactBoardOkUptoCard : Claim7 := { stood := { row := fnExactBoardOkUptoRow, standIns := [], harness := (true, "a4f663ca874276ef945d107387db05734f1c41c93b6bbece64078849e92d1571"), looks := true }, kinds := [], alts := [], laidByText := true, laidKinds := [.data, .pinned], laidTests := true, laidLooks := .later }
def FnExactBoardOkUptoCardSaid : Prop := Claim7.holds Tryd.pinned (.plain (OpenSpec.upto fnExactBoardOkSpec)) fnExactBoardOkUptoCard

/-- THE SECOND FORM's CARD OF 'laws.FnExactFits'. -/
def fnExactFitsUptoCard : Claim7 := { stood := { row := fnExactFitsUptoRow, standIns := [], harness := (true, "a4f663ca874276ef945d107387db05734f1c41c93b6bbece64078849e92d1571"), looks := true }, kinds := [], alts := [], laidByText := true, laidKinds := [.data, .pinned], laidTests := true, laidLooks := .later }
def FnExactFitsUptoCardSaid : Prop := Claim7.holds Tryd.pinned (.plain (OpenSpec.upto fnExactFitsSpec)) fnExactFitsUptoCard

/-- THE SECOND FORM's CARD OF 'laws.FnBoards'. -/
def fnBoardsUptoCard : Claim7 := { stood := { row := fnBoardsUptoRow, standIns := [], harness := (true, "a4f663ca874276ef945d107387db05734f1c41c93b6bbece64078849e92d1571"), looks := true }, kinds := [], alts := [], laidByText := true, laidKinds := [.data, .pinned], laidTests := true, laidLooks := .later }
def FnBoardsUptoCardSaid : Prop := Claim7.holds Tryd.pinned (.plain (OpenSpec.upto fnBoardsSpec)) fnBoardsUptoCard

/-- THE SECOND FORM's CARD OF 'laws.FnExactPaperOk'. -/
def fnExactPaperOkUptoCard : Claim7 := { stood := { row := fnExactPaperOkUptoRow, standIns := [], harness := (true, "a4f663ca874276ef945d107387db05734f1c41c93b6bbece64078849e92d1571"), looks := true }, kinds := [], alts := [], laidByText := true, laidKinds := [.data, .pinned], laidTests := true, laidLooks := .later }
def FnExactPaperOkUptoCardSaid : Prop := Claim7.holds Tryd.pinned (.plain (OpenSpec.upto fnExactPaperOkSpec)) fnExactPaperOkUptoCard

/-- THE SECOND FORM's CARD OF 'laws.FnExactParseVersion'. -/
def fnExactParseVersionUptoCard : Claim7 := { stood := { row := fnExactParseVersionUptoRow, standIns := [], harness := (true, "a4f663ca874276ef945d107387db05734f1c41c93b6bbece64078849e92d1571"), looks := true }, kinds := [], alts := [], laidByText := true, laidKinds := [.data, .data, .data, .data, .sentinel, .sentinel, .pinned], laidTests := true, laidLooks := .later }
def FnExactParseVersionUptoCardSaid : Prop := Claim7.holds Tryd.pinned (.plain (OpenSpec.upto fnExactParseVersionSpec)) fnExactParseVersionUptoCard

/-- THE SECOND FORM's CARD OF 'laws.FnExactPaperText'. -/
def fnExactPaperTextUptoCard : Claim7 := { stood := { row := fnExactPaperTextUptoRow, standIns := [], harness := (true, "a4f663ca874276ef945d107387db05734f1c41c93b6bbece64078849e92d1571"), looks := true }, kinds := [], alts := [], laidByText := true, laidKinds := [.data, .data, .data, .data, .pinned], laidTests := true, laidLooks := .later }
def FnExactPaperTextUptoCardSaid : Prop := Claim7.holds Tryd.pinned (.plain (OpenSpec.upto fnExactPaperTextSpec)) fnExactPaperTextUptoCard

/-- THE SECOND FORM's CARD OF 'laws.FnVersions'. -/
def fnVersionsUptoCard : Claim7 := { stood := { row := fnVersionsUptoRow, standIns := [], harness := (true, "a4f663ca874276ef945d107387db05734f1c41c93b6bbece64078849e92d1571"), looks := true }, kinds := [], alts := [], laidByText := true, laidKinds := [.data, .data, .data, .data, .sentinel, .sentinel, .pinned], laidTests := true, laidLooks := .later }
def FnVersionsUptoCardSaid : Prop := Claim7.holds Tryd.pinned (.plain (OpenSpec.upto fnVersionsSpec)) fnVersionsUptoCard
end Rows
end Go.Proofs.YtekjcdcmiingmaaDoor
