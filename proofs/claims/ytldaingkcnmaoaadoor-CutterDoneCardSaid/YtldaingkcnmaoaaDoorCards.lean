/-
  DERIVED. GIVEN WITH THE SEED: THE CARDS: each row of YtldaingkcnmaoaaDoorRows.lean that lists a variable, with what it lists TIED to the program's text (the seventh form; the later family's looks); each row that meets fmt, with fmt's text TOLD by the authors' own Lean function (tested against real Go, not proved from fmt's source: count such statements apart). THE CARD IS WHAT COUNTS. Prove the row's statement (the work); the ties are given (YtldaingkcnmaoaaDoorTie.lean); close each card by the builder's one call (the guide's Derived/Test/ToyasCard.lean, 'card_holds'). Laid BY PROGRAM, IN A SANDBOX (cutbox-door.mjs). By AI agents, Wed Nov 11 2026. No macro, syntax, notation, axiom, sorry.
-/
import Derived.Test.YtldaingkcnmaoaaDoorRows
import GoSem.ClaimSeven
namespace Go.Proofs.YtldaingkcnmaoaaDoor
namespace Rows

/-- THE TIED CARD OF 'crossroadlaw04.CutterBodies'. -/
def cutterBodiesCard : Claim7 := { stood := { row := cutterBodiesRow, standIns := [], harness := (true, "dc4121dc66e523feae239b08231237ca915af08250e1a3a984b3a1514b163ee6"), looks := false }, kinds := [], alts := [], laidByText := true, laidKinds := [.data, .data, .data], laidTests := true, laidLooks := .later }
def CutterBodiesCardSaid : Prop := Claim7.holds Tryd.pinned (.plain (OpenSpec.ofChange cutterBodiesSpec)) cutterBodiesCard

/-- THE TIED CARD OF 'crossroadlaw04.CutterDone'. -/
def cutterDoneCard : Claim7 := { stood := { row := cutterDoneRow, standIns := [], harness := (true, "dc4121dc66e523feae239b08231237ca915af08250e1a3a984b3a1514b163ee6"), looks := false }, kinds := [], alts := [], laidByText := true, laidKinds := [.data, .data, .data], laidTests := true, laidLooks := .later }
def CutterDoneCardSaid : Prop := Claim7.holds Tryd.pinned (.plain (OpenSpec.ofChange cutterDoneSpec)) cutterDoneCard

/-- THE TIED CARD OF 'crossroadlaw04.CutterSeeds'. -/
def cutterSeedsCard : Claim7 := { stood := { row := cutterSeedsRow, standIns := [], harness := (true, "dc4121dc66e523feae239b08231237ca915af08250e1a3a984b3a1514b163ee6"), looks := false }, kinds := [], alts := [], laidByText := true, laidKinds := [.data, .data, .data], laidTests := true, laidLooks := .later }
def CutterSeedsCardSaid : Prop := Claim7.holds Tryd.pinned (.plain (OpenSpec.ofChange cutterSeedsSpec)) cutterSeedsCard

/-- THE TIED CARD OF 'crossroadlaw04.CutterLines'. -/
def cutterLinesCard : Claim7 := { stood := { row := cutterLinesRow, standIns := [], harness := (true, "dc4121dc66e523feae239b08231237ca915af08250e1a3a984b3a1514b163ee6"), looks := false }, kinds := [], alts := [], laidByText := true, laidKinds := [.data, .data, .data], laidTests := true, laidLooks := .later }
def CutterLinesCardSaid : Prop := Claim7.holds Tryd.pinned (.plain (OpenSpec.ofChange cutterLinesSpec)) cutterLinesCard

/-- THE TIED CARD OF 'crossroadlaw04.CutterBlank'. -/
def cutterBlankCard : Claim7 := { stood := { row := cutterBlankRow, standIns := [], harness := (true, "dc4121dc66e523feae239b08231237ca915af08250e1a3a984b3a1514b163ee6"), looks := false }, kinds := [], alts := [], laidByText := true, laidKinds := [.data, .data, .data], laidTests := true, laidLooks := .later }
def CutterBlankCardSaid : Prop := Claim7.holds Tryd.pinned (.plain (OpenSpec.ofChange cutterBlankSpec)) cutterBlankCard

/-- THE SECOND FORM's CARD OF 'crossroadlaw04.CutterBodies'. -/
def cutterBodiesUptoCard : Claim7 := { stood := { row := cutterBodiesUptoRow, standIns := [], harness := (true, "dc4121dc66e523feae239b08231237ca915af08250e1a3a984b3a1514b163ee6"), looks := false }, kinds := [], alts := [], laidByText := true, laidKinds := [.data, .data, .data], laidTests := true, laidLooks := .later }
def CutterBodiesUptoCardSaid : Prop := Claim7.holds Tryd.pinned (.plain (OpenSpec.upto cutterBodiesSpec)) cutterBodiesUptoCard

/-- THE SECOND FORM's CARD OF 'crossroadlaw04.CutterDone'. -/
def cutterDoneUptoCard : Claim7 := { stood := { row := cutterDoneUptoRow, standIns := [], harness := (true, "dc4121dc66e523feae239b08231237ca915af08250e1a3a984b3a1514b163ee6"), looks := false }, kinds := [], alts := [], laidByText := true, laidKinds := [.data, .data, .data], laidTests := true, laidLooks := .later }
def CutterDoneUptoCardSaid : Prop := Claim7.holds Tryd.pinned (.plain (OpenSpec.upto cutterDoneSpec)) cutterDoneUptoCard

/-- THE SECOND FORM's CARD OF 'crossroadlaw04.CutterSeeds'. -/
def cutterSeedsUptoCard : Claim7 := { stood := { row := cutterSeedsUptoRow, standIns := [], harness := (true, "dc4121dc66e523feae239b08231237ca915af08250e1a3a984b3a1514b163ee6"), looks := false }, kinds := [], alts := [], laidByText := true, laidKinds := [.data, .data, .data], laidTests := true, laidLooks := .later }
def CutterSeedsUptoCardSaid : Prop := Claim7.holds Tryd.pinned (.plain (OpenSpec.upto cutterSeedsSpec)) cutterSeedsUptoCard

/-- THE SECOND FORM's CARD OF 'crossroadlaw04.CutterLines'. -/
def cutterLinesUptoCard : Claim7 := { stood := { row := cutterLinesUptoRow, standIns := [], harness := (true, "dc4121dc66e523feae239b08231237ca915af08250e1a3a984b3a1514b163ee6"), looks := false }, kinds := [], alts := [], laidByText := true, laidKinds := [.data, .data, .data], laidTests := true, laidLooks := .later }
def CutterLinesUptoCardSaid : Prop := Claim7.holds Tryd.pinned (.plain (OpenSpec.upto cutterLinesSpec)) cutterLinesUptoCard

/-- THE SECOND FORM's CARD OF 'crossroadlaw04.CutterBlank'. -/
def cutterBlankUptoCard : Claim7 := { stood := { row := cutterBlankUptoRow, standIns := [], harness := (true, "dc4121dc66e523feae239b08231237ca915af08250e1a3a984b3a1514b163ee6"), looks := false }, kinds := [], alts := [], laidByText := true, laidKinds := [.data, .data, .data], laidTests := true, laidLooks := .later }
def CutterBlankUptoCardSaid : Prop := Claim7.holds Tryd.pinned (.plain (OpenSpec.upto cutterBlankSpec)) cutterBlankUptoCard
end Rows
end Go.Proofs.YtldaingkcnmaoaaDoor
