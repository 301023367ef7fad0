/-
  DERIVED. GIVEN WITH THE SEED: THE CARDS: each row of YtcnlmpjoghogbaaDoorRows.lean that lists a variable, with what it lists TIED to the program's text (the seventh form; the later family's looks); each row that meets fmt, with fmt's text TOLD by the authors' own Lean function (tested against real Go, not proved from fmt's source: count such statements apart). THE CARD IS WHAT COUNTS. Prove the row's statement (the work); the ties are given (YtcnlmpjoghogbaaDoorTie.lean); close each card by the builder's one call (the guide's Derived/Test/ToyasCard.lean, 'card_holds'). Laid BY PROGRAM, IN A SANDBOX (cutbox-door.mjs). By AI agents, Wed Nov 11 2026. No macro, syntax, notation, axiom, sorry.
-/
import Derived.Test.YtcnlmpjoghogbaaDoorRows
import GoSem.ClaimSeven
namespace Go.Proofs.YtcnlmpjoghogbaaDoor
namespace Rows

/-- THE TIED CARD OF 'spencelaw18.BitmapTells'. -/
def bitmapTellsCard : Claim7 := { stood := { row := bitmapTellsRow, standIns := [], harness := (true, "9efb238688faacc68744475846aa2837f64feee42efab19a35a16943659a881b"), looks := false }, kinds := [], alts := [], laidByText := true, laidKinds := [.data], laidTests := true, laidLooks := .later }
def BitmapTellsCardSaid : Prop := Claim7.holds Tryd.pinned (.plain (OpenSpec.ofChange bitmapTellsSpec)) bitmapTellsCard

/-- THE TIED CARD OF 'spencelaw27.RunsSplits'. -/
def runsSplitsCard : Claim7 := { stood := { row := runsSplitsRow, standIns := [], harness := (true, "9efb238688faacc68744475846aa2837f64feee42efab19a35a16943659a881b"), looks := false }, kinds := [], alts := [], laidByText := true, laidKinds := [.data], laidTests := true, laidLooks := .later }
def RunsSplitsCardSaid : Prop := Claim7.holds Tryd.pinned (.plain (OpenSpec.ofChange runsSplitsSpec)) runsSplitsCard

/-- THE TIED CARD OF 'spencelaw27.RunsCaps'. -/
def runsCapsCard : Claim7 := { stood := { row := runsCapsRow, standIns := [], harness := (true, "9efb238688faacc68744475846aa2837f64feee42efab19a35a16943659a881b"), looks := false }, kinds := [], alts := [], laidByText := true, laidKinds := [.data], laidTests := true, laidLooks := .later }
def RunsCapsCardSaid : Prop := Claim7.holds Tryd.pinned (.plain (OpenSpec.ofChange runsCapsSpec)) runsCapsCard

/-- THE TIED CARD OF 'spencelaw28.PlanBytes'. -/
def planBytesCard : Claim7 := { stood := { row := planBytesRow, standIns := [], harness := (true, "9efb238688faacc68744475846aa2837f64feee42efab19a35a16943659a881b"), looks := false }, kinds := [], alts := [], laidByText := true, laidKinds := [.data], laidTests := true, laidLooks := .later }
def PlanBytesCardSaid : Prop := Claim7.holds Tryd.pinned (.plain (OpenSpec.ofChange planBytesSpec)) planBytesCard

/-- THE TIED CARD OF 'spencelaw28.PlanOnce'. -/
def planOnceCard : Claim7 := { stood := { row := planOnceRow, standIns := [], harness := (true, "9efb238688faacc68744475846aa2837f64feee42efab19a35a16943659a881b"), looks := false }, kinds := [], alts := [], laidByText := true, laidKinds := [.data], laidTests := true, laidLooks := .later }
def PlanOnceCardSaid : Prop := Claim7.holds Tryd.pinned (.plain (OpenSpec.ofChange planOnceSpec)) planOnceCard

/-- THE TIED CARD OF 'spencelaw28.PlanMakes'. -/
def planMakesCard : Claim7 := { stood := { row := planMakesRow, standIns := [], harness := (true, "9efb238688faacc68744475846aa2837f64feee42efab19a35a16943659a881b"), looks := false }, kinds := [], alts := [], laidByText := true, laidKinds := [.data], laidTests := true, laidLooks := .later }
def PlanMakesCardSaid : Prop := Claim7.holds Tryd.pinned (.plain (OpenSpec.ofChange planMakesSpec)) planMakesCard

/-- THE SECOND FORM's CARD OF 'spencelaw18.BitmapTells'. -/
def bitmapTellsUptoCard : Claim7 := { stood := { row := bitmapTellsUptoRow, standIns := [], harness := (true, "9efb238688faacc68744475846aa2837f64feee42efab19a35a16943659a881b"), looks := false }, kinds := [], alts := [], laidByText := true, laidKinds := [.data], laidTests := true, laidLooks := .later }
def BitmapTellsUptoCardSaid : Prop := Claim7.holds Tryd.pinned (.plain (OpenSpec.upto bitmapTellsSpec)) bitmapTellsUptoCard

/-- THE SECOND FORM's CARD OF 'spencelaw27.RunsSplits'. -/
def runsSplitsUptoCard : Claim7 := { stood := { row := runsSplitsUptoRow, standIns := [], harness := (true, "9efb238688faacc68744475846aa2837f64feee42efab19a35a16943659a881b"), looks := false }, kinds := [], alts := [], laidByText := true, laidKinds := [.data], laidTests := true, laidLooks := .later }
def RunsSplitsUptoCardSaid : Prop := Claim7.holds Tryd.pinned (.plain (OpenSpec.upto runsSplitsSpec)) runsSplitsUptoCard

/-- THE SECOND FORM's CARD OF 'spencelaw27.RunsCaps'. -/
def runsCapsUptoCard : Claim7 := { stood := { row := runsCapsUptoRow, standIns := [], harness := (true, "9efb238688faacc68744475846aa2837f64feee42efab19a35a16943659a881b"), looks := false }, kinds := [], alts := [], laidByText := true, laidKinds := [.data], laidTests := true, laidLooks := .later }
def RunsCapsUptoCardSaid : Prop := Claim7.holds Tryd.pinned (.plain (OpenSpec.upto runsCapsSpec)) runsCapsUptoCard

/-- THE SECOND FORM's CARD OF 'spencelaw28.PlanBytes'. -/
def planBytesUptoCard : Claim7 := { stood := { row := planBytesUptoRow, standIns := [], harness := (true, "9efb238688faacc68744475846aa2837f64feee42efab19a35a16943659a881b"), looks := false }, kinds := [], alts := [], laidByText := true, laidKinds := [.data], laidTests := true, laidLooks := .later }
def PlanBytesUptoCardSaid : Prop := Claim7.holds Tryd.pinned (.plain (OpenSpec.upto planBytesSpec)) planBytesUptoCard

/-- THE SECOND FORM's CARD OF 'spencelaw28.PlanOnce'. -/
def planOnceUptoCard : Claim7 := { stood := { row := planOnceUptoRow, standIns := [], harness := (true, "9efb238688faacc68744475846aa2837f64feee42efab19a35a16943659a881b"), looks := false }, kinds := [], alts := [], laidByText := true, laidKinds := [.data], laidTests := true, laidLooks := .later }
def PlanOnceUptoCardSaid : Prop := Claim7.holds Tryd.pinned (.plain (OpenSpec.upto planOnceSpec)) planOnceUptoCard

/-- THE SECOND FORM's CARD OF 'spencelaw28.PlanMakes'. -/
def planMakesUptoCard : Claim7 := { stood := { row := planMakesUptoRow, standIns := [], harness := (true, "9efb238688faacc68744475846aa2837f64feee42efab19a35a16943659a881b"), looks := false }, kinds := [], alts := [], laidByText := true, laidKinds := [.data], laidTests := true, laidLooks := .later }
def PlanMakesUptoCardSaid : Prop := Claim7.holds Tryd.pinned (.plain (OpenSpec.upto planMakesSpec)) planMakesUptoCard
end Rows
end Go.Proofs.YtcnlmpjoghogbaaDoor
