/-
  DERIVED. GIVEN WITH THE SEED: THE CARDS: each row of YtndghocppadimaaDoorRows.lean that lists a variable, with what it lists TIED to the program's text (the seventh form; the later family's looks); each row that meets fmt, with fmt's text TOLD by the authors' own Lean function (tested against real Go, not proved from fmt's source: count such statements apart). THE CARD IS WHAT COUNTS. Prove the row's statement (the work); the ties are given (YtndghocppadimaaDoorTie.lean); close each card by the builder's one call (the guide's Derived/Test/ToyasCard.lean, 'card_holds'). Laid BY PROGRAM, IN A SANDBOX (cutbox-door.mjs). By AI agents, Wed Nov 11 2026. No macro, syntax, notation, axiom, sorry.
-/
import Derived.Test.YtndghocppadimaaDoorRows
import GoSem.ClaimSeven
namespace Go.Proofs.YtndghocppadimaaDoor
namespace Rows

/-- THE TIED CARD OF 'spencelaw05.SpecParses'. -/
def specParsesCard : Claim7 := { stood := { row := specParsesRow, standIns := [], harness := (true, "4e3150b384d01644c5bede7423f0e901dc19b9dbc2b06a40fda422c2da5e56e4"), looks := false }, kinds := [], alts := [], laidByText := true, laidKinds := [.data, .pinned], laidTests := true, laidLooks := .later }
def SpecParsesCardSaid : Prop := Claim7.holds Tryd.pinned (.plain (OpenSpec.ofChange specParsesSpec)) specParsesCard

/-- THE TIED CARD OF 'spencelaw05.SpecBack'. -/
def specBackCard : Claim7 := { stood := { row := specBackRow, standIns := [], harness := (true, "4e3150b384d01644c5bede7423f0e901dc19b9dbc2b06a40fda422c2da5e56e4"), looks := false }, kinds := [], alts := [], laidByText := true, laidKinds := [.data, .pinned], laidTests := true, laidLooks := .later }
def SpecBackCardSaid : Prop := Claim7.holds Tryd.pinned (.plain (OpenSpec.ofChange specBackSpec)) specBackCard

/-- THE TIED CARD OF 'spencelaw05.SpecOnes'. -/
def specOnesCard : Claim7 := { stood := { row := specOnesRow, standIns := [], harness := (true, "4e3150b384d01644c5bede7423f0e901dc19b9dbc2b06a40fda422c2da5e56e4"), looks := false }, kinds := [], alts := [], laidByText := true, laidKinds := [.data, .pinned], laidTests := true, laidLooks := .later }
def SpecOnesCardSaid : Prop := Claim7.holds Tryd.pinned (.plain (OpenSpec.ofChange specOnesSpec)) specOnesCard

/-- THE SECOND FORM's CARD OF 'spencelaw05.SpecParses'. -/
def specParsesUptoCard : Claim7 := { stood := { row := specParsesUptoRow, standIns := [], harness := (true, "4e3150b384d01644c5bede7423f0e901dc19b9dbc2b06a40fda422c2da5e56e4"), looks := false }, kinds := [], alts := [], laidByText := true, laidKinds := [.data, .pinned], laidTests := true, laidLooks := .later }
def SpecParsesUptoCardSaid : Prop := Claim7.holds Tryd.pinned (.plain (OpenSpec.upto specParsesSpec)) specParsesUptoCard

/-- THE SECOND FORM's CARD OF 'spencelaw05.SpecBack'. -/
def specBackUptoCard : Claim7 := { stood := { row := specBackUptoRow, standIns := [], harness := (true, "4e3150b384d01644c5bede7423f0e901dc19b9dbc2b06a40fda422c2da5e56e4"), looks := false }, kinds := [], alts := [], laidByText := true, laidKinds := [.data, .pinned], laidTests := true, laidLooks := .later }
def SpecBackUptoCardSaid : Prop := Claim7.holds Tryd.pinned (.plain (OpenSpec.upto specBackSpec)) specBackUptoCard

/-- THE SECOND FORM's CARD OF 'spencelaw05.SpecOnes'. -/
def specOnesUptoCard : Claim7 := { stood := { row := specOnesUptoRow, standIns := [], harness := (true, "4e3150b384d01644c5bede7423f0e901dc19b9dbc2b06a40fda422c2da5e56e4"), looks := false }, kinds := [], alts := [], laidByText := true, laidKinds := [.data, .pinned], laidTests := true, laidLooks := .later }
def SpecOnesUptoCardSaid : Prop := Claim7.holds Tryd.pinned (.plain (OpenSpec.upto specOnesSpec)) specOnesUptoCard
end Rows
end Go.Proofs.YtndghocppadimaaDoor
