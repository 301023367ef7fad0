/-
  NARROWER THAN 'FOR EVERY INPUT', by the rows' own cells (each row's printed sentence says how): BitmapTells: laid · RunsSplits: laid · RunsCaps: laid · PlanBytes: laid · PlanOnce: laid · PlanMakes: laid.
  DERIVED. THE GIVEN ROWS OF THIS SEAT. 6 by the template 'for every input the law returns true; each argument reads behind the call as it read before'; 0 by the template 'total and deterministic' (their statements: YtcnlmpjoghogbaaDoorTotals.lean).
  GIVEN WITH THE SEED: the statements are not yours to turn. If you find one false, say at which input.
  Laid BY PROGRAM, IN A SANDBOX (cutbox-rows.mjs): the forced cells as the released guide's own fill.sh prints them over the translation b5255f0957278b15… (all of the seat's roots in one cut). By AI agents, Wed Nov 11 2026. No macro, syntax, notation, axiom, sorry.
-/
import Derived.Test.YtcnlmpjoghogbaaDoorChecked
import GoSem.Claim
import GoSem.ClaimJoined
import GoSem.ClaimMapViews
import Derived.JoinedTies
import Derived.KernelRfl
namespace Go.Proofs.YtcnlmpjoghogbaaDoor
/- THE CELL 'sum', in the pinned program and in every row, IS THE sha256 OF THE DUMP (.gsa) THAT YtcnlmpjoghogbaaDoorProg.lean LOADS. Nothing in Lean hashes anything: it is a label: what it is worth is what the hold of that sum in a sandbox is worth. -/
noncomputable def Tryd.pinned : Pinned := { name := "ytcnlmpjoghogbaadoor", sum := "b5255f0957278b150999384e7c63df4dcab7b024eb95ba13fb6b69b4ddddd1ee", checked := Tryd.checked }
namespace Rows
def none {H : Type} : Left H := { results := [], args := [] }

/- WHAT THE LISTED PACKAGE-LEVEL VARIABLES READ AS WHEN THE CALL BEGINS. Each datum BY PROGRAM (the guide's laid-datum.mjs) off the statement by which the dump's own 'gosem.cut.vars' lays the variable. In a bare row this is a premise. The card (YtcnlmpjoghogbaaDoorCards.lean) ties it to the program's text. -/
def laid_math_bits_deBruijn64tab {H : Type} : DataW H := .agg [.lit (.int .u8 0), .lit (.int .u8 1), .lit (.int .u8 56), .lit (.int .u8 2), .lit (.int .u8 57), .lit (.int .u8 49), .lit (.int .u8 28), .lit (.int .u8 3), .lit (.int .u8 61), .lit (.int .u8 58), .lit (.int .u8 42), .lit (.int .u8 50), .lit (.int .u8 38), .lit (.int .u8 29), .lit (.int .u8 17), .lit (.int .u8 4), .lit (.int .u8 62), .lit (.int .u8 47), .lit (.int .u8 59), .lit (.int .u8 36), .lit (.int .u8 45), .lit (.int .u8 43), .lit (.int .u8 51), .lit (.int .u8 22), .lit (.int .u8 53), .lit (.int .u8 39), .lit (.int .u8 33), .lit (.int .u8 30), .lit (.int .u8 24), .lit (.int .u8 18), .lit (.int .u8 12), .lit (.int .u8 5), .lit (.int .u8 63), .lit (.int .u8 55), .lit (.int .u8 48), .lit (.int .u8 27), .lit (.int .u8 60), .lit (.int .u8 41), .lit (.int .u8 37), .lit (.int .u8 16), .lit (.int .u8 46), .lit (.int .u8 35), .lit (.int .u8 44), .lit (.int .u8 21), .lit (.int .u8 52), .lit (.int .u8 32), .lit (.int .u8 23), .lit (.int .u8 11), .lit (.int .u8 54), .lit (.int .u8 26), .lit (.int .u8 40), .lit (.int .u8 15), .lit (.int .u8 34), .lit (.int .u8 20), .lit (.int .u8 31), .lit (.int .u8 10), .lit (.int .u8 25), .lit (.int .u8 14), .lit (.int .u8 19), .lit (.int .u8 9), .lit (.int .u8 13), .lit (.int .u8 8), .lit (.int .u8 7), .lit (.int .u8 6)]

/-- 'spencelaw18.BitmapTells': WHATEVER THE INPUT: true; the input reads as it did. -/
def bitmapTellsSpec : ChangeSpec := { name := "bitmapTells", fn := fun _ => fun
  | [d1, d2, d3] => { results := [.lit (.bool true)], args := [d1, d2, d3] }
  | _ => none }
def bitmapTellsRow : OpenClaim := { program := "ytcnlmpjoghogbaadoor", sum := "b5255f0957278b150999384e7c63df4dcab7b024eb95ba13fb6b69b4ddddd1ee", func := "spence/spencelaw18.BitmapTells", spec := "bitmapTells", unfollowed := true, recurses := true, named := ["math/bits.deBruijn64tab"], apart := false, laid := [("math/bits.deBruijn64tab", laid_math_bits_deBruijn64tab)] }
def BitmapTellsSaid : Prop := bitmapTellsRow.holds Tryd.pinned (OpenSpec.ofChange bitmapTellsSpec)

/-- ITS FALSE NEIGHBOUR: 'it returns false'. Refute it at one input. -/
def bitmapTellsWrong : ChangeSpec := { name := "bitmapTells", fn := fun _ => fun
  | [d1, d2, d3] => { results := [.lit (.bool false)], args := [d1, d2, d3] }
  | _ => none }
def BitmapTellsWrongFalsely : Prop := bitmapTellsRow.holds Tryd.pinned (OpenSpec.ofChange bitmapTellsWrong)

/-- 'spencelaw27.RunsSplits': WHATEVER THE INPUT: true; the input reads as it did. -/
def runsSplitsSpec : ChangeSpec := { name := "runsSplits", fn := fun _ => fun
  | [d1, d2] => { results := [.lit (.bool true)], args := [d1, d2] }
  | _ => none }
def runsSplitsRow : OpenClaim := { program := "ytcnlmpjoghogbaadoor", sum := "b5255f0957278b150999384e7c63df4dcab7b024eb95ba13fb6b69b4ddddd1ee", func := "spence/spencelaw27.RunsSplits", spec := "runsSplits", unfollowed := true, recurses := true, named := ["math/bits.deBruijn64tab"], apart := false, laid := [("math/bits.deBruijn64tab", laid_math_bits_deBruijn64tab)] }
def RunsSplitsSaid : Prop := runsSplitsRow.holds Tryd.pinned (OpenSpec.ofChange runsSplitsSpec)

/-- ITS FALSE NEIGHBOUR: 'it returns false'. Refute it at one input. -/
def runsSplitsWrong : ChangeSpec := { name := "runsSplits", fn := fun _ => fun
  | [d1, d2] => { results := [.lit (.bool false)], args := [d1, d2] }
  | _ => none }
def RunsSplitsWrongFalsely : Prop := runsSplitsRow.holds Tryd.pinned (OpenSpec.ofChange runsSplitsWrong)

/-- 'spencelaw27.RunsCaps': WHATEVER THE INPUT: true; the input reads as it did. -/
def runsCapsSpec : ChangeSpec := { name := "runsCaps", fn := fun _ => fun
  | [d1, d2] => { results := [.lit (.bool true)], args := [d1, d2] }
  | _ => none }
def runsCapsRow : OpenClaim := { program := "ytcnlmpjoghogbaadoor", sum := "b5255f0957278b150999384e7c63df4dcab7b024eb95ba13fb6b69b4ddddd1ee", func := "spence/spencelaw27.RunsCaps", spec := "runsCaps", unfollowed := true, recurses := true, named := ["math/bits.deBruijn64tab"], apart := false, laid := [("math/bits.deBruijn64tab", laid_math_bits_deBruijn64tab)] }
def RunsCapsSaid : Prop := runsCapsRow.holds Tryd.pinned (OpenSpec.ofChange runsCapsSpec)

/-- ITS FALSE NEIGHBOUR: 'it returns false'. Refute it at one input. -/
def runsCapsWrong : ChangeSpec := { name := "runsCaps", fn := fun _ => fun
  | [d1, d2] => { results := [.lit (.bool false)], args := [d1, d2] }
  | _ => none }
def RunsCapsWrongFalsely : Prop := runsCapsRow.holds Tryd.pinned (OpenSpec.ofChange runsCapsWrong)

/-- 'spencelaw28.PlanBytes': WHATEVER THE INPUT: true; the input reads as it did. -/
def planBytesSpec : ChangeSpec := { name := "planBytes", fn := fun _ => fun
  | [d1, d2, d3] => { results := [.lit (.bool true)], args := [d1, d2, d3] }
  | _ => none }
def planBytesRow : OpenClaim := { program := "ytcnlmpjoghogbaadoor", sum := "b5255f0957278b150999384e7c63df4dcab7b024eb95ba13fb6b69b4ddddd1ee", func := "spence/spencelaw28.PlanBytes", spec := "planBytes", unfollowed := true, recurses := true, named := ["math/bits.deBruijn64tab"], apart := false, laid := [("math/bits.deBruijn64tab", laid_math_bits_deBruijn64tab)] }
def PlanBytesSaid : Prop := planBytesRow.holds Tryd.pinned (OpenSpec.ofChange planBytesSpec)

/-- ITS FALSE NEIGHBOUR: 'it returns false'. Refute it at one input. -/
def planBytesWrong : ChangeSpec := { name := "planBytes", fn := fun _ => fun
  | [d1, d2, d3] => { results := [.lit (.bool false)], args := [d1, d2, d3] }
  | _ => none }
def PlanBytesWrongFalsely : Prop := planBytesRow.holds Tryd.pinned (OpenSpec.ofChange planBytesWrong)

/-- 'spencelaw28.PlanOnce': WHATEVER THE INPUT: true; the input reads as it did. -/
def planOnceSpec : ChangeSpec := { name := "planOnce", fn := fun _ => fun
  | [d1, d2, d3, d4] => { results := [.lit (.bool true)], args := [d1, d2, d3, d4] }
  | _ => none }
def planOnceRow : OpenClaim := { program := "ytcnlmpjoghogbaadoor", sum := "b5255f0957278b150999384e7c63df4dcab7b024eb95ba13fb6b69b4ddddd1ee", func := "spence/spencelaw28.PlanOnce", spec := "planOnce", unfollowed := true, recurses := true, named := ["math/bits.deBruijn64tab"], apart := false, laid := [("math/bits.deBruijn64tab", laid_math_bits_deBruijn64tab)] }
def PlanOnceSaid : Prop := planOnceRow.holds Tryd.pinned (OpenSpec.ofChange planOnceSpec)

/-- ITS FALSE NEIGHBOUR: 'it returns false'. Refute it at one input. -/
def planOnceWrong : ChangeSpec := { name := "planOnce", fn := fun _ => fun
  | [d1, d2, d3, d4] => { results := [.lit (.bool false)], args := [d1, d2, d3, d4] }
  | _ => none }
def PlanOnceWrongFalsely : Prop := planOnceRow.holds Tryd.pinned (OpenSpec.ofChange planOnceWrong)

/-- 'spencelaw28.PlanMakes': WHATEVER THE INPUT: true; the input reads as it did. -/
def planMakesSpec : ChangeSpec := { name := "planMakes", fn := fun _ => fun
  | [d1, d2, d3, d4, d5] => { results := [.lit (.bool true)], args := [d1, d2, d3, d4, d5] }
  | _ => none }
def planMakesRow : OpenClaim := { program := "ytcnlmpjoghogbaadoor", sum := "b5255f0957278b150999384e7c63df4dcab7b024eb95ba13fb6b69b4ddddd1ee", func := "spence/spencelaw28.PlanMakes", spec := "planMakes", unfollowed := true, recurses := true, named := ["math/bits.deBruijn64tab"], apart := false, laid := [("math/bits.deBruijn64tab", laid_math_bits_deBruijn64tab)] }
def PlanMakesSaid : Prop := planMakesRow.holds Tryd.pinned (OpenSpec.ofChange planMakesSpec)

/-- ITS FALSE NEIGHBOUR: 'it returns false'. Refute it at one input. -/
def planMakesWrong : ChangeSpec := { name := "planMakes", fn := fun _ => fun
  | [d1, d2, d3, d4, d5] => { results := [.lit (.bool false)], args := [d1, d2, d3, d4, d5] }
  | _ => none }
def PlanMakesWrongFalsely : Prop := planMakesRow.holds Tryd.pinned (OpenSpec.ofChange planMakesWrong)

/- THE SECOND FORM. 'bulk': how many values and letters a reading holds, each counted each time it is reached (what is shared counts as often as it is met; a slice's spare places count too). A statement '..UptoSaid' is the law's where the arguments, and the package variables that the reading takes, are together of bulk at most 1048576: NARROWER than '..Said'. Prove '..Said' where nothing that the law and all that it calls make is longer than what came in: it says more and counts as full. Else prove '..UptoSaid'. A law counts once. -/
mutual
def uptoBulk {H : Type} : DataW H → Nat
  | .lit (.string bytes) => bytes.length + 1
  | .lit _ => 1
  | .nil => 1
  | .ptr d => uptoBulk d + 1
  | .slice elems spare => uptoBulkAll elems + uptoBulkAll spare + 1
  | .agg parts => uptoBulkAll parts + 1
  | .iface _ d => uptoBulk d + 1
  | .map entries => uptoBulkEntries entries + 1
  | .held _ => 1
def uptoBulkAll {H : Type} : List (DataW H) → Nat
  | [] => 0
  | d :: r => uptoBulk d + uptoBulkAll r
def uptoBulkEntries {H : Type} : List (Lit × DataW H) → Nat
  | [] => 0
  | x :: r => uptoBulkEntry x + uptoBulkEntries r
def uptoBulkEntry {H : Type} : Lit × DataW H → Nat
  | (.string bytes, d) => bytes.length + uptoBulk d + 1
  | (_, d) => uptoBulk d + 1
 end
def uptoSmall : (H : Type) → List (DataW H) → Bool := fun _ ds => decide (uptoBulkAll ds ≤ 1048576)
def OpenSpec.upto (s : _root_.Go.ChangeSpec) : _root_.Go.OpenSpec := { _root_.Go.OpenSpec.ofChange s with cond := some uptoSmall }

/-- 'spencelaw18.BitmapTells', WHERE WHAT IT READS IS OF BULK AT MOST 1048576: true; the input reads as it did. -/
def bitmapTellsUptoRow : OpenClaim := { program := "ytcnlmpjoghogbaadoor", sum := "b5255f0957278b150999384e7c63df4dcab7b024eb95ba13fb6b69b4ddddd1ee", func := "spence/spencelaw18.BitmapTells", spec := "bitmapTells", unfollowed := true, recurses := true, named := ["math/bits.deBruijn64tab"], apart := false, laid := [("math/bits.deBruijn64tab", laid_math_bits_deBruijn64tab)], narrowed := true }
def BitmapTellsUptoSaid : Prop := bitmapTellsUptoRow.holds Tryd.pinned (OpenSpec.upto bitmapTellsSpec)

/-- 'spencelaw27.RunsSplits', WHERE WHAT IT READS IS OF BULK AT MOST 1048576: true; the input reads as it did. -/
def runsSplitsUptoRow : OpenClaim := { program := "ytcnlmpjoghogbaadoor", sum := "b5255f0957278b150999384e7c63df4dcab7b024eb95ba13fb6b69b4ddddd1ee", func := "spence/spencelaw27.RunsSplits", spec := "runsSplits", unfollowed := true, recurses := true, named := ["math/bits.deBruijn64tab"], apart := false, laid := [("math/bits.deBruijn64tab", laid_math_bits_deBruijn64tab)], narrowed := true }
def RunsSplitsUptoSaid : Prop := runsSplitsUptoRow.holds Tryd.pinned (OpenSpec.upto runsSplitsSpec)

/-- 'spencelaw27.RunsCaps', WHERE WHAT IT READS IS OF BULK AT MOST 1048576: true; the input reads as it did. -/
def runsCapsUptoRow : OpenClaim := { program := "ytcnlmpjoghogbaadoor", sum := "b5255f0957278b150999384e7c63df4dcab7b024eb95ba13fb6b69b4ddddd1ee", func := "spence/spencelaw27.RunsCaps", spec := "runsCaps", unfollowed := true, recurses := true, named := ["math/bits.deBruijn64tab"], apart := false, laid := [("math/bits.deBruijn64tab", laid_math_bits_deBruijn64tab)], narrowed := true }
def RunsCapsUptoSaid : Prop := runsCapsUptoRow.holds Tryd.pinned (OpenSpec.upto runsCapsSpec)

/-- 'spencelaw28.PlanBytes', WHERE WHAT IT READS IS OF BULK AT MOST 1048576: true; the input reads as it did. -/
def planBytesUptoRow : OpenClaim := { program := "ytcnlmpjoghogbaadoor", sum := "b5255f0957278b150999384e7c63df4dcab7b024eb95ba13fb6b69b4ddddd1ee", func := "spence/spencelaw28.PlanBytes", spec := "planBytes", unfollowed := true, recurses := true, named := ["math/bits.deBruijn64tab"], apart := false, laid := [("math/bits.deBruijn64tab", laid_math_bits_deBruijn64tab)], narrowed := true }
def PlanBytesUptoSaid : Prop := planBytesUptoRow.holds Tryd.pinned (OpenSpec.upto planBytesSpec)

/-- 'spencelaw28.PlanOnce', WHERE WHAT IT READS IS OF BULK AT MOST 1048576: true; the input reads as it did. -/
def planOnceUptoRow : OpenClaim := { program := "ytcnlmpjoghogbaadoor", sum := "b5255f0957278b150999384e7c63df4dcab7b024eb95ba13fb6b69b4ddddd1ee", func := "spence/spencelaw28.PlanOnce", spec := "planOnce", unfollowed := true, recurses := true, named := ["math/bits.deBruijn64tab"], apart := false, laid := [("math/bits.deBruijn64tab", laid_math_bits_deBruijn64tab)], narrowed := true }
def PlanOnceUptoSaid : Prop := planOnceUptoRow.holds Tryd.pinned (OpenSpec.upto planOnceSpec)

/-- 'spencelaw28.PlanMakes', WHERE WHAT IT READS IS OF BULK AT MOST 1048576: true; the input reads as it did. -/
def planMakesUptoRow : OpenClaim := { program := "ytcnlmpjoghogbaadoor", sum := "b5255f0957278b150999384e7c63df4dcab7b024eb95ba13fb6b69b4ddddd1ee", func := "spence/spencelaw28.PlanMakes", spec := "planMakes", unfollowed := true, recurses := true, named := ["math/bits.deBruijn64tab"], apart := false, laid := [("math/bits.deBruijn64tab", laid_math_bits_deBruijn64tab)], narrowed := true }
def PlanMakesUptoSaid : Prop := planMakesUptoRow.holds Tryd.pinned (OpenSpec.upto planMakesSpec)

end Rows
end Go.Proofs.YtcnlmpjoghogbaaDoor
