/-
  No cell of these rows narrows 'for every input' (looked for: loops, veiled, ifaces, maps, wideKeys, modest, calm, conditions, laid).
  DERIVED. THE GIVEN ROWS OF THIS SEAT. 6 by the template 'for every input the law returns true; each argument reads behind the call as it read before'; 0 by the template 'total and deterministic' (their statements: YtahoibanpplhbaaTotals.lean).
  GIVEN WITH THE SEED: the statements are not yours to turn. If you find one false, say at which input.
  Laid BY PROGRAM, IN A SANDBOX (cutbox-rows.mjs): the forced cells as the released guide's own fill.sh prints them over the translation 2da584a72b660465… (all of the seat's roots in one cut). By AI agents, Wed Nov 11 2026. No macro, syntax, notation, axiom, sorry.
-/
import Derived.Test.YtahoibanpplhbaaChecked
import GoSem.Claim
import GoSem.ClaimJoined
import GoSem.ClaimMapViews
import Derived.JoinedTies
import Derived.KernelRfl
namespace Go.Proofs.Ytahoibanpplhbaa
/- THE CELL 'sum', in the pinned program and in every row, IS THE sha256 OF THE DUMP (.gsa) THAT YtahoibanpplhbaaProg.lean LOADS. Nothing in Lean hashes anything: it is a label: what it is worth is what the hold of that sum in a sandbox is worth. -/
noncomputable def Try.pinned : Pinned := { name := "ytahoibanpplhbaa", sum := "2da584a72b660465ec790c75f79800607086ccd651e6e5c55b9429ebad76bd9d", checked := Try.checked }
namespace Rows
def none {H : Type} : Left H := { results := [], args := [] }

/-- 'spencelaw07.CrangeParses': WHATEVER THE INPUT: true; the input reads as it did. -/
def crangeParsesSpec : ChangeSpec := { name := "crangeParses", fn := fun _ => fun
  | [d] => { results := [.lit (.bool true)], args := [d] }
  | _ => none }
def crangeParsesRow : OpenClaim := { program := "ytahoibanpplhbaa", sum := "2da584a72b660465ec790c75f79800607086ccd651e6e5c55b9429ebad76bd9d", func := "spence/spencelaw07.CrangeParses", spec := "crangeParses", inPlace := ["internal/bytealg.IndexByteString"], unfollowed := true, recurses := true, apart := false }
def CrangeParsesSaid : Prop := crangeParsesRow.holds Try.pinned (OpenSpec.ofChange crangeParsesSpec)

/-- ITS FALSE NEIGHBOUR: 'it returns false'. Refute it at one input. -/
def crangeParsesWrong : ChangeSpec := { name := "crangeParses", fn := fun _ => fun
  | [d] => { results := [.lit (.bool false)], args := [d] }
  | _ => none }
def CrangeParsesWrongFalsely : Prop := crangeParsesRow.holds Try.pinned (OpenSpec.ofChange crangeParsesWrong)

/-- 'spencelaw07.CrangeBack': WHATEVER THE INPUT: true; the input reads as it did. -/
def crangeBackSpec : ChangeSpec := { name := "crangeBack", fn := fun _ => fun
  | [d1, d2, d3] => { results := [.lit (.bool true)], args := [d1, d2, d3] }
  | _ => none }
def crangeBackRow : OpenClaim := { program := "ytahoibanpplhbaa", sum := "2da584a72b660465ec790c75f79800607086ccd651e6e5c55b9429ebad76bd9d", func := "spence/spencelaw07.CrangeBack", spec := "crangeBack", inPlace := ["internal/bytealg.IndexByteString"], unfollowed := true, recurses := true, apart := false }
def CrangeBackSaid : Prop := crangeBackRow.holds Try.pinned (OpenSpec.ofChange crangeBackSpec)

/-- ITS FALSE NEIGHBOUR: 'it returns false'. Refute it at one input. -/
def crangeBackWrong : ChangeSpec := { name := "crangeBack", fn := fun _ => fun
  | [d1, d2, d3] => { results := [.lit (.bool false)], args := [d1, d2, d3] }
  | _ => none }
def CrangeBackWrongFalsely : Prop := crangeBackRow.holds Try.pinned (OpenSpec.ofChange crangeBackWrong)

/-- 'spencelaw07.CrangeNoughts': WHATEVER THE INPUT: true; the input reads as it did. -/
def crangeNoughtsSpec : ChangeSpec := { name := "crangeNoughts", fn := fun _ => fun
  | [d1, d2, d3, d4] => { results := [.lit (.bool true)], args := [d1, d2, d3, d4] }
  | _ => none }
def crangeNoughtsRow : OpenClaim := { program := "ytahoibanpplhbaa", sum := "2da584a72b660465ec790c75f79800607086ccd651e6e5c55b9429ebad76bd9d", func := "spence/spencelaw07.CrangeNoughts", spec := "crangeNoughts", inPlace := ["internal/bytealg.IndexByteString"], unfollowed := true, recurses := true, apart := false }
def CrangeNoughtsSaid : Prop := crangeNoughtsRow.holds Try.pinned (OpenSpec.ofChange crangeNoughtsSpec)

/-- ITS FALSE NEIGHBOUR: 'it returns false'. Refute it at one input. -/
def crangeNoughtsWrong : ChangeSpec := { name := "crangeNoughts", fn := fun _ => fun
  | [d1, d2, d3, d4] => { results := [.lit (.bool false)], args := [d1, d2, d3, d4] }
  | _ => none }
def CrangeNoughtsWrongFalsely : Prop := crangeNoughtsRow.holds Try.pinned (OpenSpec.ofChange crangeNoughtsWrong)

/-- 'spencelaw46.CondParses': WHATEVER THE INPUT: true; the input reads as it did. -/
def condParsesSpec : ChangeSpec := { name := "condParses", fn := fun _ => fun
  | [d] => { results := [.lit (.bool true)], args := [d] }
  | _ => none }
def condParsesRow : OpenClaim := { program := "ytahoibanpplhbaa", sum := "2da584a72b660465ec790c75f79800607086ccd651e6e5c55b9429ebad76bd9d", func := "spence/spencelaw46.CondParses", spec := "condParses", unfollowed := true, recurses := true, apart := false }
def CondParsesSaid : Prop := condParsesRow.holds Try.pinned (OpenSpec.ofChange condParsesSpec)

/-- ITS FALSE NEIGHBOUR: 'it returns false'. Refute it at one input. -/
def condParsesWrong : ChangeSpec := { name := "condParses", fn := fun _ => fun
  | [d] => { results := [.lit (.bool false)], args := [d] }
  | _ => none }
def CondParsesWrongFalsely : Prop := condParsesRow.holds Try.pinned (OpenSpec.ofChange condParsesWrong)

/-- 'spencelaw46.CondTells': WHATEVER THE INPUT: true; the input reads as it did. -/
def condTellsSpec : ChangeSpec := { name := "condTells", fn := fun _ => fun
  | [d1, d2, d3] => { results := [.lit (.bool true)], args := [d1, d2, d3] }
  | _ => none }
def condTellsRow : OpenClaim := { program := "ytahoibanpplhbaa", sum := "2da584a72b660465ec790c75f79800607086ccd651e6e5c55b9429ebad76bd9d", func := "spence/spencelaw46.CondTells", spec := "condTells", unfollowed := true, recurses := true, apart := false }
def CondTellsSaid : Prop := condTellsRow.holds Try.pinned (OpenSpec.ofChange condTellsSpec)

/-- ITS FALSE NEIGHBOUR: 'it returns false'. Refute it at one input. -/
def condTellsWrong : ChangeSpec := { name := "condTells", fn := fun _ => fun
  | [d1, d2, d3] => { results := [.lit (.bool false)], args := [d1, d2, d3] }
  | _ => none }
def CondTellsWrongFalsely : Prop := condTellsRow.holds Try.pinned (OpenSpec.ofChange condTellsWrong)

/-- 'spencelaw46.CondBack': WHATEVER THE INPUT: true; the input reads as it did. -/
def condBackSpec : ChangeSpec := { name := "condBack", fn := fun _ => fun
  | [d] => { results := [.lit (.bool true)], args := [d] }
  | _ => none }
def condBackRow : OpenClaim := { program := "ytahoibanpplhbaa", sum := "2da584a72b660465ec790c75f79800607086ccd651e6e5c55b9429ebad76bd9d", func := "spence/spencelaw46.CondBack", spec := "condBack", inPlace := ["internal/abi.NoEscape", "internal/bytealg.MakeNoZero"], unfollowed := true, recurses := true, apart := false }
def CondBackSaid : Prop := condBackRow.holds Try.pinned (OpenSpec.ofChange condBackSpec)

/-- ITS FALSE NEIGHBOUR: 'it returns false'. Refute it at one input. -/
def condBackWrong : ChangeSpec := { name := "condBack", fn := fun _ => fun
  | [d] => { results := [.lit (.bool false)], args := [d] }
  | _ => none }
def CondBackWrongFalsely : Prop := condBackRow.holds Try.pinned (OpenSpec.ofChange condBackWrong)

/- THE SECOND FORM. 'bulk': how many values and letters a reading holds, each counted each time it is reached (what is shared counts as often as it is met; a slice's spare places count too). A statement '..UptoSaid' is the law's where the arguments, and the package variables that the reading takes, are together of bulk at most 1048576: NARROWER than '..Said'. Prove '..Said' where nothing that the law and all that it calls make is longer than what came in: it says more and counts as full. Else prove '..UptoSaid'. A law counts once. -/
mutual
def uptoBulk {H : Type} : DataW H → Nat
  | .lit (.string bytes) => bytes.length + 1
  | .lit _ => 1
  | .nil => 1
  | .ptr d => uptoBulk d + 1
  | .slice elems spare => uptoBulkAll elems + uptoBulkAll spare + 1
  | .agg parts => uptoBulkAll parts + 1
  | .iface _ d => uptoBulk d + 1
  | .map entries => uptoBulkEntries entries + 1
  | .held _ => 1
def uptoBulkAll {H : Type} : List (DataW H) → Nat
  | [] => 0
  | d :: r => uptoBulk d + uptoBulkAll r
def uptoBulkEntries {H : Type} : List (Lit × DataW H) → Nat
  | [] => 0
  | x :: r => uptoBulkEntry x + uptoBulkEntries r
def uptoBulkEntry {H : Type} : Lit × DataW H → Nat
  | (.string bytes, d) => bytes.length + uptoBulk d + 1
  | (_, d) => uptoBulk d + 1
 end
def uptoSmall : (H : Type) → List (DataW H) → Bool := fun _ ds => decide (uptoBulkAll ds ≤ 1048576)
def OpenSpec.upto (s : _root_.Go.ChangeSpec) : _root_.Go.OpenSpec := { _root_.Go.OpenSpec.ofChange s with cond := some uptoSmall }

/-- 'spencelaw07.CrangeParses', WHERE WHAT IT READS IS OF BULK AT MOST 1048576: true; the input reads as it did. -/
def crangeParsesUptoRow : OpenClaim := { program := "ytahoibanpplhbaa", sum := "2da584a72b660465ec790c75f79800607086ccd651e6e5c55b9429ebad76bd9d", func := "spence/spencelaw07.CrangeParses", spec := "crangeParses", inPlace := ["internal/bytealg.IndexByteString"], unfollowed := true, recurses := true, apart := false, narrowed := true }
def CrangeParsesUptoSaid : Prop := crangeParsesUptoRow.holds Try.pinned (OpenSpec.upto crangeParsesSpec)

/-- 'spencelaw07.CrangeBack', WHERE WHAT IT READS IS OF BULK AT MOST 1048576: true; the input reads as it did. -/
def crangeBackUptoRow : OpenClaim := { program := "ytahoibanpplhbaa", sum := "2da584a72b660465ec790c75f79800607086ccd651e6e5c55b9429ebad76bd9d", func := "spence/spencelaw07.CrangeBack", spec := "crangeBack", inPlace := ["internal/bytealg.IndexByteString"], unfollowed := true, recurses := true, apart := false, narrowed := true }
def CrangeBackUptoSaid : Prop := crangeBackUptoRow.holds Try.pinned (OpenSpec.upto crangeBackSpec)

/-- 'spencelaw07.CrangeNoughts', WHERE WHAT IT READS IS OF BULK AT MOST 1048576: true; the input reads as it did. -/
def crangeNoughtsUptoRow : OpenClaim := { program := "ytahoibanpplhbaa", sum := "2da584a72b660465ec790c75f79800607086ccd651e6e5c55b9429ebad76bd9d", func := "spence/spencelaw07.CrangeNoughts", spec := "crangeNoughts", inPlace := ["internal/bytealg.IndexByteString"], unfollowed := true, recurses := true, apart := false, narrowed := true }
def CrangeNoughtsUptoSaid : Prop := crangeNoughtsUptoRow.holds Try.pinned (OpenSpec.upto crangeNoughtsSpec)

/-- 'spencelaw46.CondParses', WHERE WHAT IT READS IS OF BULK AT MOST 1048576: true; the input reads as it did. -/
def condParsesUptoRow : OpenClaim := { program := "ytahoibanpplhbaa", sum := "2da584a72b660465ec790c75f79800607086ccd651e6e5c55b9429ebad76bd9d", func := "spence/spencelaw46.CondParses", spec := "condParses", unfollowed := true, recurses := true, apart := false, narrowed := true }
def CondParsesUptoSaid : Prop := condParsesUptoRow.holds Try.pinned (OpenSpec.upto condParsesSpec)

/-- 'spencelaw46.CondTells', WHERE WHAT IT READS IS OF BULK AT MOST 1048576: true; the input reads as it did. -/
def condTellsUptoRow : OpenClaim := { program := "ytahoibanpplhbaa", sum := "2da584a72b660465ec790c75f79800607086ccd651e6e5c55b9429ebad76bd9d", func := "spence/spencelaw46.CondTells", spec := "condTells", unfollowed := true, recurses := true, apart := false, narrowed := true }
def CondTellsUptoSaid : Prop := condTellsUptoRow.holds Try.pinned (OpenSpec.upto condTellsSpec)

/-- 'spencelaw46.CondBack', WHERE WHAT IT READS IS OF BULK AT MOST 1048576: true; the input reads as it did. -/
def condBackUptoRow : OpenClaim := { program := "ytahoibanpplhbaa", sum := "2da584a72b660465ec790c75f79800607086ccd651e6e5c55b9429ebad76bd9d", func := "spence/spencelaw46.CondBack", spec := "condBack", inPlace := ["internal/abi.NoEscape", "internal/bytealg.MakeNoZero"], unfollowed := true, recurses := true, apart := false, narrowed := true }
def CondBackUptoSaid : Prop := condBackUptoRow.holds Try.pinned (OpenSpec.upto condBackSpec)

end Rows
end Go.Proofs.Ytahoibanpplhbaa
