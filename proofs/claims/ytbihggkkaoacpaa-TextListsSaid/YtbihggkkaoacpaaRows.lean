/-
  No cell of these rows narrows 'for every input' (looked for: loops, veiled, ifaces, maps, wideKeys, modest, calm, conditions, laid).
  DERIVED. THE GIVEN ROWS OF THIS SEAT. 9 by the template 'for every input the law returns true; each argument reads behind the call as it read before'; 0 by the template 'total and deterministic' (their statements: YtbihggkkaoacpaaTotals.lean).
  GIVEN WITH THE SEED: the statements are not yours to turn. If you find one false, say at which input.
  Laid BY PROGRAM, IN A SANDBOX (cutbox-rows.mjs): the forced cells as the released guide's own fill.sh prints them over the translation dcc8cbce637920e5… (all of the seat's roots in one cut). By AI agents, Wed Nov 11 2026. No macro, syntax, notation, axiom, sorry.
-/
import Derived.Test.YtbihggkkaoacpaaChecked
import GoSem.Claim
import GoSem.ClaimJoined
import GoSem.ClaimMapViews
import Derived.JoinedTies
import Derived.KernelRfl
namespace Go.Proofs.Ytbihggkkaoacpaa
/- THE CELL 'sum', in the pinned program and in every row, IS THE sha256 OF THE DUMP (.gsa) THAT YtbihggkkaoacpaaProg.lean LOADS. Nothing in Lean hashes anything: it is a label: what it is worth is what the hold of that sum in a sandbox is worth. -/
noncomputable def Try.pinned : Pinned := { name := "ytbihggkkaoacpaa", sum := "dcc8cbce637920e523c8ac963a614183afc9a5f0c9b87003257222681ce1efa0", checked := Try.checked }
namespace Rows
def none {H : Type} : Left H := { results := [], args := [] }

/-- 'spencelaw01.NumsAdds': WHATEVER THE INPUT: true; the input reads as it did. -/
def numsAddsSpec : ChangeSpec := { name := "numsAdds", fn := fun _ => fun
  | [d1, d2, d3] => { results := [.lit (.bool true)], args := [d1, d2, d3] }
  | _ => none }
def numsAddsRow : OpenClaim := { program := "ytbihggkkaoacpaa", sum := "dcc8cbce637920e523c8ac963a614183afc9a5f0c9b87003257222681ce1efa0", func := "spence/spencelaw01.NumsAdds", spec := "numsAdds", apart := false }
def NumsAddsSaid : Prop := numsAddsRow.holds Try.pinned (OpenSpec.ofChange numsAddsSpec)

/-- ITS FALSE NEIGHBOUR: 'it returns false'. Refute it at one input. -/
def numsAddsWrong : ChangeSpec := { name := "numsAdds", fn := fun _ => fun
  | [d1, d2, d3] => { results := [.lit (.bool false)], args := [d1, d2, d3] }
  | _ => none }
def NumsAddsWrongFalsely : Prop := numsAddsRow.holds Try.pinned (OpenSpec.ofChange numsAddsWrong)

/-- 'spencelaw03.TextLists': WHATEVER THE INPUT: true; the input reads as it did. -/
def textListsSpec : ChangeSpec := { name := "textLists", fn := fun _ => fun
  | [d] => { results := [.lit (.bool true)], args := [d] }
  | _ => none }
def textListsRow : OpenClaim := { program := "ytbihggkkaoacpaa", sum := "dcc8cbce637920e523c8ac963a614183afc9a5f0c9b87003257222681ce1efa0", func := "spence/spencelaw03.TextLists", spec := "textLists", inPlace := ["internal/bytealg.IndexByteString"], apart := false }
def TextListsSaid : Prop := textListsRow.holds Try.pinned (OpenSpec.ofChange textListsSpec)

/-- ITS FALSE NEIGHBOUR: 'it returns false'. Refute it at one input. -/
def textListsWrong : ChangeSpec := { name := "textLists", fn := fun _ => fun
  | [d] => { results := [.lit (.bool false)], args := [d] }
  | _ => none }
def TextListsWrongFalsely : Prop := textListsRow.holds Try.pinned (OpenSpec.ofChange textListsWrong)

/-- 'spencelaw03.TextMakes': WHATEVER THE INPUT: true; the input reads as it did. -/
def textMakesSpec : ChangeSpec := { name := "textMakes", fn := fun _ => fun
  | [d1, d2] => { results := [.lit (.bool true)], args := [d1, d2] }
  | _ => none }
def textMakesRow : OpenClaim := { program := "ytbihggkkaoacpaa", sum := "dcc8cbce637920e523c8ac963a614183afc9a5f0c9b87003257222681ce1efa0", func := "spence/spencelaw03.TextMakes", spec := "textMakes", inPlace := ["internal/bytealg.IndexByteString"], apart := false }
def TextMakesSaid : Prop := textMakesRow.holds Try.pinned (OpenSpec.ofChange textMakesSpec)

/-- ITS FALSE NEIGHBOUR: 'it returns false'. Refute it at one input. -/
def textMakesWrong : ChangeSpec := { name := "textMakes", fn := fun _ => fun
  | [d1, d2] => { results := [.lit (.bool false)], args := [d1, d2] }
  | _ => none }
def TextMakesWrongFalsely : Prop := textMakesRow.holds Try.pinned (OpenSpec.ofChange textMakesWrong)

/-- 'spencelaw01.NumsParses': WHATEVER THE INPUT: true; the input reads as it did. -/
def numsParsesSpec : ChangeSpec := { name := "numsParses", fn := fun _ => fun
  | [d1, d2] => { results := [.lit (.bool true)], args := [d1, d2] }
  | _ => none }
def numsParsesRow : OpenClaim := { program := "ytbihggkkaoacpaa", sum := "dcc8cbce637920e523c8ac963a614183afc9a5f0c9b87003257222681ce1efa0", func := "spence/spencelaw01.NumsParses", spec := "numsParses", apart := false }
def NumsParsesSaid : Prop := numsParsesRow.holds Try.pinned (OpenSpec.ofChange numsParsesSpec)

/-- ITS FALSE NEIGHBOUR: 'it returns false'. Refute it at one input. -/
def numsParsesWrong : ChangeSpec := { name := "numsParses", fn := fun _ => fun
  | [d1, d2] => { results := [.lit (.bool false)], args := [d1, d2] }
  | _ => none }
def NumsParsesWrongFalsely : Prop := numsParsesRow.holds Try.pinned (OpenSpec.ofChange numsParsesWrong)

/-- 'spencelaw01.NumsBack': WHATEVER THE INPUT: true; the input reads as it did. -/
def numsBackSpec : ChangeSpec := { name := "numsBack", fn := fun _ => fun
  | [d1, d2, d3] => { results := [.lit (.bool true)], args := [d1, d2, d3] }
  | _ => none }
def numsBackRow : OpenClaim := { program := "ytbihggkkaoacpaa", sum := "dcc8cbce637920e523c8ac963a614183afc9a5f0c9b87003257222681ce1efa0", func := "spence/spencelaw01.NumsBack", spec := "numsBack", apart := false }
def NumsBackSaid : Prop := numsBackRow.holds Try.pinned (OpenSpec.ofChange numsBackSpec)

/-- ITS FALSE NEIGHBOUR: 'it returns false'. Refute it at one input. -/
def numsBackWrong : ChangeSpec := { name := "numsBack", fn := fun _ => fun
  | [d1, d2, d3] => { results := [.lit (.bool false)], args := [d1, d2, d3] }
  | _ => none }
def NumsBackWrongFalsely : Prop := numsBackRow.holds Try.pinned (OpenSpec.ofChange numsBackWrong)

/-- 'spencelaw04.EtagCompares': WHATEVER THE INPUT: true; the input reads as it did. -/
def etagComparesSpec : ChangeSpec := { name := "etagCompares", fn := fun _ => fun
  | [d1, d2, d3, d4] => { results := [.lit (.bool true)], args := [d1, d2, d3, d4] }
  | _ => none }
def etagComparesRow : OpenClaim := { program := "ytbihggkkaoacpaa", sum := "dcc8cbce637920e523c8ac963a614183afc9a5f0c9b87003257222681ce1efa0", func := "spence/spencelaw04.EtagCompares", spec := "etagCompares", apart := false }
def EtagComparesSaid : Prop := etagComparesRow.holds Try.pinned (OpenSpec.ofChange etagComparesSpec)

/-- ITS FALSE NEIGHBOUR: 'it returns false'. Refute it at one input. -/
def etagComparesWrong : ChangeSpec := { name := "etagCompares", fn := fun _ => fun
  | [d1, d2, d3, d4] => { results := [.lit (.bool false)], args := [d1, d2, d3, d4] }
  | _ => none }
def EtagComparesWrongFalsely : Prop := etagComparesRow.holds Try.pinned (OpenSpec.ofChange etagComparesWrong)

/-- 'spencelaw04.EtagParses': WHATEVER THE INPUT: true; the input reads as it did. -/
def etagParsesSpec : ChangeSpec := { name := "etagParses", fn := fun _ => fun
  | [d1, d2] => { results := [.lit (.bool true)], args := [d1, d2] }
  | _ => none }
def etagParsesRow : OpenClaim := { program := "ytbihggkkaoacpaa", sum := "dcc8cbce637920e523c8ac963a614183afc9a5f0c9b87003257222681ce1efa0", func := "spence/spencelaw04.EtagParses", spec := "etagParses", apart := false }
def EtagParsesSaid : Prop := etagParsesRow.holds Try.pinned (OpenSpec.ofChange etagParsesSpec)

/-- ITS FALSE NEIGHBOUR: 'it returns false'. Refute it at one input. -/
def etagParsesWrong : ChangeSpec := { name := "etagParses", fn := fun _ => fun
  | [d1, d2] => { results := [.lit (.bool false)], args := [d1, d2] }
  | _ => none }
def EtagParsesWrongFalsely : Prop := etagParsesRow.holds Try.pinned (OpenSpec.ofChange etagParsesWrong)

/-- 'spencelaw04.EtagBack': WHATEVER THE INPUT: true; the input reads as it did. -/
def etagBackSpec : ChangeSpec := { name := "etagBack", fn := fun _ => fun
  | [d1, d2] => { results := [.lit (.bool true)], args := [d1, d2] }
  | _ => none }
def etagBackRow : OpenClaim := { program := "ytbihggkkaoacpaa", sum := "dcc8cbce637920e523c8ac963a614183afc9a5f0c9b87003257222681ce1efa0", func := "spence/spencelaw04.EtagBack", spec := "etagBack", apart := false }
def EtagBackSaid : Prop := etagBackRow.holds Try.pinned (OpenSpec.ofChange etagBackSpec)

/-- ITS FALSE NEIGHBOUR: 'it returns false'. Refute it at one input. -/
def etagBackWrong : ChangeSpec := { name := "etagBack", fn := fun _ => fun
  | [d1, d2] => { results := [.lit (.bool false)], args := [d1, d2] }
  | _ => none }
def EtagBackWrongFalsely : Prop := etagBackRow.holds Try.pinned (OpenSpec.ofChange etagBackWrong)

/-- 'spencelaw03.TextTells': WHATEVER THE INPUT: true; the input reads as it did. -/
def textTellsSpec : ChangeSpec := { name := "textTells", fn := fun _ => fun
  | [d1, d2, d3] => { results := [.lit (.bool true)], args := [d1, d2, d3] }
  | _ => none }
def textTellsRow : OpenClaim := { program := "ytbihggkkaoacpaa", sum := "dcc8cbce637920e523c8ac963a614183afc9a5f0c9b87003257222681ce1efa0", func := "spence/spencelaw03.TextTells", spec := "textTells", inPlace := ["internal/bytealg.IndexByteString"], apart := false }
def TextTellsSaid : Prop := textTellsRow.holds Try.pinned (OpenSpec.ofChange textTellsSpec)

/-- ITS FALSE NEIGHBOUR: 'it returns false'. Refute it at one input. -/
def textTellsWrong : ChangeSpec := { name := "textTells", fn := fun _ => fun
  | [d1, d2, d3] => { results := [.lit (.bool false)], args := [d1, d2, d3] }
  | _ => none }
def TextTellsWrongFalsely : Prop := textTellsRow.holds Try.pinned (OpenSpec.ofChange textTellsWrong)

/- THE SECOND FORM. 'bulk': how many values and letters a reading holds, each counted each time it is reached (what is shared counts as often as it is met; a slice's spare places count too). A statement '..UptoSaid' is the law's where the arguments, and the package variables that the reading takes, are together of bulk at most 1048576: NARROWER than '..Said'. Prove '..Said' where nothing that the law and all that it calls make is longer than what came in: it says more and counts as full. Else prove '..UptoSaid'. A law counts once. -/
mutual
def uptoBulk {H : Type} : DataW H → Nat
  | .lit (.string bytes) => bytes.length + 1
  | .lit _ => 1
  | .nil => 1
  | .ptr d => uptoBulk d + 1
  | .slice elems spare => uptoBulkAll elems + uptoBulkAll spare + 1
  | .agg parts => uptoBulkAll parts + 1
  | .iface _ d => uptoBulk d + 1
  | .map entries => uptoBulkEntries entries + 1
  | .held _ => 1
def uptoBulkAll {H : Type} : List (DataW H) → Nat
  | [] => 0
  | d :: r => uptoBulk d + uptoBulkAll r
def uptoBulkEntries {H : Type} : List (Lit × DataW H) → Nat
  | [] => 0
  | x :: r => uptoBulkEntry x + uptoBulkEntries r
def uptoBulkEntry {H : Type} : Lit × DataW H → Nat
  | (.string bytes, d) => bytes.length + uptoBulk d + 1
  | (_, d) => uptoBulk d + 1
 end
def uptoSmall : (H : Type) → List (DataW H) → Bool := fun _ ds => decide (uptoBulkAll ds ≤ 1048576)
def OpenSpec.upto (s : _root_.Go.ChangeSpec) : _root_.Go.OpenSpec := { _root_.Go.OpenSpec.ofChange s with cond := some uptoSmall }

/-- 'spencelaw01.NumsAdds', WHERE WHAT IT READS IS OF BULK AT MOST 1048576: true; the input reads as it did. -/
def numsAddsUptoRow : OpenClaim := { program := "ytbihggkkaoacpaa", sum := "dcc8cbce637920e523c8ac963a614183afc9a5f0c9b87003257222681ce1efa0", func := "spence/spencelaw01.NumsAdds", spec := "numsAdds", apart := false, narrowed := true }
def NumsAddsUptoSaid : Prop := numsAddsUptoRow.holds Try.pinned (OpenSpec.upto numsAddsSpec)

/-- 'spencelaw03.TextLists', WHERE WHAT IT READS IS OF BULK AT MOST 1048576: true; the input reads as it did. -/
def textListsUptoRow : OpenClaim := { program := "ytbihggkkaoacpaa", sum := "dcc8cbce637920e523c8ac963a614183afc9a5f0c9b87003257222681ce1efa0", func := "spence/spencelaw03.TextLists", spec := "textLists", inPlace := ["internal/bytealg.IndexByteString"], apart := false, narrowed := true }
def TextListsUptoSaid : Prop := textListsUptoRow.holds Try.pinned (OpenSpec.upto textListsSpec)

/-- 'spencelaw03.TextMakes', WHERE WHAT IT READS IS OF BULK AT MOST 1048576: true; the input reads as it did. -/
def textMakesUptoRow : OpenClaim := { program := "ytbihggkkaoacpaa", sum := "dcc8cbce637920e523c8ac963a614183afc9a5f0c9b87003257222681ce1efa0", func := "spence/spencelaw03.TextMakes", spec := "textMakes", inPlace := ["internal/bytealg.IndexByteString"], apart := false, narrowed := true }
def TextMakesUptoSaid : Prop := textMakesUptoRow.holds Try.pinned (OpenSpec.upto textMakesSpec)

/-- 'spencelaw01.NumsParses', WHERE WHAT IT READS IS OF BULK AT MOST 1048576: true; the input reads as it did. -/
def numsParsesUptoRow : OpenClaim := { program := "ytbihggkkaoacpaa", sum := "dcc8cbce637920e523c8ac963a614183afc9a5f0c9b87003257222681ce1efa0", func := "spence/spencelaw01.NumsParses", spec := "numsParses", apart := false, narrowed := true }
def NumsParsesUptoSaid : Prop := numsParsesUptoRow.holds Try.pinned (OpenSpec.upto numsParsesSpec)

/-- 'spencelaw01.NumsBack', WHERE WHAT IT READS IS OF BULK AT MOST 1048576: true; the input reads as it did. -/
def numsBackUptoRow : OpenClaim := { program := "ytbihggkkaoacpaa", sum := "dcc8cbce637920e523c8ac963a614183afc9a5f0c9b87003257222681ce1efa0", func := "spence/spencelaw01.NumsBack", spec := "numsBack", apart := false, narrowed := true }
def NumsBackUptoSaid : Prop := numsBackUptoRow.holds Try.pinned (OpenSpec.upto numsBackSpec)

/-- 'spencelaw04.EtagCompares', WHERE WHAT IT READS IS OF BULK AT MOST 1048576: true; the input reads as it did. -/
def etagComparesUptoRow : OpenClaim := { program := "ytbihggkkaoacpaa", sum := "dcc8cbce637920e523c8ac963a614183afc9a5f0c9b87003257222681ce1efa0", func := "spence/spencelaw04.EtagCompares", spec := "etagCompares", apart := false, narrowed := true }
def EtagComparesUptoSaid : Prop := etagComparesUptoRow.holds Try.pinned (OpenSpec.upto etagComparesSpec)

/-- 'spencelaw04.EtagParses', WHERE WHAT IT READS IS OF BULK AT MOST 1048576: true; the input reads as it did. -/
def etagParsesUptoRow : OpenClaim := { program := "ytbihggkkaoacpaa", sum := "dcc8cbce637920e523c8ac963a614183afc9a5f0c9b87003257222681ce1efa0", func := "spence/spencelaw04.EtagParses", spec := "etagParses", apart := false, narrowed := true }
def EtagParsesUptoSaid : Prop := etagParsesUptoRow.holds Try.pinned (OpenSpec.upto etagParsesSpec)

/-- 'spencelaw04.EtagBack', WHERE WHAT IT READS IS OF BULK AT MOST 1048576: true; the input reads as it did. -/
def etagBackUptoRow : OpenClaim := { program := "ytbihggkkaoacpaa", sum := "dcc8cbce637920e523c8ac963a614183afc9a5f0c9b87003257222681ce1efa0", func := "spence/spencelaw04.EtagBack", spec := "etagBack", apart := false, narrowed := true }
def EtagBackUptoSaid : Prop := etagBackUptoRow.holds Try.pinned (OpenSpec.upto etagBackSpec)

/-- 'spencelaw03.TextTells', WHERE WHAT IT READS IS OF BULK AT MOST 1048576: true; the input reads as it did. -/
def textTellsUptoRow : OpenClaim := { program := "ytbihggkkaoacpaa", sum := "dcc8cbce637920e523c8ac963a614183afc9a5f0c9b87003257222681ce1efa0", func := "spence/spencelaw03.TextTells", spec := "textTells", inPlace := ["internal/bytealg.IndexByteString"], apart := false, narrowed := true }
def TextTellsUptoSaid : Prop := textTellsUptoRow.holds Try.pinned (OpenSpec.upto textTellsSpec)

end Rows
end Go.Proofs.Ytbihggkkaoacpaa
