/-
  No cell of these rows narrows 'for every input' (looked for: loops, veiled, ifaces, maps, wideKeys, modest, calm, conditions, laid).
  DERIVED. THE GIVEN ROWS OF THIS SEAT. 10 by the template 'for every input the law returns true; each argument reads behind the call as it read before'; 0 by the template 'total and deterministic' (their statements: YtmojlhpkidbklaaTotals.lean).
  GIVEN WITH THE SEED: the statements are not yours to turn. If you find one false, say at which input.
  Laid BY PROGRAM, IN A SANDBOX (cutbox-rows.mjs): the forced cells as the released guide's own fill.sh prints them over the translation e848ca9556c5ee52… (all of the seat's roots in one cut). By AI agents, Wed Nov 11 2026. No macro, syntax, notation, axiom, sorry.
-/
import Derived.Test.YtmojlhpkidbklaaChecked
import GoSem.Claim
import GoSem.ClaimJoined
import GoSem.ClaimMapViews
import Derived.JoinedTies
import Derived.KernelRfl
namespace Go.Proofs.Ytmojlhpkidbklaa
/- THE CELL 'sum', in the pinned program and in every row, IS THE sha256 OF THE DUMP (.gsa) THAT YtmojlhpkidbklaaProg.lean LOADS. Nothing in Lean hashes anything: it is a label: what it is worth is what the hold of that sum in a sandbox is worth. -/
noncomputable def Try.pinned : Pinned := { name := "ytmojlhpkidbklaa", sum := "e848ca9556c5ee527ab1ad55c52aeba8bc85d9e0113c695bdb08f52d48c57ed3", checked := Try.checked }
namespace Rows
def none {H : Type} : Left H := { results := [], args := [] }

/-- 'spencelaw34.RetrySpends': WHATEVER THE INPUT: true; the input reads as it did. -/
def retrySpendsSpec : ChangeSpec := { name := "retrySpends", fn := fun _ => fun
  | [d1, d2, d3] => { results := [.lit (.bool true)], args := [d1, d2, d3] }
  | _ => none }
def retrySpendsRow : OpenClaim := { program := "ytmojlhpkidbklaa", sum := "e848ca9556c5ee527ab1ad55c52aeba8bc85d9e0113c695bdb08f52d48c57ed3", func := "spence/spencelaw34.RetrySpends", spec := "retrySpends", unfollowed := true, recurses := true, apart := false }
def RetrySpendsSaid : Prop := retrySpendsRow.holds Try.pinned (OpenSpec.ofChange retrySpendsSpec)

/-- ITS FALSE NEIGHBOUR: 'it returns false'. Refute it at one input. -/
def retrySpendsWrong : ChangeSpec := { name := "retrySpends", fn := fun _ => fun
  | [d1, d2, d3] => { results := [.lit (.bool false)], args := [d1, d2, d3] }
  | _ => none }
def RetrySpendsWrongFalsely : Prop := retrySpendsRow.holds Try.pinned (OpenSpec.ofChange retrySpendsWrong)

/-- 'spencelaw34.RetryEnds': WHATEVER THE INPUT: true; the input reads as it did. -/
def retryEndsSpec : ChangeSpec := { name := "retryEnds", fn := fun _ => fun
  | [d] => { results := [.lit (.bool true)], args := [d] }
  | _ => none }
def retryEndsRow : OpenClaim := { program := "ytmojlhpkidbklaa", sum := "e848ca9556c5ee527ab1ad55c52aeba8bc85d9e0113c695bdb08f52d48c57ed3", func := "spence/spencelaw34.RetryEnds", spec := "retryEnds", unfollowed := true, recurses := true, apart := false }
def RetryEndsSaid : Prop := retryEndsRow.holds Try.pinned (OpenSpec.ofChange retryEndsSpec)

/-- ITS FALSE NEIGHBOUR: 'it returns false'. Refute it at one input. -/
def retryEndsWrong : ChangeSpec := { name := "retryEnds", fn := fun _ => fun
  | [d] => { results := [.lit (.bool false)], args := [d] }
  | _ => none }
def RetryEndsWrongFalsely : Prop := retryEndsRow.holds Try.pinned (OpenSpec.ofChange retryEndsWrong)

/-- 'spencelaw10.CutsWhole': WHATEVER THE INPUT: true; the input reads as it did. -/
def cutsWholeSpec : ChangeSpec := { name := "cutsWhole", fn := fun _ => fun
  | [d1, d2, d3] => { results := [.lit (.bool true)], args := [d1, d2, d3] }
  | _ => none }
def cutsWholeRow : OpenClaim := { program := "ytmojlhpkidbklaa", sum := "e848ca9556c5ee527ab1ad55c52aeba8bc85d9e0113c695bdb08f52d48c57ed3", func := "spence/spencelaw10.CutsWhole", spec := "cutsWhole", apart := false }
def CutsWholeSaid : Prop := cutsWholeRow.holds Try.pinned (OpenSpec.ofChange cutsWholeSpec)

/-- ITS FALSE NEIGHBOUR: 'it returns false'. Refute it at one input. -/
def cutsWholeWrong : ChangeSpec := { name := "cutsWhole", fn := fun _ => fun
  | [d1, d2, d3] => { results := [.lit (.bool false)], args := [d1, d2, d3] }
  | _ => none }
def CutsWholeWrongFalsely : Prop := cutsWholeRow.holds Try.pinned (OpenSpec.ofChange cutsWholeWrong)

/-- 'spencelaw34.RetryMost': WHATEVER THE INPUT: true; the input reads as it did. -/
def retryMostSpec : ChangeSpec := { name := "retryMost", fn := fun _ => fun
  | [d1, d2] => { results := [.lit (.bool true)], args := [d1, d2] }
  | _ => none }
def retryMostRow : OpenClaim := { program := "ytmojlhpkidbklaa", sum := "e848ca9556c5ee527ab1ad55c52aeba8bc85d9e0113c695bdb08f52d48c57ed3", func := "spence/spencelaw34.RetryMost", spec := "retryMost", unfollowed := true, recurses := true, apart := false }
def RetryMostSaid : Prop := retryMostRow.holds Try.pinned (OpenSpec.ofChange retryMostSpec)

/-- ITS FALSE NEIGHBOUR: 'it returns false'. Refute it at one input. -/
def retryMostWrong : ChangeSpec := { name := "retryMost", fn := fun _ => fun
  | [d1, d2] => { results := [.lit (.bool false)], args := [d1, d2] }
  | _ => none }
def RetryMostWrongFalsely : Prop := retryMostRow.holds Try.pinned (OpenSpec.ofChange retryMostWrong)

/-- 'spencelaw18.BitmapRuns': WHATEVER THE INPUT: true; the input reads as it did. -/
def bitmapRunsSpec : ChangeSpec := { name := "bitmapRuns", fn := fun _ => fun
  | [d1, d2, d3] => { results := [.lit (.bool true)], args := [d1, d2, d3] }
  | _ => none }
def bitmapRunsRow : OpenClaim := { program := "ytmojlhpkidbklaa", sum := "e848ca9556c5ee527ab1ad55c52aeba8bc85d9e0113c695bdb08f52d48c57ed3", func := "spence/spencelaw18.BitmapRuns", spec := "bitmapRuns", apart := false }
def BitmapRunsSaid : Prop := bitmapRunsRow.holds Try.pinned (OpenSpec.ofChange bitmapRunsSpec)

/-- ITS FALSE NEIGHBOUR: 'it returns false'. Refute it at one input. -/
def bitmapRunsWrong : ChangeSpec := { name := "bitmapRuns", fn := fun _ => fun
  | [d1, d2, d3] => { results := [.lit (.bool false)], args := [d1, d2, d3] }
  | _ => none }
def BitmapRunsWrongFalsely : Prop := bitmapRunsRow.holds Try.pinned (OpenSpec.ofChange bitmapRunsWrong)

/-- 'spencelaw18.BitmapTwo': WHATEVER THE INPUT: true; the input reads as it did. -/
def bitmapTwoSpec : ChangeSpec := { name := "bitmapTwo", fn := fun _ => fun
  | [d1, d2, d3] => { results := [.lit (.bool true)], args := [d1, d2, d3] }
  | _ => none }
def bitmapTwoRow : OpenClaim := { program := "ytmojlhpkidbklaa", sum := "e848ca9556c5ee527ab1ad55c52aeba8bc85d9e0113c695bdb08f52d48c57ed3", func := "spence/spencelaw18.BitmapTwo", spec := "bitmapTwo", unfollowed := true, recurses := true, apart := false }
def BitmapTwoSaid : Prop := bitmapTwoRow.holds Try.pinned (OpenSpec.ofChange bitmapTwoSpec)

/-- ITS FALSE NEIGHBOUR: 'it returns false'. Refute it at one input. -/
def bitmapTwoWrong : ChangeSpec := { name := "bitmapTwo", fn := fun _ => fun
  | [d1, d2, d3] => { results := [.lit (.bool false)], args := [d1, d2, d3] }
  | _ => none }
def BitmapTwoWrongFalsely : Prop := bitmapTwoRow.holds Try.pinned (OpenSpec.ofChange bitmapTwoWrong)

/-- 'spencelaw10.CutsCovers': WHATEVER THE INPUT: true; the input reads as it did. -/
def cutsCoversSpec : ChangeSpec := { name := "cutsCovers", fn := fun _ => fun
  | [d1, d2, d3] => { results := [.lit (.bool true)], args := [d1, d2, d3] }
  | _ => none }
def cutsCoversRow : OpenClaim := { program := "ytmojlhpkidbklaa", sum := "e848ca9556c5ee527ab1ad55c52aeba8bc85d9e0113c695bdb08f52d48c57ed3", func := "spence/spencelaw10.CutsCovers", spec := "cutsCovers", apart := false }
def CutsCoversSaid : Prop := cutsCoversRow.holds Try.pinned (OpenSpec.ofChange cutsCoversSpec)

/-- ITS FALSE NEIGHBOUR: 'it returns false'. Refute it at one input. -/
def cutsCoversWrong : ChangeSpec := { name := "cutsCovers", fn := fun _ => fun
  | [d1, d2, d3] => { results := [.lit (.bool false)], args := [d1, d2, d3] }
  | _ => none }
def CutsCoversWrongFalsely : Prop := cutsCoversRow.holds Try.pinned (OpenSpec.ofChange cutsCoversWrong)

/-- 'spencelaw10.CutsTells': WHATEVER THE INPUT: true; the input reads as it did. -/
def cutsTellsSpec : ChangeSpec := { name := "cutsTells", fn := fun _ => fun
  | [d1, d2, d3, d4] => { results := [.lit (.bool true)], args := [d1, d2, d3, d4] }
  | _ => none }
def cutsTellsRow : OpenClaim := { program := "ytmojlhpkidbklaa", sum := "e848ca9556c5ee527ab1ad55c52aeba8bc85d9e0113c695bdb08f52d48c57ed3", func := "spence/spencelaw10.CutsTells", spec := "cutsTells", apart := false }
def CutsTellsSaid : Prop := cutsTellsRow.holds Try.pinned (OpenSpec.ofChange cutsTellsSpec)

/-- ITS FALSE NEIGHBOUR: 'it returns false'. Refute it at one input. -/
def cutsTellsWrong : ChangeSpec := { name := "cutsTells", fn := fun _ => fun
  | [d1, d2, d3, d4] => { results := [.lit (.bool false)], args := [d1, d2, d3, d4] }
  | _ => none }
def CutsTellsWrongFalsely : Prop := cutsTellsRow.holds Try.pinned (OpenSpec.ofChange cutsTellsWrong)

/-- 'spencelaw29.PrefetchWindows': WHATEVER THE INPUT: true; the input reads as it did. -/
def prefetchWindowsSpec : ChangeSpec := { name := "prefetchWindows", fn := fun _ => fun
  | [d1, d2, d3, d4, d5, d6, d7] => { results := [.lit (.bool true)], args := [d1, d2, d3, d4, d5, d6, d7] }
  | _ => none }
def prefetchWindowsRow : OpenClaim := { program := "ytmojlhpkidbklaa", sum := "e848ca9556c5ee527ab1ad55c52aeba8bc85d9e0113c695bdb08f52d48c57ed3", func := "spence/spencelaw29.PrefetchWindows", spec := "prefetchWindows", apart := false }
def PrefetchWindowsSaid : Prop := prefetchWindowsRow.holds Try.pinned (OpenSpec.ofChange prefetchWindowsSpec)

/-- ITS FALSE NEIGHBOUR: 'it returns false'. Refute it at one input. -/
def prefetchWindowsWrong : ChangeSpec := { name := "prefetchWindows", fn := fun _ => fun
  | [d1, d2, d3, d4, d5, d6, d7] => { results := [.lit (.bool false)], args := [d1, d2, d3, d4, d5, d6, d7] }
  | _ => none }
def PrefetchWindowsWrongFalsely : Prop := prefetchWindowsRow.holds Try.pinned (OpenSpec.ofChange prefetchWindowsWrong)

/-- 'spencelaw29.PrefetchNotes': WHATEVER THE INPUT: true; the input reads as it did. -/
def prefetchNotesSpec : ChangeSpec := { name := "prefetchNotes", fn := fun _ => fun
  | [d1, d2] => { results := [.lit (.bool true)], args := [d1, d2] }
  | _ => none }
def prefetchNotesRow : OpenClaim := { program := "ytmojlhpkidbklaa", sum := "e848ca9556c5ee527ab1ad55c52aeba8bc85d9e0113c695bdb08f52d48c57ed3", func := "spence/spencelaw29.PrefetchNotes", spec := "prefetchNotes", apart := false }
def PrefetchNotesSaid : Prop := prefetchNotesRow.holds Try.pinned (OpenSpec.ofChange prefetchNotesSpec)

/-- ITS FALSE NEIGHBOUR: 'it returns false'. Refute it at one input. -/
def prefetchNotesWrong : ChangeSpec := { name := "prefetchNotes", fn := fun _ => fun
  | [d1, d2] => { results := [.lit (.bool false)], args := [d1, d2] }
  | _ => none }
def PrefetchNotesWrongFalsely : Prop := prefetchNotesRow.holds Try.pinned (OpenSpec.ofChange prefetchNotesWrong)

/- THE SECOND FORM. 'bulk': how many values and letters a reading holds, each counted each time it is reached (what is shared counts as often as it is met; a slice's spare places count too). A statement '..UptoSaid' is the law's where the arguments, and the package variables that the reading takes, are together of bulk at most 1048576: NARROWER than '..Said'. Prove '..Said' where nothing that the law and all that it calls make is longer than what came in: it says more and counts as full. Else prove '..UptoSaid'. A law counts once. -/
mutual
def uptoBulk {H : Type} : DataW H → Nat
  | .lit (.string bytes) => bytes.length + 1
  | .lit _ => 1
  | .nil => 1
  | .ptr d => uptoBulk d + 1
  | .slice elems spare => uptoBulkAll elems + uptoBulkAll spare + 1
  | .agg parts => uptoBulkAll parts + 1
  | .iface _ d => uptoBulk d + 1
  | .map entries => uptoBulkEntries entries + 1
  | .held _ => 1
def uptoBulkAll {H : Type} : List (DataW H) → Nat
  | [] => 0
  | d :: r => uptoBulk d + uptoBulkAll r
def uptoBulkEntries {H : Type} : List (Lit × DataW H) → Nat
  | [] => 0
  | x :: r => uptoBulkEntry x + uptoBulkEntries r
def uptoBulkEntry {H : Type} : Lit × DataW H → Nat
  | (.string bytes, d) => bytes.length + uptoBulk d + 1
  | (_, d) => uptoBulk d + 1
 end
def uptoSmall : (H : Type) → List (DataW H) → Bool := fun _ ds => decide (uptoBulkAll ds ≤ 1048576)
def OpenSpec.upto (s : _root_.Go.ChangeSpec) : _root_.Go.OpenSpec := { _root_.Go.OpenSpec.ofChange s with cond := some uptoSmall }

/-- 'spencelaw34.RetrySpends', WHERE WHAT IT READS IS OF BULK AT MOST 1048576: true; the input reads as it did. -/
def retrySpendsUptoRow : OpenClaim := { program := "ytmojlhpkidbklaa", sum := "e848ca9556c5ee527ab1ad55c52aeba8bc85d9e0113c695bdb08f52d48c57ed3", func := "spence/spencelaw34.RetrySpends", spec := "retrySpends", unfollowed := true, recurses := true, apart := false, narrowed := true }
def RetrySpendsUptoSaid : Prop := retrySpendsUptoRow.holds Try.pinned (OpenSpec.upto retrySpendsSpec)

/-- 'spencelaw34.RetryEnds', WHERE WHAT IT READS IS OF BULK AT MOST 1048576: true; the input reads as it did. -/
def retryEndsUptoRow : OpenClaim := { program := "ytmojlhpkidbklaa", sum := "e848ca9556c5ee527ab1ad55c52aeba8bc85d9e0113c695bdb08f52d48c57ed3", func := "spence/spencelaw34.RetryEnds", spec := "retryEnds", unfollowed := true, recurses := true, apart := false, narrowed := true }
def RetryEndsUptoSaid : Prop := retryEndsUptoRow.holds Try.pinned (OpenSpec.upto retryEndsSpec)

/-- 'spencelaw10.CutsWhole', WHERE WHAT IT READS IS OF BULK AT MOST 1048576: true; the input reads as it did. -/
def cutsWholeUptoRow : OpenClaim := { program := "ytmojlhpkidbklaa", sum := "e848ca9556c5ee527ab1ad55c52aeba8bc85d9e0113c695bdb08f52d48c57ed3", func := "spence/spencelaw10.CutsWhole", spec := "cutsWhole", apart := false, narrowed := true }
def CutsWholeUptoSaid : Prop := cutsWholeUptoRow.holds Try.pinned (OpenSpec.upto cutsWholeSpec)

/-- 'spencelaw34.RetryMost', WHERE WHAT IT READS IS OF BULK AT MOST 1048576: true; the input reads as it did. -/
def retryMostUptoRow : OpenClaim := { program := "ytmojlhpkidbklaa", sum := "e848ca9556c5ee527ab1ad55c52aeba8bc85d9e0113c695bdb08f52d48c57ed3", func := "spence/spencelaw34.RetryMost", spec := "retryMost", unfollowed := true, recurses := true, apart := false, narrowed := true }
def RetryMostUptoSaid : Prop := retryMostUptoRow.holds Try.pinned (OpenSpec.upto retryMostSpec)

/-- 'spencelaw18.BitmapRuns', WHERE WHAT IT READS IS OF BULK AT MOST 1048576: true; the input reads as it did. -/
def bitmapRunsUptoRow : OpenClaim := { program := "ytmojlhpkidbklaa", sum := "e848ca9556c5ee527ab1ad55c52aeba8bc85d9e0113c695bdb08f52d48c57ed3", func := "spence/spencelaw18.BitmapRuns", spec := "bitmapRuns", apart := false, narrowed := true }
def BitmapRunsUptoSaid : Prop := bitmapRunsUptoRow.holds Try.pinned (OpenSpec.upto bitmapRunsSpec)

/-- 'spencelaw18.BitmapTwo', WHERE WHAT IT READS IS OF BULK AT MOST 1048576: true; the input reads as it did. -/
def bitmapTwoUptoRow : OpenClaim := { program := "ytmojlhpkidbklaa", sum := "e848ca9556c5ee527ab1ad55c52aeba8bc85d9e0113c695bdb08f52d48c57ed3", func := "spence/spencelaw18.BitmapTwo", spec := "bitmapTwo", unfollowed := true, recurses := true, apart := false, narrowed := true }
def BitmapTwoUptoSaid : Prop := bitmapTwoUptoRow.holds Try.pinned (OpenSpec.upto bitmapTwoSpec)

/-- 'spencelaw10.CutsCovers', WHERE WHAT IT READS IS OF BULK AT MOST 1048576: true; the input reads as it did. -/
def cutsCoversUptoRow : OpenClaim := { program := "ytmojlhpkidbklaa", sum := "e848ca9556c5ee527ab1ad55c52aeba8bc85d9e0113c695bdb08f52d48c57ed3", func := "spence/spencelaw10.CutsCovers", spec := "cutsCovers", apart := false, narrowed := true }
def CutsCoversUptoSaid : Prop := cutsCoversUptoRow.holds Try.pinned (OpenSpec.upto cutsCoversSpec)

/-- 'spencelaw10.CutsTells', WHERE WHAT IT READS IS OF BULK AT MOST 1048576: true; the input reads as it did. -/
def cutsTellsUptoRow : OpenClaim := { program := "ytmojlhpkidbklaa", sum := "e848ca9556c5ee527ab1ad55c52aeba8bc85d9e0113c695bdb08f52d48c57ed3", func := "spence/spencelaw10.CutsTells", spec := "cutsTells", apart := false, narrowed := true }
def CutsTellsUptoSaid : Prop := cutsTellsUptoRow.holds Try.pinned (OpenSpec.upto cutsTellsSpec)

/-- 'spencelaw29.PrefetchWindows', WHERE WHAT IT READS IS OF BULK AT MOST 1048576: true; the input reads as it did. -/
def prefetchWindowsUptoRow : OpenClaim := { program := "ytmojlhpkidbklaa", sum := "e848ca9556c5ee527ab1ad55c52aeba8bc85d9e0113c695bdb08f52d48c57ed3", func := "spence/spencelaw29.PrefetchWindows", spec := "prefetchWindows", apart := false, narrowed := true }
def PrefetchWindowsUptoSaid : Prop := prefetchWindowsUptoRow.holds Try.pinned (OpenSpec.upto prefetchWindowsSpec)

/-- 'spencelaw29.PrefetchNotes', WHERE WHAT IT READS IS OF BULK AT MOST 1048576: true; the input reads as it did. -/
def prefetchNotesUptoRow : OpenClaim := { program := "ytmojlhpkidbklaa", sum := "e848ca9556c5ee527ab1ad55c52aeba8bc85d9e0113c695bdb08f52d48c57ed3", func := "spence/spencelaw29.PrefetchNotes", spec := "prefetchNotes", apart := false, narrowed := true }
def PrefetchNotesUptoSaid : Prop := prefetchNotesUptoRow.holds Try.pinned (OpenSpec.upto prefetchNotesSpec)

end Rows
end Go.Proofs.Ytmojlhpkidbklaa
