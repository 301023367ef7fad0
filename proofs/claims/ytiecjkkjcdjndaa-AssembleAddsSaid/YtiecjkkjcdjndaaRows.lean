/-
  No cell of these rows narrows 'for every input' (looked for: loops, veiled, ifaces, maps, wideKeys, modest, calm, conditions, laid).
  DERIVED. THE GIVEN ROWS OF THIS SEAT. 3 by the template 'for every input the law returns true; each argument reads behind the call as it read before'; 0 by the template 'total and deterministic' (their statements: YtiecjkkjcdjndaaTotals.lean).
  GIVEN WITH THE SEED: the statements are not yours to turn. If you find one false, say at which input.
  Laid BY PROGRAM, IN A SANDBOX (cutbox-rows.mjs): the forced cells as the released guide's own fill.sh prints them over the translation fdfcc2d41abcd912… (all of the seat's roots in one cut). By AI agents, Wed Nov 11 2026. No macro, syntax, notation, axiom, sorry.
-/
import Derived.Test.YtiecjkkjcdjndaaChecked
import GoSem.Claim
import GoSem.ClaimJoined
import GoSem.ClaimMapViews
import Derived.JoinedTies
import Derived.KernelRfl
namespace Go.Proofs.Ytiecjkkjcdjndaa
/- THE CELL 'sum', in the pinned program and in every row, IS THE sha256 OF THE DUMP (.gsa) THAT YtiecjkkjcdjndaaProg.lean LOADS. Nothing in Lean hashes anything: it is a label: what it is worth is what the hold of that sum in a sandbox is worth. -/
noncomputable def Try.pinned : Pinned := { name := "ytiecjkkjcdjndaa", sum := "fdfcc2d41abcd912d1f18f92c76157533ad646403ab8c92f50d2ac7b52581c17", checked := Try.checked }
namespace Rows
def none {H : Type} : Left H := { results := [], args := [] }

/-- 'spencelaw37.AssembleWhole': WHATEVER THE INPUT: true; the input reads as it did. -/
def assembleWholeSpec : ChangeSpec := { name := "assembleWhole", fn := fun _ => fun
  | [d1, d2, d3] => { results := [.lit (.bool true)], args := [d1, d2, d3] }
  | _ => none }
def assembleWholeRow : OpenClaim := { program := "ytiecjkkjcdjndaa", sum := "fdfcc2d41abcd912d1f18f92c76157533ad646403ab8c92f50d2ac7b52581c17", func := "spence/spencelaw37.AssembleWhole", spec := "assembleWhole", unfollowed := true, recurses := true, apart := false }
def AssembleWholeSaid : Prop := assembleWholeRow.holds Try.pinned (OpenSpec.ofChange assembleWholeSpec)

/-- ITS FALSE NEIGHBOUR: 'it returns false'. Refute it at one input. -/
def assembleWholeWrong : ChangeSpec := { name := "assembleWhole", fn := fun _ => fun
  | [d1, d2, d3] => { results := [.lit (.bool false)], args := [d1, d2, d3] }
  | _ => none }
def AssembleWholeWrongFalsely : Prop := assembleWholeRow.holds Try.pinned (OpenSpec.ofChange assembleWholeWrong)

/-- 'spencelaw37.AssembleBodies': WHATEVER THE INPUT: true; the input reads as it did. -/
def assembleBodiesSpec : ChangeSpec := { name := "assembleBodies", fn := fun _ => fun
  | [d1, d2, d3, d4, d5] => { results := [.lit (.bool true)], args := [d1, d2, d3, d4, d5] }
  | _ => none }
def assembleBodiesRow : OpenClaim := { program := "ytiecjkkjcdjndaa", sum := "fdfcc2d41abcd912d1f18f92c76157533ad646403ab8c92f50d2ac7b52581c17", func := "spence/spencelaw37.AssembleBodies", spec := "assembleBodies", unfollowed := true, recurses := true, apart := false }
def AssembleBodiesSaid : Prop := assembleBodiesRow.holds Try.pinned (OpenSpec.ofChange assembleBodiesSpec)

/-- ITS FALSE NEIGHBOUR: 'it returns false'. Refute it at one input. -/
def assembleBodiesWrong : ChangeSpec := { name := "assembleBodies", fn := fun _ => fun
  | [d1, d2, d3, d4, d5] => { results := [.lit (.bool false)], args := [d1, d2, d3, d4, d5] }
  | _ => none }
def AssembleBodiesWrongFalsely : Prop := assembleBodiesRow.holds Try.pinned (OpenSpec.ofChange assembleBodiesWrong)

/-- 'spencelaw37.AssembleAdds': WHATEVER THE INPUT: true; the input reads as it did. -/
def assembleAddsSpec : ChangeSpec := { name := "assembleAdds", fn := fun _ => fun
  | [d1, d2, d3, d4, d5] => { results := [.lit (.bool true)], args := [d1, d2, d3, d4, d5] }
  | _ => none }
def assembleAddsRow : OpenClaim := { program := "ytiecjkkjcdjndaa", sum := "fdfcc2d41abcd912d1f18f92c76157533ad646403ab8c92f50d2ac7b52581c17", func := "spence/spencelaw37.AssembleAdds", spec := "assembleAdds", unfollowed := true, recurses := true, apart := false }
def AssembleAddsSaid : Prop := assembleAddsRow.holds Try.pinned (OpenSpec.ofChange assembleAddsSpec)

/-- ITS FALSE NEIGHBOUR: 'it returns false'. Refute it at one input. -/
def assembleAddsWrong : ChangeSpec := { name := "assembleAdds", fn := fun _ => fun
  | [d1, d2, d3, d4, d5] => { results := [.lit (.bool false)], args := [d1, d2, d3, d4, d5] }
  | _ => none }
def AssembleAddsWrongFalsely : Prop := assembleAddsRow.holds Try.pinned (OpenSpec.ofChange assembleAddsWrong)

/- THE SECOND FORM. 'bulk': how many values and letters a reading holds, each counted each time it is reached (what is shared counts as often as it is met; a slice's spare places count too). A statement '..UptoSaid' is the law's where the arguments, and the package variables that the reading takes, are together of bulk at most 1048576: NARROWER than '..Said'. Prove '..Said' where nothing that the law and all that it calls make is longer than what came in: it says more and counts as full. Else prove '..UptoSaid'. A law counts once. -/
mutual
def uptoBulk {H : Type} : DataW H → Nat
  | .lit (.string bytes) => bytes.length + 1
  | .lit _ => 1
  | .nil => 1
  | .ptr d => uptoBulk d + 1
  | .slice elems spare => uptoBulkAll elems + uptoBulkAll spare + 1
  | .agg parts => uptoBulkAll parts + 1
  | .iface _ d => uptoBulk d + 1
  | .map entries => uptoBulkEntries entries + 1
  | .held _ => 1
def uptoBulkAll {H : Type} : List (DataW H) → Nat
  | [] => 0
  | d :: r => uptoBulk d + uptoBulkAll r
def uptoBulkEntries {H : Type} : List (Lit × DataW H) → Nat
  | [] => 0
  | x :: r => uptoBulkEntry x + uptoBulkEntries r
def uptoBulkEntry {H : Type} : Lit × DataW H → Nat
  | (.string bytes, d) => bytes.length + uptoBulk d + 1
  | (_, d) => uptoBulk d + 1
 end
def uptoSmall : (H : Type) → List (DataW H) → Bool := fun _ ds => decide (uptoBulkAll ds ≤ 1048576)
def OpenSpec.upto (s : _root_.Go.ChangeSpec) : _root_.Go.OpenSpec := { _root_.Go.OpenSpec.ofChange s with cond := some uptoSmall }

/-- 'spencelaw37.AssembleWhole', WHERE WHAT IT READS IS OF BULK AT MOST 1048576: true; the input reads as it did. -/
def assembleWholeUptoRow : OpenClaim := { program := "ytiecjkkjcdjndaa", sum := "fdfcc2d41abcd912d1f18f92c76157533ad646403ab8c92f50d2ac7b52581c17", func := "spence/spencelaw37.AssembleWhole", spec := "assembleWhole", unfollowed := true, recurses := true, apart := false, narrowed := true }
def AssembleWholeUptoSaid : Prop := assembleWholeUptoRow.holds Try.pinned (OpenSpec.upto assembleWholeSpec)

/-- 'spencelaw37.AssembleBodies', WHERE WHAT IT READS IS OF BULK AT MOST 1048576: true; the input reads as it did. -/
def assembleBodiesUptoRow : OpenClaim := { program := "ytiecjkkjcdjndaa", sum := "fdfcc2d41abcd912d1f18f92c76157533ad646403ab8c92f50d2ac7b52581c17", func := "spence/spencelaw37.AssembleBodies", spec := "assembleBodies", unfollowed := true, recurses := true, apart := false, narrowed := true }
def AssembleBodiesUptoSaid : Prop := assembleBodiesUptoRow.holds Try.pinned (OpenSpec.upto assembleBodiesSpec)

/-- 'spencelaw37.AssembleAdds', WHERE WHAT IT READS IS OF BULK AT MOST 1048576: true; the input reads as it did. -/
def assembleAddsUptoRow : OpenClaim := { program := "ytiecjkkjcdjndaa", sum := "fdfcc2d41abcd912d1f18f92c76157533ad646403ab8c92f50d2ac7b52581c17", func := "spence/spencelaw37.AssembleAdds", spec := "assembleAdds", unfollowed := true, recurses := true, apart := false, narrowed := true }
def AssembleAddsUptoSaid : Prop := assembleAddsUptoRow.holds Try.pinned (OpenSpec.upto assembleAddsSpec)

end Rows
end Go.Proofs.Ytiecjkkjcdjndaa
