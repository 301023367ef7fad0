/- Small laws that the walks of this seat's printed functions lack. -/
import Derived.WalkKit
import Derived.Test.YtmojlhpkidbklaaWWords
namespace Go.Proofs.Ytmojlhpkidbklaa.Xw
/-- A cell that was just written, written once more. -/
@[go_sem] theorem cell_set_twice (w : World) (a : Addr) (u v : Value) : ((w.setCell a u).setCell a v).cell? a = ((w.setCell a u).cell? a).map (fun _ => v) := by
  obtain ⟨b, o, s⟩ := a
  unfold World.cell? World.setCell
  simp only [Array.getElem?_modify]
  split <;> rename_i h <;> revert h
  all_goals (cases hb : w.heap[b]? with
    | none => simp
    | some x => cases x <;> simp <;> (try (cases s <;> simp [Array.getElem?_setIfInBounds] <;> (try (intros; subst_vars; split <;> simp_all)))))
end Go.Proofs.Ytmojlhpkidbklaa.Xw
