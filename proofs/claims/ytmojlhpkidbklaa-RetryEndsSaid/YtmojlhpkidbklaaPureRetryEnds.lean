/- Behind as many tries as there may be none is let, till one is fine; behind as many restarts none: the plain law. -/
import Derived.Test.YtmojlhpkidbklaaRetry
import Derived.Test.YtmojlhpkidbklaaPAllx6
namespace Go.Proofs.Ytmojlhpkidbklaa.Pure
open Go.RowKit Go.Proofs.Ytmojlhpkidbklaa.PAll Go.Proofs.YtmojlhpkidbklaaW.PrintWords Go.Proofs.YtmojlhpkidbklaaW.PrintLast Go.Proofs.YtmojlhpkidbklaaW.PrintMore
theorem restarts_loop (n : Int) (hn : 0 ≤ n ∧ n ≤ 8) (d : Nat) : ∀ (i x : Int), 0 ≤ i → n + 1 - i = d →
    Ev (fun k => spencelaw34_RetryEnds.l1 k n false (decide (0 < n)) i n (n + 1 - i) x) true := by
  induction d with
  | zero =>
    intro i x h0 hd
    refine Ev.pos (fun k => ?_)
    have hz : n + 1 - i = 0 := by omega
    simp only [spencelaw34_RetryEnds.l1, restart_eq n (n + 1 - i) x (by omega), Option.bind_some]
    rw [if_neg (by omega), if_neg (by decide), if_pos (by simp), hz]; rfl
  | succ d ih =>
    intro i x h0 hd
    refine Ev.step (fun k => ?_) (ih (i + 1) n (by omega) (by omega))
    simp only [spencelaw34_RetryEnds.l1, restart_eq n (n + 1 - i) x (by omega), Option.bind_some]
    have e : n + 1 - i - 1 = n + 1 - (i + 1) := by omega
    rw [if_pos (by omega), if_neg (by omega : ¬ n + 1 - i ≤ 0)]
    dsimp only
    rw [if_pos rfl, if_pos rfl, wrap_id (by omega), e]
theorem tries_loop (n : Int) (hn : 0 ≤ n ∧ n ≤ 8) (d : Nat) : ∀ (i : Int), 0 ≤ i → n - i = d →
    Ev (fun k => spencelaw34_RetryEnds.l0 k n i n (n + 1) (n - i)) true := by
  induction d with
  | zero =>
    intro i h0 hd
    have hz : n - i = 0 := by omega
    have hl := restarts_loop n hn (n + 1).toNat 0 0 (by omega) (by omega)
    rw [hz]
    have e0 : n + 1 - 0 = n + 1 := by omega
    rw [e0] at hl
    refine Ev.step (fun k => ?_) hl
    simp only [spencelaw34_RetryEnds.l0, again_eq n (n + 1) 0 (by omega), again_eq n (n + 1) n (by omega), retry_Fine.f, Option.bind_some]
    rw [if_neg (by omega)]; rfl
  | succ d ih =>
    intro i h0 hd
    refine Ev.step (fun k => ?_) (ih (i + 1) (by omega) (by omega))
    simp only [spencelaw34_RetryEnds.l0, again_eq n (n + 1) (n - i) (by omega), Option.bind_some]
    have e : n - i - 1 = n - (i + 1) := by omega
    rw [if_pos (by omega), if_pos (decide_eq_true (by omega)), if_neg (by omega), wrap_id (by omega), e]
theorem RetryEnds : spencelaw34_RetryEnds.Pure := by
  intro a _
  have hc := cap8 a
  refine Ev.rounds (g := fun k => spencelaw34_RetryEnds.f k a) ?_
  unfold spencelaw34_RetryEnds.f
  simp only [awake34, new_eq, Option.bind_some, if_true]
  have := tries_loop (mn (mx a 0) 8) hc (mn (mx a 0) 8).toNat 0 (by omega) (by omega)
  rw [Int.sub_zero] at this
  exact this
end Go.Proofs.Ytmojlhpkidbklaa.Pure
