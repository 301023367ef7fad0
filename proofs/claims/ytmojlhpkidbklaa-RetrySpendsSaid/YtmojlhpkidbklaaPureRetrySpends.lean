/- Whatever is tried again, is fine, and restarts: what is left: the plain law. -/
import Derived.Test.YtmojlhpkidbklaaRetry
import Derived.Test.YtmojlhpkidbklaaPAllx5
namespace Go.Proofs.Ytmojlhpkidbklaa.Pure
open Go.RowKit Go.Proofs.Ytmojlhpkidbklaa.PAll Go.Proofs.YtmojlhpkidbklaaW.PrintWords Go.Proofs.YtmojlhpkidbklaaW.PrintLast Go.Proofs.YtmojlhpkidbklaaW.PrintMore
theorem spends_loop (n : Int) (hn : 0 ≤ n ∧ n ≤ 8) (l : List Int) (hl : l.length ≤ 60) (b0 b1 b2 : Int) (hb : -9223372036854775808 ≤ b2 ∧ b2 ≤ 9223372036854775807) (d : Nat) : ∀ (i x r : Int), 0 ≤ i → (l.length : Int) - i = d → i ≤ l.length → 0 ≤ x → x ≤ n → 0 ≤ r → r ≤ 9 →
    Ev (fun k => spencelaw34_RetrySpends.l0 k n x r l l.length i b0 b1 b2 n r x) true := by
  induction d with
  | zero =>
    intro i x r h0 hd hi hx hx2 hr hr2
    refine Ev.pos (fun k => ?_)
    simp only [spencelaw34_RetrySpends.l0, again_eq b0 b1 b2 hb, Option.bind_some]
    rw [if_neg (by omega)]
    by_cases h : b2 ≤ 0
    · rw [if_pos h, if_neg (by rw [decide_eq_false (by omega)]; decide), if_pos h]; simp
    · rw [if_neg h, if_pos (decide_eq_true (by omega)), if_neg h, wrap_id (by omega)]; simp
  | succ d ih =>
    intro i x r h0 hd hi hx hx2 hr hr2
    have hw : wrap64 (i + 1) = i + 1 := wrap_id (by omega)
    refine Ev.succ ?_
    simp only [spencelaw34_RetrySpends.l0, again_eq n r x (by omega), restart_eq n r x (by omega), retry_Fine.f, Option.bind_some, hw]
    simp only [show i < (l.length : Int) by omega, h0, if_true]
    by_cases c1 : rd l i = 1
    · simp only [c1, if_true, beq_self_eq_true, Bool.not_true, Bool.or_self, Bool.false_eq_true, if_false]
      exact ih (i + 1) n r (by omega) (by omega) (by omega) (by omega) (by omega) hr hr2
    · simp only [c1, if_false]
      by_cases c2 : rd l i = 2
      · simp only [c2, if_true]
        by_cases hr0 : r ≤ 0
        · have e : decide (r > 0) = false := decide_eq_false (by omega)
          simp only [hr0, if_true, e, bne_self_eq_false, beq_self_eq_true, Bool.not_true, Bool.or_self, Bool.false_eq_true, if_false]
          exact ih (i + 1) x r (by omega) (by omega) (by omega) hx hx2 hr hr2
        · have e : decide (r > 0) = true := decide_eq_true (by omega)
          have ew : wrap64 (r - 1) = r - 1 := wrap_id (by omega)
          simp only [hr0, if_true, e, bne_self_eq_false, beq_self_eq_true, Bool.not_true, Bool.or_self, Bool.false_eq_true, if_false, ew]
          exact ih (i + 1) n (r - 1) (by omega) (by omega) (by omega) (by omega) (by omega) (by omega) (by omega)
      · simp only [c2, if_false]
        by_cases hx0 : x ≤ 0
        · have e : decide (x > 0) = false := decide_eq_false (by omega)
          simp only [hx0, if_true, e, bne_self_eq_false, beq_self_eq_true, Bool.not_true, Bool.or_self, Bool.false_eq_true, if_false]
          exact ih (i + 1) x r (by omega) (by omega) (by omega) hx hx2 hr hr2
        · have e : decide (x > 0) = true := decide_eq_true (by omega)
          have ew : wrap64 (x - 1) = x - 1 := wrap_id (by omega)
          simp only [hx0, if_true, e, bne_self_eq_false, beq_self_eq_true, Bool.not_true, Bool.or_self, Bool.false_eq_true, if_false, ew]
          exact ih (i + 1) (x - 1) r (by omega) (by omega) (by omega) (by omega) (by omega) hr hr2
theorem RetrySpends : spencelaw34_RetrySpends.Pure := by
  intro a l b0 b1 b2 _ _ _ _ _ hb
  have hb := wf_bd hb
  have hc := cap8 a
  refine Ev.rounds (g := fun k => spencelaw34_RetrySpends.f k a l b0 b1 b2) ?_
  unfold spencelaw34_RetrySpends.f
  simp only [awake34, new_eq, Option.bind_some, if_true]
  by_cases c1 : (l.length : Int) > 60
  · simp only [c1, if_true]; exact Ev.now _
  simp only [c1, if_false]
  exact spends_loop (mn (mx a 0) 8) hc l (by omega) b0 b1 b2 hb l.length 0 (mn (mx a 0) 8) (mn (mx a 0) 8 + 1) (by omega) (by omega) (by omega) (by omega) (by omega) (by omega) (by omega)
end Go.Proofs.Ytmojlhpkidbklaa.Pure
