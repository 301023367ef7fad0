/- The reference's test of a Content-Range. -/
import Derived.Test.YtahoibanpplhbaaCrange
import Derived.Test.YtahoibanpplhbaaPAllx9
namespace Go.Proofs.Ytahoibanpplhbaa.Pure
open Go.RowKit Go.Proofs.Ytahoibanpplhbaa.Xw Go.Proofs.Ytahoibanpplhbaa.PAll Go.Proofs.YtahoibanpplhbaaW.PrintWords Go.Proofs.YtahoibanpplhbaaW.PrintLast Go.Proofs.YtahoibanpplhbaaW.PrintMore
theorem ref_right_c (p q : Int) : spenceref04_Right.f p q = some (rightS p q) := by
  unfold spenceref04_Right.f rightS
  by_cases h1 : p ≥ 0
  · rw [if_pos h1]
    by_cases h2 : q > p
    · rw [if_pos h2]; have : 0 ≤ p := h1
      have h3 : p < q := h2
      simp [h3, this]
    · rw [if_neg h2]; have h3 : ¬ p < q := h2
      simp [h3]
  · rw [if_neg h1]; have : ¬ 0 ≤ p := h1
    simp [this]
theorem ref_right_content (kn : Bool) (f t tot : Int) : Ev (fun k => spenceref04_RightContent.f k kn f t tot) (rightC kn f t tot) := by
  have key : ∀ b : Bool, b = !decide (tot = -1 ∨ (0 ≤ tot ∧ tot ≤ 4611686018427387903)) → Ev (fun k => spenceref04_RightContent.j0 k b kn f t tot) (rightC kn f t tot) := by
    intro b hb
    refine Ev.pos (fun k => ?_)
    simp only [spenceref04_RightContent.j0, ref_right_c, Option.bind_some]
    unfold rightC
    by_cases hd : (tot = -1 ∨ (0 ≤ tot ∧ tot ≤ 4611686018427387903))
    · rw [hb, decide_eq_true hd, if_neg (by decide)]
      cases kn
      · rw [if_neg (by decide)]
        have e : decide (tot ≥ 0) = decide (tot ≠ -1) := by rw [decide_eq_decide]; omega
        rw [e]
        by_cases h1 : f = 0 <;> by_cases h2 : t = 0 <;> simp [h1, h2]
      · rw [if_pos rfl]
        by_cases h1 : rightS f t = true
        · rw [if_pos h1]
          by_cases h3 : tot = -1 <;> simp [h1, h3]
        · rw [if_neg h1]; simp [h1]
    · rw [hb, decide_eq_false hd, if_pos (by decide)]; rfl
  unfold spenceref04_RightContent.f
  by_cases h : tot < -1
  · simp only [h, if_true]; exact key true (by rw [decide_eq_false (by omega)]; rfl)
  · simp only [h, if_false]
    refine key _ ?_
    rw [Bool.eq_iff_iff]; simp; omega
end Go.Proofs.Ytahoibanpplhbaa.Pure
