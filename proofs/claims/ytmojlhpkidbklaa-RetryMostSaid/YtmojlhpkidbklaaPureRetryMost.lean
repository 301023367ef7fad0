/- How many deeds a request may take: by the definition, and never fewer for more tries, or more slices: the plain law. -/
import Derived.Test.YtmojlhpkidbklaaRetry
import Derived.Test.YtmojlhpkidbklaaPAllx8
namespace Go.Proofs.Ytmojlhpkidbklaa.Pure
open Go.RowKit Go.Proofs.Ytmojlhpkidbklaa.PAll Go.Proofs.YtmojlhpkidbklaaW.PrintWords Go.Proofs.YtmojlhpkidbklaaW.PrintLast Go.Proofs.YtmojlhpkidbklaaW.PrintMore
def mostN (t f : Int) : Int := (t + 2) * (t + 1 + 2 + f * (t + 1) + (t + 1))
theorem cap4097 (a : Int) : 0 ≤ mn (mx a 0) 4097 ∧ mn (mx a 0) 4097 ≤ 4097 := by
  have h1 := mn_le (mx a 0) 4097
  have h2 := mx_le a 0
  omega
theorem prod_bd (t f : Int) (ht : 0 ≤ t ∧ t ≤ 8) (hf : 0 ≤ f ∧ f ≤ 4097) : 0 ≤ f * (t + 1) ∧ f * (t + 1) ≤ 4097 * 9 :=
  ⟨Int.mul_nonneg hf.1 (by omega), Int.mul_le_mul hf.2 (by omega) (by omega) (by omega)⟩
theorem most_bd (t f : Int) (ht : 0 ≤ t ∧ t ≤ 8) (hf : 0 ≤ f ∧ f ≤ 4097) : 0 ≤ mostN t f ∧ mostN t f ≤ 10 * 36893 := by
  have hp := prod_bd t f ht hf
  unfold mostN
  exact ⟨Int.mul_nonneg (by omega) (by omega), Int.mul_le_mul (by omega) (by omega) (by omega) (by omega)⟩
theorem most_eq (a b : Int) : retry_Most.f a b = some (mostN (mn (mx a 0) 8) (mn (mx b 0) 4097)) := by
  unfold retry_Most.f retry_cut.f
  simp only [Option.bind_some]
  have ht := cap8 a
  have hf := cap4097 b
  generalize mn (mx a 0) 8 = t at ht ⊢
  generalize mn (mx b 0) 4097 = f at hf ⊢
  have hp := prod_bd t f ht hf
  have hm := most_bd t f ht hf
  unfold mostN at hm ⊢
  rw [wrap_id (x := t + 2) (by omega), wrap_id (x := t + 1) (by omega), wrap_id (x := t + 1 + 2) (by omega), wrap_id (x := f * (t + 1)) (by omega), wrap_id (x := t + 1 + 2 + f * (t + 1)) (by omega), wrap_id (x := t + 1 + 2 + f * (t + 1) + (t + 1)) (by omega), wrap_id (by omega)]
theorem most_mono (t t' f f' : Int) (ht : 0 ≤ t) (htt : t ≤ t') (hf : 0 ≤ f) (hff : f ≤ f') : mostN t f ≤ mostN t' f' := by
  have h1 : f * (t + 1) ≤ f' * (t' + 1) := Int.mul_le_mul hff (by omega) (by omega) (by omega)
  have h2 : 0 ≤ f * (t + 1) := Int.mul_nonneg hf (by omega)
  unfold mostN
  exact Int.mul_le_mul (by omega) (by omega) (by omega) (by omega)
theorem RetryMost : spencelaw34_RetryMost.Pure := by
  intro a b _ _
  unfold spencelaw34_RetryMost.f
  simp only [awake34, most_eq, Option.bind_some, if_true]
  have ht := cap8 a
  have hf := cap4097 b
  generalize mn (mx a 0) 8 = t at ht ⊢
  generalize mn (mx b 0) 4097 = f at hf ⊢
  have hp := prod_bd t f ht hf
  have hm := most_bd t f ht hf
  have e : wrap64 ((t + 2) * (wrap64 ((wrap64 ((wrap64 (t + 1 + 2 + (wrap64 (f * (t + 1))))) + t)) + 1))) = mostN t f := by
    unfold mostN at hm ⊢
    have e2 : t + 1 + 2 + f * (t + 1) + t + 1 = t + 1 + 2 + f * (t + 1) + (t + 1) := by omega
    rw [wrap_id (x := f * (t + 1)) (by omega), wrap_id (x := t + 1 + 2 + f * (t + 1)) (by omega), wrap_id (x := t + 1 + 2 + f * (t + 1) + t) (by omega), wrap_id (x := t + 1 + 2 + f * (t + 1) + t + 1) (by omega), e2, wrap_id (by omega)]
  have c1 := cap8 (t + 1)
  have m1 := mn_le (mx (t + 1) 0) 8
  have m2 := mx_le (t + 1) 0
  have m3 := mn_le (mx f 0) 4097
  have m4 := mx_le f 0
  have m5 := mn_le (mx t 0) 8
  have m6 := mx_le t 0
  have m7 := mn_le (mx (f + 1) 0) 4097
  have m8 := mx_le (f + 1) 0
  rw [e, if_pos rfl, if_pos (most_mono t _ f _ ht.1 (by omega) hf.1 (by omega)), decide_eq_true (most_mono t _ f _ ht.1 (by omega) hf.1 (by omega))]
end Go.Proofs.Ytmojlhpkidbklaa.Pure
