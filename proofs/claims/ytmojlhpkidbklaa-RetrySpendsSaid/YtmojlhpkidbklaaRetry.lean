/- What a request may try: plain lemmas. -/
import Derived.Test.YtmojlhpkidbklaaPb
import Derived.Test.YtmojlhpkidbklaaPAllx4
namespace Go.Proofs.Ytmojlhpkidbklaa.Pure
open Go.RowKit Go.Proofs.Ytmojlhpkidbklaa.PAll Go.Proofs.YtmojlhpkidbklaaW.PrintWords Go.Proofs.YtmojlhpkidbklaaW.PrintLast Go.Proofs.YtmojlhpkidbklaaW.PrintMore
theorem again_eq (a b c : Int) (h : -9223372036854775808 ≤ c ∧ c ≤ 9223372036854775807) : retry_Again.f a b c = some (a, b, if c ≤ 0 then c else c - 1, decide (0 < c)) := by
  unfold retry_Again.f retry_spent52.f
  by_cases hc : c ≤ 0
  · rw [if_pos hc, if_pos hc, decide_eq_false (by omega)]
  · rw [if_neg hc, if_neg hc, decide_eq_true (by omega), wrap_id (by omega)]
theorem restart_eq (a b c : Int) (h : -9223372036854775808 ≤ b ∧ b ≤ 9223372036854775807) : retry_Restart.f a b c = some (if b ≤ 0 then (a, b, c, false) else (a, b - 1, a, true)) := by
  unfold retry_Restart.f retry_spent51.f retry_Fine.f
  by_cases hb : b ≤ 0
  · rw [if_pos hb, if_pos hb]; rfl
  · rw [if_neg hb, if_neg hb, wrap_id (by omega)]; rfl
theorem new_eq (a : Int) : retry_New.f a = some (mn (mx a 0) 8, mn (mx a 0) 8 + 1, mn (mx a 0) 8) := by
  unfold retry_New.f retry_cut.f
  have h1 := mn_le (mx a 0) 8
  have h2 := mx_le a 0
  simp only [Option.bind_some]
  rw [wrap_id (by omega)]
theorem cap8 (a : Int) : 0 ≤ mn (mx a 0) 8 ∧ mn (mx a 0) 8 ≤ 8 := by
  have h1 := mn_le (mx a 0) 8
  have h2 := mx_le a 0
  omega
theorem awake34 : spencelaw34_awake.f = some true := by
  unfold spencelaw34_awake.f
  have e : mn (mx 0 0) 8 = 0 := by have := cap8 0; have h1 := mn_eq (mx 0 0) 8; have h2 := mx_eq 0 0; omega
  simp only [new_eq, e, Option.bind_some]
  rw [again_eq 0 (0 + 1) 0 (by omega)]
  simp only [Option.bind_some]
  rw [restart_eq 0 (0 + 1) 0 (by omega)]
  simp only [Option.bind_some]
  rw [if_neg (by decide), restart_eq 0 (0 + 1 - 1) 0 (by omega), if_pos (by decide)]
  rfl
end Go.Proofs.Ytmojlhpkidbklaa.Pure
