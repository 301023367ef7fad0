/- The slices of an object, one behind the other, are it: the plain law. -/
import Derived.Test.YtmojlhpkidbklaaCuts
import Derived.Test.YtmojlhpkidbklaaPAllx4
namespace Go.Proofs.Ytmojlhpkidbklaa.Pure
open Go.RowKit Go.Proofs.Ytmojlhpkidbklaa.PAll Go.Proofs.YtmojlhpkidbklaaW.PrintWords Go.Proofs.YtmojlhpkidbklaaW.PrintLast Go.Proofs.YtmojlhpkidbklaaW.PrintMore
theorem whole_loop (n s a : Int) (hr : CR n s) (d : Nat) : ∀ i : Int, 0 ≤ i → i ≤ cnt n s → cnt n s - i = d →
    Ev (fun k => spencelaw10_CutsWhole.l0 k n s a (mn (i * s) n) (if 0 ≤ a ∧ a < mn (i * s) n then 1 else 0) i) true := by
  have hcb := cnt_bd hr
  have hr' := hr
  obtain ⟨g0, g1, g2, g3⟩ := hr'
  induction d with
  | zero =>
    intro i h0 h1 hd
    have hi : i = cnt n s := by omega
    have hn : ¬ i * s < n := fun h => by have := (lt_cnt hr).2 h; omega
    have hm : mn (i * s) n = n := by unfold mn; split <;> omega
    rw [hm]
    refine ⟨2, fun k hk => ?_⟩
    obtain ⟨k, rfl⟩ : ∃ m, k = m + 1 + 1 := ⟨k - 2, by omega⟩
    simp only [spencelaw10_CutsWhole.l0, count_eq, Option.bind_some]
    rw [if_neg (show ¬ i < cnt n s by omega)]
    simp only [spencelaw10_CutsWhole.j1]
    by_cases h2 : 0 ≤ a <;> by_cases h3 : a < n <;> simp [h2, h3]
  | succ d ih =>
    intro i h0 h1 hd
    have hi : i < cnt n s := by omega
    have hn := (lt_cnt hr).1 hi
    have hb := mul_bd hr h0 hn
    have hm : mn (i * s) n = i * s := by unfold mn; split <;> omega
    have hc : CR n s ∧ 0 ≤ i ∧ i * s < n := ⟨hr, h0, hn⟩
    have hbd := bnd_in hc
    have hm2 := mn_le (i * s + s) n
    have hs : (i + 1) * s = i * s + s := by rw [Int.add_mul, Int.one_mul]
    have ih := ih (i + 1) (by omega) (by omega) (by omega)
    rw [hs] at ih
    rw [hm]
    have hle : i ≤ n := by omega
    have hlt : ¬ mn (i * s + s) n ≤ i * s := by omega
    have hd2 : ¬ mn (i * s + s) n - i * s > s := by omega
    have hw : wrap64 (i + 1) = i + 1 := wrap_id (by omega)
    obtain ⟨K, hK⟩ := ih
    refine ⟨K + 3, fun k hk => ?_⟩
    obtain ⟨k, rfl⟩ : ∃ m, k = m + 1 + 1 + 1 := ⟨k - 3, by omega⟩
    have ih := hK k (by omega)
    simp only [spencelaw10_CutsWhole.l0, count_eq, Option.bind_some, if_pos hi]
    simp only [spencelaw10_CutsWhole.j1, bounds_eq, Option.bind_some, hc, hbd, hle, decide_true, if_true, and_self]
    rw [if_neg hlt, wrap_id (x := mn (i * s + s) n - i * s) (by omega)]
    simp only [hd2, decide_false]
    simp only [spencelaw10_CutsWhole.j2, hw]
    rw [if_neg (by decide)]
    have hx : wrap64 (0 + 1) = 1 := wrap_id (by omega)
    by_cases h2 : a ≥ i * s
    · rw [if_pos h2]
      have e1 : ¬ (0 ≤ a ∧ a < i * s) := by omega
      rw [if_neg e1, hx]
      by_cases h3 : a < mn (i * s + s) n
      · have e2 : 0 ≤ a ∧ a < mn (i * s + s) n := ⟨by omega, h3⟩
        rw [if_pos e2] at ih
        rw [if_pos h3]
        exact ih
      · have e2 : ¬ (0 ≤ a ∧ a < mn (i * s + s) n) := by omega
        rw [if_neg e2] at ih
        rw [if_neg h3]
        exact ih
    · rw [if_neg h2]
      by_cases e1 : 0 ≤ a ∧ a < i * s
      · have e2 : 0 ≤ a ∧ a < mn (i * s + s) n := ⟨e1.1, by omega⟩
        rw [if_pos e2] at ih
        rw [if_pos e1]
        exact ih
      · have e2 : ¬ (0 ≤ a ∧ a < mn (i * s + s) n) := by omega
        rw [if_neg e2] at ih
        rw [if_neg e1]
        exact ih
theorem CutsWhole : spencelaw10_CutsWhole.Pure := by
  intro n s a h0 h1 h2
  refine Ev.rounds (g := fun k => spencelaw10_CutsWhole.f k n s a) ?_
  simp only [spencelaw10_CutsWhole.f, awake10, Option.bind_some, if_true, ref_cuts_eq]
  by_cases hr : CR n s
  · simp only [hr, decide_true, if_true]
    have hcb := cnt_bd hr
    have := whole_loop n s a hr (cnt n s).toNat 0 (by omega) (by omega) (by omega)
    have hz : mn (0 * s) n = 0 := by obtain ⟨g0, g1, g2, g3⟩ := hr; unfold mn; split <;> omega
    rw [hz, if_neg (by omega)] at this
    exact this
  · have hc : cnt n s = 0 := by unfold cnt; rw [if_neg hr]
    simp only [hr, decide_false, count_eq, Option.bind_some, last_eq, hc]
    have hx : bnd (0 - 1) n s = (0, 0) := bnd_out (fun h => hr h.1)
    rw [hx]
    exact Ev.all (fun k => by simp)
end Go.Proofs.Ytmojlhpkidbklaa.Pure
