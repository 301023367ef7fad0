/- Where any slice begins and ends, how many there are, and which ones any bytes are in: the plain law. -/
import Derived.Test.YtmojlhpkidbklaaPureCutsCovers
import Derived.Test.YtmojlhpkidbklaaPAllx10
namespace Go.Proofs.Ytmojlhpkidbklaa.Pure
open Go.RowKit Go.Proofs.Ytmojlhpkidbklaa.PAll Go.Proofs.YtmojlhpkidbklaaW.PrintWords Go.Proofs.YtmojlhpkidbklaaW.PrintLast Go.Proofs.YtmojlhpkidbklaaW.PrintMore
def cof (a0 a1 s : Int) : Int × Int := if SR a0 a1 ∧ 1 ≤ s ∧ s ≤ 64 then (a0 / s, (a1 - 1) / s + 1) else (0, 0)
theorem div_bd {x s : Int} (h : 0 ≤ x) (hs : 1 ≤ s) : 0 ≤ x / s ∧ x / s ≤ x := ⟨Int.ediv_nonneg h (by omega), Int.ediv_le_self _ h⟩
theorem of_eq (a0 a1 s : Int) : cuts_Of.f a0 a1 s = some (cof a0 a1 s) := by
  unfold cuts_Of.f cof
  simp only [span_right_eq, right_eq, Option.bind_some]
  by_cases h : SR a0 a1
  · have h' := h
    obtain ⟨g0, g1, g2⟩ := h'
    rw [if_pos (decide_eq_true h)]
    by_cases hs : 1 ≤ s ∧ s ≤ 64
    · have hc : CR 0 s := ⟨by omega, by omega, hs.1, hs.2⟩
      have d0 := div_bd (x := a0) g0 hs.1
      have d1 := div_bd (x := a1 - 1) (by omega) hs.1
      rw [if_pos (decide_eq_true hc), if_neg (by omega), if_pos ⟨h, hs⟩, Int.tdiv_eq_ediv_of_nonneg g0, wrap_id (x := a0 / s) (by omega), wrap_id (x := a1 - 1) (by omega), Int.tdiv_eq_ediv_of_nonneg (by omega),
        wrap_id (x := (a1 - 1) / s) (by omega), wrap_id (x := (a1 - 1) / s + 1) (by omega)]
    · have hc : ¬ CR 0 s := fun h => hs ⟨h.2.2.1, h.2.2.2⟩
      have hd : ¬ (decide (CR 0 s) = true) := by simpa using hc
      rw [if_neg hd, if_neg (fun h => hs h.2)]
  · have hd : ¬ (decide (SR a0 a1) = true) := by simpa using h
    rw [if_neg hd, if_neg (fun h' => h h'.1)]
theorem tells_end (n s a0 a1 : Int) (k : Nat) (b : Bool) (hb : b = decide (¬ (SR a0 a1 ∧ 1 ≤ s ∧ s ≤ 64))) :
    spencelaw10_CutsTells.j2 (k + 1) n s (cnt n s) (cof a0 a1 s).1 (cof a0 a1 s).2 b a0 a1 (bnd (cnt n s - 1) n s).1 (bnd (cnt n s - 1) n s).2 = some true := by
  subst hb
  simp only [spencelaw10_CutsTells.j2, count_eq, last_eq, Option.bind_some]
  by_cases h : SR a0 a1 ∧ 1 ≤ s ∧ s ≤ 64
  · have hd : ¬ (decide (¬ (SR a0 a1 ∧ 1 ≤ s ∧ s ≤ 64)) = true) := by simpa using h
    have h' := h
    obtain ⟨⟨g0, g1, g2⟩, hs⟩ := h'
    have d0 := div_bd (x := a0) g0 hs.1
    have d1 := div_bd (x := a1 - 1) (by omega) hs.1
    have hp := bnd_pos (cnt n s - 1) n s
    have hw : wrap64 ((bnd (cnt n s - 1) n s).2 - (bnd (cnt n s - 1) n s).1) = (bnd (cnt n s - 1) n s).2 - (bnd (cnt n s - 1) n s).1 := by
      by_cases hh : CR n s ∧ 0 ≤ cnt n s - 1 ∧ (cnt n s - 1) * s < n
      · have := hp.2.2.1 hh; exact wrap_id (by omega)
      · rw [bnd_out hh]; exact wrap_id (by omega)
    rw [if_neg hd, if_pos trivial, hw, if_pos rfl, if_neg (by omega)]
    have e : cof a0 a1 s = (a0 / s, (a1 - 1) / s + 1) := by unfold cof; rw [if_pos h]
    rw [e, Int.tdiv_eq_ediv_of_nonneg g0, wrap_id (x := a0 / s) (by omega), wrap_id (x := a1 - 1) (by omega), Int.tdiv_eq_ediv_of_nonneg (by omega),
        wrap_id (x := (a1 - 1) / s) (by omega), wrap_id (x := (a1 - 1) / s + 1) (by omega), if_pos rfl]
    simp
  · have e : cof a0 a1 s = (0, 0) := by unfold cof; rw [if_neg h]
    rw [if_pos (decide_eq_true h), e]
    simp
theorem tells_loop (n s a0 a1 : Int) (d : Nat) : ∀ i : Int, 0 ≤ i → i ≤ cnt n s → cnt n s - i = d →
    Ev (fun k => spencelaw10_CutsTells.l0 k n s i a0 a1) true := by
  have hb := cnt_bd2 n s
  induction d with
  | zero =>
    intro i h0 h1 hd
    have hi : i = cnt n s := by omega
    subst hi
    have hz : ¬ (bnd (cnt n s) n s).2 > 0 := fun h => by
      have h := (bnd_pos (cnt n s) n s).1.1 h
      have := (lt_cnt h.1).2 h.2.2
      omega
    refine ⟨3, fun k hk => ?_⟩
    obtain ⟨k, rfl⟩ : ∃ m, k = m + 1 + 1 + 1 := ⟨k - 3, by omega⟩
    simp only [spencelaw10_CutsTells.l0, ref_bounds_eq, Option.bind_some]
    rw [if_neg hz, wrap_id (x := cnt n s - 1) (by omega)]
    simp only [of_eq, ref_right_eq, Option.bind_some]
    by_cases h : SR a0 a1
    · rw [if_pos (decide_eq_true h)]
      by_cases h2 : s < 1
      · rw [if_pos h2]
        exact tells_end n s a0 a1 _ _ (by symm; simp; omega)
      · rw [if_neg h2]
        refine tells_end n s a0 a1 _ _ ?_
        by_cases h3 : s > 64
        · rw [decide_eq_true h3]; symm; simp; omega
        · rw [decide_eq_false h3]; symm; simp [h]; omega
    · have hd : ¬ (decide (SR a0 a1) = true) := by simpa using h
      rw [if_neg hd]
      exact tells_end n s a0 a1 _ _ (by symm; simp [h])
  | succ d ih =>
    intro i h0 h1 hd
    obtain ⟨K, hK⟩ := ih (i + 1) (by omega) (by omega) (by omega)
    refine ⟨K + 2, fun k hk => ?_⟩
    obtain ⟨k, rfl⟩ : ∃ m, k = m + 1 + 1 := ⟨k - 2, by omega⟩
    have h := hK (k + 1) (by omega)
    have hr : CR n s := by
      by_cases hr : CR n s
      · exact hr
      · unfold cnt at hd; rw [if_neg hr] at hd; omega
    have hz := (bnd_pos i n s).1.2 ⟨hr, h0, (lt_cnt hr).1 (by omega)⟩
    simp only [spencelaw10_CutsTells.l0, ref_bounds_eq, Option.bind_some]
    rw [if_pos (by omega), wrap_id (x := i + 1) (by omega)]
    exact h
theorem CutsTells : spencelaw10_CutsTells.Pure := by
  intro i n s a0 a1 h0 h1 h2 h3 h4
  refine Ev.rounds (g := fun k => spencelaw10_CutsTells.f k i n s a0 a1) ?_
  have hb := cnt_bd2 n s
  obtain ⟨K, hK⟩ := tells_loop n s a0 a1 (cnt n s).toNat 0 (by omega) (by omega) (by omega)
  refine ⟨K + 3, fun k hk => ?_⟩
  obtain ⟨k, rfl⟩ : ∃ m, k = m + 1 + 2 := ⟨k - 3, by omega⟩
  have h := hK (k + 1 + 1) (by omega)
  have e1 : spenceref04_Bounds.f (k + 1 + 2) i n s = some (bnd i n s) := ref_bounds_eq (k + 2) i n s
  simp only [spencelaw10_CutsTells.f, awake10, Option.bind_some, if_true, bounds_eq, e1, part_eq, ref_meet_eq, right_eq, ref_cuts_eq]
  have q1 : (decide ((bnd i n s).2 > 0)) = decide (CR n s ∧ 0 ≤ i ∧ i * s < n) := decide_eq_decide.2 (bnd_pos i n s).1
  have q2 : (decide ((meet a0 a1 (bnd i n s).1 (bnd i n s).2).2 > 0)) = decide (hits a0 a1 (bnd i n s).1 (bnd i n s).2) := decide_eq_decide.2 (meet_pos _ _ _ _)
  simp only [q1, q2, beq_self_eq_true, Bool.not_true, Bool.or_self, bne_self_eq_false]
  simp only [Bool.false_eq_true, if_false, spencelaw10_CutsTells.j0]
  exact h
end Go.Proofs.Ytmojlhpkidbklaa.Pure
