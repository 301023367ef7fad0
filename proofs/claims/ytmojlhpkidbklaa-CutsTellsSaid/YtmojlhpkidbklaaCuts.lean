/- Plain lemmas on the slices of an object (package cuts and its reference). -/
import Derived.Test.YtmojlhpkidbklaaPb
import Derived.Test.YtmojlhpkidbklaaPAllx3
import Derived.Test.YtmojlhpkidbklaaPAllx3
import Derived.Test.YtmojlhpkidbklaaPAllx9
import Derived.Test.YtmojlhpkidbklaaPAllx7
import Derived.Test.YtmojlhpkidbklaaPAllx7
import Derived.Test.YtmojlhpkidbklaaPAllx3
namespace Go.Proofs.Ytmojlhpkidbklaa.Pure
open Go.RowKit Go.Proofs.Ytmojlhpkidbklaa.PAll Go.Proofs.YtmojlhpkidbklaaW.PrintWords Go.Proofs.YtmojlhpkidbklaaW.PrintLast Go.Proofs.YtmojlhpkidbklaaW.PrintMore
def CR (n s : Int) : Prop := 0 ≤ n ∧ n ≤ 4096 ∧ 1 ≤ s ∧ s ≤ 64
instance (n s : Int) : Decidable (CR n s) := by unfold CR; infer_instance

theorem right_eq (n s : Int) : cuts_Right.f n s = some (decide (CR n s)) := by
  unfold cuts_Right.f CR
  by_cases h0 : n ≥ 0 <;> by_cases h1 : n ≤ 4096 <;> by_cases h2 : s ≥ 1 <;> by_cases h3 : s ≤ 64 <;> simp [h0, h1, h2, h3] <;> omega
theorem ref_cuts_eq (n s : Int) : spenceref04_Cuts.f n s = some (decide (CR n s)) := right_eq n s
/-- how many slices -/
def cnt (n s : Int) : Int := if CR n s then (n + s - 1) / s else 0
theorem count_eq (n s : Int) : cuts_Count.f n s = some (cnt n s) := by
  unfold cuts_Count.f cnt
  rw [right_eq]
  by_cases h : CR n s
  · simp only [h, decide_true, Option.bind_some, if_true]
    obtain ⟨h0, h1, h2, h3⟩ := h
    rw [if_neg (by omega), wrap_id (x := n + s) (by omega), wrap_id (x := n + s - 1) (by omega), Int.tdiv_eq_ediv_of_nonneg (by omega)]
    have h4 : 0 ≤ (n + s - 1) / s := Int.ediv_nonneg (by omega) (by omega)
    have h5 : (n + s - 1) / s ≤ n + s - 1 := Int.ediv_le_self _ (by omega)
    rw [wrap_id (by omega)]
  · simp [h]
theorem lt_cnt {i n s : Int} (h : CR n s) : i < cnt n s ↔ i * s < n := by
  unfold cnt
  rw [if_pos h]
  obtain ⟨h0, h1, h2, h3⟩ := h
  have h4 : i + 1 ≤ (n + s - 1) / s ↔ (i + 1) * s ≤ n + s - 1 := Int.le_ediv_iff_mul_le (by omega)
  rw [Int.add_mul, Int.one_mul] at h4
  constructor
  · intro h; have := h4.1 (by omega); omega
  · intro h; have := h4.2 (by omega); omega
theorem cnt_bd {n s : Int} (h : CR n s) : 0 ≤ cnt n s ∧ cnt n s ≤ n := by
  have h' := h
  obtain ⟨h0, h1, h2, h3⟩ := h'
  constructor
  · unfold cnt; rw [if_pos h]; exact Int.ediv_nonneg (by omega) (by omega)
  · have := (lt_cnt (i := n) h).1
    have h6 : n ≤ n * s := by have := Int.mul_le_mul_of_nonneg_left h2 h0; omega
    by_cases h5 : n < cnt n s
    · have := this h5; omega
    · omega
/-- slice i: where it begins and ends -/
def bnd (i n s : Int) : Int × Int := if CR n s ∧ 0 ≤ i ∧ i * s < n then (i * s, mn (i * s + s) n) else (0, 0)
theorem mul_bd {i n s : Int} (h : CR n s) (h0 : 0 ≤ i) (h1 : i * s < n) : 0 ≤ i * s ∧ i ≤ i * s ∧ i * s ≤ 4096 := by
  obtain ⟨_, _, h2, _⟩ := h
  have h3 : 0 ≤ i * s := Int.mul_nonneg h0 (by omega)
  have h4 : i * 1 ≤ i * s := Int.mul_le_mul_of_nonneg_left h2 h0
  omega
theorem bounds_eq (i n s : Int) : cuts_Bounds.f i n s = some ((bnd i n s).1, (bnd i n s).2, decide (CR n s ∧ 0 ≤ i ∧ i * s < n)) := by
  unfold cuts_Bounds.f bnd
  by_cases h0 : i < 0
  · rw [if_pos h0, if_neg (by omega)]; simp; omega
  rw [if_neg h0, count_eq]
  simp only [Option.bind_some]
  by_cases hr : CR n s
  · by_cases h1 : i * s < n
    · have h2 := (lt_cnt hr).2 h1
      have hb := mul_bd hr (by omega) h1
      have hm : (i + 1) * s = i * s + s := by rw [Int.add_mul, Int.one_mul]
      have hr' := hr
      obtain ⟨g0, g1, g2, g3⟩ := hr'
      have hc : CR n s ∧ 0 ≤ i ∧ i * s < n := ⟨hr, by omega, h1⟩
      rw [if_neg (by omega), if_pos hc, wrap_id (x := i * s) (by omega), wrap_id (x := i + 1) (by omega), hm, wrap_id (x := i * s + s) (by omega), decide_eq_true hc]
    · have h2 : ¬ i < cnt n s := fun h => h1 ((lt_cnt hr).1 h)
      rw [if_pos (by omega), if_neg (by simp [h1])]; simp; omega
  · have h2 : cnt n s = 0 := by unfold cnt; rw [if_neg hr]
    rw [if_pos (by omega), if_neg (by simp [hr])]; simp [hr]
theorem awake10 : spencelaw10_awake.f = some true := by
  unfold spencelaw10_awake.f
  rw [bounds_eq]
  decide
theorem ref_bounds_eq (k : Nat) (i n s : Int) : spenceref04_Bounds.f (k + 1) i n s = some (bnd i n s) := by
  unfold spenceref04_Bounds.f bnd
  rw [ref_cuts_eq]
  by_cases hr : CR n s
  · have hr' := hr
    obtain ⟨g0, g1, g2, g3⟩ := hr'
    simp only [hr, decide_true, Option.bind_some, if_true, spenceref04_Bounds.j0, true_and]
    by_cases h0 : i < 0
    · rw [if_pos h0, if_neg (by omega)]
    rw [if_neg h0]
    by_cases h1 : i * s < n
    · have hb := mul_bd hr (by omega) h1
      have hc : 0 ≤ i ∧ i * s < n := ⟨by omega, h1⟩
      rw [if_neg (by omega), wrap_id (x := i * s) (by omega), wrap_id (x := i * s + s) (by omega), if_pos hc]
      simp only [ge_iff_le, decide_eq_true_eq]
      rw [if_neg (by omega)]
      unfold mn
      by_cases h2 : i * s + s > n
      · rw [if_pos h2, if_pos h2]
      · rw [if_neg h2, if_neg h2]
    · by_cases h2 : i > 4096
      · rw [if_pos h2, if_neg (by simp [h1])]
      · have hb : 0 ≤ i * s ∧ i * s ≤ i * 64 := ⟨Int.mul_nonneg (by omega) (by omega), Int.mul_le_mul_of_nonneg_left g3 (by omega)⟩
        have hc : ¬ (0 ≤ i ∧ i * s < n) := fun h => h1 h.2
        rw [if_neg h2, wrap_id (x := i * s) (by omega), if_neg hc, if_pos (decide_eq_true (by omega))]
  · simp only [hr, decide_false, Option.bind_some, spenceref04_Bounds.j0]
    simp
theorem ref_bounds_ev (i n s : Int) : Ev (fun k => spenceref04_Bounds.f k i n s) (bnd i n s) := Ev.pos (fun k => ref_bounds_eq k i n s)
def SR (a b : Int) : Prop := 0 ≤ a ∧ a < b ∧ b ≤ 4611686018427387903
instance (n s : Int) : Decidable (SR n s) := by unfold SR; infer_instance
theorem span_right_eq (a b : Int) : span_Right.f a b = some (decide (SR a b)) := by
  unfold span_Right.f SR
  by_cases h0 : a ≥ 0 <;> by_cases h1 : a < b <;> by_cases h2 : b ≤ 4611686018427387903 <;> simp [h0, h1, h2] <;> omega
theorem ref_right_eq (a b : Int) : spenceref04_Right.f a b = some (decide (SR a b)) := span_right_eq a b
theorem span_len_eq (a b : Int) : span_Len.f a b = some (if SR a b then b - a else 0) := by
  unfold span_Len.f
  rw [span_right_eq]
  by_cases h : SR a b
  · simp only [h, decide_true, Option.bind_some, if_true]
    obtain ⟨h0, h1, h2⟩ := h
    rw [wrap_id (by omega)]
  · simp [h]
theorem bnd_in {i n s : Int} (h : CR n s ∧ 0 ≤ i ∧ i * s < n) : (bnd i n s).1 = i * s ∧ (bnd i n s).2 = mn (i * s + s) n := by
  unfold bnd; rw [if_pos h]; exact ⟨rfl, rfl⟩
theorem bnd_out {i n s : Int} (h : ¬ (CR n s ∧ 0 ≤ i ∧ i * s < n)) : bnd i n s = (0, 0) := by
  unfold bnd; rw [if_neg h]
theorem bnd_pos (i n s : Int) : (0 < (bnd i n s).2 ↔ (CR n s ∧ 0 ≤ i ∧ i * s < n)) ∧ 0 ≤ (bnd i n s).1 ∧ ((CR n s ∧ 0 ≤ i ∧ i * s < n) → (bnd i n s).1 < (bnd i n s).2 ∧ (bnd i n s).2 ≤ 4096 ∧ (bnd i n s).2 ≤ n) ∧ (¬ (CR n s ∧ 0 ≤ i ∧ i * s < n) → (bnd i n s).2 = 0) := by
  by_cases h : CR n s ∧ 0 ≤ i ∧ i * s < n
  · have hb := bnd_in h
    have hm := mul_bd h.1 h.2.1 h.2.2
    obtain ⟨⟨g0, g1, g2, g3⟩, h1, h2⟩ := h
    have h3 := mn_le (i * s + s) n
    rw [hb.1, hb.2]
    refine ⟨⟨fun _ => ⟨⟨g0, g1, g2, g3⟩, h1, h2⟩, fun _ => by omega⟩, by omega, fun _ => by omega, fun hn => (hn ⟨⟨g0, g1, g2, g3⟩, h1, h2⟩).elim⟩
  · rw [bnd_out h]
    exact ⟨⟨fun h' => by simp at h', fun h' => (h h').elim⟩, by simp, fun h' => (h h').elim, fun _ => rfl⟩
theorem last_eq (n s : Int) : cuts_Last.f n s = some ((bnd (cnt n s - 1) n s).2 - (bnd (cnt n s - 1) n s).1) := by
  unfold cuts_Last.f
  rw [count_eq]
  simp only [Option.bind_some]
  have hc : wrap64 (cnt n s - 1) = cnt n s - 1 := by
    by_cases hr : CR n s
    · have := cnt_bd hr; obtain ⟨g0, g1, g2, g3⟩ := hr; exact wrap_id (by omega)
    · unfold cnt; rw [if_neg hr]; exact wrap_id (by omega)
  rw [hc, bounds_eq]
  simp only [Option.bind_some]
  rw [span_len_eq]
  simp only [Option.bind_some]
  have hp := bnd_pos (cnt n s - 1) n s
  by_cases h : CR n s ∧ 0 ≤ cnt n s - 1 ∧ (cnt n s - 1) * s < n
  · have := hp.2.2.1 h
    have h0 := hp.2.1
    rw [if_pos ⟨h0, this.1, by omega⟩]
  · rw [bnd_out h]; rfl
end Go.Proofs.Ytmojlhpkidbklaa.Pure
