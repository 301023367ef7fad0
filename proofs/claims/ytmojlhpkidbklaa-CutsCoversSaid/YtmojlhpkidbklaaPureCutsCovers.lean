/- The slices that have a byte of any spans: the plain law. -/
import Derived.Test.YtmojlhpkidbklaaCuts
import Derived.Test.YtmojlhpkidbklaaInts
import Derived.Test.YtmojlhpkidbklaaPAllx9
namespace Go.Proofs.Ytmojlhpkidbklaa.Pure
open Go.RowKit Go.Proofs.Ytmojlhpkidbklaa.PAll Go.Proofs.YtmojlhpkidbklaaW.PrintWords Go.Proofs.YtmojlhpkidbklaaW.PrintLast Go.Proofs.YtmojlhpkidbklaaW.PrintMore
def hits (a0 a1 b0 b1 : Int) : Prop := SR a0 a1 ∧ SR b0 b1 ∧ mx a0 b0 < mn a1 b1
instance (a0 a1 b0 b1 : Int) : Decidable (hits a0 a1 b0 b1) := by unfold hits; infer_instance
def meet (a0 a1 b0 b1 : Int) : Int × Int := if hits a0 a1 b0 b1 then (mx a0 b0, mn a1 b1) else (0, 0)
theorem meet_eq (a0 a1 b0 b1 : Int) : span_Meet.f a0 a1 b0 b1 = some ((meet a0 a1 b0 b1).1, (meet a0 a1 b0 b1).2, decide (hits a0 a1 b0 b1)) := by
  unfold span_Meet.f meet
  simp only [span_right_eq, Option.bind_some]
  by_cases h0 : SR a0 a1
  · by_cases h1 : SR b0 b1
    · by_cases h2 : mx a0 b0 < mn a1 b1
      · have hh : hits a0 a1 b0 b1 := ⟨h0, h1, h2⟩
        have h3 : SR (mx a0 b0) (mn a1 b1) := by
          have := mx_le a0 b0; have := mn_le a1 b1
          unfold SR at *; omega
        simp [h0, h1, h3, hh]
      · have hh : ¬ hits a0 a1 b0 b1 := fun h => h2 h.2.2
        have h3 : ¬ SR (mx a0 b0) (mn a1 b1) := fun h => h2 h.2.1
        simp [h0, h1, h3, hh]
    · have hh : ¬ hits a0 a1 b0 b1 := fun h => h1 h.2.1
      simp [h0, h1, hh]
  · have hh : ¬ hits a0 a1 b0 b1 := fun h => h0 h.1
    simp [h0, hh]
theorem ref_meet_eq (k : Nat) (a0 a1 b0 b1 : Int) : spenceref04_Meet.f (k + 2) a0 a1 b0 b1 = some (meet a0 a1 b0 b1) := by
  unfold spenceref04_Meet.f meet
  simp only [ref_right_eq, Option.bind_some]
  by_cases h0 : SR a0 a1
  · by_cases h1 : SR b0 b1
    · simp only [h0, h1, decide_true, if_true, Bool.not_true, spenceref04_Meet.j0]
      have e : hits a0 a1 b0 b1 ↔ mx a0 b0 < mn a1 b1 := ⟨fun h => h.2.2, fun h => ⟨h0, h1, h⟩⟩
      simp only [e]
      rw [if_neg (by decide)]
      by_cases h2 : b0 > a0
      · skip
        have hx : mx a0 b0 = b0 := by unfold mx; rw [if_pos (by omega)]
        rw [if_pos h2, hx]
        simp only [spenceref04_Meet.j1]
        by_cases h3 : b1 < a1
        · have hy : mn a1 b1 = b1 := by unfold mn; rw [if_pos h3]
          rw [if_pos h3, hy]
          by_cases h4 : b0 < b1
          · rw [if_neg (by omega), if_pos h4]
          · rw [if_pos (by omega), if_neg h4]
        · have hy : mn a1 b1 = a1 := by unfold mn; rw [if_neg h3]
          rw [if_neg h3, hy]
          by_cases h4 : b0 < a1
          · rw [if_neg (by omega), if_pos h4]
          · rw [if_pos (by omega), if_neg h4]
      · skip
        have hx : mx a0 b0 = a0 := by unfold mx; rw [if_neg (by omega)]
        rw [if_neg h2, hx]
        simp only [spenceref04_Meet.j1]
        by_cases h3 : b1 < a1
        · have hy : mn a1 b1 = b1 := by unfold mn; rw [if_pos h3]
          rw [if_pos h3, hy]
          by_cases h4 : a0 < b1
          · rw [if_neg (by omega), if_pos h4]
          · rw [if_pos (by omega), if_neg h4]
        · have hy : mn a1 b1 = a1 := by unfold mn; rw [if_neg h3]
          rw [if_neg h3, hy]
          by_cases h4 : a0 < a1
          · rw [if_neg (by omega), if_pos h4]
          · rw [if_pos (by omega), if_neg h4]
    · have hh : ¬ hits a0 a1 b0 b1 := fun h => h1 h.2.1
      simp [h0, h1, hh, spenceref04_Meet.j0]
  · have hh : ¬ hits a0 a1 b0 b1 := fun h => h0 h.1
    simp [h0, hh, spenceref04_Meet.j0]
theorem meet_pos (a0 a1 b0 b1 : Int) : 0 < (meet a0 a1 b0 b1).2 ↔ hits a0 a1 b0 b1 := by
  unfold meet
  by_cases h : hits a0 a1 b0 b1
  · rw [if_pos h]
    have h' := h
    obtain ⟨⟨h0, _, _⟩, ⟨h1, _, _⟩, h2⟩ := h'
    have := mx_le a0 b0
    exact ⟨fun _ => h, fun _ => by simp only; omega⟩
  · rw [if_neg h]; exact ⟨fun h' => by simp at h', fun h' => (h h').elim⟩
theorem part_eq (a0 a1 i n s : Int) : cuts_Part.f a0 a1 i n s = some ((meet a0 a1 (bnd i n s).1 (bnd i n s).2).1, (meet a0 a1 (bnd i n s).1 (bnd i n s).2).2, decide (hits a0 a1 (bnd i n s).1 (bnd i n s).2)) := by
  unfold cuts_Part.f
  simp only [bounds_eq, Option.bind_some]
  by_cases h : CR n s ∧ 0 ≤ i ∧ i * s < n
  · rw [if_pos (decide_eq_true h)]
    simp only [meet_eq, Option.bind_some]
  · have hd : ¬ (decide (CR n s ∧ 0 ≤ i ∧ i * s < n) = true) := by simpa using h
    rw [if_neg hd, bnd_out h]
    have hh : ¬ hits a0 a1 0 0 := fun h' => by have := h'.2.1.2.1; omega
    unfold meet
    rw [if_neg hh]
    simp [hh]
/-- slice i has a byte of a span -/
def hit (n s i : Int) (x : S35) : Bool := decide (hits x.f0 x.f1 (bnd i n s).1 (bnd i n s).2)
def cov (l : List S35) (n s : Int) : Nat → Int → List Int
  | 0, _ => []
  | d + 1, i => (if l.any (hit n s i) then [i] else []) ++ cov l n s d (i + 1)
theorem cov_length (l : List S35) (n s : Int) : ∀ (d : Nat) (i : Int), (cov l n s d i).length ≤ d
  | 0, _ => by simp [cov]
  | d + 1, i => by
    have := cov_length l n s d (i + 1)
    simp only [cov, List.length_append]
    split <;> simp <;> omega
theorem rd_at (l : List S35) (j : Int) (h0 : 0 ≤ j) (h1 : j < l.length) : rd_T35 l j = l[j.toNat]'(by omega) := by
  have : j.toNat < l.length := by omega
  simp [rd_T35, this]
theorem drop_any (l : List S35) (p : S35 → Bool) (j : Int) (h0 : 0 ≤ j) (h1 : j < l.length) : (l.drop j.toNat).any p = (p (rd_T35 l j) || (l.drop (j + 1).toNat).any p) := by
  have hj : j.toNat < l.length := by omega
  have e : (j + 1).toNat = j.toNat + 1 := by omega
  rw [List.drop_eq_getElem_cons hj, rd_at l j h0 h1, e]
  simp only [List.any_cons]
theorem cover_in (l : List S35) (n s : Int) (acc : List Int) (i c : Int) (r : List Int) (hl : l.length ≤ 9223372036854775807) (ha : acc.length < 17592186044416) (d : Nat) : ∀ j : Int, 0 ≤ j → j ≤ l.length → (l.length : Int) - j = d →
    Ev (fun k => cuts_Cover.l0 k l n s (if (l.drop j.toNat).any (hit n s i) then acc ++ [i] else acc) c (wrap64 (i + 1))) r →
    Ev (fun k => cuts_Cover.l1 k l n s acc i c i l (l.length : Int) j) r := by
  induction d with
  | zero =>
    intro j h0 h1 hd h
    obtain ⟨K, hK⟩ := h
    refine ⟨K + 1, fun k hk => ?_⟩
    obtain ⟨k, rfl⟩ : ∃ m, k = m + 1 := ⟨k - 1, by omega⟩
    have h := hK k (by omega)
    rw [List.drop_of_length_le (by omega)] at h
    simp only [cuts_Cover.l1]
    rw [if_neg (by omega)]
    simpa using h
  | succ d ih =>
    intro j h0 h1 hd h
    have hj : j < l.length := by omega
    rw [drop_any l _ j h0 hj] at h
    by_cases hh : hit n s i (rd_T35 l j) = true
    · obtain ⟨K, hK⟩ := h
      refine ⟨K + 1, fun k hk => ?_⟩
      obtain ⟨k, rfl⟩ : ∃ m, k = m + 1 := ⟨k - 1, by omega⟩
      have h := hK k (by omega)
      simp only [hh, Bool.true_or, if_true] at h
      simp only [cuts_Cover.l1, part_eq, Option.bind_some]
      rw [if_pos hj, if_pos h0, if_pos hj, if_pos (show decide (hits (rd_T35 l j).f0 (rd_T35 l j).f1 (bnd i n s).1 (bnd i n s).2) = true from hh), if_pos ha]
      exact h
    · have hf : hit n s i (rd_T35 l j) = false := by simpa using hh
      rw [hf, Bool.false_or] at h
      obtain ⟨K, hK⟩ := ih (j + 1) (by omega) (by omega) (by omega) h
      refine ⟨K + 1, fun k hk => ?_⟩
      obtain ⟨k, rfl⟩ : ∃ m, k = m + 1 := ⟨k - 1, by omega⟩
      have h := hK k (by omega)
      simp only [cuts_Cover.l1, part_eq, Option.bind_some]
      rw [if_pos hj, if_pos h0, if_pos hj, if_neg (show ¬ decide (hits (rd_T35 l j).f0 (rd_T35 l j).f1 (bnd i n s).1 (bnd i n s).2) = true from hh), wrap_id (by omega)]
      exact h
theorem cover_loop (l : List S35) (n s : Int) (hl : l.length ≤ 9223372036854775807) (hb : 0 ≤ cnt n s ∧ cnt n s ≤ 4096) (d : Nat) : ∀ (i : Int) (acc : List Int), 0 ≤ i → i ≤ cnt n s → cnt n s - i = d → acc.length ≤ i →
    Ev (fun k => cuts_Cover.l0 k l n s acc (cnt n s) i) (acc ++ cov l n s d i) := by
  induction d with
  | zero =>
    intro i acc h0 h1 hd ha
    refine Ev.pos (fun k => ?_)
    simp only [cuts_Cover.l0]
    rw [if_neg (by omega)]
    simp [cov]
  | succ d ih =>
    intro i acc h0 h1 hd ha
    have hw : wrap64 (i + 1) = i + 1 := wrap_id (by omega)
    have h := ih (i + 1) (if l.any (hit n s i) then acc ++ [i] else acc) (by omega) (by omega) (by omega) (by split <;> (try simp) <;> omega)
    have he : (if l.any (hit n s i) then acc ++ [i] else acc) ++ cov l n s d (i + 1) = acc ++ cov l n s (d + 1) i := by
      simp only [cov]; split <;> simp
    rw [he] at h
    have := cover_in l n s acc i (cnt n s) (acc ++ cov l n s (d + 1) i) hl (by omega) l.length 0 (by omega) (by omega) (by omega) (by simpa only [Int.toNat_zero, List.drop_zero, hw] using h)
    obtain ⟨K, hK⟩ := this
    refine ⟨K + 1, fun k hk => ?_⟩
    obtain ⟨k, rfl⟩ : ∃ m, k = m + 1 := ⟨k - 1, by omega⟩
    simp only [cuts_Cover.l0]
    rw [if_pos (by omega)]
    exact hK k (by omega)
theorem cnt_bd2 (n s : Int) : 0 ≤ cnt n s ∧ cnt n s ≤ 4096 := by
  by_cases hr : CR n s
  · have := cnt_bd hr; obtain ⟨g0, g1, g2, g3⟩ := hr; omega
  · unfold cnt; rw [if_neg hr]; omega
theorem cover_ev (l : List S35) (n s : Int) (hl : l.length ≤ 9223372036854775807) : Ev (fun k => cuts_Cover.f k l n s) (cov l n s (cnt n s).toNat 0) := by
  have hb := cnt_bd2 n s
  have := cover_loop l n s hl hb (cnt n s).toNat 0 [] (by omega) (by omega) (by omega) (by simp)
  unfold cuts_Cover.f
  simp only [count_eq, Option.bind_some]
  simpa using this
theorem ref_in (l : List S35) (n s : Int) (acc : List Int) (i : Int) (r : List Int) (hl : l.length ≤ 9223372036854775807) (ha : acc.length < 17592186044416) (d : Nat) : ∀ (j : Int) (b : Bool), 0 ≤ j → j ≤ l.length → (l.length : Int) - j = d →
    Ev (fun k => spenceref04_Cover.l0 k l n s (if b || (l.drop j.toNat).any (hit n s i) then acc ++ [i] else acc) (wrap64 (i + 1))) r →
    Ev (fun k => spenceref04_Cover.l1 k l n s acc i b l (l.length : Int) j (bnd i n s).1 (bnd i n s).2) r := by
  induction d with
  | zero =>
    intro j b h0 h1 hd h
    obtain ⟨K, hK⟩ := h
    refine ⟨K + 1, fun k hk => ?_⟩
    obtain ⟨k, rfl⟩ : ∃ m, k = m + 1 := ⟨k - 1, by omega⟩
    have h := hK k (by omega)
    rw [List.drop_of_length_le (by omega)] at h
    simp only [spenceref04_Cover.l1]
    rw [if_neg (by omega), if_pos ha]
    cases b <;> simpa using h
  | succ d ih =>
    intro j b h0 h1 hd h
    have hj : j < l.length := by omega
    rw [drop_any l _ j h0 hj] at h
    cases b with
    | true =>
      obtain ⟨K, hK⟩ := ih (j + 1) true (by omega) (by omega) (by omega) (by simpa using h)
      refine ⟨K + 1, fun k hk => ?_⟩
      obtain ⟨k, rfl⟩ : ∃ m, k = m + 1 := ⟨k - 1, by omega⟩
      have h := hK k (by omega)
      simp only [spenceref04_Cover.l1]
      rw [if_pos hj, if_pos h0, if_pos hj, if_pos trivial, wrap_id (by omega)]
      exact h
    | false =>
      obtain ⟨K, hK⟩ := ih (j + 1) (hit n s i (rd_T35 l j)) (by omega) (by omega) (by omega) (by simpa using h)
      refine ⟨K + 3, fun k hk => ?_⟩
      obtain ⟨k, rfl⟩ : ∃ m, k = m + 2 + 1 := ⟨k - 3, by omega⟩
      have h := hK (k + 2) (by omega)
      simp only [spenceref04_Cover.l1, ref_meet_eq, Option.bind_some]
      rw [if_pos hj, if_pos h0, if_pos hj, if_neg (by decide), wrap_id (by omega)]
      have e : decide ((meet (rd_T35 l j).f0 (rd_T35 l j).f1 (bnd i n s).1 (bnd i n s).2).2 > 0) = hit n s i (rd_T35 l j) := by
        unfold hit
        exact decide_eq_decide.mpr (meet_pos _ _ _ _)
      rw [e]
      exact h
theorem ref_cover_loop (l : List S35) (n s : Int) (hl : l.length ≤ 9223372036854775807) (hb : 0 ≤ cnt n s ∧ cnt n s ≤ 4096) (d : Nat) : ∀ (i : Int) (acc : List Int), 0 ≤ i → i ≤ cnt n s → cnt n s - i = d → acc.length ≤ i →
    Ev (fun k => spenceref04_Cover.l0 k l n s acc i) (acc ++ cov l n s d i) := by
  induction d with
  | zero =>
    intro i acc h0 h1 hd ha
    refine ⟨2, fun k hk => ?_⟩
    obtain ⟨k, rfl⟩ : ∃ m, k = m + 1 + 1 := ⟨k - 2, by omega⟩
    have hz : (bnd i n s).2 = 0 := (bnd_pos i n s).2.2.2 (fun h => by
      have := (lt_cnt h.1).2 h.2.2; omega)
    simp only [spenceref04_Cover.l0, ref_bounds_eq, Option.bind_some]
    rw [if_pos (by omega), if_pos hz]
    simp [cov]
  | succ d ih =>
    intro i acc h0 h1 hd ha
    have hw : wrap64 (i + 1) = i + 1 := wrap_id (by omega)
    have h := ih (i + 1) (if l.any (hit n s i) then acc ++ [i] else acc) (by omega) (by omega) (by omega) (by split <;> (try simp) <;> omega)
    have he : (if l.any (hit n s i) then acc ++ [i] else acc) ++ cov l n s d (i + 1) = acc ++ cov l n s (d + 1) i := by
      simp only [cov]; split <;> simp
    rw [he] at h
    have := ref_in l n s acc i (acc ++ cov l n s (d + 1) i) hl (by omega) l.length 0 false (by omega) (by omega) (by omega) (by simpa only [Int.toNat_zero, List.drop_zero, hw, Bool.false_or] using h)
    obtain ⟨K, hK⟩ := this
    refine ⟨K + 2, fun k hk => ?_⟩
    obtain ⟨k, rfl⟩ : ∃ m, k = m + 1 + 1 := ⟨k - 2, by omega⟩
    have hr : CR n s := by
      by_cases hr : CR n s
      · exact hr
      · unfold cnt at hd; rw [if_neg hr] at hd; omega
    have hz : ¬ (bnd i n s).2 = 0 := by
      have := (bnd_pos i n s).1.2 ⟨hr, h0, (lt_cnt hr).1 (by omega)⟩
      omega
    simp only [spenceref04_Cover.l0, ref_bounds_eq, Option.bind_some]
    rw [if_pos (by omega), if_neg hz]
    exact hK (k + 1) (by omega)
theorem ref_cover_ev (l : List S35) (n s : Int) (hl : l.length ≤ 9223372036854775807) : Ev (fun k => spenceref04_Cover.f k l n s) (cov l n s (cnt n s).toNat 0) := by
  have hb := cnt_bd2 n s
  have := ref_cover_loop l n s hl hb (cnt n s).toNat 0 [] (by omega) (by omega) (by omega) (by simp)
  unfold spenceref04_Cover.f
  simpa using this
theorem CutsCovers : spencelaw10_CutsCovers.Pure := by
  intro l n s hlen hok h0 h1
  refine Ev.rounds (g := fun k => spencelaw10_CutsCovers.f k l n s) ?_
  simp only [spencelaw10_CutsCovers.f, awake10, Option.bind_some, if_true]
  by_cases hc : (l.length : Int) > 20
  · simp only [hc, if_true]; exact Ev.now _
  · simp only [hc, if_false]
    have hb := cnt_bd2 n s
    have hlc := cov_length l n s (cnt n s).toNat 0
    refine Ev.bind (cover_ev l n s (by omega)) (Ev.bind (ref_cover_ev l n s (by omega)) (Ev.bind (ints_ev _ _ (by omega)) ?_))
    simp only [decide_true]
    exact Ev.now _
end Go.Proofs.Ytmojlhpkidbklaa.Pure
