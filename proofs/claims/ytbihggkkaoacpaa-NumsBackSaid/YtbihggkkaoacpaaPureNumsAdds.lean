/- The sum of any two numbers, or the error; whether a number is within any bounds: the plain law. -/
import Derived.Test.YtbihggkkaoacpaaNumsPr
import Derived.Test.YtbihggkkaoacpaaPAllx3
namespace Go.Proofs.Ytbihggkkaoacpaa.Pure
open Go.RowKit Go.Proofs.Ytbihggkkaoacpaa.PAll Go.Proofs.YtbihggkkaoacpaaW.PrintWords Go.Proofs.YtbihggkkaoacpaaW.PrintLast Go.Proofs.YtbihggkkaoacpaaW.PrintMore
theorem awake01 : Ev spencelaw01_awake.f true := by
  unfold spencelaw01_awake.f
  refine Ev.bind (parse_ev _ (by decide)) (Ev.bind (parse_ev _ (by decide)) ?_)
  exact Ev.all (fun _ => by decide)
theorem fits_eq (n a b : Int) : nums_Fits.f n a b = some (decide (a ≤ n ∧ n ≤ b)) := by
  unfold nums_Fits.f
  by_cases h : n ≥ a
  · rw [if_pos h]; have : a ≤ n := h
    simp [this]
  · rw [if_neg h]; have : ¬ a ≤ n := h
    simp [this]
def okN (n : Int) : Prop := 0 ≤ n ∧ n ≤ 4611686018427387903
instance (n : Int) : Decidable (okN n) := by unfold okN; infer_instance
theorem add_eq (k : Nat) (a b : Int) : nums_Add.f (k + 1) a b = some (if okN a ∧ okN b then (if a + b > 4611686018427387903 then (0, 9) else (a + b, 0)) else (0, 1)) := by
  unfold nums_Add.f
  simp only [fits_eq, Option.bind_some, nums_Add.j0]
  by_cases ha : okN a
  · rw [if_pos (show decide (0 ≤ a ∧ a ≤ 4611686018427387903) = true from decide_eq_true ha)]
    by_cases hb : okN b
    · have ha' := ha
      have hb' := hb
      obtain ⟨a0, a1⟩ := ha'
      obtain ⟨b0, b1⟩ := hb'
      have e : (!decide (0 ≤ b ∧ b ≤ 4611686018427387903)) = false := by simp; omega
      have hab : okN a ∧ okN b := ⟨ha, hb⟩
      rw [if_neg (by rw [e]; decide), if_pos hab, wrap_id (x := 4611686018427387903 - b) (by omega)]
      by_cases h : a + b > 4611686018427387903
      · rw [if_pos h, if_pos (by omega)]
      · rw [if_neg h, if_neg (by omega), wrap_id (by omega)]
    · have e : (!decide (0 ≤ b ∧ b ≤ 4611686018427387903)) = true := by
        have : ¬ (0 ≤ b ∧ b ≤ 4611686018427387903) := hb
        rw [decide_eq_false this]; rfl
      rw [if_pos e, if_neg (fun h => hb h.2)]
  · have e : ¬ (decide (0 ≤ a ∧ a ≤ 4611686018427387903) = true) := by
      have : ¬ (0 ≤ a ∧ a ≤ 4611686018427387903) := ha
      simpa using this
    rw [if_neg e, if_pos trivial, if_neg (fun h => ha h.1)]
theorem NumsAdds : spencelaw01_NumsAdds.Pure := by
  intro a b n h0 h1 h2
  have w0 := wf_bd h0
  have w1 := wf_bd h1
  refine Ev.rounds (g := fun k => spencelaw01_NumsAdds.f k a b n) ?_
  refine Ev.bind awake01 ?_
  refine ⟨3, fun k hk => ?_⟩
  obtain ⟨k, rfl⟩ : ∃ m, k = m + 1 + 1 + 1 := ⟨k - 3, by omega⟩
  dsimp only
  rw [if_pos rfl]
  simp only [add_eq, fits_eq, Option.bind_some]
  have hx : ∀ y : Int × Int, (if a ≤ n then spencelaw01_NumsAdds.j0 (k + 1 + 1 + 1) a b y.1 y.2 (decide (a ≤ n ∧ n ≤ b) != decide (n ≤ b)) else spencelaw01_NumsAdds.j0 (k + 1 + 1 + 1) a b y.1 y.2 (decide (a ≤ n ∧ n ≤ b) != false)) = spencelaw01_NumsAdds.j0 (k + 1 + 1 + 1) a b y.1 y.2 false := by
    intro y
    by_cases h : a ≤ n
    · rw [if_pos h]; simp [h]
    · rw [if_neg h]; simp [h]
  rw [hx]
  simp only [spencelaw01_NumsAdds.j0]
  rw [if_neg (by decide)]
  by_cases hab : okN a ∧ okN b
  · have hab' := hab
    obtain ⟨⟨a0, a1⟩, b0, b1⟩ := hab'
    have hd : ¬ (decide (b > 4611686018427387903) = true) := by simp; omega
    have u1 : IntKind.u64.wrap a = a := u64_id (by omega)
    have u2 : IntKind.u64.wrap b = b := u64_id (by omega)
    have u3 : IntKind.u64.wrap (a + b) = a + b := u64_id (by omega)
    have hba : okN b ∧ okN a := ⟨hab.2, hab.1⟩
    rw [if_pos hab, if_neg (by omega), if_neg (by omega), if_neg (by omega)]
    simp only [spencelaw01_NumsAdds.j1, u1, u2, u3, add_eq, Option.bind_some]
    rw [if_neg hd]
    by_cases h : a + b > 4611686018427387903
    · simp [h]
    · have h' : ¬ b + a > 4611686018427387903 := by omega
      rw [if_pos hba]
      simp only [h, h', if_false, if_true, u3]
      simp
      omega
  · rw [if_neg hab]
    have hj : ∀ c, c = true → spencelaw01_NumsAdds.j1 (k + 1 + 1) a b 0 1 c = some true := by
      intro c hc; subst hc; simp [spencelaw01_NumsAdds.j1]
    by_cases c1 : a < 0
    · rw [if_pos c1]; exact hj _ rfl
    · rw [if_neg c1]
      by_cases c2 : b < 0
      · rw [if_pos c2]; exact hj _ rfl
      · rw [if_neg c2]
        by_cases c3 : a > 4611686018427387903
        · rw [if_pos c3]; exact hj _ rfl
        · rw [if_neg c3]
          refine hj _ (decide_eq_true ?_)
          unfold okN at hab
          omega
end Go.Proofs.Ytbihggkkaoacpaa.Pure
