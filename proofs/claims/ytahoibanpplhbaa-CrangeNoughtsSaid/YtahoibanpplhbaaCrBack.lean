/- A text of a Content-Range is read as what it tells: plain lemmas. -/
import Derived.Test.YtahoibanpplhbaaCrPrint
namespace Go.Proofs.Ytahoibanpplhbaa.Pure
open Go.RowKit Go.Proofs.Ytahoibanpplhbaa.Xw Go.Proofs.Ytahoibanpplhbaa.PAll Go.Proofs.YtahoibanpplhbaaW.PrintWords Go.Proofs.YtahoibanpplhbaaW.PrintLast Go.Proofs.YtahoibanpplhbaaW.PrintMore
theorem parse_digs (n : Nat) (h : (n : Int) ≤ maxN) (k : Nat) : parse (List.replicate k 48 ++ dig n) = ((n : Int), 0) := by
  have hd := dig_all n
  unfold parse
  have h1 : ¬ (List.replicate k 48 ++ dig n = [] ∨ (List.replicate k 48 ++ dig n).all isDig = false) := by
    rintro (h | h)
    · exact hd.2.1 (List.append_eq_nil_iff.1 h).2
    · rw [List.all_append, hd.1] at h
      have : (List.replicate k (48 : Int)).all isDig = true := by
        rw [List.all_eq_true]; intro b hb; rw [List.eq_of_mem_replicate hb]; decide
      rw [this] at h; cases h
  rw [if_neg h1, fval_zeros, hd.2.2, if_neg (by omega)]
theorem dig_no (n : Nat) (b : Int) (h : isDig b = false) : b ∉ dig n := by
  intro hm
  have := List.all_eq_true.1 (dig_all n).1 b hm
  rw [h] at this; cases this
theorem zeros_no (k n : Nat) (b : Int) (h : isDig b = false) : b ∉ List.replicate k 48 ++ dig n := by
  intro hm
  rcases List.mem_append.1 hm with hm | hm
  · rw [List.eq_of_mem_replicate hm] at h; exact absurd h (by decide)
  · exact dig_no n b h hm
def totT (tot : Int) : List Int := if tot = -1 then [42] else dig tot.toNat
theorem dig_ne_star (n : Nat) : dig n ≠ [42] := by
  intro h; have := dig_no n 42 (by decide); rw [h] at this; simp at this
theorem zeros_ne_star (k n : Nat) (l : List Int) : List.replicate k 48 ++ dig n ++ 45 :: l ≠ [42] := by
  intro h
  have h1 : (45 : Int) ∈ List.replicate k 48 ++ dig n ++ 45 :: l := List.mem_append.2 (.inr List.mem_cons_self)
  rw [h] at h1; simp at h1
theorem contT_totT (tot : Int) (ht : tot = -1 ∨ (0 ≤ tot ∧ tot ≤ 4611686018427387903)) (kn : Bool) (f t : Int) (hr : rightC kn f t tot = true) : contT (totT tot) 0 kn f t = (kn, f, t, tot, 0) := by
  unfold contT totT
  by_cases h : tot = -1
  · subst h
    rw [if_pos rfl, if_pos rfl, contE, if_pos rfl, if_pos hr]
  · rw [if_neg h, if_neg (dig_ne_star _)]
    have hp := parse_digs tot.toNat (by unfold maxN; omega) 0
    rw [List.replicate_zero, List.nil_append] at hp
    have e : ((tot.toNat : Nat) : Int) = tot := by omega
    rw [hp, e]
    have hw : worse 0 0 = 0 := rfl
    dsimp only
    rw [hw, contE, if_pos rfl, if_pos hr]
theorem cont_known (u : List Int) (hu : u.map lowI = [98, 121, 116, 101, 115]) (h32 : (32 : Int) ∉ u) (k : Nat) (f t tot : Int) (hr : rightC true f t tot = true) :
    contOf (u ++ 32 :: (List.replicate k 48 ++ dig f.toNat ++ 45 :: dig (t - 1).toNat ++ 47 :: totT tot)) = (true, f, t, tot, 0) := by
  have hat := rightC_at hr
  have htot := rightC_tot hr
  have h47 : (47 : Int) ∉ List.replicate k 48 ++ dig f.toNat ++ 45 :: dig (t - 1).toNat := by
    intro hm
    rcases List.mem_append.1 hm with hm | hm
    · exact zeros_no k _ 47 (by decide) hm
    · rcases List.mem_cons.1 hm with hm | hm
      · exact absurd hm (by decide)
      · exact dig_no _ 47 (by decide) hm
  unfold contOf
  rw [cutOf_mk 32 u _ h32]
  dsimp only
  rw [cutOf_mk 47 _ _ h47]
  dsimp only
  rw [if_pos rfl, if_pos rfl, if_pos hu]
  unfold contA
  rw [if_neg (zeros_ne_star _ _ _), cutOf_mk 45 _ _ (zeros_no k _ 45 (by decide))]
  dsimp only
  have p1 := parse_digs f.toNat (by unfold maxN; omega) k
  have p2 := parse_digs (t - 1).toNat (by unfold maxN; omega) 0
  rw [List.replicate_zero, List.nil_append] at p2
  rw [if_pos rfl, p1, p2]
  dsimp only
  have hw : worse (worse 0 0) 0 = 0 := rfl
  have e1 : ((f.toNat : Nat) : Int) = f := by omega
  have e2 : wrap64 ((((t - 1).toNat : Nat) : Int) + 1) = t := by rw [wrap_id (by omega)]; omega
  rw [hw, e1, e2]
  exact contT_totT tot htot true f t hr
theorem cont_unknown (u : List Int) (hu : u.map lowI = [98, 121, 116, 101, 115]) (h32 : (32 : Int) ∉ u) (tot : Int) (hr : rightC false 0 0 tot = true) :
    contOf (u ++ 32 :: ([42] ++ 47 :: totT tot)) = (false, 0, 0, tot, 0) := by
  unfold contOf
  rw [cutOf_mk 32 u _ h32]
  dsimp only
  rw [cutOf_mk 47 [42] _ (by decide)]
  dsimp only
  rw [if_pos rfl, if_pos rfl, if_pos hu]
  unfold contA
  rw [if_pos rfl]
  exact contT_totT tot (rightC_tot hr) false 0 0 hr
theorem totT_text (tot : Int) (h : tot = -1 ∨ (0 ≤ tot ∧ tot ≤ 4611686018427387903)) : (if tot = -1 then [47, 42] else [47] ++ ptext tot) = 47 :: totT tot := by
  unfold totT
  by_cases e : tot = -1
  · rw [if_pos e, if_pos e]
  · rw [if_neg e, if_neg e, ptext_dig tot (by omega)]; rfl
theorem crPrint_known (f t tot : Int) (hr : rightC true f t tot = true) : crPrint true f t tot = [98, 121, 116, 101, 115] ++ 32 :: (List.replicate 0 48 ++ dig f.toNat ++ 45 :: dig (t - 1).toNat ++ 47 :: totT tot) := by
  have hat := rightC_at hr
  unfold crPrint
  rw [if_pos hr, totT_text tot (rightC_tot hr), if_pos rfl, ptext_dig f (by omega), ptext_dig (t - 1) (by omega)]
  simp [unitT]
theorem crPrint_unknown (f t tot : Int) (hr : rightC false f t tot = true) : f = 0 ∧ t = 0 ∧ crPrint false f t tot = [98, 121, 116, 101, 115] ++ 32 :: ([42] ++ 47 :: totT tot) := by
  have h0 : f = 0 ∧ t = 0 := by
    have h := hr
    unfold rightC at h
    rw [Bool.and_eq_true, if_neg (by decide), Bool.and_eq_true] at h
    exact of_decide_eq_true h.2.1
  refine ⟨h0.1, h0.2, ?_⟩
  unfold crPrint
  rw [if_pos hr, totT_text tot (rightC_tot hr), if_neg (by decide)]
  simp [unitT]
theorem totT_isB (tot : Int) : ∀ b ∈ totT tot, isB b := by
  intro b hb
  unfold totT at hb
  split at hb
  · simp at hb; unfold isB; omega
  · exact dig_isB _ b hb
theorem zeros_isB (k n : Nat) : ∀ b ∈ List.replicate k (48 : Int) ++ dig n, isB b := by
  intro b hb
  rcases List.mem_append.1 hb with h | h
  · rw [List.eq_of_mem_replicate h]; unfold isB; omega
  · exact dig_isB n b h
theorem known_isB (u : List Int) (hu : ∀ b ∈ u, isB b) (k : Nat) (f t tot : Int) : ∀ b ∈ u ++ 32 :: (List.replicate k 48 ++ dig f.toNat ++ 45 :: dig (t - 1).toNat ++ 47 :: totT tot), isB b := by
  intro b hb
  rcases List.mem_append.1 hb with h | h
  · exact hu b h
  · rcases List.mem_cons.1 h with h | h
    · unfold isB; omega
    · rcases List.mem_append.1 h with h | h
      · rcases List.mem_append.1 h with h | h
        · exact zeros_isB k _ b h
        · rcases List.mem_cons.1 h with h | h
          · unfold isB; omega
          · exact dig_isB _ b h
      · rcases List.mem_cons.1 h with h | h
        · unfold isB; omega
        · exact totT_isB tot b h
theorem totT_len (tot : Int) (h : tot = -1 ∨ (0 ≤ tot ∧ tot ≤ 4611686018427387903)) : (totT tot).length ≤ 20 := by
  unfold totT
  split
  · simp
  · exact dig_len _ (by omega)
end Go.Proofs.Ytahoibanpplhbaa.Pure
