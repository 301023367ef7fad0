/- Decimal digits: plain lemmas (no Go). -/
import Derived.Test.YtahoibanpplhbaaPb
import Derived.Laws.BytesArg
namespace Go.Proofs.Ytahoibanpplhbaa.Pure
open Go.RowKit Go.Proofs.YtahoibanpplhbaaW.PrintWords
/-- the number of digits (bytes as numbers), from n on -/
def fval (n : Int) (l : List Int) : Int := l.foldl (fun n b => 10 * n + (b - 48)) n
def isDig (b : Int) : Bool := decide (48 ≤ b) && decide (b ≤ 57)
theorem isDig_iff (b : Int) : isDig b = true ↔ 48 ≤ b ∧ b ≤ 57 := by simp [isDig]
theorem fval_cons (n b : Int) (l : List Int) : fval n (b :: l) = fval (10 * n + (b - 48)) l := rfl
theorem fval_snoc (n b : Int) (l : List Int) : fval n (l ++ [b]) = 10 * fval n l + (b - 48) := by simp [fval]
theorem fval_ge (l : List Int) : ∀ n : Int, 0 ≤ n → l.all isDig = true → n ≤ fval n l := by
  induction l with
  | nil => intro n _ _; exact Int.le_refl _
  | cons b l ih =>
    intro n hn h
    simp only [List.all_cons, Bool.and_eq_true, isDig_iff] at h
    have := ih (10 * n + (b - 48)) (by omega) h.2
    rw [fval_cons]
    omega
theorem fval_mono (l : List Int) : ∀ n m : Int, n ≤ m → fval n l ≤ fval m l := by
  induction l with
  | nil => intro n m h; exact h
  | cons b l ih => intro n m h; rw [fval_cons, fval_cons]; exact ih _ _ (by omega)
theorem fval_zeros (k : Nat) (l : List Int) : fval 0 (List.replicate k 48 ++ l) = fval 0 l := by
  induction k with
  | zero => rfl
  | succ k ih => rw [List.replicate_succ, List.cons_append, fval_cons]; simpa using ih
/-- digits of a number, the last one first -/
def rdig (u : Nat) : List Int := if u < 10 then [48 + (u : Int)] else (48 + ((u % 10 : Nat) : Int)) :: rdig (u / 10)
decreasing_by omega
def dig (u : Nat) : List Int := (rdig u).reverse
theorem dig_small {u : Nat} (h : u < 10) : dig u = [48 + (u : Int)] := by unfold dig; rw [rdig, if_pos h]; rfl
theorem dig_big {u : Nat} (h : ¬ u < 10) : dig u = dig (u / 10) ++ [48 + ((u % 10 : Nat) : Int)] := by
  unfold dig; rw [rdig, if_neg h, List.reverse_cons]
theorem dig_all (u : Nat) : (dig u).all isDig = true ∧ dig u ≠ [] ∧ fval 0 (dig u) = u := by
  induction u using Nat.strongRecOn with
  | _ u ih =>
    by_cases h : u < 10
    · rw [dig_small h]
      refine ⟨by simp [isDig_iff]; omega, by simp, ?_⟩
      simp only [fval, List.foldl_cons, List.foldl_nil]; omega
    · have := ih (u / 10) (by omega)
      rw [dig_big h]
      refine ⟨by rw [List.all_append, this.1]; simp [isDig_iff]; omega, by simp, ?_⟩
      rw [fval_snoc, this.2.2]
      omega
theorem dig_length (u : Nat) : ∀ k : Nat, u < 10 ^ (k + 1) → (dig u).length ≤ k + 1 := by
  induction u using Nat.strongRecOn with
  | _ u ih =>
    intro k hk
    by_cases h : u < 10
    · rw [dig_small h]; simp
    · rw [dig_big h, List.length_append]
      cases k with
      | zero => simp at hk; omega
      | succ k =>
        have := ih (u / 10) (by omega) k (by rw [Nat.pow_succ] at hk; omega)
        simp only [List.length_singleton]
        omega
/-- digits without noughts ahead are the number's own -/
theorem canon (n : Nat) : ∀ l : List Int, l.length = n → l ≠ [] → l.all isDig = true → (l.head? ≠ some 48 ∨ l.length = 1) → l = dig (fval 0 l).toNat ∧ 0 ≤ fval 0 l ∧ (l.head? ≠ some 48 → 0 < fval 0 l) := by
  induction n with
  | zero => intro l hl h0; exact absurd (List.eq_nil_of_length_eq_zero hl) h0
  | succ n ih =>
    intro l hl h0 hd hh
    obtain ⟨m, b, rfl⟩ : ∃ m b, l = m ++ [b] := ⟨l.dropLast, l.getLast h0, (List.dropLast_concat_getLast h0).symm⟩
    rw [List.all_append, Bool.and_eq_true] at hd
    have hb : 48 ≤ b ∧ b ≤ 57 := by simpa [isDig_iff] using hd.2
    have hml : m.length = n := by simp at hl; omega
    rw [fval_snoc]
    cases m with
    | nil =>
      have hx : fval 0 [] = 0 := rfl
      rw [hx]
      refine ⟨?_, by omega, fun h => by simp at h; omega⟩
      rw [dig_small (by omega)]
      simp; omega
    | cons c m =>
      have hc : (c :: m).head? ≠ some 48 := by
        rcases hh with h | h
        · simpa using h
        · simp at h
      obtain ⟨e1, e2, e3⟩ := ih (c :: m) hml (by simp) hd.1 (.inl hc)
      have e4 := e3 hc
      refine ⟨?_, by omega, fun _ => by omega⟩
      have h10 : ¬ (10 * fval 0 (c :: m) + (b - 48)).toNat < 10 := by omega
      rw [dig_big h10]
      have a1 : (10 * fval 0 (c :: m) + (b - 48)).toNat / 10 = (fval 0 (c :: m)).toNat := by omega
      have a2 : (((10 * fval 0 (c :: m) + (b - 48)).toNat % 10 : Nat) : Int) = b - 48 := by omega
      rw [a1, a2, ← e1]
      congr 2
      omega
/-- any digits: the number's own, or more of them, with a nought ahead -/
theorem uniq (l : List Int) : l ≠ [] → l.all isDig = true → l = dig (fval 0 l).toNat ∨ ((dig (fval 0 l).toNat).length < l.length ∧ l.head? = some 48) := by
  induction l with
  | nil => intro h; exact absurd rfl h
  | cons b l ih =>
    intro _ hd
    by_cases hb : b = 48
    · subst hb
      cases l with
      | nil => exact .inl (canon 1 [48] rfl (by simp) hd (.inr rfl)).1
      | cons c l =>
        right
        have hd' : (c :: l).all isDig = true := by simp only [List.all_cons, Bool.and_eq_true] at hd ⊢; exact hd.2
        have hv : fval 0 (48 :: c :: l) = fval 0 (c :: l) := by rw [fval_cons]; rfl
        rw [hv]
        refine ⟨?_, rfl⟩
        rcases ih (by simp) hd' with h | h
        · rw [← h]; simp
        · have := h.1; simp only [List.length_cons] at this ⊢; omega
    · exact .inl (canon _ (b :: l) rfl (by simp) hd (.inl (by simpa using hb))).1
/-- a bound by how many digits there are -/
theorem fval_lt (l : List Int) : ∀ n : Int, 0 ≤ n → l.all isDig = true → fval n l < (n + 1) * (10 : Int) ^ l.length := by
  induction l with
  | nil => intro n _ _; simp [fval]; omega
  | cons b l ih =>
    intro n hn h
    simp only [List.all_cons, Bool.and_eq_true, isDig_iff] at h
    have h1 := ih (10 * n + (b - 48)) (by omega) h.2
    rw [fval_cons, List.length_cons, Int.pow_succ]
    have h2 : (10 * n + (b - 48) + 1) * (10 : Int) ^ l.length ≤ (10 * (n + 1)) * (10 : Int) ^ l.length := Int.mul_le_mul_of_nonneg_right (by omega) (Int.le_of_lt (Int.pow_pos (by omega)))
    have h3 : (10 * (n + 1)) * (10 : Int) ^ l.length = (n + 1) * ((10 : Int) ^ l.length * 10) := by
      rw [Int.mul_comm 10 (n + 1), Int.mul_assoc, Int.mul_comm (10 : Int)]
    omega
theorem fval_lo (l : List Int) : ∀ n : Int, 0 ≤ n → l.all isDig = true → n * (10 : Int) ^ l.length ≤ fval n l := by
  induction l with
  | nil => intro n _ _; simp [fval]
  | cons b l ih =>
    intro n hn h
    simp only [List.all_cons, Bool.and_eq_true, isDig_iff] at h
    have h1 := ih (10 * n + (b - 48)) (by omega) h.2
    rw [fval_cons, List.length_cons, Int.pow_succ]
    have h2 : (10 * n) * (10 : Int) ^ l.length ≤ (10 * n + (b - 48)) * (10 : Int) ^ l.length := Int.mul_le_mul_of_nonneg_right (by omega) (Int.le_of_lt (Int.pow_pos (by omega)))
    have h3 : (10 * n) * (10 : Int) ^ l.length = n * ((10 : Int) ^ l.length * 10) := by
      rw [Int.mul_comm 10 n, Int.mul_assoc, Int.mul_comm (10 : Int)]
    omega
/-- less by bytes: less as numbers -/
def lexlt : List Int → List Int → Bool
  | [], [] => false
  | [], _ :: _ => true
  | _ :: _, [] => false
  | a :: x, b :: y => decide (a < b) || (decide (a = b) && lexlt x y)
theorem lex_fval : ∀ (x y : List Int) (n : Int), 0 ≤ n → x.length = y.length → x.all isDig = true → y.all isDig = true → (lexlt x y = true ↔ fval n x < fval n y)
  | [], [], n, _, _, _, _ => by simp [lexlt, fval]
  | a :: x, b :: y, n, hn, hl, hx, hy => by
    simp only [List.all_cons, Bool.and_eq_true, isDig_iff] at hx hy
    have hl' : x.length = y.length := by simpa using hl
    simp only [lexlt, Bool.or_eq_true, Bool.and_eq_true, decide_eq_true_eq, fval_cons]
    rcases Int.lt_trichotomy a b with h | h | h
    · have h1 := fval_lt x (10 * n + (a - 48)) (by omega) hx.2
      have h2 := fval_lo y (10 * n + (b - 48)) (by omega) hy.2
      rw [hl'] at h1
      have h3 : (10 * n + (a - 48) + 1) * (10 : Int) ^ y.length ≤ (10 * n + (b - 48)) * (10 : Int) ^ y.length := Int.mul_le_mul_of_nonneg_right (by omega) (Int.le_of_lt (Int.pow_pos (by omega)))
      exact ⟨fun _ => by omega, fun _ => .inl h⟩
    · subst h
      have := lex_fval x y (10 * n + (a - 48)) (by omega) hl' hx.2 hy.2
      simp [this]
    · have h1 := fval_lt y (10 * n + (b - 48)) (by omega) hy.2
      have h2 := fval_lo x (10 * n + (a - 48)) (by omega) hx.2
      rw [hl'] at h2
      have h3 : (10 * n + (b - 48) + 1) * (10 : Int) ^ y.length ≤ (10 * n + (a - 48)) * (10 : Int) ^ y.length := Int.mul_le_mul_of_nonneg_right (by omega) (Int.le_of_lt (Int.pow_pos (by omega)))
      exact ⟨fun h' => by omega, fun h' => by omega⟩
  | [], _ :: _, _, _, hl, _, _ => by simp at hl
  | _ :: _, [], _, _, hl, _, _ => by simp at hl
end Go.Proofs.Ytahoibanpplhbaa.Pure
