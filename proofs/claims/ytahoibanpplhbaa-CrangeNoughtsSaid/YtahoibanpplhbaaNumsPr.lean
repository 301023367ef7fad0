/- Numbers as texts: both functions that print one come to the same text. -/
import Derived.Test.YtahoibanpplhbaaRev
import Derived.Test.YtahoibanpplhbaaPAllx5
import Derived.Test.YtahoibanpplhbaaPAllx12
namespace Go.Proofs.Ytahoibanpplhbaa.Pure
open Go.RowKit Go.Proofs.Ytahoibanpplhbaa.PAll Go.Proofs.YtahoibanpplhbaaW.PrintWords Go.Proofs.YtahoibanpplhbaaW.PrintLast Go.Proofs.YtahoibanpplhbaaW.PrintMore
theorem u64_mod (x : Int) : IntKind.u64.wrap x = x % 18446744073709551616 := by
  unfold IntKind.wrap; simp [IntKind.signed, IntKind.bits]
theorem u64_id {x : Int} (h : 0 ≤ x ∧ x < 18446744073709551616) : IntKind.u64.wrap x = x := by rw [u64_mod]; omega
/-- a number's text -/
def ptext (n : Int) : List Int := if n < 0 then 45 :: dig n.natAbs else dig n.toNat
theorem dig_isB (u : Nat) : ∀ b ∈ dig u, isB b := by
  intro b hb
  have := List.all_eq_true.1 (dig_all u).1 b hb
  rw [isDig_iff] at this
  unfold isB; omega
theorem ptext_isB (n : Int) : ∀ b ∈ ptext n, isB b := by
  intro b hb
  unfold ptext at hb
  split at hb
  · rcases List.mem_cons.1 hb with rfl | h
    · unfold isB; omega
    · exact dig_isB _ b h
  · exact dig_isB _ b hb
theorem dig_len (u : Nat) (h : u < 18446744073709551616) : (dig u).length ≤ 20 := dig_length u 19 (by omega)
theorem rdig_len (u : Nat) (h : u < 18446744073709551616) : (rdig u).length ≤ 20 := by have := dig_len u h; unfold dig at this; simpa using this
theorem pdigit (u : Nat) : (IntKind.u64.wrap (48 + Int.tmod u 10)) % 256 = 48 + ((u % 10 : Nat) : Int) := by
  have h : Int.tmod (u : Int) 10 = ((u % 10 : Nat) : Int) := by rw [Int.tmod_eq_emod_of_nonneg (by omega)]; omega
  rw [h, u64_id (by omega)]; omega
theorem pdiv (u : Nat) (h : u < 18446744073709551616) : IntKind.u64.wrap (Int.tdiv u 10) = ((u / 10 : Nat) : Int) := by
  have e : Int.tdiv (u : Int) 10 = ((u / 10 : Nat) : Int) := by rw [Int.tdiv_eq_ediv_of_nonneg (by omega)]; omega
  rw [e, u64_id (by omega)]
theorem print_loop (pre : List Int) (hp : pre.length ≤ 10) (u : Nat) : u < 18446744073709551616 → ∀ acc : List Int, acc.length ≤ 40 → (acc ++ rdig u).length ≤ 40 →
    Ev (fun k => nums_Print.l0 k (u : Int) (strOfNums pre) acc) (strOfNums (pre ++ (acc ++ rdig u).reverse)) := by
  induction u using Nat.strongRecOn with
  | _ u ih =>
    intro hu acc ha hb
    have e : pre.length + (acc ++ rdig u).length ≤ 50 := by omega
    by_cases h : u < 10
    · have hr : rdig u = [48 + ((u % 10 : Nat) : Int)] := by rw [rdig, if_pos h]; congr 2; omega
      obtain ⟨K, hK⟩ := reverse_ev (acc ++ [48 + ((u % 10 : Nat) : Int)]) (by simp; omega)
      refine ⟨K + 1, fun k hk => ?_⟩
      obtain ⟨k, rfl⟩ : ∃ j, k = j + 1 := ⟨k - 1, by omega⟩
      have hk2 := hK k (by omega)
      dsimp only at hk2
      simp only [nums_Print.l0, pdigit, pdiv u hu, Option.bind_some]
      rw [if_pos (by omega), if_pos (by omega), hk2]
      simp only [Option.bind_some, size_str]
      rw [if_pos (by simp; omega), str_append, hr]
    · have hr : rdig u = (48 + ((u % 10 : Nat) : Int)) :: rdig (u / 10) := by rw [rdig, if_neg h]
      rw [hr] at hb ⊢
      obtain ⟨K, hK⟩ := ih (u / 10) (by omega) (by omega) (acc ++ [48 + ((u % 10 : Nat) : Int)]) (by simp at hb ⊢; omega) (by simpa using hb)
      refine ⟨K + 1, fun k hk => ?_⟩
      obtain ⟨k, rfl⟩ : ∃ j, k = j + 1 := ⟨k - 1, by omega⟩
      have hk2 := hK k (by omega)
      dsimp only at hk2
      simp only [nums_Print.l0, pdigit, pdiv u hu, Option.bind_some]
      rw [if_pos (by omega), if_neg (by omega), hk2]
      simp
theorem print_ev (n : Int) (h : -9223372036854775808 ≤ n ∧ n ≤ 9223372036854775807) : Ev (fun k => nums_Print.f k n) (strOfNums (ptext n)) := by
  unfold ptext
  by_cases h0 : n < 0
  · have e1 : IntKind.u64.wrap n = n + 18446744073709551616 := by rw [u64_mod]; omega
    have e2 : IntKind.u64.wrap (-(n + 18446744073709551616)) = (n.natAbs : Int) := by rw [u64_mod]; omega
    have hr := rdig_len n.natAbs (by omega)
    obtain ⟨K, hK⟩ := print_loop [45] (by simp) n.natAbs (by omega) [] (by simp) (by simp; omega)
    refine ⟨K + 1, fun k hk => ?_⟩
    obtain ⟨k, rfl⟩ : ∃ j, k = j + 1 := ⟨k - 1, by omega⟩
    have hk2 := hK k (by omega)
    dsimp only at hk2
    simp only [nums_Print.f, nums_Print.j0, e1, e2]
    rw [if_pos h0, if_pos h0]
    exact hk2
  · have e1 : IntKind.u64.wrap n = (n.toNat : Int) := by rw [u64_mod]; omega
    have hr := rdig_len n.toNat (by omega)
    obtain ⟨K, hK⟩ := print_loop [] (by simp) n.toNat (by omega) [] (by simp) (by simp; omega)
    refine ⟨K + 1, fun k hk => ?_⟩
    obtain ⟨k, rfl⟩ : ∃ j, k = j + 1 := ⟨k - 1, by omega⟩
    have hk2 := hK k (by omega)
    dsimp only at hk2
    simp only [nums_Print.f, nums_Print.j0, e1]
    rw [if_neg h0, if_neg h0]
    exact hk2
theorem digits_loop (u : Nat) : u < 18446744073709551616 → ∀ acc : List Int, (acc ++ rdig u).length ≤ 40 →
    Ev (fun k => spenceref01_digits.l0 k (u : Int) (strOfNums ((48 + ((u % 10 : Nat) : Int)) :: acc))) (strOfNums (dig u ++ acc)) := by
  induction u using Nat.strongRecOn with
  | _ u ih =>
    intro hu acc hb
    by_cases h : u < 10
    · refine Ev.pos (fun k => ?_)
      simp only [spenceref01_digits.l0]
      rw [if_neg (by omega), dig_small h]
      have : ((u % 10 : Nat) : Int) = u := by omega
      rw [this]; rfl
    · have hr : rdig u = (48 + ((u % 10 : Nat) : Int)) :: rdig (u / 10) := by rw [rdig, if_neg h]
      rw [hr] at hb
      obtain ⟨K, hK⟩ := ih (u / 10) (by omega) (by omega) ((48 + ((u % 10 : Nat) : Int)) :: acc) (by simp at hb ⊢; omega)
      refine ⟨K + 1, fun k hk => ?_⟩
      obtain ⟨k, rfl⟩ : ∃ j, k = j + 1 := ⟨k - 1, by omega⟩
      have hk2 := hK k (by omega)
      dsimp only at hk2
      simp only [spenceref01_digits.l0, pdiv u hu, pdigit, Option.bind_some, size_str]
      rw [if_pos (by omega), if_pos (by simp at hb ⊢; omega), str_append]
      rw [dig_big h, List.append_assoc]
      exact hk2
theorem digits_ev (u : Nat) (hu : u < 18446744073709551616) : Ev (fun k => spenceref01_digits.f k (u : Int)) (strOfNums (dig u)) := by
  have hr := rdig_len u hu
  have := digits_loop u hu [] (by simp; omega)
  simp only [spenceref01_digits.f, pdigit]
  simpa using this
theorem ref_print_ev (n : Int) (h : -9223372036854775808 ≤ n ∧ n ≤ 9223372036854775807) : Ev (fun k => spenceref01_Print.f k n) (strOfNums (ptext n)) := by
  unfold ptext
  by_cases h0 : n < 0
  · have e0 : wrap64 (-(wrap64 (n + 1))) = -(n + 1) := by rw [wrap_id (x := n + 1) (by omega), wrap_id (by omega)]
    have e1 : IntKind.u64.wrap (IntKind.u64.wrap (-(n + 1)) + 1) = (n.natAbs : Int) := by rw [u64_mod, u64_mod]; omega
    have hl := dig_len n.natAbs (by omega)
    obtain ⟨K, hK⟩ := digits_ev n.natAbs (by omega)
    refine ⟨K, fun k hk => ?_⟩
    have hk2 := hK k hk
    dsimp only at hk2
    simp only [spenceref01_Print.f, e0, e1]
    rw [if_pos h0, if_pos h0, hk2]
    simp only [Option.bind_some, size_str]
    rw [if_pos (by omega)]
    have e : (⟨#[45]⟩ : ByteArray) = strOfNums [45] := by decide
    rw [e, str_append]; rfl
  · have e1 : IntKind.u64.wrap n = (n.toNat : Int) := by rw [u64_mod]; omega
    obtain ⟨K, hK⟩ := digits_ev n.toNat (by omega)
    refine ⟨K, fun k hk => ?_⟩
    have hk2 := hK k hk
    dsimp only at hk2
    simp only [spenceref01_Print.f, e1]
    rw [if_neg h0, if_neg h0, hk2]
    rfl
end Go.Proofs.Ytahoibanpplhbaa.Pure
