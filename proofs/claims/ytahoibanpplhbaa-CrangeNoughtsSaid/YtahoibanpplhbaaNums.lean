/- Numbers as texts: what the functions of package nums and of its reference come to. -/
import Derived.Test.YtahoibanpplhbaaRev
import Derived.Test.YtahoibanpplhbaaPAllx7
namespace Go.Proofs.Ytahoibanpplhbaa.Pure
open Go.RowKit Go.Proofs.Ytahoibanpplhbaa.PAll Go.Proofs.YtahoibanpplhbaaW.PrintWords Go.Proofs.YtahoibanpplhbaaW.PrintLast Go.Proofs.YtahoibanpplhbaaW.PrintMore
def maxN : Int := 4611686018427387903
/-- what a text's bytes say -/
def parse (l : List Int) : Int × Int := if l = [] ∨ l.all isDig = false then (0, 3) else if fval 0 l > maxN then (0, 9) else (fval 0 l, 0)
theorem digit_eq (b : Int) (h : 0 ≤ b ∧ b ≤ 255) : nums_digit.f b = some (if isDig b then b - 48 else 0, isDig b) := by
  unfold nums_digit.f isDig
  by_cases h1 : b < 48
  · rw [if_pos h1]; have : ¬ 48 ≤ b := by omega
    simp [this]
  · rw [if_neg h1]
    by_cases h2 : b > 57
    · rw [if_pos h2]; have : ¬ b ≤ 57 := by omega
      simp [this]
    · rw [if_neg h2]
      have h3 : 48 ≤ b := by omega
      have h4 : b ≤ 57 := by omega
      simp only [h3, h4, decide_true, Bool.and_self, if_true]
      have : (b - 48) % 256 = b - 48 := by omega
      rw [this]
/-- the loop's answer from a place on -/
def run (n : Int) (over : Bool) (l : List Int) : Int × Int := if l.all isDig = false then (0, 3) else if over = true ∨ fval n l > maxN then (0, 9) else (fval n l, 0)
theorem parse_loop (s : ByteArray) (hs : s.size ≤ 9223372036854775806) (hs0 : 0 < s.size) (d : Nat) : ∀ (i n : Int) (over : Bool), 0 ≤ i → i ≤ s.size → (s.size : Int) - i = d → 0 ≤ n → n ≤ maxN →
    Ev (fun k => nums_Parse.l0 k s n over (s.size : Int) i) (run n over ((bytesOf s).drop i.toNat)) := by
  induction d with
  | zero =>
    intro i n over h0 h1 hd hn hn2
    refine Ev.pos (fun k => ?_)
    have he : ¬ s.toList = ([] : List UInt8) := by rw [toList_nil, bytesOf_eq_nil]; omega
    simp only [nums_Parse.l0]
    rw [if_neg (by omega), if_neg he, List.drop_of_length_le (by rw [bytesOf_length]; omega)]
    have hf : fval n [] = n := rfl
    have hx : ¬ n > maxN := by omega
    cases over <;> simp [run, hf, hx]
  | succ d ih =>
    intro i n over h0 h1 hd hn hn2
    have hi : i < s.size := by omega
    have hb := bt_range s i
    have hw : wrap64 (i + 1) = i + 1 := wrap_id (by omega)
    rw [bytes_drop s i h0 hi]
    by_cases hdg : isDig (bt s i) = true
    · have hd2 := (isDig_iff _).1 hdg
      cases over with
      | true =>
        obtain ⟨K, hK⟩ := ih (i + 1) n true (by omega) (by omega) (by omega) hn hn2
        refine ⟨K + 1, fun k hk => ?_⟩
        obtain ⟨k, rfl⟩ : ∃ j, k = j + 1 := ⟨k - 1, by omega⟩
        have h := hK k (by omega)
        dsimp only at h
        simp only [nums_Parse.l0, digit_eq _ hb, Option.bind_some, hw]
        rw [if_pos hi, if_pos h0, if_pos hi, if_pos hdg, if_pos trivial, h]
        simp [run, hdg]
      | false =>
        have e1 : wrap64 (4611686018427387903 - (bt s i - 48)) = 4611686018427387903 - (bt s i - 48) := wrap_id (by omega)
        have e2 : Int.tdiv (4611686018427387903 - (bt s i - 48)) 10 = (4611686018427387903 - (bt s i - 48)) / 10 := Int.tdiv_eq_ediv_of_nonneg (by omega)
        have e3 : wrap64 ((4611686018427387903 - (bt s i - 48)) / 10) = (4611686018427387903 - (bt s i - 48)) / 10 := wrap_id (by omega)
        by_cases hov : n > (4611686018427387903 - (bt s i - 48)) / 10
        · obtain ⟨K, hK⟩ := ih (i + 1) n true (by omega) (by omega) (by omega) hn hn2
          refine ⟨K + 1, fun k hk => ?_⟩
          obtain ⟨k, rfl⟩ : ∃ j, k = j + 1 := ⟨k - 1, by omega⟩
          have h := hK k (by omega)
          dsimp only at h
          simp only [nums_Parse.l0, digit_eq _ hb, Option.bind_some, hw, hdg, if_true, e1, e2, e3]
          rw [if_pos hi, if_pos h0, if_pos hi, if_neg (by decide), if_pos hov, h]
          by_cases hall : ((bytesOf s).drop (i + 1).toNat).all isDig = true
          · have hge := fval_ge ((bytesOf s).drop (i + 1).toNat) (10 * n + (bt s i - 48)) (by omega) hall
            have hgt : fval n (bt s i :: (bytesOf s).drop (i + 1).toNat) > maxN := by rw [fval_cons]; unfold maxN; omega
            simp [run, hdg, hgt]
          · simp [run, hdg, hall]
        · have hmx : 10 * n + (bt s i - 48) ≤ maxN := by unfold maxN; omega
          have hmx' : 10 * n + (bt s i - 48) ≤ 4611686018427387903 := hmx
          have e4 : wrap64 (10 * n) = 10 * n := wrap_id (by omega)
          have e5 : wrap64 (10 * n + (bt s i - 48)) = 10 * n + (bt s i - 48) := wrap_id (by omega)
          obtain ⟨K, hK⟩ := ih (i + 1) (10 * n + (bt s i - 48)) false (by omega) (by omega) (by omega) (by omega) hmx
          refine ⟨K + 1, fun k hk => ?_⟩
          obtain ⟨k, rfl⟩ : ∃ j, k = j + 1 := ⟨k - 1, by omega⟩
          have h := hK k (by omega)
          dsimp only at h
          simp only [nums_Parse.l0, digit_eq _ hb, Option.bind_some, hw, hdg, if_true, e1, e2, e3, e4, e5]
          rw [if_pos hi, if_pos h0, if_pos hi, if_neg (by decide), if_neg hov, h]
          simp [run, hdg, fval_cons]
    · refine Ev.pos (fun k => ?_)
      have hf : isDig (bt s i) = false := by simpa using hdg
      simp only [nums_Parse.l0, digit_eq _ hb, Option.bind_some, hf]
      rw [if_pos hi, if_pos h0, if_pos hi, if_neg (by decide)]
      simp [run, hf]
theorem parse_ev (s : ByteArray) (hs : s.size ≤ 9223372036854775806) : Ev (fun k => nums_Parse.f k s) (parse (bytesOf s)) := by
  by_cases h0 : s.size = 0
  · refine Ev.pos (fun k => ?_)
    have hn : bytesOf s = [] := (bytesOf_eq_nil s).2 h0
    have he : s.toList = ([] : List UInt8) := (toList_nil s).2 hn
    simp only [nums_Parse.f, nums_Parse.l0]
    rw [if_neg (by omega), if_pos he, hn]
    simp [parse]
  · have := parse_loop s hs (by omega) s.size 0 0 false (by omega) (by omega) (by omega) (by omega) (by unfold maxN; omega)
    simp only [Int.toNat_zero, List.drop_zero] at this
    have hn : ¬ bytesOf s = [] := fun h => h0 (by rw [← bytesOf_length, h]; rfl)
    have e : run 0 false (bytesOf s) = parse (bytesOf s) := by simp [run, parse, hn]
    rw [e] at this
    exact this
end Go.Proofs.Ytahoibanpplhbaa.Pure
