/- The reference's reading of a number comes to the same. -/
import Derived.Test.YtahoibanpplhbaaNumsPr
import Derived.Test.YtahoibanpplhbaaNums
import Derived.Test.YtahoibanpplhbaaPAllx10
namespace Go.Proofs.Ytahoibanpplhbaa.Pure
open Go.RowKit Go.Proofs.Ytahoibanpplhbaa.PAll Go.Proofs.YtahoibanpplhbaaW.PrintWords Go.Proofs.YtahoibanpplhbaaW.PrintLast Go.Proofs.YtahoibanpplhbaaW.PrintMore
theorem ref_digit_eq (b : Int) : spenceref01_Digit.f b = some (isDig b) := by
  unfold spenceref01_Digit.f isDig
  by_cases h : b ≥ 48
  · rw [if_pos h]; have : 48 ≤ b := h
    simp [this]
  · rw [if_neg h]; have : ¬ 48 ≤ b := h
    simp [this]
theorem less_lex : ∀ (x y : List UInt8), Op.bytesLess x y = lexlt (i8s x) (i8s y)
  | [], [] => by simp [Op.bytesLess, lexlt, i8s]
  | [], _ :: _ => by simp [Op.bytesLess, lexlt, i8s]
  | _ :: _, [] => by simp [Op.bytesLess, lexlt, i8s]
  | a :: x, b :: y => by
    have h := less_lex x y
    have e1 : decide (a < b) = decide ((a.toNat : Int) < (b.toNat : Int)) := by rw [decide_eq_decide, UInt8.lt_iff_toNat_lt]; omega
    have e2 : (a == b) = decide ((a.toNat : Int) = (b.toNat : Int)) := by
      by_cases h : a = b
      · subst h; simp
      · have : ¬ (a.toNat : Int) = (b.toNat : Int) := fun e => h (UInt8.toNat_inj.1 (by omega))
        rw [decide_eq_false this]; simpa using h
    simp only [Op.bytesLess, i8s, List.map_cons, lexlt]
    rw [e1, e2, h]; rfl
theorem i8s_inj (x y : List UInt8) : x = y ↔ i8s x = i8s y := by
  unfold i8s
  exact (List.map_inj_right (fun a b h => UInt8.toNat_inj.1 (Int.ofNat_inj.1 h))).symm
theorem sum_loop (s : ByteArray) (hs : s.size ≤ 100) (d : Nat) : ∀ (i n : Int), 0 ≤ i → i ≤ s.size → (s.size : Int) - i = d → 0 ≤ n → ((bytesOf s).drop i.toNat).all isDig = true → fval n ((bytesOf s).drop i.toNat) ≤ maxN →
    Ev (fun k => spenceref01_Parse.l2 k s n i) (fval n ((bytesOf s).drop i.toNat), 0) := by
  induction d with
  | zero =>
    intro i n h0 h1 hd hn ha hf
    refine Ev.pos (fun k => ?_)
    simp only [spenceref01_Parse.l2]
    rw [if_neg (by omega), List.drop_of_length_le (by rw [bytesOf_length]; omega)]
    rfl
  | succ d ih =>
    intro i n h0 h1 hd hn ha hf
    have hi : i < s.size := by omega
    rw [bytes_drop s i h0 hi] at ha hf ⊢
    simp only [List.all_cons, Bool.and_eq_true] at ha
    have hb := (isDig_iff _).1 ha.1
    rw [fval_cons] at hf ⊢
    have hge := fval_ge _ (10 * n + (bt s i - 48)) (by omega) ha.2
    unfold maxN at hf
    obtain ⟨K, hK⟩ := ih (i + 1) (10 * n + (bt s i - 48)) (by omega) (by omega) (by omega) (by omega) ha.2 hf
    refine ⟨K + 1, fun k hk => ?_⟩
    obtain ⟨k, rfl⟩ : ∃ j, k = j + 1 := ⟨k - 1, by omega⟩
    have h := hK k (by omega)
    dsimp only at h
    simp only [spenceref01_Parse.l2]
    rw [if_pos hi, if_pos h0, wrap_id (x := 10 * n) (by omega), wrap_id (x := bt s i) (by omega), wrap_id (x := 10 * n + bt s i) (by omega), wrap_id (x := 10 * n + bt s i - 48) (by omega), wrap_id (x := i + 1) (by omega)]
    have e : 10 * n + bt s i - 48 = 10 * n + (bt s i - 48) := by omega
    rw [e]; exact h
theorem pow_le {a b : Nat} (h : a ≤ b) : (10 : Int) ^ a ≤ (10 : Int) ^ b := by
  have h1 : (10 : Nat) ^ a ≤ 10 ^ b := Nat.pow_le_pow_right (by omega) h
  have e1 : ((10 ^ a : Nat) : Int) = (10 : Int) ^ a := by simp
  have e2 : ((10 ^ b : Nat) : Int) = (10 : Int) ^ b := by simp
  rw [← e1, ← e2]; omega
theorem tail_case (s : ByteArray) (_hs : s.size ≤ 9223372036854775806) (i : Int) (h0 : 0 ≤ i) (h1 : i < s.size) (hd : (bytesOf s).all isDig = true) (hz : (bytesOf s).take i.toNat = List.replicate i.toNat 48)
    (hh : ((bytesOf s).drop i.toNat).head? ≠ some 48 ∨ ((bytesOf s).drop i.toNat).length = 1) :
    Ev (fun k => spenceref01_Parse.j2 k s i) (parse (bytesOf s)) := by
  generalize ht : (bytesOf s).drop i.toNat = t at hh
  have hlen : t.length = s.size - i.toNat := by rw [← ht, List.length_drop, bytesOf_length]
  have hsplit : bytesOf s = List.replicate i.toNat 48 ++ t := by rw [← hz, ← ht, List.take_append_drop]
  have hval : fval 0 (bytesOf s) = fval 0 t := by rw [hsplit, fval_zeros]
  have hn : ¬ bytesOf s = [] := fun h => by have := (bytesOf_eq_nil s).1 h; omega
  have hp : parse (bytesOf s) = if fval 0 t > maxN then (0, 9) else (fval 0 t, 0) := by
    unfold parse; rw [if_neg (by simp [hn, hd]), hval]
  have htd : t.all isDig = true := by rw [hsplit, List.all_append, Bool.and_eq_true] at hd; exact hd.2
  have hb : bytesOf (s.extract i.toNat s.size) = t := by
    rw [bytesOf_extract, List.take_of_length_le (by rw [bytesOf_length]; exact Nat.le_refl _)]; exact ht
  have hsz : (s.extract i.toNat s.size).size = t.length := by rw [← bytesOf_length, hb]
  rw [hp]
  have hlt := fval_lt t 0 (by omega) htd
  simp only [Int.zero_add, Int.one_mul] at hlt
  by_cases hl : t.length > 19
  · have hne : t.head? ≠ some 48 := by rcases hh with h | h; exact h; omega
    cases t with
    | nil => simp at hl
    | cons b t =>
      have hb1 : b ≠ 48 := by simpa using hne
      simp only [List.all_cons, Bool.and_eq_true, isDig_iff] at htd
      have hlo := fval_lo t (b - 48) (by omega) htd.2
      have h19 : (10 : Int) ^ 19 ≤ (10 : Int) ^ t.length := pow_le (by simp at hl; omega)
      have hm : 1 * (10 : Int) ^ t.length ≤ (b - 48) * (10 : Int) ^ t.length := Int.mul_le_mul_of_nonneg_right (by omega) (Int.le_of_lt (Int.pow_pos (by omega)))
      have hbig : fval 0 (b :: t) > maxN := by
        rw [fval_cons]
        have e : 10 * 0 + (b - 48) = b - 48 := by omega
        rw [e]; unfold maxN
        have : (10 : Int) ^ 19 = 10000000000000000000 := by decide
        omega
      rw [if_pos hbig]
      refine ⟨2, fun k hk => ?_⟩
      obtain ⟨k, rfl⟩ : ∃ m, k = m + 1 + 1 := ⟨k - 2, by omega⟩
      simp only [spenceref01_Parse.j2, hsz]
      rw [if_pos h0, if_pos (by omega), if_pos (by omega)]
      simp only [spenceref01_Parse.j3, if_true]
  · have hsum : fval 0 t ≤ maxN → Ev (fun k => spenceref01_Parse.l2 k (s.extract i.toNat s.size) 0 0) (fval 0 t, 0) := fun hle => by
      have hl2 : t.length ≤ 19 := by omega
      have := sum_loop (s.extract i.toNat s.size) (by rw [hsz]; exact Nat.le_trans hl2 (by omega)) (s.extract i.toNat s.size).size 0 0 (by omega) (by omega) (by omega) (by omega) (by rw [hb]; simpa using htd) (by rw [hb]; simpa using hle)
      rw [hb] at this
      simpa using this
    by_cases h19 : t.length = 19
    · have hlit : i8s [52, 54, 49, 49, 54, 56, 54, 48, 49, 56, 52, 50, 55, 51, 56, 55, 57, 48, 51] = [52, 54, 49, 49, 54, 56, 54, 48, 49, 56, 52, 50, 55, 51, 56, 55, 57, 48, 51] := by decide
      have hlv : fval 0 [52, 54, 49, 49, 54, 56, 54, 48, 49, 56, 52, 50, 55, 51, 56, 55, 57, 48, 51] = maxN := by decide
      have hlx := lex_fval t [52, 54, 49, 49, 54, 56, 54, 48, 49, 56, 52, 50, 55, 51, 56, 55, 57, 48, 51] 0 (by omega) h19 htd (by decide)
      have hlx2 := lex_fval [52, 54, 49, 49, 54, 56, 54, 48, 49, 56, 52, 50, 55, 51, 56, 55, 57, 48, 51] t 0 (by omega) h19.symm (by decide) htd
      rw [hlv] at hlx hlx2
      have htl : i8s (s.extract i.toNat s.size).toList = t := by rw [← bytesOf_i8, hb]
      have heq : t = [52, 54, 49, 49, 54, 56, 54, 48, 49, 56, 52, 50, 55, 51, 56, 55, 57, 48, 51] ↔ fval 0 t = maxN := by
        constructor
        · intro h; rw [h, hlv]
        · intro h
          have h4 : t.head? ≠ some 48 := by rcases hh with h | h; exact h; omega
          have c1 := (canon 19 t h19 (by intro h; rw [h] at h19; simp at h19) htd (.inl h4)).1
          have c2 := (canon 19 [52, 54, 49, 49, 54, 56, 54, 48, 49, 56, 52, 50, 55, 51, 56, 55, 57, 48, 51] (by rfl) (by simp) (by decide) (.inl (by simp))).1
          rw [c1, h, ← hlv, ← c2]
      have hless : Op.bytesLess (s.extract i.toNat s.size).toList [52, 54, 49, 49, 54, 56, 54, 48, 49, 56, 52, 50, 55, 51, 56, 55, 57, 48, 51] = decide (fval 0 t < maxN) := by
        rw [less_lex, htl, hlit]
        rw [Bool.eq_iff_iff, hlx]; simp
      have hsame : ((s.extract i.toNat s.size).toList == [52, 54, 49, 49, 54, 56, 54, 48, 49, 56, 52, 50, 55, 51, 56, 55, 57, 48, 51]) = decide (fval 0 t = maxN) := by
        rw [Bool.eq_iff_iff, beq_iff_eq, i8s_inj, htl, hlit, heq]; simp
      have hbool : (!(Op.bytesLess (s.extract i.toNat s.size).toList [52, 54, 49, 49, 54, 56, 54, 48, 49, 56, 52, 50, 55, 51, 56, 55, 57, 48, 51] || ((s.extract i.toNat s.size).toList == [52, 54, 49, 49, 54, 56, 54, 48, 49, 56, 52, 50, 55, 51, 56, 55, 57, 48, 51]))) = decide (fval 0 t > maxN) := by
        rw [hless, hsame]
        by_cases a1 : fval 0 t < maxN
        · have : ¬ fval 0 t > maxN := by omega
          simp [a1, this]
        · by_cases a2 : fval 0 t = maxN
          · simp [a2]
          · have : fval 0 t > maxN := by omega
            simp [a1, a2, this]
      by_cases hgt : fval 0 t > maxN
      · rw [if_pos hgt]
        refine ⟨2, fun k hk => ?_⟩
        obtain ⟨k, rfl⟩ : ∃ m, k = m + 1 + 1 := ⟨k - 2, by omega⟩
        simp only [spenceref01_Parse.j2, hsz, hbool]
        rw [if_pos h0, if_pos (by omega), if_neg (by omega), if_pos (by omega)]
        simp only [spenceref01_Parse.j3]
        rw [if_pos (decide_eq_true hgt)]
      · rw [if_neg hgt]
        obtain ⟨K, hK⟩ := hsum (by omega)
        refine ⟨K + 2, fun k hk => ?_⟩
        obtain ⟨k, rfl⟩ : ∃ m, k = m + 1 + 1 := ⟨k - 2, by omega⟩
        simp only [spenceref01_Parse.j2, hsz, hbool]
        rw [if_pos h0, if_pos (by omega), if_neg (by omega), if_pos (by omega)]
        simp only [spenceref01_Parse.j3]
        rw [if_neg (by simpa using hgt)]
        exact hK k (by omega)
    · have h18 : (10 : Int) ^ t.length ≤ (10 : Int) ^ 18 := pow_le (by omega)
      have hle : fval 0 t ≤ maxN := by
        unfold maxN
        have : (10 : Int) ^ 18 = 1000000000000000000 := by decide
        omega
      rw [if_neg (by omega)]
      obtain ⟨K, hK⟩ := hsum hle
      refine ⟨K + 2, fun k hk => ?_⟩
      obtain ⟨k, rfl⟩ : ∃ m, k = m + 1 + 1 := ⟨k - 2, by omega⟩
      simp only [spenceref01_Parse.j2, hsz]
      rw [if_pos h0, if_pos (by omega), if_neg (by omega), if_neg (by omega)]
      simp only [spenceref01_Parse.j3]
      rw [if_neg (by decide)]
      exact hK k (by omega)
theorem noughts_loop (s : ByteArray) (hs : s.size ≤ 9223372036854775806) (hd : (bytesOf s).all isDig = true) (d : Nat) : ∀ i : Int, 0 ≤ i → i < s.size → (s.size : Int) - i = d → (bytesOf s).take i.toNat = List.replicate i.toNat 48 →
    Ev (fun k => spenceref01_Parse.l1 k s i) (parse (bytesOf s)) := by
  induction d with
  | zero => intro i h0 h1 hd2; omega
  | succ d ih =>
    intro i h0 h1 hd2 hz
    have hw : wrap64 ((s.size : Int) - 1) = (s.size : Int) - 1 := wrap_id (by omega)
    have hdr := bytes_drop s i h0 h1
    by_cases hc : i < (s.size : Int) - 1 ∧ bt s i = 48
    · have hz2 : (bytesOf s).take (i + 1).toNat = List.replicate (i + 1).toNat 48 := by
        have e : (i + 1).toNat = i.toNat + 1 := by omega
        have hl : i.toNat < (bytesOf s).length := by rw [bytesOf_length]; omega
        have hg : (bytesOf s)[i.toNat] = 48 := by
          rw [List.drop_eq_getElem_cons hl] at hdr
          rw [(List.cons.inj hdr).1, hc.2]
        rw [e, List.take_succ_eq_append_getElem hl, hz, hg, List.replicate_succ']
      obtain ⟨K, hK⟩ := ih (i + 1) (by omega) (by omega) (by omega) hz2
      refine ⟨K + 1, fun k hk => ?_⟩
      obtain ⟨k, rfl⟩ : ∃ m, k = m + 1 := ⟨k - 1, by omega⟩
      simp only [spenceref01_Parse.l1, hw]
      rw [if_pos hc.1, if_pos h0, if_pos h1, if_pos hc.2, wrap_id (by omega)]
      exact hK k (by omega)
    · have hh : ((bytesOf s).drop i.toNat).head? ≠ some 48 ∨ ((bytesOf s).drop i.toNat).length = 1 := by
        rw [hdr]
        by_cases hl : i < (s.size : Int) - 1
        · left; simp; intro h; exact hc ⟨hl, h⟩
        · right
          have := congrArg List.length hdr
          rw [List.length_drop, bytesOf_length] at this
          rw [← this]; omega
      obtain ⟨K, hK⟩ := tail_case s hs i h0 h1 hd hz hh
      refine ⟨K + 1, fun k hk => ?_⟩
      obtain ⟨k, rfl⟩ : ∃ m, k = m + 1 := ⟨k - 1, by omega⟩
      have h := hK k (by omega)
      dsimp only at h
      simp only [spenceref01_Parse.l1, hw]
      by_cases hl : i < (s.size : Int) - 1
      · rw [if_pos hl, if_pos h0, if_pos h1, if_neg (fun e => hc ⟨hl, e⟩)]
        exact h
      · rw [if_neg hl]
        exact h
theorem check_loop (s : ByteArray) (hs : s.size ≤ 9223372036854775806) (h0s : 0 < s.size) (d : Nat) : ∀ i : Int, 0 ≤ i → i ≤ s.size → (s.size : Int) - i = d → ((bytesOf s).take i.toNat).all isDig = true →
    Ev (fun k => spenceref01_Parse.l0 k s i) (parse (bytesOf s)) := by
  induction d with
  | zero =>
    intro i h0 h1 hd ha
    rw [List.take_of_length_le (by rw [bytesOf_length]; omega)] at ha
    obtain ⟨K, hK⟩ := noughts_loop s hs ha s.size 0 (by omega) (by omega) (by omega) (by simp)
    refine ⟨K + 1, fun k hk => ?_⟩
    obtain ⟨k, rfl⟩ : ∃ m, k = m + 1 := ⟨k - 1, by omega⟩
    simp only [spenceref01_Parse.l0]
    rw [if_neg (by omega)]
    exact hK k (by omega)
  | succ d ih =>
    intro i h0 h1 hd ha
    have hi : i < s.size := by omega
    have hdr := bytes_drop s i h0 hi
    by_cases hg : isDig (bt s i) = true
    · have e : (i + 1).toNat = i.toNat + 1 := by omega
      have hl : i.toNat < (bytesOf s).length := by rw [bytesOf_length]; omega
      have hget : (bytesOf s)[i.toNat] = bt s i := by
        rw [List.drop_eq_getElem_cons hl] at hdr
        exact (List.cons.inj hdr).1
      obtain ⟨K, hK⟩ := ih (i + 1) (by omega) (by omega) (by omega) (by rw [e, List.take_succ_eq_append_getElem hl, List.all_append, ha, hget]; simpa using hg)
      refine ⟨K + 1, fun k hk => ?_⟩
      obtain ⟨k, rfl⟩ : ∃ m, k = m + 1 := ⟨k - 1, by omega⟩
      simp only [spenceref01_Parse.l0, ref_digit_eq, Option.bind_some]
      rw [if_pos hi, if_pos h0, if_pos hg, wrap_id (by omega)]
      exact hK k (by omega)
    · refine Ev.pos (fun k => ?_)
      simp only [spenceref01_Parse.l0, ref_digit_eq, Option.bind_some]
      rw [if_pos hi, if_pos h0, if_neg hg]
      have hf : (bytesOf s).all isDig = false := by
        rw [← List.take_append_drop i.toNat (bytesOf s), List.all_append, hdr]
        simp [hg]
      unfold parse; rw [if_pos (.inr hf)]
theorem ref_parse_ev (s : ByteArray) (hs : s.size ≤ 9223372036854775806) : Ev (fun k => spenceref01_Parse.f k s) (parse (bytesOf s)) := by
  unfold spenceref01_Parse.f
  by_cases h0 : s.size = 0
  · refine Ev.all (fun k => ?_)
    rw [if_pos (by omega)]
    unfold parse; rw [if_pos (.inl ((bytesOf_eq_nil s).2 h0))]
  · obtain ⟨K, hK⟩ := check_loop s hs (by omega) s.size 0 (by omega) (by omega) (by omega) (by simp)
    exact ⟨K, fun k hk => by dsimp only; rw [if_neg (by omega)]; exact hK k hk⟩
end Go.Proofs.Ytahoibanpplhbaa.Pure
