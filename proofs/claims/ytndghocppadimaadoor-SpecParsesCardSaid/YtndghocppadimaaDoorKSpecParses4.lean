/- The law SpecParses: for every input the call returns true, and each argument reads behind the call as it read before. No condition. (The row, and the plain law ahead of it.) -/
import Derived.Test.YtndghocppadimaaDoorKSpecParses3
import Derived.Test.YtndghocppadimaaDoorKSpecParses2
import Derived.Test.YtndghocppadimaaDoorKSpecParses1
import Derived.Test.YtndghocppadimaaDoorRows
import Derived.Test.YtndghocppadimaaDoorCards
import Derived.Test.YtndghocppadimaaDoorTie
import Derived.LaidMore
import Derived.Lay
import Derived.SevenTiedAt
import Derived.Stop.Joined
import Derived.WalkKit
import Derived.ProofKit
import Derived.OpenShut
import Derived.ShutString
import Derived.ChangeOld
import Derived.Below
import Derived.SizedLaws
namespace Go.Proofs.YtndghocppadimaaDoor.Pure
open Go.RowKit Go.Proofs.YtndghocppadimaaDoor.PAll Go.Proofs.YtndghocppadimaaDoorW.PrintWords Go.Proofs.YtndghocppadimaaDoorW.PrintLast Go.Proofs.YtndghocppadimaaDoorW.PrintMore
theorem ref_digit_eq (b : Int) : spenceref01_Digit.f b = some (isDig b) := by
  unfold spenceref01_Digit.f isDig
  by_cases h : b ≥ 48
  · rw [if_pos h]; have : 48 ≤ b := h
    simp [this]
  · rw [if_neg h]; have : ¬ 48 ≤ b := h
    simp [this]
theorem less_lex : ∀ (x y : List UInt8), Op.bytesLess x y = lexlt (i8s x) (i8s y)
  | [], [] => by simp [Op.bytesLess, lexlt, i8s]
  | [], _ :: _ => by simp [Op.bytesLess, lexlt, i8s]
  | _ :: _, [] => by simp [Op.bytesLess, lexlt, i8s]
  | a :: x, b :: y => by
    have h := less_lex x y
    have e1 : decide (a < b) = decide ((a.toNat : Int) < (b.toNat : Int)) := by rw [decide_eq_decide, UInt8.lt_iff_toNat_lt]; omega
    have e2 : (a == b) = decide ((a.toNat : Int) = (b.toNat : Int)) := by
      by_cases h : a = b
      · subst h; simp
      · have : ¬ (a.toNat : Int) = (b.toNat : Int) := fun e => h (UInt8.toNat_inj.1 (by omega))
        rw [decide_eq_false this]; simpa using h
    simp only [Op.bytesLess, i8s, List.map_cons, lexlt]
    rw [e1, e2, h]; rfl
theorem i8s_inj (x y : List UInt8) : x = y ↔ i8s x = i8s y := by
  unfold i8s
  exact (List.map_inj_right (fun a b h => UInt8.toNat_inj.1 (Int.ofNat_inj.1 h))).symm
theorem sum_loop (s : ByteArray) (hs : s.size ≤ 100) (d : Nat) : ∀ (i n : Int), 0 ≤ i → i ≤ s.size → (s.size : Int) - i = d → 0 ≤ n → ((bytesOf s).drop i.toNat).all isDig = true → fval n ((bytesOf s).drop i.toNat) ≤ maxN →
    Ev (fun k => spenceref01_Parse.l2 k s n i) (fval n ((bytesOf s).drop i.toNat), 0) := by
  induction d with
  | zero =>
    intro i n h0 h1 hd hn ha hf
    refine Ev.pos (fun k => ?_)
    simp only [spenceref01_Parse.l2]
    rw [if_neg (by omega), List.drop_of_length_le (by rw [bytesOf_length]; omega)]
    rfl
  | succ d ih =>
    intro i n h0 h1 hd hn ha hf
    have hi : i < s.size := by omega
    rw [bytes_drop s i h0 hi] at ha hf ⊢
    simp only [List.all_cons, Bool.and_eq_true] at ha
    have hb := (isDig_iff _).1 ha.1
    rw [fval_cons] at hf ⊢
    have hge := fval_ge _ (10 * n + (bt s i - 48)) (by omega) ha.2
    unfold maxN at hf
    obtain ⟨K, hK⟩ := ih (i + 1) (10 * n + (bt s i - 48)) (by omega) (by omega) (by omega) (by omega) ha.2 hf
    refine ⟨K + 1, fun k hk => ?_⟩
    obtain ⟨k, rfl⟩ : ∃ j, k = j + 1 := ⟨k - 1, by omega⟩
    have h := hK k (by omega)
    dsimp only at h
    simp only [spenceref01_Parse.l2]
    rw [if_pos hi, if_pos h0, wrap_id (x := 10 * n) (by omega), wrap_id (x := bt s i) (by omega), wrap_id (x := 10 * n + bt s i) (by omega), wrap_id (x := 10 * n + bt s i - 48) (by omega), wrap_id (x := i + 1) (by omega)]
    have e : 10 * n + bt s i - 48 = 10 * n + (bt s i - 48) := by omega
    rw [e]; exact h
theorem pow_le {a b : Nat} (h : a ≤ b) : (10 : Int) ^ a ≤ (10 : Int) ^ b := by
  have h1 : (10 : Nat) ^ a ≤ 10 ^ b := Nat.pow_le_pow_right (by omega) h
  have e1 : ((10 ^ a : Nat) : Int) = (10 : Int) ^ a := by simp
  have e2 : ((10 ^ b : Nat) : Int) = (10 : Int) ^ b := by simp
  rw [← e1, ← e2]; omega
theorem tail_case (s : ByteArray) (_hs : s.size ≤ 9223372036854775806) (i : Int) (h0 : 0 ≤ i) (h1 : i < s.size) (hd : (bytesOf s).all isDig = true) (hz : (bytesOf s).take i.toNat = List.replicate i.toNat 48)
    (hh : ((bytesOf s).drop i.toNat).head? ≠ some 48 ∨ ((bytesOf s).drop i.toNat).length = 1) :
    Ev (fun k => spenceref01_Parse.j2 k s i) (parse (bytesOf s)) := by
  generalize ht : (bytesOf s).drop i.toNat = t at hh
  have hlen : t.length = s.size - i.toNat := by rw [← ht, List.length_drop, bytesOf_length]
  have hsplit : bytesOf s = List.replicate i.toNat 48 ++ t := by rw [← hz, ← ht, List.take_append_drop]
  have hval : fval 0 (bytesOf s) = fval 0 t := by rw [hsplit, fval_zeros]
  have hn : ¬ bytesOf s = [] := fun h => by have := (bytesOf_eq_nil s).1 h; omega
  have hp : parse (bytesOf s) = if fval 0 t > maxN then (0, 9) else (fval 0 t, 0) := by
    unfold parse; rw [if_neg (by simp [hn, hd]), hval]
  have htd : t.all isDig = true := by rw [hsplit, List.all_append, Bool.and_eq_true] at hd; exact hd.2
  have hb : bytesOf (s.extract i.toNat s.size) = t := by
    rw [bytesOf_extract, List.take_of_length_le (by rw [bytesOf_length]; exact Nat.le_refl _)]; exact ht
  have hsz : (s.extract i.toNat s.size).size = t.length := by rw [← bytesOf_length, hb]
  rw [hp]
  have hlt := fval_lt t 0 (by omega) htd
  simp only [Int.zero_add, Int.one_mul] at hlt
  by_cases hl : t.length > 19
  · have hne : t.head? ≠ some 48 := by rcases hh with h | h; exact h; omega
    cases t with
    | nil => simp at hl
    | cons b t =>
      have hb1 : b ≠ 48 := by simpa using hne
      simp only [List.all_cons, Bool.and_eq_true, isDig_iff] at htd
      have hlo := fval_lo t (b - 48) (by omega) htd.2
      have h19 : (10 : Int) ^ 19 ≤ (10 : Int) ^ t.length := pow_le (by simp at hl; omega)
      have hm : 1 * (10 : Int) ^ t.length ≤ (b - 48) * (10 : Int) ^ t.length := Int.mul_le_mul_of_nonneg_right (by omega) (Int.le_of_lt (Int.pow_pos (by omega)))
      have hbig : fval 0 (b :: t) > maxN := by
        rw [fval_cons]
        have e : 10 * 0 + (b - 48) = b - 48 := by omega
        rw [e]; unfold maxN
        have : (10 : Int) ^ 19 = 10000000000000000000 := by decide
        omega
      rw [if_pos hbig]
      refine ⟨2, fun k hk => ?_⟩
      obtain ⟨k, rfl⟩ : ∃ m, k = m + 1 + 1 := ⟨k - 2, by omega⟩
      simp only [spenceref01_Parse.j2, hsz]
      rw [if_pos h0, if_pos (by omega), if_pos (by omega)]
      simp only [spenceref01_Parse.j3, if_true]
  · have hsum : fval 0 t ≤ maxN → Ev (fun k => spenceref01_Parse.l2 k (s.extract i.toNat s.size) 0 0) (fval 0 t, 0) := fun hle => by
      have hl2 : t.length ≤ 19 := by omega
      have := sum_loop (s.extract i.toNat s.size) (by rw [hsz]; exact Nat.le_trans hl2 (by omega)) (s.extract i.toNat s.size).size 0 0 (by omega) (by omega) (by omega) (by omega) (by rw [hb]; simpa using htd) (by rw [hb]; simpa using hle)
      rw [hb] at this
      simpa using this
    by_cases h19 : t.length = 19
    · have hlit : i8s [52, 54, 49, 49, 54, 56, 54, 48, 49, 56, 52, 50, 55, 51, 56, 55, 57, 48, 51] = [52, 54, 49, 49, 54, 56, 54, 48, 49, 56, 52, 50, 55, 51, 56, 55, 57, 48, 51] := by decide
      have hlv : fval 0 [52, 54, 49, 49, 54, 56, 54, 48, 49, 56, 52, 50, 55, 51, 56, 55, 57, 48, 51] = maxN := by decide
      have hlx := lex_fval t [52, 54, 49, 49, 54, 56, 54, 48, 49, 56, 52, 50, 55, 51, 56, 55, 57, 48, 51] 0 (by omega) h19 htd (by decide)
      have hlx2 := lex_fval [52, 54, 49, 49, 54, 56, 54, 48, 49, 56, 52, 50, 55, 51, 56, 55, 57, 48, 51] t 0 (by omega) h19.symm (by decide) htd
      rw [hlv] at hlx hlx2
      have htl : i8s (s.extract i.toNat s.size).toList = t := by rw [← bytesOf_i8, hb]
      have heq : t = [52, 54, 49, 49, 54, 56, 54, 48, 49, 56, 52, 50, 55, 51, 56, 55, 57, 48, 51] ↔ fval 0 t = maxN := by
        constructor
        · intro h; rw [h, hlv]
        · intro h
          have h4 : t.head? ≠ some 48 := by rcases hh with h | h; exact h; omega
          have c1 := (canon 19 t h19 (by intro h; rw [h] at h19; simp at h19) htd (.inl h4)).1
          have c2 := (canon 19 [52, 54, 49, 49, 54, 56, 54, 48, 49, 56, 52, 50, 55, 51, 56, 55, 57, 48, 51] (by rfl) (by simp) (by decide) (.inl (by simp))).1
          rw [c1, h, ← hlv, ← c2]
      have hless : Op.bytesLess (s.extract i.toNat s.size).toList [52, 54, 49, 49, 54, 56, 54, 48, 49, 56, 52, 50, 55, 51, 56, 55, 57, 48, 51] = decide (fval 0 t < maxN) := by
        rw [less_lex, htl, hlit]
        rw [Bool.eq_iff_iff, hlx]; simp
      have hsame : ((s.extract i.toNat s.size).toList == [52, 54, 49, 49, 54, 56, 54, 48, 49, 56, 52, 50, 55, 51, 56, 55, 57, 48, 51]) = decide (fval 0 t = maxN) := by
        rw [Bool.eq_iff_iff, beq_iff_eq, i8s_inj, htl, hlit, heq]; simp
      have hbool : (!(Op.bytesLess (s.extract i.toNat s.size).toList [52, 54, 49, 49, 54, 56, 54, 48, 49, 56, 52, 50, 55, 51, 56, 55, 57, 48, 51] || ((s.extract i.toNat s.size).toList == [52, 54, 49, 49, 54, 56, 54, 48, 49, 56, 52, 50, 55, 51, 56, 55, 57, 48, 51]))) = decide (fval 0 t > maxN) := by
        rw [hless, hsame]
        by_cases a1 : fval 0 t < maxN
        · have : ¬ fval 0 t > maxN := by omega
          simp [a1, this]
        · by_cases a2 : fval 0 t = maxN
          · simp [a2]
          · have : fval 0 t > maxN := by omega
            simp [a1, a2, this]
      by_cases hgt : fval 0 t > maxN
      · rw [if_pos hgt]
        refine ⟨2, fun k hk => ?_⟩
        obtain ⟨k, rfl⟩ : ∃ m, k = m + 1 + 1 := ⟨k - 2, by omega⟩
        simp only [spenceref01_Parse.j2, hsz, hbool]
        rw [if_pos h0, if_pos (by omega), if_neg (by omega), if_pos (by omega)]
        simp only [spenceref01_Parse.j3]
        rw [if_pos (decide_eq_true hgt)]
      · rw [if_neg hgt]
        obtain ⟨K, hK⟩ := hsum (by omega)
        refine ⟨K + 2, fun k hk => ?_⟩
        obtain ⟨k, rfl⟩ : ∃ m, k = m + 1 + 1 := ⟨k - 2, by omega⟩
        simp only [spenceref01_Parse.j2, hsz, hbool]
        rw [if_pos h0, if_pos (by omega), if_neg (by omega), if_pos (by omega)]
        simp only [spenceref01_Parse.j3]
        rw [if_neg (by simpa using hgt)]
        exact hK k (by omega)
    · have h18 : (10 : Int) ^ t.length ≤ (10 : Int) ^ 18 := pow_le (by omega)
      have hle : fval 0 t ≤ maxN := by
        unfold maxN
        have : (10 : Int) ^ 18 = 1000000000000000000 := by decide
        omega
      rw [if_neg (by omega)]
      obtain ⟨K, hK⟩ := hsum hle
      refine ⟨K + 2, fun k hk => ?_⟩
      obtain ⟨k, rfl⟩ : ∃ m, k = m + 1 + 1 := ⟨k - 2, by omega⟩
      simp only [spenceref01_Parse.j2, hsz]
      rw [if_pos h0, if_pos (by omega), if_neg (by omega), if_neg (by omega)]
      simp only [spenceref01_Parse.j3]
      rw [if_neg (by decide)]
      exact hK k (by omega)
theorem noughts_loop (s : ByteArray) (hs : s.size ≤ 9223372036854775806) (hd : (bytesOf s).all isDig = true) (d : Nat) : ∀ i : Int, 0 ≤ i → i < s.size → (s.size : Int) - i = d → (bytesOf s).take i.toNat = List.replicate i.toNat 48 →
    Ev (fun k => spenceref01_Parse.l1 k s i) (parse (bytesOf s)) := by
  induction d with
  | zero => intro i h0 h1 hd2; omega
  | succ d ih =>
    intro i h0 h1 hd2 hz
    have hw : wrap64 ((s.size : Int) - 1) = (s.size : Int) - 1 := wrap_id (by omega)
    have hdr := bytes_drop s i h0 h1
    by_cases hc : i < (s.size : Int) - 1 ∧ bt s i = 48
    · have hz2 : (bytesOf s).take (i + 1).toNat = List.replicate (i + 1).toNat 48 := by
        have e : (i + 1).toNat = i.toNat + 1 := by omega
        have hl : i.toNat < (bytesOf s).length := by rw [bytesOf_length]; omega
        have hg : (bytesOf s)[i.toNat] = 48 := by
          rw [List.drop_eq_getElem_cons hl] at hdr
          rw [(List.cons.inj hdr).1, hc.2]
        rw [e, List.take_succ_eq_append_getElem hl, hz, hg, List.replicate_succ']
      obtain ⟨K, hK⟩ := ih (i + 1) (by omega) (by omega) (by omega) hz2
      refine ⟨K + 1, fun k hk => ?_⟩
      obtain ⟨k, rfl⟩ : ∃ m, k = m + 1 := ⟨k - 1, by omega⟩
      simp only [spenceref01_Parse.l1, hw]
      rw [if_pos hc.1, if_pos h0, if_pos h1, if_pos hc.2, wrap_id (by omega)]
      exact hK k (by omega)
    · have hh : ((bytesOf s).drop i.toNat).head? ≠ some 48 ∨ ((bytesOf s).drop i.toNat).length = 1 := by
        rw [hdr]
        by_cases hl : i < (s.size : Int) - 1
        · left; simp; intro h; exact hc ⟨hl, h⟩
        · right
          have := congrArg List.length hdr
          rw [List.length_drop, bytesOf_length] at this
          rw [← this]; omega
      obtain ⟨K, hK⟩ := tail_case s hs i h0 h1 hd hz hh
      refine ⟨K + 1, fun k hk => ?_⟩
      obtain ⟨k, rfl⟩ : ∃ m, k = m + 1 := ⟨k - 1, by omega⟩
      have h := hK k (by omega)
      dsimp only at h
      simp only [spenceref01_Parse.l1, hw]
      by_cases hl : i < (s.size : Int) - 1
      · rw [if_pos hl, if_pos h0, if_pos h1, if_neg (fun e => hc ⟨hl, e⟩)]
        exact h
      · rw [if_neg hl]
        exact h
theorem check_loop (s : ByteArray) (hs : s.size ≤ 9223372036854775806) (h0s : 0 < s.size) (d : Nat) : ∀ i : Int, 0 ≤ i → i ≤ s.size → (s.size : Int) - i = d → ((bytesOf s).take i.toNat).all isDig = true →
    Ev (fun k => spenceref01_Parse.l0 k s i) (parse (bytesOf s)) := by
  induction d with
  | zero =>
    intro i h0 h1 hd ha
    rw [List.take_of_length_le (by rw [bytesOf_length]; omega)] at ha
    obtain ⟨K, hK⟩ := noughts_loop s hs ha s.size 0 (by omega) (by omega) (by omega) (by simp)
    refine ⟨K + 1, fun k hk => ?_⟩
    obtain ⟨k, rfl⟩ : ∃ m, k = m + 1 := ⟨k - 1, by omega⟩
    simp only [spenceref01_Parse.l0]
    rw [if_neg (by omega)]
    exact hK k (by omega)
  | succ d ih =>
    intro i h0 h1 hd ha
    have hi : i < s.size := by omega
    have hdr := bytes_drop s i h0 hi
    by_cases hg : isDig (bt s i) = true
    · have e : (i + 1).toNat = i.toNat + 1 := by omega
      have hl : i.toNat < (bytesOf s).length := by rw [bytesOf_length]; omega
      have hget : (bytesOf s)[i.toNat] = bt s i := by
        rw [List.drop_eq_getElem_cons hl] at hdr
        exact (List.cons.inj hdr).1
      obtain ⟨K, hK⟩ := ih (i + 1) (by omega) (by omega) (by omega) (by rw [e, List.take_succ_eq_append_getElem hl, List.all_append, ha, hget]; simpa using hg)
      refine ⟨K + 1, fun k hk => ?_⟩
      obtain ⟨k, rfl⟩ : ∃ m, k = m + 1 := ⟨k - 1, by omega⟩
      simp only [spenceref01_Parse.l0, ref_digit_eq, Option.bind_some]
      rw [if_pos hi, if_pos h0, if_pos hg, wrap_id (by omega)]
      exact hK k (by omega)
    · refine Ev.pos (fun k => ?_)
      simp only [spenceref01_Parse.l0, ref_digit_eq, Option.bind_some]
      rw [if_pos hi, if_pos h0, if_neg hg]
      have hf : (bytesOf s).all isDig = false := by
        rw [← List.take_append_drop i.toNat (bytesOf s), List.all_append, hdr]
        simp [hg]
      unfold parse; rw [if_pos (.inr hf)]
theorem ref_parse_ev (s : ByteArray) (hs : s.size ≤ 9223372036854775806) : Ev (fun k => spenceref01_Parse.f k s) (parse (bytesOf s)) := by
  unfold spenceref01_Parse.f
  by_cases h0 : s.size = 0
  · refine Ev.all (fun k => ?_)
    rw [if_pos (by omega)]
    unfold parse; rw [if_pos (.inl ((bytesOf_eq_nil s).2 h0))]
  · obtain ⟨K, hK⟩ := check_loop s hs (by omega) s.size 0 (by omega) (by omega) (by omega) (by simp)
    exact ⟨K, fun k hk => by dsimp only; rw [if_neg (by omega)]; exact hK k hk⟩
end Go.Proofs.YtndghocppadimaaDoor.Pure
namespace Go.Proofs.YtndghocppadimaaDoor.Pure
open Go.RowKit Go.Proofs.YtndghocppadimaaDoor.Xw Go.Proofs.YtndghocppadimaaDoor.PAll Go.Proofs.YtndghocppadimaaDoorW.PrintWords Go.Proofs.YtndghocppadimaaDoorW.PrintLast Go.Proofs.YtndghocppadimaaDoorW.PrintMore
def bareL (l : List Int) : List Int := l.dropWhile fun b => b == 48
def lessL (x y : List Int) : Bool := if (bareL x).length = (bareL y).length then lexlt (bareL x) (bareL y) else decide ((bareL x).length < (bareL y).length)
def e4 (e : Int) : Int × Int × Int × Int := (0, 0, 0, e)
def singleV (kind : Int) (l : List Int) : Int × Int × Int × Int := if (parse l).2 = 0 then (kind, (parse l).1, 0, 0) else e4 (parse l).2
def bothV (a b : List Int) : Int × Int × Int × Int :=
  if (parse a).2 = 3 ∨ (parse b).2 = 3 ∨ lessL b a = true then e4 3
  else if (parse a).2 = 0 ∧ (parse b).2 = 0 then (2, (parse a).1, (parse b).1, 0) else e4 9
def oneOf (l : List Int) : Int × Int × Int × Int :=
  if (cutOf 45 l).2.2 = true then (if (cutOf 45 l).1 = [] then singleV 3 (cutOf 45 l).2.1 else if (cutOf 45 l).2.1 = [] then singleV 1 (cutOf 45 l).1 else bothV (cutOf 45 l).1 (cutOf 45 l).2.1) else e4 3
theorem cut_facts5 (b : Int) (l : List Int) (h : ∀ x ∈ l, isB x) : (cutOf b l).1.length ≤ l.length ∧ (cutOf b l).2.1.length ≤ l.length ∧ (∀ x ∈ (cutOf b l).1, isB x) ∧ (∀ x ∈ (cutOf b l).2.1, isB x) := by
  cases hc : (cutOf b l).2.2
  · obtain ⟨h1, h2, -⟩ := cutOf_no b l hc
    rw [h1, h2]; exact ⟨Nat.le_refl _, Nat.zero_le _, h, by simp⟩
  · obtain ⟨h1, -⟩ := cutOf_yes b l hc
    have hl := congrArg List.length h1
    rw [List.length_append, List.length_cons] at hl
    refine ⟨by omega, by omega, fun x hx => h x ?_, fun x hx => h x ?_⟩
    · rw [h1]; exact List.mem_append.2 (.inl hx)
    · rw [h1]; exact List.mem_append.2 (.inr (List.mem_cons_of_mem _ hx))
theorem parse_kind5 (l : List Int) : (parse l).2 = 0 ∨ (parse l).2 = 3 ∨ (parse l).2 = 9 := by
  unfold parse; split
  · simp
  · split <;> simp
theorem bareL_isB {l : List Int} (h : ∀ b ∈ l, isB b) : ∀ b ∈ bareL l, isB b := fun b hb => h b ((List.dropWhile_sublist _).mem hb)
theorem bareL_cons (b : Int) (l : List Int) : bareL (b :: l) = if b = 48 then bareL l else b :: l := by
  unfold bareL
  rw [List.dropWhile_cons]
  by_cases h : b = 48
  · subst h; rfl
  · have : (b == 48) = false := by simpa using h
    rw [this, if_neg h]; rfl
theorem bareL_val (l : List Int) : fval 0 l = fval 0 (bareL l) := by
  induction l with
  | nil => rfl
  | cons b l ih =>
    rw [bareL_cons]
    by_cases h : b = 48
    · subst h; rw [if_pos rfl, ← ih, fval_cons]; rfl
    · rw [if_neg h]
theorem bareL_all (l : List Int) (h : l.all isDig = true) : (bareL l).all isDig = true := by
  rw [List.all_eq_true] at h ⊢
  exact fun b hb => h b ((List.dropWhile_sublist _).mem hb)
theorem bareL_head (l : List Int) : bareL l = [] ∨ ∃ c r, bareL l = c :: r ∧ c ≠ 48 := by
  induction l with
  | nil => exact .inl rfl
  | cons b l ih =>
    rw [bareL_cons]
    by_cases h : b = 48
    · rw [if_pos h]; exact ih
    · rw [if_neg h]; exact .inr ⟨b, l, rfl, h⟩
theorem shorter_less (x y : List Int) (hx : x.all isDig = true) (hy : y.all isDig = true) (h : (bareL x).length < (bareL y).length) : fval 0 x < fval 0 y := by
  rw [bareL_val x, bareL_val y]
  have h1 := fval_lt (bareL x) 0 (by omega) (bareL_all x hx)
  have hb := bareL_all y hy
  rcases bareL_head y with e | ⟨c, r, e, hc⟩
  · rw [e] at h; simp at h
  · rw [e] at h hb ⊢
    rw [List.all_cons, Bool.and_eq_true] at hb
    have hd := (isDig_iff c).1 hb.1
    have h2 := fval_lo r (10 * 0 + (c - 48)) (by omega) hb.2
    rw [← fval_cons] at h2
    have hp : (10 : Int) ^ (bareL x).length ≤ (10 : Int) ^ r.length := pow_le (by simp at h; omega)
    have h3 : (1 : Int) * (10 : Int) ^ r.length ≤ (10 * 0 + (c - 48)) * (10 : Int) ^ r.length := Int.mul_le_mul_of_nonneg_right (by omega) (Int.le_of_lt (Int.pow_pos (by decide)))
    omega
theorem less_fval (x y : List Int) (hx : x.all isDig = true) (hy : y.all isDig = true) : lessL x y = decide (fval 0 x < fval 0 y) := by
  unfold lessL
  by_cases h : (bareL x).length = (bareL y).length
  · rw [if_pos h, Bool.eq_iff_iff, decide_eq_true_iff, lex_fval _ _ 0 (by omega) h (bareL_all x hx) (bareL_all y hy), ← bareL_val, ← bareL_val]
  · rw [if_neg h, decide_eq_decide]
    rcases Nat.lt_or_ge (bareL x).length (bareL y).length with h1 | h1
    · exact ⟨fun _ => shorter_less x y hx hy h1, fun _ => h1⟩
    · have := shorter_less y x hy hx (by omega)
      exact ⟨fun g => by omega, fun g => by omega⟩
theorem parse_s (x : List Int) (hx : ∀ b ∈ x, isB b) (hl : x.length ≤ 10000) : Ev (fun k => nums_Parse.f k (strOfNums x)) (parse x) := by
  have hp := parse_ev (strOfNums x) (by rw [size_str]; omega)
  rwa [bytesOf_str _ hx] at hp
theorem ref_parse_s (x : List Int) (hx : ∀ b ∈ x, isB b) (hl : x.length ≤ 10000) : Ev (fun k => spenceref01_Parse.f k (strOfNums x)) (parse x) := by
  have hp := ref_parse_ev (strOfNums x) (by rw [size_str]; omega)
  rwa [bytesOf_str _ hx] at hp
theorem bare_eq (x : List Int) (hx : ∀ b ∈ x, isB b) : spec_bare.f (strOfNums x) = some (strOfNums (bareL x)) := by
  unfold spec_bare.f strings_TrimLeft.f
  rw [if_pos rfl, bytesOf_str _ hx]; rfl
theorem nil_iff (x : List Int) (hx : ∀ b ∈ x, isB b) : (strOfNums x).toList = ([] : List UInt8) ↔ x = [] := by
  rw [toList_nil, bytesOf_str _ hx]
theorem less_str (x y : List Int) (hx : ∀ b ∈ x, isB b) (hy : ∀ b ∈ y, isB b) : Op.bytesLess (strOfNums x).toList (strOfNums y).toList = lexlt x y := by
  rw [less_lex, ← bytesOf_i8, ← bytesOf_i8, bytesOf_str _ hx, bytesOf_str _ hy]
theorem late_eq (e : Int) (a b : List Int) (ha : ∀ x ∈ a, isB x) (hb : ∀ x ∈ b, isB x) : spec_late.f e (strOfNums a) (strOfNums b) = some (if e = 9 ∧ lessL b a = true then 3 else e) := by
  unfold spec_late.f
  rw [bare_eq a ha, bare_eq b hb]
  simp only [Option.bind_some, size_str]
  unfold lessL
  rw [less_str _ _ (bareL_isB hb) (bareL_isB ha)]
  by_cases h9 : e = 9
  · simp only [h9, if_true, true_and]
    by_cases h : (bareL b).length = (bareL a).length
    · rw [if_neg (by omega), if_pos (by omega), if_pos h]
      cases lexlt (bareL b) (bareL a) <;> simp
    · rw [if_neg (show ¬ (((bareL b).length : Int) = (bareL a).length) by omega), if_neg h]
      by_cases h2 : (bareL b).length < (bareL a).length
      · rw [if_pos (by omega), decide_eq_true h2, if_pos rfl]
      · rw [if_neg (by omega), decide_eq_false h2, if_neg (by decide)]
  · rw [if_neg h9, if_neg (fun g => h9 g.1)]
def worseS (a b : Int) : Int := if a = 3 ∨ b = 0 then a else if b = 3 ∨ a = 0 then b else a
theorem worse_ev (a b : Int) : Ev (fun k => spec_worse.f k a b) (worseS a b) := by
  unfold spec_worse.f worseS
  refine Ev.pos fun k => ?_
  simp only [spec_worse.j0]
  by_cases h1 : a = 3
  · simp [h1]
  · by_cases h2 : b = 0
    · simp [h1, h2]
    · by_cases h3 : b = 3
      · simp [h1, h3]
      · by_cases h4 : a = 0
        · simp [h2, h3, h4]
        · simp [h1, h2, h3, h4]
theorem single_ev (kind : Int) (x : List Int) (hx : ∀ b ∈ x, isB b) (hl : x.length ≤ 10000) : Ev (fun k => spec_single.f k kind (strOfNums x)) (singleV kind x) := by
  refine Ev.bind (parse_s x hx hl) (Ev.all fun k => ?_)
  unfold singleV e4
  by_cases h : (parse x).2 = 0
  · rw [if_pos h, if_pos h]
  · rw [if_neg h, if_neg h]
theorem parse_val (x : List Int) (h : (parse x).2 = 0) : x.all isDig = true ∧ (parse x).1 = fval 0 x := by
  unfold parse at h ⊢
  split at h
  · exact absurd h (by decide)
  · rename_i h1
    rw [if_neg h1]
    split at h
    · exact absurd h (by decide)
    · rename_i h2
      rw [if_neg h2]
      exact ⟨by have := fun e => h1 (.inr e); simpa using this, rfl⟩
theorem both_ev (a b : List Int) (ha : ∀ x ∈ a, isB x) (hb : ∀ x ∈ b, isB x) (la : a.length ≤ 10000) (lb : b.length ≤ 10000) : Ev (fun k => spec_both.f k (strOfNums a) (strOfNums b)) (bothV a b) := by
  refine Ev.bind (parse_s a ha la) ?_
  refine Ev.bind (parse_s b hb lb) ?_
  refine Ev.bind (worse_ev _ _) (Ev.all fun k => ?_)
  rw [late_eq _ a b ha hb]
  unfold bothV worseS e4
  rcases parse_kind5 a with e1 | e1 | e1 <;> rcases parse_kind5 b with e2 | e2 | e2
  · obtain ⟨d1, v1⟩ := parse_val a e1
    obtain ⟨d2, v2⟩ := parse_val b e2
    rw [less_fval b a d2 d1, ← v1, ← v2]
    by_cases h : (parse b).1 < (parse a).1 <;> simp [e1, e2, h]
  all_goals (rw [e1, e2]; cases lessL b a <;> simp)
theorem one_ev (l : List Int) (h : ∀ b ∈ l, isB b) (hl : l.length ≤ 10000) : Ev (fun k => spec_One.f k (strOfNums l)) (oneOf l) := by
  have f := cut_facts5 45 l h
  have q := cut_eq (strOfNums l) 45 (by unfold isB; omega) (by rw [size_str]; omega)
  rw [bytesOf_str _ h] at q
  unfold spec_One.f oneOf
  simp only [q, Option.bind_some]
  cases (cutOf 45 l).2.2
  · simp only [Bool.false_eq_true, if_false]; exact Ev.now _
  simp only [if_true]
  by_cases h1 : (cutOf 45 l).1 = []
  · have n1 := (nil_iff _ f.2.2.1).2 h1
    simp only [n1, if_true]; rw [if_pos h1]
    exact Ev.bind (single_ev 3 _ f.2.2.2 (by omega)) (Ev.now _)
  have n1 : ¬ (strOfNums (cutOf 45 l).1).toList = ([] : List UInt8) := fun e => h1 ((nil_iff _ f.2.2.1).1 e)
  simp only [n1, if_false]; rw [if_neg h1]
  by_cases h2 : (cutOf 45 l).2.1 = []
  · have n2 := (nil_iff _ f.2.2.2).2 h2
    simp only [n2, if_true]; rw [if_pos h2]
    exact Ev.bind (single_ev 1 _ f.2.2.1 (by omega)) (Ev.now _)
  have n2 : ¬ (strOfNums (cutOf 45 l).2.1).toList = ([] : List UInt8) := fun e => h2 ((nil_iff _ f.2.2.2).1 e)
  simp only [n2, if_false]; rw [if_neg h2]
  exact Ev.bind (both_ev _ _ f.2.2.1 f.2.2.2 (by omega) (by omega)) (Ev.now _)
theorem ref_bare_loop (n : Nat) : ∀ l : List Int, l.length = n → (∀ b ∈ l, isB b) → l.length ≤ 10000 → Ev (fun k => spenceref04_bare.l0 k (strOfNums l)) (strOfNums (bareL l)) := by
  induction n with
  | zero =>
    intro l hn hB hl
    have : l = [] := List.eq_nil_of_length_eq_zero hn
    subst this
    exact Ev.pos fun k => rfl
  | succ n ih =>
    intro l hn hB hl
    cases l with
    | nil => simp at hn
    | cons b r =>
      refine Ev.succ ?_
      simp only [spenceref04_bare.l0, size_str]
      rw [bareL_cons]
      have e0 : bt (strOfNums (b :: r)) 0 = b := by rw [bt_str _ hB, rd_eq _ _ (by omega) (by simp)]; rfl
      have c1 : (((b :: r).length : Nat) : Int) > 0 := by simp
      have c3 : (1 : Int) ≤ (((b :: r).length : Nat) : Int) := by simp; omega
      simp only [c1, c3, e0, if_true]
      by_cases h : b = 48
      · simp only [h, if_true]
        have hx : (strOfNums (48 :: r)).extract 1 (48 :: r).length = strOfNums r := by
          rw [ext_str, bytesOf_str _ (h ▸ hB), List.take_of_length_le (Nat.le_refl _)]; rfl
        rw [hx]
        exact ih r (by simpa using hn) (fun x hx => hB x (List.mem_cons_of_mem _ hx)) (by simp at hl; omega)
      · simp only [h, if_false]; exact Ev.now _
theorem ref_less_ev (x y : List Int) (hx : ∀ b ∈ x, isB b) (hy : ∀ b ∈ y, isB b) (lx : x.length ≤ 10000) (ly : y.length ≤ 10000) : Ev (fun k => spenceref04_less.f k (strOfNums x) (strOfNums y)) (lessL x y) := by
  refine Ev.bind (ref_bare_loop _ x rfl hx lx) ?_
  refine Ev.bind (ref_bare_loop _ y rfl hy ly) (Ev.all fun k => ?_)
  rw [size_str, size_str, less_str _ _ (bareL_isB hx) (bareL_isB hy)]
  unfold lessL
  by_cases h : (bareL x).length = (bareL y).length
  · rw [if_pos (by omega), if_pos h]
  · rw [if_neg (by omega), if_neg h]
    congr 1; rw [decide_eq_decide]; omega
theorem ref_one_ev (l : List Int) (h : ∀ b ∈ l, isB b) (hl : l.length ≤ 10000) : Ev (fun k => spenceref04_One.f k (strOfNums l)) (oneOf l) := by
  have f := cut_facts5 45 l h
  have q := ref_cut_ev (strOfNums l) 45 (by rw [size_str]; omega)
  rw [bytesOf_str _ h] at q
  unfold oneOf
  refine Ev.bind q ?_
  refine Ev.bind (ref_parse_s _ f.2.2.1 (by omega)) ?_
  refine Ev.bind (ref_parse_s _ f.2.2.2 (by omega)) ?_
  cases (cutOf 45 l).2.2
  · simp only [Bool.false_eq_true, if_false]; exact Ev.now _
  simp only [if_true]
  by_cases h1 : (cutOf 45 l).1 = []
  · have n1 := (nil_iff _ f.2.2.1).2 h1
    simp only [n1, if_true]
    rw [if_pos h1]
    refine Ev.all fun k => ?_
    unfold singleV e4
    by_cases e : (parse (cutOf 45 l).2.1).2 = 0
    · rw [if_pos e, if_pos e]
    · rw [if_neg e, if_neg e]
  have n1 : ¬ (strOfNums (cutOf 45 l).1).toList = ([] : List UInt8) := fun e => h1 ((nil_iff _ f.2.2.1).1 e)
  simp only [n1, if_false]
  rw [if_neg h1]
  by_cases h2 : (cutOf 45 l).2.1 = []
  · have n2 := (nil_iff _ f.2.2.2).2 h2
    simp only [n2, if_true]
    rw [if_pos h2]
    refine Ev.all fun k => ?_
    unfold singleV e4
    by_cases e : (parse (cutOf 45 l).1).2 = 0
    · rw [if_pos e, if_pos e]
    · rw [if_neg e, if_neg e]
  have n2 : ¬ (strOfNums (cutOf 45 l).2.1).toList = ([] : List UInt8) := fun e => h2 ((nil_iff _ f.2.2.2).1 e)
  simp only [n2, if_false]
  rw [if_neg h2]
  have hj : ∀ t : Bool, ((parse (cutOf 45 l).1).2 = 3 ∨ (parse (cutOf 45 l).2.1).2 = 3 ∨ lessL (cutOf 45 l).2.1 (cutOf 45 l).1 = true) = (t = true) →
      Ev (fun k => spenceref04_One.j0 k (parse (cutOf 45 l).1).1 (parse (cutOf 45 l).1).2 (parse (cutOf 45 l).2.1).1 (parse (cutOf 45 l).2.1).2 t) (bothV (cutOf 45 l).1 (cutOf 45 l).2.1) := by
    intro t ht
    refine Ev.pos fun k => ?_
    simp only [spenceref04_One.j0]
    unfold bothV e4
    simp only [ht]
    cases t
    · simp only [Bool.false_eq_true, if_false]
      by_cases e1 : (parse (cutOf 45 l).1).2 = 0 <;> by_cases e2 : (parse (cutOf 45 l).2.1).2 = 0 <;> simp [e1, e2]
    · simp
  by_cases e1 : (parse (cutOf 45 l).1).2 = 3
  · have := hj true (by simp [e1])
    refine Ev.congr (fun k => ?_) this
    rw [if_pos e1]
  by_cases e2 : (parse (cutOf 45 l).2.1).2 = 3
  · have := hj true (by simp [e2])
    refine Ev.congr (fun k => ?_) this
    rw [if_neg e1, if_pos e2]
  have := Ev.bind (ref_less_ev _ _ f.2.2.2 f.2.2.1 (by omega) (by omega)) (hj (lessL (cutOf 45 l).2.1 (cutOf 45 l).1) (by simp [e1, e2]))
  refine Ev.congr (fun k => ?_) this
  rw [if_neg e1, if_neg e2]
end Go.Proofs.YtndghocppadimaaDoor.Pure
namespace Go.Proofs.YtndghocppadimaaDoor.Pure
open Go.RowKit Go.Proofs.YtndghocppadimaaDoor.Xw Go.Proofs.YtndghocppadimaaDoor.PAll Go.Proofs.YtndghocppadimaaDoorW.PrintWords Go.Proofs.YtndghocppadimaaDoorW.PrintLast Go.Proofs.YtndghocppadimaaDoorW.PrintMore
/-- what the rest of a list comes to: whether there is any, whether it is the first element -/
def lists : Nat → List Int → Bool → Option (List (List Int))
  | 0, _, _ => none
  | n + 1, l, first =>
    if trim (cutOf 44 l).1 = [] then
      (if first = true ∧ (cutOf 44 l).2.2 = false ∧ (cutOf 44 l).1 ≠ [] then none
       else if (cutOf 44 l).2.2 then lists n (cutOf 44 l).2.1 false else some [])
    else if first = true ∧ isBl (rd (cutOf 44 l).1 0) = true then none
    else if (cutOf 44 l).2.2 then (lists n (cutOf 44 l).2.1 false).map (trim (cutOf 44 l).1 :: ·)
    else if isBl (rd (cutOf 44 l).1 (((cutOf 44 l).1.length : Int) - 1)) = true then none else some [trim (cutOf 44 l).1]
def listEnd (out : List ByteArray) : Option (List (List Int)) → List ByteArray × Bool
  | none => ([], false)
  | some ts => (out ++ ts.map strOfNums, true)
theorem listEnd_map (out : List ByteArray) (t : List Int) (o : Option (List (List Int))) : listEnd out (o.map (t :: ·)) = listEnd (out ++ [strOfNums t]) o := by
  cases o with
  | none => rfl
  | some ts => simp [listEnd]
theorem list_stop (out : List ByteArray) (s : ByteArray) (first : Bool) : Ev (fun k => text_List.l0 k out s false first) (out, true) :=
  Ev.pos (fun k => by simp [text_List.l0])
theorem cut_size (l : List Int) (h : (cutOf 44 l).2.2 = true) : (cutOf 44 l).1.length + (cutOf 44 l).2.1.length + 1 = l.length := by
  have := congrArg List.length (cutOf_yes 44 l h).1
  rw [List.length_append, List.length_cons] at this
  omega
theorem cut_len (l : List Int) : (cutOf 44 l).1.length ≤ l.length := by
  cases h : (cutOf 44 l).2.2
  · rw [(cutOf_no 44 l h).1]; exact Nat.le_refl _
  · have := cut_size l h; omega
theorem cut_mem1 {l : List Int} {b : Int} (h : b ∈ (cutOf 44 l).1) : b ∈ l := by
  cases hc : (cutOf 44 l).2.2
  · rwa [(cutOf_no 44 l hc).1] at h
  · rw [(cutOf_yes 44 l hc).1]; exact List.mem_append.2 (.inl h)
theorem cut_mem2 {l : List Int} {b : Int} (h : b ∈ (cutOf 44 l).2.1) : b ∈ l := by
  cases hc : (cutOf 44 l).2.2
  · rw [(cutOf_no 44 l hc).2.1] at h; cases h
  · rw [(cutOf_yes 44 l hc).1]; exact List.mem_append.2 (.inr (List.mem_cons_of_mem _ h))
theorem list_loop (n : Nat) : ∀ (l : List Int) (out : List ByteArray) (first : Bool), (∀ b ∈ l, isB b) → l.length < n → out.length + l.length + 1 ≤ 8796093022208 →
    Ev (fun k => text_List.l0 k out (strOfNums l) true first) (listEnd out (lists n l first)) := by
  induction n with
  | zero => intro l out first _ h; omega
  | succ n ih =>
    intro l out first hl hn ho
    have hc := cut_eq (strOfNums l) 44 (by unfold isB; omega) (by rw [size_str]; omega)
    rw [bytesOf_str l hl] at hc
    have hcl := cut_len l
    have hcb : ∀ b ∈ (cutOf 44 l).1, isB b := fun b hb => hl b (cut_mem1 hb)
    have ht := trim_ev (strOfNums (cutOf 44 l).1) (by rw [size_str]; omega)
    rw [bytesOf_str _ hcb] at ht
    have htb : ∀ b ∈ trim (cutOf 44 l).1, isB b := fun b hb => hcb b (trim_mem hb)
    have htn : (strOfNums (trim (cutOf 44 l).1)).toList = ([] : List UInt8) ↔ trim (cutOf 44 l).1 = [] := by rw [toList_nil, bytesOf_str _ htb]
    have hcn : (strOfNums (cutOf 44 l).1).toList = ([] : List UInt8) ↔ (cutOf 44 l).1 = [] := by rw [toList_nil, bytesOf_str _ hcb]
    have hnext : ∀ out2 : List ByteArray, out2.length ≤ out.length + 1 → Ev (fun k => text_List.l0 k out2 (strOfNums (cutOf 44 l).2.1) (cutOf 44 l).2.2 false) (listEnd out2 (if (cutOf 44 l).2.2 then lists n (cutOf 44 l).2.1 false else some [])) := by
      intro out2 h2
      cases hx : (cutOf 44 l).2.2
      · have := list_stop out2 (strOfNums (cutOf 44 l).2.1) false
        rw [if_neg (by decide)]; unfold listEnd; simpa using this
      · have := cut_size l hx
        rw [if_pos rfl]
        exact ih _ _ _ (fun b hb => hl b (cut_mem2 hb)) (by omega) (by omega)
    refine Ev.succ ?_
    simp only [text_List.l0, hc, Option.bind_some, if_true]
    refine Ev.bind ht ?_
    rw [lists]
    by_cases hz : trim (cutOf 44 l).1 = []
    · rw [if_pos hz]
      have hz2 := htn.2 hz
      simp only [hz2, if_true]
      cases first with
      | false =>
        simp only [Bool.false_eq_true, if_false, false_and]
        exact hnext out (by omega)
      | true =>
        simp only [if_true, true_and]
        cases hx : (cutOf 44 l).2.2
        · simp only [Bool.false_eq_true, if_false, true_and]
          by_cases hq : (cutOf 44 l).1 = []
          · have hq2 := hcn.2 hq
            simp only [hq2, if_true]
            rw [if_neg (fun h => h hq)]
            have := hnext out (by omega)
            rw [hx] at this
            simpa using this
          · have hq2 : ¬ (strOfNums (cutOf 44 l).1).toList = ([] : List UInt8) := fun h => hq (hcn.1 h)
            simp only [hq2, if_false]
            rw [if_pos hq]
            exact Ev.now _
        · simp only [if_true, Bool.true_eq_false, false_and, if_false]
          have := hnext out (by omega)
          rw [hx] at this
          simpa using this
    · rw [if_neg hz]
      have hz2 : ¬ (strOfNums (trim (cutOf 44 l).1)).toList = ([] : List UInt8) := fun h => hz (htn.1 h)
      have hpos : 0 < (cutOf 44 l).1.length := by
        rcases Nat.eq_zero_or_pos (cutOf 44 l).1.length with h | h
        · exact absurd (by rw [List.eq_nil_of_length_eq_zero h]; rfl) hz
        · exact h
      have hw : wrap64 (((cutOf 44 l).1.length : Int) - 1) = ((cutOf 44 l).1.length : Int) - 1 := wrap_id (by omega)
      simp only [hz2, if_false, blank_eq, Option.bind_some, size_str, bt_str _ hcb, hw, show (0 : Int) < ((cutOf 44 l).1.length : Int) by omega, show (0 : Int) ≤ ((cutOf 44 l).1.length : Int) - 1 by omega, show ((cutOf 44 l).1.length : Int) - 1 < ((cutOf 44 l).1.length : Int) by omega, if_true, show out.length < 8796093022208 by omega]
      have key : Ev (fun k => if (cutOf 44 l).2.2 = true then text_List.l0 k (out ++ [strOfNums (trim (cutOf 44 l).1)]) (strOfNums (cutOf 44 l).2.1) (cutOf 44 l).2.2 false
            else if isBl (rd (cutOf 44 l).1 (((cutOf 44 l).1.length : Int) - 1)) = true then some ([], false) else text_List.l0 k (out ++ [strOfNums (trim (cutOf 44 l).1)]) (strOfNums (cutOf 44 l).2.1) (cutOf 44 l).2.2 false)
          (listEnd out (if (cutOf 44 l).2.2 then (lists n (cutOf 44 l).2.1 false).map (trim (cutOf 44 l).1 :: ·) else if isBl (rd (cutOf 44 l).1 (((cutOf 44 l).1.length : Int) - 1)) = true then none else some [trim (cutOf 44 l).1])) := by
        have hnx := hnext (out ++ [strOfNums (trim (cutOf 44 l).1)]) (by simp)
        cases hx : (cutOf 44 l).2.2
        · rw [hx] at hnx
          simp only [Bool.false_eq_true, if_false] at hnx ⊢
          by_cases hq : isBl (rd (cutOf 44 l).1 (((cutOf 44 l).1.length : Int) - 1)) = true
          · simp only [hq, if_true]; exact Ev.now _
          · simp only [hq, Bool.false_eq_true, if_false]
            simpa [listEnd] using hnx
        · rw [hx] at hnx
          simp only [if_true] at hnx ⊢
          rw [listEnd_map]
          exact hnx
      cases first with
      | false =>
        simp only [Bool.false_eq_true, if_false, false_and]
        exact key
      | true =>
        simp only [if_true, true_and]
        by_cases hq : isBl (rd (cutOf 44 l).1 0) = true
        · simp only [hq, if_true]; exact Ev.now _
        · simp only [hq, Bool.false_eq_true, if_false]
          exact key
theorem list_ev (s : ByteArray) (hs : s.size + 1 ≤ 8796093022208) : Ev (fun k => text_List.f k s) (listEnd [] (lists (s.size + 1) (bytesOf s) true)) := by
  have := list_loop (s.size + 1) (bytesOf s) [] true (bytesOf_isB s) (by rw [bytesOf_length]; omega) (by rw [bytesOf_length]; simpa using hs)
  rw [str_bytes] at this
  exact this
end Go.Proofs.YtndghocppadimaaDoor.Pure
namespace Go.Proofs.YtndghocppadimaaDoor.Pure
open Go.RowKit Go.Proofs.YtndghocppadimaaDoor.PAll Go.Proofs.YtndghocppadimaaDoorW.PrintWords Go.Proofs.YtndghocppadimaaDoorW.PrintLast Go.Proofs.YtndghocppadimaaDoorW.PrintMore
def piecesOf (cur : List Int) : List Int → List (List Int)
  | [] => [cur]
  | b :: l => if b = 44 then cur :: piecesOf [] l else piecesOf (cur ++ [b]) l
theorem piecesOf_cut : ∀ (l cur : List Int), piecesOf cur l = if (cutOf 44 l).2.2 then (cur ++ (cutOf 44 l).1) :: piecesOf [] (cutOf 44 l).2.1 else [cur ++ (cutOf 44 l).1]
  | [], cur => by simp [piecesOf, cutOf]
  | b :: l, cur => by
    have ih := piecesOf_cut l (cur ++ [b])
    rw [piecesOf, cutOf]
    by_cases h : b = 44
    · rw [if_pos h, if_pos h]; simp
    · rw [if_neg h, if_neg h, ih]; simp
theorem piecesOf_ne (l cur : List Int) : piecesOf cur l ≠ [] := by
  rw [piecesOf_cut]; split <;> simp
theorem piecesOf_isB : ∀ (l cur : List Int), (∀ b ∈ l, isB b) → (∀ b ∈ cur, isB b) → ∀ p ∈ piecesOf cur l, ∀ b ∈ p, isB b
  | [], cur, _, hc, p, hp => by rw [piecesOf, List.mem_singleton] at hp; rw [hp]; exact hc
  | x :: l, cur, hl, hc, p, hp => by
    have hl2 : ∀ b ∈ l, isB b := fun b hb => hl b (List.mem_cons_of_mem _ hb)
    rw [piecesOf] at hp
    by_cases h : x = 44
    · rw [if_pos h] at hp
      rcases List.mem_cons.1 hp with e | e
      · rw [e]; exact hc
      · exact piecesOf_isB l [] hl2 (by simp) p e
    · rw [if_neg h] at hp
      refine piecesOf_isB l (cur ++ [x]) hl2 (fun b hb => ?_) p hp
      rcases List.mem_append.1 hb with e | e
      · exact hc b e
      · rw [List.mem_singleton.1 e]; exact hl x List.mem_cons_self
theorem piecesOf_len : ∀ (l cur : List Int), (piecesOf cur l).length ≤ l.length + 1
  | [], cur => by simp [piecesOf]
  | x :: l, cur => by
    rw [piecesOf]
    by_cases h : x = 44
    · rw [if_pos h, List.length_cons, List.length_cons]; have := piecesOf_len l []; omega
    · rw [if_neg h, List.length_cons]; have := piecesOf_len l (cur ++ [x]); omega
theorem piecesOf_size : ∀ (l cur : List Int), ∀ p ∈ piecesOf cur l, p.length ≤ cur.length + l.length
  | [], cur, p, hp => by rw [piecesOf, List.mem_singleton] at hp; rw [hp]; simp
  | x :: l, cur, p, hp => by
    rw [piecesOf] at hp
    by_cases h : x = 44
    · rw [if_pos h] at hp
      rcases List.mem_cons.1 hp with e | e
      · rw [e]; omega
      · have := piecesOf_size l [] p e; simp only [List.length_nil, List.length_cons] at *; omega
    · rw [if_neg h] at hp
      have := piecesOf_size l (cur ++ [x]) p hp
      simp only [List.length_append, List.length_cons, List.length_nil] at *; omega
theorem pieces_loop (s : ByteArray) (hs : s.size ≤ 10000) (d : Nat) : ∀ (i : Int) (done : List ByteArray) (cur : List Int), 0 ≤ i → i ≤ s.size → (s.size : Int) - i = d → done.length + cur.length ≤ i.toNat →
    Ev (fun k => spenceref01_Pieces.l0 k s false (done ++ [strOfNums cur]) false i) (done ++ (piecesOf cur ((bytesOf s).drop i.toNat)).map strOfNums) := by
  induction d with
  | zero =>
    intro i done cur h0 h1 hd hc
    refine Ev.pos (fun k => ?_)
    have hz : (bytesOf s).drop i.toNat = [] := List.drop_of_length_le (by rw [bytesOf_length]; omega)
    simp only [spenceref01_Pieces.l0]
    rw [if_neg (by omega), hz]; rfl
  | succ d ih =>
    intro i done cur h0 h1 hd hc
    have hi : i < s.size := by omega
    have hw : wrap64 (i + 1) = i + 1 := wrap_id (by omega)
    have hl : (done ++ [strOfNums cur]).length = done.length + 1 := by simp
    have hlw : wrap64 (((done ++ [strOfNums cur]).length : Int) - 1) = (done.length : Int) := by rw [hl, wrap_id (by omega)]; omega
    have hrd : rdOf ByteArray.empty (done ++ [strOfNums cur]) (done.length : Int) = strOfNums cur := by simp [rdOf]
    have hset : ∀ y, (done ++ [strOfNums cur]).set ((done.length : Int)).toNat y = done ++ [y] := by
      intro y; rw [Int.toNat_natCast, List.set_append_right _ _ (Nat.le_refl _)]; simp
    rw [bytes_drop s i h0 hi, piecesOf]
    refine Ev.step (f := fun k => spenceref01_Pieces.j1 k s false (done ++ [strOfNums cur]) false i false) (fun k => ?_) ?_
    · simp only [spenceref01_Pieces.l0]
      rw [if_pos hi, if_pos h0]
      by_cases hq : bt s i = 34
      · rw [if_pos hq]
      · rw [if_neg hq]
    by_cases hb : bt s i = 44
    · rw [if_pos hb]
      have := ih (i + 1) (done ++ [strOfNums cur]) [] (by omega) (by omega) (by omega) (by rw [hl]; simp; omega)
      rw [List.append_assoc, List.singleton_append] at this
      rw [List.map_cons]
      refine Ev.step (fun k => ?_) (by rw [List.append_assoc] at this; exact this)
      simp only [spenceref01_Pieces.j1, hw]
      rw [if_neg (by decide), if_pos h0, if_pos hi, if_pos hb, if_neg (by decide), if_pos (by rw [hl]; omega)]
      rw [List.append_assoc]; rfl
    · rw [if_neg hb]
      have := ih (i + 1) done (cur ++ [bt s i]) (by omega) (by omega) (by omega) (by simp; omega)
      refine Ev.step (fun k => ?_) this
      simp only [spenceref01_Pieces.j1, hw, hlw, hrd, hset, Option.bind_some, size_str, str_append]
      rw [if_neg (by decide), if_pos h0, if_pos hi, if_neg hb, if_pos (by omega), if_pos (by rw [hl]; omega), if_pos (by simp; omega)]
theorem pieces_ev (s : ByteArray) (hs : s.size ≤ 10000) : Ev (fun k => spenceref01_Pieces.f k s false) ((piecesOf [] (bytesOf s)).map strOfNums) := by
  have := pieces_loop s hs s.size 0 [] [] (by omega) (by omega) (by omega) (by simp)
  rw [Int.toNat_zero, List.drop_zero, List.nil_append, List.nil_append] at this
  exact this
/-- what the elements of pieces are -/
def lists2 (first : Bool) : List (List Int) → Option (List (List Int))
  | [] => some []
  | p :: r =>
    if trim p = [] then (if first = true ∧ r = [] ∧ p ≠ [] then none else lists2 false r)
    else if first = true ∧ isBl (rd p 0) = true then none
    else if r = [] ∧ isBl (rd p ((p.length : Int) - 1)) = true then none
    else (lists2 false r).map (trim p :: ·)
theorem lists2_cons (first : Bool) (p : List Int) (r : List (List Int)) : lists2 first (p :: r) =
    if trim p = [] then (if first = true ∧ r = [] ∧ p ≠ [] then none else lists2 false r)
    else if first = true ∧ isBl (rd p 0) = true then none
    else if r = [] ∧ isBl (rd p ((p.length : Int) - 1)) = true then none
    else (lists2 false r).map (trim p :: ·) := rfl
theorem lists2_nil (first : Bool) : lists2 first [] = some [] := rfl
theorem lists_lists2 (n : Nat) : ∀ (l : List Int) (first : Bool), l.length < n → lists n l first = lists2 first (piecesOf [] l) := by
  induction n with
  | zero => intro l first h; omega
  | succ n ih =>
    intro l first h
    have e := piecesOf_cut l []
    rw [List.nil_append] at e
    cases hx : (cutOf 44 l).2.2
    · rw [hx, if_neg (by decide)] at e
      rw [e, lists2_cons, lists2_nil, lists, hx]
      simp only [Bool.false_eq_true, if_false, true_and, Option.map_some]
    · have hsz := cut_size l hx
      have hne := piecesOf_ne (cutOf 44 l).2.1 []
      rw [hx, if_pos rfl] at e
      rw [e, lists2_cons, lists, hx, ih _ false (by omega)]
      simp only [Bool.true_eq_false, false_and, and_false, if_false, if_true, hne]
theorem ref_list_loop (ps : List (List Int)) (hp : ∀ p ∈ ps, ∀ b ∈ p, isB b) (hz : ∀ p ∈ ps, p.length ≤ 10000) (hl : ps.length ≤ 10001) (d : Nat) : ∀ (i : Int) (out : List ByteArray), 0 ≤ i → i ≤ ps.length → (ps.length : Int) - i = d → out.length ≤ i.toNat →
    Ev (fun k => spenceref01_List.l0 k (ps.map strOfNums) out (ps.map strOfNums) ps.length i) (listEnd out (lists2 (decide (i = 0)) (ps.drop i.toNat))) := by
  induction d with
  | zero =>
    intro i out h0 h1 hd ho
    refine Ev.pos (fun k => ?_)
    have : ps.drop i.toNat = [] := List.drop_of_length_le (by omega)
    simp only [spenceref01_List.l0]
    rw [if_neg (by omega), this]
    simp [lists2, listEnd]
  | succ d ih =>
    intro i out h0 h1 hd ho
    have hi : i.toNat < ps.length := by omega
    have e1 : (i + 1).toNat = i.toNat + 1 := by omega
    have hdr := List.drop_eq_getElem_cons hi
    have hrd : rdOf ByteArray.empty (ps.map strOfNums) i = strOfNums ps[i.toNat] := by simp [rdOf, hi]
    have hpB := hp ps[i.toNat] (List.getElem_mem hi)
    have hpz := hz ps[i.toNat] (List.getElem_mem hi)
    rw [hdr, lists2_cons]
    generalize ps[i.toNat] = p at hrd hpB hpz
    have hnil : ps.drop (i.toNat + 1) = [] ↔ i = (ps.length : Int) - 1 := by
      rw [List.drop_eq_nil_iff]; omega
    have hw : wrap64 (i + 1) = i + 1 := wrap_id (by omega)
    have hw2 : wrap64 ((ps.length : Int) - 1) = (ps.length : Int) - 1 := wrap_id (by omega)
    have hw3 : wrap64 ((p.length : Int) - 1) = (p.length : Int) - 1 := wrap_id (by omega)
    have hnx : ∀ out2 : List ByteArray, out2.length ≤ (i + 1).toNat → Ev (fun k => spenceref01_List.l0 k (ps.map strOfNums) out2 (ps.map strOfNums) ps.length (i + 1)) (listEnd out2 (lists2 false (ps.drop (i.toNat + 1)))) := by
      intro out2 h2
      have := ih (i + 1) out2 (by omega) (by omega) (by omega) h2
      rw [decide_eq_false (by omega), e1] at this
      exact this
    have ht := ref_trim_eq (strOfNums p) (by rw [size_str]; omega) false
    rw [bytesOf_str _ hpB, rtrims, if_neg (by decide)] at ht
    have htB : ∀ b ∈ trim p, isB b := fun b hb => hpB b (trim_mem hb)
    refine Ev.succ ?_
    simp only [spenceref01_List.l0, hrd, hw]
    simp only [show i < (ps.length : Int) by omega, h0, if_true, List.length_map]
    refine Ev.bind ht ?_
    have ez : (strOfNums (trim p)).toList = ([] : List UInt8) ↔ trim p = [] := by rw [toList_nil, bytesOf_str _ htB]
    have ep : (strOfNums p).toList = ([] : List UInt8) ↔ p = [] := by rw [toList_nil, bytesOf_str _ hpB]
    by_cases hz1 : trim p = []
    · rw [if_pos hz1]
      simp only [ez.2 hz1, if_true]
      by_cases hone : (ps.length : Int) = 1
      · have hi0 : i = 0 := by omega
        have hnil2 := hnil.2 (by omega)
        simp only [hone, if_true]
        by_cases hpe : p = []
        · simp only [ep.2 hpe, if_true]
          rw [if_neg (fun h => h.2.2 hpe)]
          have := hnx out (by omega)
          rw [hone] at this
          exact this
        · have hpe' : ¬ (strOfNums p).toList = ([] : List UInt8) := fun h => hpe (ep.1 h)
          simp only [hpe', if_false]
          rw [if_pos ⟨decide_eq_true hi0, hnil2, hpe⟩]
          exact Ev.now _
      · simp only [hone, if_false]
        have : ¬ (decide (i = 0) = true ∧ ps.drop (i.toNat + 1) = [] ∧ p ≠ []) := by
          rintro ⟨h2, h3, -⟩
          have := of_decide_eq_true h2
          have := hnil.1 h3
          omega
        rw [if_neg this]
        exact hnx out (by omega)
    · rw [if_neg hz1]
      have hz1' : ¬ (strOfNums (trim p)).toList = ([] : List UInt8) := fun h => hz1 (ez.1 h)
      have hpos : 0 < p.length := by
        rcases Nat.eq_zero_or_pos p.length with h | h
        · exact absurd (by rw [List.eq_nil_of_length_eq_zero h]; rfl) hz1
        · exact h
      simp only [hz1', if_false, ref_blank_eq, Option.bind_some, size_str, bt_str _ hpB, hw3, show (0 : Int) < (p.length : Int) by omega, show (0 : Int) ≤ (p.length : Int) - 1 by omega, show (p.length : Int) - 1 < (p.length : Int) by omega, show out.length < 8796093022208 by omega, if_true]
      have key : Ev (fun k => if i = (ps.length : Int) - 1 then (if isBl (rd p ((p.length : Int) - 1)) = true then some ([], false) else spenceref01_List.l0 k (ps.map strOfNums) (out ++ [strOfNums (trim p)]) (ps.map strOfNums) ps.length (i + 1)) else spenceref01_List.l0 k (ps.map strOfNums) (out ++ [strOfNums (trim p)]) (ps.map strOfNums) ps.length (i + 1))
          (listEnd out (if ps.drop (i.toNat + 1) = [] ∧ isBl (rd p ((p.length : Int) - 1)) = true then none else (lists2 false (ps.drop (i.toNat + 1))).map (trim p :: ·))) := by
        have hn2 := hnx (out ++ [strOfNums (trim p)]) (by simp; omega)
        by_cases hlast : i = (ps.length : Int) - 1
        · simp only [hnil.2 hlast, true_and]
          rw [hnil.2 hlast] at hn2
          by_cases hq : isBl (rd p ((p.length : Int) - 1)) = true
          · simp only [hq, if_true]
            refine Ev.congr (fun k => if_pos hlast) (Ev.now _)
          · rw [if_neg hq, listEnd_map]
            refine Ev.congr (fun k => ?_) hn2
            rw [if_pos hlast, if_neg hq]
        · have : ¬ (ps.drop (i.toNat + 1) = [] ∧ isBl (rd p ((p.length : Int) - 1)) = true) := fun h => hlast (hnil.1 h.1)
          rw [if_neg this, listEnd_map]
          refine Ev.congr (fun k => if_neg hlast) hn2
      by_cases hi0 : i = 0
      · have hd0 : decide (i = 0) = true := decide_eq_true hi0
        rw [hd0]
        by_cases hq : isBl (rd p 0) = true
        · rw [if_pos ⟨rfl, hq⟩]
          refine Ev.congr (fun k => ?_) (Ev.now _)
          rw [if_pos hi0, if_pos hq]; rfl
        · rw [if_neg (fun h => hq h.2)]
          refine Ev.congr (fun k => ?_) key
          rw [if_pos hi0, if_neg hq, hw2]
      · have hd0 : decide (i = 0) = false := decide_eq_false hi0
        rw [hd0, if_neg (fun h => by cases h.1)]
        refine Ev.congr (fun k => ?_) key
        rw [if_neg hi0, hw2]
end Go.Proofs.YtndghocppadimaaDoor.Pure
namespace Go.Proofs.YtndghocppadimaaDoor.Pure
open Go.RowKit Go.Proofs.YtndghocppadimaaDoor.Xw Go.Proofs.YtndghocppadimaaDoor.PAll Go.Proofs.YtndghocppadimaaDoorW.PrintWords Go.Proofs.YtndghocppadimaaDoorW.PrintLast Go.Proofs.YtndghocppadimaaDoorW.PrintMore
abbrev SpecS := S33
def mkS (v : Int × Int × Int × Int) : SpecS := ⟨v.1, v.2.1, v.2.2.1⟩
def specsR (out : List SpecS) (bad : Int) : List (List Int) → List SpecS × Int
  | [] => if bad = 0 then (if out.length > 16 then ([], 10) else (out, 0)) else ([], bad)
  | p :: r => specsR (out ++ [mkS (oneOf p)]) (worseS bad (oneOf p).2.2.2) r
def specsE : Option (List (List Int)) → List SpecS × Int
  | some (t :: ts) => specsR [] 0 (t :: ts)
  | _ => ([], 3)
def specsOf (l : List Int) : List SpecS × Int :=
  if (cutOf 61 (trim l)).2.2 = true then (if (cutOf 61 (trim l)).1.map lowI = [98, 121, 116, 101, 115] then specsE (lists2 true (piecesOf [] (cutOf 61 (trim l)).2.1)) else ([], 3)) else ([], 3)
theorem one_kind (p : List Int) : (oneOf p).2.2.2 = 0 ∨ (oneOf p).2.2.2 = 3 ∨ (oneOf p).2.2.2 = 9 := by
  have hs : ∀ (kind : Int) (l : List Int), (singleV kind l).2.2.2 = 0 ∨ (singleV kind l).2.2.2 = 3 ∨ (singleV kind l).2.2.2 = 9 := by
    intro kind l
    unfold singleV e4
    have := parse_kind5 l
    split
    · simp
    · exact this
  have hb : ∀ a b : List Int, (bothV a b).2.2.2 = 0 ∨ (bothV a b).2.2.2 = 3 ∨ (bothV a b).2.2.2 = 9 := by
    intro a b
    unfold bothV e4
    split
    · simp
    · split <;> simp
  unfold oneOf
  split
  · split
    · exact hs _ _
    · split
      · exact hs _ _
      · exact hb _ _
  · unfold e4; simp
theorem specsR_three : ∀ (ps : List (List Int)) (out : List SpecS), specsR out 3 ps = ([], 3)
  | [], out => by simp [specsR]
  | p :: r, out => by
    have e : worseS 3 (oneOf p).2.2.2 = 3 := by simp [worseS]
    rw [specsR, e, specsR_three r]
theorem lists2_facts : ∀ (ps : List (List Int)) (first : Bool) (ts : List (List Int)), lists2 first ps = some ts → ts.length ≤ ps.length ∧ ∀ t ∈ ts, ∃ p ∈ ps, t = trim p := by
  intro ps
  induction ps with
  | nil => intro first ts h; rw [lists2_nil] at h; rw [← Option.some.inj h]; simp
  | cons p r ih =>
    intro first ts h
    rw [lists2_cons] at h
    split at h
    · split at h
      · cases h
      · obtain ⟨h1, h2⟩ := ih _ _ h
        exact ⟨by simp; omega, fun t ht => by obtain ⟨q, hq, e⟩ := h2 t ht; exact ⟨q, List.mem_cons_of_mem _ hq, e⟩⟩
    · split at h
      · cases h
      · split at h
        · cases h
        · cases hr : lists2 false r with
          | none => rw [hr] at h; cases h
          | some us =>
            rw [hr] at h
            obtain rfl := Option.some.inj h
            obtain ⟨h1, h2⟩ := ih _ _ hr
            refine ⟨by simp; omega, fun t ht => ?_⟩
            rcases List.mem_cons.1 ht with e | ht
            · exact ⟨p, List.mem_cons_self, e⟩
            · obtain ⟨q, hq, e⟩ := h2 t ht; exact ⟨q, List.mem_cons_of_mem _ hq, e⟩
theorem sparse_loop (ps : List (List Int)) (hp : ∀ p ∈ ps, ∀ b ∈ p, isB b) (hz : ∀ p ∈ ps, p.length ≤ 10000) (hl : ps.length ≤ 10001) (d : Nat) : ∀ (i : Int) (out : List SpecS) (bad : Int), 0 ≤ i → i ≤ ps.length → (ps.length : Int) - i = d → out.length = i.toNat →
    Ev (fun k => spec_Parse.l0 k (ps.map strOfNums) out bad (ps.map strOfNums) ps.length i) (specsR out bad (ps.drop i.toNat)) := by
  induction d with
  | zero =>
    intro i out bad h0 h1 hd ho
    refine Ev.pos (fun k => ?_)
    have : ps.drop i.toNat = [] := List.drop_of_length_le (by omega)
    simp only [spec_Parse.l0]
    rw [if_neg (by omega), this, specsR, List.length_map]
    by_cases hb : bad = 0
    · rw [if_pos hb, if_pos hb]
      by_cases h16 : out.length > 16
      · rw [if_pos (by omega), if_pos h16]
      · rw [if_neg (by omega), if_neg h16]
    · rw [if_neg hb, if_neg hb]
  | succ d ih =>
    intro i out bad h0 h1 hd ho
    have hi : i.toNat < ps.length := by omega
    have e1 : (i + 1).toNat = i.toNat + 1 := by omega
    have hrd : rdOf ByteArray.empty (ps.map strOfNums) i = strOfNums ps[i.toNat] := by simp [rdOf, hi]
    have hpB := hp ps[i.toNat] (List.getElem_mem hi)
    have hpz := hz ps[i.toNat] (List.getElem_mem hi)
    rw [List.drop_eq_getElem_cons hi, specsR]
    generalize ps[i.toNat] = p at hrd hpB hpz
    have hn := ih (i + 1) (out ++ [mkS (oneOf p)]) (worseS bad (oneOf p).2.2.2) (by omega) (by omega) (by omega) (by simp; omega)
    rw [e1] at hn
    refine Ev.succ ?_
    simp only [spec_Parse.l0, List.length_map, show i < (ps.length : Int) by omega, h0, if_true, hrd]
    refine Ev.bind (one_ev p hpB hpz) ?_
    refine Ev.bind (worse_ev _ _) ?_
    refine Ev.congr (fun k => ?_) hn
    rw [if_pos (by omega), wrap_id (by omega)]; rfl
theorem rspecs_loop (ps : List (List Int)) (hp : ∀ p ∈ ps, ∀ b ∈ p, isB b) (hz : ∀ p ∈ ps, p.length ≤ 10000) (hl : ps.length ≤ 10001) (d : Nat) : ∀ (i : Int) (out : List SpecS) (bad : Int), (bad = 0 ∨ bad = 9) → 0 ≤ i → i ≤ ps.length → (ps.length : Int) - i = d → out.length = i.toNat →
    Ev (fun k => spenceref04_Specs.l0 k out (bad != 0) (ps.map strOfNums) ps.length i) (specsR out bad (ps.drop i.toNat)) := by
  induction d with
  | zero =>
    intro i out bad hbad h0 h1 hd ho
    refine Ev.pos (fun k => ?_)
    have : ps.drop i.toNat = [] := List.drop_of_length_le (by omega)
    simp only [spenceref04_Specs.l0]
    rw [if_neg (by omega), this, specsR]
    rcases hbad with hb | hb
    · subst hb
      rw [if_neg (by decide), if_pos rfl]
      by_cases h16 : out.length > 16
      · rw [if_pos (by omega), if_pos h16]
      · rw [if_neg (by omega), if_neg h16]
    · subst hb
      rw [if_pos (by decide), if_neg (by decide)]
  | succ d ih =>
    intro i out bad hbad h0 h1 hd ho
    have hi : i.toNat < ps.length := by omega
    have e1 : (i + 1).toNat = i.toNat + 1 := by omega
    have hrd : rdOf ByteArray.empty (ps.map strOfNums) i = strOfNums ps[i.toNat] := by simp [rdOf, hi]
    have hpB := hp ps[i.toNat] (List.getElem_mem hi)
    have hpz := hz ps[i.toNat] (List.getElem_mem hi)
    rw [List.drop_eq_getElem_cons hi, specsR]
    generalize ps[i.toNat] = p at hrd hpB hpz
    refine Ev.succ ?_
    simp only [spenceref04_Specs.l0, List.length_map, show i < (ps.length : Int) by omega, h0, if_true, hrd]
    refine Ev.bind (ref_one_ev p hpB hpz) ?_
    by_cases h3 : (oneOf p).2.2.2 = 3
    · have e : worseS bad 3 = 3 := by rcases hbad with h | h <;> rw [h] <;> decide
      simp only [h3, if_true]
      rw [e, specsR_three]
      exact Ev.now _
    have hk : (oneOf p).2.2.2 = 0 ∨ (oneOf p).2.2.2 = 9 := by rcases one_kind p with h | h | h; exact .inl h; exact absurd h h3; exact .inr h
    simp only [h3, if_false]
    have hn := ih (i + 1) (out ++ [mkS (oneOf p)]) (worseS bad (oneOf p).2.2.2) (by rcases hbad with h | h <;> rcases hk with g | g <;> rw [h, g] <;> decide) (by omega) (by omega) (by omega) (by simp; omega)
    rw [e1] at hn
    refine Ev.congr (fun k => ?_) hn
    rcases hbad with h | h
    · subst h
      rw [if_neg (by decide), if_pos (by omega), wrap_id (by omega)]
      have : worseS 0 (oneOf p).2.2.2 = (oneOf p).2.2.2 := by rcases hk with g | g <;> rw [g] <;> decide
      rw [this]; rfl
    · subst h
      rw [if_pos (by decide), if_pos (by omega), wrap_id (by omega)]
      have : worseS 9 (oneOf p).2.2.2 = 9 := by rcases hk with g | g <;> rw [g] <;> decide
      rw [this]; rfl
theorem unit5 : (strOfNums ((bytesOf (⟨#[98, 121, 116, 101, 115]⟩ : ByteArray)).map lowI)) = strOfNums [98, 121, 116, 101, 115] := by decide
theorem low_isB5 {l : List Int} (h : ∀ b ∈ l, isB b) : ∀ b ∈ l.map lowI, isB b := by
  intro b hb; obtain ⟨x, hx, rfl⟩ := List.mem_map.1 hb; exact lowI_isB x (h x hx)
theorem facts5 (l : List Int) (h : ∀ b ∈ l, isB b) (hl : l.length ≤ 10000) :
    (∀ b ∈ trim l, isB b) ∧ (trim l).length ≤ 10000 ∧ ((cutOf 61 (trim l)).1.length ≤ 10000 ∧ (cutOf 61 (trim l)).2.1.length ≤ 10000) ∧ (∀ b ∈ (cutOf 61 (trim l)).1, isB b) ∧ (∀ b ∈ (cutOf 61 (trim l)).2.1, isB b) := by
  have ht : ∀ b ∈ trim l, isB b := fun b hb => h b (trim_mem hb)
  have hz := trim_len l
  have f := cut_facts5 61 (trim l) ht
  exact ⟨ht, by omega, ⟨by omega, by omega⟩, f.2.2.1, f.2.2.2⟩
theorem spec_parse_ev (s : ByteArray) (hs : s.size ≤ 10000) : Ev (fun k => spec_Parse.f k s) (specsOf (bytesOf s)) := by
  obtain ⟨f1, f2, ⟨f3, f4⟩, f5, f6⟩ := facts5 (bytesOf s) (bytesOf_isB s) (by rw [bytesOf_length]; exact hs)
  have q := cut_eq (strOfNums (trim (bytesOf s))) 61 (by unfold isB; omega) (by rw [size_str]; omega)
  rw [bytesOf_str _ f1] at q
  refine Ev.bind (trim_ev s (by omega)) ?_
  unfold specsOf
  simp only [q, Option.bind_some]
  generalize (cutOf 61 (trim (bytesOf s))).1 = c1 at f3 f5
  generalize (cutOf 61 (trim (bytesOf s))).2.1 = c2 at f4 f6
  generalize (cutOf 61 (trim (bytesOf s))).2.2 = c3
  have h1 := list_ev (strOfNums c2) (by rw [size_str]; omega)
  rw [size_str, bytesOf_str _ f6, lists_lists2 _ _ _ (by omega)] at h1
  refine Ev.bind h1 ?_
  have hB := piecesOf_isB c2 [] f6 (by simp)
  have hZ := piecesOf_size c2 []
  have hL := piecesOf_len c2 []
  simp only [List.length_nil] at hZ
  have no : ∀ l, Ev (fun k => spec_Parse.j0 k l true) (([] : List SpecS), (3 : Int)) := fun l => Ev.pos fun k => by simp only [spec_Parse.j0, if_true]
  cases c3
  · simp only [Bool.false_eq_true, if_false]; exact no _
  simp only [if_true]
  have hf := fold_eq (strOfNums c1) (⟨#[98, 121, 116, 101, 115]⟩ : ByteArray) (by rw [size_str]; omega) (by decide)
  rw [bytesOf_str _ f5, unit5, toList_beq, bytesOf_str _ (low_isB5 f5), bytesOf_str _ (by simp [isB])] at hf
  rw [hf]
  simp only [Option.bind_some]
  by_cases hu : c1.map lowI = [98, 121, 116, 101, 115]
  · simp only [hu, decide_true, if_true]
    cases hx : lists2 true (piecesOf [] c2) with
    | none => simp only [listEnd, Bool.false_eq_true, if_false]; exact no _
    | some ts =>
      obtain ⟨g1, g2⟩ := lists2_facts _ _ _ hx
      simp only [listEnd, if_true, List.nil_append]
      cases ts with
      | nil => exact no _
      | cons t ts =>
        have hp : ∀ p ∈ t :: ts, ∀ b ∈ p, isB b := fun p hp b hb => by obtain ⟨q, hq, e⟩ := g2 p hp; rw [e] at hb; exact hB q hq b (trim_mem hb)
        have hz : ∀ p ∈ t :: ts, p.length ≤ 10000 := fun p hp => by obtain ⟨q, hq, e⟩ := g2 p hp; have := hZ q hq; have := trim_len q; rw [e]; omega
        have := sparse_loop (t :: ts) hp hz (by omega) (t :: ts).length 0 [] 0 (by omega) (by omega) (by omega) rfl
        rw [Int.toNat_zero, List.drop_zero] at this
        refine Ev.step (fun k => ?_) this
        simp only [spec_Parse.j0, List.length_map]
        rw [if_neg (by simp; omega)]
  · simp only [hu, decide_false, Bool.false_eq_true, if_false]; exact no _
theorem ref_specs_ev (s : ByteArray) (hs : s.size ≤ 10000) : Ev (fun k => spenceref04_Specs.f k s) (specsOf (bytesOf s)) := by
  obtain ⟨f1, f2, ⟨f3, f4⟩, f5, f6⟩ := facts5 (bytesOf s) (bytesOf_isB s) (by rw [bytesOf_length]; exact hs)
  have q := ref_cut_ev (strOfNums (trim (bytesOf s))) 61 (by rw [size_str]; omega)
  rw [bytesOf_str _ f1] at q
  refine Ev.bind (ref_trim_eq s (by omega) false) ?_
  unfold specsOf
  refine Ev.bind q ?_
  generalize (cutOf 61 (trim (bytesOf s))).1 = c1 at f3 f5
  generalize (cutOf 61 (trim (bytesOf s))).2.1 = c2 at f4 f6
  generalize (cutOf 61 (trim (bytesOf s))).2.2 = c3
  have h1 := pieces_ev (strOfNums c2) (by rw [size_str]; omega)
  rw [bytesOf_str _ f6] at h1
  refine Ev.bind h1 ?_
  have hB := piecesOf_isB c2 [] f6 (by simp)
  have hZ := piecesOf_size c2 []
  have hL := piecesOf_len c2 []
  simp only [List.length_nil] at hZ
  have h2 := ref_list_loop (piecesOf [] c2) hB (fun p hp => by have := hZ p hp; omega) (by omega) (piecesOf [] c2).length 0 [] (by omega) (by omega) (by omega) (by simp)
  rw [decide_eq_true rfl, Int.toNat_zero, List.drop_zero] at h2
  refine Ev.bind (a := listEnd [] (lists2 true (piecesOf [] c2))) ?_ ?_
  · refine Ev.congr (fun k => ?_) h2
    unfold spenceref01_List.f
    rw [List.length_map]
  have no : ∀ l, Ev (fun k => spenceref04_Specs.j0 k l true) (([] : List SpecS), (3 : Int)) := fun l => Ev.pos fun k => by simp only [spenceref04_Specs.j0, if_true]
  cases c3
  · simp only [Bool.false_eq_true, if_false]; exact no _
  simp only [if_true]
  have hf := ref_lower_ev (strOfNums c1) (by rw [size_str]; omega)
  rw [bytesOf_str _ f5] at hf
  refine Ev.bind hf ?_
  have he : ((strOfNums (c1.map lowI)).toList = ([98, 121, 116, 101, 115] : List UInt8)) ↔ c1.map lowI = [98, 121, 116, 101, 115] := by
    have e : ([98, 121, 116, 101, 115] : List UInt8) = (strOfNums [98, 121, 116, 101, 115]).toList := by rw [ByteArray.toList_eq]; rfl
    rw [e, toList_bytes, bytesOf_str _ (low_isB5 f5), bytesOf_str _ (by simp [isB])]
  by_cases hu : c1.map lowI = [98, 121, 116, 101, 115]
  · have n1 := he.2 hu
    simp only [n1, if_true]
    rw [if_pos hu]
    cases hx : lists2 true (piecesOf [] c2) with
    | none => simp only [listEnd, Bool.false_eq_true, if_false]; exact no _
    | some ts =>
      obtain ⟨g1, g2⟩ := lists2_facts _ _ _ hx
      simp only [listEnd, if_true, List.nil_append]
      cases ts with
      | nil => exact no _
      | cons t ts =>
        have hp : ∀ p ∈ t :: ts, ∀ b ∈ p, isB b := fun p hp b hb => by obtain ⟨q, hq, e⟩ := g2 p hp; rw [e] at hb; exact hB q hq b (trim_mem hb)
        have hz : ∀ p ∈ t :: ts, p.length ≤ 10000 := fun p hp => by obtain ⟨q, hq, e⟩ := g2 p hp; have := hZ q hq; have := trim_len q; rw [e]; omega
        have := rspecs_loop (t :: ts) hp hz (by omega) (t :: ts).length 0 [] 0 (.inl rfl) (by omega) (by omega) (by omega) rfl
        rw [Int.toNat_zero, List.drop_zero] at this
        refine Ev.step (fun k => ?_) this
        simp only [spenceref04_Specs.j0, List.length_map]
        rw [if_neg (by simp; omega)]; rfl
  · have hu' : ¬ (strOfNums (c1.map lowI)).toList = ([98, 121, 116, 101, 115] : List UInt8) := fun e => hu (he.1 e)
    simp only [hu', if_false]; rw [if_neg hu]; exact no _
theorem same_loop5 (l : List SpecS) (hl : l.length ≤ 100000) (d : Nat) : ∀ i : Int, 0 ≤ i → i ≤ l.length → (l.length : Int) - i = d → Ev (fun k => spencelaw05_same.l0 k l l l.length i) true := by
  induction d with
  | zero => intro i h0 h1 hd; exact Ev.pos (fun k => by simp only [spencelaw05_same.l0]; rw [if_neg (by omega)])
  | succ d ih =>
    intro i h0 h1 hd
    refine Ev.step (fun k => ?_) (ih (i + 1) (by omega) (by omega) (by omega))
    simp only [spencelaw05_same.l0, beq_self_eq_true, Bool.not_true, Bool.or_self, Bool.false_eq_true, if_false]
    rw [if_pos (by omega), if_pos h0, if_pos (by omega), if_pos (by omega), wrap_id (by omega)]
theorem same_ev5 (l : List SpecS) (hl : l.length ≤ 100000) : Ev (fun k => spencelaw05_same.f k l l) true := by
  unfold spencelaw05_same.f
  simp only [if_true]
  exact same_loop5 l hl l.length 0 (by omega) (by omega) (by omega)
theorem specsR_len : ∀ (ps : List (List Int)) (out : List SpecS) (bad : Int), (specsR out bad ps).1.length ≤ out.length + ps.length
  | [], out, bad => by unfold specsR; split; split <;> simp; simp
  | p :: r, out, bad => by
    have := specsR_len r (out ++ [mkS (oneOf p)]) (worseS bad (oneOf p).2.2.2)
    rw [specsR]; simp only [List.length_append, List.length_cons, List.length_nil] at *; omega
theorem specsOf_len (l : List Int) (h : ∀ b ∈ l, isB b) (hl : l.length ≤ 10000) : (specsOf l).1.length ≤ 10001 := by
  obtain ⟨f1, f2, ⟨f3, f4⟩, f5, f6⟩ := facts5 l h hl
  unfold specsOf
  split
  · split
    · cases hx : lists2 true (piecesOf [] (cutOf 61 (trim l)).2.1) with
      | none => simp [specsE]
      | some ts =>
        have hL := piecesOf_len (cutOf 61 (trim l)).2.1 []
        obtain ⟨g1, -⟩ := lists2_facts _ _ _ hx
        cases ts with
        | nil => simp [specsE]
        | cons t ts => have := specsR_len (t :: ts) [] 0; simp only [specsE, List.length_nil] at *; omega
    · simp
  · simp
theorem awake05 : Ev (fun k => spencelaw05_awake.f k) true := by
  refine Ev.bind (spec_parse_ev _ (by decide)) ?_
  have e : specsOf (bytesOf (⟨#[98, 121, 116, 101, 115, 61, 48, 45, 52, 44, 32, 45, 53]⟩ : ByteArray)) = ([⟨2, 0, 4⟩, ⟨3, 5, 0⟩], 0) := by kernel_rfl
  rw [e]
  exact Ev.now _
end Go.Proofs.YtndghocppadimaaDoor.Pure
namespace Go.Proofs.YtndghocppadimaaDoor.Pure
open Go.RowKit Go.Proofs.YtndghocppadimaaDoor.Xw Go.Proofs.YtndghocppadimaaDoor.PAll Go.Proofs.YtndghocppadimaaDoorW.PrintWords Go.Proofs.YtndghocppadimaaDoorW.PrintLast Go.Proofs.YtndghocppadimaaDoorW.PrintMore
theorem SpecParses : spencelaw05_SpecParses.Pure := by
  intro s _
  refine Ev.rounds (g := fun k => spencelaw05_SpecParses.f k s) ?_
  refine Ev.bind awake05 ?_
  simp only [if_true]
  by_cases c1 : (s.size : Int) > 600
  · simp only [c1, if_true]; exact Ev.now _
  simp only [c1, if_false]
  have h1 := spec_parse_ev s (by omega)
  have hn := specsOf_len (bytesOf s) (bytesOf_isB s) (by rw [bytesOf_length]; omega)
  refine Ev.bind h1 ?_
  refine Ev.bind (ref_specs_ev s (by omega)) ?_
  simp only [if_true]
  refine Ev.bind (same_ev5 _ (by omega)) ?_
  simp only [if_true]
  refine Ev.bind (Ev.bind h1 (Ev.now _)) ?_
  exact Ev.bind (same_ev5 _ (by omega)) (Ev.now _)
end Go.Proofs.YtndghocppadimaaDoor.Pure
namespace Go.Proofs.YtndghocppadimaaDoor.specParses
open Go.ChangeShapes Go.WideShapes Go.ChangeAt Go.RowKit Go.Proofs.YtndghocppadimaaDoor.Rd Go.Proofs.YtndghocppadimaaDoor.PAll Go.Proofs.YtndghocppadimaaDoorW.PrintWords
open Go.ChangeMaps (open_string shut_string)
set_option linter.unusedVariables false
theorem own : ownKnob Tryd.prog.godebug = none := by kernel_rfl
set_option maxRecDepth 100000 in
set_option maxHeartbeats 4000000 in
theorem lifted (os : Os) (started : os.Started) (H : Type) (enc : TypeId × Value → H) :
    ReturnsInHanded {} Tryd.checked os 3 .any (fun w args => (Rows.specParsesSpec.pre enc Tryd.prog Tryd.f3 Rows.specParsesRow.domain false w args ∧ laidMetH Tryd.prog Rows.specParsesRow.laid w) ∧ sizedMet enc Tryd.prog Tryd.f3 (OpenSpec.ofChange Rows.specParsesSpec) false w args) (Rows.specParsesSpec.post enc Tryd.prog Tryd.f3 false true false false) := by
  refine returnsInHanded_of_change_and (C := Tryd.checked) (X := (fun w _ => laidMetH Tryd.prog Rows.specParsesRow.laid w)) (fun _ _ _ hh h => h.of_heap hh) own started (by kernel_rfl) Tryd.func3
    (ChangeSpec.witness_shaped (enc := enc) (C := Tryd.checked) (os := os) (X := (fun w _ => laidMetH Tryd.prog Rows.specParsesRow.laid w)) false (World.laidAll Tryd.prog os Rows.specParsesRow.laid) #[.string ByteArray.empty] 8 (World.laidAll_os _ _ _)
      (World.shaped_of_ZipB (by kernel_rfl) (by kernel_rfl)) (by kernel_rfl) (by kernel_rfl) (by kernel_rfl)
      (by rw [MakeChecks.laidMetH_plain _ _ _ (by kernel_rfl)]; exact laidMet_laidAll _ (by kernel_rfl) (by kernel_rfl))) ?_
  intro W base args ds gs before hval0 hW hcnd hsz0 _ _
  have hsz : (DataW.weightsEach Tryd.prog (Tryd.f3.params.toList ++ Rows.specParsesSpec.plain.varTypes Tryd.prog) (ds ++ gs)).all (· ≤ reachBytes) = true := hsz0
  have hval : ∀ (j : Nat) t v, Tryd.f3.params[j]? = some t → args[j]? = some v → Value.okWide Tryd.prog W .any base t v := hval0
  have hW' := hW
  obtain ⟨p, q, hA0, hV, rfl, hfz, hnd⟩ := hW
  have hA : DataW.TrodAll enc Tryd.prog W 0 (fun _ => true) true Tryd.f3.params.toList args.toList ds p := hA0
  rw [Tryd.params3] at hA hval hsz
  obtain ⟨v0, vs0, d0, ds0, p0, q0, hargs, rfl, rfl, h0, r0⟩ := trodAll_cons hA
  obtain ⟨rfl, rfl, rfl⟩ := trodAll_nil r0
  obtain rfl : args = #[v0] := by cases args; simp_all
  obtain ⟨rfl, rfl⟩ := trodVars_none hV
  have k0 := h0
  have lt0 : ∀ x ∈ p0, x.block < W.heap.size := by obtain ⟨m, hm⟩ := k0; exact DataW.trod_lt m _ _ _ hm
  obtain ⟨a0, rfl, rfl, rfl, y0⟩ := open_string Tryd.underlying9 (hval 0 9 v0 rfl rfl) h0
  have w0 : a0.size ≤ 140737488351232 := by
    have z := sized_string hsz (j := 0) (t := 9) rfl rfl
    rw [Array.length_toList] at z
    exact z
  clear hA0 hval0 hsz0 hsz
  obtain ⟨k, hk⟩ := Pure.SpecParses a0 w0
  refine (PAll.spencelaw05_SpecParses.calls k a0 true W  hk).mono fun e W' ⟨he, hd⟩ => ?_
  have bel : Below W.heap.size W W' := hd
  subst he
  exact ⟨_, rfl, _, _, _, [], _, [], hW', trodAll_mk1 (shut_bool Tryd.underlying4 _), (trodAll_cons_mk (shut_string Tryd.underlying9 y0) trodAll_mk0), rfl, bel.frame _, fun h => by cases h⟩
theorem over : Rows.specParsesRow.holds Tryd.pinned (OpenSpec.ofChange Rows.specParsesSpec) :=
  OpenClaim.holds_of_wide 3 Tryd.f3 rfl rfl rfl rfl rfl rfl rfl ⟨rfl, rfl, rfl, rfl, rfl⟩ rfl rfl rfl rfl rfl (by kernel_rfl) Tryd.func3 (by kernel_rfl)
    (of_decide_eq_true (by kernel_rfl)) (by unfold Func.isWrapper; first | (rw [if_pos (by decide +kernel)]; kernel_rfl) | (rw [if_neg (by decide +kernel)]; exact ⟨rfl, rfl⟩))
    (fun os started H enc _ => lifted os started H enc)
end Go.Proofs.YtndghocppadimaaDoor.specParses
namespace Go.Proofs.YtndghocppadimaaDoor
theorem specParses_row : Rows.SpecParsesSaid := specParses.over
theorem specParsesCard_holds : Rows.SpecParsesCardSaid :=
  Claim7.holds_tied_plain_at .later [] [.data, .pinned] true (true, "4e3150b384d01644c5bede7423f0e901dc19b9dbc2b06a40fda422c2da5e56e4") false specParses_row (fun _ h => by cases h) (by kernel_rfl) (fun _ h => by cases h) specParses_row_tie rfl ⟨rfl, rfl⟩ (by kernel_rfl) rfl
    (fun f fn hf hfn => by
      obtain rfl : f = 3 := Option.some.inj ((show Tryd.prog.funcNamed "spence/spencelaw05.SpecParses" = some 3 by kernel_rfl).symm.trans hf) |>.symm
      obtain rfl : fn = Tryd.f3 := (Option.some.inj (Tryd.func3.symm.trans hfn)).symm
      exact ⟨by kernel_rfl, fun j t ht => by
        rw [Tryd.params3] at ht
        have hm : t ∈ [9] := by simpa using Array.mem_of_getElem? ht
        have hall : ([9].all fun u => !Tryd.prog.wantsStandIn u) = true := by kernel_rfl
        exact (show Tryd.prog.wantsStandIn t = false by simpa using List.all_eq_true.1 hall t hm)⟩)
    (by kernel_rfl)
#print axioms specParsesCard_holds
end Go.Proofs.YtndghocppadimaaDoor
