/- The law CheckHonest: for every input the call returns true, and each argument reads behind the call as it read before. No condition. (The row, and the plain law ahead of it.) -/
import Derived.Test.YtkmkiheoelakaaaKCheckHonest5
import Derived.Test.YtkmkiheoelakaaaKCheckHonest2
import Derived.Test.YtkmkiheoelakaaaKCheckHonest3
import Derived.Test.YtkmkiheoelakaaaKCheckHonest1
import Derived.Test.YtkmkiheoelakaaaRows
import Derived.WalkKit
import Derived.ProofKit
import Derived.OpenShut
import Derived.ShutString
import Derived.ChangeOld
import Derived.Below
import Derived.SizedLaws
namespace Go.Proofs.Ytkmkiheoelakaaa.Pure
open Go.RowKit Go.Proofs.Ytkmkiheoelakaaa.PAll Go.Proofs.YtkmkiheoelakaaaW.PrintWords Go.Proofs.YtkmkiheoelakaaaW.PrintLast Go.Proofs.YtkmkiheoelakaaaW.PrintMore
def maxN : Int := 4611686018427387903
/-- what a text's bytes say -/
def parse (l : List Int) : Int × Int := if l = [] ∨ l.all isDig = false then (0, 3) else if fval 0 l > maxN then (0, 9) else (fval 0 l, 0)
theorem digit_eq (b : Int) (h : 0 ≤ b ∧ b ≤ 255) : nums_digit.f b = some (if isDig b then b - 48 else 0, isDig b) := by
  unfold nums_digit.f isDig
  by_cases h1 : b < 48
  · rw [if_pos h1]; have : ¬ 48 ≤ b := by omega
    simp [this]
  · rw [if_neg h1]
    by_cases h2 : b > 57
    · rw [if_pos h2]; have : ¬ b ≤ 57 := by omega
      simp [this]
    · rw [if_neg h2]
      have h3 : 48 ≤ b := by omega
      have h4 : b ≤ 57 := by omega
      simp only [h3, h4, decide_true, Bool.and_self, if_true]
      have : (b - 48) % 256 = b - 48 := by omega
      rw [this]
/-- the loop's answer from a place on -/
def run (n : Int) (over : Bool) (l : List Int) : Int × Int := if l.all isDig = false then (0, 3) else if over = true ∨ fval n l > maxN then (0, 9) else (fval n l, 0)
theorem parse_loop (s : ByteArray) (hs : s.size ≤ 9223372036854775806) (hs0 : 0 < s.size) (d : Nat) : ∀ (i n : Int) (over : Bool), 0 ≤ i → i ≤ s.size → (s.size : Int) - i = d → 0 ≤ n → n ≤ maxN →
    Ev (fun k => nums_Parse.l0 k s n over (s.size : Int) i) (run n over ((bytesOf s).drop i.toNat)) := by
  induction d with
  | zero =>
    intro i n over h0 h1 hd hn hn2
    refine Ev.pos (fun k => ?_)
    have he : ¬ s.toList = ([] : List UInt8) := by rw [toList_nil, bytesOf_eq_nil]; omega
    simp only [nums_Parse.l0]
    rw [if_neg (by omega), if_neg he, List.drop_of_length_le (by rw [bytesOf_length]; omega)]
    have hf : fval n [] = n := rfl
    have hx : ¬ n > maxN := by omega
    cases over <;> simp [run, hf, hx]
  | succ d ih =>
    intro i n over h0 h1 hd hn hn2
    have hi : i < s.size := by omega
    have hb := bt_range s i
    have hw : wrap64 (i + 1) = i + 1 := wrap_id (by omega)
    rw [bytes_drop s i h0 hi]
    by_cases hdg : isDig (bt s i) = true
    · have hd2 := (isDig_iff _).1 hdg
      cases over with
      | true =>
        obtain ⟨K, hK⟩ := ih (i + 1) n true (by omega) (by omega) (by omega) hn hn2
        refine ⟨K + 1, fun k hk => ?_⟩
        obtain ⟨k, rfl⟩ : ∃ j, k = j + 1 := ⟨k - 1, by omega⟩
        have h := hK k (by omega)
        dsimp only at h
        simp only [nums_Parse.l0, digit_eq _ hb, Option.bind_some, hw]
        rw [if_pos hi, if_pos h0, if_pos hi, if_pos hdg, if_pos trivial, h]
        simp [run, hdg]
      | false =>
        have e1 : wrap64 (4611686018427387903 - (bt s i - 48)) = 4611686018427387903 - (bt s i - 48) := wrap_id (by omega)
        have e2 : Int.tdiv (4611686018427387903 - (bt s i - 48)) 10 = (4611686018427387903 - (bt s i - 48)) / 10 := Int.tdiv_eq_ediv_of_nonneg (by omega)
        have e3 : wrap64 ((4611686018427387903 - (bt s i - 48)) / 10) = (4611686018427387903 - (bt s i - 48)) / 10 := wrap_id (by omega)
        by_cases hov : n > (4611686018427387903 - (bt s i - 48)) / 10
        · obtain ⟨K, hK⟩ := ih (i + 1) n true (by omega) (by omega) (by omega) hn hn2
          refine ⟨K + 1, fun k hk => ?_⟩
          obtain ⟨k, rfl⟩ : ∃ j, k = j + 1 := ⟨k - 1, by omega⟩
          have h := hK k (by omega)
          dsimp only at h
          simp only [nums_Parse.l0, digit_eq _ hb, Option.bind_some, hw, hdg, if_true, e1, e2, e3]
          rw [if_pos hi, if_pos h0, if_pos hi, if_neg (by decide), if_pos hov, h]
          by_cases hall : ((bytesOf s).drop (i + 1).toNat).all isDig = true
          · have hge := fval_ge ((bytesOf s).drop (i + 1).toNat) (10 * n + (bt s i - 48)) (by omega) hall
            have hgt : fval n (bt s i :: (bytesOf s).drop (i + 1).toNat) > maxN := by rw [fval_cons]; unfold maxN; omega
            simp [run, hdg, hgt]
          · simp [run, hdg, hall]
        · have hmx : 10 * n + (bt s i - 48) ≤ maxN := by unfold maxN; omega
          have hmx' : 10 * n + (bt s i - 48) ≤ 4611686018427387903 := hmx
          have e4 : wrap64 (10 * n) = 10 * n := wrap_id (by omega)
          have e5 : wrap64 (10 * n + (bt s i - 48)) = 10 * n + (bt s i - 48) := wrap_id (by omega)
          obtain ⟨K, hK⟩ := ih (i + 1) (10 * n + (bt s i - 48)) false (by omega) (by omega) (by omega) (by omega) hmx
          refine ⟨K + 1, fun k hk => ?_⟩
          obtain ⟨k, rfl⟩ : ∃ j, k = j + 1 := ⟨k - 1, by omega⟩
          have h := hK k (by omega)
          dsimp only at h
          simp only [nums_Parse.l0, digit_eq _ hb, Option.bind_some, hw, hdg, if_true, e1, e2, e3, e4, e5]
          rw [if_pos hi, if_pos h0, if_pos hi, if_neg (by decide), if_neg hov, h]
          simp [run, hdg, fval_cons]
    · refine Ev.pos (fun k => ?_)
      have hf : isDig (bt s i) = false := by simpa using hdg
      simp only [nums_Parse.l0, digit_eq _ hb, Option.bind_some, hf]
      rw [if_pos hi, if_pos h0, if_pos hi, if_neg (by decide)]
      simp [run, hf]
theorem parse_ev (s : ByteArray) (hs : s.size ≤ 9223372036854775806) : Ev (fun k => nums_Parse.f k s) (parse (bytesOf s)) := by
  by_cases h0 : s.size = 0
  · refine Ev.pos (fun k => ?_)
    have hn : bytesOf s = [] := (bytesOf_eq_nil s).2 h0
    have he : s.toList = ([] : List UInt8) := (toList_nil s).2 hn
    simp only [nums_Parse.f, nums_Parse.l0]
    rw [if_neg (by omega), if_pos he, hn]
    simp [parse]
  · have := parse_loop s hs (by omega) s.size 0 0 false (by omega) (by omega) (by omega) (by omega) (by unfold maxN; omega)
    simp only [Int.toNat_zero, List.drop_zero] at this
    have hn : ¬ bytesOf s = [] := fun h => h0 (by rw [← bytesOf_length, h]; rfl)
    have e : run 0 false (bytesOf s) = parse (bytesOf s) := by simp [run, parse, hn]
    rw [e] at this
    exact this
end Go.Proofs.Ytkmkiheoelakaaa.Pure
namespace Go.Proofs.Ytkmkiheoelakaaa.PureQ
open Go.RowKit Go.Proofs.Ytkmkiheoelakaaa.Pure Go.Proofs.Ytkmkiheoelakaaa.Xw Go.Proofs.Ytkmkiheoelakaaa.PAll Go.Proofs.YtkmkiheoelakaaaW.PrintWords Go.Proofs.YtkmkiheoelakaaaW.PrintLast Go.Proofs.YtkmkiheoelakaaaW.PrintMore
def z3 : Bool × Int × Int × Int × Int := (false, 0, 0, 0, 3)
def rightS (p q : Int) : Bool := decide (0 ≤ p ∧ p < q ∧ q ≤ 4611686018427387903)
theorem span_right_c (p q : Int) : span_Right.f p q = some (rightS p q) := by
  unfold span_Right.f rightS
  by_cases h1 : p ≥ 0
  · rw [if_pos h1]
    by_cases h2 : p < q
    · rw [if_pos h2]; have : 0 ≤ p := h1
      simp [h2, this]
    · rw [if_neg h2]; simp [h2]
  · rw [if_neg h1]; have : ¬ 0 ≤ p := h1
    simp [this]
def rightC (kn : Bool) (f t tot : Int) : Bool := decide (tot = -1 ∨ (0 ≤ tot ∧ tot ≤ 4611686018427387903)) && (if kn then (rightS f t && decide (tot = -1 ∨ t ≤ tot)) else (decide (f = 0 ∧ t = 0) && decide (tot ≠ -1)))
theorem fits_c (a lo hi : Int) : nums_Fits.f a lo hi = some (decide (lo ≤ a ∧ a ≤ hi)) := by
  unfold nums_Fits.f
  by_cases h : a ≥ lo
  · rw [if_pos h]; have : lo ≤ a := h
    simp [this]
  · rw [if_neg h]; have : ¬ lo ≤ a := h
    simp [this]
theorem right_c (kn : Bool) (f t tot : Int) : Ev (fun k => crange_Right.f k kn f t tot) (rightC kn f t tot) := by
  have key : ∀ b : Bool, b = !decide (tot = -1 ∨ (0 ≤ tot ∧ tot ≤ 4611686018427387903)) → Ev (fun k => crange_Right.j0 k b kn f t tot) (rightC kn f t tot) := by
    intro b hb
    refine Ev.pos (fun k => ?_)
    simp only [crange_Right.j0, span_right_c, Option.bind_some]
    unfold rightC
    cases hd : decide (tot = -1 ∨ (0 ≤ tot ∧ tot ≤ 4611686018427387903))
    · rw [hb, hd, if_pos (by decide)]; rfl
    · rw [hb, hd, if_neg (by decide)]
      cases kn
      · rw [if_neg (by decide)]
        by_cases h1 : f = 0 <;> by_cases h2 : t = 0 <;> by_cases h3 : tot = -1 <;> simp [h1, h2, h3]
      · rw [if_pos rfl]
        by_cases h1 : rightS f t = true
        · rw [if_pos h1]
          by_cases h3 : tot = -1 <;> simp [h1, h3]
        · rw [if_neg h1]; simp [h1]
  unfold crange_Right.f
  by_cases h : tot = -1
  · simp only [h, if_true]
    have := key false (by rw [decide_eq_true (.inl h)]; rfl)
    rw [h] at this; exact this
  · simp only [h, if_false, fits_c, Option.bind_some]
    refine key _ ?_
    congr 1
    rw [decide_eq_decide]; omega
def worse (bad e : Int) : Int := if e = 3 then 3 else if bad = 0 then e else bad
def contE (bad : Int) (kn : Bool) (f t tot : Int) : Bool × Int × Int × Int × Int := if bad = 0 then (if rightC kn f t tot then (kn, f, t, tot, 0) else z3) else (false, 0, 0, 0, bad)
def contT (x : List Int) (bad : Int) (kn : Bool) (f t : Int) : Bool × Int × Int × Int × Int := if x = [42] then contE bad kn f t (-1) else contE (worse bad (parse x).2) kn f t (parse x).1
def contA (d1 d2 : List Int) : Bool × Int × Int × Int × Int :=
  if d1 = [42] then contT d2 0 false 0 0
  else if (cutOf 45 d1).2.2 = true then contT d2 (worse (worse 0 (parse (cutOf 45 d1).1).2) (parse (cutOf 45 d1).2.1).2) true (parse (cutOf 45 d1).1).1 (wrap64 ((parse (cutOf 45 d1).2.1).1 + 1))
  else z3
def contOf (l : List Int) : Bool × Int × Int × Int × Int :=
  if (cutOf 32 l).2.2 = true then (if (cutOf 47 (cutOf 32 l).2.1).2.2 = true then (if (cutOf 32 l).1.map lowI = [98, 121, 116, 101, 115] then contA (cutOf 47 (cutOf 32 l).2.1).1 (cutOf 47 (cutOf 32 l).2.1).2.1 else z3) else z3) else z3
theorem cut_facts (b : Int) (l : List Int) (h : ∀ x ∈ l, isB x) : (cutOf b l).1.length ≤ l.length ∧ (cutOf b l).2.1.length ≤ l.length ∧ (∀ x ∈ (cutOf b l).1, isB x) ∧ (∀ x ∈ (cutOf b l).2.1, isB x) := by
  cases hc : (cutOf b l).2.2
  · obtain ⟨h1, h2, -⟩ := cutOf_no b l hc
    rw [h1, h2]; exact ⟨Nat.le_refl _, Nat.zero_le _, h, by simp⟩
  · obtain ⟨h1, -⟩ := cutOf_yes b l hc
    have hl := congrArg List.length h1
    rw [List.length_append, List.length_cons] at hl
    refine ⟨by omega, by omega, fun x hx => h x ?_, fun x hx => h x ?_⟩
    · rw [h1]; exact List.mem_append.2 (.inl hx)
    · rw [h1]; exact List.mem_append.2 (.inr (List.mem_cons_of_mem _ hx))
theorem number_c (bad : Int) (x : List Int) (hx : ∀ b ∈ x, isB b) (hl : x.length ≤ 1000) : Ev (fun k => crNum.f k bad (strOfNums x)) ((parse x).1, worse bad (parse x).2) := by
  have hp := parse_ev (strOfNums x) (by rw [size_str]; omega)
  rw [bytesOf_str _ hx] at hp
  refine Ev.bind hp (Ev.all fun k => ?_)
  unfold worse
  by_cases h1 : (parse x).2 = 3
  · rw [if_pos h1, if_pos h1, h1]
  · rw [if_neg h1, if_neg h1]
    by_cases h2 : bad = 0
    · rw [if_pos h2, if_pos h2]
    · rw [if_neg h2, if_neg h2]
theorem star_iff (x : List Int) (hx : ∀ b ∈ x, isB b) : (strOfNums x).toList = ([42] : List UInt8) ↔ x = [42] := by
  have e : ([42] : List UInt8) = (strOfNums [42]).toList := by rw [ByteArray.toList_eq]; rfl
  rw [e, toList_bytes, bytesOf_str _ hx, bytesOf_str _ (by simp [isB])]
theorem e_c (bad : Int) (kn : Bool) (f t tot : Int) : Ev (fun k => crange_Parse.e k bad kn f t tot) (contE bad kn f t tot) := by
  unfold crange_Parse.e contE
  by_cases h : bad = 0
  · simp only [h, if_true]
    refine Ev.bind (right_c kn f t tot) (Ev.all fun k => ?_)
    cases rightC kn f t tot <;> rfl
  · simp only [h, if_false]; exact Ev.now _
theorem t_c (x : List Int) (hx : ∀ b ∈ x, isB b) (hl : x.length ≤ 1000) (bad : Int) (kn : Bool) (f t : Int) : Ev (fun k => crange_Parse.t k (strOfNums x) bad kn f t) (contT x bad kn f t) := by
  unfold crange_Parse.t contT
  by_cases h : x = [42]
  · simp only [(star_iff x hx).2 h, if_true]; rw [if_pos h]; exact e_c _ _ _ _ _
  · have h' : ¬ (strOfNums x).toList = ([42] : List UInt8) := fun e => h ((star_iff x hx).1 e)
    simp only [h', if_false]; rw [if_neg h]
    exact Ev.bind (number_c bad x hx hl) (e_c _ _ _ _ _)
theorem unit_low : (strOfNums ((bytesOf (⟨#[98, 121, 116, 101, 115]⟩ : ByteArray)).map lowI)) = strOfNums [98, 121, 116, 101, 115] := by decide
theorem crange_parse_ev (s : ByteArray) (hs : s.size ≤ 1000) : Ev (fun k => crange_Parse.f k s) (contOf (bytesOf s)) := by
  have f1 := cut_facts 32 (bytesOf s) (bytesOf_isB s)
  rw [bytesOf_length] at f1
  have f2 := cut_facts 47 (cutOf 32 (bytesOf s)).2.1 f1.2.2.2
  unfold crange_Parse.f contOf
  have b32 : isB 32 := by unfold isB; omega
  have b47 : isB 47 := by unfold isB; omega
  have b45 : isB 45 := by unfold isB; omega
  have q2 := cut_eq (strOfNums (cutOf 32 (bytesOf s)).2.1) 47 b47 (by rw [size_str]; omega)
  rw [bytesOf_str _ f1.2.2.2] at q2
  rw [cut_eq s 32 b32 (by omega)]
  simp only [Option.bind_some, q2]
  generalize (cutOf 47 (cutOf 32 (bytesOf s)).2.1).1 = d1 at f2
  generalize (cutOf 47 (cutOf 32 (bytesOf s)).2.1).2.1 = d2 at f2
  generalize (cutOf 47 (cutOf 32 (bytesOf s)).2.1).2.2 = d3
  generalize (cutOf 32 (bytesOf s)).1 = c1 at f1
  cases (cutOf 32 (bytesOf s)).2.2
  · exact Ev.now _
  cases d3
  · exact Ev.now _
  simp only [if_true]
  have hf := fold_eq (strOfNums c1) (⟨#[98, 121, 116, 101, 115]⟩ : ByteArray) (by rw [size_str]; omega) (by decide)
  rw [bytesOf_str _ f1.2.2.1, unit_low, toList_beq, bytesOf_str _ (by intro b hb; obtain ⟨x, hx, rfl⟩ := List.mem_map.1 hb; exact lowI_isB x (f1.2.2.1 x hx)), bytesOf_str _ (by simp [isB])] at hf
  rw [hf]
  simp only [Option.bind_some]
  by_cases hu : c1.map lowI = [98, 121, 116, 101, 115]
  · simp only [hu, decide_true, if_true]
    unfold contA
    by_cases hA : d1 = [42]
    · simp only [(star_iff d1 f2.2.2.1).2 hA, if_true]; rw [if_pos hA]
      exact t_c d2 f2.2.2.2 (by omega) _ _ _ _
    · have hA' : ¬ (strOfNums d1).toList = ([42] : List UInt8) := fun e => hA ((star_iff d1 f2.2.2.1).1 e)
      simp only [hA', if_false]; rw [if_neg hA]
      have q3 := cut_eq (strOfNums d1) 45 b45 (by rw [size_str]; omega)
      rw [bytesOf_str _ f2.2.2.1] at q3
      have f3 := cut_facts 45 d1 f2.2.2.1
      rw [q3]
      simp only [Option.bind_some]
      cases (cutOf 45 d1).2.2
      · exact Ev.now _
      · simp only [if_true]
        refine Ev.bind (number_c 0 _ f3.2.2.1 (by omega)) ?_
        refine Ev.bind (number_c _ _ f3.2.2.2 (by omega)) ?_
        exact t_c d2 f2.2.2.2 (by omega) _ _ _ _
  · simp only [hu, decide_false, Bool.false_eq_true, if_false]; exact Ev.now _
end Go.Proofs.Ytkmkiheoelakaaa.PureQ
namespace Go.Proofs.Ytkmkiheoelakaaa.PureQ
open Go.RowKit Go.Proofs.Ytkmkiheoelakaaa.Pure Go.Proofs.Ytkmkiheoelakaaa.Xw Go.Proofs.Ytkmkiheoelakaaa.PAll Go.Proofs.YtkmkiheoelakaaaW.PrintWords Go.Proofs.YtkmkiheoelakaaaW.PrintLast Go.Proofs.YtkmkiheoelakaaaW.PrintMore
theorem ref_right_c (p q : Int) : spenceref04_Right.f p q = some (rightS p q) := by
  unfold spenceref04_Right.f rightS
  by_cases h1 : p ≥ 0
  · rw [if_pos h1]
    by_cases h2 : q > p
    · rw [if_pos h2]; have : 0 ≤ p := h1
      have h3 : p < q := h2
      simp [h3, this]
    · rw [if_neg h2]; have h3 : ¬ p < q := h2
      simp [h3]
  · rw [if_neg h1]; have : ¬ 0 ≤ p := h1
    simp [this]
theorem ref_right_content (kn : Bool) (f t tot : Int) : Ev (fun k => r4RC.f k kn f t tot) (rightC kn f t tot) := by
  have key : ∀ b : Bool, b = !decide (tot = -1 ∨ (0 ≤ tot ∧ tot ≤ 4611686018427387903)) → Ev (fun k => r4RC.j0 k b kn f t tot) (rightC kn f t tot) := by
    intro b hb
    refine Ev.pos (fun k => ?_)
    simp only [r4RC.j0, ref_right_c, Option.bind_some]
    unfold rightC
    by_cases hd : (tot = -1 ∨ (0 ≤ tot ∧ tot ≤ 4611686018427387903))
    · rw [hb, decide_eq_true hd, if_neg (by decide)]
      cases kn
      · rw [if_neg (by decide)]
        have e : decide (tot ≥ 0) = decide (tot ≠ -1) := by rw [decide_eq_decide]; omega
        rw [e]
        by_cases h1 : f = 0 <;> by_cases h2 : t = 0 <;> simp [h1, h2]
      · rw [if_pos rfl]
        by_cases h1 : rightS f t = true
        · rw [if_pos h1]
          by_cases h3 : tot = -1 <;> simp [h1, h3]
        · rw [if_neg h1]; simp [h1]
    · rw [hb, decide_eq_false hd, if_pos (by decide)]; rfl
  unfold r4RC.f
  by_cases h : tot < -1
  · simp only [h, if_true]; exact key true (by rw [decide_eq_false (by omega)]; rfl)
  · simp only [h, if_false]
    refine key _ ?_
    rw [Bool.eq_iff_iff]; simp; omega
end Go.Proofs.Ytkmkiheoelakaaa.PureQ
namespace Go.Proofs.Ytkmkiheoelakaaa.Pure
open Go.RowKit Go.Proofs.Ytkmkiheoelakaaa.PAll Go.Proofs.YtkmkiheoelakaaaW.PrintWords Go.Proofs.YtkmkiheoelakaaaW.PrintLast Go.Proofs.YtkmkiheoelakaaaW.PrintMore
theorem ref_digit_eq (b : Int) : spenceref01_Digit.f b = some (isDig b) := by
  unfold spenceref01_Digit.f isDig
  by_cases h : b ≥ 48
  · rw [if_pos h]; have : 48 ≤ b := h
    simp [this]
  · rw [if_neg h]; have : ¬ 48 ≤ b := h
    simp [this]
theorem less_lex : ∀ (x y : List UInt8), Op.bytesLess x y = lexlt (i8s x) (i8s y)
  | [], [] => by simp [Op.bytesLess, lexlt, i8s]
  | [], _ :: _ => by simp [Op.bytesLess, lexlt, i8s]
  | _ :: _, [] => by simp [Op.bytesLess, lexlt, i8s]
  | a :: x, b :: y => by
    have h := less_lex x y
    have e1 : decide (a < b) = decide ((a.toNat : Int) < (b.toNat : Int)) := by rw [decide_eq_decide, UInt8.lt_iff_toNat_lt]; omega
    have e2 : (a == b) = decide ((a.toNat : Int) = (b.toNat : Int)) := by
      by_cases h : a = b
      · subst h; simp
      · have : ¬ (a.toNat : Int) = (b.toNat : Int) := fun e => h (UInt8.toNat_inj.1 (by omega))
        rw [decide_eq_false this]; simpa using h
    simp only [Op.bytesLess, i8s, List.map_cons, lexlt]
    rw [e1, e2, h]; rfl
theorem i8s_inj (x y : List UInt8) : x = y ↔ i8s x = i8s y := by
  unfold i8s
  exact (List.map_inj_right (fun a b h => UInt8.toNat_inj.1 (Int.ofNat_inj.1 h))).symm
theorem sum_loop (s : ByteArray) (hs : s.size ≤ 100) (d : Nat) : ∀ (i n : Int), 0 ≤ i → i ≤ s.size → (s.size : Int) - i = d → 0 ≤ n → ((bytesOf s).drop i.toNat).all isDig = true → fval n ((bytesOf s).drop i.toNat) ≤ maxN →
    Ev (fun k => r1Pars.l2 k s n i) (fval n ((bytesOf s).drop i.toNat), 0) := by
  induction d with
  | zero =>
    intro i n h0 h1 hd hn ha hf
    refine Ev.pos (fun k => ?_)
    simp only [r1Pars.l2]
    rw [if_neg (by omega), List.drop_of_length_le (by rw [bytesOf_length]; omega)]
    rfl
  | succ d ih =>
    intro i n h0 h1 hd hn ha hf
    have hi : i < s.size := by omega
    rw [bytes_drop s i h0 hi] at ha hf ⊢
    simp only [List.all_cons, Bool.and_eq_true] at ha
    have hb := (isDig_iff _).1 ha.1
    rw [fval_cons] at hf ⊢
    have hge := fval_ge _ (10 * n + (bt s i - 48)) (by omega) ha.2
    unfold maxN at hf
    obtain ⟨K, hK⟩ := ih (i + 1) (10 * n + (bt s i - 48)) (by omega) (by omega) (by omega) (by omega) ha.2 hf
    refine ⟨K + 1, fun k hk => ?_⟩
    obtain ⟨k, rfl⟩ : ∃ j, k = j + 1 := ⟨k - 1, by omega⟩
    have h := hK k (by omega)
    dsimp only at h
    simp only [r1Pars.l2]
    rw [if_pos hi, if_pos h0, wrap_id (x := 10 * n) (by omega), wrap_id (x := bt s i) (by omega), wrap_id (x := 10 * n + bt s i) (by omega), wrap_id (x := 10 * n + bt s i - 48) (by omega), wrap_id (x := i + 1) (by omega)]
    have e : 10 * n + bt s i - 48 = 10 * n + (bt s i - 48) := by omega
    rw [e]; exact h
theorem pow_le {a b : Nat} (h : a ≤ b) : (10 : Int) ^ a ≤ (10 : Int) ^ b := by
  have h1 : (10 : Nat) ^ a ≤ 10 ^ b := Nat.pow_le_pow_right (by omega) h
  have e1 : ((10 ^ a : Nat) : Int) = (10 : Int) ^ a := by simp
  have e2 : ((10 ^ b : Nat) : Int) = (10 : Int) ^ b := by simp
  rw [← e1, ← e2]; omega
theorem tail_case (s : ByteArray) (_hs : s.size ≤ 9223372036854775806) (i : Int) (h0 : 0 ≤ i) (h1 : i < s.size) (hd : (bytesOf s).all isDig = true) (hz : (bytesOf s).take i.toNat = List.replicate i.toNat 48)
    (hh : ((bytesOf s).drop i.toNat).head? ≠ some 48 ∨ ((bytesOf s).drop i.toNat).length = 1) :
    Ev (fun k => r1Pars.j2 k s i) (parse (bytesOf s)) := by
  generalize ht : (bytesOf s).drop i.toNat = t at hh
  have hlen : t.length = s.size - i.toNat := by rw [← ht, List.length_drop, bytesOf_length]
  have hsplit : bytesOf s = List.replicate i.toNat 48 ++ t := by rw [← hz, ← ht, List.take_append_drop]
  have hval : fval 0 (bytesOf s) = fval 0 t := by rw [hsplit, fval_zeros]
  have hn : ¬ bytesOf s = [] := fun h => by have := (bytesOf_eq_nil s).1 h; omega
  have hp : parse (bytesOf s) = if fval 0 t > maxN then (0, 9) else (fval 0 t, 0) := by
    unfold parse; rw [if_neg (by simp [hn, hd]), hval]
  have htd : t.all isDig = true := by rw [hsplit, List.all_append, Bool.and_eq_true] at hd; exact hd.2
  have hb : bytesOf (s.extract i.toNat s.size) = t := by
    rw [bytesOf_extract, List.take_of_length_le (by rw [bytesOf_length]; exact Nat.le_refl _)]; exact ht
  have hsz : (s.extract i.toNat s.size).size = t.length := by rw [← bytesOf_length, hb]
  rw [hp]
  have hlt := fval_lt t 0 (by omega) htd
  simp only [Int.zero_add, Int.one_mul] at hlt
  by_cases hl : t.length > 19
  · have hne : t.head? ≠ some 48 := by rcases hh with h | h; exact h; omega
    cases t with
    | nil => simp at hl
    | cons b t =>
      have hb1 : b ≠ 48 := by simpa using hne
      simp only [List.all_cons, Bool.and_eq_true, isDig_iff] at htd
      have hlo := fval_lo t (b - 48) (by omega) htd.2
      have h19 : (10 : Int) ^ 19 ≤ (10 : Int) ^ t.length := pow_le (by simp at hl; omega)
      have hm : 1 * (10 : Int) ^ t.length ≤ (b - 48) * (10 : Int) ^ t.length := Int.mul_le_mul_of_nonneg_right (by omega) (Int.le_of_lt (Int.pow_pos (by omega)))
      have hbig : fval 0 (b :: t) > maxN := by
        rw [fval_cons]
        have e : 10 * 0 + (b - 48) = b - 48 := by omega
        rw [e]; unfold maxN
        have : (10 : Int) ^ 19 = 10000000000000000000 := by decide
        omega
      rw [if_pos hbig]
      refine ⟨2, fun k hk => ?_⟩
      obtain ⟨k, rfl⟩ : ∃ m, k = m + 1 + 1 := ⟨k - 2, by omega⟩
      simp only [r1Pars.j2, hsz]
      rw [if_pos h0, if_pos (by omega), if_pos (by omega)]
      simp only [r1Pars.j3, if_true]
  · have hsum : fval 0 t ≤ maxN → Ev (fun k => r1Pars.l2 k (s.extract i.toNat s.size) 0 0) (fval 0 t, 0) := fun hle => by
      have hl2 : t.length ≤ 19 := by omega
      have := sum_loop (s.extract i.toNat s.size) (by rw [hsz]; exact Nat.le_trans hl2 (by omega)) (s.extract i.toNat s.size).size 0 0 (by omega) (by omega) (by omega) (by omega) (by rw [hb]; simpa using htd) (by rw [hb]; simpa using hle)
      rw [hb] at this
      simpa using this
    by_cases h19 : t.length = 19
    · have hlit : i8s [52, 54, 49, 49, 54, 56, 54, 48, 49, 56, 52, 50, 55, 51, 56, 55, 57, 48, 51] = [52, 54, 49, 49, 54, 56, 54, 48, 49, 56, 52, 50, 55, 51, 56, 55, 57, 48, 51] := by decide
      have hlv : fval 0 [52, 54, 49, 49, 54, 56, 54, 48, 49, 56, 52, 50, 55, 51, 56, 55, 57, 48, 51] = maxN := by decide
      have hlx := lex_fval t [52, 54, 49, 49, 54, 56, 54, 48, 49, 56, 52, 50, 55, 51, 56, 55, 57, 48, 51] 0 (by omega) h19 htd (by decide)
      have hlx2 := lex_fval [52, 54, 49, 49, 54, 56, 54, 48, 49, 56, 52, 50, 55, 51, 56, 55, 57, 48, 51] t 0 (by omega) h19.symm (by decide) htd
      rw [hlv] at hlx hlx2
      have htl : i8s (s.extract i.toNat s.size).toList = t := by rw [← bytesOf_i8, hb]
      have heq : t = [52, 54, 49, 49, 54, 56, 54, 48, 49, 56, 52, 50, 55, 51, 56, 55, 57, 48, 51] ↔ fval 0 t = maxN := by
        constructor
        · intro h; rw [h, hlv]
        · intro h
          have h4 : t.head? ≠ some 48 := by rcases hh with h | h; exact h; omega
          have c1 := (canon 19 t h19 (by intro h; rw [h] at h19; simp at h19) htd (.inl h4)).1
          have c2 := (canon 19 [52, 54, 49, 49, 54, 56, 54, 48, 49, 56, 52, 50, 55, 51, 56, 55, 57, 48, 51] (by rfl) (by simp) (by decide) (.inl (by simp))).1
          rw [c1, h, ← hlv, ← c2]
      have hless : Op.bytesLess (s.extract i.toNat s.size).toList [52, 54, 49, 49, 54, 56, 54, 48, 49, 56, 52, 50, 55, 51, 56, 55, 57, 48, 51] = decide (fval 0 t < maxN) := by
        rw [less_lex, htl, hlit]
        rw [Bool.eq_iff_iff, hlx]; simp
      have hsame : ((s.extract i.toNat s.size).toList == [52, 54, 49, 49, 54, 56, 54, 48, 49, 56, 52, 50, 55, 51, 56, 55, 57, 48, 51]) = decide (fval 0 t = maxN) := by
        rw [Bool.eq_iff_iff, beq_iff_eq, i8s_inj, htl, hlit, heq]; simp
      have hbool : (!(Op.bytesLess (s.extract i.toNat s.size).toList [52, 54, 49, 49, 54, 56, 54, 48, 49, 56, 52, 50, 55, 51, 56, 55, 57, 48, 51] || ((s.extract i.toNat s.size).toList == [52, 54, 49, 49, 54, 56, 54, 48, 49, 56, 52, 50, 55, 51, 56, 55, 57, 48, 51]))) = decide (fval 0 t > maxN) := by
        rw [hless, hsame]
        by_cases a1 : fval 0 t < maxN
        · have : ¬ fval 0 t > maxN := by omega
          simp [a1, this]
        · by_cases a2 : fval 0 t = maxN
          · simp [a2]
          · have : fval 0 t > maxN := by omega
            simp [a1, a2, this]
      by_cases hgt : fval 0 t > maxN
      · rw [if_pos hgt]
        refine ⟨2, fun k hk => ?_⟩
        obtain ⟨k, rfl⟩ : ∃ m, k = m + 1 + 1 := ⟨k - 2, by omega⟩
        simp only [r1Pars.j2, hsz, hbool]
        rw [if_pos h0, if_pos (by omega), if_neg (by omega), if_pos (by omega)]
        simp only [r1Pars.j3]
        rw [if_pos (decide_eq_true hgt)]
      · rw [if_neg hgt]
        obtain ⟨K, hK⟩ := hsum (by omega)
        refine ⟨K + 2, fun k hk => ?_⟩
        obtain ⟨k, rfl⟩ : ∃ m, k = m + 1 + 1 := ⟨k - 2, by omega⟩
        simp only [r1Pars.j2, hsz, hbool]
        rw [if_pos h0, if_pos (by omega), if_neg (by omega), if_pos (by omega)]
        simp only [r1Pars.j3]
        rw [if_neg (by simpa using hgt)]
        exact hK k (by omega)
    · have h18 : (10 : Int) ^ t.length ≤ (10 : Int) ^ 18 := pow_le (by omega)
      have hle : fval 0 t ≤ maxN := by
        unfold maxN
        have : (10 : Int) ^ 18 = 1000000000000000000 := by decide
        omega
      rw [if_neg (by omega)]
      obtain ⟨K, hK⟩ := hsum hle
      refine ⟨K + 2, fun k hk => ?_⟩
      obtain ⟨k, rfl⟩ : ∃ m, k = m + 1 + 1 := ⟨k - 2, by omega⟩
      simp only [r1Pars.j2, hsz]
      rw [if_pos h0, if_pos (by omega), if_neg (by omega), if_neg (by omega)]
      simp only [r1Pars.j3]
      rw [if_neg (by decide)]
      exact hK k (by omega)
theorem noughts_loop (s : ByteArray) (hs : s.size ≤ 9223372036854775806) (hd : (bytesOf s).all isDig = true) (d : Nat) : ∀ i : Int, 0 ≤ i → i < s.size → (s.size : Int) - i = d → (bytesOf s).take i.toNat = List.replicate i.toNat 48 →
    Ev (fun k => r1Pars.l1 k s i) (parse (bytesOf s)) := by
  induction d with
  | zero => intro i h0 h1 hd2; omega
  | succ d ih =>
    intro i h0 h1 hd2 hz
    have hw : wrap64 ((s.size : Int) - 1) = (s.size : Int) - 1 := wrap_id (by omega)
    have hdr := bytes_drop s i h0 h1
    by_cases hc : i < (s.size : Int) - 1 ∧ bt s i = 48
    · have hz2 : (bytesOf s).take (i + 1).toNat = List.replicate (i + 1).toNat 48 := by
        have e : (i + 1).toNat = i.toNat + 1 := by omega
        have hl : i.toNat < (bytesOf s).length := by rw [bytesOf_length]; omega
        have hg : (bytesOf s)[i.toNat] = 48 := by
          rw [List.drop_eq_getElem_cons hl] at hdr
          rw [(List.cons.inj hdr).1, hc.2]
        rw [e, List.take_succ_eq_append_getElem hl, hz, hg, List.replicate_succ']
      obtain ⟨K, hK⟩ := ih (i + 1) (by omega) (by omega) (by omega) hz2
      refine ⟨K + 1, fun k hk => ?_⟩
      obtain ⟨k, rfl⟩ : ∃ m, k = m + 1 := ⟨k - 1, by omega⟩
      simp only [r1Pars.l1, hw]
      rw [if_pos hc.1, if_pos h0, if_pos h1, if_pos hc.2, wrap_id (by omega)]
      exact hK k (by omega)
    · have hh : ((bytesOf s).drop i.toNat).head? ≠ some 48 ∨ ((bytesOf s).drop i.toNat).length = 1 := by
        rw [hdr]
        by_cases hl : i < (s.size : Int) - 1
        · left; simp; intro h; exact hc ⟨hl, h⟩
        · right
          have := congrArg List.length hdr
          rw [List.length_drop, bytesOf_length] at this
          rw [← this]; omega
      obtain ⟨K, hK⟩ := tail_case s hs i h0 h1 hd hz hh
      refine ⟨K + 1, fun k hk => ?_⟩
      obtain ⟨k, rfl⟩ : ∃ m, k = m + 1 := ⟨k - 1, by omega⟩
      have h := hK k (by omega)
      dsimp only at h
      simp only [r1Pars.l1, hw]
      by_cases hl : i < (s.size : Int) - 1
      · rw [if_pos hl, if_pos h0, if_pos h1, if_neg (fun e => hc ⟨hl, e⟩)]
        exact h
      · rw [if_neg hl]
        exact h
theorem check_loop (s : ByteArray) (hs : s.size ≤ 9223372036854775806) (h0s : 0 < s.size) (d : Nat) : ∀ i : Int, 0 ≤ i → i ≤ s.size → (s.size : Int) - i = d → ((bytesOf s).take i.toNat).all isDig = true →
    Ev (fun k => r1Pars.l0 k s i) (parse (bytesOf s)) := by
  induction d with
  | zero =>
    intro i h0 h1 hd ha
    rw [List.take_of_length_le (by rw [bytesOf_length]; omega)] at ha
    obtain ⟨K, hK⟩ := noughts_loop s hs ha s.size 0 (by omega) (by omega) (by omega) (by simp)
    refine ⟨K + 1, fun k hk => ?_⟩
    obtain ⟨k, rfl⟩ : ∃ m, k = m + 1 := ⟨k - 1, by omega⟩
    simp only [r1Pars.l0]
    rw [if_neg (by omega)]
    exact hK k (by omega)
  | succ d ih =>
    intro i h0 h1 hd ha
    have hi : i < s.size := by omega
    have hdr := bytes_drop s i h0 hi
    by_cases hg : isDig (bt s i) = true
    · have e : (i + 1).toNat = i.toNat + 1 := by omega
      have hl : i.toNat < (bytesOf s).length := by rw [bytesOf_length]; omega
      have hget : (bytesOf s)[i.toNat] = bt s i := by
        rw [List.drop_eq_getElem_cons hl] at hdr
        exact (List.cons.inj hdr).1
      obtain ⟨K, hK⟩ := ih (i + 1) (by omega) (by omega) (by omega) (by rw [e, List.take_succ_eq_append_getElem hl, List.all_append, ha, hget]; simpa using hg)
      refine ⟨K + 1, fun k hk => ?_⟩
      obtain ⟨k, rfl⟩ : ∃ m, k = m + 1 := ⟨k - 1, by omega⟩
      simp only [r1Pars.l0, ref_digit_eq, Option.bind_some]
      rw [if_pos hi, if_pos h0, if_pos hg, wrap_id (by omega)]
      exact hK k (by omega)
    · refine Ev.pos (fun k => ?_)
      simp only [r1Pars.l0, ref_digit_eq, Option.bind_some]
      rw [if_pos hi, if_pos h0, if_neg hg]
      have hf : (bytesOf s).all isDig = false := by
        rw [← List.take_append_drop i.toNat (bytesOf s), List.all_append, hdr]
        simp [hg]
      unfold parse; rw [if_pos (.inr hf)]
theorem ref_parse_ev (s : ByteArray) (hs : s.size ≤ 9223372036854775806) : Ev (fun k => r1Pars.f k s) (parse (bytesOf s)) := by
  unfold r1Pars.f
  by_cases h0 : s.size = 0
  · refine Ev.all (fun k => ?_)
    rw [if_pos (by omega)]
    unfold parse; rw [if_pos (.inl ((bytesOf_eq_nil s).2 h0))]
  · obtain ⟨K, hK⟩ := check_loop s hs (by omega) s.size 0 (by omega) (by omega) (by omega) (by simp)
    exact ⟨K, fun k hk => by dsimp only; rw [if_neg (by omega)]; exact hK k hk⟩
end Go.Proofs.Ytkmkiheoelakaaa.Pure
namespace Go.Proofs.Ytkmkiheoelakaaa.PureQ
open Go.RowKit Go.Proofs.Ytkmkiheoelakaaa.Pure Go.Proofs.Ytkmkiheoelakaaa.Xw Go.Proofs.Ytkmkiheoelakaaa.PAll Go.Proofs.YtkmkiheoelakaaaW.PrintWords Go.Proofs.YtkmkiheoelakaaaW.PrintLast Go.Proofs.YtkmkiheoelakaaaW.PrintMore
theorem parse_kind (l : List Int) : (parse l).2 = 0 ∨ (parse l).2 = 3 ∨ (parse l).2 = 9 := by
  unfold parse; split
  · simp
  · split <;> simp
theorem ref_parse_c (x : List Int) (hx : ∀ b ∈ x, isB b) (hl : x.length ≤ 1000) : Ev (fun k => r1Pars.f k (strOfNums x)) (parse x) := by
  have hp := ref_parse_ev (strOfNums x) (by rw [size_str]; omega)
  rwa [bytesOf_str _ hx] at hp
theorem ref_e_c (bad : Int) (hb : bad = 0 ∨ bad = 9) (kn : Bool) (f t tot : Int) : Ev (fun k => r4Cont.j2 k (bad != 0) kn f t tot) (contE bad kn f t tot) := by
  refine Ev.succ ?_
  simp only [r4Cont.j2]
  unfold contE
  rcases hb with h | h
  · subst h
    simp only [bne_self_eq_false, Bool.false_eq_true, if_false, if_true]
    refine Ev.bind (ref_right_content kn f t tot) (Ev.all fun k => ?_)
    cases rightC kn f t tot <;> rfl
  · subst h
    exact Ev.all fun k => rfl
theorem ref_t_c (x : List Int) (hx : ∀ b ∈ x, isB b) (hl : x.length ≤ 1000) (bad : Int) (hb : bad = 0 ∨ bad = 9) (kn : Bool) (f t : Int) : Ev (fun k => r4Cont.j1 k (strOfNums x) (bad != 0) kn f t (-1)) (contT x bad kn f t) := by
  refine Ev.succ ?_
  simp only [r4Cont.j1]
  unfold contT
  by_cases h : x = [42]
  · simp only [(star_iff x hx).2 h, if_true]; rw [if_pos h]; exact ref_e_c bad hb _ _ _ _
  · have h' : ¬ (strOfNums x).toList = ([42] : List UInt8) := fun e => h ((star_iff x hx).1 e)
    simp only [h', if_false]; rw [if_neg h]
    refine Ev.bind (ref_parse_c x hx hl) ?_
    by_cases h3 : (parse x).2 = 3
    · simp only [h3, if_true]
      have e : contE (worse bad 3) kn f t (parse x).1 = z3 := by unfold contE worse z3; rw [if_pos rfl, if_neg (by decide)]
      rw [e]; exact Ev.now _
    · simp only [h3, if_false]
      have hk : (parse x).2 = 0 ∨ (parse x).2 = 9 := by rcases parse_kind x with h | h | h; exact .inl h; exact absurd h h3; exact .inr h
      have hw : worse bad (parse x).2 = if bad = 0 then (parse x).2 else bad := by unfold worse; rw [if_neg h3]
      rcases hb with h0 | h9
      · subst h0
        rw [hw, if_pos rfl]
        simp only [bne_self_eq_false, Bool.false_eq_true, if_false]
        exact ref_e_c _ hk _ _ _ _
      · subst h9
        rw [hw, if_neg (by decide)]
        exact ref_e_c 9 (.inr rfl) kn f t (parse x).1
theorem low_beq (c : List Int) (hc : ∀ b ∈ c, isB b) : ((strOfNums (c.map lowI)).toList != ([98, 121, 116, 101, 115] : List UInt8)) = !decide (c.map lowI = [98, 121, 116, 101, 115]) := by
  have e : ([98, 121, 116, 101, 115] : List UInt8) = (strOfNums [98, 121, 116, 101, 115]).toList := by rw [ByteArray.toList_eq]; rfl
  have hm : ∀ b ∈ c.map lowI, isB b := by intro b hb; obtain ⟨x, hx, rfl⟩ := List.mem_map.1 hb; exact lowI_isB x (hc x hx)
  rw [e, bne, toList_beq, bytesOf_str _ hm, bytesOf_str _ (by simp [isB])]
theorem ref_content_ev (s : ByteArray) (hs : s.size ≤ 1000) : Ev (fun k => r4Cont.f k s) (contOf (bytesOf s)) := by
  have f1 := cut_facts 32 (bytesOf s) (bytesOf_isB s)
  rw [bytesOf_length] at f1
  have f2 := cut_facts 47 (cutOf 32 (bytesOf s)).2.1 f1.2.2.2
  unfold contOf
  have q2 := ref_cut_ev (strOfNums (cutOf 32 (bytesOf s)).2.1) 47 (by rw [size_str]; omega)
  rw [bytesOf_str _ f1.2.2.2] at q2
  refine Ev.bind (ref_cut_ev s 32 (by omega)) ?_
  refine Ev.bind q2 ?_
  generalize (cutOf 47 (cutOf 32 (bytesOf s)).2.1).1 = d1 at f2
  generalize (cutOf 47 (cutOf 32 (bytesOf s)).2.1).2.1 = d2 at f2
  generalize (cutOf 47 (cutOf 32 (bytesOf s)).2.1).2.2 = d3
  generalize (cutOf 32 (bytesOf s)).1 = c1 at f1
  have hno : Ev (fun k => r4Cont.j0 k (strOfNums d1) (strOfNums d2) true false 0 0 (-1)) z3 := Ev.pos (fun k => by simp [r4Cont.j0, z3])
  cases (cutOf 32 (bytesOf s)).2.2
  · exact hno
  cases d3
  · exact hno
  simp only [if_true]
  have hl := ref_lower_ev (strOfNums c1) (by rw [size_str]; omega)
  rw [bytesOf_str _ f1.2.2.1] at hl
  refine Ev.bind hl ?_
  rw [low_beq c1 f1.2.2.1]
  by_cases hu : c1.map lowI = [98, 121, 116, 101, 115]
  · rw [decide_eq_true hu, if_pos hu]
    refine Ev.succ ?_
    simp only [r4Cont.j0, Bool.not_true, Bool.false_eq_true, if_false]
    unfold contA
    by_cases hA : d1 = [42]
    · simp only [(star_iff d1 f2.2.2.1).2 hA, if_true]; rw [if_pos hA]
      exact ref_t_c d2 f2.2.2.2 (by omega) 0 (.inl rfl) false 0 0
    · have hA' : ¬ (strOfNums d1).toList = ([42] : List UInt8) := fun e => hA ((star_iff d1 f2.2.2.1).1 e)
      simp only [hA', if_false]; rw [if_neg hA]
      have q3 := ref_cut_ev (strOfNums d1) 45 (by rw [size_str]; omega)
      rw [bytesOf_str _ f2.2.2.1] at q3
      have f3 := cut_facts 45 d1 f2.2.2.1
      refine Ev.bind q3 ?_
      refine Ev.bind (ref_parse_c _ f3.2.2.1 (by omega)) ?_
      refine Ev.bind (ref_parse_c _ f3.2.2.2 (by omega)) ?_
      generalize (cutOf 45 d1).1 = g1
      generalize (cutOf 45 d1).2.1 = g2
      cases (cutOf 45 d1).2.2
      · exact Ev.now _
      · simp only [if_true]
        have hz : ∀ b kn f t, b = 3 → contT d2 b kn f t = z3 := by
          intro b kn f t hb
          subst hb
          unfold contT contE worse z3
          by_cases h : d2 = [42]
          · rw [if_pos h, if_neg (by decide)]
          · rw [if_neg h]
            by_cases h2 : (parse d2).2 = 3
            · rw [if_pos h2, if_neg (by decide)]
            · rw [if_neg h2, if_neg (by decide : ¬ (3 : Int) = 0), if_neg (by decide)]
        by_cases e1 : (parse g1).2 = 3
        · simp only [e1, if_true]
          rw [hz _ _ _ _ (by unfold worse; rw [if_pos rfl]; split <;> rfl)]
          exact Ev.now _
        simp only [e1, if_false]
        by_cases e2 : (parse g2).2 = 3
        · simp only [e2, if_true]
          rw [hz _ _ _ _ (by unfold worse; rw [if_pos rfl])]
          exact Ev.now _
        simp only [e2, if_false]
        have k1 : (parse g1).2 = 0 ∨ (parse g1).2 = 9 := by rcases parse_kind g1 with h | h | h; exact .inl h; exact absurd h e1; exact .inr h
        have k2 : (parse g2).2 = 0 ∨ (parse g2).2 = 9 := by rcases parse_kind g2 with h | h | h; exact .inl h; exact absurd h e2; exact .inr h
        rcases k1 with k1 | k1
        · simp only [k1, if_true]
          have : worse (worse 0 0) (parse g2).2 = (parse g2).2 := by unfold worse; rw [if_neg e2]; simp
          rw [this]
          exact ref_t_c d2 f2.2.2.2 (by omega) _ k2 true _ _
        · simp only [k1, show ¬ (9 : Int) = 0 by decide, if_false]
          have : worse (worse 0 9) (parse g2).2 = 9 := by unfold worse; rw [if_neg e2]; simp
          rw [this]
          exact ref_t_c d2 f2.2.2.2 (by omega) 9 (.inr rfl) true _ _
  · rw [decide_eq_false hu, if_neg hu]; exact hno
end Go.Proofs.Ytkmkiheoelakaaa.PureQ
namespace Go.Proofs.Ytkmkiheoelakaaa.PureQ
open Go.RowKit Go.Proofs.Ytkmkiheoelakaaa.Pure Go.Proofs.Ytkmkiheoelakaaa.Xw Go.Proofs.Ytkmkiheoelakaaa.PAll Go.Proofs.YtkmkiheoelakaaaW.PrintWords Go.Proofs.YtkmkiheoelakaaaW.PrintLast Go.Proofs.YtkmkiheoelakaaaW.PrintMore
def unitT : List Int := [98, 121, 116, 101, 115, 32]
def crPrint (kn : Bool) (f t tot : Int) : List Int :=
  if rightC kn f t tot then unitT ++ (if kn then ptext f ++ [45] ++ ptext (t - 1) else [42]) ++ (if tot = -1 then [47, 42] else [47] ++ ptext tot) else []
theorem unit_str : (⟨#[98, 121, 116, 101, 115, 32]⟩ : ByteArray) = strOfNums unitT := by decide
theorem dash_str : (⟨#[45]⟩ : ByteArray) = strOfNums [45] := by decide
theorem slash_str : (⟨#[47]⟩ : ByteArray) = strOfNums [47] := by decide
theorem any_str : (⟨#[47, 42]⟩ : ByteArray) = strOfNums [47, 42] := by decide
theorem ptext_dig (a : Int) (h : 0 ≤ a) : ptext a = dig a.toNat := by unfold ptext; rw [if_neg (by omega)]
theorem ptext_len (n : Int) (h : 0 ≤ n ∧ n ≤ 9223372036854775807) : (ptext n).length ≤ 20 := by
  rw [ptext_dig n h.1]; exact dig_len _ (by omega)
theorem rightC_tot {kn : Bool} {f t tot : Int} (h : rightC kn f t tot = true) : tot = -1 ∨ (0 ≤ tot ∧ tot ≤ 4611686018427387903) := by
  unfold rightC at h
  rw [Bool.and_eq_true] at h
  exact of_decide_eq_true h.1
theorem rightC_at {f t tot : Int} (h : rightC true f t tot = true) : 0 ≤ f ∧ f < t ∧ t ≤ 4611686018427387903 ∧ (tot = -1 ∨ t ≤ tot) := by
  unfold rightC at h
  rw [Bool.and_eq_true, if_pos rfl, Bool.and_eq_true] at h
  have h1 := of_decide_eq_true h.2.1
  have h2 := of_decide_eq_true h.2.2
  omega
end Go.Proofs.Ytkmkiheoelakaaa.PureQ
namespace Go.Proofs.Ytkmkiheoelakaaa.PureQ
open Go.RowKit Go.Proofs.Ytkmkiheoelakaaa.Pure Go.Proofs.Ytkmkiheoelakaaa.Xw Go.Proofs.Ytkmkiheoelakaaa.PAll Go.Proofs.YtkmkiheoelakaaaW.PrintWords Go.Proofs.YtkmkiheoelakaaaW.PrintLast Go.Proofs.YtkmkiheoelakaaaW.PrintMore
theorem parse_digs (n : Nat) (h : (n : Int) ≤ maxN) (k : Nat) : parse (List.replicate k 48 ++ dig n) = ((n : Int), 0) := by
  have hd := dig_all n
  unfold parse
  have h1 : ¬ (List.replicate k 48 ++ dig n = [] ∨ (List.replicate k 48 ++ dig n).all isDig = false) := by
    rintro (h | h)
    · exact hd.2.1 (List.append_eq_nil_iff.1 h).2
    · rw [List.all_append, hd.1] at h
      have : (List.replicate k (48 : Int)).all isDig = true := by
        rw [List.all_eq_true]; intro b hb; rw [List.eq_of_mem_replicate hb]; decide
      rw [this] at h; cases h
  rw [if_neg h1, fval_zeros, hd.2.2, if_neg (by omega)]
theorem dig_no (n : Nat) (b : Int) (h : isDig b = false) : b ∉ dig n := by
  intro hm
  have := List.all_eq_true.1 (dig_all n).1 b hm
  rw [h] at this; cases this
theorem zeros_no (k n : Nat) (b : Int) (h : isDig b = false) : b ∉ List.replicate k 48 ++ dig n := by
  intro hm
  rcases List.mem_append.1 hm with hm | hm
  · rw [List.eq_of_mem_replicate hm] at h; exact absurd h (by decide)
  · exact dig_no n b h hm
def totT (tot : Int) : List Int := if tot = -1 then [42] else dig tot.toNat
theorem dig_ne_star (n : Nat) : dig n ≠ [42] := by
  intro h; have := dig_no n 42 (by decide); rw [h] at this; simp at this
theorem zeros_ne_star (k n : Nat) (l : List Int) : List.replicate k 48 ++ dig n ++ 45 :: l ≠ [42] := by
  intro h
  have h1 : (45 : Int) ∈ List.replicate k 48 ++ dig n ++ 45 :: l := List.mem_append.2 (.inr List.mem_cons_self)
  rw [h] at h1; simp at h1
theorem contT_totT (tot : Int) (ht : tot = -1 ∨ (0 ≤ tot ∧ tot ≤ 4611686018427387903)) (kn : Bool) (f t : Int) (hr : rightC kn f t tot = true) : contT (totT tot) 0 kn f t = (kn, f, t, tot, 0) := by
  unfold contT totT
  by_cases h : tot = -1
  · subst h
    rw [if_pos rfl, if_pos rfl, contE, if_pos rfl, if_pos hr]
  · rw [if_neg h, if_neg (dig_ne_star _)]
    have hp := parse_digs tot.toNat (by unfold maxN; omega) 0
    rw [List.replicate_zero, List.nil_append] at hp
    have e : ((tot.toNat : Nat) : Int) = tot := by omega
    rw [hp, e]
    have hw : worse 0 0 = 0 := rfl
    dsimp only
    rw [hw, contE, if_pos rfl, if_pos hr]
theorem cont_known (u : List Int) (hu : u.map lowI = [98, 121, 116, 101, 115]) (h32 : (32 : Int) ∉ u) (k : Nat) (f t tot : Int) (hr : rightC true f t tot = true) :
    contOf (u ++ 32 :: (List.replicate k 48 ++ dig f.toNat ++ 45 :: dig (t - 1).toNat ++ 47 :: totT tot)) = (true, f, t, tot, 0) := by
  have hat := rightC_at hr
  have htot := rightC_tot hr
  have h47 : (47 : Int) ∉ List.replicate k 48 ++ dig f.toNat ++ 45 :: dig (t - 1).toNat := by
    intro hm
    rcases List.mem_append.1 hm with hm | hm
    · exact zeros_no k _ 47 (by decide) hm
    · rcases List.mem_cons.1 hm with hm | hm
      · exact absurd hm (by decide)
      · exact dig_no _ 47 (by decide) hm
  unfold contOf
  rw [cutOf_mk 32 u _ h32]
  dsimp only
  rw [cutOf_mk 47 _ _ h47]
  dsimp only
  rw [if_pos rfl, if_pos rfl, if_pos hu]
  unfold contA
  rw [if_neg (zeros_ne_star _ _ _), cutOf_mk 45 _ _ (zeros_no k _ 45 (by decide))]
  dsimp only
  have p1 := parse_digs f.toNat (by unfold maxN; omega) k
  have p2 := parse_digs (t - 1).toNat (by unfold maxN; omega) 0
  rw [List.replicate_zero, List.nil_append] at p2
  rw [if_pos rfl, p1, p2]
  dsimp only
  have hw : worse (worse 0 0) 0 = 0 := rfl
  have e1 : ((f.toNat : Nat) : Int) = f := by omega
  have e2 : wrap64 ((((t - 1).toNat : Nat) : Int) + 1) = t := by rw [wrap_id (by omega)]; omega
  rw [hw, e1, e2]
  exact contT_totT tot htot true f t hr
theorem cont_unknown (u : List Int) (hu : u.map lowI = [98, 121, 116, 101, 115]) (h32 : (32 : Int) ∉ u) (tot : Int) (hr : rightC false 0 0 tot = true) :
    contOf (u ++ 32 :: ([42] ++ 47 :: totT tot)) = (false, 0, 0, tot, 0) := by
  unfold contOf
  rw [cutOf_mk 32 u _ h32]
  dsimp only
  rw [cutOf_mk 47 [42] _ (by decide)]
  dsimp only
  rw [if_pos rfl, if_pos rfl, if_pos hu]
  unfold contA
  rw [if_pos rfl]
  exact contT_totT tot (rightC_tot hr) false 0 0 hr
theorem totT_text (tot : Int) (h : tot = -1 ∨ (0 ≤ tot ∧ tot ≤ 4611686018427387903)) : (if tot = -1 then [47, 42] else [47] ++ ptext tot) = 47 :: totT tot := by
  unfold totT
  by_cases e : tot = -1
  · rw [if_pos e, if_pos e]
  · rw [if_neg e, if_neg e, ptext_dig tot (by omega)]; rfl
theorem crPrint_known (f t tot : Int) (hr : rightC true f t tot = true) : crPrint true f t tot = [98, 121, 116, 101, 115] ++ 32 :: (List.replicate 0 48 ++ dig f.toNat ++ 45 :: dig (t - 1).toNat ++ 47 :: totT tot) := by
  have hat := rightC_at hr
  unfold crPrint
  rw [if_pos hr, totT_text tot (rightC_tot hr), if_pos rfl, ptext_dig f (by omega), ptext_dig (t - 1) (by omega)]
  simp [unitT]
theorem crPrint_unknown (f t tot : Int) (hr : rightC false f t tot = true) : f = 0 ∧ t = 0 ∧ crPrint false f t tot = [98, 121, 116, 101, 115] ++ 32 :: ([42] ++ 47 :: totT tot) := by
  have h0 : f = 0 ∧ t = 0 := by
    have h := hr
    unfold rightC at h
    rw [Bool.and_eq_true, if_neg (by decide), Bool.and_eq_true] at h
    exact of_decide_eq_true h.2.1
  refine ⟨h0.1, h0.2, ?_⟩
  unfold crPrint
  rw [if_pos hr, totT_text tot (rightC_tot hr), if_neg (by decide)]
  simp [unitT]
theorem totT_isB (tot : Int) : ∀ b ∈ totT tot, isB b := by
  intro b hb
  unfold totT at hb
  split at hb
  · simp at hb; unfold isB; omega
  · exact dig_isB _ b hb
theorem zeros_isB (k n : Nat) : ∀ b ∈ List.replicate k (48 : Int) ++ dig n, isB b := by
  intro b hb
  rcases List.mem_append.1 hb with h | h
  · rw [List.eq_of_mem_replicate h]; unfold isB; omega
  · exact dig_isB n b h
theorem known_isB (u : List Int) (hu : ∀ b ∈ u, isB b) (k : Nat) (f t tot : Int) : ∀ b ∈ u ++ 32 :: (List.replicate k 48 ++ dig f.toNat ++ 45 :: dig (t - 1).toNat ++ 47 :: totT tot), isB b := by
  intro b hb
  rcases List.mem_append.1 hb with h | h
  · exact hu b h
  · rcases List.mem_cons.1 h with h | h
    · unfold isB; omega
    · rcases List.mem_append.1 h with h | h
      · rcases List.mem_append.1 h with h | h
        · exact zeros_isB k _ b h
        · rcases List.mem_cons.1 h with h | h
          · unfold isB; omega
          · exact dig_isB _ b h
      · rcases List.mem_cons.1 h with h | h
        · unfold isB; omega
        · exact totT_isB tot b h
theorem totT_len (tot : Int) (h : tot = -1 ∨ (0 ≤ tot ∧ tot ≤ 4611686018427387903)) : (totT tot).length ≤ 20 := by
  unfold totT
  split
  · simp
  · exact dig_len _ (by omega)
end Go.Proofs.Ytkmkiheoelakaaa.PureQ
namespace Go.Proofs.Ytkmkiheoelakaaa.PureQ
open Go.RowKit Go.Proofs.Ytkmkiheoelakaaa.Pure Go.Proofs.Ytkmkiheoelakaaa.Xw Go.Proofs.Ytkmkiheoelakaaa.PAll Go.Proofs.YtkmkiheoelakaaaW.PrintWords Go.Proofs.YtkmkiheoelakaaaW.PrintLast Go.Proofs.YtkmkiheoelakaaaW.PrintMore
theorem none_str : (⟨#[98, 121, 116, 101, 115, 32, 42]⟩ : ByteArray) = strOfNums (unitT ++ [42]) := by decide
theorem ref_print_content (kn : Bool) (f t tot : Int) : Ev (fun k => r4PC.f k kn f t tot) (strOfNums (crPrint kn f t tot)) := by
  refine Ev.bind (ref_right_content kn f t tot) ?_
  unfold crPrint
  cases hr : rightC kn f t tot
  · exact Ev.now _
  have htot := rightC_tot hr
  simp only [if_true]
  cases kn with
  | true =>
    have hat := rightC_at hr
    have l1 := ptext_len f (by omega)
    have l2 := ptext_len (t - 1) (by omega)
    simp only [if_true]
    refine Ev.bind (ref_print_ev f (by omega)) ?_
    rw [wrap_id (x := t - 1) (by omega)]
    simp only [size_str, show 6 + (ptext f).length ≤ 9223372036854775807 by omega, show 6 + (ptext f).length + 1 ≤ 9223372036854775807 by omega, if_true]
    refine Ev.bind (ref_print_ev (t - 1) (by omega)) ?_
    simp only [size_str, show 6 + (ptext f).length + 1 + (ptext (t - 1)).length ≤ 9223372036854775807 by omega, show 6 + (ptext f).length + 1 + (ptext (t - 1)).length + 2 ≤ 9223372036854775807 by omega, show 6 + (ptext f).length + 1 + (ptext (t - 1)).length + 1 ≤ 9223372036854775807 by omega, if_true]
    by_cases ht : tot = -1
    · simp only [ht, show (-1 : Int) < 0 by decide, if_true]
      rw [unit_str, dash_str, any_str, str_append, str_append, str_append, str_append]
      have : unitT ++ ptext f ++ [45] ++ ptext (t - 1) ++ [47, 42] = unitT ++ (ptext f ++ [45] ++ ptext (t - 1)) ++ [47, 42] := by simp
      rw [this]; exact Ev.now _
    · have l3 := ptext_len tot (by omega)
      simp only [ht, show ¬ tot < 0 by omega, if_false]
      refine Ev.bind (ref_print_ev tot (by omega)) ?_
      simp only [size_str, show 6 + (ptext f).length + 1 + (ptext (t - 1)).length + 1 + (ptext tot).length ≤ 9223372036854775807 by omega, if_true]
      rw [unit_str, dash_str, slash_str, str_append, str_append, str_append, str_append, str_append]
      have : unitT ++ ptext f ++ [45] ++ ptext (t - 1) ++ [47] ++ ptext tot = unitT ++ (ptext f ++ [45] ++ ptext (t - 1)) ++ ([47] ++ ptext tot) := by simp
      rw [this]; exact Ev.now _
  | false =>
    simp only [Bool.false_eq_true, if_false]
    by_cases ht : tot = -1
    · simp only [ht, show (-1 : Int) < 0 by decide, show 7 + 2 ≤ 9223372036854775807 by decide, if_true]
      rw [none_str, any_str, str_append]
      exact Ev.now _
    · have l3 := ptext_len tot (by omega)
      simp only [ht, show ¬ tot < 0 by omega, show 7 + 1 ≤ 9223372036854775807 by decide, if_false, if_true]
      refine Ev.bind (ref_print_ev tot (by omega)) ?_
      simp only [size_str, show 8 + (ptext tot).length ≤ 9223372036854775807 by omega, if_true]
      rw [none_str, slash_str, str_append, str_append, List.append_assoc (unitT ++ _)]
      exact Ev.now _
theorem crPrint_isB (kn : Bool) (f t tot : Int) : ∀ b ∈ crPrint kn f t tot, isB b := by
  cases hr : rightC kn f t tot
  · unfold crPrint; rw [hr]; simp
  · cases kn with
    | true => rw [crPrint_known f t tot hr]; exact known_isB _ (by simp [isB]) 0 f t tot
    | false =>
      rw [(crPrint_unknown f t tot hr).2.2]
      intro b hb
      rcases List.mem_append.1 hb with h | h
      · simp at h; unfold isB; omega
      · rcases List.mem_cons.1 h with h | h
        · unfold isB; omega
        · rcases List.mem_append.1 h with h | h
          · simp at h; unfold isB; omega
          · rcases List.mem_cons.1 h with h | h
            · unfold isB; omega
            · exact totT_isB tot b h
theorem crPrint_len (kn : Bool) (f t tot : Int) : (crPrint kn f t tot).length ≤ 100 := by
  cases hr : rightC kn f t tot
  · unfold crPrint; rw [hr]; simp
  · have htot := rightC_tot hr
    have l3 := totT_len tot htot
    cases kn with
    | true =>
      have hat := rightC_at hr
      have l1 := dig_len f.toNat (by omega)
      have l2 := dig_len (t - 1).toNat (by omega)
      rw [crPrint_known f t tot hr]; simp only [List.length_append, List.length_cons, List.length_replicate, List.length_nil]; omega
    | false => rw [(crPrint_unknown f t tot hr).2.2]; simp; omega
theorem crPrint_back (kn : Bool) (f t tot : Int) : contOf (crPrint kn f t tot) = if rightC kn f t tot then (kn, f, t, tot, 0) else z3 := by
  cases hr : rightC kn f t tot
  · have e : crPrint kn f t tot = [] := by unfold crPrint; rw [hr]; rfl
    rw [e]; rfl
  · rw [if_pos rfl]
    cases kn with
    | true => rw [crPrint_known f t tot hr]; exact cont_known [98, 121, 116, 101, 115] (by decide) (by decide) 0 f t tot hr
    | false =>
      obtain ⟨h1, h2, h3⟩ := crPrint_unknown f t tot hr
      rw [h3]; subst h1; subst h2
      exact cont_unknown [98, 121, 116, 101, 115] (by decide) (by decide) tot hr
end Go.Proofs.Ytkmkiheoelakaaa.PureQ
namespace Go.Proofs.Ytkmkiheoelakaaa.PureQ
open Go.RowKit Go.Proofs.Ytkmkiheoelakaaa.Pure Go.Proofs.Ytkmkiheoelakaaa.Xw Go.Proofs.Ytkmkiheoelakaaa.PAll Go.Proofs.YtkmkiheoelakaaaW.PrintWords Go.Proofs.YtkmkiheoelakaaaW.PrintLast Go.Proofs.YtkmkiheoelakaaaW.PrintMore
def shiftV (l : List Int) : List Int := if (contOf l).2.2.2.2 = 0 ∧ (contOf l).1 = true then crPrint true (wrap64 ((contOf l).2.1 + 1)) (wrap64 ((contOf l).2.2.1 + 1)) (contOf l).2.2.2.1 else l
def faultyV (kind : Int) (a : Int) (b : ByteArray) (c : Int) (d : ByteArray) (l : List Int) : Int × ByteArray × Int × ByteArray × List Int :=
  if kind = 5 then (404, (⟨#[]⟩ : ByteArray), 0, (⟨#[]⟩ : ByteArray), []) else if kind = 1 then (503, (⟨#[]⟩ : ByteArray), 0, (⟨#[]⟩ : ByteArray), [])
  else if kind = 4 then (a, b ++ (⟨#[34]⟩ : ByteArray), c, d, l) else if kind = 3 then (a, b, c, strOfNums (shiftV (bytesOf d)), l) else if kind = 2 then (a, b, c, d, l.take (l.length - 1)) else (a, b, c, d, l)
theorem len_cut (l : List Int) (h : l.length ≤ 500) (h0 : (l.length : Int) > 0) : wrap64 ((l.length : Int) - 1) = ((l.length - 1 : Nat) : Int) := by rw [wrap_id (by omega)]; omega
theorem ref_faulty_ev (kind a : Int) (b : ByteArray) (c : Int) (d : ByteArray) (l : List Int) (hb : b.size ≤ 200) (hd : d.size ≤ 200) (hl : l.length ≤ 500) : Ev (fun k => spenceref24_Faulty.f k kind a b c d l) (faultyV kind a b c d l) := by
  unfold spenceref24_Faulty.f faultyV
  by_cases h5 : kind = 5
  · simp only [h5, if_true, show ¬ (5 : Int) = 1 by decide, if_false]; exact Ev.now _
  by_cases h1 : kind = 1
  · simp only [h1, if_true]; simp only [show ¬ (1 : Int) = 5 by decide, if_false]; exact Ev.now _
  by_cases h4 : kind = 4
  · simp only [h4, if_true, show ¬ (4 : Int) = 5 by decide, show ¬ (4 : Int) = 1 by decide, if_false, show b.size + 1 ≤ 9223372036854775807 by omega]; exact Ev.now _
  by_cases h3 : kind = 3
  · simp only [h3, if_true, show ¬ (3 : Int) = 5 by decide, show ¬ (3 : Int) = 1 by decide, show ¬ (3 : Int) = 4 by decide, show ¬ (3 : Int) = 2 by decide, if_false]
    refine Ev.bind (ref_content_ev d (by omega)) ?_
    by_cases g1 : (contOf (bytesOf d)).2.2.2.2 = 0
    rotate_left
    · have e : shiftV (bytesOf d) = bytesOf d := by unfold shiftV; rw [if_neg (fun h => g1 h.1)]
      rw [e, str_bytes]
      simp only [g1, if_false]; exact Ev.now _
    by_cases g2 : (contOf (bytesOf d)).1 = true
    rotate_left
    · have e : shiftV (bytesOf d) = bytesOf d := by unfold shiftV; rw [if_neg (fun h => g2 h.2)]
      rw [e, str_bytes]
      simp only [g1, g2, if_true]; exact Ev.now _
    have e : shiftV (bytesOf d) = crPrint true (wrap64 ((contOf (bytesOf d)).2.1 + 1)) (wrap64 ((contOf (bytesOf d)).2.2.1 + 1)) (contOf (bytesOf d)).2.2.2.1 := by unfold shiftV; rw [if_pos ⟨g1, g2⟩]
    rw [e]
    simp only [g1, g2, if_true]
    exact Ev.bind (ref_print_content _ _ _ _) (Ev.now _)
  by_cases h2 : kind = 2
  · simp only [h2, if_true, show ¬ (2 : Int) = 5 by decide, show ¬ (2 : Int) = 1 by decide, show ¬ (2 : Int) = 4 by decide, show ¬ (2 : Int) = 3 by decide, if_false]
    by_cases h0 : (l.length : Int) > 0
    · simp only [h0, if_true, len_cut l hl h0, Int.toNat_natCast]
      simp only [show (0 : Int) ≤ ((l.length - 1 : Nat) : Int) by omega, show ((l.length - 1 : Nat) : Int) ≤ (l.length : Int) by omega, if_true]
      exact Ev.now _
    · have : l = [] := List.eq_nil_of_length_eq_zero (by omega)
      subst this
      simp only [h0, if_false]; exact Ev.now _
  simp only [h5, h1, h4, h3, h2, if_false]; exact Ev.now _
end Go.Proofs.Ytkmkiheoelakaaa.PureQ

namespace Go.Proofs.Ytkmkiheoelakaaa.Pure
open Go.RowKit Go.Proofs.Ytkmkiheoelakaaa.PAll Go.Proofs.YtkmkiheoelakaaaW.PrintWords Go.Proofs.YtkmkiheoelakaaaW.PrintLast Go.Proofs.YtkmkiheoelakaaaW.PrintMore
def may (b : Int) : Bool := b == 33 || (decide (b ≥ 35) && b != 127)
theorem may_eq (b : Int) : etag_may.f b = some (may b) := by
  unfold etag_may.f may
  by_cases h1 : b ≥ 128
  · have a1 : b ≥ 35 := by omega
    have a2 : b ≠ 127 := by omega
    rw [if_pos h1]; simp [a2]; omega
  · rw [if_neg h1]
    by_cases h2 : b = 33
    · rw [if_pos h2]; simp [h2]
    · rw [if_neg h2]
      by_cases h3 : b = 127
      · rw [if_pos h3, h3]; rfl
      · rw [if_neg h3]
        have e1 : (b == 33) = false := by simpa using h2
        have e2 : (b != 127) = true := by simpa using h3
        rw [e1, e2, Bool.false_or, Bool.and_true]
def plain (l : List Int) : Bool := l.all may
theorem plain_loop (s : ByteArray) (hs : s.size ≤ 9223372036854775806) (d : Nat) : ∀ i : Int, 0 ≤ i → i ≤ s.size → (s.size : Int) - i = d →
    Ev (fun k => etag_plain.l0 k s s.size i) (plain ((bytesOf s).drop i.toNat)) := by
  induction d with
  | zero =>
    intro i h0 h1 hd
    refine Ev.pos (fun k => ?_)
    simp only [etag_plain.l0]
    rw [if_neg (by omega), List.drop_of_length_le (by rw [bytesOf_length]; omega)]
    rfl
  | succ d ih =>
    intro i h0 h1 hd
    have hi : i < s.size := by omega
    rw [bytes_drop s i h0 hi, plain, List.all_cons]
    by_cases hb : may (bt s i) = true
    · rw [hb, Bool.true_and]
      refine Ev.step (fun k => ?_) (ih (i + 1) (by omega) (by omega) (by omega))
      simp only [etag_plain.l0, may_eq, Option.bind_some]
      rw [if_pos hi, if_pos h0, if_pos hi, if_pos hb, wrap_id (by omega)]
    · refine Ev.pos (fun k => ?_)
      simp only [etag_plain.l0, may_eq, Option.bind_some]
      rw [if_pos hi, if_pos h0, if_pos hi, if_neg hb]
      simp [hb]
theorem plain_ev (s : ByteArray) (hs : s.size ≤ 9223372036854775806) : Ev (fun k => etag_plain.f k s) (plain (bytesOf s)) := by
  have := plain_loop s hs s.size 0 (by omega) (by omega) (by omega)
  rw [Int.toNat_zero, List.drop_zero] at this
  exact this
theorem right_of (w : Bool) (s : ByteArray) (hs : s.size ≤ 9223372036854775806) : Ev (fun k => etag_Right.f k w s) (plain (bytesOf s) && decide (s.size ≤ 40)) := by
  refine Ev.bind (f := fun _ t => if t = true then some (decide ((s.size : Int) ≤ 40)) else some false) (plain_ev s hs) (Ev.all fun k => ?_)
  cases plain (bytesOf s)
  · rfl
  · simp; omega
/-- what stands between the marks -/
def inner (l : List Int) : List Int := (l.take (l.length - 1)).drop 1
def tagText (w : Bool) (l : List Int) : List Int := (if w then [87, 47] else []) ++ (34 :: l ++ [34])
theorem print_bytes (w : Bool) (s : ByteArray) : (if w = true then (⟨#[87, 47]⟩ : ByteArray) ++ (((⟨#[34]⟩ : ByteArray) ++ s) ++ (⟨#[34]⟩ : ByteArray)) else ((⟨#[34]⟩ : ByteArray) ++ s) ++ (⟨#[34]⟩ : ByteArray)) = strOfNums (tagText w (bytesOf s)) := by
  have hb : ∀ b ∈ tagText w (bytesOf s), isB b := by
    intro b hb
    unfold tagText at hb
    rcases List.mem_append.1 hb with h | h
    · cases w
      · simp at h
      · simp at h; unfold isB; omega
    · simp only [List.cons_append, List.mem_cons, List.mem_append, List.not_mem_nil, or_false] at h
      rcases h with h | h | h
      · unfold isB; omega
      · exact bytesOf_isB s b h
      · unfold isB; omega
  rw [← bytesOf_inj, bytesOf_str _ hb]
  cases w <;> simp [tagText, bytesOf_append] <;> rfl
end Go.Proofs.Ytkmkiheoelakaaa.Pure
namespace Go.Proofs.Ytkmkiheoelakaaa.PureQ
open Go.RowKit Go.Proofs.Ytkmkiheoelakaaa.Pure Go.Proofs.Ytkmkiheoelakaaa.Xw Go.Proofs.Ytkmkiheoelakaaa.PAll Go.Proofs.YtkmkiheoelakaaaW.PrintWords Go.Proofs.YtkmkiheoelakaaaW.PrintLast Go.Proofs.YtkmkiheoelakaaaW.PrintMore
abbrev Rep := Int × ByteArray × Int × ByteArray × List Int
def tagOk (l : List Int) : Bool := decide (l ≠ []) && (plain l && decide (l.length ≤ 40))
theorem tag_ok_ev (s : ByteArray) (h : s.size ≤ 1000) : Ev (fun k => check_Tag.f k s) (tagOk (bytesOf s)) := by
  unfold check_Tag.f tagOk
  by_cases h0 : bytesOf s = []
  · simp only [(toList_nil s).2 h0, if_true]
    rw [decide_eq_false (fun h => h h0)]; exact Ev.now _
  · have h0' : ¬ s.toList = ([] : List UInt8) := fun e => h0 ((toList_nil s).1 e)
    simp only [h0', if_false]
    rw [decide_eq_true h0, Bool.true_and, bytesOf_length]
    exact Ev.bind (right_of false s (by omega)) (Ev.now _)
theorem fits_q (a lo hi : Int) : nums_Fits.f a lo hi = some (decide (lo ≤ a ∧ a ≤ hi)) := by
  unfold nums_Fits.f
  by_cases h : a ≥ lo
  · rw [if_pos h]; have : lo ≤ a := h
    simp [this]
  · rw [if_neg h]; have : ¬ lo ≤ a := h
    simp [this]
def headV (m : List Int) (r : Rep) : Int :=
  if r.1 = 404 then 4 else if r.1 = 200 then (if tagOk (bytesOf r.2.1) = true ∧ 0 ≤ r.2.2.1 ∧ r.2.2.1 ≤ 4096 then (if tagOk m = true ∧ m = bytesOf r.2.1 then 2 else 0) else 3)
  else if r.1 = 304 then (if tagOk m = true ∧ m = bytesOf r.2.1 then 2 else 3) else 3
theorem head_ev (a : Int) (h : Bool) (s : ByteArray) (p q : Int) (r : Rep) (hs : s.size ≤ 1000) (hr : r.2.1.size ≤ 1000) : Ev (fun k => check_Head.f k a h s p q r.1 r.2.1 r.2.2.1 r.2.2.2.1 r.2.2.2.2) (headV (bytesOf s) r) := by
  obtain ⟨st, tg, ln, rg, body⟩ := r
  dsimp only at hr ⊢
  have key : ∀ x : Bool, x = decide (tagOk (bytesOf s) = true ∧ bytesOf s = bytesOf tg) → Ev (fun k => check_Head.j0 k x st tg ln rg body) (headV (bytesOf s) (st, tg, ln, rg, body)) := by
    intro x hx
    have hx1 : (tagOk (bytesOf s) = true ∧ bytesOf s = bytesOf tg) ↔ x = true := by rw [hx, decide_eq_true_iff]
    unfold headV
    dsimp only
    refine Ev.succ ?_
    simp only [check_Head.j0]
    by_cases h1 : st = 404
    · simp only [h1, if_true]; exact Ev.now _
    by_cases h2 : st = 200
    · simp only [h2, if_true, show ¬ (200 : Int) = 404 by decide, if_false]
      refine Ev.bind (tag_ok_ev tg hr) ?_
      have j1 : ∀ b : Bool, Ev (fun k => check_Head.j1 k x b) (if b = true then 3 else if x = true then 2 else 0) := by
        intro b
        refine Ev.pos (fun k => ?_)
        simp only [check_Head.j1]
        cases b <;> cases x <;> rfl
      by_cases h3 : tagOk (bytesOf tg) = true
      · simp only [h3, if_true, true_and, fits_q, Option.bind_some]
        refine Ev.congr (fun k => rfl) ?_
        have := j1 (!decide (0 ≤ ln ∧ ln ≤ 4096))
        by_cases h4 : 0 ≤ ln ∧ ln ≤ 4096
        · rw [decide_eq_true h4] at this ⊢
          rw [if_pos h4]
          cases x with
          | true => rw [if_pos (hx1.2 rfl)]; simpa using this
          | false => rw [if_neg (fun h => by cases hx1.1 h)]; simpa using this
        · rw [decide_eq_false h4] at this ⊢
          rw [if_neg h4]; simpa using this
      · simp only [h3, Bool.false_eq_true, if_false, false_and]
        simpa using j1 true
    · simp only [h1, h2, if_false]
      by_cases h3 : st = 304
      · simp only [h3, if_true]
        cases x with
        | true => rw [if_pos (hx1.2 rfl)]; exact Ev.now _
        | false =>
          have hx2 : ¬ (tagOk (bytesOf s) = true ∧ bytesOf s = bytesOf tg) := fun h => by cases hx1.1 h
          rw [if_neg hx2]; exact Ev.now _
      · simp only [h3, if_false]; exact Ev.now _
  refine Ev.bind (tag_ok_ev s hs) ?_
  by_cases h0 : tagOk (bytesOf s) = true
  · simp only [h0, if_true]
    refine key _ ?_
    rw [toList_beq]
    simp [h0]
  · simp only [h0, Bool.false_eq_true, if_false]
    refine key _ ?_
    rw [decide_eq_false (fun h => h0 h.1)]
def lenS (p q : Int) : Int := if rightS p q then wrap64 (q - p) else 0
def toldV (p q : Int) (r : Rep) : Bool :=
  decide ((contOf (bytesOf r.2.2.2.1)).2.2.2.2 = 0) && ((contOf (bytesOf r.2.2.2.1)).1 && ((((contOf (bytesOf r.2.2.2.1)).2.1 == p) && ((contOf (bytesOf r.2.2.2.1)).2.2.1 == q)) && (decide ((contOf (bytesOf r.2.2.2.1)).2.2.2.1 = r.2.2.1) && ((r.2.2.2.2.length : Int) == lenS p q))))
theorem told_ev (a : Int) (h : Bool) (s : ByteArray) (p q : Int) (r : Rep) (hr : r.2.2.2.1.size ≤ 1000) : Ev (fun k => check_told.f k a h s p q r.1 r.2.1 r.2.2.1 r.2.2.2.1 r.2.2.2.2) (toldV p q r) := by
  obtain ⟨st, tg, ln, rg, body⟩ := r
  dsimp only at hr ⊢
  refine Ev.bind (crange_parse_ev rg hr) ?_
  unfold toldV
  dsimp only
  generalize contOf (bytesOf rg) = c
  obtain ⟨kn, f, t, tot, e⟩ := c
  dsimp only
  by_cases h1 : e = 0
  rotate_left
  · simp only [h1, if_false, decide_false, Bool.false_and]; exact Ev.now _
  cases kn with
  | false => simp only [h1, if_true, Bool.false_eq_true, if_false, Bool.false_and, Bool.and_false]; exact Ev.now _
  | true =>
    simp only [h1, if_true, decide_true, Bool.true_and]
    cases hq : (f == p && t == q)
    · simp only [Bool.false_eq_true, if_false, Bool.false_and]; exact Ev.now _
    simp only [if_true, Bool.true_and]
    by_cases h2 : tot = ln
    rotate_left
    · simp only [h2, if_false, decide_false, Bool.false_and]; exact Ev.now _
    simp only [h2, if_true, decide_true, Bool.true_and]
    refine Ev.all (fun k => ?_)
    unfold span_Len.f lenS
    rw [span_right_c, Option.bind_some]
    cases rightS p q <;> rfl
def partV (p q : Int) (m : List Int) (r : Rep) : Int :=
  if r.1 = 404 then 4 else if r.1 = 412 then 1 else if r.1 = 206 then (if tagOk (bytesOf r.2.1) = true then (if bytesOf r.2.1 = m then (if toldV p q r = true then 0 else 3) else 1) else 3) else 3
theorem part_ev (a : Int) (h : Bool) (s : ByteArray) (p q : Int) (r : Rep) (hr1 : r.2.1.size ≤ 1000) (hr2 : r.2.2.2.1.size ≤ 1000) : Ev (fun k => check_Part.f k a h s p q r.1 r.2.1 r.2.2.1 r.2.2.2.1 r.2.2.2.2) (partV p q (bytesOf s) r) := by
  have ht := told_ev a h s p q r hr2
  unfold check_Part.f partV
  by_cases h1 : r.1 = 404
  · simp only [h1, if_true]; exact Ev.now _
  by_cases h2 : r.1 = 412
  · simp only [h2, if_true, show ¬ (412 : Int) = 404 by decide, if_false]; exact Ev.now _
  by_cases h3 : r.1 = 206
  rotate_left
  · simp only [h1, h2, h3, if_false]; exact Ev.now _
  simp only [h1, h2, if_false]
  rw [if_pos h3]
  refine Ev.congr (fun k => if_pos h3) ?_
  refine Ev.bind (tag_ok_ev r.2.1 hr1) ?_
  by_cases h4 : tagOk (bytesOf r.2.1) = true
  rotate_left
  · simp only [h4, Bool.false_eq_true, if_false]; exact Ev.now _
  simp only [h4, if_true]
  by_cases h5 : bytesOf r.2.1 = bytesOf s
  · simp only [(toList_bytes _ _).2 h5, if_true]
    rw [if_pos h5]
    refine Ev.bind ht ?_
    cases toldV p q r
    · simp only [Bool.false_eq_true, if_false]; exact Ev.now _
    · simp only [if_true]; exact Ev.now _
  · have : ¬ r.2.1.toList = s.toList := fun e => h5 ((toList_bytes _ _).1 e)
    simp only [this, if_false]; rw [if_neg h5]; exact Ev.now _
def checkV (h : Bool) (p q : Int) (m : List Int) (r : Rep) : Int := if h = true then headV m r else partV p q m r
theorem of_ev (a : Int) (h : Bool) (s : ByteArray) (p q : Int) (r : Rep) (hs : s.size ≤ 1000) (hr1 : r.2.1.size ≤ 1000) (hr2 : r.2.2.2.1.size ≤ 1000) : Ev (fun k => check_Of.f k a h s p q r.1 r.2.1 r.2.2.1 r.2.2.2.1 r.2.2.2.2) (checkV h p q (bytesOf s) r) := by
  have h1 := head_ev a h s p q r hs hr1
  have h2 := part_ev a h s p q r hr1 hr2
  unfold check_Of.f checkV
  cases h with
  | true => simp only [if_true]; exact Ev.bind h1 (Ev.now _)
  | false => simp only [Bool.false_eq_true, if_false]; exact Ev.bind h2 (Ev.now _)
theorem plain_dig (n : Nat) : plain (dig n) = true := by
  unfold plain
  rw [List.all_eq_true]
  intro b hb
  have := List.all_eq_true.1 (dig_all n).1 b hb
  unfold isDig at this
  have h2 : 48 ≤ b ∧ b ≤ 57 := by simpa using this
  unfold may
  have e1 : (b != 127) = true := bne_iff_ne.mpr (by omega)
  rw [e1, decide_eq_true (show b ≥ 35 by omega), Bool.and_self, Bool.or_true]
theorem tag_right (a v : Int) (h : mayV a v = true) : tagOk (tagV a v) = true := by
  have hm := of_decide_eq_true h
  have l1 := dig_length a.toNat 1 (by omega)
  have l2 := dig_length v.toNat 6 (by omega)
  unfold tagOk tagV
  rw [if_pos h]
  have e : plain ((118 :: dig a.toNat) ++ (45 :: dig v.toNat)) = true := by
    have h1 := plain_dig a.toNat
    have h2 := plain_dig v.toNat
    unfold plain at h1 h2 ⊢
    rw [List.all_append, List.all_cons, List.all_cons, h1, h2]; decide
  rw [e, decide_eq_true (by simp), Bool.true_and, Bool.true_and, decide_eq_true_iff]
  simp only [List.length_append, List.length_cons]
  omega
theorem tag_wrong (l : List Int) : tagOk (l ++ [34]) = false := by
  have e : plain (l ++ [34]) = false := by unfold plain; rw [List.all_append]; simp [may]
  unfold tagOk
  rw [e, Bool.false_and, Bool.and_false]
theorem cr_same (p q n : Int) (hr : rightS p q = true) (hq : q ≤ n) (hn : n ≤ 160) : crText p q n = crPrint true p q n := by
  have hr' := of_decide_eq_true hr
  have hc : rightC true p q n = true := by
    unfold rightC
    rw [if_pos rfl, hr, Bool.true_and, Bool.and_eq_true]
    exact ⟨decide_eq_true (.inr (by omega)), decide_eq_true (.inr hq)⟩
  unfold crText crPrint
  rw [if_pos hc, if_pos rfl, if_neg (by omega)]
  show Pure.unitT ++ _ ++ _ ++ _ = unitT ++ _ ++ _
  rw [show Pure.unitT = unitT from rfl]
  simp
theorem cr_right (p q n : Int) (hr : rightS p q = true) (hq : q ≤ n) (hn : n ≤ 160) : rightC true p q n = true := by
  have hr' := of_decide_eq_true hr
  unfold rightC
  rw [if_pos rfl, hr, Bool.true_and, Bool.and_eq_true]
  exact ⟨decide_eq_true (.inr (by omega)), decide_eq_true (.inr hq)⟩
theorem bodyV_length (a v p q : Int) (hr : rightS p q = true) (hq : q ≤ lenV a v) : ((bodyV a v p q).length : Int) = q - p := by
  have hr' := of_decide_eq_true hr
  have hl := lenV_range a v
  have e2 : Pure.rightS (max p 0) (min q (lenV a v)) = true := by
    have : max p 0 = p := by omega
    have h2 : min q (lenV a v) = q := by omega
    rw [this, h2]; exact hr
  have e : cutV a v p q = (p, q) := by
    unfold cutV
    rw [show Pure.rightS p q = true from hr, e2]
    have h2 : min q (lenV a v) = q := by omega
    simp [h2]
  unfold bodyV
  rw [e, bytesV_len]
  omega
theorem cont_text (p q n : Int) (hr : rightS p q = true) (hq : q ≤ n) (hn : n ≤ 160) : contOf (bytesOf (strOfNums (crText p q n))) = (true, p, q, n, 0) := by
  rw [cr_same p q n hr hq hn, bytesOf_str _ (crPrint_isB _ _ _ _), crPrint_back, if_pos (cr_right p q n hr hq hn)]
theorem cont_nil : contOf (bytesOf (strOfNums [])) = z3 := by decide
theorem shift_nil : shiftV (bytesOf (strOfNums [])) = [] := by
  unfold shiftV; rw [cont_nil]; decide
theorem shift_text (p q n : Int) (hr : rightS p q = true) (hq : q ≤ n) (hn : n ≤ 160) : shiftV (bytesOf (strOfNums (crText p q n))) = crPrint true (p + 1) (q + 1) n := by
  have hr' := of_decide_eq_true hr
  unfold shiftV
  rw [cont_text p q n hr hq hn]
  dsimp only
  rw [if_pos ⟨rfl, rfl⟩, wrap_id (by omega), wrap_id (by omega)]
theorem shift_no (p q n : Int) : ∀ (p2 q2 : Int), p2 ≠ p → toldV p q (206, strOfNums [], n, strOfNums (crPrint true p2 q2 n), []) = false ∧ ∀ (tg : ByteArray) (l : List Int), toldV p q (206, tg, n, strOfNums (crPrint true p2 q2 n), l) = false := by
  intro p2 q2 hne
  have key : ∀ (tg : ByteArray) (l : List Int), toldV p q (206, tg, n, strOfNums (crPrint true p2 q2 n), l) = false := by
    intro tg l
    unfold toldV
    dsimp only
    rw [bytesOf_str _ (crPrint_isB _ _ _ _), crPrint_back]
    by_cases hc : rightC true p2 q2 n = true
    · rw [if_pos hc]
      dsimp only
      rw [beq_eq_false_iff_ne.mpr hne]; simp
    · rw [if_neg hc]; simp [z3]
  exact ⟨key _ _, key⟩
def wantV (a v : Int) (h : Bool) (m : List Int) (p q : Int) : Int :=
  if h = true then (if m = tagV a v then 2 else 0) else if m = tagV a v then (if rightS p q = true ∧ q ≤ lenV a v then 0 else 3) else 1
theorem tag_bytes (a v : Int) : bytesOf (strOfNums (tagV a v)) = tagV a v := bytesOf_str _ (tagV_isB a v)
theorem lenS_right (p q : Int) (hr : rightS p q = true) : lenS p q = q - p := by
  have hr' := of_decide_eq_true hr
  unfold lenS
  rw [if_pos hr, wrap_id (by omega)]
theorem told_right (a v p q : Int) (hr : rightS p q = true) (hq : q ≤ lenV a v) : toldV p q (206, strOfNums (tagV a v), lenV a v, strOfNums (crText p q (lenV a v)), bodyV a v p q) = true := by
  have hl := lenV_range a v
  unfold toldV
  dsimp only
  rw [cont_text p q _ hr hq (by omega), bodyV_length a v p q hr hq, lenS_right p q hr]
  simp
theorem right_v (a v : Int) (hm : mayV a v = true) (h : Bool) (m : List Int) (p q : Int) : checkV h p q m (replyV a h m p q v) = wantV a v h m p q := by
  have hne : ¬ tagV a v = [] := fun e => by rw [tagV_nil, hm] at e; cases e
  have hok := tag_right a v hm
  have hl := lenV_range a v
  unfold checkV wantV replyV
  rw [if_neg hne]
  cases h with
  | true =>
    simp only [if_true]
    by_cases h1 : m = tagV a v
    · rw [if_pos h1, if_pos h1]; unfold headV
      dsimp only
      rw [if_neg (by decide), if_neg (by decide), if_pos rfl, tag_bytes, h1, hok, if_pos ⟨rfl, rfl⟩]
    · rw [if_neg h1, if_neg h1]; unfold headV
      dsimp only
      rw [if_neg (by decide), if_pos rfl, tag_bytes, hok, if_pos ⟨rfl, by omega, by omega⟩, if_neg (fun h => h1 h.2)]
  | false =>
    simp only [Bool.false_eq_true, if_false]
    by_cases h1 : m = tagV a v
    · rw [if_pos h1, if_pos h1]
      by_cases h2 : rightS p q = true ∧ q ≤ lenV a v
      · rw [if_pos h2, if_pos (show Pure.rightS p q = true ∧ q ≤ lenV a v from h2)]
        unfold partV
        rw [told_right a v p q h2.1 h2.2]
        dsimp only
        rw [tag_bytes, hok, h1]; simp
      · rw [if_neg h2, if_neg (show ¬ (Pure.rightS p q = true ∧ q ≤ lenV a v) from h2)]
        unfold partV
        dsimp only
        rw [if_neg (by decide), if_neg (by decide), if_neg (by decide)]
    · rw [if_neg h1, if_neg h1]
      unfold partV
      dsimp only
      rw [if_neg (by decide), if_pos rfl]
def wrongV (a v : Int) (h : Bool) (m : List Int) (p q kind : Int) : Int := checkV h p q m (faultyV kind (replyV a h m p q v).1 (replyV a h m p q v).2.1 (replyV a h m p q v).2.2.1 (replyV a h m p q v).2.2.2.1 (replyV a h m p q v).2.2.2.2)
theorem f0 (a : Int) (b : ByteArray) (c : Int) (d : ByteArray) (l : List Int) : faultyV 0 a b c d l = (a, b, c, d, l) := by
  unfold faultyV
  rw [if_neg (by decide), if_neg (by decide), if_neg (by decide), if_neg (by decide), if_neg (by decide)]
theorem f1 (a : Int) (b : ByteArray) (c : Int) (d : ByteArray) (l : List Int) : faultyV 1 a b c d l = (503, (⟨#[]⟩ : ByteArray), 0, (⟨#[]⟩ : ByteArray), []) := by
  unfold faultyV
  rw [if_neg (by decide), if_pos rfl]
theorem f2 (a : Int) (b : ByteArray) (c : Int) (d : ByteArray) (l : List Int) : faultyV 2 a b c d l = (a, b, c, d, l.take (l.length - 1)) := by
  unfold faultyV
  rw [if_neg (by decide), if_neg (by decide), if_neg (by decide), if_neg (by decide), if_pos rfl]
theorem f3 (a : Int) (b : ByteArray) (c : Int) (d : ByteArray) (l : List Int) : faultyV 3 a b c d l = (a, b, c, strOfNums (shiftV (bytesOf d)), l) := by
  unfold faultyV
  rw [if_neg (by decide), if_neg (by decide), if_neg (by decide), if_pos rfl]
theorem f4 (a : Int) (b : ByteArray) (c : Int) (d : ByteArray) (l : List Int) : faultyV 4 a b c d l = (a, b ++ (⟨#[34]⟩ : ByteArray), c, d, l) := by
  unfold faultyV
  rw [if_neg (by decide), if_neg (by decide), if_pos rfl]
theorem f5 (a : Int) (b : ByteArray) (c : Int) (d : ByteArray) (l : List Int) : faultyV 5 a b c d l = (404, (⟨#[]⟩ : ByteArray), 0, (⟨#[]⟩ : ByteArray), []) := by
  unfold faultyV
  rw [if_pos rfl]
theorem bad_tag (s : ByteArray) : tagOk (bytesOf (s ++ (⟨#[34]⟩ : ByteArray))) = false := by
  rw [bytesOf_append, show bytesOf (⟨#[34]⟩ : ByteArray) = [34] from rfl]; exact tag_wrong _
theorem bad_ne (s : ByteArray) (m : List Int) (h : tagOk m = true) : m ≠ bytesOf (s ++ (⟨#[34]⟩ : ByteArray)) := by
  intro e
  rw [e, bad_tag] at h; cases h
theorem check_down (h : Bool) (p q : Int) (m : List Int) (b : ByteArray) (c : Int) (d : ByteArray) (l : List Int) : checkV h p q m (503, b, c, d, l) = 3 := by
  unfold checkV headV partV
  cases h <;> rfl
theorem check_gone (h : Bool) (p q : Int) (m : List Int) (b : ByteArray) (c : Int) (d : ByteArray) (l : List Int) : checkV h p q m (404, b, c, d, l) = 4 := by
  unfold checkV headV partV
  cases h <;> rfl
theorem check_tag (h : Bool) (p q : Int) (m : List Int) (st : Int) (b : ByteArray) (c : Int) (d : ByteArray) (l : List Int) (hs : st = 200 ∨ st = 304 ∨ st = 206 ∨ st = 416) : checkV h p q m (st, b ++ (⟨#[34]⟩ : ByteArray), c, d, l) = 3 := by
  have hb := bad_tag b
  have hn : ¬ (tagOk m = true ∧ m = bytesOf (b ++ (⟨#[34]⟩ : ByteArray))) := fun x => bad_ne b m x.1 x.2
  unfold checkV headV partV
  dsimp only
  rw [hb]
  simp only [hn, if_false]
  rcases hs with rfl | rfl | rfl | rfl <;> cases h <;> rfl
theorem honest (a v : Int) (hm : mayV a v = true) (h : Bool) (m : List Int) (p q kind : Int) (hk : 0 ≤ kind ∧ kind ≤ 5) :
    (if kind = 0 ∨ (h = true ∧ (kind = 2 ∨ kind = 3)) ∨ (wantV a v h m p q = 1 ∧ (kind = 2 ∨ kind = 3 ∨ kind = 4)) then wrongV a v h m p q kind = wantV a v h m p q else wrongV a v h m p q kind = if kind = 5 then 4 else 3) := by
  have hne : ¬ tagV a v = [] := fun e => by rw [tagV_nil, hm] at e; cases e
  have hok := tag_right a v hm
  have hl := lenV_range a v
  have hr := right_v a v hm h m p q
  have k5 : kind = 0 ∨ kind = 1 ∨ kind = 2 ∨ kind = 3 ∨ kind = 4 ∨ kind = 5 := by omega
  by_cases h0 : kind = 0
  · subst h0
    rw [if_pos (.inl rfl), ← hr]
    unfold wrongV
    rw [f0]
  by_cases h1 : kind = 1
  · subst h1
    rw [if_neg (by rintro (x | x | x) <;> omega)]
    unfold wrongV
    rw [f1, check_down]; rfl
  by_cases h5 : kind = 5
  · subst h5
    rw [if_neg (by rintro (x | x | x) <;> omega)]
    unfold wrongV
    rw [f5, check_gone]; rfl
  unfold wrongV
  unfold wantV at hr ⊢
  unfold replyV at hr ⊢
  rw [if_neg hne] at hr ⊢
  cases h with
  | true =>
    simp only [if_true] at hr ⊢
    by_cases hmt : m = tagV a v
    · rw [if_pos hmt, if_pos hmt] at hr ⊢
      rcases k5 with x | x | x | x | x | x <;> try contradiction
      · subst x; rw [if_pos (.inr (.inl ⟨trivial, .inl rfl⟩)), f2]; exact hr
      · subst x; rw [if_pos (.inr (.inl ⟨trivial, .inr rfl⟩)), f3, shift_nil]; exact hr
      · subst x; rw [if_neg (by rintro (x | x | x) <;> omega), f4, check_tag _ _ _ _ _ _ _ _ _ (.inr (.inl rfl))]; rfl
    · rw [if_neg hmt, if_neg hmt] at hr ⊢
      rcases k5 with x | x | x | x | x | x <;> try contradiction
      · subst x; rw [if_pos (.inr (.inl ⟨trivial, .inl rfl⟩)), f2]; exact hr
      · subst x; rw [if_pos (.inr (.inl ⟨trivial, .inr rfl⟩)), f3, shift_nil]; exact hr
      · subst x; rw [if_neg (by rintro (x | x | x) <;> omega), f4, check_tag _ _ _ _ _ _ _ _ _ (.inl rfl)]; rfl
  | false =>
    simp only [Bool.false_eq_true, if_false, false_and, false_or] at hr ⊢
    by_cases hmt : m = tagV a v
    rotate_left
    · rw [if_neg hmt, if_neg hmt] at hr ⊢
      have hc : ∀ (b : ByteArray) (c : Int) (d : ByteArray) (l : List Int), checkV false p q m (412, b, c, d, l) = 1 := fun b c d l => rfl
      rcases k5 with x | x | x | x | x | x <;> try contradiction
      · subst x; rw [if_pos (.inr ⟨rfl, .inl rfl⟩), f2]; exact hc _ _ _ _
      · subst x; rw [if_pos (.inr ⟨rfl, .inr (.inl rfl)⟩), f3]; exact hc _ _ _ _
      · subst x; rw [if_pos (.inr ⟨rfl, .inr (.inr rfl)⟩), f4]; exact hc _ _ _ _
    · rw [if_pos hmt, if_pos hmt] at hr ⊢
      by_cases hw : rightS p q = true ∧ q ≤ lenV a v
      rotate_left
      · have hw' : ¬ (Pure.rightS p q = true ∧ q ≤ lenV a v) := hw
        rw [if_neg hw, if_neg hw'] at hr ⊢
        have hc : ∀ (b : ByteArray) (c : Int) (d : ByteArray) (l : List Int), checkV false p q m (416, b, c, d, l) = 3 := fun b c d l => rfl
        rw [if_neg (by rintro (x | x) <;> omega)]
        rcases k5 with x | x | x | x | x | x <;> try contradiction
        · subst x; rw [f2]; exact hc _ _ _ _
        · subst x; rw [f3]; exact hc _ _ _ _
        · subst x; rw [f4]; exact hc _ _ _ _
      · have hw' : Pure.rightS p q = true ∧ q ≤ lenV a v := hw
        rw [if_pos hw, if_pos hw'] at hr ⊢
        have hw2 := of_decide_eq_true hw.1
        rw [if_neg (by rintro (x | x) <;> omega)]
        have hc : ∀ (d : ByteArray) (l : List Int), toldV p q (206, strOfNums (tagV a v), lenV a v, d, l) = false → checkV false p q m (206, strOfNums (tagV a v), lenV a v, d, l) = 3 := by
          intro d l ht
          unfold checkV partV
          rw [ht]
          dsimp only
          rw [tag_bytes, hok, hmt]; simp
        rcases k5 with x | x | x | x | x | x <;> try contradiction
        · subst x
          rw [f2]
          refine (hc _ _ ?_)
          have hb := bodyV_length a v p q hw.1 hw.2
          unfold toldV
          dsimp only
          rw [cont_text p q _ hw.1 hw.2 (by omega), lenS_right p q hw.1, List.length_take]
          rw [beq_eq_false_iff_ne.mpr (show ((min ((bodyV a v p q).length - 1) (bodyV a v p q).length : Nat) : Int) ≠ q - p by omega)]
          simp
        · subst x
          rw [f3, shift_text p q _ hw.1 hw.2 (by omega)]
          exact (hc _ _ ((shift_no p q _ (p + 1) (q + 1) (by omega)).2 _ _))
        · subst x; rw [f4, check_tag _ _ _ _ _ _ _ _ _ (.inr (.inr (.inl rfl)))]; rfl
theorem small_reply (a v : Int) (hm : mayV a v = true) (h : Bool) (m : List Int) (p q : Int) : (replyV a h m p q v).2.1.size ≤ 100 ∧ (replyV a h m p q v).2.2.2.1.size ≤ 100 ∧ (replyV a h m p q v).2.2.2.2.length ≤ 500 := by
  have hne : ¬ tagV a v = [] := fun e => by rw [tagV_nil, hm] at e; cases e
  have hok := tag_right a v hm
  have hl := lenV_range a v
  have hb := bodyV_len a v p q
  have ht : (tagV a v).length ≤ 40 := by
    unfold tagOk at hok
    rw [Bool.and_eq_true, Bool.and_eq_true] at hok
    exact of_decide_eq_true hok.2.2
  have l3 := Pure.ptext_len (lenV a v) (by omega)
  have hz : (strOfNums []).size = 0 := by rw [size_str]; rfl
  unfold replyV
  rw [if_neg hne]
  cases h with
  | true =>
    simp only [if_true]
    by_cases h1 : m = tagV a v
    · rw [if_pos h1]; dsimp only; rw [size_str, hz]; exact ⟨by omega, by omega, by simp⟩
    · rw [if_neg h1]; dsimp only; rw [size_str, hz]; exact ⟨by omega, by omega, by simp⟩
  | false =>
    simp only [Bool.false_eq_true, if_false]
    by_cases h1 : m = tagV a v
    · rw [if_pos h1]
      by_cases h2 : Pure.rightS p q = true ∧ q ≤ lenV a v
      · rw [if_pos h2]; dsimp only
        rw [size_str, size_str, cr_same p q _ h2.1 h2.2 (by omega)]
        exact ⟨by omega, crPrint_len _ _ _ _, by omega⟩
      · rw [if_neg h2]; dsimp only
        rw [size_str, size_str]
        refine ⟨by omega, ?_, by simp⟩
        unfold crNone
        simp only [List.length_append, List.length_cons, List.length_nil, Pure.unitT]; omega
    · rw [if_neg h1]; dsimp only; rw [size_str, hz]; exact ⟨by omega, by omega, by simp⟩
theorem small_faulty (kind a : Int) (b : ByteArray) (c : Int) (d : ByteArray) (l : List Int) (hb : b.size ≤ 100) (hd : d.size ≤ 100) : (faultyV kind a b c d l).2.1.size ≤ 1000 ∧ (faultyV kind a b c d l).2.2.2.1.size ≤ 1000 := by
  have hz : (⟨#[]⟩ : ByteArray).size = 0 := rfl
  have hsh : (strOfNums (shiftV (bytesOf d))).size ≤ 100 := by
    rw [size_str]
    unfold shiftV
    split
    · exact crPrint_len _ _ _ _
    · rw [bytesOf_length]; exact hd
  have h34 : (b ++ (⟨#[34]⟩ : ByteArray)).size = b.size + 1 := by rw [ByteArray.size_append]; rfl
  unfold faultyV
  repeat' split
  all_goals dsimp only
  all_goals first | (rw [hz]; exact ⟨by omega, by omega⟩) | (rw [h34]; exact ⟨by omega, by omega⟩) | exact ⟨by omega, by omega⟩
theorem reply_of_ev (a : Int) (h : Bool) (s : ByteArray) (p q v : Int) (hs : s.size ≤ 1000) (hm : mayV a v = true) :
    Ev (fun k => check_Of.f k a h s p q (replyV a h (bytesOf s) p q v).1 (replyV a h (bytesOf s) p q v).2.1 (replyV a h (bytesOf s) p q v).2.2.1 (replyV a h (bytesOf s) p q v).2.2.2.1 (replyV a h (bytesOf s) p q v).2.2.2.2) (wantV a v h (bytesOf s) p q) := by
  obtain ⟨z1, z2, z3⟩ := small_reply a v hm h (bytesOf s) p q
  have := of_ev a h s p q (replyV a h (bytesOf s) p q v) hs (by omega) (by omega)
  rw [right_v a v hm] at this
  exact this
theorem m10 : bytesOf (⟨#[118, 49, 45, 48]⟩ : ByteArray) = tagV 1 0 := by
  unfold tagV
  rw [if_pos (by decide), dig_small (u := (1 : Int).toNat) (by decide), dig_small (u := (0 : Int).toNat) (by decide)]; decide
theorem awake33 : Ev (fun k => spencelaw33_awake.f k) true := by
  have hm : mayV 1 0 = true := by decide
  obtain ⟨z1, z2, z3⟩ := small_reply 1 0 hm false (bytesOf (⟨#[118, 49, 45, 48]⟩ : ByteArray)) 0 2
  refine Ev.bind (ref_reply_v 1 false (⟨#[118, 49, 45, 48]⟩ : ByteArray) 0 2 0) ?_
  have h1 := part_ev 1 false (⟨#[118, 49, 45, 48]⟩ : ByteArray) 0 2 (replyV 1 false (bytesOf (⟨#[118, 49, 45, 48]⟩ : ByteArray)) 0 2 0) (by omega) (by omega)
  have e1 := right_v 1 0 hm false (bytesOf (⟨#[118, 49, 45, 48]⟩ : ByteArray)) 0 2
  have e2 : wantV 1 0 false (bytesOf (⟨#[118, 49, 45, 48]⟩ : ByteArray)) 0 2 = 0 := by
    unfold wantV
    rw [if_neg (by decide), if_pos m10, if_pos (by decide)]
  rw [e2] at e1
  have e3 : partV 0 2 (bytesOf (⟨#[118, 49, 45, 48]⟩ : ByteArray)) (replyV 1 false (bytesOf (⟨#[118, 49, 45, 48]⟩ : ByteArray)) 0 2 0) = 0 := e1
  rw [e3] at h1
  refine Ev.bind h1 ?_
  simp only [if_true]
  have e4 := honest 1 0 hm false (bytesOf (⟨#[118, 49, 45, 48]⟩ : ByteArray)) 0 2 2 (by omega)
  rw [e2, if_neg (by rintro (x | x | x) <;> simp at x)] at e4
  unfold wrongV at e4
  generalize replyV 1 false (bytesOf (⟨#[118, 49, 45, 48]⟩ : ByteArray)) 0 2 0 = r at *
  have hf := ref_faulty_ev 2 r.1 r.2.1 r.2.2.1 r.2.2.2.1 r.2.2.2.2 (by omega) (by omega) (by omega)
  refine Ev.bind hf ?_
  obtain ⟨y1, y2⟩ := small_faulty 2 r.1 r.2.1 r.2.2.1 r.2.2.2.1 r.2.2.2.2 z1 z2
  have h2 := part_ev 1 false (⟨#[118, 49, 45, 48]⟩ : ByteArray) 0 2 _ y1 y2
  have e5 : partV 0 2 (bytesOf (⟨#[118, 49, 45, 48]⟩ : ByteArray)) (faultyV 2 r.1 r.2.1 r.2.2.1 r.2.2.2.1 r.2.2.2.2) = 3 := e4
  rw [e5] at h2
  refine Ev.bind h2 ?_
  simp only [if_true]
  refine Ev.all (fun k => ?_)
  simp only [check_Word.f]
  rw [if_neg (by decide), if_neg (by decide), if_neg (by decide), if_neg (by decide), if_pos trivial, Option.bind_some, ByteArray.toList_eq]
  rfl
theorem checkHonest : spencelaw33_CheckHonest.Pure := by
  intro a h s p q v kind _ _ _ _ _ _
  refine Ev.rounds (g := fun k => spencelaw33_CheckHonest.f k a h s p q v kind) ?_
  refine Ev.bind awake33 ?_
  simp only [if_true, ref_len_v, Option.bind_some]
  have no : ∀ n, Ev (fun k => spencelaw33_CheckHonest.j0 k v kind n true a h s p q) true := fun n => Ev.pos (fun k => by simp only [spencelaw33_CheckHonest.j0, if_true])
  by_cases hm : mayV a v = true
  rotate_left
  · simp only [hm, Bool.false_eq_true, if_false, show (-1 : Int) < 0 by decide, if_true]; exact no _
  have hl := lenV_range a v
  simp only [hm, if_true, show ¬ lenV a v < 0 by omega, if_false]
  by_cases c1 : (s.size : Int) > 100
  · simp only [c1, if_true]; exact no _
  simp only [c1, if_false]
  by_cases c2 : kind < 0
  · simp only [c2, if_true]; exact no _
  simp only [c2, if_false]
  by_cases c3 : kind > 5
  · rw [decide_eq_true c3]; exact no _
  rw [decide_eq_false c3]
  obtain ⟨z1, z2, z3⟩ := small_reply a v hm h (bytesOf s) p q
  obtain ⟨y1, y2⟩ := small_faulty kind (replyV a h (bytesOf s) p q v).1 _ (replyV a h (bytesOf s) p q v).2.2.1 _ (replyV a h (bytesOf s) p q v).2.2.2.2 z1 z2
  have hw := of_ev a h s p q _ (by omega) y1 y2
  have hh := honest a v hm h (bytesOf s) p q kind (by omega)
  refine Ev.succ ?_
  simp only [spencelaw33_CheckHonest.j0, Bool.false_eq_true, if_false]
  refine Ev.bind (ref_tag_v a v) ?_
  refine Ev.bind (ref_reply_v a h s p q v) ?_
  refine Ev.bind (reply_of_ev a h s p q v (by omega) hm) ?_
  refine Ev.bind (ref_faulty_ev kind _ _ _ _ _ (by omega) (by omega) (by omega)) ?_
  refine Ev.bind hw ?_
  have e0 : checkV h p q (bytesOf s) (faultyV kind (replyV a h (bytesOf s) p q v).1 (replyV a h (bytesOf s) p q v).2.1 (replyV a h (bytesOf s) p q v).2.2.1 (replyV a h (bytesOf s) p q v).2.2.2.1 (replyV a h (bytesOf s) p q v).2.2.2.2) = wrongV a v h (bytesOf s) p q kind := rfl
  rw [e0]
  generalize wrongV a v h (bytesOf s) p q kind = wr at hh
  have h3 : ∀ want : Int, want = wantV a v h (bytesOf s) p q → Ev (fun k => spencelaw33_CheckHonest.j3 k kind (wantV a v h (bytesOf s) p q) wr want a h s p q) true := by
    intro want hwt
    rw [← hwt] at hh ⊢
    refine Ev.pos (fun k => ?_)
    simp only [spencelaw33_CheckHonest.j3, if_true]
    have fin : wr = (if kind = 5 then 4 else 3) → (if wr = 3 then some true else some (wr == 4)) = some true := by
      intro e
      by_cases h5 : kind = 5
      · rw [if_pos h5] at e; subst e; rfl
      · rw [if_neg h5] at e; subst e; rfl
    by_cases k0 : kind = 0
    · rw [if_pos (.inl k0)] at hh
      rw [if_pos k0, hh]; simp
    rw [if_neg k0]
    cases h with
    | true =>
      rw [if_pos rfl]
      by_cases k2 : kind = 2
      · rw [if_pos (.inr (.inl ⟨rfl, .inl k2⟩))] at hh
        rw [if_pos k2, hh]; simp
      rw [if_neg k2]
      by_cases k3 : kind = 3
      · rw [if_pos (.inr (.inl ⟨rfl, .inr k3⟩))] at hh
        rw [if_pos k3, hh]; simp
      rw [if_neg k3]
      by_cases w1 : want = 1
      · rw [if_pos w1]
        by_cases k4 : kind = 4
        · rw [if_pos (.inr (.inr ⟨w1, .inr (.inr k4)⟩))] at hh
          rw [if_pos k4, hh]; simp
        · rw [if_neg (by rintro (x | x | x) <;> omega)] at hh
          rw [if_neg k4]; exact fin hh
      · rw [if_neg (by rintro (x | x | x) <;> omega)] at hh
        rw [if_neg w1]; exact fin hh
    | false =>
      rw [if_neg (by decide)]
      by_cases w1 : want = 1
      · rw [if_pos w1]
        by_cases k2 : kind = 2
        · rw [if_pos (.inr (.inr ⟨w1, .inl k2⟩))] at hh
          rw [if_pos k2, hh]; simp
        rw [if_neg k2]
        by_cases k3 : kind = 3
        · rw [if_pos (.inr (.inr ⟨w1, .inr (.inl k3)⟩))] at hh
          rw [if_pos k3, hh]; simp
        rw [if_neg k3]
        by_cases k4 : kind = 4
        · rw [if_pos (.inr (.inr ⟨w1, .inr (.inr k4)⟩))] at hh
          rw [if_pos k4, hh]; simp
        · rw [if_neg (by rintro (x | x | x); exact k0 x; cases x.1; omega)] at hh
          rw [if_neg k4]; exact fin hh
      · rw [if_neg (by rintro (x | x | x); exact k0 x; cases x.1; exact w1 x.1)] at hh
        rw [if_neg w1]; exact fin hh
  have hmt : s.toList = (strOfNums (tagV a v)).toList ↔ bytesOf s = tagV a v := by rw [toList_bytes, tag_bytes]
  have h1 : ∀ wi : Bool, wi = decide (rightS p q = true ∧ q ≤ lenV a v) → Ev (fun k => spencelaw33_CheckHonest.j1 k kind (strOfNums (tagV a v)) (wantV a v h (bytesOf s) p q) wr wi a h s p q) true := by
    intro wi hwi
    refine Ev.succ ?_
    simp only [spencelaw33_CheckHonest.j1]
    cases h with
    | true =>
      simp only [if_true]
      refine Ev.succ ?_
      simp only [spencelaw33_CheckHonest.j2]
      by_cases hs : bytesOf s = tagV a v
      · rw [beq_iff_eq.mpr (hmt.2 hs)]
        simp only [if_true]
        exact h3 2 (by unfold wantV; rw [if_pos rfl, if_pos hs])
      · rw [beq_eq_false_iff_ne.mpr (fun x => hs (hmt.1 x))]
        simp only [Bool.false_eq_true, if_false, if_true]
        exact h3 0 (by unfold wantV; rw [if_pos rfl, if_neg hs])
    | false =>
      simp only [Bool.false_eq_true, if_false]
      refine Ev.succ ?_
      simp only [spencelaw33_CheckHonest.j2, Bool.false_eq_true, if_false]
      by_cases hs : bytesOf s = tagV a v
      · simp only [hmt.2 hs, if_true]
        cases wi with
        | true =>
          simp only [if_true]
          exact h3 0 (by unfold wantV; rw [if_neg (by decide), if_pos hs, if_pos (of_decide_eq_true hwi.symm)])
        | false =>
          simp only [Bool.false_eq_true, if_false]
          exact h3 3 (by unfold wantV; rw [if_neg (by decide), if_pos hs, if_neg (of_decide_eq_false hwi.symm)])
      · have : ¬ s.toList = (strOfNums (tagV a v)).toList := fun x => hs (hmt.1 x)
        simp only [this, if_false]
        exact h3 1 (by unfold wantV; rw [if_neg (by decide), if_neg hs])
  have hrs : ∀ b : Bool, (b = true ↔ (p ≥ 0 ∧ p < q ∧ q ≤ lenV a v)) → b = decide (rightS p q = true ∧ q ≤ lenV a v) := by
    intro b hb
    rw [Bool.eq_iff_iff, hb, decide_eq_true_iff]
    unfold rightS
    rw [decide_eq_true_iff]
    omega
  by_cases d1 : p ≥ 0
  rotate_left
  · simp only [d1, if_false]; exact h1 false (hrs false ⟨fun x => (by cases x), fun x => absurd x.1 d1⟩)
  by_cases d2 : p < q
  rotate_left
  · simp only [d1, d2, if_true, if_false]; exact h1 false (hrs false ⟨fun x => (by cases x), fun x => absurd x.2.1 d2⟩)
  simp only [d1, d2, if_true]
  exact h1 _ (hrs _ ⟨fun x => ⟨d1, d2, of_decide_eq_true x⟩, fun x => decide_eq_true x.2.2⟩)
end Go.Proofs.Ytkmkiheoelakaaa.PureQ
namespace Go.Proofs.Ytkmkiheoelakaaa.Pure
open Go.Proofs.Ytkmkiheoelakaaa.PAll
theorem CheckHonest : spencelaw33_CheckHonest.Pure := PureQ.checkHonest
end Go.Proofs.Ytkmkiheoelakaaa.Pure
namespace Go.Proofs.Ytkmkiheoelakaaa.checkHonest
open Go.ChangeShapes Go.WideShapes Go.ChangeAt Go.RowKit Go.Proofs.Ytkmkiheoelakaaa.Rd Go.Proofs.Ytkmkiheoelakaaa.PAll Go.Proofs.YtkmkiheoelakaaaW.PrintWords
open Go.ChangeMaps (open_string shut_string)
set_option linter.unusedVariables false
theorem own : ownKnob Try.prog.godebug = none := by kernel_rfl
theorem laidOut : laidOutB Try.prog = true := by kernel_rfl
open Go.Proofs.YtkmkiheoelakaaaW.PrintLast
structure S23 where
  f0 : Int
  f1 : Int
def k23 : Kd S23 := Kd.iso (Kd.pair (Kd.int .i64) (Kd.int .i64)) (fun x : S23 => (x.f0, x.f1))
theorem k23_open {w : World} {x : S23} {cs : List Value} (h : k23.K w x cs) : cs = [.int .i64 x.f0, .int .i64 x.f1] := by
  obtain ⟨_, _, rfl, rfl, rfl⟩ := h
  exact rfl
structure S25 where
  f0 : Int
  f1 : Bool
  f2 : ByteArray
  f3 : S23
def k25 : Kd S25 := Kd.iso (Kd.pair (Kd.int .i64) (Kd.pair Kd.bool (Kd.pair Kd.string k23))) (fun x : S25 => (x.f0, x.f1, x.f2, x.f3))
theorem k25_open {w : World} {x : S25} {cs : List Value} (h : k25.K w x cs) : cs = [.int .i64 x.f0, .bool x.f1, .string x.f2, .int .i64 x.f3.f0, .int .i64 x.f3.f1] := by
  obtain ⟨_, _, rfl, rfl, ⟨_, _, rfl, rfl, ⟨_, _, rfl, rfl, s3⟩⟩⟩ := h
  obtain rfl := k23_open s3
  exact rfl
def ok23 (x : S23) : Prop := (Lit.int .i64 x.f0).wf = true ∧ (Lit.int .i64 x.f1).wf = true
theorem o23 : Opens Try.prog 23 k23 ok23 := opens_struct Try.underlying23 (opensF_cons (opens_int Try.underlying3) rfl (by kernel_rfl) rfl (opensF_one (opens_int Try.underlying3) rfl (by kernel_rfl))) (by kernel_rfl) (fun x : S23 => (x.f0, x.f1)) (fun p => ⟨p.1, p.2⟩) (fun _ => rfl)
def ok25 (x : S25) : Prop := (Lit.int .i64 x.f0).wf = true ∧ True ∧ x.f2.size ≤ maxLen ∧ ((Lit.int .i64 x.f3.f0).wf = true ∧ (Lit.int .i64 x.f3.f1).wf = true)
theorem o25 : Opens Try.prog 25 k25 ok25 := opens_struct Try.underlying25 (opensF_cons (opens_int Try.underlying3) rfl (by kernel_rfl) rfl (opensF_cons (opens_bool Try.underlying4) rfl (by kernel_rfl) rfl (opensF_cons (opens_string Try.underlying9) rfl (by kernel_rfl) rfl (opensF_one o23 rfl (by kernel_rfl))))) (by kernel_rfl) (fun x : S25 => (x.f0, x.f1, x.f2, x.f3)) (fun p => ⟨p.1, p.2.1, p.2.2.1, p.2.2.2⟩) (fun _ => rfl)
set_option maxRecDepth 100000 in
set_option maxHeartbeats 4000000 in
theorem lifted (os : Os) (started : os.Started) (H : Type) (enc : TypeId × Value → H) :
    ReturnsInHanded {} Try.checked os 3 .any (Rows.checkHonestSpec.pre6 enc Try.prog Try.f3 Rows.checkHonestRow.domain false) (Rows.checkHonestSpec.post enc Try.prog Try.f3 false true false false) := by
  refine returnsInHanded_of_change_sized (C := Try.checked) own started (by kernel_rfl) Try.func3
    (ChangeSpec.witness6 (enc := enc) (C := Try.checked) false ⟨#[], #[.agg #[.int .i64 0, .bool false, .string ByteArray.empty, .int .i64 0, .int .i64 0], .int .i64 0, .int .i64 0], []⟩ 8 (by kernel_rfl) (by kernel_rfl) (by kernel_rfl) (by kernel_rfl)) ?_
  intro W base args ds gs before hval0 hW hcnd hsz0 _
  have hsz : (DataW.weightsEach Try.prog (Try.f3.params.toList ++ Rows.checkHonestSpec.plain.varTypes Try.prog) (ds ++ gs)).all (· ≤ reachBytes) = true := hsz0
  have hval : ∀ (j : Nat) t v, Try.f3.params[j]? = some t → args[j]? = some v → Value.okWide Try.prog W .any base t v := hval0
  have hW' := hW
  obtain ⟨p, q, hA0, hV, rfl, hfz, hnd⟩ := hW
  have hA : DataW.TrodAll enc Try.prog W 0 (fun _ => true) true Try.f3.params.toList args.toList ds p := hA0
  rw [Try.params3] at hA hval hsz
  obtain ⟨v0, vs0, d0, ds0, p0, q0, hargs, rfl, rfl, h0, r0⟩ := trodAll_cons hA
  obtain ⟨v1, vs1, d1, ds1, p1, q1, rfl, rfl, rfl, h1, r1⟩ := trodAll_cons r0
  obtain ⟨v2, vs2, d2, ds2, p2, q2, rfl, rfl, rfl, h2, r2⟩ := trodAll_cons r1
  obtain ⟨rfl, rfl, rfl⟩ := trodAll_nil r2
  obtain rfl : args = #[v0, v1, v2] := by cases args; simp_all
  obtain ⟨rfl, rfl⟩ := trodVars_none hV
  have k0 := h0
  have lt0 : ∀ x ∈ p0, x.block < W.heap.size := by obtain ⟨m, hm⟩ := k0; exact DataW.trod_lt m _ _ _ hm
  have k1 := h1
  have lt1 : ∀ x ∈ p1, x.block < W.heap.size := by obtain ⟨m, hm⟩ := k1; exact DataW.trod_lt m _ _ _ hm
  have k2 := h2
  have lt2 : ∀ x ∈ p2, x.block < W.heap.size := by obtain ⟨m, hm⟩ := k2; exact DataW.trod_lt m _ _ _ hm
  obtain ⟨L0, x0, rfl, hK0, hok0⟩ := open_agg Try.underlying25 o25 (hval 0 25 v0 rfl rfl) h0
  obtain rfl := k25_open hK0
  obtain ⟨a1, rfl, rfl, rfl, w1⟩ := open_int Try.underlying3 (hval 1 3 v1 rfl rfl) h1
  obtain ⟨a2, rfl, rfl, rfl, w2⟩ := open_int Try.underlying3 (hval 2 3 v2 rfl rfl) h2
  clear hA0 hval0 hsz0 hsz
  obtain ⟨k, hk⟩ := Pure.CheckHonest x0.f0 x0.f1 x0.f2 x0.f3.f0 x0.f3.f1 a1 a2 (hok0.1) (hok0.2.2.1) (hok0.2.2.2.1) (hok0.2.2.2.2) w1 w2
  refine (PAll.spencelaw33_CheckHonest.calls k x0.f0 x0.f1 x0.f2 x0.f3.f0 x0.f3.f1 a1 a2 true W  hk).mono fun e W' ⟨he, hd⟩ => ?_
  have bel : Below W.heap.size W W' := hd
  subst he
  exact ⟨_, rfl, _, _, _, [], _, [], hW', trodAll_mk1 (shut_bool Try.underlying4 _), (trodAll_cons_mk (Below.trod laidOut (by kernel_rfl) (of_decide_eq_true (by kernel_rfl)) k0 bel lt0) (trodAll_cons_mk (shut_int Try.underlying3 w1) (trodAll_cons_mk (shut_int Try.underlying3 w2) trodAll_mk0))), rfl, bel.frame _, fun h => by cases h⟩
theorem over : Rows.checkHonestRow.holds Try.pinned (OpenSpec.ofChange Rows.checkHonestSpec) :=
  OpenClaim.holds_of_wide 3 Try.f3 rfl rfl rfl rfl rfl rfl rfl ⟨rfl, rfl, rfl, rfl, rfl⟩ rfl rfl rfl rfl rfl (by kernel_rfl) Try.func3 (by kernel_rfl)
    (of_decide_eq_true (by kernel_rfl)) (by unfold Func.isWrapper; first | (rw [if_pos (by decide +kernel)]; kernel_rfl) | (rw [if_neg (by decide +kernel)]; exact ⟨rfl, rfl⟩))
    (fun os started H enc _ => lifted os started H enc)
theorem proved : Rows.CheckHonestSaid := over
end Go.Proofs.Ytkmkiheoelakaaa.checkHonest
namespace Go.Proofs.Ytkmkiheoelakaaa
theorem checkHonest_holds : Rows.CheckHonestSaid := checkHonest.proved
#print axioms checkHonest_holds
end Go.Proofs.Ytkmkiheoelakaaa
