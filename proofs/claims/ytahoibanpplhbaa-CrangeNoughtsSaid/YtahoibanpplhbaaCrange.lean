/- What a text says as Content-Range: what crange.Parse and the reference's Content come to. -/
import Derived.Test.YtahoibanpplhbaaCut
import Derived.Test.YtahoibanpplhbaaLowerT
import Derived.Test.YtahoibanpplhbaaNumsPr
import Derived.Test.YtahoibanpplhbaaNums
import Derived.Test.YtahoibanpplhbaaPAllx8
namespace Go.Proofs.Ytahoibanpplhbaa.Pure
open Go.RowKit Go.Proofs.Ytahoibanpplhbaa.Xw Go.Proofs.Ytahoibanpplhbaa.PAll Go.Proofs.YtahoibanpplhbaaW.PrintWords Go.Proofs.YtahoibanpplhbaaW.PrintLast Go.Proofs.YtahoibanpplhbaaW.PrintMore
def z3 : Bool × Int × Int × Int × Int := (false, 0, 0, 0, 3)
def rightS (p q : Int) : Bool := decide (0 ≤ p ∧ p < q ∧ q ≤ 4611686018427387903)
theorem span_right_c (p q : Int) : span_Right.f p q = some (rightS p q) := by
  unfold span_Right.f rightS
  by_cases h1 : p ≥ 0
  · rw [if_pos h1]
    by_cases h2 : p < q
    · rw [if_pos h2]; have : 0 ≤ p := h1
      simp [h2, this]
    · rw [if_neg h2]; simp [h2]
  · rw [if_neg h1]; have : ¬ 0 ≤ p := h1
    simp [this]
def rightC (kn : Bool) (f t tot : Int) : Bool := decide (tot = -1 ∨ (0 ≤ tot ∧ tot ≤ 4611686018427387903)) && (if kn then (rightS f t && decide (tot = -1 ∨ t ≤ tot)) else (decide (f = 0 ∧ t = 0) && decide (tot ≠ -1)))
theorem fits_c (a lo hi : Int) : nums_Fits.f a lo hi = some (decide (lo ≤ a ∧ a ≤ hi)) := by
  unfold nums_Fits.f
  by_cases h : a ≥ lo
  · rw [if_pos h]; have : lo ≤ a := h
    simp [this]
  · rw [if_neg h]; have : ¬ lo ≤ a := h
    simp [this]
theorem right_c (kn : Bool) (f t tot : Int) : Ev (fun k => crange_Right.f k kn f t tot) (rightC kn f t tot) := by
  have key : ∀ b : Bool, b = !decide (tot = -1 ∨ (0 ≤ tot ∧ tot ≤ 4611686018427387903)) → Ev (fun k => crange_Right.j0 k b kn f t tot) (rightC kn f t tot) := by
    intro b hb
    refine Ev.pos (fun k => ?_)
    simp only [crange_Right.j0, span_right_c, Option.bind_some]
    unfold rightC
    cases hd : decide (tot = -1 ∨ (0 ≤ tot ∧ tot ≤ 4611686018427387903))
    · rw [hb, hd, if_pos (by decide)]; rfl
    · rw [hb, hd, if_neg (by decide)]
      cases kn
      · rw [if_neg (by decide)]
        by_cases h1 : f = 0 <;> by_cases h2 : t = 0 <;> by_cases h3 : tot = -1 <;> simp [h1, h2, h3]
      · rw [if_pos rfl]
        by_cases h1 : rightS f t = true
        · rw [if_pos h1]
          by_cases h3 : tot = -1 <;> simp [h1, h3]
        · rw [if_neg h1]; simp [h1]
  unfold crange_Right.f
  by_cases h : tot = -1
  · simp only [h, if_true]
    have := key false (by rw [decide_eq_true (.inl h)]; rfl)
    rw [h] at this; exact this
  · simp only [h, if_false, fits_c, Option.bind_some]
    refine key _ ?_
    congr 1
    rw [decide_eq_decide]; omega
def worse (bad e : Int) : Int := if e = 3 then 3 else if bad = 0 then e else bad
def contE (bad : Int) (kn : Bool) (f t tot : Int) : Bool × Int × Int × Int × Int := if bad = 0 then (if rightC kn f t tot then (kn, f, t, tot, 0) else z3) else (false, 0, 0, 0, bad)
def contT (x : List Int) (bad : Int) (kn : Bool) (f t : Int) : Bool × Int × Int × Int × Int := if x = [42] then contE bad kn f t (-1) else contE (worse bad (parse x).2) kn f t (parse x).1
def contA (d1 d2 : List Int) : Bool × Int × Int × Int × Int :=
  if d1 = [42] then contT d2 0 false 0 0
  else if (cutOf 45 d1).2.2 = true then contT d2 (worse (worse 0 (parse (cutOf 45 d1).1).2) (parse (cutOf 45 d1).2.1).2) true (parse (cutOf 45 d1).1).1 (wrap64 ((parse (cutOf 45 d1).2.1).1 + 1))
  else z3
def contOf (l : List Int) : Bool × Int × Int × Int × Int :=
  if (cutOf 32 l).2.2 = true then (if (cutOf 47 (cutOf 32 l).2.1).2.2 = true then (if (cutOf 32 l).1.map lowI = [98, 121, 116, 101, 115] then contA (cutOf 47 (cutOf 32 l).2.1).1 (cutOf 47 (cutOf 32 l).2.1).2.1 else z3) else z3) else z3
theorem cut_facts (b : Int) (l : List Int) (h : ∀ x ∈ l, isB x) : (cutOf b l).1.length ≤ l.length ∧ (cutOf b l).2.1.length ≤ l.length ∧ (∀ x ∈ (cutOf b l).1, isB x) ∧ (∀ x ∈ (cutOf b l).2.1, isB x) := by
  cases hc : (cutOf b l).2.2
  · obtain ⟨h1, h2, -⟩ := cutOf_no b l hc
    rw [h1, h2]; exact ⟨Nat.le_refl _, Nat.zero_le _, h, by simp⟩
  · obtain ⟨h1, -⟩ := cutOf_yes b l hc
    have hl := congrArg List.length h1
    rw [List.length_append, List.length_cons] at hl
    refine ⟨by omega, by omega, fun x hx => h x ?_, fun x hx => h x ?_⟩
    · rw [h1]; exact List.mem_append.2 (.inl hx)
    · rw [h1]; exact List.mem_append.2 (.inr (List.mem_cons_of_mem _ hx))
theorem number_c (bad : Int) (x : List Int) (hx : ∀ b ∈ x, isB b) (hl : x.length ≤ 1000) : Ev (fun k => crange_reader_number.f k bad (strOfNums x)) ((parse x).1, worse bad (parse x).2) := by
  have hp := parse_ev (strOfNums x) (by rw [size_str]; omega)
  rw [bytesOf_str _ hx] at hp
  refine Ev.bind hp (Ev.all fun k => ?_)
  unfold worse
  by_cases h1 : (parse x).2 = 3
  · rw [if_pos h1, if_pos h1, h1]
  · rw [if_neg h1, if_neg h1]
    by_cases h2 : bad = 0
    · rw [if_pos h2, if_pos h2]
    · rw [if_neg h2, if_neg h2]
theorem star_iff (x : List Int) (hx : ∀ b ∈ x, isB b) : (strOfNums x).toList = ([42] : List UInt8) ↔ x = [42] := by
  have e : ([42] : List UInt8) = (strOfNums [42]).toList := by rw [ByteArray.toList_eq]; rfl
  rw [e, toList_bytes, bytesOf_str _ hx, bytesOf_str _ (by simp [isB])]
theorem e_c (bad : Int) (kn : Bool) (f t tot : Int) : Ev (fun k => crange_Parse.e k bad kn f t tot) (contE bad kn f t tot) := by
  unfold crange_Parse.e contE
  by_cases h : bad = 0
  · simp only [h, if_true]
    refine Ev.bind (right_c kn f t tot) (Ev.all fun k => ?_)
    cases rightC kn f t tot <;> rfl
  · simp only [h, if_false]; exact Ev.now _
theorem t_c (x : List Int) (hx : ∀ b ∈ x, isB b) (hl : x.length ≤ 1000) (bad : Int) (kn : Bool) (f t : Int) : Ev (fun k => crange_Parse.t k (strOfNums x) bad kn f t) (contT x bad kn f t) := by
  unfold crange_Parse.t contT
  by_cases h : x = [42]
  · simp only [(star_iff x hx).2 h, if_true]; rw [if_pos h]; exact e_c _ _ _ _ _
  · have h' : ¬ (strOfNums x).toList = ([42] : List UInt8) := fun e => h ((star_iff x hx).1 e)
    simp only [h', if_false]; rw [if_neg h]
    exact Ev.bind (number_c bad x hx hl) (e_c _ _ _ _ _)
theorem unit_low : (strOfNums ((bytesOf (⟨#[98, 121, 116, 101, 115]⟩ : ByteArray)).map lowI)) = strOfNums [98, 121, 116, 101, 115] := by decide
theorem crange_parse_ev (s : ByteArray) (hs : s.size ≤ 1000) : Ev (fun k => crange_Parse.f k s) (contOf (bytesOf s)) := by
  have f1 := cut_facts 32 (bytesOf s) (bytesOf_isB s)
  rw [bytesOf_length] at f1
  have f2 := cut_facts 47 (cutOf 32 (bytesOf s)).2.1 f1.2.2.2
  unfold crange_Parse.f contOf
  have b32 : isB 32 := by unfold isB; omega
  have b47 : isB 47 := by unfold isB; omega
  have b45 : isB 45 := by unfold isB; omega
  have q2 := cut_eq (strOfNums (cutOf 32 (bytesOf s)).2.1) 47 b47 (by rw [size_str]; omega)
  rw [bytesOf_str _ f1.2.2.2] at q2
  rw [cut_eq s 32 b32 (by omega)]
  simp only [Option.bind_some, q2]
  generalize (cutOf 47 (cutOf 32 (bytesOf s)).2.1).1 = d1 at f2
  generalize (cutOf 47 (cutOf 32 (bytesOf s)).2.1).2.1 = d2 at f2
  generalize (cutOf 47 (cutOf 32 (bytesOf s)).2.1).2.2 = d3
  generalize (cutOf 32 (bytesOf s)).1 = c1 at f1
  cases (cutOf 32 (bytesOf s)).2.2
  · exact Ev.now _
  cases d3
  · exact Ev.now _
  simp only [if_true]
  have hf := fold_eq (strOfNums c1) (⟨#[98, 121, 116, 101, 115]⟩ : ByteArray) (by rw [size_str]; omega) (by decide)
  rw [bytesOf_str _ f1.2.2.1, unit_low, toList_beq, bytesOf_str _ (by intro b hb; obtain ⟨x, hx, rfl⟩ := List.mem_map.1 hb; exact lowI_isB x (f1.2.2.1 x hx)), bytesOf_str _ (by simp [isB])] at hf
  rw [hf]
  simp only [Option.bind_some]
  by_cases hu : c1.map lowI = [98, 121, 116, 101, 115]
  · simp only [hu, decide_true, if_true]
    unfold contA
    by_cases hA : d1 = [42]
    · simp only [(star_iff d1 f2.2.2.1).2 hA, if_true]; rw [if_pos hA]
      exact t_c d2 f2.2.2.2 (by omega) _ _ _ _
    · have hA' : ¬ (strOfNums d1).toList = ([42] : List UInt8) := fun e => hA ((star_iff d1 f2.2.2.1).1 e)
      simp only [hA', if_false]; rw [if_neg hA]
      have q3 := cut_eq (strOfNums d1) 45 b45 (by rw [size_str]; omega)
      rw [bytesOf_str _ f2.2.2.1] at q3
      have f3 := cut_facts 45 d1 f2.2.2.1
      rw [q3]
      simp only [Option.bind_some]
      cases (cutOf 45 d1).2.2
      · exact Ev.now _
      · simp only [if_true]
        refine Ev.bind (number_c 0 _ f3.2.2.1 (by omega)) ?_
        refine Ev.bind (number_c _ _ f3.2.2.2 (by omega)) ?_
        exact t_c d2 f2.2.2.2 (by omega) _ _ _ _
  · simp only [hu, decide_false, Bool.false_eq_true, if_false]; exact Ev.now _
end Go.Proofs.Ytahoibanpplhbaa.Pure
