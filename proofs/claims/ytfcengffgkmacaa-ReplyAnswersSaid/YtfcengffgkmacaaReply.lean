/- What an origin answers, of any version. -/
import Derived.Test.YtfcengffgkmacaaVBody
import Derived.Test.YtfcengffgkmacaaPAllx12
namespace Go.Proofs.Ytfcengffgkmacaa.Pure
open Go.RowKit Go.Proofs.Ytfcengffgkmacaa.PAll Go.Proofs.YtfcengffgkmacaaW.PrintWords Go.Proofs.YtfcengffgkmacaaW.PrintLast Go.Proofs.YtfcengffgkmacaaW.PrintMore
def unitT : List Int := [98, 121, 116, 101, 115, 32]
def crText (p q n : Int) : List Int := unitT ++ (ptext p ++ [45] ++ ptext (q - 1)) ++ [47] ++ ptext n
def crNone (n : Int) : List Int := unitT ++ [42, 47] ++ ptext n
theorem unit_str : (⟨#[98, 121, 116, 101, 115, 32]⟩ : ByteArray) = strOfNums unitT := by decide
theorem dash_str : (⟨#[45]⟩ : ByteArray) = strOfNums [45] := by decide
theorem slash_str : (⟨#[47]⟩ : ByteArray) = strOfNums [47] := by decide
theorem star_str : (⟨#[42]⟩ : ByteArray) = strOfNums [42] := by decide
theorem none_str : (⟨#[98, 121, 116, 101, 115, 32, 42, 47]⟩ : ByteArray) = strOfNums (unitT ++ [42, 47]) := by decide
theorem ptext_len (n : Int) (h : 0 ≤ n ∧ n ≤ 9223372036854775807) : (ptext n).length ≤ 20 := by
  rw [ptext_dig n h.1]; exact dig_len _ (by omega)
theorem cr_none_v (n : Int) (h : 0 ≤ n ∧ n ≤ 160) : Ev (fun k => crange_Print.f k false 0 0 n) (strOfNums (crNone n)) := by
  have hl := ptext_len n (by omega)
  have hr : Ev (fun k => crange_Right.f k false 0 0 n) true := by
    unfold crange_Right.f
    simp only [show ¬ n = -1 by omega, if_false, fits_v, Option.bind_some]
    rw [decide_eq_true (by omega)]
    refine Ev.pos (fun k => ?_)
    have : (n != -1) = true := by simp; omega
    simp [crange_Right.j0]; omega
  refine Ev.bind hr ?_
  simp only [if_true, Bool.false_eq_true, if_false, show ¬ n = -1 by omega, show 6 + 1 ≤ 9223372036854775807 by decide, show 7 + 1 ≤ 9223372036854775807 by decide]
  refine Ev.bind (print_ev n (by omega)) ?_
  simp only [size_str, show 8 + (ptext n).length ≤ 9223372036854775807 by omega, if_true]
  rw [unit_str, star_str, slash_str, str_append, str_append, str_append]
  have : unitT ++ [42] ++ [47] ++ ptext n = crNone n := by unfold crNone; simp
  rw [this]; exact Ev.now _
theorem cr_of_v (p q n : Int) (hr : rightS p q = true) (hq : q ≤ n) (hn : n ≤ 160) : Ev (fun k => crange_Of.f k p q n) (strOfNums (crText p q n)) := by
  have hr' := of_decide_eq_true hr
  have l1 := ptext_len p (by omega)
  have l2 := ptext_len (q - 1) (by omega)
  have l3 := ptext_len n (by omega)
  have hright : Ev (fun k => crange_Right.f k true p q n) true := by
    unfold crange_Right.f
    simp only [show ¬ n = -1 by omega, if_false, fits_v, Option.bind_some]
    rw [decide_eq_true (show 0 ≤ n ∧ n ≤ 4611686018427387903 by omega)]
    refine Ev.pos (fun k => ?_)
    simp only [crange_Right.j0, span_right_v, Option.bind_some, hr]
    rw [if_neg (by decide), if_pos trivial, if_pos trivial, if_neg (by omega), decide_eq_true hq]
  refine Ev.bind (f := fun _ t => some t) ?_ (Ev.now _)
  refine Ev.bind hright ?_
  simp only [if_true]
  refine Ev.bind (print_ev p (by omega)) ?_
  rw [wrap_id (x := q - 1) (by omega)]
  simp only [size_str, show (ptext p).length + 1 ≤ 9223372036854775807 by omega, if_true]
  refine Ev.bind (print_ev (q - 1) (by omega)) ?_
  simp only [size_str, show (ptext p).length + 1 + (ptext (q - 1)).length ≤ 9223372036854775807 by omega, show 6 + ((ptext p).length + 1 + (ptext (q - 1)).length) ≤ 9223372036854775807 by omega, show 6 + ((ptext p).length + 1 + (ptext (q - 1)).length) + 1 ≤ 9223372036854775807 by omega, if_true, show ¬ n = -1 by omega, if_false]
  refine Ev.bind (print_ev n (by omega)) ?_
  simp only [size_str, show 6 + ((ptext p).length + 1 + (ptext (q - 1)).length) + 1 + (ptext n).length ≤ 9223372036854775807 by omega, if_true]
  rw [unit_str, dash_str, slash_str, str_append, str_append, str_append, str_append, str_append]
  exact Ev.now _
def replyV (a : Int) (head : Bool) (m : List Int) (p q v : Int) : Int × ByteArray × Int × ByteArray × List Int :=
  if tagV a v = [] then (404, strOfNums [], 0, strOfNums [], [])
  else if head then (if m = tagV a v then (304, strOfNums (tagV a v), 0, strOfNums [], []) else (200, strOfNums (tagV a v), lenV a v, strOfNums [], []))
  else if m = tagV a v then (if rightS p q = true ∧ q ≤ lenV a v then (206, strOfNums (tagV a v), lenV a v, strOfNums (crText p q (lenV a v)), bodyV a v p q) else (416, strOfNums (tagV a v), 0, strOfNums (crNone (lenV a v)), []))
  else (412, strOfNums (tagV a v), 0, strOfNums [], [])
theorem reply_v (a : Int) (head : Bool) (s : ByteArray) (p q v : Int) : Ev (fun k => reply_Of.f k a head s p q v) (replyV a head (bytesOf s) p q v) := by
  have hl := lenV_range a v
  have e0 : (strOfNums (tagV a v)).toList = ([] : List UInt8) ↔ tagV a v = [] := by rw [toList_nil, bytesOf_str _ (tagV_isB a v)]
  have e1 : s.toList = (strOfNums (tagV a v)).toList ↔ bytesOf s = tagV a v := by rw [toList_bytes, bytesOf_str _ (tagV_isB a v)]
  refine Ev.bind (tag_v a v) ?_
  unfold replyV
  simp only [len_v, Option.bind_some, reply_Gone.f, reply_head.f]
  by_cases h0 : tagV a v = []
  · have h0' := e0.2 h0
    simp only [h0', if_true]; rw [if_pos h0]; exact Ev.now _
  have h0' : ¬ (strOfNums (tagV a v)).toList = ([] : List UInt8) := fun x => h0 (e0.1 x)
  simp only [h0', if_false]
  rw [if_neg h0]
  cases head with
  | true =>
    simp only [if_true]
    by_cases h1 : bytesOf s = tagV a v
    · have h1' := e1.2 h1
      simp only [h1', if_true]; rw [if_pos h1]; exact Ev.now _
    · have h1' : ¬ s.toList = (strOfNums (tagV a v)).toList := fun x => h1 (e1.1 x)
      simp only [h1', if_false]; rw [if_neg h1]; exact Ev.now _
  | false =>
    simp only [Bool.false_eq_true, if_false]
    by_cases h1 : bytesOf s = tagV a v
    · have h1' := e1.2 h1
      simp only [h1', if_true]; rw [if_pos h1]
      simp only [span_right_v, Option.bind_some]
      have hno : ¬ (rightS p q = true ∧ q ≤ lenV a v) → Ev (fun k => reply_Of.j0 k v (strOfNums (tagV a v)) (lenV a v) true a false s p q) (if rightS p q = true ∧ q ≤ lenV a v then (206, strOfNums (tagV a v), lenV a v, strOfNums (crText p q (lenV a v)), bodyV a v p q) else (416, strOfNums (tagV a v), 0, strOfNums (crNone (lenV a v)), [])) := by
        intro hn
        rw [if_neg hn]
        refine Ev.succ ?_
        simp only [reply_Of.j0, if_true]
        exact Ev.bind (cr_none_v (lenV a v) (by omega)) (Ev.now _)
      by_cases h2 : rightS p q = true
      · simp only [h2, if_true]
        by_cases h3 : q > lenV a v
        · rw [decide_eq_true h3]
          have := hno (fun h => by omega)
          rw [h2] at this; simpa using this
        · rw [decide_eq_false h3]
          refine Ev.succ ?_
          simp only [reply_Of.j0, Bool.false_eq_true, if_false]
          refine Ev.bind (cr_of_v p q (lenV a v) h2 (by omega) (by omega)) ?_
          refine Ev.bind (body_v a v p q) ?_
          have : (True ∧ q ≤ lenV a v) := ⟨trivial, by omega⟩
          rw [if_pos this]; exact Ev.now _
      · simp only [h2, Bool.false_eq_true, if_false]
        have := hno (fun h => h2 h.1)
        rw [if_neg (fun h => h2 h.1)] at this
        simpa using this
    · have h1' : ¬ s.toList = (strOfNums (tagV a v)).toList := fun x => h1 (e1.1 x)
      simp only [h1', if_false]; rw [if_neg h1]; exact Ev.now _
theorem awake31 : Ev (fun k => spencelaw31_awake.f k) true := by
  refine Ev.bind (reply_v 1 true (⟨#[118, 49, 45, 48]⟩ : ByteArray) 0 0 0) ?_
  have h : tagV 1 0 = [118, 49, 45, 48] := by
    have h1 : mayV 1 0 = true := by decide
    rw [tagV, if_pos h1, dig_small (by decide), dig_small (by decide)]; rfl
  have e : (replyV 1 true (bytesOf (⟨#[118, 49, 45, 48]⟩ : ByteArray)) 0 0 0).1 = 304 := by
    unfold replyV
    rw [h]; rfl
  simp only [e, if_true, reply_Down.f, Option.bind_some]
  exact Ev.now _
end Go.Proofs.Ytfcengffgkmacaa.Pure
