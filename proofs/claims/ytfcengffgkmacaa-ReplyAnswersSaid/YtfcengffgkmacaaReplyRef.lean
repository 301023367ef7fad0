/- The reference's answer, of any version. -/
import Derived.Test.YtfcengffgkmacaaReply
import Derived.Test.YtfcengffgkmacaaPAllx16
import Derived.Test.YtfcengffgkmacaaPAllx15
namespace Go.Proofs.Ytfcengffgkmacaa.Pure
open Go.RowKit Go.Proofs.Ytfcengffgkmacaa.PAll Go.Proofs.YtfcengffgkmacaaW.PrintWords Go.Proofs.YtfcengffgkmacaaW.PrintLast Go.Proofs.YtfcengffgkmacaaW.PrintMore
theorem ref_cr_right (p q n : Int) (hr : rightS p q = true) (hq : q ≤ n) (hn : n ≤ 160) : Ev (fun k => spenceref04_RightContent.f k true p q n) true := by
  have hr' := of_decide_eq_true hr
  unfold spenceref04_RightContent.f
  simp only [show ¬ n < -1 by omega, if_false]
  rw [decide_eq_false (by omega)]
  refine Ev.pos (fun k => ?_)
  simp only [spenceref04_RightContent.j0, ref_right_v, Option.bind_some, hr]
  rw [if_neg (by decide), if_pos trivial, if_pos trivial, if_neg (by omega), decide_eq_true hq]
theorem ref_cr_v (p q n : Int) (hr : rightS p q = true) (hq : q ≤ n) (hn : n ≤ 160) : Ev (fun k => spenceref04_PrintContent.f k true p q n) (strOfNums (crText p q n)) := by
  have hr' := of_decide_eq_true hr
  have l1 := ptext_len p (by omega)
  have l2 := ptext_len (q - 1) (by omega)
  have l3 := ptext_len n (by omega)
  refine Ev.bind (ref_cr_right p q n hr hq hn) ?_
  simp only [if_true]
  refine Ev.bind (ref_print_ev p (by omega)) ?_
  rw [wrap_id (x := q - 1) (by omega)]
  simp only [size_str, show 6 + (ptext p).length ≤ 9223372036854775807 by omega, show 6 + (ptext p).length + 1 ≤ 9223372036854775807 by omega, if_true]
  refine Ev.bind (ref_print_ev (q - 1) (by omega)) ?_
  simp only [size_str, show 6 + (ptext p).length + 1 + (ptext (q - 1)).length ≤ 9223372036854775807 by omega, show 6 + (ptext p).length + 1 + (ptext (q - 1)).length + 1 ≤ 9223372036854775807 by omega, if_true, show ¬ n < 0 by omega, if_false]
  refine Ev.bind (ref_print_ev n (by omega)) ?_
  simp only [size_str, show 6 + (ptext p).length + 1 + (ptext (q - 1)).length + 1 + (ptext n).length ≤ 9223372036854775807 by omega, if_true]
  rw [unit_str, dash_str, slash_str, str_append, str_append, str_append, str_append, str_append]
  have : unitT ++ ptext p ++ [45] ++ ptext (q - 1) ++ [47] ++ ptext n = crText p q n := by unfold crText; simp
  rw [this]; exact Ev.now _
theorem ref_reply_v (a : Int) (head : Bool) (s : ByteArray) (p q v : Int) : Ev (fun k => spenceref24_Reply.f k a head s p q v) (replyV a head (bytesOf s) p q v) := by
  have hl := lenV_range a v
  have e1 : s.toList = (strOfNums (tagV a v)).toList ↔ bytesOf s = tagV a v := by rw [toList_bytes, bytesOf_str _ (tagV_isB a v)]
  refine Ev.bind (ref_tag_v a v) ?_
  unfold replyV
  simp only [ref_len_v, Option.bind_some]
  by_cases hm : ¬ mayV a v = true
  · have h0 : tagV a v = [] := (tagV_nil a v).2 (by simpa using hm)
    simp only [hm, Bool.false_eq_true, if_false, show (-1 : Int) < 0 by decide, if_true]
    rw [if_pos h0]; exact Ev.now _
  have hm : mayV a v = true := Decidable.not_not.1 hm
  have h0 : ¬ tagV a v = [] := fun h => by rw [tagV_nil, hm] at h; cases h
  rw [if_neg h0]
  simp only [hm, if_true, show ¬ lenV a v < 0 by omega, if_false]
  cases head with
  | true =>
    simp only [if_true]
    refine Ev.pos (fun k => ?_)
    simp only [spenceref24_Reply.j0]
    by_cases h1 : bytesOf s = tagV a v
    · rw [e1.2 h1, if_pos (by simp), if_pos h1]; rfl
    · have h1' : (s.toList == (strOfNums (tagV a v)).toList) = false := beq_eq_false_iff_ne.2 (fun x => h1 (e1.1 x))
      rw [h1', if_neg (by decide), if_pos trivial, if_neg h1]; rfl
  | false =>
    simp only [Bool.false_eq_true, if_false]
    refine Ev.succ ?_
    simp only [spenceref24_Reply.j0, Bool.false_eq_true, if_false]
    by_cases h1 : bytesOf s = tagV a v
    · have h1' := e1.2 h1
      simp only [h1', if_true]; rw [if_pos h1]
      simp only [ref_right_v, Option.bind_some]
      have hno : ¬ (rightS p q = true ∧ q ≤ lenV a v) → Ev (fun k => spenceref24_Reply.j1 k v (strOfNums (tagV a v)) (lenV a v) true a false s p q) (416, strOfNums (tagV a v), 0, strOfNums (crNone (lenV a v)), []) := by
        intro hn
        have l3 := ptext_len (lenV a v) (by omega)
        refine Ev.succ ?_
        simp only [spenceref24_Reply.j1, if_true]
        refine Ev.bind (ref_print_ev (lenV a v) (by omega)) ?_
        simp only [size_str, show 8 + (ptext (lenV a v)).length ≤ 9223372036854775807 by omega, if_true]
        rw [none_str, str_append]; exact Ev.now _
      by_cases h2 : rightS p q = true
      · simp only [h2, if_true]
        by_cases h3 : q > lenV a v
        · rw [decide_eq_true h3, if_neg (fun h => by omega)]
          exact hno (fun h => by omega)
        · rw [decide_eq_false h3]
          refine Ev.succ ?_
          simp only [spenceref24_Reply.j1, Bool.false_eq_true, if_false]
          refine Ev.bind (ref_cr_v p q (lenV a v) h2 (by omega) (by omega)) ?_
          refine Ev.bind (ref_body_v a v p q) ?_
          have : (True ∧ q ≤ lenV a v) := ⟨trivial, by omega⟩
          rw [if_pos this]; exact Ev.now _
      · simp only [h2, Bool.false_eq_true, if_false]
        rw [if_neg (fun h => h.1)]
        exact hno (fun h => h2 h.1)
    · have h1' : ¬ s.toList = (strOfNums (tagV a v)).toList := fun x => h1 (e1.1 x)
      simp only [h1', if_false]; rw [if_neg h1]; exact Ev.now _
end Go.Proofs.Ytfcengffgkmacaa.Pure
