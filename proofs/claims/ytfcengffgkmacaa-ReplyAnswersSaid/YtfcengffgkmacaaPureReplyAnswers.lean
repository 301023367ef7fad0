/- What an origin answers to whoever asks, of any version: the plain law. -/
import Derived.Test.YtfcengffgkmacaaReplyRef
import Derived.Test.YtfcengffgkmacaaPAllx18
namespace Go.Proofs.Ytfcengffgkmacaa.Pure
open Go.RowKit Go.Proofs.Ytfcengffgkmacaa.PAll Go.Proofs.YtfcengffgkmacaaW.PrintWords Go.Proofs.YtfcengffgkmacaaW.PrintLast Go.Proofs.YtfcengffgkmacaaW.PrintMore
theorem same_self (x : Int × ByteArray × Int × ByteArray × List Int) (h : x.2.2.2.2.length ≤ 1000) : Ev (fun k => spenceref24_SameReply.f k x.1 x.2.1 x.2.2.1 x.2.2.2.1 x.2.2.2.2 x.1 x.2.1 x.2.2.1 x.2.2.2.1 x.2.2.2.2) true := by
  unfold spenceref24_SameReply.f
  simp only [if_true]
  have := bytes_ev x.2.2.2.2 x.2.2.2.2 (by omega)
  rw [decide_eq_true rfl] at this
  exact Ev.bind this (Ev.now _)
theorem replyV_body (a : Int) (h : Bool) (m : List Int) (p q v : Int) : (replyV a h m p q v).2.2.2.2.length ≤ 1000 := by
  have := bodyV_len a v p q
  unfold replyV
  repeat' split
  all_goals simp
  omega
theorem ReplyAnswers : spencelaw31_ReplyAnswers.Pure := by
  intro a h s p q v r0 r1 r2 r3 r4 q0 q1 q2 q3 q4 _ _ _ _ _ _ _ _ _ hr4 hb4 _ _ _ _ hq4 hc4
  refine Ev.rounds (g := fun k => spencelaw31_ReplyAnswers.f k a h s p q v r0 r1 r2 r3 r4 q0 q1 q2 q3 q4) ?_
  refine Ev.bind awake31 ?_
  simp only [if_true]
  by_cases c1 : (s.size : Int) > 200
  · simp only [c1, if_true]; exact Ev.now _
  simp only [c1, if_false]
  refine Ev.bind (reply_v a h s p q v) ?_
  refine Ev.bind (ref_reply_v a h s p q v) ?_
  refine Ev.bind (same_self _ (replyV_body a h (bytesOf s) p q v)) ?_
  simp only [if_true, reply_Gone.f, reply_Down.f, Option.bind_some]
  refine Ev.bind (same_self (404, (⟨#[]⟩ : ByteArray), 0, (⟨#[]⟩ : ByteArray), []) (by simp)) ?_
  simp only [if_true]
  refine Ev.bind (same_self (503, (⟨#[]⟩ : ByteArray), 0, (⟨#[]⟩ : ByteArray), []) (by simp)) ?_
  simp only [if_true]
  have hu : ∀ l : List Int, (∀ x ∈ l, (Lit.int .u8 x).wf = true) → bytesOf (strOfNums l) = l := fun l hl => bytesOf_str l (fun b hb => by have := bounds_u8 (hl b hb); unfold isB; omega)
  have heq : ((strOfNums r4).toList == (strOfNums q4).toList) = decide (r4 = q4) := by rw [toList_beq, hu r4 hb4, hu q4 hc4]
  unfold reply_Same.f spenceref24_SameReply.f bytes_Equal.f
  by_cases d1 : r0 = q0
  rotate_left
  · simp only [d1, if_false, Option.bind_some]; exact Ev.now _
  by_cases d2 : r1.toList = q1.toList
  rotate_left
  · simp only [d1, d2, if_true, if_false, Option.bind_some]; exact Ev.now _
  by_cases d3 : r2 = q2
  rotate_left
  · simp only [d1, d2, d3, if_true, if_false, Option.bind_some]; exact Ev.now _
  by_cases d4 : r3.toList = q3.toList
  rotate_left
  · simp only [d1, d2, d3, d4, if_true, if_false, Option.bind_some]; exact Ev.now _
  simp only [d1, d2, d3, d4, if_true, Option.bind_some, heq]
  refine Ev.bind (Ev.bind (bytes_ev r4 q4 hr4) (Ev.now _)) ?_
  simp only [beq_self_eq_true]
  exact Ev.now _
end Go.Proofs.Ytfcengffgkmacaa.Pure
