/- The validator of any text, or the error; whether any validator may be, and as a text: the plain law. -/
import Derived.Test.YtbihggkkaoacpaaEtagUse
import Derived.Test.YtbihggkkaoacpaaPAllx19
namespace Go.Proofs.Ytbihggkkaoacpaa.Pure
open Go.RowKit Go.Proofs.Ytbihggkkaoacpaa.PAll Go.Proofs.YtbihggkkaoacpaaW.PrintWords Go.Proofs.YtbihggkkaoacpaaW.PrintLast Go.Proofs.YtbihggkkaoacpaaW.PrintMore
theorem EtagParses : spencelaw04_EtagParses.Pure := by
  intro s w t hs ht
  refine Ev.rounds (g := fun k => spencelaw04_EtagParses.f k s w t) ?_
  refine Ev.bind awake04 ?_
  simp only [if_true]
  have hyes : Ev (fun k => spencelaw04_EtagParses.j0 k s true w t) true := Ev.pos (fun k => by simp [spencelaw04_EtagParses.j0])
  by_cases c1 : (s.size : Int) > 200
  · simp only [c1, if_true]; exact hyes
  simp only [c1, if_false]
  by_cases c2 : (t.size : Int) > 200
  · rw [decide_eq_true c2]; exact hyes
  rw [decide_eq_false c2]
  refine Ev.succ ?_
  simp only [spencelaw04_EtagParses.j0, Bool.false_eq_true, if_false]
  refine Ev.bind (etag_parse_ev s (by omega)) ?_
  refine Ev.bind (ref_etag_ev s (by omega)) ?_
  simp only [beq_self_eq_true, Bool.and_self, if_true]
  refine Ev.bind (right_of w t (by omega)) ?_
  simp only [etag_print_eq w t (by omega), ref_etag_print_eq w t (by omega), Option.bind_some, beq_self_eq_true]
  by_cases h : t.size ≤ 40
  · simp only [show (t.size : Int) ≤ 40 by omega, if_true, decide_eq_true h, Bool.and_true]
    refine Ev.bind (ref_plain_ev t (by omega)) ?_
    simp only [beq_self_eq_true, if_true]
    exact Ev.now _
  · simp only [show ¬ (t.size : Int) ≤ 40 by omega, if_false, decide_eq_false h, Bool.and_false, beq_self_eq_true, if_true]
    exact Ev.now _
end Go.Proofs.Ytbihggkkaoacpaa.Pure
