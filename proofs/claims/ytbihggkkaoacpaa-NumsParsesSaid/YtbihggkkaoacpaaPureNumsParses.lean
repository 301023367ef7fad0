/- The number of any text, or the error; any number as a text: the plain law. -/
import Derived.Test.YtbihggkkaoacpaaNumsRef
import Derived.Test.YtbihggkkaoacpaaPureNumsAdds
import Derived.Test.YtbihggkkaoacpaaPAllx12
namespace Go.Proofs.Ytbihggkkaoacpaa.Pure
open Go.RowKit Go.Proofs.Ytbihggkkaoacpaa.PAll Go.Proofs.YtbihggkkaoacpaaW.PrintWords Go.Proofs.YtbihggkkaoacpaaW.PrintLast Go.Proofs.YtbihggkkaoacpaaW.PrintMore
theorem NumsParses : spencelaw01_NumsParses.Pure := by
  intro s n hs hn
  have wn := wf_bd hn
  refine Ev.rounds (g := fun k => spencelaw01_NumsParses.f k s n) ?_
  refine Ev.bind awake01 ?_
  by_cases h : (s.size : Int) > 300
  · exact Ev.all (fun k => by rw [if_pos rfl, if_pos h])
  · simp only [if_true, h, if_false]
    refine Ev.bind (parse_ev s (by omega)) (Ev.bind (ref_parse_ev s (by omega)) ?_)
    simp only [if_true]
    refine Ev.bind (print_ev n wn) (Ev.bind (ref_print_ev n wn) ?_)
    exact Ev.all (fun k => by simp)
end Go.Proofs.Ytbihggkkaoacpaa.Pure
