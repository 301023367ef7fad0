/- How long any version is, its validator, and any bytes of it: the plain law. -/
import Derived.Test.YtfcengffgkmacaaVBody
import Derived.Test.YtfcengffgkmacaaPAllx7
namespace Go.Proofs.Ytfcengffgkmacaa.Pure
open Go.RowKit Go.Proofs.Ytfcengffgkmacaa.PAll Go.Proofs.YtfcengffgkmacaaW.PrintWords Go.Proofs.YtfcengffgkmacaaW.PrintLast Go.Proofs.YtfcengffgkmacaaW.PrintMore
theorem VersionTells : spencelaw30_VersionTells.Pure := by
  intro a v i p q _ _ _ _ _
  refine Ev.rounds (g := fun k => spencelaw30_VersionTells.f k a v i p q) ?_
  refine Ev.bind awake30 ?_
  simp only [if_true, ref_len_v, len_v, Option.bind_some, byte_v, ref_byte_v]
  have hl := lenV_range a v
  have e : lenV a v = mx (if mayV a v = true then lenV a v else -1) 0 := by
    rw [mx_eq]
    by_cases h : mayV a v = true
    · rw [if_pos h]; omega
    · rw [if_neg h]; unfold lenV; rw [if_neg h]; omega
  simp only [← e, if_true]
  refine Ev.bind (tag_v a v) ?_
  refine Ev.bind (ref_tag_v a v) ?_
  simp only [if_true]
  refine Ev.bind (body_v a v p q) ?_
  refine Ev.bind (ref_body_v a v p q) ?_
  have b1 := bytes_ev (bodyV a v p q) (bodyV a v p q) (by have := bodyV_len a v p q; omega)
  rw [decide_eq_true rfl] at b1
  refine Ev.bind b1 ?_
  simp only [if_true]
  refine Ev.bind (whole_v a v) ?_
  refine Ev.bind (ref_body_v a v 0 4096) ?_
  have b2 := bytes_ev (bodyV a v 0 4096) (bodyV a v 0 4096) (by have := bodyV_len a v 0 4096; omega)
  rw [decide_eq_true rfl] at b2
  exact Ev.bind b2 (Ev.now _)
end Go.Proofs.Ytfcengffgkmacaa.Pure
