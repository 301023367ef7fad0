/- The statement's example. -/
import Derived.Test.YtahoibanpplhbaaCrPrint
import Derived.Test.YtahoibanpplhbaaPAllx6
namespace Go.Proofs.Ytahoibanpplhbaa.Pure
open Go.RowKit Go.Proofs.Ytahoibanpplhbaa.Xw Go.Proofs.Ytahoibanpplhbaa.PAll Go.Proofs.YtahoibanpplhbaaW.PrintWords Go.Proofs.YtahoibanpplhbaaW.PrintLast Go.Proofs.YtahoibanpplhbaaW.PrintMore
theorem awake07 : Ev (fun k => spencelaw07_awake.f k) true := by
  have h := cr_print_ev true 0 5 10
  refine Ev.bind (a := strOfNums (crPrint true 0 5 10)) (Ev.bind h (Ev.now _)) ?_
  have e : crPrint true 0 5 10 = [98, 121, 116, 101, 115, 32, 48, 45, 52, 47, 49, 48] := by
    have hr : rightC true 0 5 10 = true := by decide
    have d10 : dig 10 = [49, 48] := by rw [dig_big (by decide), dig_small (by decide)]; rfl
    unfold crPrint
    rw [if_pos hr, ptext_dig 0 (by decide), ptext_dig (5 - 1) (by decide), ptext_dig 10 (by decide), dig_small (u := (0 : Int).toNat) (by decide), dig_small (u := (5 - 1 : Int).toNat) (by decide)]
    rw [show (10 : Int).toNat = 10 from rfl, d10]; rfl
  have e2 : ((strOfNums (crPrint true 0 5 10)).toList == ([98, 121, 116, 101, 115, 32, 48, 45, 52, 47, 49, 48] : List UInt8)) = true := by
    rw [e, beq_iff_eq, ByteArray.toList_eq]; rfl
  rw [e2]; exact Ev.now _
end Go.Proofs.Ytahoibanpplhbaa.Pure
