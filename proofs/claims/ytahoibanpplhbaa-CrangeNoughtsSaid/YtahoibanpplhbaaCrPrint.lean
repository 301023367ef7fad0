/- Content-Range as a text: what crange.Print comes to. -/
import Derived.Test.YtahoibanpplhbaaCrange
import Derived.Test.YtahoibanpplhbaaNumsPr
import Derived.Test.YtahoibanpplhbaaPAllx6
namespace Go.Proofs.Ytahoibanpplhbaa.Pure
open Go.RowKit Go.Proofs.Ytahoibanpplhbaa.Xw Go.Proofs.Ytahoibanpplhbaa.PAll Go.Proofs.YtahoibanpplhbaaW.PrintWords Go.Proofs.YtahoibanpplhbaaW.PrintLast Go.Proofs.YtahoibanpplhbaaW.PrintMore
def unitT : List Int := [98, 121, 116, 101, 115, 32]
def crPrint (kn : Bool) (f t tot : Int) : List Int :=
  if rightC kn f t tot then unitT ++ (if kn then ptext f ++ [45] ++ ptext (t - 1) else [42]) ++ (if tot = -1 then [47, 42] else [47] ++ ptext tot) else []
theorem unit_str : (⟨#[98, 121, 116, 101, 115, 32]⟩ : ByteArray) = strOfNums unitT := by decide
theorem dash_str : (⟨#[45]⟩ : ByteArray) = strOfNums [45] := by decide
theorem slash_str : (⟨#[47]⟩ : ByteArray) = strOfNums [47] := by decide
theorem star_str : (⟨#[42]⟩ : ByteArray) = strOfNums [42] := by decide
theorem any_str : (⟨#[47, 42]⟩ : ByteArray) = strOfNums [47, 42] := by decide
theorem ptext_dig (a : Int) (h : 0 ≤ a) : ptext a = dig a.toNat := by unfold ptext; rw [if_neg (by omega)]
theorem ptext_len (n : Int) (h : 0 ≤ n ∧ n ≤ 9223372036854775807) : (ptext n).length ≤ 20 := by
  rw [ptext_dig n h.1]; exact dig_len _ (by omega)
theorem rightC_tot {kn : Bool} {f t tot : Int} (h : rightC kn f t tot = true) : tot = -1 ∨ (0 ≤ tot ∧ tot ≤ 4611686018427387903) := by
  unfold rightC at h
  rw [Bool.and_eq_true] at h
  exact of_decide_eq_true h.1
theorem rightC_at {f t tot : Int} (h : rightC true f t tot = true) : 0 ≤ f ∧ f < t ∧ t ≤ 4611686018427387903 ∧ (tot = -1 ∨ t ≤ tot) := by
  unfold rightC at h
  rw [Bool.and_eq_true, if_pos rfl, Bool.and_eq_true] at h
  have h1 := of_decide_eq_true h.2.1
  have h2 := of_decide_eq_true h.2.2
  omega
theorem cr_print_ev (kn : Bool) (f t tot : Int) : Ev (fun k => crange_Print.f k kn f t tot) (strOfNums (crPrint kn f t tot)) := by
  refine Ev.bind (right_c kn f t tot) ?_
  unfold crPrint
  cases hr : rightC kn f t tot
  · exact Ev.now _
  have htot := rightC_tot hr
  simp only [if_true]
  cases kn with
  | true =>
    have hat := rightC_at hr
    have l1 := ptext_len f (by omega)
    have l2 := ptext_len (t - 1) (by omega)
    simp only [if_true]
    refine Ev.bind (print_ev f (by omega)) ?_
    rw [wrap_id (x := t - 1) (by omega)]
    simp only [size_str, show (ptext f).length + 1 ≤ 9223372036854775807 by omega, if_true]
    refine Ev.bind (print_ev (t - 1) (by omega)) ?_
    simp only [size_str, show (ptext f).length + 1 + (ptext (t - 1)).length ≤ 9223372036854775807 by omega, show 6 + ((ptext f).length + 1 + (ptext (t - 1)).length) ≤ 9223372036854775807 by omega, show 6 + ((ptext f).length + 1 + (ptext (t - 1)).length) + 2 ≤ 9223372036854775807 by omega, show 6 + ((ptext f).length + 1 + (ptext (t - 1)).length) + 1 ≤ 9223372036854775807 by omega, if_true]
    by_cases ht : tot = -1
    · simp only [ht, if_true]
      rw [unit_str, dash_str, any_str, str_append, str_append, str_append, str_append]
      exact Ev.now _
    · have l3 := ptext_len tot (by omega)
      simp only [ht, if_false]
      refine Ev.bind (print_ev tot (by omega)) ?_
      simp only [size_str, show 6 + ((ptext f).length + 1 + (ptext (t - 1)).length) + 1 + (ptext tot).length ≤ 9223372036854775807 by omega, if_true]
      rw [unit_str, dash_str, slash_str, str_append, str_append, str_append, str_append, str_append, List.append_assoc (unitT ++ _)]
      exact Ev.now _
  | false =>
    simp only [Bool.false_eq_true, if_false, show 6 + 1 ≤ 9223372036854775807 by decide, show 7 + 2 ≤ 9223372036854775807 by decide, show 7 + 1 ≤ 9223372036854775807 by decide, if_true]
    by_cases ht : tot = -1
    · simp only [ht, if_true]
      rw [unit_str, star_str, any_str, str_append, str_append]
      exact Ev.now _
    · have l3 := ptext_len tot (by omega)
      simp only [ht, if_false]
      refine Ev.bind (print_ev tot (by omega)) ?_
      simp only [size_str, show 8 + (ptext tot).length ≤ 9223372036854775807 by omega, if_true]
      rw [unit_str, star_str, slash_str, str_append, str_append, str_append, List.append_assoc (unitT ++ _)]
      exact Ev.now _
end Go.Proofs.Ytahoibanpplhbaa.Pure
