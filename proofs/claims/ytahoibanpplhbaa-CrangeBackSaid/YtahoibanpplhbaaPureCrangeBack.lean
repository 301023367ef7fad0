/- Whatever may be said is read of its own text; what may not be has none: the plain law. -/
import Derived.Test.YtahoibanpplhbaaCrBack
import Derived.Test.YtahoibanpplhbaaCrAwake
import Derived.Test.YtahoibanpplhbaaCrRef
import Derived.Test.YtahoibanpplhbaaPAllx14
import Derived.Test.YtahoibanpplhbaaPAllx13
namespace Go.Proofs.Ytahoibanpplhbaa.Pure
open Go.RowKit Go.Proofs.Ytahoibanpplhbaa.Xw Go.Proofs.Ytahoibanpplhbaa.PAll Go.Proofs.YtahoibanpplhbaaW.PrintWords Go.Proofs.YtahoibanpplhbaaW.PrintLast Go.Proofs.YtahoibanpplhbaaW.PrintMore
theorem none_str : (⟨#[98, 121, 116, 101, 115, 32, 42]⟩ : ByteArray) = strOfNums (unitT ++ [42]) := by decide
theorem ref_print_content (kn : Bool) (f t tot : Int) : Ev (fun k => spenceref04_PrintContent.f k kn f t tot) (strOfNums (crPrint kn f t tot)) := by
  refine Ev.bind (ref_right_content kn f t tot) ?_
  unfold crPrint
  cases hr : rightC kn f t tot
  · exact Ev.now _
  have htot := rightC_tot hr
  simp only [if_true]
  cases kn with
  | true =>
    have hat := rightC_at hr
    have l1 := ptext_len f (by omega)
    have l2 := ptext_len (t - 1) (by omega)
    simp only [if_true]
    refine Ev.bind (ref_print_ev f (by omega)) ?_
    rw [wrap_id (x := t - 1) (by omega)]
    simp only [size_str, show 6 + (ptext f).length ≤ 9223372036854775807 by omega, show 6 + (ptext f).length + 1 ≤ 9223372036854775807 by omega, if_true]
    refine Ev.bind (ref_print_ev (t - 1) (by omega)) ?_
    simp only [size_str, show 6 + (ptext f).length + 1 + (ptext (t - 1)).length ≤ 9223372036854775807 by omega, show 6 + (ptext f).length + 1 + (ptext (t - 1)).length + 2 ≤ 9223372036854775807 by omega, show 6 + (ptext f).length + 1 + (ptext (t - 1)).length + 1 ≤ 9223372036854775807 by omega, if_true]
    by_cases ht : tot = -1
    · simp only [ht, show (-1 : Int) < 0 by decide, if_true]
      rw [unit_str, dash_str, any_str, str_append, str_append, str_append, str_append]
      have : unitT ++ ptext f ++ [45] ++ ptext (t - 1) ++ [47, 42] = unitT ++ (ptext f ++ [45] ++ ptext (t - 1)) ++ [47, 42] := by simp
      rw [this]; exact Ev.now _
    · have l3 := ptext_len tot (by omega)
      simp only [ht, show ¬ tot < 0 by omega, if_false]
      refine Ev.bind (ref_print_ev tot (by omega)) ?_
      simp only [size_str, show 6 + (ptext f).length + 1 + (ptext (t - 1)).length + 1 + (ptext tot).length ≤ 9223372036854775807 by omega, if_true]
      rw [unit_str, dash_str, slash_str, str_append, str_append, str_append, str_append, str_append]
      have : unitT ++ ptext f ++ [45] ++ ptext (t - 1) ++ [47] ++ ptext tot = unitT ++ (ptext f ++ [45] ++ ptext (t - 1)) ++ ([47] ++ ptext tot) := by simp
      rw [this]; exact Ev.now _
  | false =>
    simp only [Bool.false_eq_true, if_false]
    by_cases ht : tot = -1
    · simp only [ht, show (-1 : Int) < 0 by decide, show 7 + 2 ≤ 9223372036854775807 by decide, if_true]
      rw [none_str, any_str, str_append]
      exact Ev.now _
    · have l3 := ptext_len tot (by omega)
      simp only [ht, show ¬ tot < 0 by omega, show 7 + 1 ≤ 9223372036854775807 by decide, if_false, if_true]
      refine Ev.bind (ref_print_ev tot (by omega)) ?_
      simp only [size_str, show 8 + (ptext tot).length ≤ 9223372036854775807 by omega, if_true]
      rw [none_str, slash_str, str_append, str_append, List.append_assoc (unitT ++ _)]
      exact Ev.now _
theorem crPrint_isB (kn : Bool) (f t tot : Int) : ∀ b ∈ crPrint kn f t tot, isB b := by
  cases hr : rightC kn f t tot
  · unfold crPrint; rw [hr]; simp
  · cases kn with
    | true => rw [crPrint_known f t tot hr]; exact known_isB _ (by simp [isB]) 0 f t tot
    | false =>
      rw [(crPrint_unknown f t tot hr).2.2]
      intro b hb
      rcases List.mem_append.1 hb with h | h
      · simp at h; unfold isB; omega
      · rcases List.mem_cons.1 h with h | h
        · unfold isB; omega
        · rcases List.mem_append.1 h with h | h
          · simp at h; unfold isB; omega
          · rcases List.mem_cons.1 h with h | h
            · unfold isB; omega
            · exact totT_isB tot b h
theorem crPrint_len (kn : Bool) (f t tot : Int) : (crPrint kn f t tot).length ≤ 100 := by
  cases hr : rightC kn f t tot
  · unfold crPrint; rw [hr]; simp
  · have htot := rightC_tot hr
    have l3 := totT_len tot htot
    cases kn with
    | true =>
      have hat := rightC_at hr
      have l1 := dig_len f.toNat (by omega)
      have l2 := dig_len (t - 1).toNat (by omega)
      rw [crPrint_known f t tot hr]; simp only [List.length_append, List.length_cons, List.length_replicate, List.length_nil]; omega
    | false => rw [(crPrint_unknown f t tot hr).2.2]; simp; omega
theorem crPrint_back (kn : Bool) (f t tot : Int) : contOf (crPrint kn f t tot) = if rightC kn f t tot then (kn, f, t, tot, 0) else z3 := by
  cases hr : rightC kn f t tot
  · have e : crPrint kn f t tot = [] := by unfold crPrint; rw [hr]; rfl
    rw [e]; rfl
  · rw [if_pos rfl]
    cases kn with
    | true => rw [crPrint_known f t tot hr]; exact cont_known [98, 121, 116, 101, 115] (by decide) (by decide) 0 f t tot hr
    | false =>
      obtain ⟨h1, h2, h3⟩ := crPrint_unknown f t tot hr
      rw [h3]; subst h1; subst h2
      exact cont_unknown [98, 121, 116, 101, 115] (by decide) (by decide) tot hr
theorem CrangeBack : spencelaw07_CrangeBack.Pure := by
  intro kn f t tot p q n _ _ _ _ _ _
  refine Ev.rounds (g := fun k => spencelaw07_CrangeBack.f k kn f t tot p q n) ?_
  refine Ev.bind awake07 ?_
  simp only [if_true]
  refine Ev.bind (cr_print_ev kn f t tot) ?_
  refine Ev.bind (right_c kn f t tot) ?_
  refine Ev.bind (ref_right_content kn f t tot) ?_
  simp only [bne_self_eq_false, Bool.false_eq_true, if_false]
  refine Ev.bind (ref_print_content kn f t tot) ?_
  simp only [if_true]
  refine Ev.bind (a := strOfNums (crPrint true p q n)) (Ev.bind (cr_print_ev true p q n) (Ev.now _)) ?_
  refine Ev.bind (ref_print_content true p q n) ?_
  simp only [bne_self_eq_false]
  refine Ev.succ ?_
  simp only [spencelaw07_CrangeBack.j0, Bool.false_eq_true, if_false]
  have hp := crange_parse_ev (strOfNums (crPrint kn f t tot)) (by rw [size_str]; have := crPrint_len kn f t tot; omega)
  rw [bytesOf_str _ (crPrint_isB kn f t tot), crPrint_back] at hp
  refine Ev.bind hp ?_
  refine Ev.bind (ref_right_content kn f t tot) ?_
  cases hr : rightC kn f t tot
  · have e : (strOfNums (crPrint kn f t tot)).toList = ([] : List UInt8) := by
      rw [toList_nil, bytesOf_str _ (crPrint_isB kn f t tot)]; unfold crPrint; rw [hr]; rfl
    simp only [Bool.false_eq_true, if_false, e, if_true, z3, beq_self_eq_true]
    exact Ev.now _
  · simp only [if_true, beq_self_eq_true, Bool.and_self]
    exact Ev.now _
end Go.Proofs.Ytahoibanpplhbaa.Pure
