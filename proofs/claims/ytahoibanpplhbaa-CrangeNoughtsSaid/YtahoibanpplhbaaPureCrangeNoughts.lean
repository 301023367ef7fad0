/- Letters of any size, and noughts ahead, play no part: the plain law. -/
import Derived.Test.YtahoibanpplhbaaCrBack
import Derived.Test.YtahoibanpplhbaaCrAwake
import Derived.Test.YtahoibanpplhbaaPAllx27
namespace Go.Proofs.Ytahoibanpplhbaa.Pure
open Go.RowKit Go.Proofs.Ytahoibanpplhbaa.Xw Go.Proofs.Ytahoibanpplhbaa.PAll Go.Proofs.YtahoibanpplhbaaW.PrintWords Go.Proofs.YtahoibanpplhbaaW.PrintLast Go.Proofs.YtahoibanpplhbaaW.PrintMore
theorem noughts_end (a b t m : Int) (ha : 0 ≤ a) (hb : a ≤ b) (ht : b < t) (ht2 : t ≤ 1099511627776) (j : Nat) (hj : j ≤ 20) (i : Int) (hi : m ≤ i) :
    Ev (fun k => spencelaw07_CrangeNoughts.l0 k a b t m (strOfNums (List.replicate j 48)) i) true := by
  have hr : rightC true a (b + 1) t = true := by
    unfold rightC rightS
    rw [decide_eq_true (.inr (by omega)), if_pos rfl, decide_eq_true (by omega), decide_eq_true (.inr (by omega))]; rfl
  have hw : wrap64 (b + 1) = b + 1 := wrap_id (by omega)
  have hp := cr_print_ev true a (b + 1) t
  have hk := crPrint_known a (b + 1) t hr
  have l1 := dig_len a.toNat (by omega)
  have l2 := dig_len (b + 1 - 1).toNat (by omega)
  have l3 := totT_len t (.inr (by omega))
  have hB := known_isB [98, 121, 116, 101, 115] (by simp [isB]) 0 a (b + 1) t
  have hlen : (crPrint true a (b + 1) t).length = 8 + (dig a.toNat).length + (dig (b + 1 - 1).toNat).length + (totT t).length := by
    rw [hk]; simp; omega
  have hext : (strOfNums (crPrint true a (b + 1) t)).extract 6 (strOfNums (crPrint true a (b + 1) t)).size = strOfNums (dig a.toNat ++ 45 :: dig (b + 1 - 1).toNat ++ 47 :: totT t) := by
    rw [ext_str, take_size, hk, bytesOf_str _ hB]; simp
  have hby : (⟨#[66, 121, 84, 101, 83, 32]⟩ : ByteArray) = strOfNums [66, 121, 84, 101, 83, 32] := by decide
  have hc := cont_known [66, 121, 84, 101, 83] (by decide) (by decide) j a (b + 1) t hr
  have hB2 := known_isB [66, 121, 84, 101, 83] (by simp [isB]) j a (b + 1) t
  have hq := crange_parse_ev (strOfNums ([66, 121, 84, 101, 83] ++ 32 :: (List.replicate j 48 ++ dig a.toNat ++ 45 :: dig (b + 1 - 1).toNat ++ 47 :: totT t))) (by rw [size_str]; simp only [List.length_append, List.length_cons, List.length_replicate, List.length_nil]; omega)
  rw [bytesOf_str _ hB2, hc] at hq
  refine Ev.succ ?_
  simp only [spencelaw07_CrangeNoughts.l0, show ¬ i < m by omega, if_false, hw]
  refine Ev.bind (a := strOfNums (crPrint true a (b + 1) t)) (Ev.bind hp (Ev.now _)) ?_
  rw [hext]
  simp only [size_str, hlen, List.length_replicate]
  have hl4 : (dig a.toNat ++ 45 :: dig (b + 1 - 1).toNat ++ 47 :: totT t).length = 2 + (dig a.toNat).length + (dig (b + 1 - 1).toNat).length + (totT t).length := by simp; omega
  have hpos : 0 < (dig a.toNat).length := List.length_pos_iff.2 (dig_all _).2.1
  simp only [hl4, show ¬ (((8 + (dig a.toNat).length + (dig (b + 1 - 1).toNat).length + (totT t).length : Nat) : Int) < 7) by omega, show 6 + j ≤ 9223372036854775807 by omega, show (6 : Int) ≤ ((8 + (dig a.toNat).length + (dig (b + 1 - 1).toNat).length + (totT t).length : Nat) : Int) by omega, show 6 + j + (2 + (dig a.toNat).length + (dig (b + 1 - 1).toNat).length + (totT t).length) ≤ 9223372036854775807 by omega, if_true, if_false]
  rw [hby, str_append, str_append]
  have e : [66, 121, 84, 101, 83, 32] ++ List.replicate j 48 ++ (dig a.toNat ++ 45 :: dig (b + 1 - 1).toNat ++ 47 :: totT t) = [66, 121, 84, 101, 83] ++ 32 :: (List.replicate j 48 ++ dig a.toNat ++ 45 :: dig (b + 1 - 1).toNat ++ 47 :: totT t) := by simp
  rw [e]
  refine Ev.bind hq ?_
  simp only [beq_self_eq_true, Bool.and_self, if_true]
  exact Ev.now _
theorem noughts_loop7 (a b t m : Int) (ha : 0 ≤ a) (hb : a ≤ b) (ht : b < t) (ht2 : t ≤ 1099511627776) (hm : m ≤ 20) (d : Nat) : ∀ j : Nat, j ≤ 20 → (m - j).toNat = d →
    Ev (fun k => spencelaw07_CrangeNoughts.l0 k a b t m (strOfNums (List.replicate j 48)) (j : Int)) true := by
  induction d with
  | zero => intro j hj hd; exact noughts_end a b t m ha hb ht ht2 j hj j (by omega)
  | succ d ih =>
    intro j hj hd
    refine Ev.step (fun k => ?_) (ih (j + 1) (by omega) (by omega))
    have e : (⟨#[48]⟩ : ByteArray) = strOfNums [48] := by decide
    simp only [spencelaw07_CrangeNoughts.l0, size_str, List.length_replicate]
    rw [if_pos (by omega), if_pos (by omega), e, str_append, wrap_id (by omega), ← List.replicate_succ']
    rfl
theorem CrangeNoughts : spencelaw07_CrangeNoughts.Pure := by
  intro a b t m _ _ _ _
  refine Ev.rounds (g := fun k => spencelaw07_CrangeNoughts.f k a b t m) ?_
  refine Ev.bind awake07 ?_
  simp only [if_true]
  have hyes : Ev (fun k => spencelaw07_CrangeNoughts.j0 k a b t m true) true := Ev.pos (fun k => by simp [spencelaw07_CrangeNoughts.j0])
  by_cases c1 : a < 0
  · simp only [c1, if_true]; exact hyes
  simp only [c1, if_false]
  by_cases c2 : b < a
  · simp only [c2, if_true]; exact hyes
  simp only [c2, if_false]
  by_cases c3 : t ≤ b
  · simp only [c3, if_true]; exact hyes
  simp only [c3, if_false]
  by_cases c4 : t > 1099511627776
  · simp only [c4, if_true]; exact hyes
  simp only [c4, if_false]
  by_cases c5 : m < 0
  · simp only [c5, if_true]; exact hyes
  simp only [c5, if_false]
  by_cases c6 : m > 20
  · rw [decide_eq_true c6]; exact hyes
  rw [decide_eq_false c6]
  refine Ev.step (fun k => ?_) (noughts_loop7 a b t m (by omega) (by omega) (by omega) (by omega) (by omega) (m - 0).toNat 0 (by omega) (by simp))
  simp only [spencelaw07_CrangeNoughts.j0]
  rw [if_neg (by decide)]; rfl
end Go.Proofs.Ytahoibanpplhbaa.Pure
