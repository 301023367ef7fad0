/- The bytes of two parts of a version, one behind the other, are those of both as one: the plain law. -/
import Derived.Test.YtfcengffgkmacaaReply
import Derived.Test.YtfcengffgkmacaaPAllx13
namespace Go.Proofs.Ytfcengffgkmacaa.Pure
open Go.RowKit Go.Proofs.Ytfcengffgkmacaa.PAll Go.Proofs.YtfcengffgkmacaaW.PrintWords Go.Proofs.YtfcengffgkmacaaW.PrintLast Go.Proofs.YtfcengffgkmacaaW.PrintMore
theorem replyV_part (a v p q : Int) (hm : mayV a v = true) (h : 0 ≤ p ∧ p < q ∧ q ≤ lenV a v) : replyV a false (tagV a v) p q v = (206, strOfNums (tagV a v), lenV a v, strOfNums (crText p q (lenV a v)), bytesV a v (q - p).toNat p) := by
  have h0 : ¬ tagV a v = [] := fun h => by rw [tagV_nil, hm] at h; cases h
  have hl := lenV_range a v
  have hr : rightS p q = true := decide_eq_true (by omega)
  have hr2 : rightS (max p 0) (min q (lenV a v)) = true := decide_eq_true (by omega)
  unfold replyV
  rw [if_neg h0, if_neg (by decide), if_pos rfl, if_pos ⟨hr, h.2.2⟩]
  have e : bodyV a v p q = bytesV a v (q - p).toNat p := by
    unfold bodyV cutV
    rw [hr, hr2, Bool.and_self, if_pos rfl]
    have : min q (lenV a v) = q := by omega
    rw [this]
  rw [e]
theorem parts_loop (n : Int) (t : ByteArray) (l : List Int) (hb : l.length ≤ 1000) (x0 : Int) (x1 : ByteArray) (x3 : ByteArray) (x4 : List Int) (y0 y2 : Int) (y3 : ByteArray) (y4 : List Int) (z0 : Int) (z1 z3 : ByteArray) (d : Nat) : ∀ i : Int, 0 ≤ i → i ≤ l.length → (l.length : Int) - i = d →
    Ev (fun k => spencelaw31_ReplyParts.l0 k n t l l.length i x0 x1 n x3 x4 y0 t y2 y3 y4 z0 z1 n z3 l) true := by
  induction d with
  | zero =>
    intro i h0 h1 hd
    refine Ev.pos (fun k => ?_)
    simp only [spencelaw31_ReplyParts.l0]
    rw [if_neg (by omega), if_pos trivial, if_pos trivial, beq_self_eq_true]
  | succ d ih =>
    intro i h0 h1 hd
    refine Ev.step (fun k => ?_) (ih (i + 1) (by omega) (by omega) (by omega))
    simp only [spencelaw31_ReplyParts.l0]
    rw [if_pos (by omega), if_pos h0, if_pos (by omega), if_pos (by omega), if_pos trivial, wrap_id (by omega)]
theorem ReplyParts : spencelaw31_ReplyParts.Pure := by
  intro a v p q r _ _ _ _ _
  refine Ev.rounds (g := fun k => spencelaw31_ReplyParts.f k a v p q r) ?_
  refine Ev.bind awake31 ?_
  simp only [if_true, ref_len_v, Option.bind_some]
  have hl := lenV_range a v
  have hyes : ∀ n, Ev (fun k => spencelaw31_ReplyParts.j0 k a v p q r n true) true := fun n => Ev.pos (fun k => by simp [spencelaw31_ReplyParts.j0])
  by_cases hm : ¬ mayV a v = true
  · simp only [hm, Bool.false_eq_true, if_false, show (-1 : Int) < 0 by decide, if_true]; exact hyes _
  have hm : mayV a v = true := Decidable.not_not.1 hm
  simp only [hm, if_true, show ¬ lenV a v < 0 by omega, if_false]
  by_cases c1 : p < 0
  · simp only [c1, if_true]; exact hyes _
  simp only [c1, if_false]
  by_cases c2 : p ≥ q
  · simp only [c2, if_true]; exact hyes _
  simp only [c2, if_false]
  by_cases c3 : q ≥ r
  · simp only [c3, if_true]; exact hyes _
  simp only [c3, if_false]
  by_cases c4 : r > lenV a v
  · rw [decide_eq_true c4]; exact hyes _
  rw [decide_eq_false c4]
  refine Ev.succ ?_
  simp only [spencelaw31_ReplyParts.j0, Bool.false_eq_true, if_false]
  refine Ev.bind (ref_tag_v a v) ?_
  have b1 := reply_v a false (strOfNums (tagV a v)) p q v
  have b2 := reply_v a false (strOfNums (tagV a v)) q r v
  have b3 := reply_v a false (strOfNums (tagV a v)) p r v
  rw [bytesOf_str _ (tagV_isB a v), replyV_part a v _ _ hm (by omega)] at b1 b2 b3
  refine Ev.bind b1 ?_
  refine Ev.bind b2 ?_
  refine Ev.bind b3 ?_
  have e : (r - p).toNat = (q - p).toNat + (r - q).toNat := by omega
  have e2 : p + (((q - p).toNat : Nat) : Int) = q := by omega
  have happ := bytesV_app a v (q - p).toNat (r - q).toNat p
  rw [e2, ← e] at happ
  have n1 := bytesV_len a v (q - p).toNat p
  have n2 := bytesV_len a v (r - q).toNat q
  have n3 := bytesV_len a v (r - p).toNat p
  simp only [List.nil_append, Option.bind_some, ← happ, n1, n2, n3, List.length_nil, show 0 + (q - p).toNat < 140737488355328 by omega, show (q - p).toNat + (r - q).toNat < 140737488355328 by omega, if_true, bne_self_eq_false]
  refine Ev.succ ?_
  simp only [spencelaw31_ReplyParts.j1, Bool.false_eq_true, if_false]
  have := parts_loop (lenV a v) (strOfNums (tagV a v)) (bytesV a v (r - p).toNat p) (by omega) 206 (strOfNums (tagV a v)) (strOfNums (crText p q (lenV a v))) (bytesV a v (q - p).toNat p) 206 (lenV a v) (strOfNums (crText q r (lenV a v))) (bytesV a v (r - q).toNat q) 206 (strOfNums (tagV a v)) (strOfNums (crText p r (lenV a v))) (bytesV a v (r - p).toNat p).length 0 (by omega) (by omega) (by omega)
  exact this
end Go.Proofs.Ytfcengffgkmacaa.Pure
