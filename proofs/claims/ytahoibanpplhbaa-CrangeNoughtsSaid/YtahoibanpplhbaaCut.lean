/- A text cut at a byte. -/
import Derived.Test.YtahoibanpplhbaaRev
import Derived.Lib.Bytealg
import Derived.Test.YtahoibanpplhbaaPAllx7
namespace Go.Proofs.Ytahoibanpplhbaa.Pure
open Go.RowKit Go.Proofs.Ytahoibanpplhbaa.Xw Go.Proofs.Ytahoibanpplhbaa.PAll Go.Proofs.YtahoibanpplhbaaW.PrintWords Go.Proofs.YtahoibanpplhbaaW.PrintLast Go.Proofs.YtahoibanpplhbaaW.PrintMore
/-- cut at the first byte b -/
def cutOf (b : Int) : List Int → List Int × List Int × Bool
  | [] => ([], [], false)
  | x :: l => if x = b then ([], l, true) else (x :: (cutOf b l).1, (cutOf b l).2.1, (cutOf b l).2.2)
theorem cutOf_no (b : Int) (l : List Int) (h : (cutOf b l).2.2 = false) : (cutOf b l).1 = l ∧ (cutOf b l).2.1 = [] ∧ b ∉ l := by
  induction l with
  | nil => simp [cutOf]
  | cons x l ih =>
    unfold cutOf at h ⊢
    by_cases e : x = b
    · rw [if_pos e] at h; cases h
    · rw [if_neg e] at h ⊢
      have := ih h
      refine ⟨?_, this.2.1, ?_⟩
      · dsimp only; rw [this.1]
      · intro hm; rcases List.mem_cons.1 hm with h1 | h1
        · exact e h1.symm
        · exact this.2.2 h1
theorem cutOf_yes (b : Int) (l : List Int) (h : (cutOf b l).2.2 = true) : l = (cutOf b l).1 ++ b :: (cutOf b l).2.1 ∧ b ∉ (cutOf b l).1 := by
  induction l with
  | nil => simp [cutOf] at h
  | cons x l ih =>
    unfold cutOf at h ⊢
    by_cases e : x = b
    · rw [if_pos e]; subst e; simp
    · rw [if_neg e] at h ⊢
      have := ih h
      refine ⟨?_, ?_⟩
      · dsimp only; rw [List.cons_append, ← this.1]
      · intro hm; rcases List.mem_cons.1 hm with h1 | h1
        · exact e h1.symm
        · exact this.2 h1
theorem cutOf_mk (b : Int) (p q : List Int) (h : b ∉ p) : cutOf b (p ++ b :: q) = (p, q, true) := by
  induction p with
  | nil => simp [cutOf]
  | cons x p ih =>
    have h1 : ¬ x = b := fun e => h (by rw [e]; exact List.mem_cons_self)
    have h2 : b ∉ p := fun e => h (List.mem_cons_of_mem _ e)
    rw [List.cons_append, cutOf, if_neg h1, ih h2]
theorem cutOf_none (b : Int) (p : List Int) (h : b ∉ p) : cutOf b p = (p, [], false) := by
  induction p with
  | nil => simp [cutOf]
  | cons x p ih =>
    have h1 : ¬ x = b := fun e => h (by rw [e]; exact List.mem_cons_self)
    have h2 : b ∉ p := fun e => h (List.mem_cons_of_mem _ e)
    rw [cutOf, if_neg h1, ih h2]
theorem idx_i8 (l : List UInt8) (b : Int) (h : isB b) : Lib.indexByte l b.toNat.toUInt8 = if (cutOf b (i8s l)).2.2 then ((cutOf b (i8s l)).1.length : Int) else -1 := by
  induction l with
  | nil => simp [Lib.indexByte, i8s, cutOf]
  | cons x l ih =>
    unfold isB at h
    have hx : (x == b.toNat.toUInt8) = decide ((x.toNat : Int) = b) := by
      rw [Bool.eq_iff_iff, beq_iff_eq, decide_eq_true_iff]
      constructor
      · intro e; rw [e]; simp; omega
      · intro e; apply UInt8.toNat_inj.1; simp; omega
    unfold Lib.indexByte
    rw [hx, ih]
    have e3 : i8s (x :: l) = (x.toNat : Int) :: i8s l := rfl
    rw [e3, cutOf]
    by_cases e : (x.toNat : Int) = b
    · rw [if_pos e, decide_eq_true e]; rfl
    · rw [if_neg e, decide_eq_false e]
      dsimp only
      rw [if_neg (by decide)]
      by_cases hc : (cutOf b (i8s l)).2.2 = true
      · rw [if_pos hc, if_pos hc, if_neg (by simp), List.length_cons]; omega
      · rw [if_neg hc, if_neg hc]; rfl
theorem cut_eq (s : ByteArray) (b : Int) (hb : isB b) (hs : s.size ≤ 9223372036854775806) : text_Cut.f s b = some (strOfNums (cutOf b (bytesOf s)).1, strOfNums (cutOf b (bytesOf s)).2.1, (cutOf b (bytesOf s)).2.2) := by
  unfold text_Cut.f strings_IndexByte.f idxb
  rw [idx_i8 _ _ hb]
  have e0 : i8s s.data.toList = bytesOf s := rfl
  rw [e0]
  simp only [Option.bind_some]
  cases hc : (cutOf b (bytesOf s)).2.2
  · obtain ⟨h1, h2, -⟩ := cutOf_no b _ hc
    rw [if_neg (by decide : ¬ false = true), if_pos (by decide), h1, h2, str_bytes]; rfl
  · obtain ⟨h1, -⟩ := cutOf_yes b _ hc
    have hl := congrArg List.length h1
    rw [bytesOf_length, List.length_append, List.length_cons] at hl
    rw [if_pos rfl, if_neg (by omega), if_pos (by omega), if_pos (by omega), wrap_id (by omega), if_pos (by omega), if_pos (by omega), ext_str, ext_str, take_size]
    generalize (cutOf b (bytesOf s)).1 = p at h1 hl ⊢
    generalize (cutOf b (bytesOf s)).2.1 = q at h1 hl ⊢
    rw [h1]
    congr 3
    · rw [List.drop_zero, Int.toNat_natCast, List.take_left' rfl]
    · congr 1
      have e1 : ((p.length : Int) + 1).toNat = p.length + 1 := by omega
      have e2 : p.length + 1 - p.length = 1 := by omega
      rw [e1, List.drop_append, List.drop_of_length_le (by omega), List.nil_append, e2]; rfl
end Go.Proofs.Ytahoibanpplhbaa.Pure
