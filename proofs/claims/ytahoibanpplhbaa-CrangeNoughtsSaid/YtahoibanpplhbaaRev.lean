/- A row turned round, and a text's bytes from a place on. -/
import Derived.Test.YtahoibanpplhbaaNMath
import Derived.Laws.Strings
import Derived.Test.YtahoibanpplhbaaTxt
import Derived.Test.YtahoibanpplhbaaPAllx5
namespace Go.Proofs.Ytahoibanpplhbaa.Pure
open Go.RowKit Go.Proofs.Ytahoibanpplhbaa.PAll Go.Proofs.YtahoibanpplhbaaW.PrintWords Go.Proofs.YtahoibanpplhbaaW.PrintLast Go.Proofs.YtahoibanpplhbaaW.PrintMore
theorem bytes_drop (s : ByteArray) (i : Int) (h0 : 0 ≤ i) (h1 : i < s.size) : (bytesOf s).drop i.toNat = bt s i :: (bytesOf s).drop (i + 1).toNat := by
  have hl : i.toNat < (bytesOf s).length := by rw [bytesOf_length]; omega
  have e : (i + 1).toNat = i.toNat + 1 := by omega
  rw [List.drop_eq_getElem_cons hl, e, ← rd_bytesOf]
  simp [rd, hl]
theorem bytes_take (s : ByteArray) (i : Int) (h0 : 0 ≤ i) (h1 : i < s.size) : (bytesOf s).take (i + 1).toNat = (bytesOf s).take i.toNat ++ [bt s i] := by
  have hl : i.toNat < (bytesOf s).length := by rw [bytesOf_length]; omega
  have e : (i + 1).toNat = i.toNat + 1 := by omega
  rw [e, List.take_succ_eq_append_getElem hl, ← rd_bytesOf]
  simp [rd, hl]
theorem ext_str (s : ByteArray) (a b : Nat) : s.extract a b = strOfNums (((bytesOf s).take b).drop a) := by
  rw [← bytesOf_extract, str_bytes]
theorem take_size (s : ByteArray) : (bytesOf s).take s.size = bytesOf s := List.take_of_length_le (by rw [bytesOf_length]; omega)
def i8s (l : List UInt8) : List Int := l.map fun b => (b.toNat : Int)
theorem bytesOf_i8 (s : ByteArray) : bytesOf s = i8s s.toList := by rw [ByteArray.toList_eq]; rfl
/-! ### a row turned round -/
theorem rev_loop (d : Nat) : ∀ (l : List Int) (i : Int), l.length ≤ 4611686018427387904 → 0 ≤ i → 2 * i ≤ (l.length : Int) → (l.length : Int) - 2 * i ≤ d →
    Ev (fun k => slices_Reverse_byte_byte.l0 k l i ((l.length : Int) - 1 - i)) (l.take i.toNat ++ ((l.drop i.toNat).take (l.length - 2 * i.toNat)).reverse ++ l.drop (l.length - i.toNat)) := by
  induction d using Nat.strongRecOn with
  | _ d ih =>
    intro l i hl h0 h1 hd
    by_cases hlt : i < (l.length : Int) - 1 - i
    · have hi : i.toNat < l.length := by omega
      have hj : ((l.length : Int) - 1 - i).toNat = l.length - 1 - i.toNat := by omega
      have hjl : l.length - 1 - i.toNat < l.length := by omega
      generalize hm : (l.set (i : Int).toNat (rd l ((l.length : Int) - 1 - i))).set ((l.length : Int) - 1 - i : Int).toNat (rd l i) = m
      have hml : m.length = l.length := by rw [← hm]; simp
      have := ih (d - 2) (by omega) m (i + 1) (by omega) (by omega) (by omega) (by omega)
      obtain ⟨K, hK⟩ := this
      refine ⟨K + 1, fun k hk => ?_⟩
      obtain ⟨k, rfl⟩ : ∃ j, k = j + 1 := ⟨k - 1, by omega⟩
      have h := hK k (by omega)
      dsimp only at h
      have w1 : wrap64 (i + 1) = i + 1 := wrap_id (by omega)
      have w2 : wrap64 ((l.length : Int) - 1 - i - 1) = (m.length : Int) - 1 - (i + 1) := by rw [wrap_id (by omega)]; omega
      simp only [slices_Reverse_byte_byte.l0]
      rw [if_pos hlt, if_pos (by omega), if_pos (by omega), if_pos h0, if_pos (by omega), hm, w1, w2, h]
      congr 1
      have e1 : (i + 1).toNat = i.toNat + 1 := by omega
      have r1 : rd l ((l.length : Int) - 1 - i) = l[l.length - 1 - i.toNat] := by simp [rd, hj, hjl]
      have r2 : rd l i = l[i.toNat] := by simp [rd, hi]
      rw [r1, r2, hj] at hm
      apply List.ext_getElem?
      intro q
      have gm : ∀ q, m[q]? = if q = l.length - 1 - i.toNat then some l[i.toNat] else if q = i.toNat then some l[l.length - 1 - i.toNat] else l[q]? := by
        intro q
        rw [← hm, List.getElem?_set, List.getElem?_set]
        simp only [List.length_set]
        by_cases a1 : l.length - 1 - i.toNat = q
        · rw [if_pos a1, if_pos (by omega), if_pos a1.symm]
        · rw [if_neg a1, if_neg (show ¬ q = l.length - 1 - i.toNat from fun h => a1 h.symm)]
          by_cases a2 : i.toNat = q
          · rw [if_pos a2, if_pos (by omega), if_pos (show q = i.toNat from a2.symm)]
          · rw [if_neg a2, if_neg (show ¬ q = i.toNat from fun h => a2 h.symm)]
      have spec : ∀ (x : List Int) (a : Nat), x.length = l.length → 2 * a ≤ l.length → ∀ q, (x.take a ++ ((x.drop a).take (l.length - 2 * a)).reverse ++ x.drop (l.length - a))[q]? = if q < a then x[q]? else if q < l.length - a then x[l.length - 1 - q]? else x[q]? := by
        intro x a hx ha q
        by_cases b1 : q < a
        · rw [if_pos b1, List.append_assoc, List.getElem?_append_left (by simp; omega), List.getElem?_take, if_pos b1]
        · rw [if_neg b1]
          by_cases b2 : q < l.length - a
          · rw [if_pos b2, List.getElem?_append_left (by simp; omega), List.getElem?_append_right (by simp; omega)]
            rw [List.getElem?_reverse (by simp; omega), List.getElem?_take, if_pos (by simp; omega), List.getElem?_drop]
            congr 1
            simp
            omega
          · rw [if_neg b2, List.getElem?_append_right (by simp; omega), List.getElem?_drop]
            congr 1
            simp
            omega
      rw [hml, e1, spec m (i.toNat + 1) hml (by omega) q, spec l i.toNat rfl (by omega) q]
      by_cases c1 : q < i.toNat
      · rw [if_pos (by omega), if_pos c1, gm, if_neg (by omega), if_neg (by omega)]
      · rw [if_neg c1]
        by_cases c2 : q = i.toNat
        · subst c2
          rw [if_pos (by omega), if_pos (by omega), gm, if_neg (by omega), if_pos rfl, List.getElem?_eq_getElem hjl]
        · rw [if_neg (by omega)]
          by_cases c3 : q < l.length - (i.toNat + 1)
          · rw [if_pos c3, if_pos (by omega), gm, if_neg (by omega), if_neg (by omega)]
          · rw [if_neg c3]
            by_cases c4 : q = l.length - 1 - i.toNat
            · rw [if_pos (by omega), gm, if_pos c4]
              have : l.length - 1 - q = i.toNat := by omega
              rw [this, List.getElem?_eq_getElem hi]
            · rw [if_neg (by omega), gm, if_neg c4, if_neg c2]
    · refine Ev.pos (fun k => ?_)
      simp only [slices_Reverse_byte_byte.l0]
      rw [if_neg hlt]
      congr 1
      have hz : l.length - 2 * i.toNat = 0 ∨ l.length - 2 * i.toNat = 1 := by omega
      have hr : ((l.drop i.toNat).take (l.length - 2 * i.toNat)).reverse = (l.drop i.toNat).take (l.length - 2 * i.toNat) := by
        rcases hz with h | h <;> rw [h]
        · simp
        · cases l.drop i.toNat <;> simp
      rw [hr, List.append_assoc]
      have e : l.drop (l.length - i.toNat) = (l.drop i.toNat).drop (l.length - 2 * i.toNat) := by rw [List.drop_drop]; congr 1; omega
      rw [e, List.take_append_drop, List.take_append_drop]
theorem reverse_ev (l : List Int) (hl : l.length ≤ 4611686018427387904) : Ev (fun k => slices_Reverse_byte_byte.f k l) l.reverse := by
  have := rev_loop l.length l 0 hl (by omega) (by omega) (by omega)
  unfold slices_Reverse_byte_byte.f
  rw [wrap_id (by omega)]
  simpa using this
end Go.Proofs.Ytahoibanpplhbaa.Pure
