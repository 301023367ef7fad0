/- Texts in small letters. -/
import Derived.Test.YtahoibanpplhbaaRev
import Derived.Test.YtahoibanpplhbaaPAllx7
import Derived.Test.YtahoibanpplhbaaPAllx9
namespace Go.Proofs.Ytahoibanpplhbaa.Pure
open Go.RowKit Go.Proofs.Ytahoibanpplhbaa.Xw Go.Proofs.Ytahoibanpplhbaa.PAll Go.Proofs.YtahoibanpplhbaaW.PrintWords Go.Proofs.YtahoibanpplhbaaW.PrintLast Go.Proofs.YtahoibanpplhbaaW.PrintMore
theorem lowI_isB (b : Int) (h : isB b) : isB (lowI b) := by unfold isB lowI at *; split <;> omega
theorem lower_eq (s : ByteArray) (hs : s.size ≤ 9223372036854775807) : text_Lower.f s = some (strOfNums ((bytesOf s).map lowI)) := by unfold text_Lower.f; rw [if_pos hs]
theorem ref_lower_loop (s : ByteArray) (hs : s.size ≤ 9223372036854775806) (d : Nat) : ∀ (i : Int), 0 ≤ i → i ≤ s.size → (s.size : Int) - i = d →
    Ev (fun k => spenceref01_Lower.l0 k s (strOfNums (((bytesOf s).take i.toNat).map lowI)) i) (strOfNums ((bytesOf s).map lowI)) := by
  induction d with
  | zero =>
    intro i h0 h1 hd
    refine Ev.pos (fun k => ?_)
    simp only [spenceref01_Lower.l0]
    rw [if_neg (by omega), List.take_of_length_le (by rw [bytesOf_length]; omega)]
  | succ d ih =>
    intro i h0 h1 hd
    have hi : i < s.size := by omega
    have hb := bt_range s i
    have hlen : (strOfNums (((bytesOf s).take i.toNat).map lowI)).size = i.toNat := by
      rw [size_str, List.length_map, List.length_take, bytesOf_length]; omega
    have hadd : ∀ y, y = lowI (bt s i) → strOfNums (((bytesOf s).take i.toNat).map lowI) ++ strOfNums [y] = strOfNums (((bytesOf s).take (i + 1).toNat).map lowI) := by
      intro y hy
      rw [str_append, bytes_take s i h0 hi, List.map_append, hy]; rfl
    have hs1 : ∀ y : Int, (strOfNums [y]).size = 1 := fun y => size_str [y]
    refine Ev.step (fun k => ?_) (ih (i + 1) (by omega) (by omega) (by omega))
    simp only [spenceref01_Lower.l0, Option.bind_some, hlen, hs1]
    rw [if_pos hi, if_pos h0, wrap_id (by omega)]
    by_cases c1 : bt s i ≥ 65
    · rw [if_pos c1]
      by_cases c2 : bt s i ≤ 90
      · rw [if_pos c2, if_pos (by omega), hadd _ (by unfold lowI; rw [if_pos ⟨c1, c2⟩]; omega)]
      · rw [if_neg c2, if_pos (by omega), hadd _ (by unfold lowI; rw [if_neg (by omega)])]
    · rw [if_neg c1, if_pos (by omega), hadd _ (by unfold lowI; rw [if_neg (by omega)])]
theorem ref_lower_ev (s : ByteArray) (hs : s.size ≤ 9223372036854775806) : Ev (fun k => spenceref01_Lower.f k s) (strOfNums ((bytesOf s).map lowI)) := by
  have := ref_lower_loop s hs s.size 0 (by omega) (by omega) (by omega)
  rw [Int.toNat_zero, List.take_zero] at this
  exact this
theorem fold_eq (s t : ByteArray) (hs : s.size ≤ 9223372036854775807) (ht : t.size ≤ 9223372036854775807) : text_Fold.f s t = some ((strOfNums ((bytesOf s).map lowI)).toList == (strOfNums ((bytesOf t).map lowI)).toList) := by
  unfold text_Fold.f
  rw [lower_eq s hs, lower_eq t ht]; rfl
end Go.Proofs.Ytahoibanpplhbaa.Pure
