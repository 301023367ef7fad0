/- Small laws that the walks of this seat's printed functions lack. -/
import Derived.WalkKit
import Derived.Lib.Bytealg
import Derived.Laws.StandIn
import Derived.Lib.ConvBytes
import Derived.Laws.BytesArg
import Derived.Test.YtahoibanpplhbaaWMore
namespace Go.Proofs.Ytahoibanpplhbaa.Xw
open Go.RowKit Go.Proofs.YtahoibanpplhbaaW.PrintWords
/-- A cell that was just written, written once more. -/
@[go_sem] theorem cell_set_twice (w : World) (a : Addr) (u v : Value) : ((w.setCell a u).setCell a v).cell? a = ((w.setCell a u).cell? a).map (fun _ => v) := by
  obtain ⟨b, o, s⟩ := a
  unfold World.cell? World.setCell
  simp only [Array.getElem?_modify]
  split <;> rename_i h <;> revert h
  all_goals (cases hb : w.heap[b]? with
    | none => simp
    | some x => cases x <;> simp <;> (try (cases s <;> simp [Array.getElem?_setIfInBounds] <;> (try (intros; subst_vars; split <;> simp_all)))))
theorem ne_empty (l : List UInt8) : Ending.returned (Value.bool !l.isEmpty) = Ending.returned (Value.bool (l != [])) := by cases l <;> rfl
theorem eq_empty (l : List UInt8) : Ending.returned (Value.bool l.isEmpty) = Ending.returned (Value.bool (l == [])) := by cases l <;> rfl
/-! ### the first place of a byte; small letters -/
def idxb (s : ByteArray) (c : Int) : Int := Lib.indexByte s.data.toList c.toNat.toUInt8
def lowI (x : Int) : Int := if 65 ≤ x ∧ x ≤ 90 then x - 65 + 97 else x
def lowAt (s : ByteArray) (k j : Nat) : Int := if j < k then lowI (bt s j) else bt s j
theorem low_frozen (W : World) (e : TypeId) (s : ByteArray) (j : Nat) (hj : j < s.size) : (Lib.bytesWorld W e s).frozen? ⟨W.heap.size, j, none⟩ = false := by
  have h := Lib.bytesWorld_at_new W e s
  have hs : s.size ≤ (Lib.bytesCells W e s).size := by unfold Lib.bytesCells; simp
  unfold World.frozen?
  rw [h]
  simp
  omega
theorem low_cell (W : World) (e : TypeId) (s : ByteArray) (j : Nat) (hj : j < s.size) : (Lib.bytesWorld W e s).cell? ⟨W.heap.size, j, none⟩ = some (.int .u8 (lowAt s 0 j)) := by
  rw [Lib.bytesWorld_cell W e s j hj]
  have h' : j < s.data.toList.length := by rw [data_length]; exact hj
  unfold lowAt bt
  simp [hj, List.getD_eq_getElem?_getD]
  rfl
theorem low_next (s : ByteArray) (k : Nat) (w : World) (g : Nat) (v : Int) (hv : v = lowI (bt s k)) (hk : k < s.size) (h : ∀ j, j < s.size → w.cell? ⟨g, j, none⟩ = some (.int .u8 (lowAt s k j))) :
    ∀ j, j < s.size → (w.setCell ⟨g, k, none⟩ (.int .u8 v)).cell? ⟨g, j, none⟩ = some (.int .u8 (lowAt s (k + 1) j)) := by
  intro j hj
  by_cases hjk : j = k
  · subst hjk
    rw [World.cell?_setCell_same' _ _ _ (by rw [h j hj]; rfl), hv]
    unfold lowAt; rw [if_pos (by omega)]
  · rw [World.cell?_setCell_other _ _ _ _ (by simp), h j hj]
    unfold lowAt
    by_cases hl : j < k
    · rw [if_pos hl, if_pos (by omega)]
    · rw [if_neg hl, if_neg (by omega)]
theorem low_stay (s : ByteArray) (k : Nat) (w : World) (g : Nat) (hv : lowI (bt s k) = bt s k) (h : ∀ j, j < s.size → w.cell? ⟨g, j, none⟩ = some (.int .u8 (lowAt s k j))) :
    ∀ j, j < s.size → w.cell? ⟨g, j, none⟩ = some (.int .u8 (lowAt s (k + 1) j)) := by
  intro j hj
  rw [h j hj]
  unfold lowAt
  by_cases hjk : j = k
  · subst hjk; rw [if_neg (by omega), if_pos (by omega), hv]
  · by_cases hl : j < k
    · rw [if_pos hl, if_pos (by omega)]
    · rw [if_neg hl, if_neg (by omega)]
structure LowIn (s : ByteArray) (g : Nat) (k : Nat) (w wr : World) : Prop where
  cells : ∀ j, j < s.size → wr.cell? ⟨g, j, none⟩ = some (.int .u8 (lowAt s k j))
  free : ∀ j, j < s.size → wr.frozen? ⟨g, j, none⟩ = false
  below : Below w.heap.size w wr
theorem low_end (s : ByteArray) : ((bytesOf s).map lowI).length = s.size ∧ ∀ i, i < s.size → ((bytesOf s).map lowI).getD i 0 = lowAt s s.size i := by
  refine ⟨by rw [List.length_map, bytesOf_length], fun i hi => ?_⟩
  have h1 : i < (bytesOf s).length := by rw [bytesOf_length]; exact hi
  have h := rd_bytesOf s i
  unfold rd at h
  simp [List.getD_eq_getElem?_getD, List.getElem?_eq_getElem h1] at h ⊢
  rw [h]; unfold lowAt; rw [if_pos hi]
end Go.Proofs.Ytahoibanpplhbaa.Xw
