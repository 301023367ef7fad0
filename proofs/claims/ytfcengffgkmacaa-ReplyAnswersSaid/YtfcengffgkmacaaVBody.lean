/- The bytes of a version. -/
import Derived.Test.YtfcengffgkmacaaVersion
import Derived.Test.YtfcengffgkmacaaPAllx5
import Derived.Test.YtfcengffgkmacaaPAllx6
import Derived.Test.YtfcengffgkmacaaPAllx6
import Derived.Test.YtfcengffgkmacaaPAllx5
namespace Go.Proofs.Ytfcengffgkmacaa.Pure
open Go.RowKit Go.Proofs.Ytfcengffgkmacaa.PAll Go.Proofs.YtfcengffgkmacaaW.PrintWords Go.Proofs.YtfcengffgkmacaaW.PrintLast Go.Proofs.YtfcengffgkmacaaW.PrintMore
def byteV (a v i : Int) : Int := if 0 ≤ i ∧ i < lenV a v then (7 * a + 13 * v + i + i * i / 3) % 256 else 0
theorem byte_v (a v i : Int) : version_Byte.f a v i = some (byteV a v i) := by
  unfold version_Byte.f byteV
  have hl := lenV_range a v
  rw [len_v]
  simp only [Option.bind_some, fits_v]
  rw [wrap_id (x := lenV a v - 1) (by omega)]
  by_cases h : 0 ≤ i ∧ i < lenV a v
  · rw [if_pos (decide_eq_true (by omega)), if_pos h]
    have hm : mayV a v = true := by
      unfold lenV at h
      by_cases hm : mayV a v = true
      · exact hm
      · rw [if_neg hm] at h; omega
    have hm := of_decide_eq_true hm
    have hsq : 0 ≤ i * i ∧ i * i ≤ 160 * 160 := ⟨Int.mul_nonneg h.1 h.1, by have := Int.mul_le_mul (show i ≤ 160 by omega) (show i ≤ 160 by omega) h.1 (by omega); omega⟩
    rw [wrap_id (x := 7 * a) (by omega), wrap_id (x := 13 * v) (by omega), wrap_id (x := 7 * a + 13 * v) (by omega), wrap_id (x := i * i) (by omega), Int.tdiv_eq_ediv_of_nonneg hsq.1, wrap_id (x := i * i / 3) (by omega), wrap_id (x := 7 * a + 13 * v + i) (by omega), wrap_id (by omega)]
  · rw [if_neg (by simp; omega), if_neg h]
theorem ref_byte_v (a v i : Int) : spenceref24_Byte.f a v i = some (byteV a v i) := by
  unfold spenceref24_Byte.f byteV
  have hl := lenV_range a v
  rw [ref_len_v]
  simp only [Option.bind_some]
  by_cases h0 : i < 0
  · rw [if_pos h0, if_neg (by omega)]
  rw [if_neg h0]
  by_cases hm : mayV a v = true
  · rw [if_pos hm]
    by_cases h1 : i ≥ lenV a v
    · rw [if_pos h1, if_neg (by omega)]
    · rw [if_neg h1, if_pos (by omega)]
      have hm := of_decide_eq_true hm
      have hsq : 0 ≤ i * i ∧ i * i ≤ 160 * 160 := ⟨Int.mul_nonneg (by omega) (by omega), by have := Int.mul_le_mul (show i ≤ 160 by omega) (show i ≤ 160 by omega) (by omega) (by omega); omega⟩
      rw [Int.mul_comm a 7, Int.mul_comm v 13, wrap_id (x := 7 * a) (by omega), wrap_id (x := 13 * v) (by omega), wrap_id (x := 7 * a + 13 * v) (by omega), wrap_id (x := i * i) (by omega), Int.tdiv_eq_ediv_of_nonneg hsq.1, wrap_id (x := i * i / 3) (by omega), wrap_id (x := 7 * a + 13 * v + i) (by omega), wrap_id (by omega), Int.tmod_eq_emod_of_nonneg (by omega)]
      congr 1; omega
  · rw [if_neg hm, if_pos (by omega), if_neg (by unfold lenV; rw [if_neg hm]; omega)]
def rightS (p q : Int) : Bool := decide (0 ≤ p ∧ p < q ∧ q ≤ 4611686018427387903)
theorem span_right_v (p q : Int) : span_Right.f p q = some (rightS p q) := by
  unfold span_Right.f rightS
  by_cases h1 : p ≥ 0
  · rw [if_pos h1]
    by_cases h2 : p < q
    · rw [if_pos h2]; have : 0 ≤ p := h1
      simp [h2, this]
    · rw [if_neg h2]; simp [h2]
  · rw [if_neg h1]; have : ¬ 0 ≤ p := h1
    simp [this]
theorem ref_right_v (p q : Int) : spenceref04_Right.f p q = some (rightS p q) := by
  unfold spenceref04_Right.f rightS
  by_cases h1 : p ≥ 0
  · rw [if_pos h1]
    by_cases h2 : q > p
    · rw [if_pos h2]; have : 0 ≤ p := h1
      have h3 : p < q := h2
      simp [h3, this]
    · rw [if_neg h2]; have h3 : ¬ p < q := h2
      simp [h3]
  · rw [if_neg h1]; have : ¬ 0 ≤ p := h1
    simp [this]
/-- the bytes from i on, d of them -/
def bytesV (a v : Int) : Nat → Int → List Int
  | 0, _ => []
  | d + 1, i => byteV a v i :: bytesV a v d (i + 1)
theorem bytesV_len (a v : Int) : ∀ d i, (bytesV a v d i).length = d := by
  intro d
  induction d with
  | zero => intro i; rfl
  | succ d ih => intro i; rw [bytesV, List.length_cons, ih]
theorem bytesV_app (a v : Int) : ∀ d e i, bytesV a v (d + e) i = bytesV a v d i ++ bytesV a v e (i + d) := by
  intro d
  induction d with
  | zero => intro e i; simp [bytesV]
  | succ d ih =>
    intro e i
    have e1 : d + 1 + e = (d + e) + 1 := by omega
    have e2 : i + 1 + (d : Int) = i + ((d + 1 : Nat) : Int) := by omega
    rw [e1, bytesV, ih, bytesV, List.cons_append, e2]
/-- what a span has in common with the version -/
def cutV (a v p q : Int) : Int × Int := if rightS p q && rightS (max p 0) (min q (lenV a v)) then (p, min q (lenV a v)) else (0, 0)
def bodyV (a v p q : Int) : List Int := bytesV a v ((cutV a v p q).2 - (cutV a v p q).1).toNat (cutV a v p q).1
theorem meet_v (a v p q : Int) : ∃ b, span_Meet.f p q 0 (lenV a v) = some ((cutV a v p q).1, (cutV a v p q).2, b) := by
  unfold span_Meet.f cutV
  have hl := lenV_range a v
  simp only [span_right_v, Option.bind_some, mx_eq, mn_eq]
  by_cases h1 : rightS p q = true
  · rw [if_pos h1, h1, Bool.true_and]
    have h1' := of_decide_eq_true h1
    have hmax : max p 0 = p := by omega
    rw [hmax]
    by_cases h2 : rightS 0 (lenV a v) = true
    · rw [if_pos h2]
      by_cases h3 : rightS p (min q (lenV a v)) = true
      · rw [if_pos h3, if_pos h3]; exact ⟨_, rfl⟩
      · rw [if_neg h3, if_neg h3]; exact ⟨_, rfl⟩
    · rw [if_neg h2]
      have h3 : ¬ rightS p (min q (lenV a v)) = true := by
        intro h3
        have h3 := of_decide_eq_true h3
        apply h2
        unfold rightS
        exact decide_eq_true (by omega)
      rw [if_neg h3]; exact ⟨_, rfl⟩
  · have h1' : rightS p q = false := by simpa using h1
    rw [if_neg h1, h1', Bool.false_and]; exact ⟨_, rfl⟩
theorem cutV_range (a v p q : Int) : 0 ≤ (cutV a v p q).1 ∧ (cutV a v p q).1 ≤ (cutV a v p q).2 ∧ (cutV a v p q).2 ≤ 160 := by
  have hl := lenV_range a v
  unfold cutV
  by_cases h : (rightS p q && rightS (max p 0) (min q (lenV a v))) = true
  · rw [if_pos h]
    rw [Bool.and_eq_true] at h
    have h1 := of_decide_eq_true h.1
    have h2 := of_decide_eq_true h.2
    dsimp only; omega
  · rw [if_neg h]; dsimp only; omega
theorem body_loop (a v p q n : Int) (hp : 0 ≤ p ∧ p ≤ 160) (hn : n ≤ 160) (d : Nat) : ∀ (i : Int) (out : List Int), 0 ≤ i → (n - i).toNat = d → i ≤ n ∨ d = 0 → out.length ≤ 1000 - d →  d ≤ 160 →
    Ev (fun k => version_Body.l0 k a v out n i p q) (out ++ bytesV a v d (p + i)) := by
  induction d with
  | zero =>
    intro i out h0 hd _ _ _
    refine Ev.pos (fun k => ?_)
    simp only [version_Body.l0]
    rw [if_neg (by omega), bytesV, List.append_nil]
  | succ d ih =>
    intro i out h0 hd _ ho hd2
    have := ih (i + 1) (out ++ [byteV a v (p + i)]) (by omega) (by omega) (by omega) (by rw [List.length_append, List.length_singleton]; omega) (by omega)
    have e : p + (i + 1) = p + i + 1 := by omega
    rw [List.append_assoc, List.singleton_append, e] at this
    rw [bytesV]
    refine Ev.step (fun k => ?_) this
    simp only [version_Body.l0]
    rw [if_pos (by omega), wrap_id (x := p + i) (by omega), byte_v]
    simp only [Option.bind_some]
    rw [if_pos (by omega), wrap_id (by omega)]
theorem body_v (a v p q : Int) : Ev (fun k => version_Body.f k a v p q) (bodyV a v p q) := by
  unfold version_Body.f
  obtain ⟨b, hb⟩ := meet_v a v p q
  have hr := cutV_range a v p q
  rw [len_v]
  simp only [Option.bind_some, hb]
  have hlen : span_Len.f (cutV a v p q).1 (cutV a v p q).2 = some ((cutV a v p q).2 - (cutV a v p q).1) := by
    unfold span_Len.f
    rw [span_right_v]
    simp only [Option.bind_some]
    by_cases h : rightS (cutV a v p q).1 (cutV a v p q).2 = true
    · rw [if_pos h, wrap_id (by omega)]
    · rw [if_neg h]
      have : (cutV a v p q).2 = (cutV a v p q).1 := by
        have : ¬ (cutV a v p q).1 < (cutV a v p q).2 := fun x => h (decide_eq_true ⟨hr.1, x, by omega⟩)
        omega
      rw [this, Int.sub_self]
  rw [hlen]
  simp only [Option.bind_some]
  have := body_loop a v (cutV a v p q).1 (cutV a v p q).2 ((cutV a v p q).2 - (cutV a v p q).1) (by omega) (by omega) _ 0 [] (by omega) rfl (.inl (by omega)) (by simp) (by omega)
  rw [List.nil_append, Int.add_zero] at this
  have e : ((cutV a v p q).2 - (cutV a v p q).1 - 0).toNat = ((cutV a v p q).2 - (cutV a v p q).1).toNat := by omega
  rw [e] at this
  exact this
theorem whole_v (a v : Int) : Ev (fun k => version_Whole.f k a v) (bodyV a v 0 4096) := Ev.bind (body_v a v 0 4096) (Ev.now _)
/-! ### the reference's way -/
theorem ref_body_loop (a v p q : Int) (d : Nat) : ∀ (i : Int) (out : List Int), 0 ≤ i → (lenV a v - i).toNat = d → i ≤ lenV a v → out.length ≤ 1000 - d → d ≤ 160 →
    Ev (fun k => spenceref24_Body.l0 k a v out i p q) (out ++ ((List.range d).map fun (j : Nat) => i + (j : Int)).flatMap fun i => if rightS p q ∧ p ≤ i ∧ i < q then [byteV a v i] else []) := by
  induction d with
  | zero =>
    intro i out h0 hd hi _ _
    refine Ev.pos (fun k => ?_)
    simp only [spenceref24_Body.l0, ref_len_v, Option.bind_some]
    have : ¬ i < (if mayV a v = true then lenV a v else -1) := by split <;> omega
    rw [if_neg this]; simp
  | succ d ih =>
    intro i out h0 hd hi ho hd2
    have hm : mayV a v = true := by
      cases hm : mayV a v
      · have : lenV a v = 0 := by unfold lenV; rw [hm]; rfl
        omega
      · rfl
    have hr : ((List.range (d + 1)).map fun (j : Nat) => i + (j : Int)) = i :: ((List.range d).map fun (j : Nat) => i + 1 + (j : Int)) := by
      rw [List.range_succ_eq_map, List.map_cons, List.map_map]
      congr 1
      · omega
      · apply List.map_congr_left; intro j _; simp only [Function.comp_apply]; omega
    rw [hr, List.flatMap_cons, ← List.append_assoc]
    have hl := lenV_range a v
    have hlt : i < (if mayV a v = true then lenV a v else -1) := by rw [if_pos hm]; omega
    have hw : wrap64 (i + 1) = i + 1 := wrap_id (by omega)
    by_cases hc : rightS p q = true ∧ p ≤ i ∧ i < q
    · rw [if_pos hc]
      refine Ev.step (fun k => ?_) (ih (i + 1) (out ++ [byteV a v i]) (by omega) (by omega) (by omega) (by rw [List.length_append, List.length_singleton]; omega) (by omega))
      simp only [spenceref24_Body.l0, ref_len_v, Option.bind_some, ref_right_v, ref_byte_v, hw]
      rw [if_pos hlt, if_pos hc.1, if_pos (by omega), if_pos hc.2.2, if_pos (by omega)]
    · rw [if_neg hc, List.append_nil]
      refine Ev.step (fun k => ?_) (ih (i + 1) out (by omega) (by omega) (by omega) (by omega) (by omega))
      simp only [spenceref24_Body.l0, ref_len_v, Option.bind_some, ref_right_v, ref_byte_v, hw]
      rw [if_pos hlt]
      by_cases c1 : rightS p q = true
      · rw [if_pos c1]
        by_cases c2 : i ≥ p
        · rw [if_pos c2, if_neg (fun c3 => hc ⟨c1, c2, c3⟩)]
        · rw [if_neg c2]
      · rw [if_neg c1]
theorem pick_bytes (a v p q : Int) (hr : rightS p q = true) (d : Nat) : ∀ i : Int, 0 ≤ i →
    (((List.range d).map fun (j : Nat) => i + (j : Int)).flatMap fun i => if rightS p q ∧ p ≤ i ∧ i < q then [byteV a v i] else []) = bytesV a v (min q (i + d) - max p i).toNat (max p i) := by
  induction d with
  | zero =>
    intro i h0
    have : (min q (i + (0 : Nat)) - max p i).toNat = 0 := by omega
    rw [this]; rfl
  | succ d ih =>
    intro i h0
    have hrg : ((List.range (d + 1)).map fun (j : Nat) => i + (j : Int)) = i :: ((List.range d).map fun (j : Nat) => i + 1 + (j : Int)) := by
      rw [List.range_succ_eq_map, List.map_cons, List.map_map]
      congr 1
      · omega
      · apply List.map_congr_left; intro j _; simp only [Function.comp_apply]; omega
    rw [hrg, List.flatMap_cons, ih (i + 1) (by omega)]
    have e : i + 1 + (d : Int) = i + ((d + 1 : Nat) : Int) := by omega
    rw [e]
    have hr' := of_decide_eq_true hr
    by_cases h1 : p ≤ i
    · by_cases h2 : i < q
      · rw [if_pos ⟨hr, h1, h2⟩]
        have e1 : max p i = i := by omega
        have e2 : max p (i + 1) = i + 1 := by omega
        rw [e1, e2]
        have e3 : (min q (i + ((d + 1 : Nat) : Int)) - i).toNat = (min q (i + ((d + 1 : Nat) : Int)) - (i + 1)).toNat + 1 := by omega
        rw [e3, bytesV]; rfl
      · rw [if_neg (fun h => h2 h.2.2), List.nil_append]
        have e3 : (min q (i + ((d + 1 : Nat) : Int)) - max p i).toNat = 0 := by omega
        have e4 : (min q (i + ((d + 1 : Nat) : Int)) - max p (i + 1)).toNat = 0 := by omega
        rw [e3, e4]; rfl
    · rw [if_neg (fun h => h1 h.2.1), List.nil_append]
      have e1 : max p i = p := by omega
      have e2 : max p (i + 1) = p := by omega
      rw [e1, e2]
theorem ref_body_v (a v p q : Int) : Ev (fun k => spenceref24_Body.f k a v p q) (bodyV a v p q) := by
  have hl := lenV_range a v
  have := ref_body_loop a v p q (lenV a v - 0).toNat 0 [] (by omega) rfl (by omega) (by simp) (by omega)
  rw [List.nil_append] at this
  have e : (((List.range (lenV a v - 0).toNat).map fun (j : Nat) => (0 : Int) + (j : Int)).flatMap fun i => if rightS p q ∧ p ≤ i ∧ i < q then [byteV a v i] else []) = bodyV a v p q := by
    unfold bodyV cutV
    by_cases hr : rightS p q = true
    · rw [pick_bytes a v p q hr _ 0 (by omega)]
      have hr' := of_decide_eq_true hr
      have e1 : max p 0 = p := by omega
      have e2 : min q (0 + (((lenV a v - 0).toNat : Nat) : Int)) = min q (lenV a v) := by omega
      rw [hr, Bool.true_and, e1, e2]
      by_cases h2 : rightS p (min q (lenV a v)) = true
      · rw [if_pos h2]
      · rw [if_neg h2]
        have : ¬ p < min q (lenV a v) := fun h => h2 (decide_eq_true ⟨by omega, h, by omega⟩)
        have e3 : (min q (lenV a v) - p).toNat = 0 := by omega
        rw [e3]; rfl
    · have hr' : rightS p q = false := by simpa using hr
      rw [hr', Bool.false_and, if_neg (by decide)]
      have : ∀ l : List Int, (l.flatMap fun i => if false = true ∧ p ≤ i ∧ i < q then [byteV a v i] else []) = [] := by
        intro l; induction l with
        | nil => rfl
        | cons x l ih => rw [List.flatMap_cons, ih, if_neg (by simp)]; rfl
      rw [this]; rfl
  rw [e] at this
  exact this
/-! ### the same bytes -/
theorem bytes_loop (l m : List Int) (hl : l.length = m.length) (hb : l.length ≤ 9223372036854775807) (d : Nat) : ∀ i : Int, 0 ≤ i → i ≤ l.length → (l.length : Int) - i = d → l.take i.toNat = m.take i.toNat →
    Ev (fun k => spenceref01_Bytes.l0 k l m l.length i) (decide (l = m)) := by
  induction d with
  | zero =>
    intro i h0 h1 hd ht
    refine Ev.pos (fun k => ?_)
    simp only [spenceref01_Bytes.l0]
    rw [List.take_of_length_le (by omega), List.take_of_length_le (by omega)] at ht
    rw [if_neg (by omega), decide_eq_true ht]
  | succ d ih =>
    intro i h0 h1 hd ht
    have hi : i < l.length := by omega
    have a1 : i.toNat < l.length := by omega
    have a2 : i.toNat < m.length := by omega
    have r1 : rd l i = l[i.toNat] := by simp [rd, a1]
    have r2 : rd m i = m[i.toNat] := by simp [rd, a2]
    by_cases he : l[i.toNat] = m[i.toNat]
    · refine Ev.step (fun k => ?_) (ih (i + 1) (by omega) (by omega) (by omega) ?_)
      · simp only [spenceref01_Bytes.l0, r1, r2]
        rw [if_pos hi, if_pos h0, if_pos hi, if_pos (by omega), if_pos he, wrap_id (by omega)]
      · have e : (i + 1).toNat = i.toNat + 1 := by omega
        rw [e, List.take_succ_eq_append_getElem a1, List.take_succ_eq_append_getElem a2, ht, he]
    · refine Ev.pos (fun k => ?_)
      have hne : ¬ l = m := fun h => he (by subst h; rfl)
      simp only [spenceref01_Bytes.l0, r1, r2]
      rw [if_pos hi, if_pos h0, if_pos hi, if_pos (by omega), if_neg he, decide_eq_false hne]
theorem bytes_ev (l m : List Int) (hb : l.length ≤ 9223372036854775807) : Ev (fun k => spenceref01_Bytes.f k l m) (decide (l = m)) := by
  unfold spenceref01_Bytes.f
  by_cases h : l.length = m.length
  · simp only [show (l.length : Int) = (m.length : Int) by omega, if_true]
    have := bytes_loop l m h hb l.length 0 (by omega) (by omega) (by omega) rfl
    rw [h] at this
    exact this
  · simp only [show ¬ (l.length : Int) = (m.length : Int) by omega, if_false]
    rw [decide_eq_false (fun e => h (by rw [e]))]
    exact Ev.now _
theorem bodyV_len (a v p q : Int) : (bodyV a v p q).length ≤ 160 := by
  have := cutV_range a v p q
  unfold bodyV; rw [bytesV_len]; omega
end Go.Proofs.Ytfcengffgkmacaa.Pure
