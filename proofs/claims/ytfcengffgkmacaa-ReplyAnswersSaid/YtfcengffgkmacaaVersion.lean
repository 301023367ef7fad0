/- The versions of an object: how long, which validator, which bytes. -/
import Derived.Test.YtfcengffgkmacaaNumsPr
import Derived.Test.YtfcengffgkmacaaPAllx3
import Derived.Test.YtfcengffgkmacaaPAllx3
import Derived.Test.YtfcengffgkmacaaPAllx3
namespace Go.Proofs.Ytfcengffgkmacaa.Pure
open Go.RowKit Go.Proofs.Ytfcengffgkmacaa.PAll Go.Proofs.YtfcengffgkmacaaW.PrintWords Go.Proofs.YtfcengffgkmacaaW.PrintLast Go.Proofs.YtfcengffgkmacaaW.PrintMore
def mayV (a v : Int) : Bool := decide (0 ≤ a ∧ a ≤ 15 ∧ 0 ≤ v ∧ v ≤ 1000000)
theorem fits_v (a lo hi : Int) : nums_Fits.f a lo hi = some (decide (lo ≤ a ∧ a ≤ hi)) := by
  unfold nums_Fits.f
  by_cases h : a ≥ lo
  · rw [if_pos h]; have : lo ≤ a := h
    simp [this]
  · rw [if_neg h]; have : ¬ lo ≤ a := h
    simp [this]
theorem may_v (a v : Int) : version_may.f a v = some (mayV a v) := by
  unfold version_may.f mayV
  rw [fits_v]
  simp only [Option.bind_some, fits_v]
  by_cases h1 : 0 ≤ a ∧ a ≤ 15
  · rw [if_pos (decide_eq_true h1)]
    simp [h1]
  · rw [if_neg (by simpa using h1)]
    simp; intro h2 h3; exact absurd ⟨h2, h3⟩ h1
def lenV (a v : Int) : Int := if mayV a v then (53 * a + 29 * v) % 160 else 0
theorem len_v (a v : Int) : version_Length.f a v = some (lenV a v) := by
  unfold version_Length.f lenV
  rw [may_v]
  simp only [Option.bind_some]
  by_cases h : mayV a v = true
  · rw [if_pos h, if_pos h]
    have h := of_decide_eq_true h
    rw [wrap_id (x := 53 * a) (by omega), wrap_id (x := 29 * v) (by omega), wrap_id (by omega), Int.tmod_eq_emod_of_nonneg (by omega)]
  · rw [if_neg h, if_neg h]
theorem ref_len_v (a v : Int) : spenceref24_Length.f a v = some (if mayV a v then lenV a v else -1) := by
  unfold spenceref24_Length.f
  by_cases h : mayV a v = true
  · have h2 := of_decide_eq_true h
    rw [if_pos h, if_neg (by omega), if_neg (by omega), if_neg (by omega), if_neg (by omega), lenV, if_pos h]
    rw [wrap_id (x := a * 53) (by omega), wrap_id (x := v * 29) (by omega), wrap_id (by omega), Int.tmod_eq_emod_of_nonneg (by omega), Int.mul_comm a, Int.mul_comm v]
  · rw [if_neg h]
    have h2 : ¬ (0 ≤ a ∧ a ≤ 15 ∧ 0 ≤ v ∧ v ≤ 1000000) := fun x => h (decide_eq_true x)
    by_cases c1 : a < 0
    · rw [if_pos c1]
    rw [if_neg c1]
    by_cases c2 : a > 15
    · rw [if_pos c2]
    rw [if_neg c2]
    by_cases c3 : v < 0
    · rw [if_pos c3]
    rw [if_neg c3, if_pos (by omega)]
theorem lenV_range (a v : Int) : 0 ≤ lenV a v ∧ lenV a v < 160 := by unfold lenV; split <;> omega
def tagV (a v : Int) : List Int := if mayV a v then (118 :: dig a.toNat) ++ (45 :: dig v.toNat) else []
theorem tag_parts (p q : List Int) : ((((⟨#[118]⟩ : ByteArray) ++ strOfNums p) ++ (⟨#[45]⟩ : ByteArray)) ++ strOfNums q) = strOfNums ((118 :: p) ++ (45 :: q)) := by
  have e1 : (⟨#[118]⟩ : ByteArray) = strOfNums [118] := by decide
  have e2 : (⟨#[45]⟩ : ByteArray) = strOfNums [45] := by decide
  rw [e1, e2, str_append, str_append, str_append]
  simp
theorem ptext_dig (a : Int) (h : 0 ≤ a) : ptext a = dig a.toNat := by unfold ptext; rw [if_neg (by omega)]
theorem tag_v (a v : Int) : Ev (fun k => version_Tag.f k a v) (strOfNums (tagV a v)) := by
  unfold version_Tag.f tagV
  rw [may_v]
  simp only [Option.bind_some]
  by_cases h : mayV a v = true
  · simp only [h, if_true]
    have h := of_decide_eq_true h
    have l1 := dig_len a.toNat (by omega)
    have l2 := dig_len v.toNat (by omega)
    have p1 := print_ev a (by omega)
    have p2 := print_ev v (by omega)
    rw [ptext_dig _ (by omega)] at p1 p2
    refine Ev.bind p1 ?_
    simp only [size_str, show 1 + (dig a.toNat).length ≤ 9223372036854775807 by omega, show 1 + (dig a.toNat).length + 1 ≤ 9223372036854775807 by omega, if_true]
    refine Ev.bind p2 ?_
    simp only [size_str, show 1 + (dig a.toNat).length + 1 + (dig v.toNat).length ≤ 9223372036854775807 by omega, if_true]
    rw [tag_parts]
    exact Ev.now _
  · simp only [h]; exact Ev.now _
theorem ref_tag_v (a v : Int) : Ev (fun k => spenceref24_Tag.f k a v) (strOfNums (tagV a v)) := by
  unfold spenceref24_Tag.f tagV
  rw [ref_len_v]
  simp only [Option.bind_some]
  by_cases h : mayV a v = true
  · have hl := lenV_range a v
    simp only [h, if_true, show ¬ lenV a v < 0 by omega, if_false]
    have h := of_decide_eq_true h
    have l1 := dig_len a.toNat (by omega)
    have l2 := dig_len v.toNat (by omega)
    have p1 := ref_print_ev a (by omega)
    have p2 := ref_print_ev v (by omega)
    rw [ptext_dig _ (by omega)] at p1 p2
    refine Ev.bind p1 ?_
    simp only [size_str, show 1 + (dig a.toNat).length ≤ 9223372036854775807 by omega, show 1 + (dig a.toNat).length + 1 ≤ 9223372036854775807 by omega, if_true]
    refine Ev.bind p2 ?_
    simp only [size_str, show 1 + (dig a.toNat).length + 1 + (dig v.toNat).length ≤ 9223372036854775807 by omega, if_true]
    rw [tag_parts]
    exact Ev.now _
  · simp only [h]; exact Ev.now _
theorem tagV_isB (a v : Int) : ∀ b ∈ tagV a v, isB b := by
  intro b hb
  unfold tagV at hb
  split at hb
  · simp only [List.cons_append, List.mem_cons, List.mem_append] at hb
    rcases hb with h | h | h | h
    · unfold isB; omega
    · exact dig_isB _ b h
    · unfold isB; omega
    · exact dig_isB _ b h
  · cases hb
theorem tagV_nil (a v : Int) : tagV a v = [] ↔ mayV a v = false := by
  unfold tagV
  by_cases h : mayV a v = true
  · rw [if_pos h]; simp [h]
  · rw [if_neg h]; simp [h]
theorem dig_inj {m n : Nat} (h : dig m = dig n) : m = n := by
  have h1 := (dig_all m).2.2
  have h2 := (dig_all n).2.2
  rw [h, h2] at h1; omega
theorem dig_45 (n : Nat) : (45 : Int) ∉ dig n := by
  intro h
  have := List.all_eq_true.1 (dig_all n).1 45 h
  simp [isDig] at this
theorem split_inj : ∀ {p q r s : List Int}, (45 : Int) ∉ p → (45 : Int) ∉ q → p ++ 45 :: r = q ++ 45 :: s → p = q ∧ r = s
  | [], [], _, _, _, _, h => ⟨rfl, (List.cons.inj h).2⟩
  | [], y :: q, _, _, _, hq, h => absurd (List.cons.inj h).1 (fun e => hq (by rw [e]; exact List.mem_cons_self))
  | x :: p, [], _, _, hp, _, h => absurd (List.cons.inj h).1 (fun e => hp (by rw [← e]; exact List.mem_cons_self))
  | x :: p, y :: q, _, _, hp, hq, h => by
    obtain ⟨h1, h2⟩ := List.cons.inj h
    have := split_inj (fun e => hp (List.mem_cons_of_mem _ e)) (fun e => hq (List.mem_cons_of_mem _ e)) h2
    exact ⟨by rw [h1, this.1], this.2⟩
theorem tagV_inj (a v b w : Int) (h : tagV a v = tagV b w) (hn : tagV a v ≠ []) : a = b ∧ v = w := by
  have m1 : mayV a v = true := by
    cases hm : mayV a v
    · exact absurd ((tagV_nil a v).2 hm) hn
    · rfl
  have m2 : mayV b w = true := by
    cases hm : mayV b w
    · rw [h] at hn; exact absurd ((tagV_nil b w).2 hm) hn
    · rfl
  unfold tagV at h
  rw [if_pos m1, if_pos m2, List.cons_append, List.cons_append] at h
  obtain ⟨h1, h2⟩ := split_inj (dig_45 _) (dig_45 _) (List.cons.inj h).2
  have e1 := dig_inj h1
  have e2 := dig_inj h2
  have := of_decide_eq_true m1
  have := of_decide_eq_true m2
  omega
theorem awake30 : Ev (fun k => spencelaw30_awake.f k) true := by
  refine Ev.bind (tag_v 3 2) ?_
  have e : (strOfNums (tagV 3 2)).toList = ([118, 51, 45, 50] : List UInt8) := by
    have h : tagV 3 2 = [118, 51, 45, 50] := by
      have h1 : mayV 3 2 = true := by decide
      rw [tagV, if_pos h1, dig_small (by decide), dig_small (by decide)]; rfl
    rw [h, ByteArray.toList_eq]; rfl
  simp only [e, if_true, len_v, Option.bind_some]
  have h : lenV 1 0 = 53 := by decide
  rw [h]; exact Ev.now _
/-! ### finding a version by its validator -/
def hitV (a : Int) (l : List Int) (i : Int) : Bool := mayV a i && decide (tagV a i = l)
def findV (a : Int) (l : List Int) : Nat → Int → Int × Bool
  | 0, _ => (0, false)
  | d + 1, i => if hitV a l i then (i, true) else findV a l d (i + 1)
theorem find_loop (a : Int) (s : ByteArray) (m : Int) (hm : m ≤ 1000001) (d : Nat) : ∀ i : Int, 0 ≤ i → (m - i).toNat = d →
    Ev (fun k => version_Find.l0 k a s m i) (findV a (bytesOf s) d i) := by
  induction d with
  | zero =>
    intro i h0 hd
    refine Ev.pos (fun k => ?_)
    simp only [version_Find.l0]
    rw [if_neg (by omega)]; rfl
  | succ d ih =>
    intro i h0 hd
    have hw : wrap64 (i + 1) = i + 1 := wrap_id (by omega)
    have hnx := ih (i + 1) (by omega) (by omega)
    rw [findV]
    refine Ev.succ ?_
    simp only [version_Find.l0, may_v, Option.bind_some, hw]
    simp only [show i < m by omega, if_true]
    unfold hitV
    by_cases hb : mayV a i = true
    · simp only [hb, if_true, Bool.true_and]
      refine Ev.bind (tag_v a i) ?_
      have e : (strOfNums (tagV a i)).toList = s.toList ↔ tagV a i = bytesOf s := by rw [toList_bytes, bytesOf_str _ (tagV_isB a i)]
      by_cases ht : tagV a i = bytesOf s
      · simp only [e.2 ht, if_true, decide_eq_true ht]
        exact Ev.now _
      · have hne : ¬ (strOfNums (tagV a i)).toList = s.toList := fun x => ht (e.1 x)
        simp only [hne, if_false, decide_eq_false ht, Bool.false_eq_true]
        exact hnx
    · simp only [hb, Bool.false_eq_true, if_false, Bool.false_and]
      exact hnx
end Go.Proofs.Ytfcengffgkmacaa.Pure
