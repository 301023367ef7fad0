/- The elements of a list in a text: what text.List comes to. -/
import Derived.Test.YtbihggkkaoacpaaText
import Derived.Test.YtbihggkkaoacpaaNumsRef
import Derived.Lib.Bytealg
import Derived.Test.YtbihggkkaoacpaaPAllx4
import Derived.Test.YtbihggkkaoacpaaPAllx5
import Derived.Test.YtbihggkkaoacpaaPAllx9
import Derived.Test.YtbihggkkaoacpaaPAllx5
namespace Go.Proofs.Ytbihggkkaoacpaa.Pure
open Go.RowKit Go.Proofs.Ytbihggkkaoacpaa.Xw Go.Proofs.Ytbihggkkaoacpaa.PAll Go.Proofs.YtbihggkkaoacpaaW.PrintWords Go.Proofs.YtbihggkkaoacpaaW.PrintLast Go.Proofs.YtbihggkkaoacpaaW.PrintMore
/-- cut at the first byte b -/
def cutOf (b : Int) : List Int → List Int × List Int × Bool
  | [] => ([], [], false)
  | x :: l => if x = b then ([], l, true) else (x :: (cutOf b l).1, (cutOf b l).2.1, (cutOf b l).2.2)
theorem cutOf_no (b : Int) (l : List Int) (h : (cutOf b l).2.2 = false) : (cutOf b l).1 = l ∧ (cutOf b l).2.1 = [] ∧ b ∉ l := by
  induction l with
  | nil => simp [cutOf]
  | cons x l ih =>
    unfold cutOf at h ⊢
    by_cases e : x = b
    · rw [if_pos e] at h; cases h
    · rw [if_neg e] at h ⊢
      have := ih h
      refine ⟨?_, this.2.1, ?_⟩
      · dsimp only; rw [this.1]
      · intro hm; rcases List.mem_cons.1 hm with h1 | h1
        · exact e h1.symm
        · exact this.2.2 h1
theorem cutOf_yes (b : Int) (l : List Int) (h : (cutOf b l).2.2 = true) : l = (cutOf b l).1 ++ b :: (cutOf b l).2.1 ∧ b ∉ (cutOf b l).1 := by
  induction l with
  | nil => simp [cutOf] at h
  | cons x l ih =>
    unfold cutOf at h ⊢
    by_cases e : x = b
    · rw [if_pos e]; subst e; simp
    · rw [if_neg e] at h ⊢
      have := ih h
      refine ⟨?_, ?_⟩
      · dsimp only; rw [List.cons_append, ← this.1]
      · intro hm; rcases List.mem_cons.1 hm with h1 | h1
        · exact e h1.symm
        · exact this.2 h1
theorem cutOf_mk (b : Int) (p q : List Int) (h : b ∉ p) : cutOf b (p ++ b :: q) = (p, q, true) := by
  induction p with
  | nil => simp [cutOf]
  | cons x p ih =>
    have h1 : ¬ x = b := fun e => h (by rw [e]; exact List.mem_cons_self)
    have h2 : b ∉ p := fun e => h (List.mem_cons_of_mem _ e)
    rw [List.cons_append, cutOf, if_neg h1, ih h2]
theorem cutOf_none (b : Int) (p : List Int) (h : b ∉ p) : cutOf b p = (p, [], false) := by
  induction p with
  | nil => simp [cutOf]
  | cons x p ih =>
    have h1 : ¬ x = b := fun e => h (by rw [e]; exact List.mem_cons_self)
    have h2 : b ∉ p := fun e => h (List.mem_cons_of_mem _ e)
    rw [cutOf, if_neg h1, ih h2]
theorem idx_i8 (l : List UInt8) (b : Int) (h : isB b) : Lib.indexByte l b.toNat.toUInt8 = if (cutOf b (i8s l)).2.2 then ((cutOf b (i8s l)).1.length : Int) else -1 := by
  induction l with
  | nil => simp [Lib.indexByte, i8s, cutOf]
  | cons x l ih =>
    unfold isB at h
    have hx : (x == b.toNat.toUInt8) = decide ((x.toNat : Int) = b) := by
      rw [Bool.eq_iff_iff, beq_iff_eq, decide_eq_true_iff]
      constructor
      · intro e; rw [e]; simp; omega
      · intro e; apply UInt8.toNat_inj.1; simp; omega
    unfold Lib.indexByte
    rw [hx, ih]
    have e3 : i8s (x :: l) = (x.toNat : Int) :: i8s l := rfl
    rw [e3, cutOf]
    by_cases e : (x.toNat : Int) = b
    · rw [if_pos e, decide_eq_true e]; rfl
    · rw [if_neg e, decide_eq_false e]
      dsimp only
      rw [if_neg (by decide)]
      by_cases hc : (cutOf b (i8s l)).2.2 = true
      · rw [if_pos hc, if_pos hc, if_neg (by simp), List.length_cons]; omega
      · rw [if_neg hc, if_neg hc]; rfl
theorem cut_eq (s : ByteArray) (b : Int) (hb : isB b) (hs : s.size ≤ 9223372036854775806) : text_Cut.f s b = some (strOfNums (cutOf b (bytesOf s)).1, strOfNums (cutOf b (bytesOf s)).2.1, (cutOf b (bytesOf s)).2.2) := by
  unfold text_Cut.f strings_IndexByte.f idxb
  rw [idx_i8 _ _ hb]
  have e0 : i8s s.data.toList = bytesOf s := rfl
  rw [e0]
  simp only [Option.bind_some]
  cases hc : (cutOf b (bytesOf s)).2.2
  · obtain ⟨h1, h2, -⟩ := cutOf_no b _ hc
    rw [if_neg (by decide : ¬ false = true), if_pos (by decide), h1, h2, str_bytes]; rfl
  · obtain ⟨h1, -⟩ := cutOf_yes b _ hc
    have hl := congrArg List.length h1
    rw [bytesOf_length, List.length_append, List.length_cons] at hl
    rw [if_pos rfl, if_neg (by omega), if_pos (by omega), if_pos (by omega), wrap_id (by omega), if_pos (by omega), if_pos (by omega), ext_str, ext_str, take_size]
    generalize (cutOf b (bytesOf s)).1 = p at h1 hl ⊢
    generalize (cutOf b (bytesOf s)).2.1 = q at h1 hl ⊢
    rw [h1]
    congr 3
    · rw [List.drop_zero, Int.toNat_natCast, List.take_left' rfl]
    · congr 1
      have e1 : ((p.length : Int) + 1).toNat = p.length + 1 := by omega
      have e2 : p.length + 1 - p.length = 1 := by omega
      rw [e1, List.drop_append, List.drop_of_length_le (by omega), List.nil_append, e2]; rfl
theorem ref_cut_loop (s : ByteArray) (b : Int) (hs : s.size ≤ 9223372036854775807) (d : Nat) : ∀ i : Int, 0 ≤ i → i ≤ s.size → (s.size : Int) - i = d → b ∉ (bytesOf s).take i.toNat →
    Ev (fun k => spenceref01_Cut.l0 k s b i) (strOfNums (cutOf b (bytesOf s)).1, strOfNums (cutOf b (bytesOf s)).2.1, (cutOf b (bytesOf s)).2.2) := by
  induction d with
  | zero =>
    intro i h0 h1 hd hn
    refine Ev.pos (fun k => ?_)
    simp only [spenceref01_Cut.l0]
    rw [List.take_of_length_le (by rw [bytesOf_length]; omega)] at hn
    rw [if_neg (by omega), cutOf_none b _ hn, str_bytes]; rfl
  | succ d ih =>
    intro i h0 h1 hd hn
    have hi : i < s.size := by omega
    have hdr := bytes_drop s i h0 hi
    by_cases hb : bt s i = b
    · refine Ev.pos (fun k => ?_)
      have he : bytesOf s = (bytesOf s).take i.toNat ++ b :: (bytesOf s).drop (i + 1).toNat := by
        conv => lhs; rw [← List.take_append_drop i.toNat (bytesOf s), hdr, hb]
      have hc := cutOf_mk b _ ((bytesOf s).drop (i + 1).toNat) hn
      rw [← he] at hc
      simp only [spenceref01_Cut.l0]
      rw [if_pos hi, if_pos h0, if_pos hb, if_pos h1, wrap_id (by omega), if_pos (by omega), if_pos (by omega), ext_str, ext_str, take_size, hc]
      rfl
    · refine Ev.step (fun k => ?_) (ih (i + 1) (by omega) (by omega) (by omega) ?_)
      · simp only [spenceref01_Cut.l0]
        rw [if_pos hi, if_pos h0, if_neg hb, wrap_id (by omega)]
      · rw [bytes_take s i h0 hi, List.mem_append]
        rintro (h | h)
        · exact hn h
        · exact hb (List.mem_singleton.1 h).symm
theorem ref_cut_ev (s : ByteArray) (b : Int) (hs : s.size ≤ 9223372036854775807) : Ev (fun k => spenceref01_Cut.f k s b) (strOfNums (cutOf b (bytesOf s)).1, strOfNums (cutOf b (bytesOf s)).2.1, (cutOf b (bytesOf s)).2.2) :=
  ref_cut_loop s b hs s.size 0 (by omega) (by omega) (by omega) (by simp)
/-! ### the list -/
/-- what the rest of a list comes to: whether there is any, whether it is the first element -/
def lists : Nat → List Int → Bool → Option (List (List Int))
  | 0, _, _ => none
  | n + 1, l, first =>
    if trim (cutOf 44 l).1 = [] then
      (if first = true ∧ (cutOf 44 l).2.2 = false ∧ (cutOf 44 l).1 ≠ [] then none
       else if (cutOf 44 l).2.2 then lists n (cutOf 44 l).2.1 false else some [])
    else if first = true ∧ isBl (rd (cutOf 44 l).1 0) = true then none
    else if (cutOf 44 l).2.2 then (lists n (cutOf 44 l).2.1 false).map (trim (cutOf 44 l).1 :: ·)
    else if isBl (rd (cutOf 44 l).1 (((cutOf 44 l).1.length : Int) - 1)) = true then none else some [trim (cutOf 44 l).1]
def listEnd (out : List ByteArray) : Option (List (List Int)) → List ByteArray × Bool
  | none => ([], false)
  | some ts => (out ++ ts.map strOfNums, true)
theorem listEnd_map (out : List ByteArray) (t : List Int) (o : Option (List (List Int))) : listEnd out (o.map (t :: ·)) = listEnd (out ++ [strOfNums t]) o := by
  cases o with
  | none => rfl
  | some ts => simp [listEnd]
theorem list_stop (out : List ByteArray) (s : ByteArray) (first : Bool) : Ev (fun k => text_List.l0 k out s false first) (out, true) :=
  Ev.pos (fun k => by simp [text_List.l0])
theorem cut_size (l : List Int) (h : (cutOf 44 l).2.2 = true) : (cutOf 44 l).1.length + (cutOf 44 l).2.1.length + 1 = l.length := by
  have := congrArg List.length (cutOf_yes 44 l h).1
  rw [List.length_append, List.length_cons] at this
  omega
theorem cut_len (l : List Int) : (cutOf 44 l).1.length ≤ l.length := by
  cases h : (cutOf 44 l).2.2
  · rw [(cutOf_no 44 l h).1]; exact Nat.le_refl _
  · have := cut_size l h; omega
theorem cut_mem1 {l : List Int} {b : Int} (h : b ∈ (cutOf 44 l).1) : b ∈ l := by
  cases hc : (cutOf 44 l).2.2
  · rwa [(cutOf_no 44 l hc).1] at h
  · rw [(cutOf_yes 44 l hc).1]; exact List.mem_append.2 (.inl h)
theorem cut_mem2 {l : List Int} {b : Int} (h : b ∈ (cutOf 44 l).2.1) : b ∈ l := by
  cases hc : (cutOf 44 l).2.2
  · rw [(cutOf_no 44 l hc).2.1] at h; cases h
  · rw [(cutOf_yes 44 l hc).1]; exact List.mem_append.2 (.inr (List.mem_cons_of_mem _ h))
theorem list_loop (n : Nat) : ∀ (l : List Int) (out : List ByteArray) (first : Bool), (∀ b ∈ l, isB b) → l.length < n → out.length + l.length + 1 ≤ 8796093022208 →
    Ev (fun k => text_List.l0 k out (strOfNums l) true first) (listEnd out (lists n l first)) := by
  induction n with
  | zero => intro l out first _ h; omega
  | succ n ih =>
    intro l out first hl hn ho
    have hc := cut_eq (strOfNums l) 44 (by unfold isB; omega) (by rw [size_str]; omega)
    rw [bytesOf_str l hl] at hc
    have hcl := cut_len l
    have hcb : ∀ b ∈ (cutOf 44 l).1, isB b := fun b hb => hl b (cut_mem1 hb)
    have ht := trim_ev (strOfNums (cutOf 44 l).1) (by rw [size_str]; omega)
    rw [bytesOf_str _ hcb] at ht
    have htb : ∀ b ∈ trim (cutOf 44 l).1, isB b := fun b hb => hcb b (trim_mem hb)
    have htn : (strOfNums (trim (cutOf 44 l).1)).toList = ([] : List UInt8) ↔ trim (cutOf 44 l).1 = [] := by rw [toList_nil, bytesOf_str _ htb]
    have hcn : (strOfNums (cutOf 44 l).1).toList = ([] : List UInt8) ↔ (cutOf 44 l).1 = [] := by rw [toList_nil, bytesOf_str _ hcb]
    have hnext : ∀ out2 : List ByteArray, out2.length ≤ out.length + 1 → Ev (fun k => text_List.l0 k out2 (strOfNums (cutOf 44 l).2.1) (cutOf 44 l).2.2 false) (listEnd out2 (if (cutOf 44 l).2.2 then lists n (cutOf 44 l).2.1 false else some [])) := by
      intro out2 h2
      cases hx : (cutOf 44 l).2.2
      · have := list_stop out2 (strOfNums (cutOf 44 l).2.1) false
        rw [if_neg (by decide)]; unfold listEnd; simpa using this
      · have := cut_size l hx
        rw [if_pos rfl]
        exact ih _ _ _ (fun b hb => hl b (cut_mem2 hb)) (by omega) (by omega)
    refine Ev.succ ?_
    simp only [text_List.l0, hc, Option.bind_some, if_true]
    refine Ev.bind ht ?_
    rw [lists]
    by_cases hz : trim (cutOf 44 l).1 = []
    · rw [if_pos hz]
      have hz2 := htn.2 hz
      simp only [hz2, if_true]
      cases first with
      | false =>
        simp only [Bool.false_eq_true, if_false, false_and]
        exact hnext out (by omega)
      | true =>
        simp only [if_true, true_and]
        cases hx : (cutOf 44 l).2.2
        · simp only [Bool.false_eq_true, if_false, true_and]
          by_cases hq : (cutOf 44 l).1 = []
          · have hq2 := hcn.2 hq
            simp only [hq2, if_true]
            rw [if_neg (fun h => h hq)]
            have := hnext out (by omega)
            rw [hx] at this
            simpa using this
          · have hq2 : ¬ (strOfNums (cutOf 44 l).1).toList = ([] : List UInt8) := fun h => hq (hcn.1 h)
            simp only [hq2, if_false]
            rw [if_pos hq]
            exact Ev.now _
        · simp only [if_true, Bool.true_eq_false, false_and, if_false]
          have := hnext out (by omega)
          rw [hx] at this
          simpa using this
    · rw [if_neg hz]
      have hz2 : ¬ (strOfNums (trim (cutOf 44 l).1)).toList = ([] : List UInt8) := fun h => hz (htn.1 h)
      have hpos : 0 < (cutOf 44 l).1.length := by
        rcases Nat.eq_zero_or_pos (cutOf 44 l).1.length with h | h
        · exact absurd (by rw [List.eq_nil_of_length_eq_zero h]; rfl) hz
        · exact h
      have hw : wrap64 (((cutOf 44 l).1.length : Int) - 1) = ((cutOf 44 l).1.length : Int) - 1 := wrap_id (by omega)
      simp only [hz2, if_false, blank_eq, Option.bind_some, size_str, bt_str _ hcb, hw, show (0 : Int) < ((cutOf 44 l).1.length : Int) by omega, show (0 : Int) ≤ ((cutOf 44 l).1.length : Int) - 1 by omega, show ((cutOf 44 l).1.length : Int) - 1 < ((cutOf 44 l).1.length : Int) by omega, if_true, show out.length < 8796093022208 by omega]
      have key : Ev (fun k => if (cutOf 44 l).2.2 = true then text_List.l0 k (out ++ [strOfNums (trim (cutOf 44 l).1)]) (strOfNums (cutOf 44 l).2.1) (cutOf 44 l).2.2 false
            else if isBl (rd (cutOf 44 l).1 (((cutOf 44 l).1.length : Int) - 1)) = true then some ([], false) else text_List.l0 k (out ++ [strOfNums (trim (cutOf 44 l).1)]) (strOfNums (cutOf 44 l).2.1) (cutOf 44 l).2.2 false)
          (listEnd out (if (cutOf 44 l).2.2 then (lists n (cutOf 44 l).2.1 false).map (trim (cutOf 44 l).1 :: ·) else if isBl (rd (cutOf 44 l).1 (((cutOf 44 l).1.length : Int) - 1)) = true then none else some [trim (cutOf 44 l).1])) := by
        have hnx := hnext (out ++ [strOfNums (trim (cutOf 44 l).1)]) (by simp)
        cases hx : (cutOf 44 l).2.2
        · rw [hx] at hnx
          simp only [Bool.false_eq_true, if_false] at hnx ⊢
          by_cases hq : isBl (rd (cutOf 44 l).1 (((cutOf 44 l).1.length : Int) - 1)) = true
          · simp only [hq, if_true]; exact Ev.now _
          · simp only [hq, Bool.false_eq_true, if_false]
            simpa [listEnd] using hnx
        · rw [hx] at hnx
          simp only [if_true] at hnx ⊢
          rw [listEnd_map]
          exact hnx
      cases first with
      | false =>
        simp only [Bool.false_eq_true, if_false, false_and]
        exact key
      | true =>
        simp only [if_true, true_and]
        by_cases hq : isBl (rd (cutOf 44 l).1 0) = true
        · simp only [hq, if_true]; exact Ev.now _
        · simp only [hq, Bool.false_eq_true, if_false]
          exact key
theorem list_ev (s : ByteArray) (hs : s.size + 1 ≤ 8796093022208) : Ev (fun k => text_List.f k s) (listEnd [] (lists (s.size + 1) (bytesOf s) true)) := by
  have := list_loop (s.size + 1) (bytesOf s) [] true (bytesOf_isB s) (by rw [bytesOf_length]; omega) (by rw [bytesOf_length]; simpa using hs)
  rw [str_bytes] at this
  exact this
/-! ### the same texts -/
theorem texts_loop (l m : List ByteArray) (hl : l.length = m.length) (hb : l.length ≤ 9223372036854775806) (d : Nat) : ∀ i : Int, 0 ≤ i → i ≤ l.length → (l.length : Int) - i = d → l.take i.toNat = m.take i.toNat →
    Ev (fun k => spenceref01_Texts.l0 k l m l.length i) (decide (l = m)) := by
  induction d with
  | zero =>
    intro i h0 h1 hd ht
    refine Ev.pos (fun k => ?_)
    simp only [spenceref01_Texts.l0]
    rw [List.take_of_length_le (by omega), List.take_of_length_le (by omega)] at ht
    rw [if_neg (by omega), decide_eq_true ht]
  | succ d ih =>
    intro i h0 h1 hd ht
    have hi : i < l.length := by omega
    have a1 : i.toNat < l.length := by omega
    have a2 : i.toNat < m.length := by omega
    have r1 : rdOf ByteArray.empty l i = l[i.toNat] := by simp [rdOf, a1]
    have r2 : rdOf ByteArray.empty m i = m[i.toNat] := by simp [rdOf, a2]
    by_cases he : l[i.toNat] = m[i.toNat]
    · refine Ev.step (fun k => ?_) (ih (i + 1) (by omega) (by omega) (by omega) ?_)
      · simp only [spenceref01_Texts.l0, r1, r2]
        rw [if_pos hi, if_pos h0, if_pos hi, if_pos (by omega), if_pos (by rw [he]), wrap_id (by omega)]
      · have e : (i + 1).toNat = i.toNat + 1 := by omega
        rw [e, List.take_succ_eq_append_getElem a1, List.take_succ_eq_append_getElem a2, ht, he]
    · refine Ev.pos (fun k => ?_)
      have hne : ¬ l = m := fun h => he (by subst h; rfl)
      simp only [spenceref01_Texts.l0, r1, r2]
      rw [if_pos hi, if_pos h0, if_pos hi, if_pos (by omega), if_neg (fun h => he (bytesOf_inj.1 ((toList_bytes _ _).1 h))), decide_eq_false hne]
theorem texts_ev (l m : List ByteArray) (hb : l.length ≤ 9223372036854775806) : Ev (fun k => spenceref01_Texts.f k l m) (decide (l = m)) := by
  unfold spenceref01_Texts.f
  by_cases h : l.length = m.length
  · simp only [show (l.length : Int) = (m.length : Int) by omega, if_true]
    have := texts_loop l m h hb l.length 0 (by omega) (by omega) (by omega) rfl
    rw [h] at this
    exact this
  · simp only [show ¬ (l.length : Int) = (m.length : Int) by omega, if_false]
    rw [decide_eq_false (fun e => h (by rw [e]))]
    exact Ev.now _
theorem awake03 : Ev (fun k => spencelaw03_awake.f k) true := by
  have h1 := list_ev (⟨#[97, 32, 44, 44, 32, 98]⟩ : ByteArray) (by decide)
  have h2 := list_ev (⟨#[32, 97]⟩ : ByteArray) (by decide)
  have e1 : lists ((⟨#[97, 32, 44, 44, 32, 98]⟩ : ByteArray).size + 1) (bytesOf (⟨#[97, 32, 44, 44, 32, 98]⟩ : ByteArray)) true = some [[97], [98]] := by decide
  have e2 : lists ((⟨#[32, 97]⟩ : ByteArray).size + 1) (bytesOf (⟨#[32, 97]⟩ : ByteArray)) true = none := by decide
  rw [e1] at h1
  rw [e2] at h2
  refine Ev.bind h1 ?_
  refine Ev.bind h2 ?_
  simp only [listEnd, if_true, Bool.false_eq_true, if_false]
  have h3 := texts_ev ([] ++ List.map strOfNums [[97], [98]]) [(⟨#[97]⟩ : ByteArray), (⟨#[98]⟩ : ByteArray)] (by simp)
  have e3 : decide ([] ++ List.map strOfNums [[97], [98]] = [(⟨#[97]⟩ : ByteArray), (⟨#[98]⟩ : ByteArray)]) = true := by decide
  rw [e3] at h3
  exact Ev.bind h3 (Ev.now _)
end Go.Proofs.Ytbihggkkaoacpaa.Pure
