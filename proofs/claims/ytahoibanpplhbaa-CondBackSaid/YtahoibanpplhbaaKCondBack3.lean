/- The law CondBack: for every input the call returns true, and each argument reads behind the call as it read before. No condition. (The row, and the plain law ahead of it.) -/
import Derived.Test.YtahoibanpplhbaaKCondBack2
import Derived.Test.YtahoibanpplhbaaKCondBack1
import Derived.Test.YtahoibanpplhbaaRows
import Derived.WalkKit
import Derived.ProofKit
import Derived.OpenShut
import Derived.ShutString
import Derived.ChangeOld
import Derived.Below
import Derived.SizedLaws
namespace Go.Proofs.Ytahoibanpplhbaa.Pure
open Go.RowKit Go.Proofs.Ytahoibanpplhbaa.Xw Go.Proofs.Ytahoibanpplhbaa.PAll Go.Proofs.YtahoibanpplhbaaW.PrintWords Go.Proofs.YtahoibanpplhbaaW.PrintLast Go.Proofs.YtahoibanpplhbaaW.PrintMore
def piecesQ (o : Bool) (cur : List Int) : List Int → List (List Int)
  | [] => [cur]
  | b :: l => if b = 34 then piecesQ (!o) (cur ++ [b]) l else if b = 44 then (if o = true then piecesQ o (cur ++ [b]) l else cur :: piecesQ o [] l) else piecesQ o (cur ++ [b]) l
theorem piecesQ_isB : ∀ (l : List Int) (o : Bool) (cur : List Int), (∀ b ∈ l, isB b) → (∀ b ∈ cur, isB b) → ∀ p ∈ piecesQ o cur l, ∀ b ∈ p, isB b
  | [], o, cur, _, hc => by intro p hp; rw [piecesQ, List.mem_singleton] at hp; subst hp; exact hc
  | x :: l, o, cur, hl, hc => by
    have h1 : isB x := hl x List.mem_cons_self
    have h2 : ∀ b ∈ l, isB b := fun b hb => hl b (List.mem_cons_of_mem _ hb)
    have h3 : ∀ b ∈ cur ++ [x], isB b := by
      intro b hb
      rcases List.mem_append.1 hb with h | h
      · exact hc b h
      · rw [List.mem_singleton.1 h]; exact h1
    have h4 : ∀ b ∈ ([] : List Int), isB b := by simp
    intro p hp
    rw [piecesQ] at hp
    split at hp
    · exact piecesQ_isB l _ _ h2 h3 p hp
    · split at hp
      · split at hp
        · exact piecesQ_isB l _ _ h2 h3 p hp
        · rcases List.mem_cons.1 hp with h | h
          · subst h; exact hc
          · exact piecesQ_isB l _ _ h2 h4 p h
      · exact piecesQ_isB l _ _ h2 h3 p hp
theorem piecesQ_len : ∀ (l : List Int) (o : Bool) (cur : List Int), (piecesQ o cur l).length ≤ l.length + 1
  | [], o, cur => by simp [piecesQ]
  | x :: l, o, cur => by
    rw [piecesQ]
    have h1 := piecesQ_len l (!o) (cur ++ [x])
    have h2 := piecesQ_len l o (cur ++ [x])
    have h3 := piecesQ_len l o []
    split
    · rw [List.length_cons]; omega
    · split
      · split
        · rw [List.length_cons]; omega
        · rw [List.length_cons, List.length_cons]; omega
      · rw [List.length_cons]; omega
theorem piecesQ_size : ∀ (l : List Int) (o : Bool) (cur : List Int), ∀ p ∈ piecesQ o cur l, p.length ≤ cur.length + l.length
  | [], o, cur, p, hp => by rw [piecesQ, List.mem_singleton] at hp; subst hp; simp
  | x :: l, o, cur, p, hp => by
    rw [piecesQ] at hp
    have h0 : (cur ++ [x]).length = cur.length + 1 := by simp
    have hl : (x :: l).length = l.length + 1 := rfl
    split at hp
    · have := piecesQ_size l _ _ p hp; omega
    · split at hp
      · split at hp
        · have := piecesQ_size l _ _ p hp; omega
        · rcases List.mem_cons.1 hp with h | h
          · subst h; omega
          · have := piecesQ_size l _ _ p h; simp only [List.length_nil] at this; omega
      · have := piecesQ_size l _ _ p hp; omega
theorem extract_str (s : ByteArray) (a b : Nat) : s.extract a b = strOfNums (((bytesOf s).take b).drop a) := by rw [← bytesOf_extract, str_bytes]
theorem take_snoc_b (s : ByteArray) (i : Int) (h0 : 0 ≤ i) (hi : i < s.size) (a : Nat) (ha : a ≤ i.toNat) : ((bytesOf s).take (i + 1).toNat).drop a = ((bytesOf s).take i.toNat).drop a ++ [bt s i] := by
  have hi' : i.toNat < (bytesOf s).length := by rw [bytesOf_length]; omega
  have e : (i + 1).toNat = i.toNat + 1 := by omega
  rw [e, List.take_succ_eq_append_getElem hi', List.drop_append_of_le_length (by rw [List.length_take]; omega)]
  congr 1
  rw [← rd_bytesOf, rd_eq _ _ h0 (by rw [bytesOf_length]; omega)]
theorem parted_loop (s : ByteArray) (hs : s.size ≤ 100000) (d : Nat) : ∀ (i a : Int) (o : Bool) (out : List ByteArray), 0 ≤ a → a ≤ i → i ≤ s.size → (s.size : Int) - i = d → out.length ≤ i.toNat →
    Ev (fun k => cond_parted.l0 k s out a o s.size i) (out ++ (piecesQ o (((bytesOf s).take i.toNat).drop a.toNat) ((bytesOf s).drop i.toNat)).map strOfNums) := by
  induction d with
  | zero =>
    intro i a o out h0 h1 h2 hd ho
    refine Ev.pos (fun k => ?_)
    have hz : (bytesOf s).drop i.toNat = [] := List.drop_of_length_le (by rw [bytesOf_length]; omega)
    simp only [cond_parted.l0]
    rw [if_neg (by omega), if_pos h0, if_pos (by omega), if_pos (by omega), hz, piecesQ, extract_str]
    have e : s.size = i.toNat := by omega
    rw [e]; rfl
  | succ d ih =>
    intro i a o out h0 h1 h2 hd ho
    have hi : i < s.size := by omega
    have hw : wrap64 (i + 1) = i + 1 := wrap_id (by omega)
    have e1 : (i + 1).toNat = i.toNat + 1 := by omega
    have hsn := take_snoc_b s i (by omega) hi a.toNat (by omega)
    rw [bytes_drop s i (by omega) hi, piecesQ]
    by_cases hq : bt s i = 34
    · rw [if_pos hq, ← hsn]
      refine Ev.step (fun k => ?_) (ih (i + 1) a (!o) out h0 (by omega) (by omega) (by omega) (by omega))
      simp only [cond_parted.l0, hw]
      rw [if_pos hi, if_pos (by omega), if_pos hi, if_pos hq]
    rw [if_neg hq]
    by_cases hc : bt s i = 44
    rotate_left
    · rw [if_neg hc, ← hsn]
      refine Ev.step (fun k => ?_) (ih (i + 1) a o out h0 (by omega) (by omega) (by omega) (by omega))
      simp only [cond_parted.l0, hw]
      rw [if_pos hi, if_pos (by omega), if_pos hi, if_neg hq, if_neg hc]
    rw [if_pos hc]
    cases o with
    | true =>
      rw [if_pos rfl, ← hsn]
      refine Ev.step (fun k => ?_) (ih (i + 1) a true out h0 (by omega) (by omega) (by omega) (by omega))
      simp only [cond_parted.l0, hw]
      rw [if_pos hi, if_pos (by omega), if_pos hi, if_neg hq, if_pos hc, if_pos trivial]
    | false =>
      rw [if_neg (by decide)]
      have := ih (i + 1) (i + 1) false (out ++ [s.extract a.toNat i.toNat]) (by omega) (by omega) (by omega) (by omega) (by simp; omega)
      rw [show ((bytesOf s).take (i + 1).toNat).drop (i + 1).toNat = [] from List.drop_of_length_le (by rw [List.length_take]; omega), List.append_assoc, e1, List.singleton_append] at this
      rw [List.map_cons, ← extract_str, e1]
      refine Ev.step (fun k => ?_) this
      simp only [cond_parted.l0, hw]
      rw [if_pos hi, if_pos (by omega), if_pos hi, if_neg hq, if_pos hc, if_neg (by decide), if_pos h0, if_pos h1, if_pos (by omega), if_pos (by omega)]
theorem parted_ev (s : ByteArray) (hs : s.size ≤ 100000) : Ev (fun k => cond_parted.f k s) ((piecesQ false [] (bytesOf s)).map strOfNums) := by
  have := parted_loop s hs s.size 0 0 false [] (by omega) (by omega) (by omega) (by omega) (by simp)
  rw [Int.toNat_zero, List.drop_zero, List.drop_zero, List.take_zero, List.nil_append] at this
  exact this
def listEnd (out : List ByteArray) : Option (List (List Int)) → List ByteArray × Bool
  | none => ([], false)
  | some ts => (out ++ ts.map strOfNums, true)
theorem listEnd_map (out : List ByteArray) (t : List Int) (o : Option (List (List Int))) : listEnd out (o.map (t :: ·)) = listEnd (out ++ [strOfNums t]) o := by
  cases o with
  | none => rfl
  | some ts => simp [listEnd]
/-- what the elements of pieces are -/
def lists2 (first : Bool) : List (List Int) → Option (List (List Int))
  | [] => some []
  | p :: r =>
    if trim p = [] then (if first = true ∧ r = [] ∧ p ≠ [] then none else lists2 false r)
    else if first = true ∧ isBl (rd p 0) = true then none
    else if r = [] ∧ isBl (rd p ((p.length : Int) - 1)) = true then none
    else (lists2 false r).map (trim p :: ·)
theorem lists2_cons (first : Bool) (p : List Int) (r : List (List Int)) : lists2 first (p :: r) =
    if trim p = [] then (if first = true ∧ r = [] ∧ p ≠ [] then none else lists2 false r)
    else if first = true ∧ isBl (rd p 0) = true then none
    else if r = [] ∧ isBl (rd p ((p.length : Int) - 1)) = true then none
    else (lists2 false r).map (trim p :: ·) := rfl
theorem lists2_nil (first : Bool) : lists2 first [] = some [] := rfl
theorem lists2_len : ∀ (ps : List (List Int)) (first : Bool) (ts : List (List Int)), lists2 first ps = some ts → ts.length ≤ ps.length
  | [], first, ts, h => by rw [lists2_nil] at h; rw [← Option.some.inj h]; simp
  | p :: r, first, ts, h => by
    rw [lists2_cons] at h
    have ih := lists2_len r false
    split at h
    · split at h
      · cases h
      · have := ih ts h; rw [List.length_cons]; omega
    · split at h
      · cases h
      · split at h
        · cases h
        · obtain ⟨us, hu, rfl⟩ := Option.map_eq_some_iff.1 h
          have := ih us hu
          rw [List.length_cons, List.length_cons]; omega
theorem rtrim_last (p : List Int) (h : 0 < p.length) : rtrim p = p ↔ isBl (rd p ((p.length : Int) - 1)) = false := by
  have hne : p ≠ [] := fun e => by rw [e] at h; exact absurd h (by decide)
  obtain ⟨q, b, rfl⟩ : ∃ q b, p = q ++ [b] := ⟨p.dropLast, p.getLast hne, (List.dropLast_concat_getLast hne).symm⟩
  have hr : rd (q ++ [b]) (((q ++ [b]).length : Int) - 1) = b := by simp [rd]
  rw [hr, rtrim_snoc]
  cases hb : isBl b
  · simp
  · rw [if_pos rfl]
    constructor
    · intro e
      have h1 := rtrim_len q
      rw [e, List.length_append] at h1
      simp at h1
      omega
    · intro e; cases e
theorem blank_ev (s : ByteArray) (hs : s.size ≤ 9223372036854775806) : Ev (fun k => text_Blank.f k s) (decide (rtrim (bytesOf s) = [])) := by
  unfold text_Blank.f
  refine Ev.bind (right_ev s hs) (Ev.all fun k => ?_)
  have hB : ∀ b ∈ rtrim (bytesOf s), isB b := fun b hb => bytesOf_isB s b (rtrim_mem hb)
  by_cases h : rtrim (bytesOf s) = []
  · rw [decide_eq_true h, h]; simp [toList_nil, bytesOf_str]
  · rw [decide_eq_false h]
    have : ¬ (strOfNums (rtrim (bytesOf s))).toList = ([] : List UInt8) := fun e => h (by rw [toList_nil, bytesOf_str _ hB] at e; exact e)
    rw [beq_eq_false_iff_ne.mpr this]
theorem first_str (p : List Int) (hp : ∀ b ∈ p, isB b) (h : 0 < p.length) : bytesOf ((strOfNums p).extract 0 1) = [rd p 0] := by
  rw [bytesOf_extract, bytesOf_str p hp, List.drop_zero]
  cases p with
  | nil => exact absurd h (by decide)
  | cons b q => simp [rd]
theorem elements_loop (ps : List (List Int)) (hp : ∀ p ∈ ps, ∀ b ∈ p, isB b) (hz : ∀ p ∈ ps, p.length ≤ 100000) (hl : ps.length ≤ 100001) (d : Nat) : ∀ (i : Int) (out : List ByteArray), 0 ≤ i → i ≤ ps.length → (ps.length : Int) - i = d → out.length ≤ i.toNat →
    Ev (fun k => cond_elements.l0 k (ps.map strOfNums) out (ps.map strOfNums) ps.length i) (listEnd out (lists2 (decide (i = 0)) (ps.drop i.toNat))) := by
  induction d with
  | zero =>
    intro i out h0 h1 hd ho
    refine Ev.pos (fun k => ?_)
    have : ps.drop i.toNat = [] := List.drop_of_length_le (by omega)
    simp only [cond_elements.l0]
    rw [if_neg (by omega), this]
    simp [lists2, listEnd]
  | succ d ih =>
    intro i out h0 h1 hd ho
    have hi : i.toNat < ps.length := by omega
    have e1 : (i + 1).toNat = i.toNat + 1 := by omega
    have hdr := List.drop_eq_getElem_cons hi
    have hrd : rdOf ByteArray.empty (ps.map strOfNums) i = strOfNums ps[i.toNat] := by simp [rdOf, hi]
    have hpB := hp ps[i.toNat] (List.getElem_mem hi)
    have hpz := hz ps[i.toNat] (List.getElem_mem hi)
    rw [hdr, lists2_cons]
    generalize ps[i.toNat] = p at hrd hpB hpz
    have hnil : ps.drop (i.toNat + 1) = [] ↔ i = (ps.length : Int) - 1 := by
      rw [List.drop_eq_nil_iff]; omega
    have hw : wrap64 (i + 1) = i + 1 := wrap_id (by omega)
    have hw2 : wrap64 ((ps.length : Int) - 1) = (ps.length : Int) - 1 := wrap_id (by omega)
    have hnx : ∀ out2 : List ByteArray, out2.length ≤ (i + 1).toNat → Ev (fun k => cond_elements.l0 k (ps.map strOfNums) out2 (ps.map strOfNums) ps.length (i + 1)) (listEnd out2 (lists2 false (ps.drop (i.toNat + 1)))) := by
      intro out2 h2
      have := ih (i + 1) out2 (by omega) (by omega) (by omega) h2
      rw [decide_eq_false (by omega), e1] at this
      exact this
    have ht := trim_ev (strOfNums p) (by rw [size_str]; omega)
    rw [bytesOf_str _ hpB] at ht
    have htB : ∀ b ∈ trim p, isB b := fun b hb => hpB b (trim_mem hb)
    have ez : (strOfNums (trim p)).toList = ([] : List UInt8) ↔ trim p = [] := by rw [toList_nil, bytesOf_str _ htB]
    have ep : (strOfNums p).toList = ([] : List UInt8) ↔ p = [] := by rw [toList_nil, bytesOf_str _ hpB]
    refine Ev.succ ?_
    simp only [cond_elements.l0, hrd]
    simp only [show i < (ps.length : Int) by omega, h0, if_true, List.length_map]
    refine Ev.bind ht ?_
    by_cases hz1 : trim p = []
    · rw [if_pos hz1]
      simp only [ez.2 hz1, if_true]
      have hno : Ev (fun k => cond_elements.j1 k (ps.map strOfNums) out i (strOfNums p) (strOfNums (trim p)) (ps.map strOfNums) ps.length i false) (listEnd out (lists2 false (ps.drop (i.toNat + 1)))) := by
        refine Ev.step (fun k => ?_) (hnx out (by omega))
        simp only [cond_elements.j1, hw]
        rw [if_neg (by decide), if_pos (ez.2 hz1)]
      by_cases hone : (ps.length : Int) = 1
      · have hi0 : i = 0 := by omega
        have hnil2 := hnil.2 (by omega)
        simp only [hone, if_true]
        rw [hone] at hno
        by_cases hpe : p = []
        · have : ((strOfNums p).toList != ([] : List UInt8)) = false := bne_eq_false_iff_eq.mpr (ep.2 hpe)
          rw [this, if_neg (fun h => h.2.2 hpe)]
          exact hno
        · have : ((strOfNums p).toList != ([] : List UInt8)) = true := bne_iff_ne.mpr (fun h => hpe (ep.1 h))
          rw [this, if_pos ⟨decide_eq_true hi0, hnil2, hpe⟩]
          exact Ev.pos (fun k => by simp only [cond_elements.j1, if_true]; rfl)
      · simp only [hone, if_false]
        have : ¬ (decide (i = 0) = true ∧ ps.drop (i.toNat + 1) = [] ∧ p ≠ []) := by
          rintro ⟨h2, h3, -⟩
          have := of_decide_eq_true h2
          have := hnil.1 h3
          omega
        rw [if_neg this]
        exact hno
    · rw [if_neg hz1]
      have hz1' : ¬ (strOfNums (trim p)).toList = ([] : List UInt8) := fun h => hz1 (ez.1 h)
      have hpos : 0 < p.length := by
        rcases Nat.eq_zero_or_pos p.length with h | h
        · exact absurd (by rw [List.eq_nil_of_length_eq_zero h]; rfl) hz1
        · exact h
      simp only [hz1', if_false]
      refine Ev.succ ?_
      simp only [cond_elements.j1, hw, hw2, Bool.false_eq_true, hz1', if_false, List.length_map, show (1 : Int) ≤ ((strOfNums p).size : Int) by rw [size_str]; omega, show out.length < 8796093022208 by omega, if_true]
      have hr := right_ev (strOfNums p) (by rw [size_str]; omega)
      rw [bytesOf_str _ hpB] at hr
      have hrB : ∀ b ∈ rtrim p, isB b := fun b hb => hpB b (rtrim_mem hb)
      have er : (strOfNums (rtrim p)).toList = (strOfNums p).toList ↔ isBl (rd p ((p.length : Int) - 1)) = false := by rw [toList_bytes, bytesOf_str _ hrB, bytesOf_str _ hpB, rtrim_last p hpos]
      have key : Ev (fun k => if i = (ps.length : Int) - 1 then ((text_Right.f k (strOfNums p)).bind fun t => if t.toList = (strOfNums p).toList then cond_elements.l0 k (ps.map strOfNums) (out ++ [strOfNums (trim p)]) (ps.map strOfNums) ps.length (i + 1) else some ([], false)) else cond_elements.l0 k (ps.map strOfNums) (out ++ [strOfNums (trim p)]) (ps.map strOfNums) ps.length (i + 1))
          (listEnd out (if ps.drop (i.toNat + 1) = [] ∧ isBl (rd p ((p.length : Int) - 1)) = true then none else (lists2 false (ps.drop (i.toNat + 1))).map (trim p :: ·))) := by
        have hn2 := hnx (out ++ [strOfNums (trim p)]) (by simp; omega)
        by_cases hlast : i = (ps.length : Int) - 1
        · simp only [hlast, if_true]
          rw [← hlast]
          simp only [hnil.2 hlast, true_and]
          rw [hnil.2 hlast] at hn2
          refine Ev.bind hr ?_
          cases hq : isBl (rd p ((p.length : Int) - 1))
          · rw [if_neg (by decide), listEnd_map]
            simp only [er.2 hq, if_true]
            exact hn2
          · have : ¬ (strOfNums (rtrim p)).toList = (strOfNums p).toList := fun h => by rw [er.1 h] at hq; cases hq
            simp only [this, if_false, if_true]; exact Ev.now _
        · have : ¬ (ps.drop (i.toNat + 1) = [] ∧ isBl (rd p ((p.length : Int) - 1)) = true) := fun h => hlast (hnil.1 h.1)
          rw [if_neg this, listEnd_map]
          refine Ev.congr (fun k => if_neg hlast) hn2
      by_cases hi0 : i = 0
      · have hd0 : decide (i = 0) = true := decide_eq_true hi0
        rw [hd0]
        refine Ev.congr (fun k => if_pos hi0) ?_
        have hb := blank_ev ((strOfNums p).extract 0 1) (by rw [← bytesOf_length, first_str p hpB hpos]; simp)
        rw [first_str p hpB hpos] at hb
        have hb2 : decide (rtrim [rd p 0] = []) = isBl (rd p 0) := by
          have := rtrim_snoc [] (rd p 0)
          rw [List.nil_append] at this
          rw [this, rtrim_nil]
          cases isBl (rd p 0) <;> rfl
        rw [hb2] at hb
        refine Ev.bind hb ?_
        cases hq : isBl (rd p 0)
        · rw [if_neg (fun h => by cases h.2)]
          simp only [Bool.false_eq_true, if_false]
          exact key
        · rw [if_pos ⟨rfl, rfl⟩]
          simp only [if_true]; exact Ev.now _
      · have hd0 : decide (i = 0) = false := decide_eq_false hi0
        rw [hd0, if_neg (fun h => by cases h.1)]
        refine Ev.congr (fun k => if_neg hi0) key
theorem piecesQ_facts (s : ByteArray) (hs : s.size ≤ 10000) : (∀ p ∈ piecesQ false [] (bytesOf s), ∀ b ∈ p, isB b) ∧ (∀ p ∈ piecesQ false [] (bytesOf s), p.length ≤ 10000) ∧ (piecesQ false [] (bytesOf s)).length ≤ 10001 := by
  have h2 := piecesQ_size (bytesOf s) false []
  have h3 := piecesQ_len (bytesOf s) false []
  rw [bytesOf_length] at h3
  simp only [bytesOf_length, List.length_nil] at h2
  exact ⟨piecesQ_isB _ _ _ (bytesOf_isB s) (by simp), fun p hp => by have := h2 p hp; omega, by omega⟩
theorem elements_ev (s : ByteArray) (hs : s.size ≤ 10000) : Ev (fun k => cond_elements.f k s) (listEnd [] (lists2 true (piecesQ false [] (bytesOf s)))) := by
  obtain ⟨h1, h2, h3⟩ := piecesQ_facts s hs
  have h := elements_loop _ h1 (fun p hp => by have := h2 p hp; omega) (by omega) (piecesQ false [] (bytesOf s)).length 0 [] (by omega) (by omega) (by omega) (by simp)
  rw [decide_eq_true rfl, Int.toNat_zero, List.drop_zero] at h
  refine Ev.bind (parted_ev s (by omega)) ?_
  rw [List.length_map]
  exact h
end Go.Proofs.Ytahoibanpplhbaa.Pure
namespace Go.Proofs.Ytahoibanpplhbaa.Pure
open Go.RowKit Go.Proofs.Ytahoibanpplhbaa.PAll Go.Proofs.YtahoibanpplhbaaW.PrintWords Go.Proofs.YtahoibanpplhbaaW.PrintLast Go.Proofs.YtahoibanpplhbaaW.PrintMore
def may (b : Int) : Bool := b == 33 || (decide (b ≥ 35) && b != 127)
theorem may_eq (b : Int) : etag_may.f b = some (may b) := by
  unfold etag_may.f may
  by_cases h1 : b ≥ 128
  · have a1 : b ≥ 35 := by omega
    have a2 : b ≠ 127 := by omega
    rw [if_pos h1]; simp [a2]; omega
  · rw [if_neg h1]
    by_cases h2 : b = 33
    · rw [if_pos h2]; simp [h2]
    · rw [if_neg h2]
      by_cases h3 : b = 127
      · rw [if_pos h3, h3]; rfl
      · rw [if_neg h3]
        have e1 : (b == 33) = false := by simpa using h2
        have e2 : (b != 127) = true := by simpa using h3
        rw [e1, e2, Bool.false_or, Bool.and_true]
def plain (l : List Int) : Bool := l.all may
theorem plain_loop (s : ByteArray) (hs : s.size ≤ 9223372036854775806) (d : Nat) : ∀ i : Int, 0 ≤ i → i ≤ s.size → (s.size : Int) - i = d →
    Ev (fun k => etag_plain.l0 k s s.size i) (plain ((bytesOf s).drop i.toNat)) := by
  induction d with
  | zero =>
    intro i h0 h1 hd
    refine Ev.pos (fun k => ?_)
    simp only [etag_plain.l0]
    rw [if_neg (by omega), List.drop_of_length_le (by rw [bytesOf_length]; omega)]
    rfl
  | succ d ih =>
    intro i h0 h1 hd
    have hi : i < s.size := by omega
    rw [bytes_drop s i h0 hi, plain, List.all_cons]
    by_cases hb : may (bt s i) = true
    · rw [hb, Bool.true_and]
      refine Ev.step (fun k => ?_) (ih (i + 1) (by omega) (by omega) (by omega))
      simp only [etag_plain.l0, may_eq, Option.bind_some]
      rw [if_pos hi, if_pos h0, if_pos hi, if_pos hb, wrap_id (by omega)]
    · refine Ev.pos (fun k => ?_)
      simp only [etag_plain.l0, may_eq, Option.bind_some]
      rw [if_pos hi, if_pos h0, if_pos hi, if_neg hb]
      simp [hb]
theorem plain_ev (s : ByteArray) (hs : s.size ≤ 9223372036854775806) : Ev (fun k => etag_plain.f k s) (plain (bytesOf s)) := by
  have := plain_loop s hs s.size 0 (by omega) (by omega) (by omega)
  rw [Int.toNat_zero, List.drop_zero] at this
  exact this
theorem ref_plain_loop (s : ByteArray) (hs : s.size ≤ 9223372036854775806) (d : Nat) : ∀ i : Int, 0 ≤ i → i ≤ s.size → (s.size : Int) - i = d →
    Ev (fun k => spenceref04_Tag.l0 k s i) (plain ((bytesOf s).drop i.toNat)) := by
  induction d with
  | zero =>
    intro i h0 h1 hd
    refine Ev.pos (fun k => ?_)
    simp only [spenceref04_Tag.l0]
    rw [if_neg (by omega), List.drop_of_length_le (by rw [bytesOf_length]; omega)]
    rfl
  | succ d ih =>
    intro i h0 h1 hd
    have hi : i < s.size := by omega
    rw [bytes_drop s i h0 hi, plain, List.all_cons]
    have hn := ih (i + 1) (by omega) (by omega) (by omega)
    by_cases h1 : bt s i = 33
    · have e : may (bt s i) = true := by rw [h1]; rfl
      rw [e, Bool.true_and]
      refine Ev.step (fun k => ?_) hn
      simp only [spenceref04_Tag.l0]
      rw [if_pos hi, if_pos h0, if_pos h1, wrap_id (by omega)]
    · by_cases h2 : bt s i < 35
      · have e : may (bt s i) = false := by simp [may, h1]; intro h; omega
        refine Ev.pos (fun k => ?_)
        simp only [spenceref04_Tag.l0]
        rw [if_pos hi, if_pos h0, if_neg h1, if_pos h2, e]; rfl
      · by_cases h3 : bt s i = 127
        · have e : may (bt s i) = false := by rw [h3]; rfl
          refine Ev.pos (fun k => ?_)
          simp only [spenceref04_Tag.l0]
          rw [if_pos hi, if_pos h0, if_neg h1, if_neg h2, if_pos h3, e]; rfl
        · have e : may (bt s i) = true := by
            have : bt s i ≥ 35 := by omega
            simp [may, h3, this]
          rw [e, Bool.true_and]
          refine Ev.step (fun k => ?_) hn
          simp only [spenceref04_Tag.l0]
          rw [if_pos hi, if_pos h0, if_neg h1, if_neg h2, if_neg h3, wrap_id (by omega)]
theorem ref_plain_ev (s : ByteArray) (hs : s.size ≤ 9223372036854775806) : Ev (fun k => spenceref04_Tag.f k s) (plain (bytesOf s)) := by
  have := ref_plain_loop s hs s.size 0 (by omega) (by omega) (by omega)
  rw [Int.toNat_zero, List.drop_zero] at this
  exact this
theorem right_of (w : Bool) (s : ByteArray) (hs : s.size ≤ 9223372036854775806) : Ev (fun k => etag_Right.f k w s) (plain (bytesOf s) && decide (s.size ≤ 40)) := by
  refine Ev.bind (f := fun _ t => if t = true then some (decide ((s.size : Int) ≤ 40)) else some false) (plain_ev s hs) (Ev.all fun k => ?_)
  cases plain (bytesOf s)
  · rfl
  · simp; omega
/-- what stands between the marks -/
def inner (l : List Int) : List Int := (l.take (l.length - 1)).drop 1
/-- of the bytes behind the mark for weak: whether they are a validator -/
def isTag (l : List Int) : Bool := decide (2 ≤ l.length) && (rd l 0 == 34) && (rd l ((l.length : Int) - 1) == 34) && plain (inner l)
def weakOf (l : List Int) : Bool := decide (2 ≤ l.length) && (rd l 0 == 87) && (rd l 1 == 47)
def restOf (l : List Int) : List Int := if weakOf l then l.drop 2 else l
def tagOf (l : List Int) : Bool × ByteArray × Int :=
  if isTag (restOf l) then (if (restOf l).length > 42 then (false, strOfNums [], 10) else (weakOf l, strOfNums (inner (restOf l)), 0)) else (false, strOfNums [], 3)
theorem emp_str : (⟨#[]⟩ : ByteArray) = strOfNums [] := rfl
theorem prefix2 (s : ByteArray) : strings_CutPrefix.f s (⟨#[87, 47]⟩ : ByteArray) = some (if weakOf (bytesOf s) then (s.extract 2 s.size, true) else (s, false)) := by
  have hz : (⟨#[87, 47]⟩ : ByteArray).size = 2 := rfl
  have hp : stringslite_HasPrefix.f s (⟨#[87, 47]⟩ : ByteArray) = some (weakOf (bytesOf s)) := by
    unfold stringslite_HasPrefix.f weakOf
    rw [hz, bytesOf_length]
    by_cases h : 2 ≤ s.size
    · rw [if_pos (by omega), if_pos (by omega), if_pos (by omega), decide_eq_true h]
      rw [toList_beq, bytesOf_extract, rd_bytesOf, rd_bytesOf]
      have h1 := bytes_take s 0 (by omega) (by omega)
      have h2 := bytes_take s 1 (by omega) (by omega)
      have e0 : ((0 : Int) + 1).toNat = 1 := rfl
      have e1 : ((1 : Int) + 1).toNat = 2 := rfl
      have e2 : ((2 : Nat) : Int).toNat = 2 := rfl
      rw [e0] at h1; rw [e1] at h2
      have e3 : (1 : Int).toNat = 1 := rfl
      rw [e3, h1] at h2
      rw [e2, h2]
      have e4 : bytesOf (⟨#[87, 47]⟩ : ByteArray) = [87, 47] := rfl
      rw [e4]
      by_cases a : bt s 0 = 87 <;> by_cases b : bt s 1 = 47 <;> simp [a, b]
    · rw [if_neg (by omega), decide_eq_false h]; rfl
  unfold strings_CutPrefix.f stringslite_CutPrefix.f
  rw [hp, hz]
  by_cases h : weakOf (bytesOf s) = true
  · have h2 : 2 ≤ s.size := by
      have : weakOf (bytesOf s) = true := h
      unfold weakOf at this
      simp only [Bool.and_eq_true, decide_eq_true_eq, bytesOf_length] at this
      exact this.1.1
    simp only [Option.bind_some]
    rw [if_pos h, if_pos h, if_pos (by omega), if_pos (by omega)]
    rfl
  · simp only [Option.bind_some]
    rw [if_neg h, if_neg h]; rfl
theorem inner_str (s : ByteArray) : s.extract 1 ((s.size : Int) - 1).toNat = strOfNums (inner (bytesOf s)) := by
  rw [ext_str, inner, bytesOf_length]
  congr 3; omega
theorem inner_isB (s : ByteArray) : ∀ b ∈ inner (bytesOf s), isB b := fun b hb => bytesOf_isB s b (List.mem_of_mem_take (List.mem_of_mem_drop hb))
theorem inner_len (l : List Int) : (inner l).length = l.length - 2 := by unfold inner; rw [List.length_drop, List.length_take]; omega
def tagEnd (s : ByteArray) (w : Bool) : Bool × ByteArray × Int :=
  if isTag (bytesOf s) then (if s.size > 42 then (false, strOfNums [], 10) else (w, strOfNums (inner (bytesOf s)), 0)) else (false, strOfNums [], 3)
theorem parse_no (s : ByteArray) (w : Bool) (h : isTag (bytesOf s) = false) : Ev (fun k => etag_Parse.j0 k s w true) (tagEnd s w) := by
  refine Ev.pos (fun k => ?_)
  simp only [etag_Parse.j0]
  rw [if_pos trivial, tagEnd, h]; rfl
theorem parse_yes (s : ByteArray) (hs : s.size ≤ 9223372036854775806) (w : Bool) (h2 : 2 ≤ s.size) (ha : bt s 0 = 34) (hb : bt s ((s.size : Int) - 1) = 34) : Ev (fun k => etag_Parse.j0 k s w false) (tagEnd s w) := by
  have hw : wrap64 ((s.size : Int) - 1) = (s.size : Int) - 1 := wrap_id (by omega)
  have hit : isTag (bytesOf s) = plain (inner (bytesOf s)) := by
    unfold isTag
    rw [bytesOf_length, rd_bytesOf, rd_bytesOf, ha, hb, decide_eq_true h2]; simp
  have hil := inner_len (bytesOf s)
  rw [bytesOf_length] at hil
  refine Ev.succ ?_
  simp only [etag_Parse.j0, hw, inner_str]
  simp only [show (1 : Int) ≤ (s.size : Int) - 1 by omega, show (s.size : Int) - 1 ≤ (s.size : Int) by omega, if_true]
  have hp := plain_ev (strOfNums (inner (bytesOf s))) (by rw [size_str]; omega)
  have hr := right_of w (strOfNums (inner (bytesOf s))) (by rw [size_str]; omega)
  rw [bytesOf_str _ (inner_isB s)] at hp hr
  rw [size_str] at hr
  refine Ev.bind hp ?_
  by_cases hq : plain (inner (bytesOf s)) = true
  · simp only [hq, if_true]
    refine Ev.bind hr ?_
    rw [hq, Bool.true_and, tagEnd, hit, hq, if_pos rfl]
    by_cases hz : s.size > 42
    · rw [if_pos hz, decide_eq_false (by omega)]; exact Ev.all (fun k => rfl)
    · rw [if_neg hz, decide_eq_true (by omega)]; exact Ev.all (fun k => rfl)
  · have hq' : plain (inner (bytesOf s)) = false := by simpa using hq
    rw [tagEnd, hit, hq']
    exact Ev.all (fun k => rfl)
theorem isTag_no (s : ByteArray) (h : ¬ (2 ≤ s.size ∧ bt s 0 = 34 ∧ bt s ((s.size : Int) - 1) = 34)) : isTag (bytesOf s) = false := by
  unfold isTag
  rw [bytesOf_length, rd_bytesOf, rd_bytesOf]
  by_cases a : 2 ≤ s.size
  · by_cases b : bt s 0 = 34
    · have c : ¬ bt s ((s.size : Int) - 1) = 34 := fun c => h ⟨a, b, c⟩
      simp [c]
    · simp [b]
  · simp [a]
theorem rest_str (s : ByteArray) : bytesOf (s.extract 2 s.size) = (bytesOf s).drop 2 := by rw [bytesOf_extract, take_size]
theorem tagOf_end (s : ByteArray) : tagOf (bytesOf s) = tagEnd (if weakOf (bytesOf s) then s.extract 2 s.size else s) (weakOf (bytesOf s)) := by
  unfold tagOf tagEnd restOf
  by_cases h : weakOf (bytesOf s) = true
  · rw [if_pos h, if_pos h, ← rest_str s, bytesOf_length]
  · rw [if_neg h, if_neg h, bytesOf_length]
theorem etag_parse_ev (s : ByteArray) (hs : s.size ≤ 9223372036854775806) : Ev (fun k => etag_Parse.f k s) (tagOf (bytesOf s)) := by
  rw [tagOf_end]
  unfold etag_Parse.f
  rw [prefix2]
  simp only [Option.bind_some]
  generalize hx : (if weakOf (bytesOf s) = true then s.extract 2 s.size else s) = x
  have he : (if weakOf (bytesOf s) = true then (s.extract 2 s.size, true) else (s, false)) = (x, weakOf (bytesOf s)) := by
    rw [← hx]; by_cases h : weakOf (bytesOf s) = true
    · rw [if_pos h, if_pos h, h]
    · rw [if_neg h, if_neg h]; simp at h; rw [h]
  rw [he]
  have hxs : x.size ≤ 9223372036854775806 := by
    rw [← hx]; split
    · rw [ByteArray.size_extract]; omega
    · exact hs
  dsimp only
  by_cases h2 : (x.size : Int) < 2
  · simp only [h2, if_true]
    exact parse_no x _ (isTag_no x (by omega))
  have hw : wrap64 ((x.size : Int) - 1) = (x.size : Int) - 1 := wrap_id (by omega)
  simp only [h2, if_false, hw, show (0 : Int) < (x.size : Int) by omega, show (0 : Int) ≤ (x.size : Int) - 1 by omega, show (x.size : Int) - 1 < (x.size : Int) by omega, if_true]
  by_cases ha : bt x 0 = 34
  · simp only [ha, if_true]
    by_cases hb : bt x ((x.size : Int) - 1) = 34
    · rw [hb]; exact parse_yes x hxs _ (by omega) ha hb
    · have : (bt x ((x.size : Int) - 1) != 34) = true := by simpa using hb
      rw [this]; exact parse_no x _ (isTag_no x (fun h => hb h.2.2))
  · simp only [ha, if_false]
    exact parse_no x _ (isTag_no x (fun h => ha h.2.1))
def tagText (w : Bool) (l : List Int) : List Int := (if w then [87, 47] else []) ++ (34 :: l ++ [34])
theorem print_bytes (w : Bool) (s : ByteArray) : (if w = true then (⟨#[87, 47]⟩ : ByteArray) ++ (((⟨#[34]⟩ : ByteArray) ++ s) ++ (⟨#[34]⟩ : ByteArray)) else ((⟨#[34]⟩ : ByteArray) ++ s) ++ (⟨#[34]⟩ : ByteArray)) = strOfNums (tagText w (bytesOf s)) := by
  have hb : ∀ b ∈ tagText w (bytesOf s), isB b := by
    intro b hb
    unfold tagText at hb
    rcases List.mem_append.1 hb with h | h
    · cases w
      · simp at h
      · simp at h; unfold isB; omega
    · simp only [List.cons_append, List.mem_cons, List.mem_append, List.not_mem_nil, or_false] at h
      rcases h with h | h | h
      · unfold isB; omega
      · exact bytesOf_isB s b h
      · unfold isB; omega
  rw [← bytesOf_inj, bytesOf_str _ hb]
  cases w <;> simp [tagText, bytesOf_append] <;> rfl
theorem etag_print_eq (w : Bool) (s : ByteArray) (hs : s.size ≤ 9223372036854775800) : etag_Print.f w s = some (strOfNums (tagText w (bytesOf s))) := by
  unfold etag_Print.f
  rw [if_pos (by omega), if_pos (by omega), ← print_bytes]
  cases w
  · rfl
  · rw [if_pos rfl, if_pos (by omega), if_pos rfl]
theorem ref_etag_print_eq (w : Bool) (s : ByteArray) (hs : s.size ≤ 9223372036854775800) : spenceref04_PrintTag.f w s = some (strOfNums (tagText w (bytesOf s))) := by
  unfold spenceref04_PrintTag.f
  rw [if_pos (by omega), if_pos (by omega), ← print_bytes]
  cases w
  · rfl
  · rw [if_pos rfl, if_pos (by omega), if_pos rfl]
end Go.Proofs.Ytahoibanpplhbaa.Pure
namespace Go.Proofs.Ytahoibanpplhbaa.PAll
open Go.RowKit Go.Proofs.Ytahoibanpplhbaa.Xw Go.Proofs.YtahoibanpplhbaaW.PrintWords Go.Proofs.YtahoibanpplhbaaW.PrintLast Go.Proofs.YtahoibanpplhbaaW.PrintMore
attribute [local go_sem] max2_int min2_int max_two min_two max_three min_three max_four min_four   -- for this text's walks alone
set_option linter.unusedVariables false
set_option linter.unusedSimpArgs false
def spenceref04_Hits.l0 : Nat → ByteArray → Bool → Bool → List (S51) → Int → Int → Option (Bool)
  | 0, _, _, _, _, _, _ => none
  | k + 1, x1, x2, x7, x20, x21, x22 => if x22 < x21 then (if 0 ≤ x22 then (if x22 < (x20.length : Int) then (if x7 = true then (spenceref04_Hits.l0 k x1 x2 true x20 x21 (wrap64 (x22 + 1))) else (if ((rd_T51 x20 x22).f1).toList = x1.toList then (if x2 = true then (spenceref04_Hits.l0 k x1 x2 (!((rd_T51 x20 x22).f0)) x20 x21 (wrap64 (x22 + 1))) else (spenceref04_Hits.l0 k x1 x2 true x20 x21 (wrap64 (x22 + 1)))) else (spenceref04_Hits.l0 k x1 x2 false x20 x21 (wrap64 (x22 + 1))))) else (none)) else (none)) else (some x7)
def spenceref04_Hits.f (k : Nat) (a0 : ByteArray) (a1 : ByteArray) (a2 : Bool) : Option (Bool) := (spenceref04_Cond.f k a0).bind fun bt362 => (if bt362.2.2 = 0 then (spenceref04_Hits.l0 k a1 a2 bt362.1 bt362.2.1 (bt362.2.1.length : Int) 0) else (some false))
theorem spenceref04_Hits.mono_l : ∀ k, (∀ y0 y1 y2 y3 y4 y5, LeO (spenceref04_Hits.l0 k y0 y1 y2 y3 y4 y5) (spenceref04_Hits.l0 (k + 1) y0 y1 y2 y3 y4 y5))
  | 0 => fun _ _ _ _ _ _ r h => by simp [spenceref04_Hits.l0] at h
  | k + 1 => by
    have ih0 := spenceref04_Hits.mono_l k
    · intro y0 y1 y2 y3 y4 y5
      unfold spenceref04_Hits.l0
      repeat' first
      | (with_reducible exact ih0 _ _ _ _ _ _)
      | (with_reducible exact spenceref04_Cond.mono _ _)
      | (with_reducible exact LeO.refl _)
      | (with_reducible exact LeO.none _)
      | (with_reducible refine LeO.ite ?_ ?_)
      | (with_reducible refine LeO.bind ?_ (fun _ => ?_))
      | exact ih0 _ _ _ _ _ _
      | exact spenceref04_Cond.mono _ _
      | exact LeO.none _
      | refine LeO.ite ?_ ?_
      | refine LeO.bind ?_ (fun _ => ?_)
theorem spenceref04_Hits.mono : ∀ a0 a1 a2 k, LeO (spenceref04_Hits.f k a0 a1 a2) (spenceref04_Hits.f (k + 1) a0 a1 a2) := by
  intro a0 a1 a2 k
  have ih0 := spenceref04_Hits.mono_l k
  unfold spenceref04_Hits.f
  repeat' first
      | (with_reducible exact ih0 _ _ _ _ _ _)
      | (with_reducible exact spenceref04_Cond.mono _ _)
      | (with_reducible exact LeO.refl _)
      | (with_reducible exact LeO.none _)
      | (with_reducible refine LeO.ite ?_ ?_)
      | (with_reducible refine LeO.bind ?_ (fun _ => ?_))
      | exact ih0 _ _ _ _ _ _
      | exact spenceref04_Cond.mono _ _
      | exact LeO.none _
      | refine LeO.ite ?_ ?_
      | refine LeO.bind ?_ (fun _ => ?_)
def cond_Status.f (k : Nat) (a0 : ByteArray) (a1 : ByteArray) (a2 : ByteArray) : Option (Int) := (cond_Match.f k a0 a2).bind fun t369 => (if t369 = true then ((cond_None.f k a1 a2).bind fun t370 => (if t370 = true then (some 304) else (some 200))) else (some 412))
theorem cond_Status.mono : ∀ a0 a1 a2 k, LeO (cond_Status.f k a0 a1 a2) (cond_Status.f (k + 1) a0 a1 a2) := by
  intro a0 a1 a2 k
  unfold cond_Status.f
  repeat' first
      | (with_reducible exact cond_Match.mono _ _ _)
      | (with_reducible exact cond_None.mono _ _ _)
      | (with_reducible exact LeO.refl _)
      | (with_reducible exact LeO.none _)
      | (with_reducible refine LeO.ite ?_ ?_)
      | (with_reducible refine LeO.bind ?_ (fun _ => ?_))
      | exact cond_Match.mono _ _ _
      | exact cond_None.mono _ _ _
      | exact LeO.none _
      | refine LeO.ite ?_ ?_
      | refine LeO.bind ?_ (fun _ => ?_)
end Go.Proofs.Ytahoibanpplhbaa.PAll
namespace Go.Proofs.Ytahoibanpplhbaa.Pure
open Go.RowKit Go.Proofs.Ytahoibanpplhbaa.Xw Go.Proofs.Ytahoibanpplhbaa.PAll Go.Proofs.YtahoibanpplhbaaW.PrintWords Go.Proofs.YtahoibanpplhbaaW.PrintLast Go.Proofs.YtahoibanpplhbaaW.PrintMore
abbrev TagS := S51
def tagsP (out : List TagS) : List (List Int) → List TagS × Int
  | [] => (out, 0)
  | t :: ts => if (tagOf t).2.2 = 0 then tagsP (out ++ [⟨(tagOf t).1, (tagOf t).2.1⟩]) ts else ([], (tagOf t).2.2)
def condEnd (n : Nat) (r : List TagS × Int) : Bool × List TagS × Int := if r.2 = 0 then (if n > 16 then (false, [], 10) else (false, r.1, 0)) else (false, [], r.2)
def condL : Option (List (List Int)) → Bool × List TagS × Int
  | none => (false, [], 3)
  | some [] => (false, [], 3)
  | some (t :: ts) => condEnd (ts.length + 1) (tagsP [] (t :: ts))
def condOf (l : List Int) : Bool × List TagS × Int := if trim l = [42] then (true, [], 0) else condL (lists2 true (piecesQ false [] (trim l)))
theorem lists2_mem : ∀ (ps : List (List Int)) (first : Bool) (ts : List (List Int)), lists2 first ps = some ts → ∀ t ∈ ts, ∃ p ∈ ps, t = trim p
  | [], first, ts, h, t, ht => by rw [lists2_nil] at h; rw [← Option.some.inj h] at ht; cases ht
  | p :: r, first, ts, h, t, ht => by
    rw [lists2_cons] at h
    have ih := lists2_mem r false
    split at h
    · split at h
      · cases h
      · obtain ⟨q, hq, e⟩ := ih ts h t ht; exact ⟨q, List.mem_cons_of_mem _ hq, e⟩
    · split at h
      · cases h
      · split at h
        · cases h
        · obtain ⟨us, hu, rfl⟩ := Option.map_eq_some_iff.1 h
          rcases List.mem_cons.1 ht with h1 | h1
          · exact ⟨p, List.mem_cons_self, h1⟩
          · obtain ⟨q, hq, e⟩ := ih us hu t h1; exact ⟨q, List.mem_cons_of_mem _ hq, e⟩
theorem parse_tags (ts : List (List Int)) (hb : ∀ t ∈ ts, ∀ b ∈ t, isB b) (hz : ∀ t ∈ ts, t.length ≤ 10000) (hl : ts.length ≤ 10001) (d : Nat) : ∀ (i : Int) (out : List TagS), 0 ≤ i → i ≤ ts.length → (ts.length : Int) - i = d → out.length = i.toNat →
    Ev (fun k => cond_Parse.l0 k (ts.map strOfNums) (ts.map strOfNums) ts.length i false out) (condEnd ts.length (tagsP out (ts.drop i.toNat))) := by
  induction d with
  | zero =>
    intro i out h0 h1 hd ho
    have : ts.drop i.toNat = [] := List.drop_of_length_le (by omega)
    rw [this]
    refine Ev.pos (fun k => ?_)
    simp only [cond_Parse.l0, List.length_map]
    rw [if_neg (by omega), tagsP, condEnd, if_pos rfl]
    by_cases h : ts.length > 16
    · rw [if_pos h, if_pos (by omega)]
    · rw [if_neg h, if_neg (by omega)]
  | succ d ih =>
    intro i out h0 h1 hd ho
    have hi : i.toNat < ts.length := by omega
    have e1 : (i + 1).toNat = i.toNat + 1 := by omega
    have hrd : rdOf ByteArray.empty (ts.map strOfNums) i = strOfNums ts[i.toNat] := by simp [rdOf, hi]
    have hpB := hb ts[i.toNat] (List.getElem_mem hi)
    have hpz := hz ts[i.toNat] (List.getElem_mem hi)
    rw [List.drop_eq_getElem_cons hi, tagsP]
    generalize ts[i.toNat] = t at hrd hpB hpz
    have ht := etag_parse_ev (strOfNums t) (by rw [size_str]; omega)
    rw [bytesOf_str _ hpB] at ht
    refine Ev.succ ?_
    simp only [cond_Parse.l0, hrd, List.length_map, show i < (ts.length : Int) by omega, h0, if_true, wrap_id (x := i + 1) (by omega)]
    refine Ev.bind ht ?_
    by_cases hq : (tagOf t).2.2 = 0
    · rw [if_pos hq]
      simp only [hq, if_true, show out.length < 5864062014805 by omega]
      have := ih (i + 1) (out ++ [⟨(tagOf t).1, (tagOf t).2.1⟩]) (by omega) (by omega) (by omega) (by simp; omega)
      rw [e1] at this
      exact this
    · rw [if_neg hq]
      simp only [hq, if_false]
      rw [condEnd, if_neg hq]; exact Ev.now _
theorem star_trim (l : List Int) (hl : ∀ b ∈ l, isB b) : (strOfNums l).toList = ([42] : List UInt8) ↔ l = [42] := by
  have e : ([42] : List UInt8) = (strOfNums [42]).toList := by rw [ByteArray.toList_eq]; rfl
  rw [e, toList_bytes, bytesOf_str _ hl, bytesOf_str _ (by simp [isB])]
theorem tags_facts (l : List Int) (hl : ∀ b ∈ l, isB b) (hz : l.length ≤ 10000) (ts : List (List Int)) (h : lists2 true (piecesQ false [] l) = some ts) :
    (∀ t ∈ ts, ∀ b ∈ t, isB b) ∧ (∀ t ∈ ts, t.length ≤ 10000) ∧ ts.length ≤ 10001 := by
  have h1 := piecesQ_isB l false [] hl (by simp)
  have h2 := piecesQ_size l false []
  have h3 := piecesQ_len l false []
  have h4 := lists2_len _ _ _ h
  simp only [List.length_nil] at h2
  refine ⟨fun t ht b hb => ?_, fun t ht => ?_, by omega⟩
  · obtain ⟨p, hp, rfl⟩ := lists2_mem _ _ _ h t ht
    exact h1 p hp b (trim_mem hb)
  · obtain ⟨p, hp, rfl⟩ := lists2_mem _ _ _ h t ht
    have := h2 p hp
    have := trim_len p
    omega
theorem cond_parse_ev (s : ByteArray) (hs : s.size ≤ 10000) : Ev (fun k => cond_Parse.f k s) (condOf (bytesOf s)) := by
  have hl := trim_len (bytesOf s)
  rw [bytesOf_length] at hl
  have hB : ∀ b ∈ trim (bytesOf s), isB b := fun b hb => bytesOf_isB s b (trim_mem hb)
  refine Ev.bind (trim_ev s (by omega)) ?_
  unfold condOf
  by_cases h : trim (bytesOf s) = [42]
  · simp only [(star_trim _ hB).2 h, if_true]; rw [if_pos h]; exact Ev.now _
  have h' : ¬ (strOfNums (trim (bytesOf s))).toList = ([42] : List UInt8) := fun e => h ((star_trim _ hB).1 e)
  simp only [h', if_false]; rw [if_neg h]
  have he := elements_ev (strOfNums (trim (bytesOf s))) (by rw [size_str]; omega)
  rw [bytesOf_str _ hB] at he
  refine Ev.bind he ?_
  cases hx : lists2 true (piecesQ false [] (trim (bytesOf s))) with
  | none => simp only [listEnd, Bool.false_eq_true, if_false]; exact Ev.pos (fun k => by simp only [cond_Parse.j0, if_true]; rfl)
  | some ts =>
    obtain ⟨f1, f2, f3⟩ := tags_facts _ hB (by omega) ts hx
    simp only [listEnd, if_true, List.nil_append, List.length_map]
    cases ts with
    | nil => exact Ev.pos (fun k => by simp only [cond_Parse.j0]; rfl)
    | cons t ts =>
      rw [show (((t :: ts).length : Int) == 0) = false from beq_eq_false_iff_ne.mpr (by rw [List.length_cons]; omega)]
      have := parse_tags (t :: ts) f1 f2 f3 (t :: ts).length 0 [] (by omega) (by omega) (by omega) (by simp)
      rw [Int.toNat_zero, List.drop_zero] at this
      refine Ev.step (fun k => ?_) this
      simp only [cond_Parse.j0, Bool.false_eq_true, if_false, List.length_map]
theorem same_loop (l : List TagS) (hl : l.length ≤ 100000) (d : Nat) : ∀ i : Int, 0 ≤ i → i ≤ l.length → (l.length : Int) - i = d → Ev (fun k => spencelaw46_same.l0 k l l l.length i) true := by
  induction d with
  | zero => intro i h0 h1 hd; exact Ev.pos (fun k => by simp only [spencelaw46_same.l0]; rw [if_neg (by omega)])
  | succ d ih =>
    intro i h0 h1 hd
    refine Ev.step (fun k => ?_) (ih (i + 1) (by omega) (by omega) (by omega))
    simp only [spencelaw46_same.l0, beq_self_eq_true, Bool.not_true, Bool.or_self, Bool.false_eq_true, if_false]
    rw [if_pos (by omega), if_pos h0, if_pos (by omega), if_pos (by omega), wrap_id (by omega)]
theorem same_ev (l : List TagS) (hl : l.length ≤ 100000) : Ev (fun k => spencelaw46_same.f k l l) true := by
  unfold spencelaw46_same.f
  simp only [if_true]
  exact same_loop l hl l.length 0 (by omega) (by omega) (by omega)
def hitB (strong : Bool) (t : List Int) (x : TagS) : Bool := decide (bytesOf x.f1 = t) && (!strong || !x.f0)
def hitsOf (l t : List Int) (strong : Bool) : Bool := decide ((condOf l).2.2 = 0) && ((condOf l).1 || (condOf l).2.1.any (hitB strong t))
theorem anyO_some (p : TagS → Option Bool) (q : TagS → Bool) (h : ∀ x, p x = some (q x)) : ∀ l, anyO p l = some (l.any q)
  | [] => rfl
  | x :: l => by
    rw [anyO, h x, Option.bind_some, anyO_some p q h l, List.any_cons]
    cases q x <;> rfl
theorem hasO_strong (t : ByteArray) (x : TagS) : hasO 49 t x = some (hitB true (bytesOf t) x) := by
  unfold hasO hitB etag_Strong.f etag_Weak.f
  rw [if_pos rfl, toList_beq]
  cases x.f0 <;> simp
theorem hasO_weak (t : ByteArray) (x : TagS) : hasO 50 t x = some (hitB false (bytesOf t) x) := by
  unfold hasO hitB etag_Weak.f
  rw [if_neg (by decide), if_pos rfl, toList_beq]
  simp
theorem has_ev (s t : ByteArray) (hs : s.size ≤ 10000) (n : Nat) (strong : Bool) (h : ∀ x, hasO n t x = some (hitB strong (bytesOf t) x)) : Ev (fun k => cond_has.f k s t n) (hitsOf (bytesOf s) (bytesOf t) strong) := by
  refine Ev.bind (cond_parse_ev s hs) (Ev.all fun k => ?_)
  unfold hitsOf
  rw [anyO_some _ _ h]
  by_cases h1 : (condOf (bytesOf s)).2.2 = 0
  · rw [if_pos h1, decide_eq_true h1]
    cases (condOf (bytesOf s)).1 <;> simp
  · rw [if_neg h1, decide_eq_false h1]; rfl
theorem dw_nil (p : Int → Bool) : ∀ l : List Int, l.dropWhile p = [] ↔ l.all p = true
  | [] => by simp
  | x :: l => by
    rw [List.dropWhile_cons, List.all_cons]
    cases hx : p x
    · simp
    · simpa using dw_nil p l
theorem blank_all (l : List Int) : decide (rtrim l = []) = l.all isBl := by
  unfold rtrim
  rw [Bool.eq_iff_iff, decide_eq_true_iff, List.reverse_eq_nil_iff, dw_nil, List.all_reverse]
theorem match_ev (s t : ByteArray) (hs : s.size ≤ 10000) : Ev (fun k => cond_Match.f k s t) ((bytesOf s).all isBl || hitsOf (bytesOf s) (bytesOf t) true) := by
  have hb := blank_ev s (by omega)
  rw [blank_all] at hb
  refine Ev.bind hb ?_
  cases (bytesOf s).all isBl
  · simp only [Bool.false_eq_true, if_false, Bool.false_or]
    exact Ev.bind (has_ev s t hs _ true (hasO_strong t)) (Ev.now _)
  · simp only [if_true, Bool.true_or]; exact Ev.now _
theorem none_ev (s t : ByteArray) (hs : s.size ≤ 10000) : Ev (fun k => cond_None.f k s t) (!(bytesOf s).all isBl && hitsOf (bytesOf s) (bytesOf t) false) := by
  have hb := blank_ev s (by omega)
  rw [blank_all] at hb
  refine Ev.bind hb ?_
  cases (bytesOf s).all isBl
  · simp only [Bool.false_eq_true, if_false, Bool.not_false, Bool.true_and]
    exact Ev.bind (has_ev s t hs _ false (hasO_weak t)) (Ev.now _)
  · simp only [if_true, Bool.not_true, Bool.false_and]; exact Ev.now _
theorem awake46 : Ev (fun k => spencelaw46_awake.f k) true := by
  have h1 := none_ev (⟨#[42]⟩ : ByteArray) (⟨#[97]⟩ : ByteArray) (by decide)
  have h2 := match_ev (⟨#[34, 98, 34, 44, 32, 34, 97, 34]⟩ : ByteArray) (⟨#[97]⟩ : ByteArray) (by decide)
  have h3 := match_ev (⟨#[87, 47, 34, 97, 34]⟩ : ByteArray) (⟨#[97]⟩ : ByteArray) (by decide)
  have e1 : (!(bytesOf (⟨#[42]⟩ : ByteArray)).all isBl && hitsOf (bytesOf (⟨#[42]⟩ : ByteArray)) (bytesOf (⟨#[97]⟩ : ByteArray)) false) = true := by decide
  have e2 : ((bytesOf (⟨#[34, 98, 34, 44, 32, 34, 97, 34]⟩ : ByteArray)).all isBl || hitsOf (bytesOf (⟨#[34, 98, 34, 44, 32, 34, 97, 34]⟩ : ByteArray)) (bytesOf (⟨#[97]⟩ : ByteArray)) true) = true := by decide
  have e3 : ((bytesOf (⟨#[87, 47, 34, 97, 34]⟩ : ByteArray)).all isBl || hitsOf (bytesOf (⟨#[87, 47, 34, 97, 34]⟩ : ByteArray)) (bytesOf (⟨#[97]⟩ : ByteArray)) true) = false := by decide
  rw [e1] at h1
  rw [e2] at h2
  rw [e3] at h3
  refine Ev.bind h1 ?_
  simp only [if_true]
  refine Ev.bind h2 ?_
  simp only [if_true]
  exact Ev.bind h3 (Ev.now _)
end Go.Proofs.Ytahoibanpplhbaa.Pure
namespace Go.Proofs.Ytahoibanpplhbaa.Pure
open Go.RowKit Go.Proofs.Ytahoibanpplhbaa.PAll Go.Proofs.YtahoibanpplhbaaW.PrintWords Go.Proofs.YtahoibanpplhbaaW.PrintLast Go.Proofs.YtahoibanpplhbaaW.PrintMore
theorem inner_text (l : List Int) : inner (34 :: l ++ [34]) = l := by
  unfold inner
  have : (34 :: l ++ [34]).length - 1 = (34 :: l).length := by simp
  rw [this, List.take_left' rfl]; rfl
theorem rd_last (l : List Int) (a : Int) : rd (l ++ [a]) (((l ++ [a]).length : Int) - 1) = a := by
  rw [rd_eq _ _ (by simp) (by omega)]
  simp
theorem isTag_text (l : List Int) (h : plain l = true) : isTag (34 :: l ++ [34]) = true := by
  unfold isTag
  rw [inner_text, h, rd_last]
  have : 2 ≤ (34 :: l ++ [34]).length := by simp
  rw [decide_eq_true this]
  rfl
theorem rest_text (w : Bool) (l : List Int) : weakOf (tagText w l) = w ∧ restOf (tagText w l) = 34 :: l ++ [34] := by
  have h : weakOf (tagText w l) = w := by
    cases w
    · simp [weakOf, tagText, rd]
    · simp [weakOf, tagText, rd]
  refine ⟨h, ?_⟩
  unfold restOf
  rw [h]
  cases w <;> rfl
theorem tagOf_text (w : Bool) (l : List Int) (h : plain l = true) (hl : l.length ≤ 40) : tagOf (tagText w l) = (w, strOfNums l, 0) := by
  unfold tagOf
  rw [(rest_text w l).1, (rest_text w l).2, isTag_text l h, if_pos rfl, if_neg (by simp; omega), inner_text]
end Go.Proofs.Ytahoibanpplhbaa.Pure
namespace Go.Proofs.Ytahoibanpplhbaa.Pure
open Go.RowKit Go.Proofs.Ytahoibanpplhbaa.Xw Go.Proofs.Ytahoibanpplhbaa.PAll Go.Proofs.YtahoibanpplhbaaW.PrintWords Go.Proofs.YtahoibanpplhbaaW.PrintLast Go.Proofs.YtahoibanpplhbaaW.PrintMore
theorem pq_run (o : Bool) (rest : List Int) : ∀ (m cur : List Int), (∀ b ∈ m, b ≠ 34) → (o = true ∨ ∀ b ∈ m, b ≠ 44) → piecesQ o cur (m ++ rest) = piecesQ o (cur ++ m) rest
  | [], cur, _, _ => by simp
  | b :: m, cur, h, h2 => by
    have h34 : ¬ b = 34 := h b List.mem_cons_self
    have hm : ∀ x ∈ m, x ≠ 34 := fun x hx => h x (List.mem_cons_of_mem _ hx)
    have hm2 : o = true ∨ ∀ x ∈ m, x ≠ 44 := h2.imp id (fun g x hx => g x (List.mem_cons_of_mem _ hx))
    have ih := pq_run o rest m (cur ++ [b]) hm hm2
    rw [List.append_assoc, List.singleton_append] at ih
    rw [List.cons_append, piecesQ, if_neg h34, ih]
    by_cases hb : b = 44
    · rw [if_pos hb]
      rcases h2 with h2 | h2
      · rw [if_pos h2]
      · exact absurd hb (h2 b List.mem_cons_self)
    · rw [if_neg hb]
theorem plain_34 (l : List Int) (h : plain l = true) : ∀ b ∈ l, b ≠ 34 := by
  intro b hb e
  have := List.all_eq_true.1 h b hb
  subst e
  exact absurd this (by decide)
theorem pq_tag (w : Bool) (l cur rest : List Int) (h : plain l = true) : piecesQ false cur (tagText w l ++ rest) = piecesQ false (cur ++ tagText w l) rest := by
  have key : ∀ c, piecesQ false c ((34 :: l ++ [34]) ++ rest) = piecesQ false (c ++ (34 :: l ++ [34])) rest := by
    intro c
    have e1 : (34 :: l ++ [34]) ++ rest = 34 :: (l ++ (34 :: rest)) := by simp
    rw [e1, piecesQ, if_pos rfl, show (!false) = true from rfl, pq_run true _ l _ (plain_34 l h) (.inl rfl), piecesQ, if_pos rfl]
    simp
  unfold tagText
  cases w
  · simpa using key cur
  · rw [if_pos rfl, List.append_assoc, pq_run false _ [87, 47] cur (by simp) (.inr (by simp)), key, List.append_assoc]
def tx (x : TagS) : List Int := tagText x.f0 (bytesOf x.f1)
theorem pq_join : ∀ (ts : List TagS) (t : TagS) (cur : List Int), (∀ x ∈ t :: ts, plain (bytesOf x.f1) = true) → piecesQ false cur (joinI [44, 32] ((t :: ts).map tx)) = (cur ++ tx t) :: ts.map (fun x => 32 :: tx x)
  | [], t, cur, h => by
    have := pq_tag t.f0 (bytesOf t.f1) cur [] (h t List.mem_cons_self)
    rw [List.append_nil] at this
    simpa [joinI, tx, piecesQ] using this
  | u :: ts, t, cur, h => by
    have ih := pq_join ts u [32] (fun x hx => h x (List.mem_cons_of_mem _ hx))
    have h1 := pq_tag t.f0 (bytesOf t.f1) cur ([44, 32] ++ joinI [44, 32] ((u :: ts).map tx)) (h t List.mem_cons_self)
    have e : joinI [44, 32] ((t :: u :: ts).map tx) = tx t ++ ([44, 32] ++ joinI [44, 32] ((u :: ts).map tx)) := by
      simp [joinI]
    rw [e]
    unfold tx at h1 ih ⊢
    rw [h1, List.cons_append, piecesQ, if_neg (by decide), if_pos rfl, if_neg (by decide), List.singleton_append, piecesQ, if_neg (by decide), if_neg (by decide), List.nil_append, ih]
    rfl
theorem tx_ends (x : TagS) : ∃ q b r, tx x = q ++ [34] ∧ tx x = b :: r ∧ isBl b = false := by
  unfold tx tagText
  cases x.f0
  · exact ⟨34 :: bytesOf x.f1, 34, bytesOf x.f1 ++ [34], by simp, by simp, by decide⟩
  · exact ⟨[87, 47] ++ 34 :: bytesOf x.f1, 87, 47 :: 34 :: bytesOf x.f1 ++ [34], by simp, by simp, by decide⟩
theorem tx_trim (x : TagS) : trim (tx x) = tx x ∧ trim (32 :: tx x) = tx x ∧ isBl (rd (tx x) 0) = false ∧ isBl (rd (tx x) (((tx x).length : Int) - 1)) = false ∧ isBl (rd (32 :: tx x) (((32 :: tx x).length : Int) - 1)) = false ∧ tx x ≠ [] := by
  obtain ⟨q, b, r, h1, h2, h3⟩ := tx_ends x
  have hl : ltrim (tx x) = tx x := by rw [h2, ltrim_cons, if_neg (by rw [h3]; decide)]
  have hr : rtrim (tx x) = tx x := by rw [h1, rtrim_snoc, if_neg (by decide)]
  have hr2 : rtrim (32 :: tx x) = 32 :: tx x := by rw [h1, ← List.cons_append, rtrim_snoc, if_neg (by decide)]
  refine ⟨by unfold trim; rw [hr, hl], by unfold trim; rw [hr2, ltrim_cons, if_pos (by decide), hl], ?_, ?_, ?_, by rw [h2]; simp⟩
  · rw [h2]; exact h3
  · rw [h1, rd_last]; decide
  · rw [h1, ← List.cons_append, rd_last]; decide
theorem l2_rest : ∀ ts : List TagS, lists2 false (ts.map fun x => 32 :: tx x) = some (ts.map tx)
  | [] => rfl
  | x :: ts => by
    obtain ⟨-, e2, -, -, e5, e6⟩ := tx_trim x
    rw [List.map_cons, lists2_cons, e2, if_neg e6, if_neg (fun h => by cases h.1), if_neg (fun h => by rw [e5] at h; cases h.2), l2_rest ts]
    rfl
theorem l2_all (t : TagS) (ts : List TagS) : lists2 true (tx t :: ts.map fun x => 32 :: tx x) = some ((t :: ts).map tx) := by
  obtain ⟨e1, -, e3, e4, -, e6⟩ := tx_trim t
  rw [lists2_cons, e1, if_neg e6, if_neg (fun h => by rw [e3] at h; cases h.2), if_neg (fun h => by rw [e4] at h; cases h.2), l2_rest ts]
  rfl
def okT (x : TagS) : Bool := plain (bytesOf x.f1) && decide (x.f1.size ≤ 40)
theorem tags_back : ∀ (ts out : List TagS), (∀ x ∈ ts, okT x = true) → tagsP out (ts.map tx) = (out ++ ts, 0)
  | [], out, _ => by simp [tagsP]
  | x :: ts, out, h => by
    have hx := h x List.mem_cons_self
    unfold okT at hx
    rw [Bool.and_eq_true] at hx
    have ht := tagOf_text x.f0 (bytesOf x.f1) hx.1 (by rw [bytesOf_length]; exact of_decide_eq_true hx.2)
    have ih := tags_back ts (out ++ [x]) (fun y hy => h y (List.mem_cons_of_mem _ hy))
    rw [List.map_cons, tagsP]
    unfold tx at ih ⊢
    rw [ht, if_pos rfl]
    dsimp only
    rw [str_bytes]
    have : (⟨x.f0, x.f1⟩ : TagS) = x := rfl
    rw [this, ih]; simp
theorem join_ends (t : TagS) : ∀ ts : List TagS, ∃ q, joinI [44, 32] ((t :: ts).map tx) = q ++ [34]
  | [] => by obtain ⟨q, b, r, h1, -, -⟩ := tx_ends t; exact ⟨q, by simpa [joinI] using h1⟩
  | u :: ts => by
    obtain ⟨q, hq⟩ := join_ends u ts
    refine ⟨tx t ++ [44, 32] ++ q, ?_⟩
    have e : joinI [44, 32] ((t :: u :: ts).map tx) = tx t ++ [44, 32] ++ joinI [44, 32] ((u :: ts).map tx) := by simp [joinI]
    rw [e, hq]; simp
theorem join_head (t : TagS) (ts : List TagS) : ∃ b r, joinI [44, 32] ((t :: ts).map tx) = b :: r ∧ isBl b = false ∧ b ≠ 42 := by
  have h : ∃ b r, tx t = b :: r ∧ isBl b = false ∧ b ≠ 42 := by
    unfold tx tagText
    cases t.f0
    · exact ⟨34, bytesOf t.f1 ++ [34], by simp, by decide, by decide⟩
    · exact ⟨87, 47 :: 34 :: bytesOf t.f1 ++ [34], by simp, by decide, by decide⟩
  obtain ⟨b, r, h2, h3, h4⟩ := h
  cases ts with
  | nil => exact ⟨b, r, by simpa [joinI] using h2, h3, h4⟩
  | cons u ts => exact ⟨b, r ++ ([44, 32] ++ joinI [44, 32] ((u :: ts).map tx)), by simp [joinI, h2], h3, h4⟩
theorem cond_back (t : TagS) (ts : List TagS) (h : ∀ x ∈ t :: ts, okT x = true) (hn : (t :: ts).length ≤ 16) : condOf (joinI [44, 32] ((t :: ts).map tx)) = (false, t :: ts, 0) := by
  obtain ⟨q, hq⟩ := join_ends t ts
  obtain ⟨b, r, h1, h2, h3⟩ := join_head t ts
  have hr : rtrim (joinI [44, 32] ((t :: ts).map tx)) = joinI [44, 32] ((t :: ts).map tx) := by rw [hq, rtrim_snoc, if_neg (by decide)]
  have hl : ltrim (joinI [44, 32] ((t :: ts).map tx)) = joinI [44, 32] ((t :: ts).map tx) := by rw [h1, ltrim_cons, if_neg (by rw [h2]; decide)]
  have ht : trim (joinI [44, 32] ((t :: ts).map tx)) = joinI [44, 32] ((t :: ts).map tx) := by unfold trim; rw [hr, hl]
  have hp : ∀ x ∈ t :: ts, plain (bytesOf x.f1) = true := fun x hx => by have := h x hx; unfold okT at this; rw [Bool.and_eq_true] at this; exact this.1
  unfold condOf
  rw [ht, if_neg (by rw [h1]; intro e; exact h3 (List.cons.inj e).1), pq_join ts t [] hp, List.nil_append, l2_all, List.map_cons, condL, ← List.map_cons, tags_back (t :: ts) [] h, List.nil_append, condEnd, if_pos rfl, List.length_map, if_neg (by rw [List.length_cons] at hn; omega)]
theorem any_not (l : List TagS) : l.any (fun x => !okT x) = !l.all okT := by rw [List.not_all_eq_any_not]
theorem cont_ev (l : List TagS) (hl : ∀ x ∈ l, x.f1.size ≤ 1000) : Ev (fun k => anyO (fun x : TagS => (etag_Right.f k x.f0 x.f1).bind fun b => some (!b)) l) (l.any fun x => !okT x) := by
  induction l with
  | nil => exact Ev.now _
  | cons x l ih =>
    have hx := hl x List.mem_cons_self
    have h1 : Ev (fun k => (etag_Right.f k x.f0 x.f1).bind fun b => some (!b)) (!okT x) := Ev.bind (right_of x.f0 x.f1 (by omega)) (Ev.now _)
    refine Ev.bind h1 ?_
    rw [List.any_cons]
    cases okT x
    · simp only [Bool.not_false, if_true, Bool.true_or]; exact Ev.now _
    · simp only [Bool.not_true, Bool.false_eq_true, if_false, Bool.false_or]
      exact ih (fun y hy => hl y (List.mem_cons_of_mem _ hy))
def rightL (any : Bool) (l : List TagS) : Bool := if any then decide (l.length = 0) else (decide (0 < l.length ∧ l.length ≤ 16) && l.all okT)
theorem right_l_ev (any : Bool) (l : List TagS) (hl : ∀ x ∈ l, x.f1.size ≤ 1000) : Ev (fun k => cond_Right.f k any l) (rightL any l) := by
  unfold cond_Right.f rightL
  cases any with
  | true =>
    simp only [if_true]
    have : ((l.length : Int) == 0) = decide (l.length = 0) := by rw [Bool.eq_iff_iff]; simp
    rw [this]; exact Ev.now _
  | false =>
    simp only [Bool.false_eq_true, if_false]
    by_cases h0 : (l.length : Int) = 0
    · simp only [h0, if_true]
      rw [decide_eq_false (by omega), Bool.false_and]; exact Ev.now _
    simp only [h0, if_false]
    by_cases h1 : (l.length : Int) > 16
    · simp only [h1, if_true]
      rw [decide_eq_false (by omega), Bool.false_and]; exact Ev.now _
    simp only [h1, if_false]
    rw [decide_eq_true (by omega), Bool.true_and]
    have hc := cont_ev l hl
    rw [any_not] at hc
    refine Ev.bind (a := !l.all okT) ?_ ?_
    · refine Ev.congr (fun k => ?_) hc
      unfold api_ETag_51.f
      rw [if_pos rfl]
    · rw [Bool.not_not]; exact Ev.now _
theorem tx_len (x : TagS) : (tx x).length ≤ x.f1.size + 4 := by
  unfold tx tagText
  rw [← bytesOf_length]
  cases x.f0 <;> simp
theorem tx_isB (x : TagS) : ∀ b ∈ tx x, isB b := by
  intro b hb
  unfold tx tagText at hb
  rcases List.mem_append.1 hb with h | h
  · split at h
    · simp at h; unfold isB; omega
    · simp at h
  · simp only [List.cons_append, List.mem_cons, List.mem_append, List.not_mem_nil, or_false] at h
    rcases h with h | h | h
    · unfold isB; omega
    · exact bytesOf_isB _ b h
    · unfold isB; omega
theorem join_isB : ∀ l : List TagS, ∀ b ∈ joinI [44, 32] (l.map tx), isB b
  | [], b, hb => by simp [joinI] at hb
  | [x], b, hb => by simp [joinI] at hb; exact tx_isB x b hb
  | x :: y :: r, b, hb => by
    have e : joinI [44, 32] ((x :: y :: r).map tx) = tx x ++ [44, 32] ++ joinI [44, 32] ((y :: r).map tx) := by simp [joinI]
    rw [e] at hb
    rcases List.mem_append.1 hb with h | h
    · rcases List.mem_append.1 h with h | h
      · exact tx_isB x b h
      · simp at h; unfold isB; omega
    · exact join_isB (y :: r) b h
theorem join_len : ∀ l : List TagS, (∀ x ∈ l, x.f1.size ≤ 100) → (joinI [44, 32] (l.map tx)).length ≤ 106 * l.length
  | [], _ => by simp [joinI]
  | [x], h => by have := tx_len x; have := h x List.mem_cons_self; simp [joinI]; omega
  | x :: y :: r, h => by
    have e : joinI [44, 32] ((x :: y :: r).map tx) = tx x ++ [44, 32] ++ joinI [44, 32] ((y :: r).map tx) := by simp [joinI]
    have ih := join_len (y :: r) (fun z hz => h z (List.mem_cons_of_mem _ hz))
    have := tx_len x
    have := h x List.mem_cons_self
    rw [e, List.length_append, List.length_append]
    simp only [List.length_cons, List.length_nil] at *
    omega
theorem join_snoc (x : TagS) : ∀ l : List TagS, l ≠ [] → joinI [44, 32] ((l ++ [x]).map tx) = joinI [44, 32] (l.map tx) ++ [44, 32] ++ tx x
  | [], h => absurd rfl h
  | [y], _ => by simp [joinI]
  | y :: z :: r, _ => by
    have ih := join_snoc x (z :: r) (by simp)
    have e : joinI [44, 32] ((y :: z :: r ++ [x]).map tx) = tx y ++ [44, 32] ++ joinI [44, 32] ((z :: r ++ [x]).map tx) := by simp [joinI]
    have e2 : joinI [44, 32] ((y :: z :: r).map tx) = tx y ++ [44, 32] ++ joinI [44, 32] ((z :: r).map tx) := by simp [joinI]
    rw [e, ih, e2]; simp
theorem sep_bytes : bytesOf (⟨#[44, 32]⟩ : ByteArray) = [44, 32] := rfl
theorem sep_str : (⟨#[44, 32]⟩ : ByteArray) = strOfNums [44, 32] := by decide
theorem cprint_loop (l : List TagS) (hl : ∀ x ∈ l, x.f1.size ≤ 100) (hn : l.length ≤ 30) (d : Nat) : ∀ i : Int, 0 ≤ i → i ≤ l.length → (l.length : Int) - i = d →
    Ev (fun k => cond_Print.l0 k ((l.take i.toNat).map fun x => strOfNums (tx x)) l l.length i) (strOfNums (joinI [44, 32] (l.map tx))) := by
  induction d with
  | zero =>
    intro i h0 h1 hd
    refine Ev.pos (fun k => ?_)
    simp only [cond_Print.l0]
    rw [if_neg (by omega), List.take_of_length_le (by omega)]
    unfold strings_Join.f
    have e : (l.map fun x => strOfNums (tx x)).map bytesOf = l.map tx := by
      rw [List.map_map]
      apply List.map_congr_left
      intro x _
      exact bytesOf_str _ (tx_isB x)
    have hj := join_len l hl
    rw [List.length_map, e, sep_bytes, if_pos (by omega), if_pos (by omega)]; rfl
  | succ d ih =>
    intro i h0 h1 hd
    have hi : i.toNat < l.length := by omega
    have e1 : (i + 1).toNat = i.toNat + 1 := by omega
    have hrd : rd_T51 l i = l[i.toNat] := by
      unfold rd_T51
      rw [List.getD_eq_getElem?_getD, List.getElem?_eq_getElem hi]; rfl
    have hz := hl l[i.toNat] (List.getElem_mem hi)
    have hnx := ih (i + 1) (by omega) (by omega) (by omega)
    rw [e1, List.take_succ_eq_append_getElem hi, List.map_append, List.map_cons, List.map_nil] at hnx
    refine Ev.step (fun k => ?_) hnx
    simp only [cond_Print.l0]
    rw [if_pos (by omega), if_pos h0, if_pos (by omega), hrd, etag_print_eq _ _ (by omega), Option.bind_some, if_pos (by rw [List.length_map, List.length_take]; omega), wrap_id (by omega)]
    rfl
def condText (any : Bool) (l : List TagS) : List Int := if any then [42] else joinI [44, 32] (l.map tx)
theorem cprint_ev (any : Bool) (l : List TagS) (hl : ∀ x ∈ l, x.f1.size ≤ 100) (hn : l.length ≤ 30) : Ev (fun k => cond_Print.f k any l) (strOfNums (condText any l)) := by
  unfold cond_Print.f condText
  cases any with
  | true => simp only [if_true]; rw [show (⟨#[42]⟩ : ByteArray) = strOfNums [42] by decide]; exact Ev.now _
  | false =>
    simp only [Bool.false_eq_true, if_false]
    have := cprint_loop l hl hn l.length 0 (by omega) (by omega) (by omega)
    rwa [Int.toNat_zero, List.take_zero, List.map_nil] at this
theorem text_isB (any : Bool) (l : List TagS) : ∀ b ∈ condText any l, isB b := by
  unfold condText
  cases any
  · exact join_isB l
  · simp [isB]
theorem back_end (any : Bool) (l : List TagS) (hl : ∀ x ∈ l, x.f1.size ≤ 100) (hn : l.length ≤ 30) : Ev (fun k => spencelaw46_CondBack.j2 k (rightL any l) (strOfNums (condText any l)) any l) true := by
  refine Ev.succ ?_
  simp only [spencelaw46_CondBack.j2]
  refine Ev.bind (right_l_ev any l (fun x hx => by have := hl x hx; omega)) ?_
  simp only [bne_self_eq_false, Bool.false_eq_true, if_false]
  refine Ev.bind (cprint_ev any l hl hn) ?_
  simp only [bne_self_eq_false]
  refine Ev.succ ?_
  simp only [spencelaw46_CondBack.j3, Bool.false_eq_true, if_false]
  have hj := join_len l hl
  have hz : (condText any l).length ≤ 10000 := by unfold condText; cases any <;> simp; omega
  have hp := cond_parse_ev (strOfNums (condText any l)) (by rw [size_str]; exact hz)
  rw [bytesOf_str _ (text_isB any l)] at hp
  refine Ev.bind hp ?_
  cases hr : rightL any l
  · simp only [Bool.false_eq_true, if_false]; exact Ev.now _
  simp only [if_true]
  have e : condOf (condText any l) = (any, l, 0) := by
    unfold rightL at hr
    unfold condText
    cases any with
    | true =>
      rw [if_pos rfl] at hr ⊢
      have : l = [] := List.eq_nil_of_length_eq_zero (of_decide_eq_true hr)
      subst this; unfold condOf; rw [if_pos (by decide)]
    | false =>
      rw [if_neg (by decide)] at hr ⊢
      rw [Bool.and_eq_true] at hr
      have hn2 := of_decide_eq_true hr.1
      cases l with
      | nil => exact absurd hn2.1 (by simp)
      | cons t ts => exact cond_back t ts (fun x hx => List.all_eq_true.1 hr.2 x hx) hn2.2
  rw [e]
  simp only [if_true, beq_self_eq_true]
  exact Ev.bind (same_ev l (by omega)) (Ev.now _)
theorem back_loop (any : Bool) (r0 : Bool) (l : List TagS) (hn : l.length ≤ 30) (hr : (r0 && l.all okT) = rightL any l) (d : Nat) : ∀ i : Int, 0 ≤ i → i ≤ l.length → (l.length : Int) - i = d → (∀ x ∈ l.take i.toNat, x.f1.size ≤ 100) →
    Ev (fun k => spencelaw46_CondBack.l0 k (r0 && (l.take i.toNat).all okT) (strOfNums (joinI [44, 32] ((l.take i.toNat).map tx))) l l.length i any l) true := by
  induction d with
  | zero =>
    intro i h0 h1 hd hs
    rw [List.take_of_length_le (by omega)] at hs ⊢
    have he := back_end any l hs hn
    rw [hr]
    refine Ev.succ ?_
    simp only [spencelaw46_CondBack.l0, show ¬ i < (l.length : Int) by omega, if_false]
    unfold condText at he
    cases any with
    | true => simp only [if_true] at he ⊢; rw [show (⟨#[42]⟩ : ByteArray) = strOfNums [42] by decide]; exact he
    | false => simp only [Bool.false_eq_true, if_false] at he ⊢; exact he
  | succ d ih =>
    intro i h0 h1 hd hs
    have hi : i.toNat < l.length := by omega
    have e1 : (i + 1).toNat = i.toNat + 1 := by omega
    have hrd : rd_T51 l i = l[i.toNat] := by
      unfold rd_T51
      rw [List.getD_eq_getElem?_getD, List.getElem?_eq_getElem hi]; rfl
    have htk := List.take_succ_eq_append_getElem hi
    have hjl := join_len (l.take i.toNat) hs
    rw [List.length_take] at hjl
    have hsn := join_snoc l[i.toNat] (l.take i.toNat)
    have hnx := ih (i + 1) (by omega) (by omega) (by omega)
    have hemp : i = 0 → l.take i.toNat = [] := fun e => by subst e; rfl
    have hne : i > 0 → l.take i.toNat ≠ [] := fun e h => by rw [List.take_eq_nil_iff] at h; rcases h with h | h; omega; rw [h] at hi; simp at hi
    rw [e1, htk] at hnx
    generalize l[i.toNat] = x at hrd hsn hnx
    have htl := tx_len x
    refine Ev.succ ?_
    simp only [spencelaw46_CondBack.l0, show i < (l.length : Int) by omega, h0, if_true, hrd]
    by_cases hz : (x.f1.size : Int) > 100
    · simp only [hz, if_true]; exact Ev.now _
    simp only [hz, if_false]
    have hnx := hnx (by
      intro y hy
      rcases List.mem_append.1 hy with h | h
      · exact hs y h
      · rw [List.mem_singleton.1 h]; omega)
    rw [List.all_append, List.all_cons, List.all_nil, Bool.and_true, ← Bool.and_assoc] at hnx
    have hpt := ref_etag_print_eq x.f0 x.f1 (by omega)
    have htxt : ∀ f : Bool, f = ((r0 && (l.take i.toNat).all okT) && okT x) → Ev (fun k => if i > 0 then (if (strOfNums (joinI [44, 32] ((l.take i.toNat).map tx))).size + 2 ≤ 9223372036854775807 then ((spenceref04_PrintTag.f x.f0 x.f1).bind fun t => if (strOfNums (joinI [44, 32] ((l.take i.toNat).map tx))).size + 2 + t.size ≤ 9223372036854775807 then spencelaw46_CondBack.l0 k f ((strOfNums (joinI [44, 32] ((l.take i.toNat).map tx)) ++ (⟨#[44, 32]⟩ : ByteArray)) ++ t) l l.length (wrap64 (i + 1)) any l else none) else none)
        else ((spenceref04_PrintTag.f x.f0 x.f1).bind fun t => if (strOfNums (joinI [44, 32] ((l.take i.toNat).map tx))).size + t.size ≤ 9223372036854775807 then spencelaw46_CondBack.l0 k f (strOfNums (joinI [44, 32] ((l.take i.toNat).map tx)) ++ t) l l.length (wrap64 (i + 1)) any l else none)) true := by
      intro f hf
      rw [hf]
      rw [← show tx x = tagText x.f0 (bytesOf x.f1) from rfl] at hpt
      by_cases hp : i > 0
      · refine Ev.congr (fun k => if_pos hp) ?_
        rw [hsn (hne hp)] at hnx
        refine Ev.congr (fun k => ?_) hnx
        rw [hpt, Option.bind_some, size_str, size_str, if_pos (by omega), if_pos (by omega), wrap_id (by omega), sep_str, str_append, str_append]
      · refine Ev.congr (fun k => if_neg hp) ?_
        have h0' : i = 0 := by omega
        rw [hemp h0'] at hnx ⊢
        refine Ev.congr (fun k => ?_) hnx
        rw [hpt, Option.bind_some, size_str, size_str, if_pos (by simp [joinI]; omega), wrap_id (by omega), str_append]
        simp [joinI]
    cases hc : (r0 && (l.take i.toNat).all okT)
    · simp only [Bool.false_eq_true, if_false]
      exact htxt false (by rw [hc]; rfl)
    · simp only [if_true]
      by_cases h40 : (x.f1.size : Int) ≤ 40
      · simp only [h40, if_true]
        refine Ev.bind (ref_plain_ev x.f1 (by omega)) ?_
        exact htxt _ (by rw [hc, Bool.true_and]; unfold okT; rw [decide_eq_true (by omega), Bool.and_true])
      · simp only [h40, if_false]
        exact htxt false (by rw [hc, Bool.true_and]; unfold okT; rw [decide_eq_false (by omega), Bool.and_false])
theorem CondBack : spencelaw46_CondBack.Pure := by
  intro any l _ _
  refine Ev.rounds (g := fun k => spencelaw46_CondBack.f k any l) ?_
  refine Ev.bind awake46 ?_
  simp only [if_true]
  by_cases c1 : (l.length : Int) > 30
  · simp only [c1, if_true]; exact Ev.now _
  simp only [c1, if_false]
  have key : ∀ r0 : Bool, (r0 && l.all okT) = rightL any l → Ev (fun k => spencelaw46_CondBack.j0 k r0 any l) true := by
    intro r0 hr
    have := back_loop any r0 l (by omega) hr l.length 0 (by omega) (by omega) (by omega) (by simp)
    rw [Int.toNat_zero, List.take_zero] at this
    refine Ev.step (fun k => ?_) this
    simp only [spencelaw46_CondBack.j0]
    simp [joinI, emp_str]
  cases any with
  | true =>
    simp only [if_true]
    by_cases h0 : (l.length : Int) = 0
    · simp only [h0, if_true]
      have : l = [] := List.eq_nil_of_length_eq_zero (by omega)
      subst this
      exact key true rfl
    · simp only [h0, if_false]
      exact key false (by unfold rightL; rw [if_pos rfl, decide_eq_false (by omega)]; rfl)
  | false =>
    simp only [Bool.false_eq_true, if_false]
    by_cases h0 : (l.length : Int) > 0
    · simp only [h0, if_true]
      refine key _ ?_
      unfold rightL
      rw [if_neg (by decide)]
      congr 1
      rw [decide_eq_decide]; omega
    · simp only [h0, if_false]
      exact key false (by unfold rightL; rw [if_neg (by decide), decide_eq_false (by omega)] <;> rfl)
end Go.Proofs.Ytahoibanpplhbaa.Pure
namespace Go.Proofs.Ytahoibanpplhbaa.condBack
open Go.ChangeShapes Go.WideShapes Go.ChangeAt Go.RowKit Go.Proofs.Ytahoibanpplhbaa.Rd Go.Proofs.Ytahoibanpplhbaa.PAll Go.Proofs.YtahoibanpplhbaaW.PrintWords
open Go.ChangeMaps (open_string shut_string)
set_option linter.unusedVariables false
theorem own : ownKnob Try.prog.godebug = none := by kernel_rfl
theorem laidOut : laidOutB Try.prog = true := by kernel_rfl
open Go.Proofs.YtahoibanpplhbaaW.PrintLast
structure S40 where
  f0 : Bool
  f1 : (List S51)
def k40 : Kd S40 := Kd.iso (Kd.pair Kd.bool (Kd.slice 51 k51)) (fun x : S40 => (x.f0, x.f1))
theorem k40_open {w : World} {x : S40} {cs : List Value} (h : k40.K w x cs) : ∃ A1 c1, cs = [.bool x.f0, .slice A1 x.f1.length c1] ∧ x.f1.length ≤ c1 ∧ k51.C w A1 x.f1.length x.f1 := by
  obtain ⟨_, _, rfl, rfl, ⟨A1, c1, rfl, l1, g1⟩⟩ := h
  exact ⟨A1, c1, rfl, l1, g1⟩
def ok51 (x : S51) : Prop := True ∧ x.f1.size ≤ maxLen
theorem o51 : Opens Try.prog 51 k51 ok51 := opens_struct Try.underlying51 (opensF_cons (opens_bool Try.underlying4) rfl (by kernel_rfl) rfl (opensF_one (opens_string Try.underlying9) rfl (by kernel_rfl))) (by kernel_rfl) (fun x : S51 => (x.f0, x.f1)) (fun p => ⟨p.1, p.2⟩) (fun _ => rfl)
def ok40 (x : S40) : Prop := True ∧ (∀ y0 ∈ x.f1, (True ∧ y0.f1.size ≤ maxLen))
theorem o40 : Opens Try.prog 40 k40 ok40 := opens_struct Try.underlying40 (opensF_cons (opens_bool Try.underlying4) rfl (by kernel_rfl) rfl (opensF_one (opens_slice Try.underlying38 o51 (by kernel_rfl)) rfl (by kernel_rfl))) (by kernel_rfl) (fun x : S40 => (x.f0, x.f1)) (fun p => ⟨p.1, p.2⟩) (fun _ => rfl)
set_option maxRecDepth 100000 in
set_option maxHeartbeats 4000000 in
theorem lifted (os : Os) (started : os.Started) (H : Type) (enc : TypeId × Value → H) :
    ReturnsInHanded {} Try.checked os 8 .any (Rows.condBackSpec.pre6 enc Try.prog Try.f8 Rows.condBackRow.domain false) (Rows.condBackSpec.post enc Try.prog Try.f8 false true false false) := by
  refine returnsInHanded_of_change_sized (C := Try.checked) own started (by kernel_rfl) Try.func8
    (ChangeSpec.witness6 (enc := enc) (C := Try.checked) false ⟨#[], #[.agg #[.bool false, .slice none 0 0]], []⟩ 8 (by kernel_rfl) (by kernel_rfl) (by kernel_rfl) (by kernel_rfl)) ?_
  intro W base args ds gs before hval0 hW hcnd hsz0 _
  have hsz : (DataW.weightsEach Try.prog (Try.f8.params.toList ++ Rows.condBackSpec.plain.varTypes Try.prog) (ds ++ gs)).all (· ≤ reachBytes) = true := hsz0
  have hval : ∀ (j : Nat) t v, Try.f8.params[j]? = some t → args[j]? = some v → Value.okWide Try.prog W .any base t v := hval0
  have hW' := hW
  obtain ⟨p, q, hA0, hV, rfl, hfz, hnd⟩ := hW
  have hA : DataW.TrodAll enc Try.prog W 0 (fun _ => true) true Try.f8.params.toList args.toList ds p := hA0
  rw [Try.params8] at hA hval hsz
  obtain ⟨v0, vs0, d0, ds0, p0, q0, hargs, rfl, rfl, h0, r0⟩ := trodAll_cons hA
  obtain ⟨rfl, rfl, rfl⟩ := trodAll_nil r0
  obtain rfl : args = #[v0] := by cases args; simp_all
  obtain ⟨rfl, rfl⟩ := trodVars_none hV
  have k0 := h0
  have lt0 : ∀ x ∈ p0, x.block < W.heap.size := by obtain ⟨m, hm⟩ := k0; exact DataW.trod_lt m _ _ _ hm
  obtain ⟨L0, x0, rfl, hK0, hok0⟩ := open_agg Try.underlying40 o40 (hval 0 40 v0 rfl rfl) h0
  obtain ⟨A0_1, c0_1, rfl, hc0_1, hC0_1⟩ := k40_open hK0
  clear hA0 hval0 hsz0 hsz
  obtain ⟨k, hk⟩ := Pure.CondBack x0.f0 x0.f1 hC0_1.2.1 (hok0.2)
  refine (PAll.spencelaw46_CondBack.calls k x0.f0 _ _ x0.f1 true W hC0_1 hc0_1 hk).mono fun e W' ⟨he, hd⟩ => ?_
  have bel : Below W.heap.size W W' := hd
  subst he
  exact ⟨_, rfl, _, _, _, [], _, [], hW', trodAll_mk1 (shut_bool Try.underlying4 _), (trodAll_cons_mk (Below.trod laidOut (by kernel_rfl) (of_decide_eq_true (by kernel_rfl)) k0 bel lt0) trodAll_mk0), rfl, bel.frame _, fun h => by cases h⟩
theorem over : Rows.condBackRow.holds Try.pinned (OpenSpec.ofChange Rows.condBackSpec) :=
  OpenClaim.holds_of_wide 8 Try.f8 rfl rfl rfl rfl rfl rfl rfl ⟨rfl, rfl, rfl, rfl, rfl⟩ rfl rfl rfl rfl rfl (by kernel_rfl) Try.func8 (by kernel_rfl)
    (of_decide_eq_true (by kernel_rfl)) (by unfold Func.isWrapper; first | (rw [if_pos (by decide +kernel)]; kernel_rfl) | (rw [if_neg (by decide +kernel)]; exact ⟨rfl, rfl⟩))
    (fun os started H enc _ => lifted os started H enc)
theorem proved : Rows.CondBackSaid := over
end Go.Proofs.Ytahoibanpplhbaa.condBack
namespace Go.Proofs.Ytahoibanpplhbaa
theorem condBack_holds : Rows.CondBackSaid := condBack.proved
#print axioms condBack_holds
end Go.Proofs.Ytahoibanpplhbaa
