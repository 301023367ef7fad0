/- Any validator that may be is read of its own text, and of no other one: the plain law. -/
import Derived.Test.YtbihggkkaoacpaaPureEtagCompares
import Derived.Test.YtbihggkkaoacpaaPAllx20
namespace Go.Proofs.Ytbihggkkaoacpaa.Pure
open Go.RowKit Go.Proofs.Ytbihggkkaoacpaa.PAll Go.Proofs.YtbihggkkaoacpaaW.PrintWords Go.Proofs.YtbihggkkaoacpaaW.PrintLast Go.Proofs.YtbihggkkaoacpaaW.PrintMore
theorem inner_text (l : List Int) : inner (34 :: l ++ [34]) = l := by
  unfold inner
  have : (34 :: l ++ [34]).length - 1 = (34 :: l).length := by simp
  rw [this, List.take_left' rfl]; rfl
theorem rd_last (l : List Int) (a : Int) : rd (l ++ [a]) (((l ++ [a]).length : Int) - 1) = a := by
  rw [rd_eq _ _ (by simp) (by omega)]
  simp
theorem isTag_text (l : List Int) (h : plain l = true) : isTag (34 :: l ++ [34]) = true := by
  unfold isTag
  rw [inner_text, h, rd_last]
  have : 2 ≤ (34 :: l ++ [34]).length := by simp
  rw [decide_eq_true this]
  rfl
theorem rest_text (w : Bool) (l : List Int) : weakOf (tagText w l) = w ∧ restOf (tagText w l) = 34 :: l ++ [34] := by
  have h : weakOf (tagText w l) = w := by
    cases w
    · simp [weakOf, tagText, rd]
    · simp [weakOf, tagText, rd]
  refine ⟨h, ?_⟩
  unfold restOf
  rw [h]
  cases w <;> rfl
theorem tagOf_text (w : Bool) (l : List Int) (h : plain l = true) (hl : l.length ≤ 40) : tagOf (tagText w l) = (w, strOfNums l, 0) := by
  unfold tagOf
  rw [(rest_text w l).1, (rest_text w l).2, isTag_text l h, if_pos rfl, if_neg (by simp; omega), inner_text]
theorem ends_text (l : List Int) (h : isTag l = true) : l = 34 :: inner l ++ [34] := by
  unfold isTag at h
  simp only [Bool.and_eq_true, decide_eq_true_eq, beq_iff_eq] at h
  obtain ⟨⟨⟨h1, h2⟩, h3⟩, -⟩ := h
  rw [rd_eq _ _ (by omega) (by omega)] at h2 h3
  unfold inner
  apply List.ext_getElem?
  intro i
  by_cases a : i = 0
  · subst a
    rw [List.cons_append, List.getElem?_cons_zero, List.getElem?_eq_getElem (by omega)]
    exact congrArg some h2
  · obtain ⟨j, rfl⟩ : ∃ j, i = j + 1 := ⟨i - 1, by omega⟩
    rw [List.cons_append, List.getElem?_cons_succ]
    by_cases b : j + 1 < l.length - 1
    · rw [List.getElem?_append_left (by rw [List.length_drop, List.length_take]; omega), List.getElem?_drop, List.getElem?_take, if_pos (by omega)]
      congr 1; omega
    · rw [List.getElem?_append_right (by rw [List.length_drop, List.length_take]; omega), List.length_drop, List.length_take]
      by_cases c : j + 1 = l.length - 1
      · have e : j - (min (l.length - 1) l.length - 1) = 0 := by omega
        rw [e, List.getElem?_eq_getElem (by omega)]
        have e2 : ((l.length : Int) - 1).toNat = j + 1 := by omega
        simp only [e2] at h3
        rw [h3]; rfl
      · rw [List.getElem?_eq_none (by omega), List.getElem?_eq_none (by simp; omega)]
theorem weak_text (l : List Int) : l = (if weakOf l then [87, 47] else []) ++ restOf l := by
  unfold restOf
  by_cases h : weakOf l = true
  · rw [if_pos h, if_pos h]
    unfold weakOf at h
    simp only [Bool.and_eq_true, decide_eq_true_eq, beq_iff_eq] at h
    obtain ⟨⟨h1, h2⟩, h3⟩ := h
    match l, h1, h2, h3 with
    | a :: b :: l, _, h2, h3 =>
      have e1 : a = 87 := by simpa [rd] using h2
      have e2 : b = 47 := by simpa [rd] using h3
      rw [e1, e2]; rfl
  · rw [if_neg h, if_neg h]; rfl
theorem tagOf_back (s : ByteArray) (h : (tagOf (bytesOf s)).2.2 = 0) : bytesOf s = tagText (tagOf (bytesOf s)).1 (bytesOf (tagOf (bytesOf s)).2.1) := by
  unfold tagOf at h ⊢
  by_cases h1 : isTag (restOf (bytesOf s)) = true
  · rw [if_pos h1] at h ⊢
    by_cases h2 : (restOf (bytesOf s)).length > 42
    · rw [if_pos h2] at h; simp at h
    · rw [if_neg h2]
      have hr : ∀ b ∈ restOf (bytesOf s), isB b := by
        intro b hb
        unfold restOf at hb
        split at hb
        · exact bytesOf_isB s b (List.mem_of_mem_drop hb)
        · exact bytesOf_isB s b hb
      dsimp only
      rw [bytesOf_str (inner (restOf (bytesOf s))) (fun b hb => hr b (List.mem_of_mem_take (List.mem_of_mem_drop hb)))]
      unfold tagText
      rw [← ends_text _ h1]
      exact weak_text _
  · rw [if_neg h1] at h; simp at h
theorem EtagBack : spencelaw04_EtagBack.Pure := by
  intro w t s ht hs
  refine Ev.rounds (g := fun k => spencelaw04_EtagBack.f k w t s) ?_
  refine Ev.bind awake04 ?_
  simp only [if_true]
  have hyes : Ev (fun k => spencelaw04_EtagBack.j0 k s true w t) true := Ev.pos (fun k => by simp [spencelaw04_EtagBack.j0])
  by_cases c1 : (s.size : Int) > 200
  · simp only [c1, if_true]; exact hyes
  simp only [c1, if_false]
  by_cases c2 : (t.size : Int) ≤ 40
  · simp only [c2, if_true]
    refine Ev.bind (ref_plain_ev t (by omega)) ?_
    by_cases hp : plain (bytesOf t) = true
    · rw [hp]
      refine Ev.succ ?_
      simp only [spencelaw04_EtagBack.j0, Bool.not_true, Bool.false_eq_true, if_false, etag_print_eq w t (by omega), Option.bind_some]
      have hb : ∀ b ∈ tagText w (bytesOf t), isB b := by
        intro b hb
        unfold tagText at hb
        rcases List.mem_append.1 hb with h | h
        · cases w
          · simp at h
          · simp at h; unfold isB; omega
        · simp only [List.cons_append, List.mem_cons, List.mem_append, List.not_mem_nil, or_false] at h
          rcases h with h | h | h
          · unfold isB; omega
          · exact bytesOf_isB t b h
          · unfold isB; omega
      have hl : (tagText w (bytesOf t)).length ≤ 50 := by
        unfold tagText
        have := bytesOf_length t
        cases w <;> simp <;> omega
      have q1 := etag_parse_ev (strOfNums (tagText w (bytesOf t))) (by rw [size_str]; omega)
      rw [bytesOf_str _ hb, tagOf_text w _ hp (by rw [bytesOf_length]; omega), str_bytes] at q1
      refine Ev.bind q1 ?_
      refine Ev.bind (etag_parse_ev s (by omega)) ?_
      simp only [beq_self_eq_true, Bool.and_self, if_true]
      refine Ev.all (fun k => ?_)
      by_cases h0 : (tagOf (bytesOf s)).2.2 = 0
      · rw [if_pos h0]
        have hk := tagOf_back s h0
        rw [toList_beq, toList_beq, bytesOf_str _ hb]
        by_cases a : (tagOf (bytesOf s)).1 = w
        · by_cases b : bytesOf (tagOf (bytesOf s)).2.1 = bytesOf t
          · rw [a, b] at hk
            simp [a, b, ← hk]
          · simp [b]
        · simp [a]
      · rw [if_neg h0]
    · have : plain (bytesOf t) = false := by simpa using hp
      rw [this]; exact hyes
  · simp only [c2, if_false]; exact hyes
end Go.Proofs.Ytbihggkkaoacpaa.Pure
