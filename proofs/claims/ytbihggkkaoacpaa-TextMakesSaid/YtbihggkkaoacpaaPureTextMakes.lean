/- Any elements that have no commas, and no blanks at their ends, are a list's, with any blanks and empty ones between: the plain law. -/
import Derived.Test.YtbihggkkaoacpaaTList
import Derived.Test.YtbihggkkaoacpaaPAllx8
namespace Go.Proofs.Ytbihggkkaoacpaa.Pure
open Go.RowKit Go.Proofs.Ytbihggkkaoacpaa.PAll Go.Proofs.YtbihggkkaoacpaaW.PrintWords Go.Proofs.YtbihggkkaoacpaaW.PrintLast Go.Proofs.YtbihggkkaoacpaaW.PrintMore
def sepT (x : Int) : List Int := if x = 1 then [32, 44, 32] else if x = 2 then [44, 44, 9] else if x = 3 then [32, 44, 9, 32, 44] else [44]
/-- may stand in a list -/
def goodE (e : List Int) : Prop := e ≠ [] ∧ 44 ∉ e ∧ trim e = e
theorem ltrim_app (b e : List Int) (hb : ∀ x ∈ b, isBl x = true) : ltrim (b ++ e) = ltrim e := by
  induction b with
  | nil => rfl
  | cons x b ih => rw [List.cons_append, ltrim_cons, if_pos (hb x List.mem_cons_self), ih (fun y hy => hb y (List.mem_cons_of_mem _ hy))]
theorem rtrim_app (e b : List Int) (hb : ∀ x ∈ b, isBl x = true) : rtrim (e ++ b) = rtrim e := by
  have := ltrim_app b.reverse e.reverse (fun x hx => hb x (List.mem_reverse.1 hx))
  unfold ltrim at this
  unfold rtrim
  rw [List.reverse_append, this]
theorem good_ends (e : List Int) (h : goodE e) : rtrim e = e ∧ ltrim e = e ∧ isBl (rd e 0) = false ∧ isBl (rd e ((e.length : Int) - 1)) = false := by
  obtain ⟨h1, -, h3⟩ := h
  have l1 := rtrim_len e
  have l2 := ltrim_len (rtrim e)
  have hr : rtrim e = e := by
    have hlen : (rtrim e).length = e.length := by have := congrArg List.length h3; unfold trim at this; omega
    unfold rtrim at hlen ⊢
    rw [List.length_reverse] at hlen
    have := (List.dropWhile_sublist isBl (l := e.reverse)).eq_of_length (by rw [hlen, List.length_reverse])
    rw [this, List.reverse_reverse]
  have hl : ltrim e = e := by unfold trim at h3; rwa [hr] at h3
  refine ⟨hr, hl, ?_, ?_⟩
  · cases e with
    | nil => exact absurd rfl h1
    | cons x e =>
      rw [ltrim_cons] at hl
      have : rd (x :: e) 0 = x := by simp [rd]
      rw [this]
      cases hx : isBl x
      · rfl
      · rw [hx, if_pos rfl] at hl
        have := ltrim_len e
        rw [hl, List.length_cons] at this; omega
  · rcases List.eq_nil_or_concat e with h | ⟨f, x, h⟩
    · exact absurd h h1
    · subst h
      rw [List.concat_eq_append] at *
      rw [rtrim_snoc] at hr
      have : rd (f ++ [x]) (((f ++ [x]).length : Int) - 1) = x := by
        rw [rd_eq _ _ (by simp) (by omega)]; simp
      rw [this]
      cases hx : isBl x
      · rfl
      · rw [hx, if_pos rfl] at hr
        have := rtrim_len f
        rw [hr, List.length_append, List.length_singleton] at this; omega
theorem trim_mid (b e c : List Int) (h : goodE e) (hb : ∀ x ∈ b, isBl x = true) (hc : ∀ x ∈ c, isBl x = true) : trim (b ++ e ++ c) = e := by
  obtain ⟨h1, h2, h3, h4⟩ := good_ends e h
  unfold trim
  rw [rtrim_app _ _ hc]
  have : rtrim (b ++ e) = b ++ e := by
    rcases List.eq_nil_or_concat e with h5 | ⟨f, x, h5⟩
    · exact absurd h5 h.1
    · subst h5
      rw [List.concat_eq_append] at *
      have h6 : rd (f ++ [x]) (((f ++ [x]).length : Int) - 1) = x := by
        rw [rd_eq _ _ (by simp) (by omega)]; simp
      rw [h6] at h4
      rw [← List.append_assoc, rtrim_snoc, h4]; rfl
  rw [this, ltrim_app _ _ hb, h2]
def tailT (r : List (Int × List Int)) : List Int := r.flatMap fun p => sepT p.1 ++ p.2
theorem lists_piece (n : Nat) (b e c : List Int) (l : List Int) (h : goodE e) (hb : ∀ x ∈ b, isBl x = true) (hc : ∀ x ∈ c, isBl x = true) (first : Bool) (hf : first = true → b = []) :
    lists (n + 1) (b ++ e ++ c ++ 44 :: l) first = (lists n l false).map (e :: ·) := by
  have hno : ∀ x : Int, isBl x = true → x ≠ 44 := by intro x hx e; subst e; simp [isBl] at hx
  have h44 : (44 : Int) ∉ b ++ e ++ c := by
    intro hm
    rcases List.mem_append.1 hm with hm | hm
    · rcases List.mem_append.1 hm with hm | hm
      · exact hno 44 (hb 44 hm) rfl
      · exact h.2.1 hm
    · exact hno 44 (hc 44 hm) rfl
  rw [lists, cutOf_mk 44 _ l h44]
  dsimp only
  rw [trim_mid b e c h hb hc, if_neg h.1, if_pos rfl]
  have : ¬ (first = true ∧ isBl (rd (b ++ e ++ c) 0) = true) := by
    rintro ⟨h1, h2⟩
    rw [hf h1, List.nil_append] at h2
    have h3 := (good_ends e h).2.2.1
    have h4 : rd (e ++ c) 0 = rd e 0 := by
      cases e with
      | nil => exact absurd rfl h.1
      | cons x e => simp [rd]
    rw [h4, h3] at h2; cases h2
  rw [if_neg this]
theorem lists_skip (n : Nat) (b l : List Int) (hb : ∀ x ∈ b, isBl x = true) : lists (n + 1) (b ++ 44 :: l) false = lists n l false := by
  have h44 : (44 : Int) ∉ b := by intro hm; have := hb 44 hm; simp [isBl] at this
  have ht : trim b = [] := by
    have h1 := rtrim_app [] b hb
    rw [List.nil_append] at h1
    unfold trim; rw [h1]; rfl
  rw [lists, cutOf_mk 44 _ l h44]
  dsimp only
  rw [ht, if_pos rfl, if_neg (by simp), if_pos rfl]
theorem lists_last (n : Nat) (b e : List Int) (h : goodE e) (hb : ∀ x ∈ b, isBl x = true) (first : Bool) (hf : first = true → b = []) :
    lists (n + 1) (b ++ e) first = some [e] := by
  have h44 : (44 : Int) ∉ b ++ e := by
    intro hm
    rcases List.mem_append.1 hm with hm | hm
    · have := hb 44 hm; simp [isBl] at this
    · exact h.2.1 hm
  have ht := trim_mid b e [] h hb (by simp)
  rw [List.append_nil] at ht
  rw [lists, cutOf_none 44 _ h44]
  dsimp only
  have h1 : ¬ (first = true ∧ isBl (rd (b ++ e) 0) = true) := by
    rintro ⟨h1, h2⟩
    rw [hf h1, List.nil_append, (good_ends e h).2.2.1] at h2; cases h2
  have h2 : ¬ isBl (rd (b ++ e) (((b ++ e).length : Int) - 1)) = true := by
    have h3 := (good_ends e h).2.2.2
    have hp : 0 < e.length := List.length_pos_iff.2 h.1
    have : rd (b ++ e) (((b ++ e).length : Int) - 1) = rd e ((e.length : Int) - 1) := by
      have e1 : (((b ++ e).length : Int) - 1).toNat = b.length + (e.length - 1) := by rw [List.length_append]; omega
      have e2 : ((e.length : Int) - 1).toNat = e.length - 1 := by omega
      unfold rd
      rw [e1, e2]
      simp [List.getD_eq_getElem?_getD, List.getElem?_append_right]
    rw [this, h3]; decide
  rw [ht, if_neg h.1, if_neg h1, if_neg (by decide), if_neg h2]
theorem lists_tail : ∀ (r : List (Int × List Int)) (n : Nat) (b e : List Int) (first : Bool), goodE e → (∀ x ∈ b, isBl x = true) → (first = true → b = []) → (∀ p ∈ r, goodE p.2) → (b ++ e ++ tailT r).length < n →
    lists n (b ++ e ++ tailT r) first = some (e :: r.map (·.2)) := by
  intro r
  induction r with
  | nil =>
    intro n b e first h hb hf _ hn
    obtain ⟨n, rfl⟩ : ∃ m, n = m + 1 := ⟨n - 1, by omega⟩
    have : tailT [] = [] := rfl
    rw [this, List.append_nil, lists_last n b e h hb first hf]; rfl
  | cons p r ih =>
    intro n b e first h hb hf hr hn
    have hp := hr p List.mem_cons_self
    have hr2 : ∀ q ∈ r, goodE q.2 := fun q hq => hr q (List.mem_cons_of_mem _ hq)
    have et : tailT (p :: r) = sepT p.1 ++ (p.2 ++ tailT r) := by unfold tailT; rw [List.flatMap_cons, List.append_assoc]
    rw [et] at hn ⊢
    obtain ⟨n, rfl⟩ : ∃ m, n = m + 1 := ⟨n - 1, by omega⟩
    have b1 : ∀ x ∈ ([32] : List Int), isBl x = true := by simp [isBl]
    have b2 : ∀ x ∈ ([9] : List Int), isBl x = true := by simp [isBl]
    have b3 : ∀ x ∈ ([9, 32] : List Int), isBl x = true := by simp [isBl]
    have b0 : ∀ x ∈ ([] : List Int), isBl x = true := by simp
    have hfin : ∀ m c, (∀ x ∈ c, isBl x = true) → (c ++ p.2 ++ tailT r).length < m → (lists m (c ++ p.2 ++ tailT r) false).map (e :: ·) = some (e :: (p :: r).map (·.2)) := by
      intro m c hc hm
      rw [ih m c p.2 false hp hc (by simp) hr2 hm]; rfl
    unfold sepT at hn ⊢
    by_cases c1 : p.1 = 1
    · rw [if_pos c1] at hn ⊢
      have e1 : b ++ e ++ ([32, 44, 32] ++ (p.2 ++ tailT r)) = b ++ e ++ [32] ++ 44 :: ([32] ++ p.2 ++ tailT r) := by simp
      rw [e1] at hn ⊢
      rw [lists_piece n b e [32] _ h hb b1 first hf]
      exact hfin n [32] b1 (by simp at hn ⊢; omega)
    · rw [if_neg c1] at hn ⊢
      by_cases c2 : p.1 = 2
      · rw [if_pos c2] at hn ⊢
        have e1 : b ++ e ++ ([44, 44, 9] ++ (p.2 ++ tailT r)) = b ++ e ++ [] ++ 44 :: ([] ++ 44 :: ([9] ++ p.2 ++ tailT r)) := by simp
        rw [e1] at hn ⊢
        rw [lists_piece n b e [] _ h hb b0 first hf]
        obtain ⟨n, rfl⟩ : ∃ m, n = m + 1 := ⟨n - 1, by simp at hn; omega⟩
        rw [lists_skip n [] _ b0]
        exact hfin n [9] b2 (by simp at hn ⊢; omega)
      · rw [if_neg c2] at hn ⊢
        by_cases c3 : p.1 = 3
        · rw [if_pos c3] at hn ⊢
          have e1 : b ++ e ++ ([32, 44, 9, 32, 44] ++ (p.2 ++ tailT r)) = b ++ e ++ [32] ++ 44 :: ([9, 32] ++ 44 :: ([] ++ p.2 ++ tailT r)) := by simp
          rw [e1] at hn ⊢
          rw [lists_piece n b e [32] _ h hb b1 first hf]
          obtain ⟨n, rfl⟩ : ∃ m, n = m + 1 := ⟨n - 1, by simp at hn; omega⟩
          rw [lists_skip n [9, 32] _ b3]
          exact hfin n [] b0 (by simp at hn ⊢; omega)
        · rw [if_neg c3] at hn ⊢
          have e1 : b ++ e ++ ([44] ++ (p.2 ++ tailT r)) = b ++ e ++ [] ++ 44 :: ([] ++ p.2 ++ tailT r) := by simp
          rw [e1] at hn ⊢
          rw [lists_piece n b e [] _ h hb b0 first hf]
          exact hfin n [] b0 (by simp at hn ⊢; omega)
/-! ### the law's text -/
def sepAt (m : List Int) (j : Nat) : Int := if (j : Int) < m.length then rd m j else 0
def elAt (l : List ByteArray) (j : Nat) : List Int := bytesOf (rdOf ByteArray.empty l j)
def pairAt (l : List ByteArray) (m : List Int) (j : Nat) : Int × List Int := (sepAt m j, elAt l (j + 1))
def textAt (l : List ByteArray) (m : List Int) : Nat → List Int
  | 0 => []
  | 1 => elAt l 0
  | i + 2 => elAt l 0 ++ tailT ((List.range (i + 1)).map (pairAt l m))
theorem textAt_succ (l : List ByteArray) (m : List Int) (i : Nat) : textAt l m (i + 2) = textAt l m (i + 1) ++ (sepT (sepAt m i) ++ elAt l (i + 1)) := by
  cases i with
  | zero => simp [textAt, tailT, pairAt]
  | succ i =>
    show elAt l 0 ++ tailT ((List.range (i + 1 + 1)).map (pairAt l m)) = (elAt l 0 ++ tailT ((List.range (i + 1)).map (pairAt l m))) ++ _
    rw [List.range_succ, List.map_append, List.append_assoc]
    congr 1
    unfold tailT
    rw [List.flatMap_append]
    congr 1
    simp [pairAt]
theorem sepT_len (x : Int) : (sepT x).length ≤ 5 := by unfold sepT; repeat' split
                                                       all_goals simp
theorem sepT_isB (x : Int) : ∀ b ∈ sepT x, isB b := by
  unfold sepT isB
  intro b hb
  repeat' split at hb
  all_goals simp at hb
  all_goals omega
theorem textAt_isB (l : List ByteArray) (m : List Int) : ∀ i, ∀ b ∈ textAt l m i, isB b := by
  intro i
  induction i with
  | zero => intro b hb; cases hb
  | succ i ih =>
    cases i with
    | zero => intro b hb; exact bytesOf_isB _ b hb
    | succ i =>
      intro b hb
      rw [textAt_succ] at hb
      rcases List.mem_append.1 hb with h | h
      · exact ih b h
      · rcases List.mem_append.1 h with h | h
        · exact sepT_isB _ b h
        · exact bytesOf_isB _ b h
theorem textAt_len (l : List ByteArray) (m : List Int) (n : Nat) (hg : ∀ j, j < n → (elAt l j).length ≤ 30) : ∀ i, i ≤ n → (textAt l m i).length ≤ 35 * i := by
  intro i
  induction i with
  | zero => intro _; simp [textAt]
  | succ i ih =>
    cases i with
    | zero => intro h; have := hg 0 (by omega); simp [textAt]; omega
    | succ i =>
      intro h
      rw [textAt_succ]
      have h1 := ih (by omega)
      have h2 := sepT_len (sepAt m i)
      have h3 := hg (i + 1) (by omega)
      simp only [List.length_append]; omega
theorem makes_end (l : List ByteArray) (m : List Int) (hn : 0 < l.length) (hb : l.length ≤ 20) (hg : ∀ j, j < l.length → goodE (elAt l j) ∧ (elAt l j).length ≤ 30) :
    Ev (fun k => spencelaw03_TextMakes.l0 k l m (strOfNums (textAt l m l.length)) l l.length l.length) true := by
  have htl := textAt_len l m l.length (fun j hj => (hg j hj).2) l.length (Nat.le_refl _)
  have hl := list_ev (strOfNums (textAt l m l.length)) (by rw [size_str]; omega)
  rw [bytesOf_str _ (textAt_isB l m _), size_str] at hl
  have hlist : lists ((textAt l m l.length).length + 1) (textAt l m l.length) true = some ((List.range l.length).map (elAt l)) := by
    obtain ⟨n, hn2⟩ : ∃ n, l.length = n + 1 := ⟨l.length - 1, by omega⟩
    rw [hn2] at hg ⊢
    cases n with
    | zero =>
      have := lists_last (textAt l m (0 + 1)).length [] (elAt l 0) (hg 0 (by omega)).1 (by simp) true (fun _ => rfl)
      exact this
    | succ n =>
      have := lists_tail ((List.range (n + 1)).map (pairAt l m)) ((textAt l m (n + 2)).length + 1) [] (elAt l 0) true (hg 0 (by omega)).1 (by simp) (fun _ => rfl) (by
        intro p hp
        obtain ⟨j, hj, rfl⟩ := List.mem_map.1 hp
        rw [List.mem_range] at hj
        exact (hg (j + 1) (by omega)).1) (by rw [List.nil_append]; exact Nat.lt_succ_self _)
      rw [List.nil_append] at this
      refine Eq.trans this ?_
      rw [List.map_map, List.range_succ_eq_map (n := n + 1), List.map_cons, List.map_map]
      rfl
  rw [hlist] at hl
  have hback : ((List.range l.length).map (elAt l)).map strOfNums = l := by
    rw [List.map_map]
    apply List.ext_getElem
    · simp
    · intro i h1 h2
      simp [elAt, str_bytes, rdOf, h2]
  refine Ev.succ ?_
  simp only [spencelaw03_TextMakes.l0]
  simp only [show ¬ ((l.length : Int) < (l.length : Int)) by omega, if_false]
  refine Ev.bind hl ?_
  simp only [listEnd, if_true, List.nil_append, hback]
  have ht := texts_ev l l (by omega)
  rw [decide_eq_true rfl] at ht
  exact Ev.bind ht (Ev.now _)
theorem sep1 : (⟨#[32, 44, 32]⟩ : ByteArray) = strOfNums [32, 44, 32] := by decide
theorem sep2 : (⟨#[44, 44, 9]⟩ : ByteArray) = strOfNums [44, 44, 9] := by decide
theorem sep3 : (⟨#[32, 44, 9, 32, 44]⟩ : ByteArray) = strOfNums [32, 44, 9, 32, 44] := by decide
theorem sep0 : (⟨#[44]⟩ : ByteArray) = strOfNums [44] := by decide
theorem makes_loop (l : List ByteArray) (m : List Int) (hn : 0 < l.length) (hb : l.length ≤ 20) (_hm : m.length ≤ 40) (hs : ∀ x ∈ l, x.size ≤ 9223372036854775807) (d : Nat) : ∀ i : Nat, i ≤ l.length → l.length - i = d → (∀ j, j < i → goodE (elAt l j) ∧ (elAt l j).length ≤ 30) →
    Ev (fun k => spencelaw03_TextMakes.l0 k l m (strOfNums (textAt l m i)) l l.length (i : Int)) true := by
  induction d with
  | zero =>
    intro i h1 hd hg
    have : i = l.length := by omega
    subst this
    exact makes_end l m hn hb hg
  | succ d ih =>
    intro i h1 hd hg
    have hi : i < l.length := by omega
    have ert : rdOf ByteArray.empty l (i : Int) = l[i] := by simp [rdOf, hi]
    have eel : elAt l i = bytesOf l[i] := by unfold elAt; rw [ert]
    have hsz := hs l[i] (List.getElem_mem hi)
    generalize l[i] = s at ert eel hsz
    refine Ev.succ ?_
    simp only [spencelaw03_TextMakes.l0, ert]
    simp only [show (i : Int) < (l.length : Int) by omega, show (0 : Int) ≤ (i : Int) by omega, if_true]
    have hyes : ∀ x5 x7 x, Ev (fun k => spencelaw03_TextMakes.j2 k l m x5 (i : Int) x7 l l.length x true) true := fun x5 x7 x => Ev.pos (fun k => by simp [spencelaw03_TextMakes.j2])
    refine Ev.bind (ref_cut_ev s 44 hsz) ?_
    by_cases c1 : s.toList = ([] : List UInt8)
    · simp only [c1, if_true]; exact hyes _ _ _
    simp only [c1, if_false]
    by_cases c2 : (s.size : Int) > 30
    · simp only [c2, if_true]; exact hyes _ _ _
    simp only [c2, if_false]
    by_cases c3 : (cutOf 44 (bytesOf s)).2.2 = true
    · simp only [c3, if_true]; exact hyes _ _ _
    simp only [c3, Bool.false_eq_true, if_false]
    have htr := ref_trim_eq s (by omega) false
    rw [rtrims, if_neg (by decide)] at htr
    refine Ev.bind htr ?_
    by_cases c4 : ¬ trim (bytesOf s) = bytesOf s
    · have : ((strOfNums (trim (bytesOf s))).toList != s.toList) = true := by
        rw [bne_iff_ne, ne_eq, toList_bytes, bytesOf_str _ (fun b hb => bytesOf_isB s b (trim_mem hb))]; exact c4
      rw [this]; exact hyes _ _ _
    have c4 : trim (bytesOf s) = bytesOf s := Decidable.not_not.1 c4
    have e4 : ((strOfNums (trim (bytesOf s))).toList != s.toList) = false := by
      rw [bne_eq_false_iff_eq, c4, str_bytes]
    rw [e4]
    have hgood : goodE (elAt l i) ∧ (elAt l i).length ≤ 30 := by
      rw [eel]
      refine ⟨⟨fun h => c1 ((toList_nil s).2 h), ?_, c4⟩, by rw [bytesOf_length]; omega⟩
      exact (cutOf_no 44 _ (by simpa using c3)).2.2
    have hg2 : ∀ j, j < i + 1 → goodE (elAt l j) ∧ (elAt l j).length ≤ 30 := by
      intro j hj
      by_cases e : j = i
      · rw [e]; exact hgood
      · exact hg j (by omega)
    have hnx := ih (i + 1) (by omega) (by omega) hg2
    have hlen := textAt_len l m i (fun j hj => (hg j hj).2) i (Nat.le_refl _)
    have hss : s.size ≤ 30 := by omega
    have es : s = strOfNums (elAt l i) := by rw [eel, str_bytes]
    have hse : (elAt l i).length = s.size := by rw [eel, bytesOf_length]
    have hw : wrap64 ((i : Int) + 1) = ((i + 1 : Nat) : Int) := by rw [wrap_id (by omega)]; omega
    refine Ev.succ ?_
    cases i with
    | zero =>
      simp only [spencelaw03_TextMakes.j2, hw]
      simp only [Bool.false_eq_true, if_false, show ¬ ((0 : Nat) : Int) > 0 by omega]
      have e0 : strOfNums (textAt l m 0) ++ s = strOfNums (textAt l m 1) := by
        rw [es, str_append]; rfl
      rw [e0]
      simp only [show (strOfNums (textAt l m 0)).size + s.size ≤ 9223372036854775807 by rw [size_str]; omega, if_true]
      exact hnx
    | succ i =>
      have hw2 : wrap64 (((i + 1 : Nat) : Int) - 1) = (i : Int) := by rw [wrap_id (by omega)]; omega
      have hgo : Ev (fun k => spencelaw03_TextMakes.j3 k l m (strOfNums (textAt l m (i + 1))) s (sepAt m i) l l.length ((i + 1 : Nat) : Int)) true := by
        have hz : (strOfNums (textAt l m (i + 1))).size = (textAt l m (i + 1)).length := size_str _
        have ht := textAt_succ l m i
        refine Ev.succ ?_
        simp only [spencelaw03_TextMakes.j3, hw, hz]
        simp only [show (textAt l m (i + 1)).length + 3 ≤ 9223372036854775807 by omega, show (textAt l m (i + 1)).length + 3 + s.size ≤ 9223372036854775807 by omega, show (textAt l m (i + 1)).length + 5 ≤ 9223372036854775807 by omega, show (textAt l m (i + 1)).length + 5 + s.size ≤ 9223372036854775807 by omega, show (textAt l m (i + 1)).length + 1 ≤ 9223372036854775807 by omega, show (textAt l m (i + 1)).length + 1 + s.size ≤ 9223372036854775807 by omega, if_true]
        rw [sep1, sep2, sep3, sep0, es]
        simp only [str_append, List.append_assoc]
        unfold sepT at ht
        by_cases d1 : sepAt m i = 1
        · rw [if_pos d1] at ht; simp only [d1, if_true]; rw [← ht]; exact hnx
        · by_cases d2 : sepAt m i = 2
          · rw [if_neg d1, if_pos d2] at ht; simp only [d2, show ¬ ((2 : Int) = 1) by decide, if_false, if_true]; rw [← ht]; exact hnx
          · by_cases d3 : sepAt m i = 3
            · rw [if_neg d1, if_neg d2, if_pos d3] at ht; simp only [d3, show ¬ ((3 : Int) = 1) by decide, show ¬ ((3 : Int) = 2) by decide, if_false, if_true]; rw [← ht]; exact hnx
            · rw [if_neg d1, if_neg d2, if_neg d3] at ht; simp only [d1, d2, d3, if_false]; rw [← ht]; exact hnx
      simp only [spencelaw03_TextMakes.j2, hw2]
      simp only [Bool.false_eq_true, if_false, show ((i + 1 : Nat) : Int) > 0 by omega, if_true, show (0 : Int) ≤ (i : Int) by omega]
      unfold sepAt at hgo
      by_cases hm2 : (i : Int) < m.length
      · simp only [hm2, if_true] at hgo ⊢; exact hgo
      · simp only [hm2, if_false] at hgo ⊢; exact hgo
theorem TextMakes : spencelaw03_TextMakes.Pure := by
  intro l m _ hs _ _
  refine Ev.rounds (g := fun k => spencelaw03_TextMakes.f k l m) ?_
  refine Ev.bind awake03 ?_
  simp only [if_true]
  have hyes : Ev (fun k => spencelaw03_TextMakes.j0 k l m true) true := Ev.pos (fun k => by simp [spencelaw03_TextMakes.j0])
  by_cases c1 : (l.length : Int) = 0
  · simp only [c1, if_true]; exact hyes
  by_cases c2 : (l.length : Int) > 20
  · simp only [c1, c2, if_true, if_false]; exact hyes
  simp only [c1, c2, if_false]
  by_cases c3 : (m.length : Int) > 40
  · rw [decide_eq_true c3]; exact hyes
  · rw [decide_eq_false c3]
    refine Ev.step (fun k => ?_) (makes_loop l m (by omega) (by omega) (by omega) (fun x hx => hs x hx) l.length 0 (by omega) (by omega) (fun j hj => absurd hj (Nat.not_lt_zero j)))
    simp only [spencelaw03_TextMakes.j0]
    rw [if_neg (by decide)]; rfl
end Go.Proofs.Ytbihggkkaoacpaa.Pure
