/- The elements of any list, or that it is none: the plain law. -/
import Derived.Test.YtbihggkkaoacpaaTList
import Derived.Test.YtbihggkkaoacpaaPAllx9
namespace Go.Proofs.Ytbihggkkaoacpaa.Pure
open Go.RowKit Go.Proofs.Ytbihggkkaoacpaa.PAll Go.Proofs.YtbihggkkaoacpaaW.PrintWords Go.Proofs.YtbihggkkaoacpaaW.PrintLast Go.Proofs.YtbihggkkaoacpaaW.PrintMore
def piecesOf (cur : List Int) : List Int → List (List Int)
  | [] => [cur]
  | b :: l => if b = 44 then cur :: piecesOf [] l else piecesOf (cur ++ [b]) l
theorem piecesOf_cut : ∀ (l cur : List Int), piecesOf cur l = if (cutOf 44 l).2.2 then (cur ++ (cutOf 44 l).1) :: piecesOf [] (cutOf 44 l).2.1 else [cur ++ (cutOf 44 l).1]
  | [], cur => by simp [piecesOf, cutOf]
  | b :: l, cur => by
    have ih := piecesOf_cut l (cur ++ [b])
    rw [piecesOf, cutOf]
    by_cases h : b = 44
    · rw [if_pos h, if_pos h]; simp
    · rw [if_neg h, if_neg h, ih]; simp
theorem piecesOf_ne (l cur : List Int) : piecesOf cur l ≠ [] := by
  rw [piecesOf_cut]; split <;> simp
theorem piecesOf_isB : ∀ (l cur : List Int), (∀ b ∈ l, isB b) → (∀ b ∈ cur, isB b) → ∀ p ∈ piecesOf cur l, ∀ b ∈ p, isB b
  | [], cur, _, hc, p, hp => by rw [piecesOf, List.mem_singleton] at hp; rw [hp]; exact hc
  | x :: l, cur, hl, hc, p, hp => by
    have hl2 : ∀ b ∈ l, isB b := fun b hb => hl b (List.mem_cons_of_mem _ hb)
    rw [piecesOf] at hp
    by_cases h : x = 44
    · rw [if_pos h] at hp
      rcases List.mem_cons.1 hp with e | e
      · rw [e]; exact hc
      · exact piecesOf_isB l [] hl2 (by simp) p e
    · rw [if_neg h] at hp
      refine piecesOf_isB l (cur ++ [x]) hl2 (fun b hb => ?_) p hp
      rcases List.mem_append.1 hb with e | e
      · exact hc b e
      · rw [List.mem_singleton.1 e]; exact hl x List.mem_cons_self
theorem piecesOf_len : ∀ (l cur : List Int), (piecesOf cur l).length ≤ l.length + 1
  | [], cur => by simp [piecesOf]
  | x :: l, cur => by
    rw [piecesOf]
    by_cases h : x = 44
    · rw [if_pos h, List.length_cons, List.length_cons]; have := piecesOf_len l []; omega
    · rw [if_neg h, List.length_cons]; have := piecesOf_len l (cur ++ [x]); omega
theorem piecesOf_size : ∀ (l cur : List Int), ∀ p ∈ piecesOf cur l, p.length ≤ cur.length + l.length
  | [], cur, p, hp => by rw [piecesOf, List.mem_singleton] at hp; rw [hp]; simp
  | x :: l, cur, p, hp => by
    rw [piecesOf] at hp
    by_cases h : x = 44
    · rw [if_pos h] at hp
      rcases List.mem_cons.1 hp with e | e
      · rw [e]; omega
      · have := piecesOf_size l [] p e; simp only [List.length_nil, List.length_cons] at *; omega
    · rw [if_neg h] at hp
      have := piecesOf_size l (cur ++ [x]) p hp
      simp only [List.length_append, List.length_cons, List.length_nil] at *; omega
theorem pieces_loop (s : ByteArray) (hs : s.size ≤ 500) (d : Nat) : ∀ (i : Int) (done : List ByteArray) (cur : List Int), 0 ≤ i → i ≤ s.size → (s.size : Int) - i = d → done.length + cur.length ≤ i.toNat →
    Ev (fun k => spenceref01_Pieces.l0 k s false (done ++ [strOfNums cur]) false i) (done ++ (piecesOf cur ((bytesOf s).drop i.toNat)).map strOfNums) := by
  induction d with
  | zero =>
    intro i done cur h0 h1 hd hc
    refine Ev.pos (fun k => ?_)
    have hz : (bytesOf s).drop i.toNat = [] := List.drop_of_length_le (by rw [bytesOf_length]; omega)
    simp only [spenceref01_Pieces.l0]
    rw [if_neg (by omega), hz]; rfl
  | succ d ih =>
    intro i done cur h0 h1 hd hc
    have hi : i < s.size := by omega
    have hw : wrap64 (i + 1) = i + 1 := wrap_id (by omega)
    have hl : (done ++ [strOfNums cur]).length = done.length + 1 := by simp
    have hlw : wrap64 (((done ++ [strOfNums cur]).length : Int) - 1) = (done.length : Int) := by rw [hl, wrap_id (by omega)]; omega
    have hrd : rdOf ByteArray.empty (done ++ [strOfNums cur]) (done.length : Int) = strOfNums cur := by simp [rdOf]
    have hset : ∀ y, (done ++ [strOfNums cur]).set ((done.length : Int)).toNat y = done ++ [y] := by
      intro y; rw [Int.toNat_natCast, List.set_append_right _ _ (Nat.le_refl _)]; simp
    rw [bytes_drop s i h0 hi, piecesOf]
    refine Ev.step (f := fun k => spenceref01_Pieces.j1 k s false (done ++ [strOfNums cur]) false i false) (fun k => ?_) ?_
    · simp only [spenceref01_Pieces.l0]
      rw [if_pos hi, if_pos h0]
      by_cases hq : bt s i = 34
      · rw [if_pos hq]
      · rw [if_neg hq]
    by_cases hb : bt s i = 44
    · rw [if_pos hb]
      have := ih (i + 1) (done ++ [strOfNums cur]) [] (by omega) (by omega) (by omega) (by rw [hl]; simp; omega)
      rw [List.append_assoc, List.singleton_append] at this
      rw [List.map_cons]
      refine Ev.step (fun k => ?_) (by rw [List.append_assoc] at this; exact this)
      simp only [spenceref01_Pieces.j1, hw]
      rw [if_neg (by decide), if_pos h0, if_pos hi, if_pos hb, if_neg (by decide), if_pos (by rw [hl]; omega)]
      rw [List.append_assoc]; rfl
    · rw [if_neg hb]
      have := ih (i + 1) done (cur ++ [bt s i]) (by omega) (by omega) (by omega) (by simp; omega)
      refine Ev.step (fun k => ?_) this
      simp only [spenceref01_Pieces.j1, hw, hlw, hrd, hset, Option.bind_some, size_str, str_append]
      rw [if_neg (by decide), if_pos h0, if_pos hi, if_neg hb, if_pos (by omega), if_pos (by rw [hl]; omega), if_pos (by simp; omega)]
theorem pieces_ev (s : ByteArray) (hs : s.size ≤ 500) : Ev (fun k => spenceref01_Pieces.f k s false) ((piecesOf [] (bytesOf s)).map strOfNums) := by
  have := pieces_loop s hs s.size 0 [] [] (by omega) (by omega) (by omega) (by simp)
  rw [Int.toNat_zero, List.drop_zero, List.nil_append, List.nil_append] at this
  exact this
/-- what the elements of pieces are -/
def lists2 (first : Bool) : List (List Int) → Option (List (List Int))
  | [] => some []
  | p :: r =>
    if trim p = [] then (if first = true ∧ r = [] ∧ p ≠ [] then none else lists2 false r)
    else if first = true ∧ isBl (rd p 0) = true then none
    else if r = [] ∧ isBl (rd p ((p.length : Int) - 1)) = true then none
    else (lists2 false r).map (trim p :: ·)
theorem lists2_cons (first : Bool) (p : List Int) (r : List (List Int)) : lists2 first (p :: r) =
    if trim p = [] then (if first = true ∧ r = [] ∧ p ≠ [] then none else lists2 false r)
    else if first = true ∧ isBl (rd p 0) = true then none
    else if r = [] ∧ isBl (rd p ((p.length : Int) - 1)) = true then none
    else (lists2 false r).map (trim p :: ·) := rfl
theorem lists2_nil (first : Bool) : lists2 first [] = some [] := rfl
theorem lists2_len : ∀ (ps : List (List Int)) (first : Bool) (ts : List (List Int)), lists2 first ps = some ts → ts.length ≤ ps.length
  | [], first, ts, h => by rw [lists2_nil] at h; rw [← Option.some.inj h]; simp
  | p :: r, first, ts, h => by
    rw [lists2_cons] at h
    have ih := lists2_len r false
    split at h
    · split at h
      · cases h
      · have := ih ts h; rw [List.length_cons]; omega
    · split at h
      · cases h
      · split at h
        · cases h
        · obtain ⟨us, hu, rfl⟩ := Option.map_eq_some_iff.1 h
          have := ih us hu
          rw [List.length_cons, List.length_cons]; omega
theorem lists_lists2 (n : Nat) : ∀ (l : List Int) (first : Bool), l.length < n → lists n l first = lists2 first (piecesOf [] l) := by
  induction n with
  | zero => intro l first h; omega
  | succ n ih =>
    intro l first h
    have e := piecesOf_cut l []
    rw [List.nil_append] at e
    cases hx : (cutOf 44 l).2.2
    · rw [hx, if_neg (by decide)] at e
      rw [e, lists2_cons, lists2_nil, lists, hx]
      simp only [Bool.false_eq_true, if_false, true_and, Option.map_some]
    · have hsz := cut_size l hx
      have hne := piecesOf_ne (cutOf 44 l).2.1 []
      rw [hx, if_pos rfl] at e
      rw [e, lists2_cons, lists, hx, ih _ false (by omega)]
      simp only [Bool.true_eq_false, false_and, and_false, if_false, if_true, hne]
theorem ref_list_loop (ps : List (List Int)) (hp : ∀ p ∈ ps, ∀ b ∈ p, isB b) (hz : ∀ p ∈ ps, p.length ≤ 500) (hl : ps.length ≤ 501) (d : Nat) : ∀ (i : Int) (out : List ByteArray), 0 ≤ i → i ≤ ps.length → (ps.length : Int) - i = d → out.length ≤ i.toNat →
    Ev (fun k => spenceref01_List.l0 k (ps.map strOfNums) out (ps.map strOfNums) ps.length i) (listEnd out (lists2 (decide (i = 0)) (ps.drop i.toNat))) := by
  induction d with
  | zero =>
    intro i out h0 h1 hd ho
    refine Ev.pos (fun k => ?_)
    have : ps.drop i.toNat = [] := List.drop_of_length_le (by omega)
    simp only [spenceref01_List.l0]
    rw [if_neg (by omega), this]
    simp [lists2, listEnd]
  | succ d ih =>
    intro i out h0 h1 hd ho
    have hi : i.toNat < ps.length := by omega
    have e1 : (i + 1).toNat = i.toNat + 1 := by omega
    have hdr := List.drop_eq_getElem_cons hi
    have hrd : rdOf ByteArray.empty (ps.map strOfNums) i = strOfNums ps[i.toNat] := by simp [rdOf, hi]
    have hpB := hp ps[i.toNat] (List.getElem_mem hi)
    have hpz := hz ps[i.toNat] (List.getElem_mem hi)
    rw [hdr, lists2_cons]
    generalize ps[i.toNat] = p at hrd hpB hpz
    have hnil : ps.drop (i.toNat + 1) = [] ↔ i = (ps.length : Int) - 1 := by
      rw [List.drop_eq_nil_iff]; omega
    have hw : wrap64 (i + 1) = i + 1 := wrap_id (by omega)
    have hw2 : wrap64 ((ps.length : Int) - 1) = (ps.length : Int) - 1 := wrap_id (by omega)
    have hw3 : wrap64 ((p.length : Int) - 1) = (p.length : Int) - 1 := wrap_id (by omega)
    have hnx : ∀ out2 : List ByteArray, out2.length ≤ (i + 1).toNat → Ev (fun k => spenceref01_List.l0 k (ps.map strOfNums) out2 (ps.map strOfNums) ps.length (i + 1)) (listEnd out2 (lists2 false (ps.drop (i.toNat + 1)))) := by
      intro out2 h2
      have := ih (i + 1) out2 (by omega) (by omega) (by omega) h2
      rw [decide_eq_false (by omega), e1] at this
      exact this
    have ht := ref_trim_eq (strOfNums p) (by rw [size_str]; omega) false
    rw [bytesOf_str _ hpB, rtrims, if_neg (by decide)] at ht
    have htB : ∀ b ∈ trim p, isB b := fun b hb => hpB b (trim_mem hb)
    refine Ev.succ ?_
    simp only [spenceref01_List.l0, hrd, hw]
    simp only [show i < (ps.length : Int) by omega, h0, if_true, List.length_map]
    refine Ev.bind ht ?_
    have ez : (strOfNums (trim p)).toList = ([] : List UInt8) ↔ trim p = [] := by rw [toList_nil, bytesOf_str _ htB]
    have ep : (strOfNums p).toList = ([] : List UInt8) ↔ p = [] := by rw [toList_nil, bytesOf_str _ hpB]
    by_cases hz1 : trim p = []
    · rw [if_pos hz1]
      simp only [ez.2 hz1, if_true]
      by_cases hone : (ps.length : Int) = 1
      · have hi0 : i = 0 := by omega
        have hnil2 := hnil.2 (by omega)
        simp only [hone, if_true]
        by_cases hpe : p = []
        · simp only [ep.2 hpe, if_true]
          rw [if_neg (fun h => h.2.2 hpe)]
          have := hnx out (by omega)
          rw [hone] at this
          exact this
        · have hpe' : ¬ (strOfNums p).toList = ([] : List UInt8) := fun h => hpe (ep.1 h)
          simp only [hpe', if_false]
          rw [if_pos ⟨decide_eq_true hi0, hnil2, hpe⟩]
          exact Ev.now _
      · simp only [hone, if_false]
        have : ¬ (decide (i = 0) = true ∧ ps.drop (i.toNat + 1) = [] ∧ p ≠ []) := by
          rintro ⟨h2, h3, -⟩
          have := of_decide_eq_true h2
          have := hnil.1 h3
          omega
        rw [if_neg this]
        exact hnx out (by omega)
    · rw [if_neg hz1]
      have hz1' : ¬ (strOfNums (trim p)).toList = ([] : List UInt8) := fun h => hz1 (ez.1 h)
      have hpos : 0 < p.length := by
        rcases Nat.eq_zero_or_pos p.length with h | h
        · exact absurd (by rw [List.eq_nil_of_length_eq_zero h]; rfl) hz1
        · exact h
      simp only [hz1', if_false, ref_blank_eq, Option.bind_some, size_str, bt_str _ hpB, hw3, show (0 : Int) < (p.length : Int) by omega, show (0 : Int) ≤ (p.length : Int) - 1 by omega, show (p.length : Int) - 1 < (p.length : Int) by omega, show out.length < 8796093022208 by omega, if_true]
      have key : Ev (fun k => if i = (ps.length : Int) - 1 then (if isBl (rd p ((p.length : Int) - 1)) = true then some ([], false) else spenceref01_List.l0 k (ps.map strOfNums) (out ++ [strOfNums (trim p)]) (ps.map strOfNums) ps.length (i + 1)) else spenceref01_List.l0 k (ps.map strOfNums) (out ++ [strOfNums (trim p)]) (ps.map strOfNums) ps.length (i + 1))
          (listEnd out (if ps.drop (i.toNat + 1) = [] ∧ isBl (rd p ((p.length : Int) - 1)) = true then none else (lists2 false (ps.drop (i.toNat + 1))).map (trim p :: ·))) := by
        have hn2 := hnx (out ++ [strOfNums (trim p)]) (by simp; omega)
        by_cases hlast : i = (ps.length : Int) - 1
        · simp only [hnil.2 hlast, true_and]
          rw [hnil.2 hlast] at hn2
          by_cases hq : isBl (rd p ((p.length : Int) - 1)) = true
          · simp only [hq, if_true]
            refine Ev.congr (fun k => if_pos hlast) (Ev.now _)
          · rw [if_neg hq, listEnd_map]
            refine Ev.congr (fun k => ?_) hn2
            rw [if_pos hlast, if_neg hq]
        · have : ¬ (ps.drop (i.toNat + 1) = [] ∧ isBl (rd p ((p.length : Int) - 1)) = true) := fun h => hlast (hnil.1 h.1)
          rw [if_neg this, listEnd_map]
          refine Ev.congr (fun k => if_neg hlast) hn2
      by_cases hi0 : i = 0
      · have hd0 : decide (i = 0) = true := decide_eq_true hi0
        rw [hd0]
        by_cases hq : isBl (rd p 0) = true
        · rw [if_pos ⟨rfl, hq⟩]
          refine Ev.congr (fun k => ?_) (Ev.now _)
          rw [if_pos hi0, if_pos hq]; rfl
        · rw [if_neg (fun h => hq h.2)]
          refine Ev.congr (fun k => ?_) key
          rw [if_pos hi0, if_neg hq, hw2]
      · have hd0 : decide (i = 0) = false := decide_eq_false hi0
        rw [hd0, if_neg (fun h => by cases h.1)]
        refine Ev.congr (fun k => ?_) key
        rw [if_neg hi0, hw2]
theorem TextLists : spencelaw03_TextLists.Pure := by
  intro s _
  refine Ev.rounds (g := fun k => spencelaw03_TextLists.f k s) ?_
  refine Ev.bind awake03 ?_
  simp only [if_true]
  by_cases c1 : (s.size : Int) > 500
  · simp only [c1, if_true]; exact Ev.now _
  simp only [c1, if_false]
  have h1 := list_ev s (by omega)
  rw [lists_lists2 _ _ _ (by rw [bytesOf_length]; omega)] at h1
  have hB := piecesOf_isB (bytesOf s) [] (bytesOf_isB s) (by simp)
  have hZ := piecesOf_size (bytesOf s) []
  have hL := piecesOf_len (bytesOf s) []
  rw [bytesOf_length] at hL
  simp only [bytesOf_length, List.length_nil] at hZ
  have h2 := ref_list_loop (piecesOf [] (bytesOf s)) hB (fun p hp => by have := hZ p hp; omega) (by omega) (piecesOf [] (bytesOf s)).length 0 [] (by omega) (by omega) (by omega) (by simp)
  rw [decide_eq_true rfl, Int.toNat_zero, List.drop_zero] at h2
  refine Ev.bind h1 ?_
  refine Ev.bind (pieces_ev s (by omega)) ?_
  refine Ev.bind (a := listEnd [] (lists2 true (piecesOf [] (bytesOf s)))) ?_ ?_
  · refine Ev.congr (fun k => ?_) h2
    unfold spenceref01_List.f
    rw [List.length_map]
  simp only [beq_self_eq_true, if_true]
  have hlen : (listEnd [] (lists2 true (piecesOf [] (bytesOf s)))).1.length ≤ 9223372036854775806 := by
    cases hl : lists2 true (piecesOf [] (bytesOf s)) with
    | none => simp [listEnd]
    | some ts =>
      have := lists2_len _ _ _ hl
      simp [listEnd]; omega
  have h3 := texts_ev (listEnd [] (lists2 true (piecesOf [] (bytesOf s)))).1 (listEnd [] (lists2 true (piecesOf [] (bytesOf s)))).1 hlen
  rw [decide_eq_true rfl] at h3
  exact Ev.bind h3 (Ev.now _)
end Go.Proofs.Ytbihggkkaoacpaa.Pure
