/- Validators as texts: what the functions of package etag and of its reference come to. -/
import Derived.Test.YtbihggkkaoacpaaText
import Derived.Test.YtbihggkkaoacpaaPAllx14
import Derived.Test.YtbihggkkaoacpaaPAllx18
import Derived.Test.YtbihggkkaoacpaaPAllx15
import Derived.Test.YtbihggkkaoacpaaPAllx18
namespace Go.Proofs.Ytbihggkkaoacpaa.Pure
open Go.RowKit Go.Proofs.Ytbihggkkaoacpaa.PAll Go.Proofs.YtbihggkkaoacpaaW.PrintWords Go.Proofs.YtbihggkkaoacpaaW.PrintLast Go.Proofs.YtbihggkkaoacpaaW.PrintMore
def may (b : Int) : Bool := b == 33 || (decide (b ≥ 35) && b != 127)
theorem may_eq (b : Int) : etag_may.f b = some (may b) := by
  unfold etag_may.f may
  by_cases h1 : b ≥ 128
  · have a1 : b ≥ 35 := by omega
    have a2 : b ≠ 127 := by omega
    rw [if_pos h1]; simp [a2]; omega
  · rw [if_neg h1]
    by_cases h2 : b = 33
    · rw [if_pos h2]; simp [h2]
    · rw [if_neg h2]
      by_cases h3 : b = 127
      · rw [if_pos h3, h3]; rfl
      · rw [if_neg h3]
        have e1 : (b == 33) = false := by simpa using h2
        have e2 : (b != 127) = true := by simpa using h3
        rw [e1, e2, Bool.false_or, Bool.and_true]
def plain (l : List Int) : Bool := l.all may
theorem plain_loop (s : ByteArray) (hs : s.size ≤ 9223372036854775806) (d : Nat) : ∀ i : Int, 0 ≤ i → i ≤ s.size → (s.size : Int) - i = d →
    Ev (fun k => etag_plain.l0 k s s.size i) (plain ((bytesOf s).drop i.toNat)) := by
  induction d with
  | zero =>
    intro i h0 h1 hd
    refine Ev.pos (fun k => ?_)
    simp only [etag_plain.l0]
    rw [if_neg (by omega), List.drop_of_length_le (by rw [bytesOf_length]; omega)]
    rfl
  | succ d ih =>
    intro i h0 h1 hd
    have hi : i < s.size := by omega
    rw [bytes_drop s i h0 hi, plain, List.all_cons]
    by_cases hb : may (bt s i) = true
    · rw [hb, Bool.true_and]
      refine Ev.step (fun k => ?_) (ih (i + 1) (by omega) (by omega) (by omega))
      simp only [etag_plain.l0, may_eq, Option.bind_some]
      rw [if_pos hi, if_pos h0, if_pos hi, if_pos hb, wrap_id (by omega)]
    · refine Ev.pos (fun k => ?_)
      simp only [etag_plain.l0, may_eq, Option.bind_some]
      rw [if_pos hi, if_pos h0, if_pos hi, if_neg hb]
      simp [hb]
theorem plain_ev (s : ByteArray) (hs : s.size ≤ 9223372036854775806) : Ev (fun k => etag_plain.f k s) (plain (bytesOf s)) := by
  have := plain_loop s hs s.size 0 (by omega) (by omega) (by omega)
  rw [Int.toNat_zero, List.drop_zero] at this
  exact this
theorem ref_plain_loop (s : ByteArray) (hs : s.size ≤ 9223372036854775806) (d : Nat) : ∀ i : Int, 0 ≤ i → i ≤ s.size → (s.size : Int) - i = d →
    Ev (fun k => spenceref04_Tag.l0 k s i) (plain ((bytesOf s).drop i.toNat)) := by
  induction d with
  | zero =>
    intro i h0 h1 hd
    refine Ev.pos (fun k => ?_)
    simp only [spenceref04_Tag.l0]
    rw [if_neg (by omega), List.drop_of_length_le (by rw [bytesOf_length]; omega)]
    rfl
  | succ d ih =>
    intro i h0 h1 hd
    have hi : i < s.size := by omega
    rw [bytes_drop s i h0 hi, plain, List.all_cons]
    have hn := ih (i + 1) (by omega) (by omega) (by omega)
    by_cases h1 : bt s i = 33
    · have e : may (bt s i) = true := by rw [h1]; rfl
      rw [e, Bool.true_and]
      refine Ev.step (fun k => ?_) hn
      simp only [spenceref04_Tag.l0]
      rw [if_pos hi, if_pos h0, if_pos h1, wrap_id (by omega)]
    · by_cases h2 : bt s i < 35
      · have e : may (bt s i) = false := by simp [may, h1]; intro h; omega
        refine Ev.pos (fun k => ?_)
        simp only [spenceref04_Tag.l0]
        rw [if_pos hi, if_pos h0, if_neg h1, if_pos h2, e]; rfl
      · by_cases h3 : bt s i = 127
        · have e : may (bt s i) = false := by rw [h3]; rfl
          refine Ev.pos (fun k => ?_)
          simp only [spenceref04_Tag.l0]
          rw [if_pos hi, if_pos h0, if_neg h1, if_neg h2, if_pos h3, e]; rfl
        · have e : may (bt s i) = true := by
            have : bt s i ≥ 35 := by omega
            simp [may, h3, this]
          rw [e, Bool.true_and]
          refine Ev.step (fun k => ?_) hn
          simp only [spenceref04_Tag.l0]
          rw [if_pos hi, if_pos h0, if_neg h1, if_neg h2, if_neg h3, wrap_id (by omega)]
theorem ref_plain_ev (s : ByteArray) (hs : s.size ≤ 9223372036854775806) : Ev (fun k => spenceref04_Tag.f k s) (plain (bytesOf s)) := by
  have := ref_plain_loop s hs s.size 0 (by omega) (by omega) (by omega)
  rw [Int.toNat_zero, List.drop_zero] at this
  exact this
theorem right_of (w : Bool) (s : ByteArray) (hs : s.size ≤ 9223372036854775806) : Ev (fun k => etag_Right.f k w s) (plain (bytesOf s) && decide (s.size ≤ 40)) := by
  refine Ev.bind (f := fun _ t => if t = true then some (decide ((s.size : Int) ≤ 40)) else some false) (plain_ev s hs) (Ev.all fun k => ?_)
  cases plain (bytesOf s)
  · rfl
  · simp; omega
/-! ### reading -/
/-- what stands between the marks -/
def inner (l : List Int) : List Int := (l.take (l.length - 1)).drop 1
/-- of the bytes behind the mark for weak: whether they are a validator -/
def isTag (l : List Int) : Bool := decide (2 ≤ l.length) && (rd l 0 == 34) && (rd l ((l.length : Int) - 1) == 34) && plain (inner l)
def weakOf (l : List Int) : Bool := decide (2 ≤ l.length) && (rd l 0 == 87) && (rd l 1 == 47)
def restOf (l : List Int) : List Int := if weakOf l then l.drop 2 else l
def tagOf (l : List Int) : Bool × ByteArray × Int :=
  if isTag (restOf l) then (if (restOf l).length > 42 then (false, strOfNums [], 10) else (weakOf l, strOfNums (inner (restOf l)), 0)) else (false, strOfNums [], 3)
theorem emp_str : (⟨#[]⟩ : ByteArray) = strOfNums [] := rfl
theorem prefix2 (s : ByteArray) : strings_CutPrefix.f s (⟨#[87, 47]⟩ : ByteArray) = some (if weakOf (bytesOf s) then (s.extract 2 s.size, true) else (s, false)) := by
  have hz : (⟨#[87, 47]⟩ : ByteArray).size = 2 := rfl
  have hp : stringslite_HasPrefix.f s (⟨#[87, 47]⟩ : ByteArray) = some (weakOf (bytesOf s)) := by
    unfold stringslite_HasPrefix.f weakOf
    rw [hz, bytesOf_length]
    by_cases h : 2 ≤ s.size
    · rw [if_pos (by omega), if_pos (by omega), if_pos (by omega), decide_eq_true h]
      rw [toList_beq, bytesOf_extract, rd_bytesOf, rd_bytesOf]
      have h1 := bytes_take s 0 (by omega) (by omega)
      have h2 := bytes_take s 1 (by omega) (by omega)
      have e0 : ((0 : Int) + 1).toNat = 1 := rfl
      have e1 : ((1 : Int) + 1).toNat = 2 := rfl
      have e2 : ((2 : Nat) : Int).toNat = 2 := rfl
      rw [e0] at h1; rw [e1] at h2
      have e3 : (1 : Int).toNat = 1 := rfl
      rw [e3, h1] at h2
      rw [e2, h2]
      have e4 : bytesOf (⟨#[87, 47]⟩ : ByteArray) = [87, 47] := rfl
      rw [e4]
      by_cases a : bt s 0 = 87 <;> by_cases b : bt s 1 = 47 <;> simp [a, b]
    · rw [if_neg (by omega), decide_eq_false h]; rfl
  unfold strings_CutPrefix.f stringslite_CutPrefix.f
  rw [hp, hz]
  by_cases h : weakOf (bytesOf s) = true
  · have h2 : 2 ≤ s.size := by
      have : weakOf (bytesOf s) = true := h
      unfold weakOf at this
      simp only [Bool.and_eq_true, decide_eq_true_eq, bytesOf_length] at this
      exact this.1.1
    simp only [Option.bind_some]
    rw [if_pos h, if_pos h, if_pos (by omega), if_pos (by omega)]
    rfl
  · simp only [Option.bind_some]
    rw [if_neg h, if_neg h]; rfl
theorem inner_str (s : ByteArray) : s.extract 1 ((s.size : Int) - 1).toNat = strOfNums (inner (bytesOf s)) := by
  rw [ext_str, inner, bytesOf_length]
  congr 3; omega
theorem inner_isB (s : ByteArray) : ∀ b ∈ inner (bytesOf s), isB b := fun b hb => bytesOf_isB s b (List.mem_of_mem_take (List.mem_of_mem_drop hb))
theorem inner_len (l : List Int) : (inner l).length = l.length - 2 := by unfold inner; rw [List.length_drop, List.length_take]; omega
def tagEnd (s : ByteArray) (w : Bool) : Bool × ByteArray × Int :=
  if isTag (bytesOf s) then (if s.size > 42 then (false, strOfNums [], 10) else (w, strOfNums (inner (bytesOf s)), 0)) else (false, strOfNums [], 3)
theorem parse_no (s : ByteArray) (w : Bool) (h : isTag (bytesOf s) = false) : Ev (fun k => etag_Parse.j0 k s w true) (tagEnd s w) := by
  refine Ev.pos (fun k => ?_)
  simp only [etag_Parse.j0]
  rw [if_pos trivial, tagEnd, h]; rfl
theorem parse_yes (s : ByteArray) (hs : s.size ≤ 9223372036854775806) (w : Bool) (h2 : 2 ≤ s.size) (ha : bt s 0 = 34) (hb : bt s ((s.size : Int) - 1) = 34) : Ev (fun k => etag_Parse.j0 k s w false) (tagEnd s w) := by
  have hw : wrap64 ((s.size : Int) - 1) = (s.size : Int) - 1 := wrap_id (by omega)
  have hit : isTag (bytesOf s) = plain (inner (bytesOf s)) := by
    unfold isTag
    rw [bytesOf_length, rd_bytesOf, rd_bytesOf, ha, hb, decide_eq_true h2]; simp
  have hil := inner_len (bytesOf s)
  rw [bytesOf_length] at hil
  refine Ev.succ ?_
  simp only [etag_Parse.j0, hw, inner_str]
  simp only [show (1 : Int) ≤ (s.size : Int) - 1 by omega, show (s.size : Int) - 1 ≤ (s.size : Int) by omega, if_true]
  have hp := plain_ev (strOfNums (inner (bytesOf s))) (by rw [size_str]; omega)
  have hr := right_of w (strOfNums (inner (bytesOf s))) (by rw [size_str]; omega)
  rw [bytesOf_str _ (inner_isB s)] at hp hr
  rw [size_str] at hr
  refine Ev.bind hp ?_
  by_cases hq : plain (inner (bytesOf s)) = true
  · simp only [hq, if_true]
    refine Ev.bind hr ?_
    rw [hq, Bool.true_and, tagEnd, hit, hq, if_pos rfl]
    by_cases hz : s.size > 42
    · rw [if_pos hz, decide_eq_false (by omega)]; exact Ev.all (fun k => rfl)
    · rw [if_neg hz, decide_eq_true (by omega)]; exact Ev.all (fun k => rfl)
  · have hq' : plain (inner (bytesOf s)) = false := by simpa using hq
    rw [tagEnd, hit, hq']
    exact Ev.all (fun k => rfl)
theorem isTag_no (s : ByteArray) (h : ¬ (2 ≤ s.size ∧ bt s 0 = 34 ∧ bt s ((s.size : Int) - 1) = 34)) : isTag (bytesOf s) = false := by
  unfold isTag
  rw [bytesOf_length, rd_bytesOf, rd_bytesOf]
  by_cases a : 2 ≤ s.size
  · by_cases b : bt s 0 = 34
    · have c : ¬ bt s ((s.size : Int) - 1) = 34 := fun c => h ⟨a, b, c⟩
      simp [c]
    · simp [b]
  · simp [a]
theorem rest_str (s : ByteArray) : bytesOf (s.extract 2 s.size) = (bytesOf s).drop 2 := by rw [bytesOf_extract, take_size]
theorem tagOf_end (s : ByteArray) : tagOf (bytesOf s) = tagEnd (if weakOf (bytesOf s) then s.extract 2 s.size else s) (weakOf (bytesOf s)) := by
  unfold tagOf tagEnd restOf
  by_cases h : weakOf (bytesOf s) = true
  · rw [if_pos h, if_pos h, ← rest_str s, bytesOf_length]
  · rw [if_neg h, if_neg h, bytesOf_length]
theorem etag_parse_ev (s : ByteArray) (hs : s.size ≤ 9223372036854775806) : Ev (fun k => etag_Parse.f k s) (tagOf (bytesOf s)) := by
  rw [tagOf_end]
  unfold etag_Parse.f
  rw [prefix2]
  simp only [Option.bind_some]
  generalize hx : (if weakOf (bytesOf s) = true then s.extract 2 s.size else s) = x
  have he : (if weakOf (bytesOf s) = true then (s.extract 2 s.size, true) else (s, false)) = (x, weakOf (bytesOf s)) := by
    rw [← hx]; by_cases h : weakOf (bytesOf s) = true
    · rw [if_pos h, if_pos h, h]
    · rw [if_neg h, if_neg h]; simp at h; rw [h]
  rw [he]
  have hxs : x.size ≤ 9223372036854775806 := by
    rw [← hx]; split
    · rw [ByteArray.size_extract]; omega
    · exact hs
  dsimp only
  by_cases h2 : (x.size : Int) < 2
  · simp only [h2, if_true]
    exact parse_no x _ (isTag_no x (by omega))
  have hw : wrap64 ((x.size : Int) - 1) = (x.size : Int) - 1 := wrap_id (by omega)
  simp only [h2, if_false, hw, show (0 : Int) < (x.size : Int) by omega, show (0 : Int) ≤ (x.size : Int) - 1 by omega, show (x.size : Int) - 1 < (x.size : Int) by omega, if_true]
  by_cases ha : bt x 0 = 34
  · simp only [ha, if_true]
    by_cases hb : bt x ((x.size : Int) - 1) = 34
    · rw [hb]; exact parse_yes x hxs _ (by omega) ha hb
    · have : (bt x ((x.size : Int) - 1) != 34) = true := by simpa using hb
      rw [this]; exact parse_no x _ (isTag_no x (fun h => hb h.2.2))
  · simp only [ha, if_false]
    exact parse_no x _ (isTag_no x (fun h => ha h.2.1))
/-! ### the reference's reading -/
theorem ref_no (s : ByteArray) (w : Bool) (h : isTag (bytesOf s) = false) : Ev (fun k => spenceref04_ETag.j2 k s w true) (tagEnd s w) := by
  refine Ev.pos (fun k => ?_)
  simp only [spenceref04_ETag.j2]
  rw [if_pos trivial, tagEnd, h]; rfl
theorem ref_rest (s : ByteArray) (hs : s.size ≤ 9223372036854775806) (w : Bool) : Ev (fun k => spenceref04_ETag.j1 k s w) (tagEnd s w) := by
  refine Ev.succ ?_
  simp only [spenceref04_ETag.j1]
  by_cases h2 : (s.size : Int) < 2
  · simp only [h2, if_true]
    exact ref_no s _ (isTag_no s (by omega))
  have hw : wrap64 ((s.size : Int) - 1) = (s.size : Int) - 1 := wrap_id (by omega)
  simp only [h2, if_false, hw, show (0 : Int) < (s.size : Int) by omega, show (0 : Int) ≤ (s.size : Int) - 1 by omega, show (s.size : Int) - 1 < (s.size : Int) by omega, if_true]
  by_cases ha : bt s 0 = 34
  · simp only [ha, if_true]
    by_cases hb : bt s ((s.size : Int) - 1) = 34
    · simp only [hb, if_true, inner_str, show (1 : Int) ≤ (s.size : Int) - 1 by omega, show (s.size : Int) - 1 ≤ (s.size : Int) by omega]
      have hil := inner_len (bytesOf s)
      rw [bytesOf_length] at hil
      have hp := ref_plain_ev (strOfNums (inner (bytesOf s))) (by rw [size_str]; omega)
      rw [bytesOf_str _ (inner_isB s)] at hp
      refine Ev.bind hp ?_
      have hit : isTag (bytesOf s) = plain (inner (bytesOf s)) := by
        unfold isTag
        rw [bytesOf_length, rd_bytesOf, rd_bytesOf, ha, hb, decide_eq_true (show 2 ≤ s.size by omega)]; simp
      by_cases hq : plain (inner (bytesOf s)) = true
      · rw [hq]
        refine Ev.pos (fun k => ?_)
        simp only [spenceref04_ETag.j2, hw, inner_str]
        rw [tagEnd, hit, hq, if_neg (by decide), if_pos rfl]
        by_cases hz : s.size > 42
        · rw [if_pos hz, if_pos (by omega)]; rfl
        · rw [if_neg hz, if_neg (by omega), if_pos (by omega), if_pos (by omega)]
      · have hq' : plain (inner (bytesOf s)) = false := by simpa using hq
        rw [hq']
        exact ref_no s _ (by rw [hit, hq'])
    · simp only [hb, if_false]
      exact ref_no s _ (isTag_no s (fun h => hb h.2.2))
  · simp only [ha, if_false]
    exact ref_no s _ (isTag_no s (fun h => ha h.2.1))
theorem ref_etag_ev (s : ByteArray) (hs : s.size ≤ 9223372036854775806) : Ev (fun k => spenceref04_ETag.f k s) (tagOf (bytesOf s)) := by
  rw [tagOf_end]
  have hno : weakOf (bytesOf s) = false → Ev (fun k => spenceref04_ETag.j0 k s false) (tagEnd (if weakOf (bytesOf s) then s.extract 2 s.size else s) (weakOf (bytesOf s))) := by
    intro h
    refine Ev.step (fun k => ?_) (by rw [h]; exact ref_rest s hs false)
    simp only [spenceref04_ETag.j0]
    rw [if_neg (by decide)]
  unfold spenceref04_ETag.f
  by_cases h2 : (s.size : Int) ≥ 2
  · simp only [h2, if_true, show (0 : Int) < (s.size : Int) by omega, show (1 : Int) < (s.size : Int) by omega]
    by_cases ha : bt s 0 = 87
    · simp only [ha, if_true]
      have hwk : weakOf (bytesOf s) = (bt s 1 == 47) := by
        unfold weakOf
        rw [bytesOf_length, rd_bytesOf, rd_bytesOf, ha, decide_eq_true (show 2 ≤ s.size by omega)]; simp
      by_cases hb : bt s 1 = 47
      · have e : (bt s 1 == 47) = true := by rw [hb]; rfl
        rw [hwk, e, if_pos rfl]
        refine Ev.step (fun k => ?_) (ref_rest (s.extract 2 s.size) (by rw [ByteArray.size_extract]; omega) true)
        simp only [spenceref04_ETag.j0]
        rw [if_pos trivial, if_pos (by omega)]
      · have e : (bt s 1 == 47) = false := by simpa using hb
        rw [e] at hwk ⊢
        exact hno hwk
    · simp only [ha, if_false]
      exact hno (by unfold weakOf; rw [rd_bytesOf]; simp [ha])
  · simp only [h2, if_false]
    refine hno ?_
    unfold weakOf
    rw [bytesOf_length, decide_eq_false (by omega)]; rfl
/-! ### printing -/
def tagText (w : Bool) (l : List Int) : List Int := (if w then [87, 47] else []) ++ (34 :: l ++ [34])
theorem print_bytes (w : Bool) (s : ByteArray) : (if w = true then (⟨#[87, 47]⟩ : ByteArray) ++ (((⟨#[34]⟩ : ByteArray) ++ s) ++ (⟨#[34]⟩ : ByteArray)) else ((⟨#[34]⟩ : ByteArray) ++ s) ++ (⟨#[34]⟩ : ByteArray)) = strOfNums (tagText w (bytesOf s)) := by
  have hb : ∀ b ∈ tagText w (bytesOf s), isB b := by
    intro b hb
    unfold tagText at hb
    rcases List.mem_append.1 hb with h | h
    · cases w
      · simp at h
      · simp at h; unfold isB; omega
    · simp only [List.cons_append, List.mem_cons, List.mem_append, List.not_mem_nil, or_false] at h
      rcases h with h | h | h
      · unfold isB; omega
      · exact bytesOf_isB s b h
      · unfold isB; omega
  rw [← bytesOf_inj, bytesOf_str _ hb]
  cases w <;> simp [tagText, bytesOf_append] <;> rfl
theorem etag_print_eq (w : Bool) (s : ByteArray) (hs : s.size ≤ 9223372036854775800) : etag_Print.f w s = some (strOfNums (tagText w (bytesOf s))) := by
  unfold etag_Print.f
  rw [if_pos (by omega), if_pos (by omega), ← print_bytes]
  cases w
  · rfl
  · rw [if_pos rfl, if_pos (by omega), if_pos rfl]
theorem ref_etag_print_eq (w : Bool) (s : ByteArray) (hs : s.size ≤ 9223372036854775800) : spenceref04_PrintTag.f w s = some (strOfNums (tagText w (bytesOf s))) := by
  unfold spenceref04_PrintTag.f
  rw [if_pos (by omega), if_pos (by omega), ← print_bytes]
  cases w
  · rfl
  · rw [if_pos rfl, if_pos (by omega), if_pos rfl]
end Go.Proofs.Ytbihggkkaoacpaa.Pure
