/- Texts without blanks at their ends: what the functions of package text and of its reference come to. -/
import Derived.Test.YtbihggkkaoacpaaTxt
import Derived.Test.YtbihggkkaoacpaaNums
import Derived.Test.YtbihggkkaoacpaaPAllx3
import Derived.Test.YtbihggkkaoacpaaPAllx4
import Derived.Test.YtbihggkkaoacpaaPAllx6
namespace Go.Proofs.Ytbihggkkaoacpaa.Pure
open Go.RowKit Go.Proofs.Ytbihggkkaoacpaa.PAll Go.Proofs.YtbihggkkaoacpaaW.PrintWords Go.Proofs.YtbihggkkaoacpaaW.PrintLast Go.Proofs.YtbihggkkaoacpaaW.PrintMore
def isBl (b : Int) : Bool := b == 32 || b == 9
def ltrim (l : List Int) : List Int := l.dropWhile isBl
def rtrim (l : List Int) : List Int := (l.reverse.dropWhile isBl).reverse
def trim (l : List Int) : List Int := ltrim (rtrim l)
theorem blank_eq (b : Int) : text_blank.f b = some (isBl b) := by
  unfold text_blank.f isBl; by_cases h : b = 32 <;> simp [h]
theorem ref_blank_eq (b : Int) : spenceref01_Blank.f b = some (isBl b) := by
  unfold spenceref01_Blank.f isBl; by_cases h : b = 32 <;> simp [h]
theorem rtrim_snoc (l : List Int) (b : Int) : rtrim (l ++ [b]) = if isBl b then rtrim l else l ++ [b] := by
  unfold rtrim
  rw [List.reverse_append, List.reverse_singleton, List.singleton_append, List.dropWhile_cons]
  by_cases h : isBl b = true
  · rw [if_pos h, if_pos h]
  · rw [if_neg h, if_neg h]; simp
theorem rtrim_nil : rtrim [] = [] := rfl
theorem ltrim_cons (l : List Int) (b : Int) : ltrim (b :: l) = if isBl b then ltrim l else b :: l := by
  unfold ltrim; rw [List.dropWhile_cons]
theorem ltrim_nil : ltrim [] = [] := rfl
theorem bytes_take (s : ByteArray) (i : Int) (h0 : 0 ≤ i) (h1 : i < s.size) : (bytesOf s).take (i + 1).toNat = (bytesOf s).take i.toNat ++ [bt s i] := by
  have hl : i.toNat < (bytesOf s).length := by rw [bytesOf_length]; omega
  have e : (i + 1).toNat = i.toNat + 1 := by omega
  rw [e, List.take_succ_eq_append_getElem hl, ← rd_bytesOf]
  simp [rd, hl]
theorem ext_str (s : ByteArray) (a b : Nat) : s.extract a b = strOfNums (((bytesOf s).take b).drop a) := by
  rw [← bytesOf_extract, str_bytes]
theorem take_size (s : ByteArray) : (bytesOf s).take s.size = bytesOf s := List.take_of_length_le (by rw [bytesOf_length]; omega)
theorem right_loop (s : ByteArray) (hs : s.size ≤ 9223372036854775806) (d : Nat) : ∀ i : Int, 0 ≤ i → i ≤ s.size → i = d →
    Ev (fun k => text_Right.l0 k s i) (strOfNums (rtrim ((bytesOf s).take i.toNat))) := by
  induction d with
  | zero =>
    intro i h0 h1 hd
    refine Ev.pos (fun k => ?_)
    simp only [text_Right.l0]
    rw [if_neg (by omega), if_pos h0, if_pos h1, ext_str]
    subst hd; rfl
  | succ d ih =>
    intro i h0 h1 hd
    have hw : wrap64 (i - 1) = i - 1 := wrap_id (by omega)
    have ht := bytes_take s (i - 1) (by omega) (by omega)
    have e1 : i - 1 + 1 = i := by omega
    rw [e1] at ht
    rw [ht, rtrim_snoc, ← ht]
    by_cases hb : isBl (bt s (i - 1)) = true
    · rw [if_pos hb]
      refine Ev.step (fun k => ?_) (ih (i - 1) (by omega) (by omega) (by omega))
      simp only [text_Right.l0, hw, blank_eq, Option.bind_some]
      rw [if_pos (by omega), if_pos (by omega), if_pos (by omega), if_pos hb]
    · rw [if_neg hb]
      refine Ev.pos (fun k => ?_)
      simp only [text_Right.l0, hw, blank_eq, Option.bind_some]
      rw [if_pos (by omega), if_pos (by omega), if_pos (by omega), if_neg hb, if_pos h0, if_pos h1, ext_str]
      rfl
theorem right_ev (s : ByteArray) (hs : s.size ≤ 9223372036854775806) : Ev (fun k => text_Right.f k s) (strOfNums (rtrim (bytesOf s))) := by
  have := right_loop s hs s.size s.size (by omega) (by omega) rfl
  rw [Int.toNat_natCast, take_size] at this
  exact this
theorem left_loop (s : ByteArray) (hs : s.size ≤ 9223372036854775806) (d : Nat) : ∀ i : Int, 0 ≤ i → i ≤ s.size → (s.size : Int) - i = d →
    Ev (fun k => text_Trim.l0 k s i) (strOfNums (ltrim ((bytesOf s).drop i.toNat))) := by
  induction d with
  | zero =>
    intro i h0 h1 hd
    refine Ev.pos (fun k => ?_)
    have hz : (bytesOf s).drop i.toNat = [] := List.drop_of_length_le (by rw [bytesOf_length]; omega)
    simp only [text_Trim.l0]
    rw [if_neg (by omega), if_pos h0, if_pos h1, ext_str, take_size, hz]
    rfl
  | succ d ih =>
    intro i h0 h1 hd
    have hi : i < s.size := by omega
    have hdr := bytes_drop s i h0 hi
    rw [hdr, ltrim_cons, ← hdr]
    by_cases hb : isBl (bt s i) = true
    · rw [if_pos hb]
      refine Ev.step (fun k => ?_) (ih (i + 1) (by omega) (by omega) (by omega))
      simp only [text_Trim.l0, blank_eq, Option.bind_some]
      rw [if_pos hi, if_pos h0, if_pos hb, wrap_id (by omega)]
    · rw [if_neg hb]
      refine Ev.pos (fun k => ?_)
      simp only [text_Trim.l0, blank_eq, Option.bind_some]
      rw [if_pos hi, if_pos h0, if_neg hb, if_pos h1, ext_str, take_size]
theorem dropWhile_len (p : Int → Bool) (l : List Int) : (l.dropWhile p).length ≤ l.length := (List.dropWhile_sublist p).length_le
theorem rtrim_len (l : List Int) : (rtrim l).length ≤ l.length := by
  unfold rtrim
  rw [List.length_reverse]
  exact Nat.le_trans (dropWhile_len _ _) (by rw [List.length_reverse]; omega)
theorem ltrim_len (l : List Int) : (ltrim l).length ≤ l.length := dropWhile_len _ _
theorem trim_len (l : List Int) : (trim l).length ≤ l.length := Nat.le_trans (ltrim_len _) (rtrim_len _)
theorem rtrim_mem {l : List Int} {b : Int} (h : b ∈ rtrim l) : b ∈ l := by
  unfold rtrim at h
  exact List.mem_reverse.1 ((List.dropWhile_sublist isBl).mem (List.mem_reverse.1 h))
theorem ltrim_mem {l : List Int} {b : Int} (h : b ∈ ltrim l) : b ∈ l := (List.dropWhile_sublist isBl).mem h
theorem trim_mem {l : List Int} {b : Int} (h : b ∈ trim l) : b ∈ l := rtrim_mem (ltrim_mem h)
theorem trim_ev (s : ByteArray) (hs : s.size ≤ 9223372036854775806) : Ev (fun k => text_Trim.f k s) (strOfNums (trim (bytesOf s))) := by
  refine Ev.bind (f := fun k t => text_Trim.l0 k t 0) (right_ev s hs) ?_
  have hl : (rtrim (bytesOf s)).length ≤ s.size := by have := rtrim_len (bytesOf s); rwa [bytesOf_length] at this
  have := left_loop (strOfNums (rtrim (bytesOf s))) (by rw [size_str]; omega) (rtrim (bytesOf s)).length 0 (by omega) (by omega) (by rw [size_str]; omega)
  rw [bytesOf_str _ (fun b hb => bytesOf_isB s b (rtrim_mem hb))] at this
  exact this
theorem ref_left_loop (d : Nat) : ∀ (s : ByteArray), s.size ≤ 9223372036854775806 → s.size = d →
    Ev (fun k => spenceref01_Trim.l1 k s false) (strOfNums (ltrim (bytesOf s))) := by
  induction d with
  | zero =>
    intro s hs hd
    refine Ev.pos (fun k => ?_)
    have hz : bytesOf s = [] := (bytesOf_eq_nil s).2 hd
    simp only [spenceref01_Trim.l1]
    rw [if_neg (by decide), if_neg (by omega), ← str_bytes s, hz]
    rfl
  | succ d ih =>
    intro s hs hd
    have hdr := bytes_drop s 0 (by omega) (by omega)
    rw [Int.toNat_zero, List.drop_zero] at hdr
    have hx : bytesOf (s.extract 1 s.size) = (bytesOf s).drop (0 + 1 : Int).toNat := by rw [bytesOf_extract, take_size]; rfl
    rw [hdr, ltrim_cons, ← hdr]
    by_cases hb : isBl (bt s 0) = true
    · rw [if_pos hb, ← hx]
      refine Ev.step (fun k => ?_) (ih (s.extract 1 s.size) (by rw [ByteArray.size_extract]; omega) (by rw [ByteArray.size_extract]; omega))
      simp only [spenceref01_Trim.l1, ref_blank_eq, Option.bind_some]
      rw [if_neg (by decide), if_pos (by omega), if_pos (by omega), if_pos hb, if_pos (by omega)]
    · rw [if_neg hb, str_bytes]
      refine Ev.pos (fun k => ?_)
      simp only [spenceref01_Trim.l1, ref_blank_eq, Option.bind_some]
      rw [if_neg (by decide), if_pos (by omega), if_pos (by omega), if_neg hb]
def rtrims (l : List Int) (r : Bool) : List Int := if r then rtrim l else trim l
theorem ref_end (s : ByteArray) (hs : s.size ≤ 9223372036854775806) (r : Bool) (h : rtrim (bytesOf s) = bytesOf s) :
    Ev (fun k => spenceref01_Trim.j1 k s r) (strOfNums (rtrims (bytesOf s) r)) := by
  refine Ev.succ ?_
  simp only [spenceref01_Trim.j1]
  cases r with
  | true =>
    refine Ev.pos (fun k => ?_)
    simp only [spenceref01_Trim.l1]
    rw [if_pos trivial, rtrims, if_pos rfl, h, str_bytes]
  | false =>
    rw [rtrims, if_neg (by decide), trim, h]
    exact ref_left_loop s.size s hs rfl
theorem ref_trim_ev (r : Bool) (d : Nat) : ∀ (s : ByteArray), s.size ≤ 9223372036854775806 → s.size = d →
    Ev (fun k => spenceref01_Trim.l0 k s r) (strOfNums (rtrims (bytesOf s) r)) := by
  induction d with
  | zero =>
    intro s hs hd
    have hz : bytesOf s = [] := (bytesOf_eq_nil s).2 hd
    refine Ev.step (fun k => ?_) (ref_end s hs r (by rw [hz]; rfl))
    simp only [spenceref01_Trim.l0]
    rw [if_neg (by omega)]
  | succ d ih =>
    intro s hs hd
    have hw : wrap64 ((s.size : Int) - 1) = (s.size : Int) - 1 := wrap_id (by omega)
    have ht := bytes_take s ((s.size : Int) - 1) (by omega) (by omega)
    have e1 : ((s.size : Int) - 1 + 1).toNat = s.size := by omega
    rw [e1, take_size] at ht
    have hr := rtrim_snoc ((bytesOf s).take ((s.size : Int) - 1).toNat) (bt s ((s.size : Int) - 1))
    rw [← ht] at hr
    have hx : bytesOf (s.extract 0 ((s.size : Int) - 1).toNat) = (bytesOf s).take ((s.size : Int) - 1).toNat := by rw [bytesOf_extract, List.drop_zero]
    by_cases hb : isBl (bt s ((s.size : Int) - 1)) = true
    · rw [if_pos hb, ← hx] at hr
      have e : rtrims (bytesOf s) r = rtrims (bytesOf (s.extract 0 ((s.size : Int) - 1).toNat)) r := by
        unfold rtrims trim; rw [hr]
      rw [e]
      refine Ev.step (fun k => ?_) (ih (s.extract 0 ((s.size : Int) - 1).toNat) (by rw [ByteArray.size_extract]; omega) (by rw [ByteArray.size_extract]; omega))
      simp only [spenceref01_Trim.l0, hw, ref_blank_eq, Option.bind_some]
      rw [if_pos (by omega), if_pos (by omega), if_pos (by omega), if_pos hb, if_pos (by omega)]
    · rw [if_neg hb] at hr
      refine Ev.step (fun k => ?_) (ref_end s hs r hr)
      simp only [spenceref01_Trim.l0, hw, ref_blank_eq, Option.bind_some]
      rw [if_pos (by omega), if_pos (by omega), if_pos (by omega), if_neg hb]
theorem ref_trim_eq (s : ByteArray) (hs : s.size ≤ 9223372036854775806) (r : Bool) : Ev (fun k => spenceref01_Trim.f k s r) (strOfNums (rtrims (bytesOf s) r)) := ref_trim_ev r s.size s hs rfl
end Go.Proofs.Ytbihggkkaoacpaa.Pure
