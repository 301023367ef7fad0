/- What any texts are without blanks, in small letters, cut at any byte, and whether they are blank, a token, or alike: the plain law. -/
import Derived.Test.YtbihggkkaoacpaaTList
import Derived.Test.YtbihggkkaoacpaaPAllx23
namespace Go.Proofs.Ytbihggkkaoacpaa.Pure
open Go.RowKit Go.Proofs.Ytbihggkkaoacpaa.Xw Go.Proofs.Ytbihggkkaoacpaa.PAll Go.Proofs.YtbihggkkaoacpaaW.PrintWords Go.Proofs.YtbihggkkaoacpaaW.PrintLast Go.Proofs.YtbihggkkaoacpaaW.PrintMore
theorem trim_nil_iff (l : List Int) : trim l = [] ↔ rtrim l = [] := by
  constructor
  · intro h
    rcases List.eq_nil_or_concat (rtrim l) with h1 | ⟨f, x, h1⟩
    · exact h1
    · exfalso
      rw [List.concat_eq_append] at h1
      unfold trim at h
      have hx : isBl x = true := by
        have : ∀ (m : List Int), ltrim m = [] → ∀ y ∈ m, isBl y = true := by
          intro m
          induction m with
          | nil => intro _ y hy; cases hy
          | cons z m ih =>
            intro hm y hy
            rw [ltrim_cons] at hm
            by_cases hz : isBl z = true
            · rw [if_pos hz] at hm
              rcases List.mem_cons.1 hy with e | e
              · rw [e]; exact hz
              · exact ih hm y e
            · rw [if_neg hz] at hm; cases hm
        exact this _ h x (by rw [h1]; simp)
      -- the last byte of rtrim is no blank
      have hidem : rtrim (rtrim l) = rtrim l := by
        unfold rtrim
        rw [List.reverse_reverse]
        congr 1
        generalize l.reverse = m
        induction m with
        | nil => rfl
        | cons z m ih =>
          rw [List.dropWhile_cons]
          by_cases hz : isBl z = true
          · rw [if_pos hz]; exact ih
          · rw [if_neg hz, List.dropWhile_cons, if_neg hz]
      rw [h1, rtrim_snoc, hx, if_pos rfl] at hidem
      have := congrArg List.length hidem
      have h2 := rtrim_len f
      rw [List.length_append, List.length_singleton] at this; omega
  · intro h; unfold trim; rw [h]; rfl
theorem lowI_isB (b : Int) (h : isB b) : isB (lowI b) := by unfold isB lowI at *; split <;> omega
theorem lower_eq (s : ByteArray) (hs : s.size ≤ 9223372036854775807) : text_Lower.f s = some (strOfNums ((bytesOf s).map lowI)) := by unfold text_Lower.f; rw [if_pos hs]
theorem ref_lower_loop (s : ByteArray) (hs : s.size ≤ 9223372036854775806) (d : Nat) : ∀ (i : Int), 0 ≤ i → i ≤ s.size → (s.size : Int) - i = d →
    Ev (fun k => spenceref01_Lower.l0 k s (strOfNums (((bytesOf s).take i.toNat).map lowI)) i) (strOfNums ((bytesOf s).map lowI)) := by
  induction d with
  | zero =>
    intro i h0 h1 hd
    refine Ev.pos (fun k => ?_)
    simp only [spenceref01_Lower.l0]
    rw [if_neg (by omega), List.take_of_length_le (by rw [bytesOf_length]; omega)]
  | succ d ih =>
    intro i h0 h1 hd
    have hi : i < s.size := by omega
    have hb := bt_range s i
    have hlen : (strOfNums (((bytesOf s).take i.toNat).map lowI)).size = i.toNat := by
      rw [size_str, List.length_map, List.length_take, bytesOf_length]; omega
    have hadd : ∀ y, y = lowI (bt s i) → strOfNums (((bytesOf s).take i.toNat).map lowI) ++ strOfNums [y] = strOfNums (((bytesOf s).take (i + 1).toNat).map lowI) := by
      intro y hy
      rw [str_append, bytes_take s i h0 hi, List.map_append, hy]; rfl
    have hs1 : ∀ y : Int, (strOfNums [y]).size = 1 := fun y => size_str [y]
    refine Ev.step (fun k => ?_) (ih (i + 1) (by omega) (by omega) (by omega))
    simp only [spenceref01_Lower.l0, Option.bind_some, hlen, hs1]
    rw [if_pos hi, if_pos h0, wrap_id (by omega)]
    by_cases c1 : bt s i ≥ 65
    · rw [if_pos c1]
      by_cases c2 : bt s i ≤ 90
      · rw [if_pos c2, if_pos (by omega), hadd _ (by unfold lowI; rw [if_pos ⟨c1, c2⟩]; omega)]
      · rw [if_neg c2, if_pos (by omega), hadd _ (by unfold lowI; rw [if_neg (by omega)])]
    · rw [if_neg c1, if_pos (by omega), hadd _ (by unfold lowI; rw [if_neg (by omega)])]
theorem ref_lower_ev (s : ByteArray) (hs : s.size ≤ 9223372036854775806) : Ev (fun k => spenceref01_Lower.f k s) (strOfNums ((bytesOf s).map lowI)) := by
  have := ref_lower_loop s hs s.size 0 (by omega) (by omega) (by omega)
  rw [Int.toNat_zero, List.take_zero] at this
  exact this
/-! ### tokens -/
def letters : List Int := [33, 35, 36, 37, 38, 39, 42, 43, 45, 46, 94, 95, 124, 126]
def isTok (b : Int) : Bool := decide (b ∈ letters) || b == 96 || (decide (48 ≤ b ∧ b ≤ 57) || decide (65 ≤ b ∧ b ≤ 90) || decide (97 ≤ b ∧ b ≤ 122))
theorem letter_eq (b : Int) : text_letter.f b = some (decide (48 ≤ b ∧ b ≤ 57) || decide (65 ≤ b ∧ b ≤ 90) || decide (97 ≤ b ∧ b ≤ 122)) := by
  unfold text_letter.f
  by_cases a : b ≥ 97 <;> by_cases a2 : b ≤ 122 <;> by_cases c : b ≥ 65 <;> by_cases c2 : b ≤ 90 <;> by_cases d : b ≥ 48 <;> by_cases d2 : b ≤ 57 <;> simp [a, a2, c, c2, d, d2] <;> omega
theorem part_j (b : Int) (q : Bool) : Ev (fun k => text_part.j0 k b b q) (q || (decide (b ∈ ([42, 43, 45, 46, 94, 95, 96, 124, 126] : List Int)) || (decide (48 ≤ b ∧ b ≤ 57) || decide (65 ≤ b ∧ b ≤ 90) || decide (97 ≤ b ∧ b ≤ 122)))) := by
  refine Ev.pos (fun k => ?_)
  simp only [text_part.j0, letter_eq, Option.bind_some]
  cases q with
  | true => rw [if_pos rfl]; rfl
  | false =>
    rw [if_neg (by decide)]
    by_cases h1 : b = 42
    · rw [if_pos h1]; simp [h1]
    rw [if_neg h1]
    by_cases h2 : b = 43
    · rw [if_pos h2]; simp [h2]
    rw [if_neg h2]
    by_cases h3 : b = 45
    · rw [if_pos h3]; simp [h3]
    rw [if_neg h3]
    by_cases h4 : b = 46
    · rw [if_pos h4]; simp [h4]
    rw [if_neg h4]
    by_cases h5 : b = 94
    · rw [if_pos h5]; simp [h5]
    rw [if_neg h5]
    by_cases h6 : b = 95
    · rw [if_pos h6]; simp [h6]
    rw [if_neg h6]
    by_cases h7 : b = 96
    · rw [if_pos h7]; simp [h7]
    rw [if_neg h7]
    by_cases h8 : b = 124
    · rw [if_pos h8]; simp [h8]
    rw [if_neg h8]
    by_cases h9 : b = 126
    · rw [if_pos h9]; simp [h9]
    rw [if_neg h9]
    have : ¬ b ∈ ([42, 43, 45, 46, 94, 95, 96, 124, 126] : List Int) := by simp [h1, h2, h3, h4, h5, h6, h7, h8, h9]
    rw [decide_eq_false this]; rfl
theorem part_ev (b : Int) : Ev (fun k => text_part.f k b) (isTok b) := by
  have key : ∀ q : Bool, (q = decide (b ∈ ([33, 35, 36, 37, 38, 39] : List Int))) → Ev (fun k => text_part.j0 k b b q) (isTok b) := by
    intro q hq
    have := part_j b q
    have e : (q || (decide (b ∈ ([42, 43, 45, 46, 94, 95, 96, 124, 126] : List Int)) || (decide (48 ≤ b ∧ b ≤ 57) || decide (65 ≤ b ∧ b ≤ 90) || decide (97 ≤ b ∧ b ≤ 122)))) = isTok b := by
      unfold isTok letters
      rw [hq, Bool.eq_iff_iff]
      simp only [Bool.or_eq_true, decide_eq_true_eq, List.mem_cons, List.not_mem_nil, or_false, beq_iff_eq]
      omega
    rw [e] at this; exact this
  unfold text_part.f
  by_cases h1 : b = 33
  · simp only [h1, if_true]; exact h1 ▸ key _ (by simp [h1])
  simp only [h1, if_false]
  by_cases h2 : b = 35
  · simp only [h2, if_true]; exact h2 ▸ key _ (by simp [h2])
  simp only [h2, if_false]
  by_cases h3 : b = 36
  · simp only [h3, if_true]; exact h3 ▸ key _ (by simp [h3])
  simp only [h3, if_false]
  by_cases h4 : b = 37
  · simp only [h4, if_true]; exact h4 ▸ key _ (by simp [h4])
  simp only [h4, if_false]
  by_cases h5 : b = 38
  · simp only [h5, if_true]; exact h5 ▸ key _ (by simp [h5])
  simp only [h5, if_false]
  exact key _ (by simp [h1, h2, h3, h4, h5]; rw [Bool.eq_iff_iff]; simp)
def token (l : List Int) : Bool := l.all isTok && !l.isEmpty
theorem token_loop (s : ByteArray) (hs : s.size ≤ 9223372036854775806) (d : Nat) : ∀ i : Int, 0 ≤ i → i ≤ s.size → (s.size : Int) - i = d →
    Ev (fun k => text_Token.l0 k s s.size i) (((bytesOf s).drop i.toNat).all isTok && !(bytesOf s).isEmpty) := by
  have he : (s.toList != ([] : List UInt8)) = !(bytesOf s).isEmpty := by
    have := toList_nil s
    rw [Bool.eq_iff_iff, bne_iff_ne, ne_eq, this]; simp
  induction d with
  | zero =>
    intro i h0 h1 hd
    refine Ev.pos (fun k => ?_)
    simp only [text_Token.l0]
    rw [if_neg (by omega), List.drop_of_length_le (by rw [bytesOf_length]; omega), he]; rfl
  | succ d ih =>
    intro i h0 h1 hd
    have hi : i < s.size := by omega
    rw [bytes_drop s i h0 hi, List.all_cons]
    refine Ev.succ ?_
    simp only [text_Token.l0]
    simp only [hi, h0, if_true]
    refine Ev.bind (part_ev (bt s i)) ?_
    cases hb : isTok (bt s i)
    · exact Ev.now _
    · simp only [if_true, Bool.true_and]
      rw [wrap_id (x := i + 1) (by omega)]
      exact ih (i + 1) (by omega) (by omega) (by omega)
theorem token_ev (s : ByteArray) (hs : s.size ≤ 9223372036854775806) : Ev (fun k => text_Token.f k s) (token (bytesOf s)) := by
  have := token_loop s hs s.size 0 (by omega) (by omega) (by omega)
  rw [Int.toNat_zero, List.drop_zero] at this
  exact this
theorem fold_eq (s t : ByteArray) (hs : s.size ≤ 9223372036854775807) (ht : t.size ≤ 9223372036854775807) : text_Fold.f s t = some ((strOfNums ((bytesOf s).map lowI)).toList == (strOfNums ((bytesOf t).map lowI)).toList) := by
  unfold text_Fold.f
  rw [lower_eq s hs, lower_eq t ht]; rfl
theorem blank_ev (s : ByteArray) (hs : s.size ≤ 9223372036854775806) : Ev (fun k => text_Blank.f k s) (decide (rtrim (bytesOf s) = [])) := by
  refine Ev.bind (right_ev s hs) ?_
  have e : ((strOfNums (rtrim (bytesOf s))).toList == ([] : List UInt8)) = decide (rtrim (bytesOf s) = []) := by
    rw [Bool.eq_iff_iff, beq_iff_eq, toList_nil, bytesOf_str _ (fun b hb => bytesOf_isB s b (rtrim_mem hb))]; simp
  rw [e]; exact Ev.now _
/-! ### the reference's tokens -/
theorem mark_at (i : Int) : bt (⟨#[33, 35, 36, 37, 38, 39, 42, 43, 45, 46, 94, 95, 124, 126]⟩ : ByteArray) i = rd letters i := by
  rw [← rd_bytesOf]; rfl
theorem ref_tok_true (s : ByteArray) (i b : Int) (r : Bool) (hr : Ev (fun k => spenceref01_Token.l0 k s (wrap64 (i + 1))) r) (d : Nat) : ∀ j : Int, 0 ≤ j → j ≤ 14 → 14 - j = d → Ev (fun k => spenceref01_Token.l1 k s i b true j) r := by
  induction d with
  | zero =>
    intro j h0 h1 hd
    refine Ev.step (fun k => ?_) hr
    simp only [spenceref01_Token.l1]
    rw [if_neg (by omega), if_pos trivial]
  | succ d ih =>
    intro j h0 h1 hd
    refine Ev.step (fun k => ?_) (ih (j + 1) (by omega) (by omega) (by omega))
    simp only [spenceref01_Token.l1]
    rw [if_pos (by omega), if_pos trivial, wrap_id (by omega)]
theorem ref_tok_marks (s : ByteArray) (i b : Int) (r : Bool) (hr : Ev (fun k => spenceref01_Token.l0 k s (wrap64 (i + 1))) r) (d : Nat) : ∀ j : Int, 0 ≤ j → j ≤ 14 → 14 - j = d →
    Ev (fun k => spenceref01_Token.l1 k s i b false j) (decide (b ∈ letters.drop j.toNat) && r) := by
  induction d with
  | zero =>
    intro j h0 h1 hd
    refine Ev.pos (fun k => ?_)
    have : letters.drop j.toNat = [] := List.drop_of_length_le (by simp [letters]; omega)
    simp only [spenceref01_Token.l1]
    rw [if_neg (by omega), if_neg (by decide), this]; rfl
  | succ d ih =>
    intro j h0 h1 hd
    have hj : j.toNat < letters.length := by simp [letters]; omega
    have hdr := List.drop_eq_getElem_cons hj
    have e1 : (j + 1).toNat = j.toNat + 1 := by omega
    have hrd : rd letters j = letters[j.toNat] := by simp [rd, hj]
    refine Ev.succ ?_
    simp only [spenceref01_Token.l1, mark_at j]
    simp only [show j < 14 by omega, Bool.false_eq_true, if_true, if_false, h0]
    rw [wrap_id (by omega), hdr, hrd]
    by_cases hb : letters[j.toNat] = b
    · have e2 : (letters[j.toNat] == b) = true := by simpa using hb
      rw [e2, decide_eq_true (by rw [hb]; exact List.mem_cons_self), Bool.true_and]
      exact ref_tok_true s i b r hr d (j + 1) (by omega) (by omega) (by omega)
    · have e2 : (letters[j.toNat] == b) = false := by simpa using hb
      have e3 : decide (b ∈ letters[j.toNat] :: letters.drop (j.toNat + 1)) = decide (b ∈ letters.drop (j.toNat + 1)) := by
        rw [decide_eq_decide, List.mem_cons]
        exact ⟨fun h => h.resolve_left (fun e => hb e.symm), .inr⟩
      rw [e2, e3, ← e1]
      exact ih (j + 1) (by omega) (by omega) (by omega)
theorem ref_tok_j1 (s : ByteArray) (i b : Int) (q r : Bool) (hr : Ev (fun k => spenceref01_Token.l0 k s (wrap64 (i + 1))) r) : Ev (fun k => spenceref01_Token.j1 k s i b q) ((q || decide (b ∈ letters)) && r) := by
  refine Ev.step (f := fun k => spenceref01_Token.l1 k s i b q 0) (fun k => by simp only [spenceref01_Token.j1]) ?_
  cases q with
  | true => simpa using ref_tok_true s i b r hr 14 0 (by omega) (by omega) (by omega)
  | false => simpa using ref_tok_marks s i b r hr 14 0 (by omega) (by omega) (by omega)
theorem ref_token_loop (s : ByteArray) (hs : s.size ≤ 9223372036854775806) (d : Nat) : ∀ i : Int, 0 ≤ i → i ≤ s.size → (s.size : Int) - i = d →
    Ev (fun k => spenceref01_Token.l0 k s i) (((bytesOf s).drop i.toNat).all isTok && !(bytesOf s).isEmpty) := by
  induction d with
  | zero =>
    intro i h0 h1 hd
    refine Ev.pos (fun k => ?_)
    simp only [spenceref01_Token.l0]
    rw [if_neg (by omega), List.drop_of_length_le (by rw [bytesOf_length]; omega)]
    have : decide ((s.size : Int) > 0) = !(bytesOf s).isEmpty := by
      have h3 := bytesOf_eq_nil s
      by_cases h4 : s.size = 0
      · rw [h3.2 h4, decide_eq_false (by omega)]; rfl
      · have : (bytesOf s).isEmpty = false := by
          rw [List.isEmpty_eq_false_iff]; exact fun e => h4 (h3.1 e)
        rw [this, decide_eq_true (by omega)]; rfl
    rw [this]; rfl
  | succ d ih =>
    intro i h0 h1 hd
    have hi : i < s.size := by omega
    rw [bytes_drop s i h0 hi, List.all_cons, Bool.and_assoc]
    have hn := ih (i + 1) (by omega) (by omega) (by omega)
    have hn2 : Ev (fun k => spenceref01_Token.l0 k s (wrap64 (i + 1))) (((bytesOf s).drop (i + 1).toNat).all isTok && !(bytesOf s).isEmpty) := by rw [wrap_id (by omega)]; exact hn
    have key : ∀ q : Bool, (q || decide (bt s i ∈ letters)) = isTok (bt s i) → Ev (fun k => spenceref01_Token.j1 k s i (bt s i) q) (isTok (bt s i) && (((bytesOf s).drop (i + 1).toNat).all isTok && !(bytesOf s).isEmpty)) := by
      intro q hq
      have := ref_tok_j1 s i (bt s i) q _ hn2
      rw [hq] at this; exact this
    refine Ev.succ ?_
    simp only [spenceref01_Token.l0, ref_digit_eq, Option.bind_some]
    simp only [hi, h0, if_true]
    have hdg := isDig_iff (bt s i)
    generalize bt s i = b at key hdg ⊢
    have htok : ∀ q : Bool, (q = true ↔ b = 96 ∨ (48 ≤ b ∧ b ≤ 57) ∨ (65 ≤ b ∧ b ≤ 90) ∨ (97 ≤ b ∧ b ≤ 122)) → (q || decide (b ∈ letters)) = isTok b := by
      intro q hq
      unfold isTok
      rw [Bool.eq_iff_iff]
      simp only [Bool.or_eq_true, hq, decide_eq_true_eq, beq_iff_eq]
      constructor
      · rintro ((h | h | h | h) | h)
        · exact .inl (.inr h)
        · exact .inr (.inl (.inl h))
        · exact .inr (.inl (.inr h))
        · exact .inr (.inr h)
        · exact .inl (.inl h)
      · rintro ((h | h) | ((h | h) | h))
        · exact .inr h
        · exact .inl (.inl h)
        · exact .inl (.inr (.inl h))
        · exact .inl (.inr (.inr (.inl h)))
        · exact .inl (.inr (.inr (.inr h)))
    by_cases c0 : isDig b = true
    · simp only [c0, if_true]
      have := hdg.1 c0
      exact key true (htok true (by simp; omega))
    have c0' : ¬ (48 ≤ b ∧ b ≤ 57) := fun h => c0 (hdg.2 h)
    simp only [c0, Bool.false_eq_true, if_false]
    have kf : ¬ (65 ≤ b ∧ b ≤ 90) → ¬ (97 ≤ b ∧ b ≤ 122) → Ev (fun k => spenceref01_Token.j1 k s i b (b == 96)) (isTok b && (((bytesOf s).drop (i + 1).toNat).all isTok && !(bytesOf s).isEmpty)) := by
      intro h1 h2
      exact key _ (htok _ (by simp only [beq_iff_eq]; omega))
    by_cases c1 : b ≥ 97
    · simp only [c1, if_true]
      by_cases c2 : b ≤ 122
      · simp only [c2, if_true]; exact key true (htok true (by simp; omega))
      · simp only [c2, if_false, show b ≥ 65 by omega, show ¬ b ≤ 90 by omega, if_true]; exact kf (by omega) (by omega)
    · simp only [c1, if_false]
      by_cases c3 : b ≥ 65
      · simp only [c3, if_true]
        by_cases c4 : b ≤ 90
        · simp only [c4, if_true]; exact key true (htok true (by simp; omega))
        · simp only [c4, if_false]; exact kf (by omega) (by omega)
      · simp only [c3, if_false]; exact kf (by omega) (by omega)
theorem ref_token_ev (s : ByteArray) (hs : s.size ≤ 9223372036854775806) : Ev (fun k => spenceref01_Token.f k s) (token (bytesOf s)) := by
  have := ref_token_loop s hs s.size 0 (by omega) (by omega) (by omega)
  rw [Int.toNat_zero, List.drop_zero] at this
  exact this
theorem TextTells : spencelaw03_TextTells.Pure := by
  intro s t b _ _ hb
  have hb := bounds_u8 hb
  refine Ev.rounds (g := fun k => spencelaw03_TextTells.f k s t b) ?_
  refine Ev.bind awake03 ?_
  simp only [if_true]
  have hyes : Ev (fun k => spencelaw03_TextTells.j0 k s t b true) true := Ev.pos (fun k => by simp [spencelaw03_TextTells.j0])
  by_cases c1 : (s.size : Int) > 500
  · simp only [c1, if_true]; exact hyes
  simp only [c1, if_false]
  by_cases c2 : (t.size : Int) > 500
  · rw [decide_eq_true c2]; exact hyes
  rw [decide_eq_false c2]
  have hs : s.size ≤ 9223372036854775806 := by omega
  refine Ev.succ ?_
  simp only [spencelaw03_TextTells.j0, Bool.false_eq_true, if_false, cut_eq s b (by unfold isB; omega) hs, lower_eq s (by omega), fold_eq s t (by omega) (by omega), Option.bind_some]
  refine Ev.bind (ref_cut_ev s b (by omega)) ?_
  have t1 := ref_trim_eq s hs false
  have t2 := ref_trim_eq s hs true
  rw [rtrims, if_neg (by decide)] at t1
  rw [rtrims, if_pos rfl] at t2
  refine Ev.bind t1 ?_
  refine Ev.bind (trim_ev s hs) ?_
  simp only [if_true]
  refine Ev.bind (right_ev s hs) ?_
  refine Ev.bind t2 ?_
  simp only [if_true]
  refine Ev.bind (blank_ev s hs) ?_
  have e1 : (decide (rtrim (bytesOf s) = []) == ((strOfNums (trim (bytesOf s))).toList == ([] : List UInt8))) = true := by
    rw [beq_iff_eq, Bool.eq_iff_iff, beq_iff_eq, toList_nil, bytesOf_str _ (fun b hb => bytesOf_isB s b (trim_mem hb)), trim_nil_iff]; simp
  simp only [e1, if_true]
  refine Ev.bind (ref_lower_ev s hs) ?_
  simp only [if_true]
  refine Ev.bind (token_ev s hs) ?_
  refine Ev.bind (ref_token_ev s hs) ?_
  simp only [beq_self_eq_true, if_true]
  refine Ev.bind (ref_lower_ev s hs) ?_
  refine Ev.bind (ref_lower_ev t (by omega)) ?_
  simp only [beq_self_eq_true, if_true]
  exact Ev.now _
end Go.Proofs.Ytbihggkkaoacpaa.Pure
