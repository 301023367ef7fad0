/- Any number that may be is read of its own text, with any noughts ahead; no other text without them is read as it: the plain law. -/
import Derived.Test.YtbihggkkaoacpaaPureNumsAdds
import Derived.Test.YtbihggkkaoacpaaPAllx12
namespace Go.Proofs.Ytbihggkkaoacpaa.Pure
open Go.RowKit Go.Proofs.Ytbihggkkaoacpaa.PAll Go.Proofs.YtbihggkkaoacpaaW.PrintWords Go.Proofs.YtbihggkkaoacpaaW.PrintLast Go.Proofs.YtbihggkkaoacpaaW.PrintMore
theorem parse_dig (n : Nat) (h : (n : Int) ≤ maxN) (k : Nat) : parse (List.replicate k 48 ++ dig n) = ((n : Int), 0) := by
  have hd := dig_all n
  unfold parse
  have h1 : ¬ (List.replicate k 48 ++ dig n = [] ∨ (List.replicate k 48 ++ dig n).all isDig = false) := by
    rintro (h | h)
    · exact hd.2.1 (List.append_eq_nil_iff.1 h).2
    · rw [List.all_append, hd.1] at h
      have : (List.replicate k (48 : Int)).all isDig = true := by
        rw [List.all_eq_true]; intro b hb; rw [List.eq_of_mem_replicate hb]; decide
      rw [this] at h; cases h
  rw [if_neg h1, fval_zeros, hd.2.2, if_neg (by omega)]
theorem parse_back (l : List Int) (n : Nat) (h : parse l = ((n : Int), 0)) : l = dig n ∨ ((dig n).length < l.length ∧ l.head? = some 48) := by
  unfold parse at h
  by_cases h1 : l = [] ∨ l.all isDig = false
  · rw [if_pos h1] at h; simp at h
  · rw [if_neg h1] at h
    by_cases h2 : fval 0 l > maxN
    · rw [if_pos h2] at h; simp at h
    · rw [if_neg h2] at h
      have hv : fval 0 l = n := (Prod.mk.inj h).1
      have := uniq l (fun e => h1 (.inl e)) (by simpa using fun e => h1 (.inr e))
      rw [hv] at this
      simpa using this
theorem back_end (n : Nat) (hn : (n : Int) ≤ maxN) (m : Int) (s : ByteArray) (hs : s.size ≤ 9223372036854775806) (j : Nat) (hj : j ≤ 50) : ∀ i : Int, 0 ≤ i → m ≤ i →
    Ev (fun k => spencelaw01_NumsBack.l0 k (n : Int) m s (strOfNums (dig n)) (strOfNums (List.replicate j 48 ++ dig n)) i) true := by
  intro i h0 h1
  have hl := dig_len n (by unfold maxN at hn; omega)
  have hz : ∀ b ∈ List.replicate j (48 : Int) ++ dig n, isB b := by
    intro b hb
    rcases List.mem_append.1 hb with h | h
    · rw [List.eq_of_mem_replicate h]; unfold isB; omega
    · exact dig_isB n b h
  obtain ⟨K1, q1⟩ := parse_ev (strOfNums (dig n)) (by rw [size_str]; omega)
  obtain ⟨K2, q2⟩ := parse_ev (strOfNums (List.replicate j 48 ++ dig n)) (by rw [size_str]; simp; omega)
  obtain ⟨K3, q3⟩ := parse_ev s hs
  refine ⟨K1 + K2 + K3 + 1, fun k hk => ?_⟩
  obtain ⟨k, rfl⟩ : ∃ m, k = m + 1 := ⟨k - 1, by omega⟩
  have r1 := q1 k (by omega)
  have r2 := q2 k (by omega)
  have r3 := q3 k (by omega)
  dsimp only at r1 r2 r3
  rw [bytesOf_str _ (dig_isB n)] at r1
  rw [bytesOf_str _ hz] at r2
  have e1 := parse_dig n hn 0
  simp only [List.replicate_zero, List.nil_append] at e1
  rw [e1] at r1
  rw [parse_dig n hn j] at r2
  simp only [spencelaw01_NumsBack.l0, r1, r2, r3, Option.bind_some]
  rw [if_neg (by omega), if_pos trivial, if_pos trivial, if_pos trivial, if_pos trivial]
  by_cases hg : (parse (bytesOf s)).2 = 0
  · rw [if_pos hg]
    by_cases hm : (parse (bytesOf s)).1 = n
    · rw [if_pos hm]
      have hp : parse (bytesOf s) = ((n : Int), 0) := Prod.ext hm hg
      rcases parse_back _ n hp with h | ⟨h, hh⟩
      · rw [if_pos]
        rw [toList_bytes, h, bytesOf_str _ (dig_isB n)]
      · have hne : ¬ s.toList = (strOfNums (dig n)).toList := by
          rw [toList_bytes, bytesOf_str _ (dig_isB n)]
          intro e; rw [e] at h; omega
        rw [bytesOf_length] at h
        rw [if_neg hne, if_pos (by rw [size_str]; omega), if_pos (by omega)]
        have hb := bytes_drop s 0 (by omega) (by omega)
        simp only [Int.toNat_zero, List.drop_zero] at hb
        rw [hb] at hh
        simp at hh
        simp [hh]
    · rw [if_neg hm]
  · rw [if_neg hg]
theorem back_loop (n : Nat) (hn : (n : Int) ≤ maxN) (m : Int) (hm : m ≤ 40) (s : ByteArray) (hs : s.size ≤ 9223372036854775806) (d : Nat) : ∀ i : Nat, (i : Int) ≤ 40 → (m - i).toNat = d →
    Ev (fun k => spencelaw01_NumsBack.l0 k (n : Int) m s (strOfNums (dig n)) (strOfNums (List.replicate i 48 ++ dig n)) (i : Int)) true := by
  induction d with
  | zero => intro i hi hd; exact back_end n hn m s hs i (by omega) i (by omega) (by omega)
  | succ d ih =>
    intro i hi hd
    have hl := dig_len n (by unfold maxN at hn; omega)
    obtain ⟨K, hK⟩ := ih (i + 1) (by omega) (by omega)
    refine ⟨K + 1, fun k hk => ?_⟩
    obtain ⟨k, rfl⟩ : ∃ m, k = m + 1 := ⟨k - 1, by omega⟩
    have h := hK k (by omega)
    dsimp only at h
    have e : (⟨#[48]⟩ : ByteArray) = strOfNums [48] := by decide
    simp only [spencelaw01_NumsBack.l0, size_str]
    rw [if_pos (by omega), if_pos (by simp; omega), e, str_append, wrap_id (by omega)]
    have e2 : ([48] ++ (List.replicate i (48 : Int) ++ dig n)) = List.replicate (i + 1) 48 ++ dig n := by rw [List.replicate_succ]; rfl
    rw [e2]
    exact h
theorem NumsBack : spencelaw01_NumsBack.Pure := by
  intro n m s h0 h1 hs
  have w0 := wf_bd h0
  refine Ev.rounds (g := fun k => spencelaw01_NumsBack.f k n m s) ?_
  refine Ev.bind awake01 ?_
  simp only [if_true]
  have hyes : Ev (fun k => spencelaw01_NumsBack.j0 k n m s true) true := Ev.pos (fun k => by simp [spencelaw01_NumsBack.j0])
  by_cases c1 : n < 0
  · simp only [c1, if_true]; exact hyes
  by_cases c2 : n > 4611686018427387903
  · simp only [c1, c2, if_true, if_false]; exact hyes
  by_cases c3 : m < 0
  · simp only [c1, c2, c3, if_true, if_false]; exact hyes
  by_cases c4 : m > 40
  · simp only [c1, c2, c3, c4, if_true, if_false]; exact hyes
  simp only [c1, c2, c3, c4, if_false]
  by_cases c5 : (s.size : Int) > 100
  · rw [decide_eq_true c5]; exact hyes
  · rw [decide_eq_false c5]
    obtain ⟨K1, q1⟩ := print_ev n w0
    obtain ⟨K2, q2⟩ := back_loop n.toNat (by unfold maxN; omega) m (by omega) s (by omega) (m - 0).toNat 0 (by omega) (by simp)
    refine ⟨K1 + K2 + 1, fun k hk => ?_⟩
    obtain ⟨k, rfl⟩ : ∃ m, k = m + 1 := ⟨k - 1, by omega⟩
    have r1 := q1 k (by omega)
    have r2 := q2 k (by omega)
    dsimp only at r1 r2
    have e : ptext n = dig n.toNat := by unfold ptext; rw [if_neg c1]
    have e2 : ((n.toNat : Nat) : Int) = n := by omega
    rw [e2] at r2
    simp only [spencelaw01_NumsBack.j0, r1, Option.bind_some, e]
    rw [if_neg (by decide)]
    simpa using r2
end Go.Proofs.Ytbihggkkaoacpaa.Pure
