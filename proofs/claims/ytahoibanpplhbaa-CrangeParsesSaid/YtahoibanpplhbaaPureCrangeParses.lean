/- What any text says as the field Content-Range, or the error: the plain law. -/
import Derived.Test.YtahoibanpplhbaaCrAwake
import Derived.Test.YtahoibanpplhbaaCrRef
import Derived.Test.YtahoibanpplhbaaNumsRef
import Derived.Test.YtahoibanpplhbaaPAllx12
namespace Go.Proofs.Ytahoibanpplhbaa.Pure
open Go.RowKit Go.Proofs.Ytahoibanpplhbaa.Xw Go.Proofs.Ytahoibanpplhbaa.PAll Go.Proofs.YtahoibanpplhbaaW.PrintWords Go.Proofs.YtahoibanpplhbaaW.PrintLast Go.Proofs.YtahoibanpplhbaaW.PrintMore
theorem parse_kind (l : List Int) : (parse l).2 = 0 ∨ (parse l).2 = 3 ∨ (parse l).2 = 9 := by
  unfold parse; split
  · simp
  · split <;> simp
theorem ref_parse_c (x : List Int) (hx : ∀ b ∈ x, isB b) (hl : x.length ≤ 1000) : Ev (fun k => spenceref01_Parse.f k (strOfNums x)) (parse x) := by
  have hp := ref_parse_ev (strOfNums x) (by rw [size_str]; omega)
  rwa [bytesOf_str _ hx] at hp
theorem ref_e_c (bad : Int) (hb : bad = 0 ∨ bad = 9) (kn : Bool) (f t tot : Int) : Ev (fun k => spenceref04_Content.j2 k (bad != 0) kn f t tot) (contE bad kn f t tot) := by
  refine Ev.succ ?_
  simp only [spenceref04_Content.j2]
  unfold contE
  rcases hb with h | h
  · subst h
    simp only [bne_self_eq_false, Bool.false_eq_true, if_false, if_true]
    refine Ev.bind (ref_right_content kn f t tot) (Ev.all fun k => ?_)
    cases rightC kn f t tot <;> rfl
  · subst h
    exact Ev.all fun k => rfl
theorem ref_t_c (x : List Int) (hx : ∀ b ∈ x, isB b) (hl : x.length ≤ 1000) (bad : Int) (hb : bad = 0 ∨ bad = 9) (kn : Bool) (f t : Int) : Ev (fun k => spenceref04_Content.j1 k (strOfNums x) (bad != 0) kn f t (-1)) (contT x bad kn f t) := by
  refine Ev.succ ?_
  simp only [spenceref04_Content.j1]
  unfold contT
  by_cases h : x = [42]
  · simp only [(star_iff x hx).2 h, if_true]; rw [if_pos h]; exact ref_e_c bad hb _ _ _ _
  · have h' : ¬ (strOfNums x).toList = ([42] : List UInt8) := fun e => h ((star_iff x hx).1 e)
    simp only [h', if_false]; rw [if_neg h]
    refine Ev.bind (ref_parse_c x hx hl) ?_
    by_cases h3 : (parse x).2 = 3
    · simp only [h3, if_true]
      have e : contE (worse bad 3) kn f t (parse x).1 = z3 := by unfold contE worse z3; rw [if_pos rfl, if_neg (by decide)]
      rw [e]; exact Ev.now _
    · simp only [h3, if_false]
      have hk : (parse x).2 = 0 ∨ (parse x).2 = 9 := by rcases parse_kind x with h | h | h; exact .inl h; exact absurd h h3; exact .inr h
      have hw : worse bad (parse x).2 = if bad = 0 then (parse x).2 else bad := by unfold worse; rw [if_neg h3]
      rcases hb with h0 | h9
      · subst h0
        rw [hw, if_pos rfl]
        simp only [bne_self_eq_false, Bool.false_eq_true, if_false]
        exact ref_e_c _ hk _ _ _ _
      · subst h9
        rw [hw, if_neg (by decide)]
        exact ref_e_c 9 (.inr rfl) kn f t (parse x).1
theorem low_beq (c : List Int) (hc : ∀ b ∈ c, isB b) : ((strOfNums (c.map lowI)).toList != ([98, 121, 116, 101, 115] : List UInt8)) = !decide (c.map lowI = [98, 121, 116, 101, 115]) := by
  have e : ([98, 121, 116, 101, 115] : List UInt8) = (strOfNums [98, 121, 116, 101, 115]).toList := by rw [ByteArray.toList_eq]; rfl
  have hm : ∀ b ∈ c.map lowI, isB b := by intro b hb; obtain ⟨x, hx, rfl⟩ := List.mem_map.1 hb; exact lowI_isB x (hc x hx)
  rw [e, bne, toList_beq, bytesOf_str _ hm, bytesOf_str _ (by simp [isB])]
theorem ref_content_ev (s : ByteArray) (hs : s.size ≤ 1000) : Ev (fun k => spenceref04_Content.f k s) (contOf (bytesOf s)) := by
  have f1 := cut_facts 32 (bytesOf s) (bytesOf_isB s)
  rw [bytesOf_length] at f1
  have f2 := cut_facts 47 (cutOf 32 (bytesOf s)).2.1 f1.2.2.2
  unfold contOf
  have q2 := ref_cut_ev (strOfNums (cutOf 32 (bytesOf s)).2.1) 47 (by rw [size_str]; omega)
  rw [bytesOf_str _ f1.2.2.2] at q2
  refine Ev.bind (ref_cut_ev s 32 (by omega)) ?_
  refine Ev.bind q2 ?_
  generalize (cutOf 47 (cutOf 32 (bytesOf s)).2.1).1 = d1 at f2
  generalize (cutOf 47 (cutOf 32 (bytesOf s)).2.1).2.1 = d2 at f2
  generalize (cutOf 47 (cutOf 32 (bytesOf s)).2.1).2.2 = d3
  generalize (cutOf 32 (bytesOf s)).1 = c1 at f1
  have hno : Ev (fun k => spenceref04_Content.j0 k (strOfNums d1) (strOfNums d2) true false 0 0 (-1)) z3 := Ev.pos (fun k => by simp [spenceref04_Content.j0, z3])
  cases (cutOf 32 (bytesOf s)).2.2
  · exact hno
  cases d3
  · exact hno
  simp only [if_true]
  have hl := ref_lower_ev (strOfNums c1) (by rw [size_str]; omega)
  rw [bytesOf_str _ f1.2.2.1] at hl
  refine Ev.bind hl ?_
  rw [low_beq c1 f1.2.2.1]
  by_cases hu : c1.map lowI = [98, 121, 116, 101, 115]
  · rw [decide_eq_true hu, if_pos hu]
    refine Ev.succ ?_
    simp only [spenceref04_Content.j0, Bool.not_true, Bool.false_eq_true, if_false]
    unfold contA
    by_cases hA : d1 = [42]
    · simp only [(star_iff d1 f2.2.2.1).2 hA, if_true]; rw [if_pos hA]
      exact ref_t_c d2 f2.2.2.2 (by omega) 0 (.inl rfl) false 0 0
    · have hA' : ¬ (strOfNums d1).toList = ([42] : List UInt8) := fun e => hA ((star_iff d1 f2.2.2.1).1 e)
      simp only [hA', if_false]; rw [if_neg hA]
      have q3 := ref_cut_ev (strOfNums d1) 45 (by rw [size_str]; omega)
      rw [bytesOf_str _ f2.2.2.1] at q3
      have f3 := cut_facts 45 d1 f2.2.2.1
      refine Ev.bind q3 ?_
      refine Ev.bind (ref_parse_c _ f3.2.2.1 (by omega)) ?_
      refine Ev.bind (ref_parse_c _ f3.2.2.2 (by omega)) ?_
      generalize (cutOf 45 d1).1 = g1
      generalize (cutOf 45 d1).2.1 = g2
      cases (cutOf 45 d1).2.2
      · exact Ev.now _
      · simp only [if_true]
        have hz : ∀ b kn f t, b = 3 → contT d2 b kn f t = z3 := by
          intro b kn f t hb
          subst hb
          unfold contT contE worse z3
          by_cases h : d2 = [42]
          · rw [if_pos h, if_neg (by decide)]
          · rw [if_neg h]
            by_cases h2 : (parse d2).2 = 3
            · rw [if_pos h2, if_neg (by decide)]
            · rw [if_neg h2, if_neg (by decide : ¬ (3 : Int) = 0), if_neg (by decide)]
        by_cases e1 : (parse g1).2 = 3
        · simp only [e1, if_true]
          rw [hz _ _ _ _ (by unfold worse; rw [if_pos rfl]; split <;> rfl)]
          exact Ev.now _
        simp only [e1, if_false]
        by_cases e2 : (parse g2).2 = 3
        · simp only [e2, if_true]
          rw [hz _ _ _ _ (by unfold worse; rw [if_pos rfl])]
          exact Ev.now _
        simp only [e2, if_false]
        have k1 : (parse g1).2 = 0 ∨ (parse g1).2 = 9 := by rcases parse_kind g1 with h | h | h; exact .inl h; exact absurd h e1; exact .inr h
        have k2 : (parse g2).2 = 0 ∨ (parse g2).2 = 9 := by rcases parse_kind g2 with h | h | h; exact .inl h; exact absurd h e2; exact .inr h
        rcases k1 with k1 | k1
        · simp only [k1, if_true]
          have : worse (worse 0 0) (parse g2).2 = (parse g2).2 := by unfold worse; rw [if_neg e2]; simp
          rw [this]
          exact ref_t_c d2 f2.2.2.2 (by omega) _ k2 true _ _
        · simp only [k1, show ¬ (9 : Int) = 0 by decide, if_false]
          have : worse (worse 0 9) (parse g2).2 = 9 := by unfold worse; rw [if_neg e2]; simp
          rw [this]
          exact ref_t_c d2 f2.2.2.2 (by omega) 9 (.inr rfl) true _ _
  · rw [decide_eq_false hu, if_neg hu]; exact hno
theorem CrangeParses : spencelaw07_CrangeParses.Pure := by
  intro s _
  refine Ev.rounds (g := fun k => spencelaw07_CrangeParses.f k s) ?_
  refine Ev.bind awake07 ?_
  simp only [if_true]
  by_cases c1 : (s.size : Int) > 300
  · simp only [c1, if_true]; exact Ev.now _
  simp only [c1, if_false]
  refine Ev.bind (crange_parse_ev s (by omega)) ?_
  refine Ev.bind (ref_content_ev s (by omega)) ?_
  simp only [beq_self_eq_true, Bool.and_self, if_true]
  exact Ev.now _
end Go.Proofs.Ytahoibanpplhbaa.Pure
