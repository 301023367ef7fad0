/- No validator is that of two versions; the version of any validator is found, if there is one: the plain law. -/
import Derived.Test.YtfcengffgkmacaaVersion
import Derived.Test.YtfcengffgkmacaaPAllx4
namespace Go.Proofs.Ytfcengffgkmacaa.Pure
open Go.RowKit Go.Proofs.Ytfcengffgkmacaa.PAll Go.Proofs.YtfcengffgkmacaaW.PrintWords Go.Proofs.YtfcengffgkmacaaW.PrintLast Go.Proofs.YtfcengffgkmacaaW.PrintMore
theorem tags_loop (a : Int) (s : ByteArray) (m : Int) (hm : m ≤ 300) (r : Int × Bool) (d : Nat) : ∀ i : Int, 0 ≤ i → (m + 1 - i).toNat = d → findV a (bytesOf s) d i = r →
    Ev (fun k => spencelaw30_VersionTags.l0 k a s m r.1 r.2 i) true := by
  induction d with
  | zero =>
    intro i h0 hd hr
    refine Ev.pos (fun k => ?_)
    rw [findV] at hr
    subst hr
    simp only [spencelaw30_VersionTags.l0]
    rw [if_neg (by omega), if_neg (by decide)]; rfl
  | succ d ih =>
    intro i h0 hd hr
    have hw : wrap64 (i + 1) = i + 1 := wrap_id (by omega)
    have hnx := ih (i + 1) (by omega) (by omega)
    refine Ev.succ ?_
    simp only [spencelaw30_VersionTags.l0, hw]
    simp only [show i ≤ m by omega, if_true]
    rw [findV] at hr
    by_cases hz : s.toList = ([] : List UInt8)
    · simp only [hz, if_true]
      refine hnx ?_
      have : hitV a (bytesOf s) i = false := by
        unfold hitV
        cases hm : mayV a i
        · rfl
        · have hne : ¬ tagV a i = bytesOf s := by
            rw [(toList_nil s).1 hz, tagV_nil, hm]; decide
          rw [decide_eq_false hne]; rfl
      rw [this, if_neg (by decide)] at hr
      exact hr
    · simp only [hz, if_false]
      refine Ev.bind (ref_tag_v a i) ?_
      have e : (strOfNums (tagV a i)).toList = s.toList ↔ tagV a i = bytesOf s := by rw [toList_bytes, bytesOf_str _ (tagV_isB a i)]
      by_cases ht : tagV a i = bytesOf s
      · have hhit : hitV a (bytesOf s) i = true := by
          unfold hitV
          have hmv : mayV a i = true := by
            cases hm : mayV a i
            · exfalso; apply hz; rw [toList_nil, ← ht, tagV_nil]; exact hm
            · rfl
          rw [hmv, decide_eq_true ht]; rfl
        rw [hhit, if_pos rfl] at hr
        subst hr
        simp only [e.2 ht, if_true, beq_self_eq_true]
        exact Ev.now _
      · have hne : ¬ (strOfNums (tagV a i)).toList = s.toList := fun x => ht (e.1 x)
        simp only [hne, if_false]
        refine hnx ?_
        have : hitV a (bytesOf s) i = false := by unfold hitV; rw [decide_eq_false ht, Bool.and_false]
        rw [this, if_neg (by decide)] at hr
        exact hr
theorem VersionTags : spencelaw30_VersionTags.Pure := by
  intro a v b w s m _ _ _ _ _ _
  refine Ev.rounds (g := fun k => spencelaw30_VersionTags.f k a v b w s m) ?_
  refine Ev.bind awake30 ?_
  simp only [if_true]
  have hyes : Ev (fun k => spencelaw30_VersionTags.j0 k a v b w s m true) true := Ev.pos (fun k => by simp [spencelaw30_VersionTags.j0])
  by_cases c1 : (s.size : Int) > 100
  · simp only [c1, if_true]; exact hyes
  simp only [c1, if_false]
  by_cases c2 : m > 300
  · rw [decide_eq_true c2]; exact hyes
  rw [decide_eq_false c2]
  have hend : Ev (fun k => spencelaw30_VersionTags.j1 k a s m false) true := by
    refine Ev.succ ?_
    simp only [spencelaw30_VersionTags.j1, Bool.false_eq_true, if_false]
    have hmn := mn_le (mx m (-1)) 1000000
    have hmx := mx_le m (-1)
    refine Ev.bind (find_loop a s ((mn (mx m (-1)) 1000000) + 1) (by omega) (((mn (mx m (-1)) 1000000) + 1) - 0).toNat 0 (by omega) rfl) ?_
    refine tags_loop a s m (by omega) _ _ 0 (by omega) rfl ?_
    congr 1
    omega
  refine Ev.succ ?_
  simp only [spencelaw30_VersionTags.j0, Bool.false_eq_true, if_false]
  refine Ev.bind (tag_v a v) ?_
  refine Ev.bind (tag_v b w) ?_
  have e0 : (strOfNums (tagV a v)).toList = ([] : List UInt8) ↔ tagV a v = [] := by rw [toList_nil, bytesOf_str _ (tagV_isB a v)]
  have e1 : (strOfNums (tagV a v)).toList = (strOfNums (tagV b w)).toList ↔ tagV a v = tagV b w := by rw [toList_bytes, bytesOf_str _ (tagV_isB a v), bytesOf_str _ (tagV_isB b w)]
  by_cases h0 : tagV a v = []
  · have h0' := e0.2 h0
    simp only [h0', if_true]; exact hend
  · have h0' : ¬ (strOfNums (tagV a v)).toList = ([] : List UInt8) := fun x => h0 (e0.1 x)
    simp only [h0', if_false]
    by_cases h1 : tagV a v = tagV b w
    · have h1' := e1.2 h1
      obtain ⟨h2, h3⟩ := tagV_inj a v b w h1 h0
      have h4 : (v != w) = false := by rw [h3]; simp
      subst h2
      simp only [h1', if_true, h4]
      exact hend
    · have h1' : ¬ (strOfNums (tagV a v)).toList = (strOfNums (tagV b w)).toList := fun x => h1 (e1.1 x)
      simp only [h1', if_false]; exact hend
end Go.Proofs.Ytfcengffgkmacaa.Pure
