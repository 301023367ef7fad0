/- Whether any two validators are the same, strongly or weakly; whether ranges count, by any condition: the plain law. -/
import Derived.Test.YtbihggkkaoacpaaEtag
import Derived.Test.YtbihggkkaoacpaaPAllx17
namespace Go.Proofs.Ytbihggkkaoacpaa.Pure
open Go.RowKit Go.Proofs.Ytbihggkkaoacpaa.PAll Go.Proofs.YtbihggkkaoacpaaW.PrintWords Go.Proofs.YtbihggkkaoacpaaW.PrintLast Go.Proofs.YtbihggkkaoacpaaW.PrintMore
def useOf (l m : List Int) : Bool := if trim l = [] then true else (decide ((tagOf (trim l)).2.2 = 0) && (!(tagOf (trim l)).1 && decide (bytesOf (tagOf (trim l)).2.1 = m)))
theorem strong_eq (w v : Bool) (s t : ByteArray) : etag_Strong.f w s v t = some (!w && (!v && decide (bytesOf s = bytesOf t))) := by
  unfold etag_Strong.f etag_Weak.f
  rw [toList_beq]
  cases w <;> cases v <;> rfl
theorem trim_isB (s : ByteArray) : ∀ b ∈ trim (bytesOf s), isB b := fun b hb => bytesOf_isB s b (trim_mem hb)
theorem use_ev (s t : ByteArray) (hs : s.size ≤ 9223372036854775806) : Ev (fun k => etag_Use.f k s t) (useOf (bytesOf s) (bytesOf t)) := by
  have hl := trim_len (bytesOf s)
  rw [bytesOf_length] at hl
  refine Ev.bind (trim_ev s hs) ?_
  have e : (strOfNums (trim (bytesOf s))).toList = ([] : List UInt8) ↔ trim (bytesOf s) = [] := by rw [toList_nil, bytesOf_str _ (trim_isB s)]
  unfold useOf
  by_cases h : trim (bytesOf s) = []
  · have he := e.2 h
    simp only [he, if_true]; rw [if_pos h]; exact Ev.now _
  · have hne : ¬ (strOfNums (trim (bytesOf s))).toList = ([] : List UInt8) := fun x => h (e.1 x)
    simp only [hne, if_false, h]
    have hp := etag_parse_ev (strOfNums (trim (bytesOf s))) (by rw [size_str]; omega)
    rw [bytesOf_str _ (trim_isB s)] at hp
    refine Ev.bind hp ?_
    by_cases h0 : (tagOf (trim (bytesOf s))).2.2 = 0
    · simp only [h0, if_true, strong_eq, Option.bind_some]
      refine Ev.all (fun k => ?_)
      simp
    · simp only [h0, if_false]
      refine Ev.all (fun k => ?_)
      simp
theorem ref_use_ev (s t : ByteArray) (hs : s.size ≤ 9223372036854775806) : Ev (fun k => spenceref04_Use.f k s t) (useOf (bytesOf s) (bytesOf t)) := by
  have hl := trim_len (bytesOf s)
  rw [bytesOf_length] at hl
  have h1 := ref_trim_eq s hs false
  rw [rtrims, if_neg (by decide)] at h1
  refine Ev.bind h1 ?_
  have hp := ref_etag_ev (strOfNums (trim (bytesOf s))) (by rw [size_str]; omega)
  rw [bytesOf_str _ (trim_isB s)] at hp
  refine Ev.bind hp ?_
  have e : (strOfNums (trim (bytesOf s))).toList = ([] : List UInt8) ↔ trim (bytesOf s) = [] := by rw [toList_nil, bytesOf_str _ (trim_isB s)]
  unfold useOf
  refine Ev.all (fun k => ?_)
  by_cases h : trim (bytesOf s) = []
  · rw [if_pos (e.2 h), if_pos h]
  · rw [if_neg (fun x => h (e.1 x)), if_neg h, toList_beq]
    by_cases h0 : (tagOf (trim (bytesOf s))).2.2 = 0
    · rw [if_pos h0, decide_eq_true h0]
      cases (tagOf (trim (bytesOf s))).1 <;> simp
    · rw [if_neg h0, decide_eq_false h0]; rfl
theorem awake04 : Ev (fun k => spencelaw04_awake.f k) true := by
  have h1 := use_ev (⟨#[87, 47, 34, 97, 34]⟩ : ByteArray) (⟨#[97]⟩ : ByteArray) (by decide)
  have h2 := use_ev (⟨#[34, 97, 34]⟩ : ByteArray) (⟨#[97]⟩ : ByteArray) (by decide)
  have e1 : useOf (bytesOf (⟨#[87, 47, 34, 97, 34]⟩ : ByteArray)) (bytesOf (⟨#[97]⟩ : ByteArray)) = false := by decide
  have e2 : useOf (bytesOf (⟨#[34, 97, 34]⟩ : ByteArray)) (bytesOf (⟨#[97]⟩ : ByteArray)) = true := by decide
  rw [e1] at h1
  rw [e2] at h2
  refine Ev.bind h1 ?_
  exact Ev.bind h2 (Ev.now _)
theorem cmp_end (p q : ByteArray) (hp : p.size ≤ 9223372036854775806) (w : Bool) (s : ByteArray) (v : Bool) (t : ByteArray) : Ev (fun k => spencelaw04_EtagCompares.j1 k p q (!w && (!v && decide (bytesOf s = bytesOf t))) w s v t) true := by
  refine Ev.succ ?_
  simp only [spencelaw04_EtagCompares.j1, strong_eq, Option.bind_some, etag_Weak.f, beq_self_eq_true, if_true]
  have e : (!v && (!w && decide (bytesOf t = bytesOf s))) = (!w && (!v && decide (bytesOf s = bytesOf t))) := by
    have : decide (bytesOf t = bytesOf s) = decide (bytesOf s = bytesOf t) := by rw [decide_eq_decide]; exact eq_comm
    rw [this]; cases w <;> cases v <;> simp
  rw [e]
  simp only [beq_self_eq_true, if_true]
  refine Ev.bind (use_ev p q hp) ?_
  refine Ev.bind (ref_use_ev p q hp) ?_
  simp only [beq_self_eq_true]
  exact Ev.now _
theorem EtagCompares : spencelaw04_EtagCompares.Pure := by
  intro w s v t p q _ _ hp _
  refine Ev.rounds (g := fun k => spencelaw04_EtagCompares.f k w s v t p q) ?_
  refine Ev.bind awake04 ?_
  simp only [if_true]
  have hyes : Ev (fun k => spencelaw04_EtagCompares.j0 k p q true w s v t) true := Ev.pos (fun k => by simp [spencelaw04_EtagCompares.j0])
  by_cases c1 : (p.size : Int) > 300
  · simp only [c1, if_true]; exact hyes
  by_cases c2 : (s.size : Int) > 100
  · simp only [c1, c2, if_true, if_false]; exact hyes
  by_cases c3 : (t.size : Int) > 100
  · simp only [c1, c2, c3, if_true, if_false]; exact hyes
  simp only [c1, c2, c3, if_false]
  by_cases c4 : (q.size : Int) > 100
  · rw [decide_eq_true c4]; exact hyes
  · rw [decide_eq_false c4]
    refine Ev.step (fun k => ?_) (cmp_end p q (by omega) w s v t)
    simp only [spencelaw04_EtagCompares.j0]
    rw [if_neg (by decide)]
    by_cases h : s.toList = t.toList
    · rw [if_pos h, decide_eq_true ((toList_bytes s t).1 h)]
      cases w <;> simp
    · rw [if_neg h, decide_eq_false (fun e => h ((toList_bytes s t).2 e))]
      cases w <;> simp
end Go.Proofs.Ytbihggkkaoacpaa.Pure
