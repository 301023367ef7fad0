/- Whether ranges count by a condition: what etag.Use comes to. -/
import Derived.Test.YtbihggkkaoacpaaEtag
import Derived.Test.YtbihggkkaoacpaaPAllx14
namespace Go.Proofs.Ytbihggkkaoacpaa.Pure
open Go.RowKit Go.Proofs.Ytbihggkkaoacpaa.PAll Go.Proofs.YtbihggkkaoacpaaW.PrintWords Go.Proofs.YtbihggkkaoacpaaW.PrintLast Go.Proofs.YtbihggkkaoacpaaW.PrintMore
def useOf (l m : List Int) : Bool := if trim l = [] then true else (decide ((tagOf (trim l)).2.2 = 0) && (!(tagOf (trim l)).1 && decide (bytesOf (tagOf (trim l)).2.1 = m)))
theorem strong_eq (w v : Bool) (s t : ByteArray) : etag_Strong.f w s v t = some (!w && (!v && decide (bytesOf s = bytesOf t))) := by
  unfold etag_Strong.f etag_Weak.f
  rw [toList_beq]
  cases w <;> cases v <;> rfl
theorem trim_isB (s : ByteArray) : ∀ b ∈ trim (bytesOf s), isB b := fun b hb => bytesOf_isB s b (trim_mem hb)
theorem use_ev (s t : ByteArray) (hs : s.size ≤ 9223372036854775806) : Ev (fun k => etag_Use.f k s t) (useOf (bytesOf s) (bytesOf t)) := by
  have hl := trim_len (bytesOf s)
  rw [bytesOf_length] at hl
  refine Ev.bind (trim_ev s hs) ?_
  have e : (strOfNums (trim (bytesOf s))).toList = ([] : List UInt8) ↔ trim (bytesOf s) = [] := by rw [toList_nil, bytesOf_str _ (trim_isB s)]
  unfold useOf
  by_cases h : trim (bytesOf s) = []
  · have he := e.2 h
    simp only [he, if_true]; rw [if_pos h]; exact Ev.now _
  · have hne : ¬ (strOfNums (trim (bytesOf s))).toList = ([] : List UInt8) := fun x => h (e.1 x)
    simp only [hne, if_false, h]
    have hp := etag_parse_ev (strOfNums (trim (bytesOf s))) (by rw [size_str]; omega)
    rw [bytesOf_str _ (trim_isB s)] at hp
    refine Ev.bind hp ?_
    by_cases h0 : (tagOf (trim (bytesOf s))).2.2 = 0
    · simp only [h0, if_true, strong_eq, Option.bind_some]
      refine Ev.all (fun k => ?_)
      simp
    · simp only [h0, if_false]
      refine Ev.all (fun k => ?_)
      simp
theorem awake04 : Ev (fun k => spencelaw04_awake.f k) true := by
  have h1 := use_ev (⟨#[87, 47, 34, 97, 34]⟩ : ByteArray) (⟨#[97]⟩ : ByteArray) (by decide)
  have h2 := use_ev (⟨#[34, 97, 34]⟩ : ByteArray) (⟨#[97]⟩ : ByteArray) (by decide)
  have e1 : useOf (bytesOf (⟨#[87, 47, 34, 97, 34]⟩ : ByteArray)) (bytesOf (⟨#[97]⟩ : ByteArray)) = false := by decide
  have e2 : useOf (bytesOf (⟨#[34, 97, 34]⟩ : ByteArray)) (bytesOf (⟨#[97]⟩ : ByteArray)) = true := by decide
  rw [e1] at h1
  rw [e2] at h2
  refine Ev.bind h1 ?_
  exact Ev.bind h2 (Ev.now _)
end Go.Proofs.Ytbihggkkaoacpaa.Pure
