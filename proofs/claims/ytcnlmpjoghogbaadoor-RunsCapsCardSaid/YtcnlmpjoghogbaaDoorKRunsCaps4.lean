/- The law RunsCaps: for every input the call returns true, and each argument reads behind the call as it read before. No condition. (The row, and the plain law ahead of it.) -/
import Derived.Test.YtcnlmpjoghogbaaDoorKRunsCaps3
import Derived.Test.YtcnlmpjoghogbaaDoorKRunsCaps1
import Derived.Test.YtcnlmpjoghogbaaDoorKRunsCaps2
import Derived.Test.YtcnlmpjoghogbaaDoorRows
import Derived.Test.YtcnlmpjoghogbaaDoorCards
import Derived.Test.YtcnlmpjoghogbaaDoorTie
import Derived.LaidMore
import Derived.Lay
import Derived.SevenTiedAt
import Derived.Stop.Joined
import Derived.WalkKit
import Derived.ProofKit
import Derived.OpenShut
import Derived.ShutString
import Derived.ChangeOld
import Derived.Below
import Derived.SizedLaws
namespace Go.Proofs.YtcnlmpjoghogbaaDoor.Pure
open Go.RowKit Go.Proofs.YtcnlmpjoghogbaaDoor.Xw Go.Proofs.YtcnlmpjoghogbaaDoor.PAll Go.Proofs.YtcnlmpjoghogbaaDoorW.PrintWords Go.Proofs.YtcnlmpjoghogbaaDoorW.PrintLast Go.Proofs.YtcnlmpjoghogbaaDoorW.PrintMore
open Go.Proofs.YtcnlmpjoghogbaaDoor.Ag (hasF withF zeroF ofF srt splitAll splitStep has_of has_own)
theorem rdR (pre : List RunS) (r : RunS) (rest : List RunS) (i : Int) (h : i = pre.length) : rd_T50 (pre ++ r :: rest) i = r := by
  subst h
  unfold rd_T50
  simp [List.getD_eq_getElem?_getD]
abbrev fromR (r : RunS) : Int := mx r.f0 0
abbrev toR (r : RunS) : Int := mn r.f1 4097
def sizeR (r : RunS) : Nat := (toR r - fromR r).toNat
def slicesOf (l : List RunS) : List Int := l.flatMap fun r => rng (fromR r) (sizeR r)
theorem size_le (r : RunS) : sizeR r ≤ 4097 := by
  have h1 := mx_eq r.f0 0
  have h2 := mn_eq r.f1 4097
  unfold sizeR
  show (mn r.f1 4097 - mx r.f0 0).toNat ≤ 4097
  omega
theorem slices_len (l : List RunS) : (slicesOf l).length ≤ l.length * 4097 := by
  induction l with
  | nil => simp [slicesOf]
  | cons r l ih =>
    have := size_le r
    have e : slicesOf (r :: l) = rng (fromR r) (sizeR r) ++ slicesOf l := by simp [slicesOf]
    rw [e, List.length_append, rng_len, List.length_cons, Nat.succ_mul]
    omega
theorem slices_in (x9 : List RunS) (t : Int) (x10 x11 : Int) (out : List Int) (d : Nat) : ∀ (i : Int) (m : Nat) (a : Int), 0 ≤ a → i = a + m → i ≤ t ∨ d = 0 → t - i = d ∨ (t ≤ i ∧ d = 0) → t ≤ 4097 → out.length + m + d ≤ 1000000000 →
    ∀ r, Ev (fun k => runs_Slices.l0 k (out ++ rng a (m + d)) x9 x10 (wrap64 (x11 + 1))) r → Ev (fun k => runs_Slices.l1 k (out ++ rng a m) t i x9 x10 x11) r := by
  induction d with
  | zero =>
    intro i m a h0 hi h1 h2 h3 h5 r h
    refine Ev.step (fun k => ?_) h
    simp only [runs_Slices.l1]
    rw [if_neg (by omega)]
    rfl
  | succ d ih =>
    intro i m a h0 hi h1 h2 h3 h5 r h
    have hn := ih (i + 1) (m + 1) a h0 (by omega) (by omega) (by omega) h3 (by omega) r (by rw [show m + 1 + d = m + (d + 1) by omega]; exact h)
    refine Ev.step (fun k => ?_) hn
    simp only [runs_Slices.l1]
    rw [if_pos (by omega), if_pos (by rw [List.length_append, rng_len]; omega), wrap_id (by omega), rng_succ, List.append_assoc, ← hi]
theorem slices_loop (l : List RunS) (hl : l.length ≤ 100000) (post : List RunS) : ∀ (pre : List RunS), l = pre ++ post → Ev (fun k => runs_Slices.l0 k (slicesOf pre) l (l.length : Int) (pre.length : Int)) (slicesOf l) := by
  induction post with
  | nil =>
    intro pre h
    rw [List.append_nil] at h
    subst h
    exact Ev.pos fun k => by simp only [runs_Slices.l0]; rw [if_neg (by omega)]
  | cons r rest ih =>
    intro pre h
    have hlen : l.length = pre.length + (rest.length + 1) := by rw [h]; simp
    have hn := ih (pre ++ [r]) (by rw [h]; simp)
    have e1 : slicesOf (pre ++ [r]) = slicesOf pre ++ rng (fromR r) (0 + sizeR r) := by simp [slicesOf]
    have e2 : (((pre ++ [r]).length : Nat) : Int) = wrap64 ((pre.length : Int) + 1) := by rw [wrap_id (by omega)]; simp
    rw [e1, e2] at hn
    have h1 := mx_eq r.f0 0
    have h2 := mn_eq r.f1 4097
    have hs := slices_len pre
    have hz := size_le r
    have hx := slices_in l (toR r) (l.length : Int) (pre.length : Int) (slicesOf pre) (sizeR r) (fromR r) 0 (fromR r) (by show 0 ≤ mx r.f0 0; omega) (by simp) (by unfold sizeR; show mx r.f0 0 ≤ mn r.f1 4097 ∨ (mn r.f1 4097 - mx r.f0 0).toNat = 0; omega) (by unfold sizeR; show mn r.f1 4097 - mx r.f0 0 = ((mn r.f1 4097 - mx r.f0 0).toNat : Int) ∨ (mn r.f1 4097 ≤ mx r.f0 0 ∧ (mn r.f1 4097 - mx r.f0 0).toNat = 0); omega) (by show mn r.f1 4097 ≤ 4097; omega) (by omega) _ hn
    have e3 : slicesOf pre ++ rng (fromR r) 0 = slicesOf pre := by simp [rng]
    rw [e3] at hx
    have hr : rd_T50 l (pre.length : Int) = r := by rw [h]; exact rdR pre r rest _ rfl
    refine Ev.step (fun k => ?_) hx
    simp only [runs_Slices.l0]
    rw [if_pos (by omega), if_pos (by omega), if_pos (by omega), hr]
    rfl
theorem slices_ev (l : List RunS) (hl : l.length ≤ 100000) : Ev (fun k => runs_Slices.f k l) (slicesOf l) := slices_loop l hl l [] rfl
def countOf (l : List RunS) : Int := ((l.map fun r => sizeR r).sum : Nat)
def Fit (r : RunS) : Prop := -1000000 ≤ r.f0 ∧ r.f0 ≤ 1000000 ∧ -1000000 ≤ r.f1 ∧ r.f1 ≤ 1000000
theorem size_fit {r : RunS} (h : Fit r) : mx (wrap64 (toR r - fromR r)) 0 = sizeR r := by
  obtain ⟨a, b, c, d⟩ := h
  have h1 := mx_eq r.f0 0
  have h2 := mn_eq r.f1 4097
  unfold sizeR
  show mx (wrap64 (mn r.f1 4097 - mx r.f0 0)) 0 = ((mn r.f1 4097 - mx r.f0 0).toNat : Int)
  rw [wrap_id (by omega), mx_eq]
  omega
theorem count_loop (l : List RunS) (hl : l.length ≤ 100000) (hf : ∀ r ∈ l, Fit r) (post : List RunS) : ∀ (pre : List RunS), l = pre ++ post → Ev (fun k => runs_Count.l0 k (countOf pre) l (l.length : Int) (pre.length : Int)) (countOf l) := by
  induction post with
  | nil =>
    intro pre h
    rw [List.append_nil] at h
    subst h
    exact Ev.pos fun k => by simp only [runs_Count.l0]; rw [if_neg (by omega)]
  | cons r rest ih =>
    intro pre h
    have hlen : l.length = pre.length + (rest.length + 1) := by rw [h]; simp
    have hn := ih (pre ++ [r]) (by rw [h]; simp)
    have hsz := size_le r
    have hpre : ∀ x : List RunS, countOf x ≤ x.length * 4097 := by
      intro x
      induction x with
      | nil => simp [countOf]
      | cons r x ih => have := size_le r; simp only [countOf, List.map_cons, List.sum_cons, List.length_cons] at ih ⊢; omega
    have hp := hpre pre
    have hp0 : 0 ≤ countOf pre := by unfold countOf; omega
    have e1 : countOf (pre ++ [r]) = wrap64 (countOf pre + mx (wrap64 (toR r - fromR r)) 0) := by
      rw [size_fit (hf r (by rw [h]; simp)), wrap_id (by omega)]
      simp [countOf]
    have e2 : (((pre ++ [r]).length : Nat) : Int) = wrap64 ((pre.length : Int) + 1) := by rw [wrap_id (by omega)]; simp
    rw [e1, e2] at hn
    have hr : rd_T50 l (pre.length : Int) = r := by rw [h]; exact rdR pre r rest _ rfl
    refine Ev.step (fun k => ?_) hn
    simp only [runs_Count.l0]
    rw [if_pos (by omega), if_pos (by omega), if_pos (by omega), hr]
    rfl
theorem count_ev (l : List RunS) (hl : l.length ≤ 100000) (hf : ∀ r ∈ l, Fit r) : Ev (fun k => runs_Count.f k l) (countOf l) := count_loop l hl hf l [] rfl
theorem count_slices (l : List RunS) : countOf l = (slicesOf l).length := by
  induction l with
  | nil => rfl
  | cons r l ih =>
    have e : slicesOf (r :: l) = rng (fromR r) (sizeR r) ++ slicesOf l := by simp [slicesOf]
    rw [e, List.length_append, rng_len]
    simp only [countOf, List.map_cons, List.sum_cons] at ih ⊢
    omega
theorem missing_loop (l : List RunS) (hl : l.length ≤ 100000) (post : List RunS) : ∀ (pre : List RunS), l = pre ++ post → Ev (fun k => spenceref24_Missing.l0 k (pre.filter fun r => !r.f2) l (l.length : Int) (pre.length : Int)) (l.filter fun r => !r.f2) := by
  induction post with
  | nil =>
    intro pre h
    rw [List.append_nil] at h
    subst h
    exact Ev.pos fun k => by simp only [spenceref24_Missing.l0]; rw [if_neg (by omega)]
  | cons r rest ih =>
    intro pre h
    have hlen : l.length = pre.length + (rest.length + 1) := by rw [h]; simp
    have hn := ih (pre ++ [r]) (by rw [h]; simp)
    have hfl : (pre.filter fun r => !r.f2).length ≤ pre.length := List.length_filter_le _ _
    have e2 : (((pre ++ [r]).length : Nat) : Int) = wrap64 ((pre.length : Int) + 1) := by rw [wrap_id (by omega)]; simp
    rw [List.filter_append, e2] at hn
    have hr : rd_T50 l (pre.length : Int) = r := by rw [h]; exact rdR pre r rest _ rfl
    refine Ev.step (fun k => ?_) hn
    simp only [spenceref24_Missing.l0]
    rw [if_pos (by omega), if_pos (by omega), if_pos (by omega), hr]
    cases hq : r.f2 with
    | true => simp [hq]
    | false =>
      rw [if_neg (by simp), if_pos (Nat.lt_of_le_of_lt hfl (by omega))]
      simp [hq]
      rw [← hq]
theorem missing_ev (l : List RunS) (hl : l.length ≤ 100000) : Ev (fun k => spenceref24_Missing.f k l) (l.filter fun r => !r.f2) := missing_loop l hl l [] rfl
def okR (p : Option Int) (r : RunS) : Bool := decide (0 ≤ r.f0) && (decide (r.f0 < r.f1) && (decide (r.f1 ≤ 4097) && (match p with | none => true | some t => decide (t ≤ r.f0))))
def apB : Option Int → List RunS → Bool
  | _, [] => true
  | p, r :: l => okR p r && apB (some r.f1) l
def lastTo (l : List RunS) : Option Int := l.getLast?.map fun r => r.f1
theorem lastTo_snoc (l : List RunS) (r : RunS) : lastTo (l ++ [r]) = some r.f1 := by simp [lastTo]
theorem apart_loop (l : List RunS) (hl : l.length ≤ 100000) (post : List RunS) : ∀ (pre : List RunS), l = pre ++ post → Ev (fun k => runs_Apart.l0 k l l (l.length : Int) (pre.length : Int)) (apB (lastTo pre) post) := by
  induction post with
  | nil =>
    intro pre h
    rw [List.append_nil] at h
    subst h
    exact Ev.pos fun k => by simp only [runs_Apart.l0]; rw [if_neg (by omega)]; rfl
  | cons r rest ih =>
    intro pre h
    have hlen : l.length = pre.length + (rest.length + 1) := by rw [h]; simp
    have hn := ih (pre ++ [r]) (by rw [h]; simp)
    have e2 : (((pre ++ [r]).length : Nat) : Int) = wrap64 ((pre.length : Int) + 1) := by rw [wrap_id (by omega)]; simp
    rw [lastTo_snoc, e2] at hn
    have hr : rd_T50 l (pre.length : Int) = r := by rw [h]; exact rdR pre r rest _ rfl
    have h1 := mx_eq r.f0 0
    have h2 := mn_eq r.f1 4097
    have no : okR (lastTo pre) r = false → (∀ k, runs_Apart.l0 (k + 1) l l (l.length : Int) (pre.length : Int) = some false) → Ev (fun k => runs_Apart.l0 k l l (l.length : Int) (pre.length : Int)) (apB (lastTo pre) (r :: rest)) := fun hk hh => by
      rw [apB, hk, Bool.false_and]
      exact Ev.pos hh
    have head : ∀ k, runs_Apart.l0 (k + 1) l l (l.length : Int) (pre.length : Int) = (if mx r.f0 0 = r.f0 then (if mn r.f1 4097 = r.f1 then (if mx r.f0 0 ≥ mn r.f1 4097 then (some false) else (if (pre.length : Int) > 0 then (if 0 ≤ (wrap64 ((pre.length : Int) - 1)) then (if (wrap64 ((pre.length : Int) - 1)) < (l.length : Int) then (if ((rd_T50 l (wrap64 ((pre.length : Int) - 1))).f1) > mx r.f0 0 then (some false) else (runs_Apart.l0 k l l (l.length : Int) (wrap64 ((pre.length : Int) + 1)))) else (none)) else (none)) else (runs_Apart.l0 k l l (l.length : Int) (wrap64 ((pre.length : Int) + 1))))) else (some false)) else (some false)) := fun k => by
      simp only [runs_Apart.l0]
      rw [if_pos (by omega), if_pos (by omega), if_pos (by omega), hr]
      rfl
    by_cases c1 : 0 ≤ r.f0
    case neg => exact no (by simp [okR, c1]) (fun k => by rw [head, if_neg (by omega)])
    by_cases c2 : r.f1 ≤ 4097
    case neg => exact no (by simp [okR, c2]) (fun k => by rw [head, if_pos (by omega), if_neg (by omega)])
    by_cases c3 : r.f0 < r.f1
    case neg => exact no (by simp [okR, c3]) (fun k => by rw [head, if_pos (by omega), if_pos (by omega), if_pos (by omega)])
    have e0 : mx r.f0 0 = r.f0 := by omega
    rcases List.eq_nil_or_concat pre with rfl | ⟨pre', q, rfl⟩
    · refine Ev.step (fun k => ?_) (show Ev _ (apB (lastTo []) (r :: rest)) from by rw [apB, show okR (lastTo []) r = true by simp [okR, lastTo, c1, c2, c3], Bool.true_and]; exact hn)
      rw [head, if_pos (by omega), if_pos (by omega), if_neg (by omega), if_neg (by simp)]
    · rw [List.concat_eq_append] at *
      have hq : rd_T50 l (pre'.length : Int) = q := by rw [h, List.append_assoc]; exact rdR pre' q (r :: rest) _ rfl
      have hpl : (((pre' ++ [q]).length : Nat) : Int) - 1 = (pre'.length : Int) := by simp
      have hpp : (((pre' ++ [q]).length : Nat) : Int) > 0 := by simp
      have hll : pre'.length < l.length := by rw [h]; simp
      by_cases c4 : q.f1 ≤ r.f0
      · refine Ev.step (fun k => ?_) (show Ev _ (apB (lastTo (pre' ++ [q])) (r :: rest)) from by rw [apB, show okR (lastTo (pre' ++ [q])) r = true by simp [okR, lastTo, c1, c2, c3, c4], Bool.true_and]; exact hn)
        rw [head, if_pos (by omega), if_pos (by omega), if_neg (by omega), if_pos hpp, hpl, wrap_id (by omega), if_pos (by omega), if_pos (by omega), hq, if_neg (by omega)]
      · exact no (by simp [okR, lastTo_snoc, c4]) (fun k => by rw [head, if_pos (by omega), if_pos (by omega), if_neg (by omega), if_pos hpp, hpl, wrap_id (by omega), if_pos (by omega), if_pos (by omega), hq, if_pos (by omega)])
theorem apart_ev (l : List RunS) (hl : l.length ≤ 100000) : Ev (fun k => runs_Apart.f k l) (apB none l) := apart_loop l hl l [] rfl
theorem apB_snoc (l : List RunS) (r : RunS) : ∀ p, apB p (l ++ [r]) = (apB p l && okR (match lastTo l with | none => p | some t => some t) r) := by
  induction l with
  | nil => intro p; simp [apB, lastTo]
  | cons x l ih =>
    intro p
    rw [List.cons_append, apB, apB, ih, Bool.and_assoc]
    congr 3
    rcases List.eq_nil_or_concat l with rfl | ⟨l', q, rfl⟩
    · rfl
    · rw [List.concat_eq_append, lastTo_snoc, ← List.cons_append, lastTo_snoc]
theorem slices_snoc (l : List RunS) (r : RunS) : slicesOf (l ++ [r]) = slicesOf l ++ rng (fromR r) (sizeR r) := by simp [slicesOf]
theorem rng_one (x : Int) : rng x 1 = [x] := by simp [rng]
/-- What is true of the runs of rising numbers. -/
structure SplitOk (out : List RunS) (xs : List Int) : Prop where
  slices : slicesOf out = xs
  apart : apB none out = true
  last : ∀ init r, out = init ++ [r] → ∃ x ∈ xs, r.f1 = x + 1 ∧ 0 ≤ r.f0 ∧ r.f0 < r.f1
  fit : ∀ r ∈ out, Fit r
theorem srt_mem (l : List Int) (x : Int) : x ∈ srt l ↔ x ∈ l ∧ 0 ≤ x ∧ x ≤ 4096 := by
  unfold srt
  simp only [List.mem_map, List.mem_filter, List.mem_range, decide_eq_true_eq]
  constructor
  · rintro ⟨i, ⟨h1, h2⟩, rfl⟩; exact ⟨h2, by omega, by omega⟩
  · rintro ⟨h1, h2, h3⟩; exact ⟨x.toNat, ⟨by omega, by rwa [Int.toNat_of_nonneg h2]⟩, by omega⟩
theorem splitAll_congr (h h' : Int → Bool) (l : List Int) (hh : ∀ x ∈ l, h x = h' x) : splitAll h l = splitAll h' l := by
  have go : ∀ (l : List Int) (out : List RunS), (∀ x ∈ l, h x = h' x) → l.foldl (splitStep h) out = l.foldl (splitStep h') out := by
    intro l
    induction l with
    | nil => intro _ _; rfl
    | cons x l ih =>
      intro out hx
      have e : splitStep h out x = splitStep h' out x := by unfold splitStep; rw [hx x (by simp)]
      rw [List.foldl_cons, List.foldl_cons, e, ih _ (fun y hy => hx y (by simp [hy]))]
  exact go l [] hh
theorem split_own (l m : List Int) : splitAll (hasF (ofF m)) (srt l) = splitAll (fun x => decide (x ∈ m)) (srt l) :=
  splitAll_congr _ _ _ fun x hx => by rw [has_own, decide_eq_true ((srt_mem l x).1 hx).2, Bool.true_and]
end Go.Proofs.YtcnlmpjoghogbaaDoor.Pure
namespace Go.Proofs.YtcnlmpjoghogbaaDoor.Pure
open Go.RowKit Go.Proofs.YtcnlmpjoghogbaaDoor.Xw Go.Proofs.YtcnlmpjoghogbaaDoor.PAll Go.Proofs.YtcnlmpjoghogbaaDoorW.PrintWords Go.Proofs.YtcnlmpjoghogbaaDoorW.PrintLast Go.Proofs.YtcnlmpjoghogbaaDoorW.PrintMore
open Go.Proofs.YtcnlmpjoghogbaaDoor.Ag (hasF withF zeroF ofF srt splitAll splitStep has_of has_own splitAll_snoc splitAll_len all_of all_len)
theorem awake27 : spencelaw27_awake.f = some true := by
  unfold spencelaw27_awake.f bitmap_Of.f
  rw [Option.bind_some]
  unfold runs_Split.f
  rw [Option.bind_some, show ([1] : List Int).foldl withF zeroF = ofF [1] from rfl, split_own]
  have e : srt [0, 1, 2, 5] = [0, 1, 2, 5] := by kernel_rfl
  rw [e]
  have e3 : splitAll (fun x => decide (x ∈ ([1] : List Int))) [0, 1, 2, 5] = [⟨0, 1, false⟩, ⟨1, 2, true⟩, ⟨2, 3, false⟩, ⟨5, 6, false⟩] := by kernel_rfl
  rw [e3]
  rfl
end Go.Proofs.YtcnlmpjoghogbaaDoor.Pure
namespace Go.Proofs.YtcnlmpjoghogbaaDoor.Pure
open Go.RowKit Go.Proofs.YtcnlmpjoghogbaaDoor.Xw Go.Proofs.YtcnlmpjoghogbaaDoor.PAll Go.Proofs.YtcnlmpjoghogbaaDoorW.PrintWords Go.Proofs.YtcnlmpjoghogbaaDoorW.PrintLast Go.Proofs.YtcnlmpjoghogbaaDoorW.PrintMore
def upTo (r : RunS) (i : Int) : Nat := (mn (mn r.f1 4097) i - mx r.f0 0).toNat
theorem numbers_in (x7 : List RunS) (x8 x9 : Int) (r : RunS) (out : List Int) (ho : out.length ≤ 1000000000) (d : Nat) : ∀ (i : Int), 0 ≤ i → i + d = 4097 →
    ∀ res, Ev (fun k => spenceref24_Numbers.l0 k (out ++ rng (fromR r) (sizeR r)) x7 x8 (wrap64 (x9 + 1))) res → Ev (fun k => spenceref24_Numbers.l1 k (out ++ rng (fromR r) (upTo r i)) i x7 x8 x9 r.f0 r.f1 r.f2) res := by
  induction d with
  | zero =>
    intro i h0 h1 res h
    have e : upTo r i = sizeR r := by
      have a1 := mx_eq r.f0 0; have a2 := mn_eq r.f1 4097; have a3 := mn_eq (mn r.f1 4097) i
      unfold upTo sizeR
      show (mn (mn r.f1 4097) i - mx r.f0 0).toNat = (mn r.f1 4097 - mx r.f0 0).toNat
      omega
    rw [e]
    refine Ev.step (fun k => ?_) h
    simp only [spenceref24_Numbers.l1]
    rw [if_neg (by omega)]
  | succ d ih =>
    intro i h0 h1 res h
    have hn := ih (i + 1) (by omega) (by omega) res h
    have a1 := mx_eq r.f0 0
    have a2 := mn_eq r.f1 4097
    have a3 := mn_eq (mn r.f1 4097) i
    have a4 := mn_eq (mn r.f1 4097) (i + 1)
    have hs : upTo r i ≤ 4097 := by unfold upTo; omega
    refine Ev.step (fun k => ?_) hn
    simp only [spenceref24_Numbers.l1]
    rw [if_pos (by omega), wrap_id (by omega)]
    by_cases c1 : i ≥ r.f0
    · by_cases c2 : i < r.f1
      · have e : upTo r (i + 1) = upTo r i + 1 := by unfold upTo; omega
        have e2 : fromR r + (upTo r i : Int) = i := by unfold upTo; show mx r.f0 0 + _ = i; omega
        rw [if_pos c1, if_pos c2, if_pos (by rw [List.length_append, rng_len]; omega), e, rng_succ, e2, List.append_assoc]
      · have e : upTo r (i + 1) = upTo r i := by unfold upTo; omega
        rw [if_pos c1, if_neg c2, e]
    · have e : upTo r (i + 1) = upTo r i := by unfold upTo; omega
      rw [if_neg c1, e]
theorem numbers_loop (l : List RunS) (hl : l.length ≤ 100000) (post : List RunS) : ∀ (pre : List RunS), l = pre ++ post → Ev (fun k => spenceref24_Numbers.l0 k (slicesOf pre) l (l.length : Int) (pre.length : Int)) (slicesOf l) := by
  induction post with
  | nil =>
    intro pre h
    rw [List.append_nil] at h
    subst h
    exact Ev.pos fun k => by simp only [spenceref24_Numbers.l0]; rw [if_neg (by omega)]
  | cons r rest ih =>
    intro pre h
    have hlen : l.length = pre.length + (rest.length + 1) := by rw [h]; simp
    have hn := ih (pre ++ [r]) (by rw [h]; simp)
    have e2 : (((pre ++ [r]).length : Nat) : Int) = wrap64 ((pre.length : Int) + 1) := by rw [wrap_id (by omega)]; simp
    rw [slices_snoc, e2] at hn
    have hs := slices_len pre
    have hx := numbers_in l (l.length : Int) (pre.length : Int) r (slicesOf pre) (by omega) 4097 0 (by omega) (by omega) _ hn
    have e3 : upTo r 0 = 0 := by
      have a1 := mx_eq r.f0 0; have a3 := mn_eq (mn r.f1 4097) 0
      unfold upTo; omega
    rw [e3, show rng (fromR r) 0 = [] by simp [rng], List.append_nil] at hx
    have hr : rd_T50 l (pre.length : Int) = r := by rw [h]; exact rdR pre r rest _ rfl
    refine Ev.step (fun k => ?_) hx
    simp only [spenceref24_Numbers.l0]
    rw [if_pos (by omega), if_pos (by omega), if_pos (by omega), hr]
theorem numbers_ev (l : List RunS) (hl : l.length ≤ 100000) : Ev (fun k => spenceref24_Numbers.f k l) (slicesOf l) := numbers_loop l hl l [] rfl
/-- the numbers from a on, j of them, in parts of m -/
def blk (a : Int) (m : Nat) (c : Bool) : Nat → List RunS
  | 0 => []
  | j + 1 => if j % m = 0 then blk a m c j ++ [⟨a + j, a + j + 1, c⟩] else (blk a m c j).dropLast ++ [⟨((blk a m c j).getLast?.getD ⟨0, 0, c⟩).f0, a + j + 1, c⟩]
theorem blk_part (a : Int) (m : Nat) (c : Bool) (q : Nat) : ∀ s : Nat, 1 ≤ s → s ≤ m → blk a m c (q * m + s) = blk a m c (q * m) ++ [⟨a + (q * m : Nat), a + (q * m : Nat) + s, c⟩]
  | 0, h, _ => by omega
  | 1, _, h2 => by
    show (if (q * m) % m = 0 then _ else _) = _
    rw [if_pos (Nat.mul_mod_left q m)]
    rfl
  | s + 2, _, h2 => by
    have ih := blk_part a m c q (s + 1) (by omega) (by omega)
    show (if (q * m + (s + 1)) % m = 0 then blk a m c (q * m + (s + 1)) ++ [⟨a + (q * m + (s + 1) : Nat), a + (q * m + (s + 1) : Nat) + 1, c⟩] else (blk a m c (q * m + (s + 1))).dropLast ++ [⟨((blk a m c (q * m + (s + 1))).getLast?.getD ⟨0, 0, c⟩).f0, a + (q * m + (s + 1) : Nat) + 1, c⟩]) = _
    have e : (q * m + (s + 1)) % m = s + 1 := by rw [Nat.add_comm, Nat.add_mul_mod_self_right, Nat.mod_eq_of_lt (by omega)]
    rw [if_neg (by omega), ih]
    simp only [List.dropLast_concat, List.getLast?_concat, Option.getD_some]
    congr 3
    push_cast
    omega
theorem blk_len (a : Int) (m : Nat) (c : Bool) : ∀ j, (blk a m c j).length ≤ j
  | 0 => by simp [blk]
  | j + 1 => by
    have ih := blk_len a m c j
    rw [blk]
    split
    · simp; omega
    · simp; omega
theorem blk_nonempty (a : Int) (m : Nat) (c : Bool) (j : Nat) : ∃ init r, blk a m c (j + 1) = init ++ [r] ∧ r.f1 = a + j + 1 ∧ r.f2 = c := by
  rw [blk]
  split
  · exact ⟨_, _, rfl, rfl, rfl⟩
  · exact ⟨_, _, rfl, rfl, rfl⟩
theorem blk_ext (a : Int) (m : Nat) (c : Bool) (j : Nat) (h : (j + 1) % m ≠ 0) {init : List RunS} {r : RunS} (e : blk a m c (j + 1) = init ++ [r]) : blk a m c (j + 2) = init ++ [⟨r.f0, a + (j + 1 : Nat) + 1, c⟩] := by
  show (if (j + 1) % m = 0 then _ else _) = _
  rw [if_neg h, e]
  simp
/-- The numbers of the parts. -/
theorem blk_slices (a : Int) (m : Nat) (c : Bool) (ha : 0 ≤ a) : ∀ j : Nat, a + j ≤ 4097 → slicesOf (blk a m c j) = rng a j ∧ ∀ init r, blk a m c j = init ++ [r] → 0 ≤ r.f0 ∧ r.f0 < r.f1
  | 0, _ => ⟨by simp [blk, slicesOf, rng], fun init r e => by simp [blk] at e⟩
  | j + 1, hb => by
    obtain ⟨ih, il⟩ := blk_slices a m c ha j (by omega)
    have one : fromR ⟨a + j, a + j + 1, c⟩ = a + j ∧ sizeR ⟨a + j, a + j + 1, c⟩ = 1 := by
      have h1 := mx_eq (a + j) 0
      have h2 := mn_eq (a + j + 1) 4097
      unfold sizeR
      show mx (a + j) 0 = a + j ∧ (mn (a + j + 1) 4097 - mx (a + j) 0).toNat = 1
      omega
    cases j with
    | zero =>
      have e : blk a m c 1 = [] ++ [⟨a + (0 : Nat), a + (0 : Nat) + 1, c⟩] := by
        show (if 0 % m = 0 then _ else _) = _
        rw [if_pos (Nat.zero_mod m)]; rfl
      rw [e]
      refine ⟨by rw [slices_snoc, one.1, one.2, rng_one]; simp [slicesOf, rng], fun init r e => ?_⟩
      have e2 := List.append_inj' e rfl
      simp only [List.cons.injEq, and_true] at e2
      obtain ⟨_, rfl⟩ := e2
      exact ⟨by show 0 ≤ a + ((0 : Nat) : Int); omega, by show a + ((0 : Nat) : Int) < a + ((0 : Nat) : Int) + 1; omega⟩
    | succ j =>
      by_cases h : (j + 1) % m = 0
      · have e : blk a m c (j + 1 + 1) = blk a m c (j + 1) ++ [⟨a + (j + 1 : Nat), a + (j + 1 : Nat) + 1, c⟩] := by
          show (if (j + 1) % m = 0 then _ else _) = _
          rw [if_pos h]
        rw [e]
        refine ⟨by rw [slices_snoc, ih, one.1, one.2, rng_one, ← rng_succ], fun init r e => ?_⟩
        have e2 := List.append_inj' e rfl
        simp only [List.cons.injEq, and_true] at e2
        obtain ⟨_, rfl⟩ := e2
        exact ⟨by show 0 ≤ a + ((j + 1 : Nat) : Int); omega, by show a + ((j + 1 : Nat) : Int) < a + ((j + 1 : Nat) : Int) + 1; omega⟩
      · obtain ⟨init, r, e0, e1, e2⟩ := blk_nonempty a m c j
        obtain ⟨i1, i2⟩ := il init r e0
        have e := blk_ext a m c j h e0
        rw [show j + 1 + 1 = j + 2 from rfl, e]
        rw [e0, slices_snoc] at ih
        have two : fromR ⟨r.f0, a + (j + 1 : Nat) + 1, c⟩ = fromR r ∧ sizeR ⟨r.f0, a + (j + 1 : Nat) + 1, c⟩ = sizeR r + 1 ∧ fromR r + (sizeR r : Int) = a + (j + 1 : Nat) := by
          have h1 := mx_eq r.f0 0
          have h2 := mn_eq (a + (j + 1 : Nat) + 1) 4097
          have h3 := mn_eq r.f1 4097
          unfold sizeR
          show mx r.f0 0 = mx r.f0 0 ∧ (mn (a + (j + 1 : Nat) + 1) 4097 - mx r.f0 0).toNat = (mn r.f1 4097 - mx r.f0 0).toNat + 1 ∧ mx r.f0 0 + ((mn r.f1 4097 - mx r.f0 0).toNat : Int) = a + (j + 1 : Nat)
          omega
        refine ⟨by rw [slices_snoc, two.1, two.2.1, rng_succ, two.2.2, ← List.append_assoc, ih, ← rng_succ], fun init' r' e' => ?_⟩
        have e3 := List.append_inj' e' rfl
        simp only [List.cons.injEq, and_true] at e3
        obtain ⟨_, rfl⟩ := e3
        exact ⟨i1, by show r.f0 < a + ((j + 1 : Nat) : Int) + 1; omega⟩
def capOf (m : Nat) (l : List RunS) : List RunS := l.flatMap fun r => blk (fromR r) m r.f2 (sizeR r)
theorem cap_snoc (m : Nat) (l : List RunS) (r : RunS) : capOf m (l ++ [r]) = capOf m l ++ blk (fromR r) m r.f2 (sizeR r) := by simp [capOf]
theorem cap_len (m : Nat) (l : List RunS) : (capOf m l).length ≤ l.length * 4097 := by
  induction l with
  | nil => simp [capOf]
  | cons r l ih =>
    have h1 := size_le r
    have h2 := blk_len (fromR r) m r.f2 (sizeR r)
    have e : capOf m (r :: l) = blk (fromR r) m r.f2 (sizeR r) ++ capOf m l := by simp [capOf]
    rw [e, List.length_append, List.length_cons, Nat.succ_mul]
    omega
theorem slices_append (a b : List RunS) : slicesOf (a ++ b) = slicesOf a ++ slicesOf b := by simp [slicesOf]
theorem cap_slices (m : Nat) (l : List RunS) : slicesOf (capOf m l) = slicesOf l := by
  induction l with
  | nil => rfl
  | cons r l ih =>
    have e : capOf m (r :: l) = blk (fromR r) m r.f2 (sizeR r) ++ capOf m l := by simp [capOf]
    have e2 : slicesOf (r :: l) = rng (fromR r) (sizeR r) ++ slicesOf l := by simp [slicesOf]
    have h1 := mx_eq r.f0 0
    have h2 := mn_eq r.f1 4097
    rw [e, slices_append, ih, e2]
    congr 1
    rcases Nat.eq_zero_or_pos (sizeR r) with h | h
    · rw [h]; simp [blk, slicesOf, rng]
    · refine (blk_slices (fromR r) m r.f2 (by show 0 ≤ mx r.f0 0; omega) (sizeR r) ?_).1
      unfold sizeR at h ⊢
      have h' : 0 < (mn r.f1 4097 - mx r.f0 0).toNat := h
      show mx r.f0 0 + ((mn r.f1 4097 - mx r.f0 0).toNat : Int) ≤ 4097
      omega
theorem to_eq (r : RunS) (h : 0 < sizeR r) : toR r = fromR r + sizeR r := by
  unfold sizeR at h ⊢
  show mn r.f1 4097 = mx r.f0 0 + ((mn r.f1 4097 - mx r.f0 0).toNat : Int)
  have h' : 0 < (mn r.f1 4097 - mx r.f0 0).toNat := h
  omega
theorem cap_in (m : Nat) (hm : 1 ≤ m) (hmb : (m : Int) ≤ 9223372036854775807) (r : RunS) (x13 : List RunS) (x14 x15 : Int) (out : List RunS) (ho : out.length ≤ 1000000000) (a : Int) (n : Nat) (ha : 0 ≤ a) (hn : a + n ≤ 4097) (d : Nat) : ∀ q : Nat, q * m < n → n - q * m ≤ d →
    ∀ res, Ev (fun k => runs_Cap.l0 k (m : Int) (out ++ blk a m r.f2 n) x13 x14 (wrap64 (x15 + 1))) res → Ev (fun k => runs_Cap.l1 k (m : Int) (out ++ blk a m r.f2 (q * m)) (a + (q * m : Nat)) (a + n) x13 x14 x15 r.f0 r.f1 r.f2) res := by
  induction d with
  | zero => intro q h1 h2; omega
  | succ d ih =>
    intro q h1 h2 res h
    have hbl := blk_len a m r.f2 (q * m)
    have hol : (out ++ blk a m r.f2 (q * m)).length < 5864062014805 := by rw [List.length_append]; omega
    have hw : wrap64 (a + (n : Int) - (a + ((q * m : Nat) : Int))) = (n : Int) - ((q * m : Nat) : Int) := by rw [wrap_id (by omega)]; omega
    refine Ev.succ ?_
    simp only [runs_Cap.l1, show a + ((q * m : Nat) : Int) < a + (n : Int) by omega, if_true, hw, hol]
    by_cases c1 : (m : Int) < (n : Int) - ((q * m : Nat) : Int)
    · simp only [c1, if_true]
      have e : (q + 1) * m = q * m + m := Nat.succ_mul q m
      have hp := blk_part a m r.f2 q m hm (Nat.le_refl _)
      have hnx := ih (q + 1) (by omega) (by omega) res h
      rw [e, hp] at hnx
      have hw2 : wrap64 (a + ((q * m : Nat) : Int) + (m : Int)) = a + ((q * m : Nat) : Int) + (m : Int) := wrap_id (by omega)
      have e3 : a + ((q * m + m : Nat) : Int) = a + ((q * m : Nat) : Int) + (m : Int) := by push_cast; omega
      rw [hw2]
      rw [e3, ← List.append_assoc] at hnx
      exact hnx
    · simp only [c1, if_false]
      have hp := blk_part a m r.f2 q (n - q * m) (by omega) (by omega)
      rw [show q * m + (n - q * m) = n by omega] at hp
      have e3 : a + ((q * m : Nat) : Int) + ((n - q * m : Nat) : Int) = a + (n : Int) := by omega
      rw [e3] at hp
      rw [hp, ← List.append_assoc] at h
      refine Ev.step (fun k => ?_) h
      simp only [runs_Cap.l1]
      rw [if_neg (by omega)]
theorem cap_loop (m : Nat) (hm : 1 ≤ m) (hmb : (m : Int) ≤ 9223372036854775807) (l : List RunS) (hl : l.length ≤ 100000) (post : List RunS) : ∀ (pre : List RunS), l = pre ++ post → Ev (fun k => runs_Cap.l0 k (m : Int) (capOf m pre) l (l.length : Int) (pre.length : Int)) (capOf m l) := by
  induction post with
  | nil =>
    intro pre h
    rw [List.append_nil] at h
    subst h
    exact Ev.pos fun k => by simp only [runs_Cap.l0]; rw [if_neg (by omega)]
  | cons r rest ih =>
    intro pre h
    have hlen : l.length = pre.length + (rest.length + 1) := by rw [h]; simp
    have hnx := ih (pre ++ [r]) (by rw [h]; simp)
    have e2 : (((pre ++ [r]).length : Nat) : Int) = wrap64 ((pre.length : Int) + 1) := by rw [wrap_id (by omega)]; simp
    rw [cap_snoc, e2] at hnx
    have hc := cap_len m pre
    have hr : rd_T50 l (pre.length : Int) = r := by rw [h]; exact rdR pre r rest _ rfl
    have h1 := mx_eq r.f0 0
    have h2 := mn_eq r.f1 4097
    have head : ∀ k, runs_Cap.l0 (k + 1) (m : Int) (capOf m pre) l (l.length : Int) (pre.length : Int) = (if fromR r ≥ toR r then (runs_Cap.l0 k (m : Int) (capOf m pre) l (l.length : Int) (wrap64 ((pre.length : Int) + 1))) else (runs_Cap.l1 k (m : Int) (capOf m pre) (fromR r) (toR r) l (l.length : Int) (pre.length : Int) r.f0 r.f1 r.f2)) := fun k => by
      simp only [runs_Cap.l0]
      rw [if_pos (by omega), if_pos (by omega), if_pos (by omega), hr]
      rfl
    rcases Nat.eq_zero_or_pos (sizeR r) with h0 | h0
    · rw [h0, show blk (fromR r) m r.f2 0 = [] from rfl, List.append_nil] at hnx
      refine Ev.step (fun k => ?_) hnx
      rw [head, if_pos]
      unfold sizeR at h0
      show mx r.f0 0 ≥ mn r.f1 4097
      have h0' : (mn r.f1 4097 - mx r.f0 0).toNat = 0 := h0
      omega
    · have ht := to_eq r h0
      have hx := cap_in m hm hmb r l (l.length : Int) (pre.length : Int) (capOf m pre) (by omega) (fromR r) (sizeR r) (by show 0 ≤ mx r.f0 0; omega) (by rw [← ht]; show mn r.f1 4097 ≤ 4097; omega) (sizeR r) 0 (by omega) (by omega) _ hnx
      rw [Nat.zero_mul, show blk (fromR r) m r.f2 0 = [] from rfl, List.append_nil, show fromR r + ((0 : Nat) : Int) = fromR r by omega, ← ht] at hx
      refine Ev.step (fun k => ?_) hx
      rw [head, if_neg (by omega)]
theorem cap_ev (m : Nat) (a1 : Int) (h : mx a1 1 = m) (hb : a1 ≤ 9223372036854775807) (l : List RunS) (hl : l.length ≤ 100000) : Ev (fun k => runs_Cap.f k l a1) (capOf m l) := by
  have h1 := mx_eq a1 1
  unfold runs_Cap.f
  rw [h]
  exact cap_loop m (by omega) (by omega) l hl l [] rfl
theorem next_mod (j m : Nat) (hm : 1 ≤ m) : (j + 1) % m = if j % m + 1 = m then 0 else j % m + 1 := by
  have hlt := Nat.mod_lt j hm
  have e : j + 1 = m * (j / m) + (j % m + 1) := by have := Nat.div_add_mod j m; omega
  split
  · rename_i c
    rw [e, c, ← Nat.mul_succ, Nat.mul_mod_right]
  · rename_i c
    rw [e, Nat.mul_add_mod, Nat.mod_eq_of_lt (by omega)]
theorem capRef_in (m : Nat) (hm : 1 ≤ m) (r : RunS) (x14 : List RunS) (x15 x16 : Int) (out : List RunS) (ho : out.length ≤ 1000000000) (a : Int) (n : Nat) (ha : 0 ≤ a) (hn : a + n ≤ 4097) (d : Nat) : ∀ j : Nat, j + d = n →
    ∀ res, Ev (fun k => spenceref24_Cap.l0 k (m : Int) (out ++ blk a m r.f2 n) x14 x15 (wrap64 (x16 + 1))) res → Ev (fun k => spenceref24_Cap.l1 k (m : Int) (out ++ blk a m r.f2 j) ((j % m : Nat) : Int) x14 x15 x16 (rng a n) (n : Int) (j : Int) r.f0 r.f1 r.f2) res := by
  induction d with
  | zero =>
    intro j h1 res h
    obtain rfl : j = n := by omega
    refine Ev.step (fun k => ?_) h
    simp only [spenceref24_Cap.l1]
    rw [if_neg (by omega)]
  | succ d ih =>
    intro j h1 res h
    have hnx := ih (j + 1) (by omega) res h
    have hbl := blk_len a m r.f2 j
    have hmod := Nat.mod_lt j hm
    have hmle := Nat.mod_le j m
    have hwk : wrap64 (((j % m : Nat) : Int) + 1) = ((j % m : Nat) : Int) + 1 := wrap_id (by omega)
    have hwj : wrap64 ((j : Int) + 1) = ((j + 1 : Nat) : Int) := by rw [wrap_id (by omega)]; push_cast; rfl
    have hwa : wrap64 (a + (j : Int) + 1) = a + (j : Int) + 1 := wrap_id (by omega)
    have hrd : rd (rng a n) (j : Int) = a + j := rng_rd a n j (by omega) (by omega)
    have fin : ∀ y : List RunS, y = out ++ blk a m r.f2 (j + 1) → Ev (fun k => if ((j % m : Nat) : Int) + 1 = (m : Int) then (spenceref24_Cap.l1 k (m : Int) y 0 x14 x15 x16 (rng a n) (n : Int) ((j + 1 : Nat) : Int) r.f0 r.f1 r.f2) else (spenceref24_Cap.l1 k (m : Int) y (((j % m : Nat) : Int) + 1) x14 x15 x16 (rng a n) (n : Int) ((j + 1 : Nat) : Int) r.f0 r.f1 r.f2)) res := fun y hy => by
      subst hy
      rw [next_mod j m hm] at hnx
      by_cases c : j % m + 1 = m
      · rw [if_pos c] at hnx
        simp only [show ((j % m : Nat) : Int) + 1 = (m : Int) by omega, if_true]
        exact hnx
      · rw [if_neg c] at hnx
        simp only [show ¬ ((j % m : Nat) : Int) + 1 = (m : Int) by omega, if_false]
        have e : ((j % m + 1 : Nat) : Int) = ((j % m : Nat) : Int) + 1 := by push_cast; rfl
        rw [e] at hnx
        exact hnx
    by_cases c0 : j % m = 0
    · have hb : blk a m r.f2 (j + 1) = blk a m r.f2 j ++ [⟨a + j, a + j + 1, r.f2⟩] := by rw [blk, if_pos c0]
      refine Ev.step (fun k => ?_) (fin (out ++ blk a m r.f2 j ++ [⟨a + j, a + j + 1, r.f2⟩]) (by rw [hb, List.append_assoc]))
      simp only [spenceref24_Cap.l1]
      rw [if_pos (by omega), if_pos (by omega), if_pos (by rw [rng_len]; omega), if_neg (by omega), if_pos (by rw [List.length_append]; omega), Option.bind_some, hrd, hwa, hwk, hwj]
    · cases j with
      | zero => exact absurd (Nat.zero_mod m) c0
      | succ j =>
        obtain ⟨init, q, e0, e1, e2⟩ := blk_nonempty a m r.f2 j
        have hb := blk_ext a m r.f2 j c0 e0
        have hlast : ((out ++ (init ++ [q])).length : Int) - 1 = ((out ++ init).length : Nat) := by simp; omega
        have hlw : wrap64 (((out ++ (init ++ [q])).length : Int) - 1) = ((out ++ init).length : Nat) := by
          rw [hlast, wrap_id]
          rw [e0] at hbl
          simp only [List.length_append, List.length_cons, List.length_nil] at hbl ⊢
          omega
        have hq : rd_T50 (out ++ (init ++ [q])) (((out ++ init).length : Nat) : Int) = q := by rw [← List.append_assoc]; exact rdR (out ++ init) q [] _ rfl
        have hset : (out ++ (init ++ [q])).set (out ++ init).length ⟨q.f0, a + ((j + 1 : Nat) : Int) + 1, q.f2⟩ = out ++ blk a m r.f2 (j + 2) := by
          rw [hb, ← e2, ← List.append_assoc, ← List.append_assoc]
          simp
        refine Ev.step (fun k => ?_) (fin _ rfl)
        simp only [spenceref24_Cap.l1]
        rw [if_pos (by omega), if_pos (by omega), if_pos (by rw [rng_len]; omega), if_pos (by omega), e0, hlw, if_pos (by omega), if_pos (by rw [← List.append_assoc]; simp; omega), hq, Int.toNat_natCast, hrd, hwa, hset, Option.bind_some, hwk, hwj]
theorem capRef_loop (m : Nat) (hm : 1 ≤ m) (l : List RunS) (hl : l.length ≤ 100000) (post : List RunS) : ∀ (pre : List RunS), l = pre ++ post → Ev (fun k => spenceref24_Cap.l0 k (m : Int) (capOf m pre) l (l.length : Int) (pre.length : Int)) (capOf m l) := by
  induction post with
  | nil =>
    intro pre h
    rw [List.append_nil] at h
    subst h
    exact Ev.pos fun k => by simp only [spenceref24_Cap.l0]; rw [if_neg (by omega)]
  | cons r rest ih =>
    intro pre h
    have hlen : l.length = pre.length + (rest.length + 1) := by rw [h]; simp
    have hnx := ih (pre ++ [r]) (by rw [h]; simp)
    have e2 : (((pre ++ [r]).length : Nat) : Int) = wrap64 ((pre.length : Int) + 1) := by rw [wrap_id (by omega)]; simp
    rw [cap_snoc, e2] at hnx
    have hc := cap_len m pre
    have hr : rd_T50 l (pre.length : Int) = r := by rw [h]; exact rdR pre r rest _ rfl
    have h1 := mx_eq r.f0 0
    have h2 := mn_eq r.f1 4097
    have hnum := numbers_ev [r] (by simp)
    rw [show slicesOf [r] = rng (fromR r) (sizeR r) by simp [slicesOf]] at hnum
    refine Ev.succ ?_
    simp only [spenceref24_Cap.l0, show (pre.length : Int) < (l.length : Int) by omega, show (0 : Int) ≤ (pre.length : Int) by omega, if_true, hr]
    refine Ev.bind hnum ?_
    simp only [rng_len]
    have hx : Ev (fun k => spenceref24_Cap.l1 k (m : Int) (capOf m pre ++ blk (fromR r) m r.f2 0) ((0 % m : Nat) : Int) l (l.length : Int) (pre.length : Int) (rng (fromR r) (sizeR r)) ((sizeR r : Nat) : Int) ((0 : Nat) : Int) r.f0 r.f1 r.f2) (capOf m l) := by
      rcases Nat.eq_zero_or_pos (sizeR r) with h0 | h0
      · refine Ev.step (fun k => ?_) hnx
        simp only [spenceref24_Cap.l1]
        rw [if_neg (by omega), h0]
      · have ht := to_eq r h0
        exact capRef_in m hm r l (l.length : Int) (pre.length : Int) (capOf m pre) (by omega) (fromR r) (sizeR r) (by show 0 ≤ mx r.f0 0; omega) (by rw [← ht]; show mn r.f1 4097 ≤ 4097; omega) (sizeR r) 0 (by omega) _ hnx
    rw [show blk (fromR r) m r.f2 0 = [] from rfl, List.append_nil, Nat.zero_mod] at hx
    exact hx
theorem capRef_ev (m : Nat) (a1 : Int) (h : mx a1 1 = m) (l : List RunS) (hl : l.length ≤ 100000) : Ev (fun k => spenceref24_Cap.f k l a1) (capOf m l) := by
  have h1 := mx_eq a1 1
  have main : Ev (fun k => spenceref24_Cap.j0 k l (m : Int)) (capOf m l) := by
    refine Ev.succ ?_
    simp only [spenceref24_Cap.j0]
    exact capRef_loop m (by omega) l hl l [] rfl
  unfold spenceref24_Cap.f
  by_cases c : a1 < 1
  · simp only [c, if_true]
    rw [show (1 : Int) = (m : Int) by omega]
    exact main
  · simp only [c, if_false]
    rw [show a1 = (m : Int) by omega]
    exact main
def fewB (l : List RunS) : Bool := (l.all fun r => !(decide (r.f0 < -1000) || (decide (r.f0 > 5000) || (decide (r.f1 < -1000) || (decide (r.f1 > 5000) || decide (r.f1 - r.f0 > 500))))))
theorem few_loop (l : List RunS) (hl : l.length ≤ 5864062014805) (post : List RunS) : ∀ (pre : List RunS), l = pre ++ post → Ev (fun k => spencelaw27_Few.l0 k l l (l.length : Int) (pre.length : Int)) (fewB post && decide (l.length ≤ 20)) := by
  induction post with
  | nil =>
    intro pre h
    rw [List.append_nil] at h
    subst h
    refine Ev.pos fun k => ?_
    simp only [spencelaw27_Few.l0]
    rw [if_neg (by omega)]
    simp only [fewB, List.all_nil, Bool.true_and, Option.some.injEq, decide_eq_decide]
    omega
  | cons r rest ih =>
    intro pre h
    have hlen : l.length = pre.length + (rest.length + 1) := by rw [h]; simp
    have hnx := ih (pre ++ [r]) (by rw [h]; simp)
    have e2 : (((pre ++ [r]).length : Nat) : Int) = wrap64 ((pre.length : Int) + 1) := by rw [wrap_id (by omega)]; simp
    rw [e2] at hnx
    have hr : rd_T50 l (pre.length : Int) = r := by rw [h]; exact rdR pre r rest _ rfl
    have hb : fewB (r :: rest) = (!(decide (r.f0 < -1000) || (decide (r.f0 > 5000) || (decide (r.f1 < -1000) || (decide (r.f1 > 5000) || decide (r.f1 - r.f0 > 500))))) && fewB rest) := by simp [fewB]
    rw [hb]
    have hd : ∀ k, spencelaw27_Few.l0 (k + 1) l l (l.length : Int) (pre.length : Int) = (if r.f0 < (-1000) then (some false) else (if r.f0 > 5000 then (some false) else (if r.f1 < (-1000) then (some false) else (if r.f1 > 5000 then (some false) else (if (wrap64 (r.f1 - r.f0)) > 500 then (some false) else (spencelaw27_Few.l0 k l l (l.length : Int) (wrap64 ((pre.length : Int) + 1)))))))) := fun k => by
      simp only [spencelaw27_Few.l0]
      rw [if_pos (by omega), if_pos (by omega), if_pos (by omega), hr]
    by_cases c1 : r.f0 < -1000
    · exact Ev.pos fun k => by rw [hd, if_pos c1]; simp [c1]
    by_cases c2 : r.f0 > 5000
    · exact Ev.pos fun k => by rw [hd, if_neg c1, if_pos c2]; simp [c2]
    by_cases c3 : r.f1 < -1000
    · exact Ev.pos fun k => by rw [hd, if_neg c1, if_neg c2, if_pos c3]; simp [c3]
    by_cases c4 : r.f1 > 5000
    · exact Ev.pos fun k => by rw [hd, if_neg c1, if_neg c2, if_neg c3, if_pos c4]; simp [c4]
    have hw : wrap64 (r.f1 - r.f0) = r.f1 - r.f0 := wrap_id (by omega)
    by_cases c5 : r.f1 - r.f0 > 500
    · exact Ev.pos fun k => by rw [hd, if_neg c1, if_neg c2, if_neg c3, if_neg c4, hw, if_pos c5]; simp [c5]
    · rw [decide_eq_false c1, decide_eq_false c2, decide_eq_false c3, decide_eq_false c4, decide_eq_false c5]
      simp only [Bool.or_self, Bool.not_false, Bool.true_and]
      refine Ev.step (fun k => ?_) hnx
      rw [hd, if_neg c1, if_neg c2, if_neg c3, if_neg c4, hw, if_neg c5]
theorem few_ev (l : List RunS) (hl : l.length ≤ 5864062014805) : Ev (fun k => spencelaw27_Few.f k l) (fewB l && decide (l.length ≤ 20)) := few_loop l hl l [] rfl
theorem few_fit (l : List RunS) (h : fewB l = true) : ∀ r ∈ l, Fit r := by
  intro r hr
  have := List.all_eq_true.1 h r hr
  simp only [Bool.not_eq_true', Bool.or_eq_false_iff, decide_eq_false_iff_not] at this
  obtain ⟨a, b, c, d, _⟩ := this
  exact ⟨by omega, by omega, by omega, by omega⟩
end Go.Proofs.YtcnlmpjoghogbaaDoor.Pure
namespace Go.Proofs.YtcnlmpjoghogbaaDoor.Pure
open Go.RowKit Go.Proofs.YtcnlmpjoghogbaaDoor.Xw Go.Proofs.YtcnlmpjoghogbaaDoor.PAll Go.Proofs.YtcnlmpjoghogbaaDoorW.PrintWords Go.Proofs.YtcnlmpjoghogbaaDoorW.PrintLast Go.Proofs.YtcnlmpjoghogbaaDoorW.PrintMore
theorem caps_end (l : List RunS) (a1 : Int) (m : Nat) (hm : mx a1 1 = m) (hl : l.length ≤ 20) (hf : ∀ r ∈ l, Fit r) :
    Ev (fun k => spencelaw27_RunsCaps.l0 k l a1 (slicesOf l) (capOf m l) (apB none l) l (l.length : Int) (l.length : Int)) true := by
  have hc := cap_len m l
  have hs := slices_len l
  refine Ev.succ ?_
  simp only [spencelaw27_RunsCaps.l0, show ¬ (l.length : Int) < (l.length : Int) by omega, if_false]
  refine Ev.bind (capRef_ev m a1 hm l (by omega)) ?_
  refine Ev.bind (same_runs _ (by omega)) ?_
  simp only [if_true]
  refine Ev.bind (slices_ev l (by omega)) ?_
  refine Ev.bind (ints_ev _ _ (by omega)) ?_
  simp only [decide_true, if_true]
  have h2 := slices_ev (capOf m l) (by omega)
  rw [cap_slices] at h2
  refine Ev.bind h2 ?_
  refine Ev.bind (ints_ev _ _ (by omega)) ?_
  simp only [decide_true, if_true]
  have h3 := count_ev l (by omega) hf
  rw [count_slices] at h3
  refine Ev.bind h3 ?_
  simp only [if_true]
  refine Ev.bind (apart_ev l (by omega)) ?_
  simp only [beq_self_eq_true, if_true]
  unfold runs_Missing.f
  rw [if_pos (by omega)]
  simp only [Option.bind_some]
  have hfl : (l.filter fun r => !r.f2).length ≤ l.length := List.length_filter_le _ _
  refine Ev.bind (missing_ev l (by omega)) ?_
  refine Ev.bind (same_runs _ (Nat.le_trans hfl (by omega))) ?_
  exact Ev.now _
theorem caps_loop (l : List RunS) (a1 : Int) (m : Nat) (hm : mx a1 1 = m) (hl : l.length ≤ 20) (hf : ∀ r ∈ l, Fit r) (post : List RunS) : ∀ (pre : List RunS), l = pre ++ post →
    Ev (fun k => spencelaw27_RunsCaps.l0 k l a1 (slicesOf l) (capOf m l) (apB none pre) l (l.length : Int) (pre.length : Int)) true := by
  induction post with
  | nil =>
    intro pre h
    rw [List.append_nil] at h
    subst h
    exact caps_end l a1 m hm hl hf
  | cons r rest ih =>
    intro pre h
    have hlen : l.length = pre.length + (rest.length + 1) := by rw [h]; simp
    have hn := ih (pre ++ [r]) (by rw [h]; simp)
    have e2 : (((pre ++ [r]).length : Nat) : Int) = wrap64 ((pre.length : Int) + 1) := by rw [wrap_id (by omega)]; simp
    rw [apB_snoc, e2] at hn
    have hr : rd_T50 l (pre.length : Int) = r := by rw [h]; exact rdR pre r rest _ rfl
    refine Ev.step (fun k => ?_) hn
    simp only [spencelaw27_RunsCaps.l0]
    rw [if_pos (by omega), if_pos (by omega), if_pos (by omega), hr]
    by_cases c0 : apB none pre = true
    case neg =>
      rw [if_neg c0]
      simp only [Bool.not_eq_true] at c0
      rw [c0, Bool.false_and]
    rw [if_pos c0, c0, Bool.true_and]
    by_cases c1 : 0 ≤ r.f0
    case neg => rw [if_neg (by omega)]; simp [okR, c1]
    by_cases c3 : r.f0 < r.f1
    case neg => rw [if_pos (by omega), if_neg c3]; simp [okR, c3]
    by_cases c2 : r.f1 ≤ 4097
    case neg => rw [if_pos (by omega), if_pos c3, if_neg c2]; simp [okR, c2]
    rw [if_pos (by omega), if_pos c3, if_pos c2]
    rcases List.eq_nil_or_concat pre with rfl | ⟨pre', q, rfl⟩
    · rw [if_pos (by simp)]
      simp [okR, lastTo, c1, c2, c3]
    · rw [List.concat_eq_append] at *
      have hq : rd_T50 l (pre'.length : Int) = q := by rw [h, List.append_assoc]; exact rdR pre' q (r :: rest) _ rfl
      have hpl : (((pre' ++ [q]).length : Nat) : Int) - 1 = (pre'.length : Int) := by simp
      have hpp : ¬ (((pre' ++ [q]).length : Nat) : Int) = 0 := by simp; omega
      have hll : pre'.length < l.length := by rw [h]; simp
      rw [if_neg hpp, hpl, wrap_id (by omega), if_pos (by omega), if_pos (by omega), hq]
      simp [okR, lastTo_snoc, c1, c2, c3]
theorem RunsCaps : spencelaw27_RunsCaps.Pure := by
  intro l a1 h1 _ h3
  have hb := wf_bd h3
  refine Ev.rounds (g := fun k => spencelaw27_RunsCaps.f k l a1) ?_
  unfold spencelaw27_RunsCaps.f
  rw [awake27]
  simp only [Option.bind_some, if_true]
  refine Ev.bind (few_ev l (by omega)) ?_
  by_cases c : (fewB l && decide (l.length ≤ 20)) = true
  · simp only [c, if_true]
    rw [Bool.and_eq_true, decide_eq_true_eq] at c
    have hx := mx_eq a1 1
    have hm : mx a1 1 = ((mx a1 1).toNat : Nat) := by omega
    refine Ev.bind (numbers_ev l (by omega)) ?_
    refine Ev.bind (cap_ev _ a1 hm hb.2 l (by omega)) ?_
    exact caps_loop l a1 _ hm c.2 (few_fit l c.1) l [] rfl
  · simp only [c, Bool.false_eq_true, if_false]
    exact Ev.now _
end Go.Proofs.YtcnlmpjoghogbaaDoor.Pure
namespace Go.Proofs.YtcnlmpjoghogbaaDoor.runsCaps
open Go.ChangeShapes Go.WideShapes Go.ChangeAt Go.RowKit Go.Proofs.YtcnlmpjoghogbaaDoor.Rd Go.Proofs.YtcnlmpjoghogbaaDoor.PAll Go.Proofs.YtcnlmpjoghogbaaDoorW.PrintWords
open Go.ChangeMaps (open_string shut_string)
set_option linter.unusedVariables false
theorem own : ownKnob Tryd.prog.godebug = none := by kernel_rfl
theorem laidOut : laidOutB Tryd.prog = true := by kernel_rfl
def ok50 (x : S50) : Prop := (Lit.int .i64 x.f0).wf = true ∧ (Lit.int .i64 x.f1).wf = true ∧ True
theorem o50 : Opens Tryd.prog 50 k50 ok50 := opens_struct Tryd.underlying50 (opensF_cons (opens_int Tryd.underlying3) rfl (by kernel_rfl) rfl (opensF_cons (opens_int Tryd.underlying3) rfl (by kernel_rfl) rfl (opensF_one (opens_bool Tryd.underlying4) rfl (by kernel_rfl)))) (by kernel_rfl) (fun x : S50 => (x.f0, x.f1, x.f2)) (fun p => ⟨p.1, p.2.1, p.2.2⟩) (fun _ => rfl)
set_option maxRecDepth 100000 in
set_option maxHeartbeats 4000000 in
theorem lifted (os : Os) (started : os.Started) (H : Type) (enc : TypeId × Value → H) :
    ReturnsInHanded {} Tryd.checked os 5 .any (fun w args => (Rows.runsCapsSpec.pre enc Tryd.prog Tryd.f5 Rows.runsCapsRow.domain false w args ∧ laidMetH Tryd.prog Rows.runsCapsRow.laid w) ∧ sizedMet enc Tryd.prog Tryd.f5 (OpenSpec.ofChange Rows.runsCapsSpec) false w args) (Rows.runsCapsSpec.post enc Tryd.prog Tryd.f5 false true false false) := by
  refine returnsInHanded_of_change_and (C := Tryd.checked) (X := (fun w _ => laidMetH Tryd.prog Rows.runsCapsRow.laid w)) (fun _ _ _ hh h => h.of_heap hh) own started (by kernel_rfl) Tryd.func5
    (ChangeSpec.witness_shaped (enc := enc) (C := Tryd.checked) (os := os) (X := (fun w _ => laidMetH Tryd.prog Rows.runsCapsRow.laid w)) false (World.laidAll Tryd.prog os Rows.runsCapsRow.laid) #[.slice none 0 0, .int .i64 0] 8 (World.laidAll_os _ _ _)
      (World.shaped_of_ZipB (by kernel_rfl) (by kernel_rfl)) (by kernel_rfl) (by kernel_rfl) (by kernel_rfl)
      (by rw [MakeChecks.laidMetH_plain _ _ _ (by kernel_rfl)]; exact laidMet_laidAll _ (by kernel_rfl) (by kernel_rfl))) ?_
  intro W base args ds gs before hval0 hW hcnd hsz0 hL_ _
  rw [MakeChecks.laidMetH_plain _ _ _ (by kernel_rfl)] at hL_
  have hT := Ag.tab_of_reads (Lib.laidMet.reads hL_ (.head _))
  have hsz : (DataW.weightsEach Tryd.prog (Tryd.f5.params.toList ++ Rows.runsCapsSpec.plain.varTypes Tryd.prog) (ds ++ gs)).all (· ≤ reachBytes) = true := hsz0
  have hval : ∀ (j : Nat) t v, Tryd.f5.params[j]? = some t → args[j]? = some v → Value.okWide Tryd.prog W .any base t v := hval0
  have hW' := hW
  obtain ⟨p, q, hA0, hV, rfl, hfz, hnd⟩ := hW
  have hA : DataW.TrodAll enc Tryd.prog W 0 (fun _ => true) true Tryd.f5.params.toList args.toList ds p := hA0
  rw [Tryd.params5] at hA hval hsz
  obtain ⟨v0, vs0, d0, ds0, p0, q0, hargs, rfl, rfl, h0, r0⟩ := trodAll_cons hA
  obtain ⟨v1, vs1, d1, ds1, p1, q1, rfl, rfl, rfl, h1, r1⟩ := trodAll_cons r0
  obtain ⟨rfl, rfl, rfl⟩ := trodAll_nil r1
  obtain rfl : args = #[v0, v1] := by cases args; simp_all
  obtain ⟨rfl, rfl⟩ := trodVars_none hV
  have k0 := h0
  have lt0 : ∀ x ∈ p0, x.block < W.heap.size := by obtain ⟨m, hm⟩ := k0; exact DataW.trod_lt m _ _ _ hm
  have k1 := h1
  have lt1 : ∀ x ∈ p1, x.block < W.heap.size := by obtain ⟨m, hm⟩ := k1; exact DataW.trod_lt m _ _ _ hm
  obtain ⟨A0, c0, l0, rfl, hc0, hC0, hok0, hb0⟩ := Rd.open_row Tryd.underlying40 o50 (by kernel_rfl) (hval 0 40 v0 rfl rfl) h0 hsz (j := 0) rfl rfl (B := 24) (by kernel_rfl)
  obtain ⟨a1, rfl, rfl, rfl, w1⟩ := open_int Tryd.underlying3 (hval 1 3 v1 rfl rfl) h1
  clear hA0 hval0 hsz0 hsz
  obtain ⟨k, hk⟩ := Pure.RunsCaps l0 a1 hb0 hok0 w1
  refine (PAll.spencelaw27_RunsCaps.calls k _ _ l0 a1 true W hC0 hc0 hT hk).mono fun e W' ⟨he, hd⟩ => ?_
  have bel : Below W.heap.size W W' := hd
  subst he
  exact ⟨_, rfl, _, _, _, [], _, [], hW', trodAll_mk1 (shut_bool Tryd.underlying4 _), (trodAll_cons_mk (Below.trod laidOut (by kernel_rfl) (of_decide_eq_true (by kernel_rfl)) k0 bel lt0) (trodAll_cons_mk (shut_int Tryd.underlying3 w1) trodAll_mk0)), rfl, bel.frame _, fun h => by cases h⟩
theorem over : Rows.runsCapsRow.holds Tryd.pinned (OpenSpec.ofChange Rows.runsCapsSpec) :=
  OpenClaim.holds_of_wide 5 Tryd.f5 rfl rfl rfl rfl rfl rfl rfl ⟨rfl, rfl, rfl, rfl, rfl⟩ rfl rfl rfl rfl rfl (by kernel_rfl) Tryd.func5 (by kernel_rfl)
    (of_decide_eq_true (by kernel_rfl)) (by unfold Func.isWrapper; first | (rw [if_pos (by decide +kernel)]; kernel_rfl) | (rw [if_neg (by decide +kernel)]; exact ⟨rfl, rfl⟩))
    (fun os started H enc _ => lifted os started H enc)
end Go.Proofs.YtcnlmpjoghogbaaDoor.runsCaps
namespace Go.Proofs.YtcnlmpjoghogbaaDoor
theorem runsCaps_row : Rows.RunsCapsSaid := runsCaps.over
theorem runsCapsCard_holds : Rows.RunsCapsCardSaid :=
  Claim7.holds_tied_plain_at .later [] [.data] true (true, "9efb238688faacc68744475846aa2837f64feee42efab19a35a16943659a881b") false runsCaps_row (fun _ h => by cases h) (by kernel_rfl) (fun _ h => by cases h) runsCaps_row_tie rfl ⟨rfl, rfl⟩ (by kernel_rfl) rfl
    (fun f fn hf hfn => by
      obtain rfl : f = 5 := Option.some.inj ((show Tryd.prog.funcNamed "spence/spencelaw27.RunsCaps" = some 5 by kernel_rfl).symm.trans hf) |>.symm
      obtain rfl : fn = Tryd.f5 := (Option.some.inj (Tryd.func5.symm.trans hfn)).symm
      exact ⟨by kernel_rfl, fun j t ht => by
        rw [Tryd.params5] at ht
        have hm : t ∈ [40, 3] := by simpa using Array.mem_of_getElem? ht
        have hall : ([40, 3].all fun u => !Tryd.prog.wantsStandIn u) = true := by kernel_rfl
        exact (show Tryd.prog.wantsStandIn t = false by simpa using List.all_eq_true.1 hall t hm)⟩)
    (by kernel_rfl)
#print axioms runsCapsCard_holds
end Go.Proofs.YtcnlmpjoghogbaaDoor
