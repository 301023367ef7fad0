/- The law PlanMakes: for every input the call returns true, and each argument reads behind the call as it read before. No condition. (The row, and the plain law ahead of it.) -/
import Derived.Test.YtcnlmpjoghogbaaDoorKPlanMakes1
import Derived.Test.YtcnlmpjoghogbaaDoorKPlanMakes5
import Derived.Test.YtcnlmpjoghogbaaDoorKPlanMakes2
import Derived.Test.YtcnlmpjoghogbaaDoorKPlanMakes3
import Derived.Test.YtcnlmpjoghogbaaDoorKPlanMakes4
import Derived.Test.YtcnlmpjoghogbaaDoorRows
import Derived.Test.YtcnlmpjoghogbaaDoorCards
import Derived.Test.YtcnlmpjoghogbaaDoorTie
import Derived.LaidMore
import Derived.Lay
import Derived.SevenTiedAt
import Derived.Stop.Joined
import Derived.WalkKit
import Derived.ProofKit
import Derived.OpenShut
import Derived.ShutString
import Derived.ChangeOld
import Derived.Below
import Derived.SizedLaws
namespace Go.Proofs.YtcnlmpjoghogbaaDoor.Pure
open Go.RowKit Go.Proofs.YtcnlmpjoghogbaaDoor.Xw Go.Proofs.YtcnlmpjoghogbaaDoor.PAll Go.Proofs.YtcnlmpjoghogbaaDoorW.PrintWords Go.Proofs.YtcnlmpjoghogbaaDoorW.PrintLast Go.Proofs.YtcnlmpjoghogbaaDoorW.PrintMore
open Go.Proofs.YtcnlmpjoghogbaaDoor.Ag (srt srtTo srtTo_succ srtTo_full srtTo_stop)
theorem srtTo_len (l : List Int) (i : Nat) : (srtTo l i).length ≤ i := by
  unfold srtTo
  rw [List.length_map]
  have := List.length_filter_le (fun i : Nat => decide ((i : Int) ∈ l)) (List.range i)
  simpa using this
theorem sorted_any_loop (l : List Int) (hl : l.length ≤ 100000) (d : Nat) : ∀ i : Nat, i + d = 4097 → Ev (fun k => spenceref24_Sorted.l0 k l (srtTo l i) (i : Int)) (srt l) := by
  have stop : ∀ i : Nat, srtTo l i = srt l → Ev (fun k => spenceref24_Sorted.j1 k l (srtTo l i) (i : Int) false) (srt l) := fun i h => Ev.pos fun k => by simp only [spenceref24_Sorted.j1, Bool.false_eq_true, if_false, h]
  induction d with
  | zero =>
    intro i hi
    obtain rfl : i = 4097 := by omega
    refine Ev.succ ?_
    simp only [spenceref24_Sorted.l0, show ¬ (((4097 : Nat) : Int) ≤ 4096) by omega, if_false]
    exact stop 4097 (srtTo_full l)
  | succ d ih =>
    intro i hi
    have hlen := srtTo_len l i
    have hn := ih (i + 1) (by omega)
    refine Ev.succ ?_
    simp only [spenceref24_Sorted.l0, show ((i : Int) ≤ 4096) by omega, if_true]
    by_cases hc : ((srtTo l i).length : Int) < (l.length : Int)
    · rw [decide_eq_true hc]
      refine Ev.succ ?_
      simp only [spenceref24_Sorted.j1, if_true]
      refine Ev.bind (in_ev l (i : Int) hl) ?_
      rw [srtTo_succ] at hn
      by_cases hm : (i : Int) ∈ l
      · simp only [hm, decide_true, if_true] at hn ⊢
        simp only [show (srtTo l i).length < 17592186044416 by omega, if_true]
        rw [wrap_id (by omega)]
        exact hn
      · simp only [hm, decide_false, Bool.false_eq_true, if_false, List.append_nil] at hn ⊢
        rw [wrap_id (by omega)]
        exact hn
    · rw [decide_eq_false hc]
      exact stop i (srtTo_stop l i (by omega) (by omega))
theorem sorted_any (l : List Int) (hl : l.length ≤ 100000) : Ev (fun k => spenceref24_Sorted.f k l) (srt l) := by
  have := sorted_any_loop l hl 4097 0 (by omega)
  simpa [spenceref24_Sorted.f, srtTo] using this
end Go.Proofs.YtcnlmpjoghogbaaDoor.Pure

namespace Go.Proofs.YtcnlmpjoghogbaaDoor.Ag
open Go.RowKit
theorem has_own (l : List Int) (i : Int) : hasF (ofF l) i = (decide (0 ≤ i ∧ i ≤ 4096) && decide (i ∈ l)) := has_of l i
end Go.Proofs.YtcnlmpjoghogbaaDoor.Ag
namespace Go.Proofs.YtcnlmpjoghogbaaDoor.Pure
open Go.RowKit Go.Proofs.YtcnlmpjoghogbaaDoor.PAll Go.Proofs.YtcnlmpjoghogbaaDoorW.PrintWords Go.Proofs.YtcnlmpjoghogbaaDoorW.PrintLast Go.Proofs.YtcnlmpjoghogbaaDoorW.PrintMore
theorem ints_loop (l m : List Int) (hm : m.length = l.length) (hl : l.length ≤ 9223372036854775807) (d : Nat) : ∀ i : Int, 0 ≤ i → i ≤ l.length → (l.length : Int) - i = d →
    Ev (fun k => spenceref01_Ints.l0 k l m (l.length : Int) i) (decide (l.drop i.toNat = m.drop i.toNat)) := by
  induction d with
  | zero =>
    intro i h0 h1 hd
    refine Ev.pos (fun k => ?_)
    simp only [spenceref01_Ints.l0]
    rw [if_neg (by omega), List.drop_of_length_le (by omega), List.drop_of_length_le (by omega)]
    rfl
  | succ d ih =>
    intro i h0 h1 hd
    obtain ⟨K, hK⟩ := ih (i + 1) (by omega) (by omega) (by omega)
    refine ⟨K + 1, fun k hk => ?_⟩
    obtain ⟨k, rfl⟩ : ∃ j, k = j + 1 := ⟨k - 1, by omega⟩
    have h := hK k (by omega)
    dsimp only at h
    simp only [spenceref01_Ints.l0]
    have hi : i.toNat < l.length := by omega
    have hi' : i.toNat < m.length := by omega
    have e1 : (i + 1).toNat = i.toNat + 1 := by omega
    rw [if_pos (by omega), if_pos h0, if_pos (by omega), if_pos (by omega), wrap_id (by omega), h, e1, List.drop_eq_getElem_cons hi, List.drop_eq_getElem_cons hi']
    have r1 : rd l i = l[i.toNat] := by simp [rd, hi]
    have r2 : rd m i = m[i.toNat] := by simp [rd, hi']
    rw [r1, r2]
    by_cases h2 : l[i.toNat] = m[i.toNat]
    · rw [if_pos h2, h2]; simp only [List.cons.injEq, true_and]
    · rw [if_neg h2]; simp only [List.cons.injEq, h2, false_and, decide_false]
theorem ints_ev (l m : List Int) (hl : l.length ≤ 9223372036854775807) : Ev (fun k => spenceref01_Ints.f k l m) (decide (l = m)) := by
  by_cases h : m.length = l.length
  · have := ints_loop l m h hl l.length 0 (by omega) (by omega) (by omega)
    simp only [Int.toNat_zero, List.drop_zero] at this
    unfold spenceref01_Ints.f
    obtain ⟨K, hK⟩ := this
    exact ⟨K, fun k hk => by dsimp only; rw [if_pos (by omega)]; exact hK k hk⟩
  · refine Ev.all (fun k => ?_)
    unfold spenceref01_Ints.f
    rw [if_neg (by omega), decide_eq_false (fun e => h (by rw [e]))]
end Go.Proofs.YtcnlmpjoghogbaaDoor.Pure
namespace Go.Proofs.YtcnlmpjoghogbaaDoor.Pure
open Go.RowKit Go.Proofs.YtcnlmpjoghogbaaDoor.Xw Go.Proofs.YtcnlmpjoghogbaaDoor.PAll Go.Proofs.YtcnlmpjoghogbaaDoorW.PrintWords Go.Proofs.YtcnlmpjoghogbaaDoorW.PrintLast Go.Proofs.YtcnlmpjoghogbaaDoorW.PrintMore
open Go.Proofs.YtcnlmpjoghogbaaDoor.Ag (hasF withF zeroF ofF srt splitAll splitStep has_of has_own)
theorem rdR (pre : List RunS) (r : RunS) (rest : List RunS) (i : Int) (h : i = pre.length) : rd_T50 (pre ++ r :: rest) i = r := by
  subst h
  unfold rd_T50
  simp [List.getD_eq_getElem?_getD]
abbrev fromR (r : RunS) : Int := mx r.f0 0
abbrev toR (r : RunS) : Int := mn r.f1 4097
def sizeR (r : RunS) : Nat := (toR r - fromR r).toNat
def slicesOf (l : List RunS) : List Int := l.flatMap fun r => rng (fromR r) (sizeR r)
theorem size_le (r : RunS) : sizeR r ≤ 4097 := by
  have h1 := mx_eq r.f0 0
  have h2 := mn_eq r.f1 4097
  unfold sizeR
  show (mn r.f1 4097 - mx r.f0 0).toNat ≤ 4097
  omega
theorem slices_len (l : List RunS) : (slicesOf l).length ≤ l.length * 4097 := by
  induction l with
  | nil => simp [slicesOf]
  | cons r l ih =>
    have := size_le r
    have e : slicesOf (r :: l) = rng (fromR r) (sizeR r) ++ slicesOf l := by simp [slicesOf]
    rw [e, List.length_append, rng_len, List.length_cons, Nat.succ_mul]
    omega
def Fit (r : RunS) : Prop := -1000000 ≤ r.f0 ∧ r.f0 ≤ 1000000 ∧ -1000000 ≤ r.f1 ∧ r.f1 ≤ 1000000
theorem missing_loop (l : List RunS) (hl : l.length ≤ 100000) (post : List RunS) : ∀ (pre : List RunS), l = pre ++ post → Ev (fun k => spenceref24_Missing.l0 k (pre.filter fun r => !r.f2) l (l.length : Int) (pre.length : Int)) (l.filter fun r => !r.f2) := by
  induction post with
  | nil =>
    intro pre h
    rw [List.append_nil] at h
    subst h
    exact Ev.pos fun k => by simp only [spenceref24_Missing.l0]; rw [if_neg (by omega)]
  | cons r rest ih =>
    intro pre h
    have hlen : l.length = pre.length + (rest.length + 1) := by rw [h]; simp
    have hn := ih (pre ++ [r]) (by rw [h]; simp)
    have hfl : (pre.filter fun r => !r.f2).length ≤ pre.length := List.length_filter_le _ _
    have e2 : (((pre ++ [r]).length : Nat) : Int) = wrap64 ((pre.length : Int) + 1) := by rw [wrap_id (by omega)]; simp
    rw [List.filter_append, e2] at hn
    have hr : rd_T50 l (pre.length : Int) = r := by rw [h]; exact rdR pre r rest _ rfl
    refine Ev.step (fun k => ?_) hn
    simp only [spenceref24_Missing.l0]
    rw [if_pos (by omega), if_pos (by omega), if_pos (by omega), hr]
    cases hq : r.f2 with
    | true => simp [hq]
    | false =>
      rw [if_neg (by simp), if_pos (Nat.lt_of_le_of_lt hfl (by omega))]
      simp [hq]
      rw [← hq]
theorem missing_ev (l : List RunS) (hl : l.length ≤ 100000) : Ev (fun k => spenceref24_Missing.f k l) (l.filter fun r => !r.f2) := missing_loop l hl l [] rfl
def okR (p : Option Int) (r : RunS) : Bool := decide (0 ≤ r.f0) && (decide (r.f0 < r.f1) && (decide (r.f1 ≤ 4097) && (match p with | none => true | some t => decide (t ≤ r.f0))))
def apB : Option Int → List RunS → Bool
  | _, [] => true
  | p, r :: l => okR p r && apB (some r.f1) l
def lastTo (l : List RunS) : Option Int := l.getLast?.map fun r => r.f1
theorem lastTo_snoc (l : List RunS) (r : RunS) : lastTo (l ++ [r]) = some r.f1 := by simp [lastTo]
theorem apB_snoc (l : List RunS) (r : RunS) : ∀ p, apB p (l ++ [r]) = (apB p l && okR (match lastTo l with | none => p | some t => some t) r) := by
  induction l with
  | nil => intro p; simp [apB, lastTo]
  | cons x l ih =>
    intro p
    rw [List.cons_append, apB, apB, ih, Bool.and_assoc]
    congr 3
    rcases List.eq_nil_or_concat l with rfl | ⟨l', q, rfl⟩
    · rfl
    · rw [List.concat_eq_append, lastTo_snoc, ← List.cons_append, lastTo_snoc]
theorem split_snoc (h : Int → Bool) (init : List RunS) (r : RunS) (x : Int) : splitStep h (init ++ [r]) x = if r.f1 = x ∧ r.f2 = h x then init ++ [⟨r.f0, wrap64 (r.f1 + 1), r.f2⟩] else init ++ [r] ++ [⟨x, wrap64 (x + 1), h x⟩] := by
  have e : (((init ++ [r]).length : Nat) : Int) - 1 = (init.length : Int) := by simp
  unfold splitStep
  rw [e, rdR init r [] _ rfl]
  by_cases c : r.f1 = x ∧ r.f2 = h x
  · rw [if_pos ⟨by simp, c⟩, if_pos c, Int.toNat_natCast]
    simp
  · rw [if_neg (fun hh => c hh.2), if_neg c]
theorem split_nil (h : Int → Bool) (x : Int) : splitStep h [] x = [⟨x, wrap64 (x + 1), h x⟩] := by simp [splitStep]
theorem slices_snoc (l : List RunS) (r : RunS) : slicesOf (l ++ [r]) = slicesOf l ++ rng (fromR r) (sizeR r) := by simp [slicesOf]
theorem rng_one (x : Int) : rng x 1 = [x] := by simp [rng]
/-- What is true of the runs of rising numbers. -/
structure SplitOk (out : List RunS) (xs : List Int) : Prop where
  slices : slicesOf out = xs
  apart : apB none out = true
  last : ∀ init r, out = init ++ [r] → ∃ x ∈ xs, r.f1 = x + 1 ∧ 0 ≤ r.f0 ∧ r.f0 < r.f1
  fit : ∀ r ∈ out, Fit r
theorem splitOk_step (h : Int → Bool) {out : List RunS} {xs : List Int} (ok : SplitOk out xs) (x : Int) (h0 : 0 ≤ x) (h1 : x ≤ 4096) (hx : ∀ y ∈ xs, y < x) : SplitOk (splitStep h out x) (xs ++ [x]) := by
  have hw : wrap64 (x + 1) = x + 1 := wrap_id (by omega)
  have new : ∀ b : Bool, fromR ⟨x, x + 1, b⟩ = x ∧ sizeR ⟨x, x + 1, b⟩ = 1 := fun b => by
    have h1 := mx_eq x 0
    have h2 := mn_eq (x + 1) 4097
    unfold sizeR
    show mx x 0 = x ∧ (mn (x + 1) 4097 - mx x 0).toNat = 1
    omega
  have nfit : ∀ b : Bool, Fit ⟨x, x + 1, b⟩ := fun b => ⟨by show -1000000 ≤ x; omega, by show x ≤ 1000000; omega, by show -1000000 ≤ x + 1; omega, by show x + 1 ≤ 1000000; omega⟩
  rcases List.eq_nil_or_concat out with rfl | ⟨init, r, rfl⟩
  · have e : xs = [] := by rw [← ok.slices]; rfl
    subst e
    rw [split_nil, hw]
    refine ⟨?_, ?_, ?_, ?_⟩
    · rw [show ([⟨x, x + 1, h x⟩] : List RunS) = [] ++ [⟨x, x + 1, h x⟩] from rfl, slices_snoc, (new _).1, (new _).2, rng_one]; rfl
    · simp only [apB, okR, Bool.and_true]
      simp [h0]; omega
    · intro init r e
      have e2 := List.append_inj' (show ([] : List RunS) ++ [⟨x, x + 1, h x⟩] = init ++ [r] from e) rfl
      simp only [List.cons.injEq, and_true] at e2
      obtain ⟨_, rfl⟩ := e2
      exact ⟨x, by simp, rfl, h0, by show x < x + 1; omega⟩
    · intro r hr
      simp only [List.mem_singleton] at hr
      subst hr; exact nfit _
  · rw [List.concat_eq_append] at *
    obtain ⟨y, hy, hl1, hl2, hl3⟩ := ok.last init r rfl
    have hyx := hx y hy
    have hap := ok.apart
    rw [apB_snoc, Bool.and_eq_true] at hap
    rw [split_snoc]
    split
    · rename_i c
      obtain ⟨c1, c2⟩ := c
      rw [c1, hw]
      have hsz : fromR ⟨r.f0, x + 1, r.f2⟩ = fromR r ∧ sizeR ⟨r.f0, x + 1, r.f2⟩ = sizeR r + 1 ∧ fromR r + (sizeR r : Int) = x := by
        have h1 := mx_eq r.f0 0
        have h2 := mn_eq (x + 1) 4097
        have h3 := mn_eq r.f1 4097
        unfold sizeR
        show mx r.f0 0 = mx r.f0 0 ∧ (mn (x + 1) 4097 - mx r.f0 0).toNat = (mn r.f1 4097 - mx r.f0 0).toNat + 1 ∧ mx r.f0 0 + ((mn r.f1 4097 - mx r.f0 0).toNat : Int) = x
        omega
      refine ⟨?_, ?_, ?_, ?_⟩
      · have hs := ok.slices
        rw [slices_snoc] at hs
        rw [slices_snoc, hsz.1, hsz.2.1, rng_succ, hsz.2.2, ← List.append_assoc, hs]
      · rw [apB_snoc, Bool.and_eq_true]
        refine ⟨hap.1, ?_⟩
        have := hap.2
        revert this
        generalize (match lastTo init with | none => none | some t => some t) = p
        simp only [okR, Bool.and_eq_true, decide_eq_true_eq]
        rintro ⟨a, b, c, d⟩
        exact ⟨a, by show r.f0 < x + 1; omega, by show x + 1 ≤ 4097; omega, d⟩
      · intro init' r' e
        have e2 := List.append_inj' e rfl
        simp only [List.cons.injEq, and_true] at e2
        obtain ⟨_, rfl⟩ := e2
        exact ⟨x, by simp, rfl, hl2, by show r.f0 < x + 1; omega⟩
      · intro r' hr'
        simp only [List.mem_append, List.mem_singleton] at hr'
        rcases hr' with hr' | rfl
        · exact ok.fit r' (by simp [hr'])
        · have := ok.fit r (by simp)
          obtain ⟨a, b, c, d⟩ := this
          exact ⟨a, b, by show -1000000 ≤ x + 1; omega, by show x + 1 ≤ 1000000; omega⟩
    · rw [hw]
      refine ⟨?_, ?_, ?_, ?_⟩
      · rw [slices_snoc, ok.slices, (new _).1, (new _).2, rng_one]
      · rw [apB_snoc, ok.apart, lastTo_snoc, Bool.true_and]
        simp only [okR, Bool.and_eq_true, decide_eq_true_eq]
        exact ⟨h0, by omega, by omega, by show r.f1 ≤ x; omega⟩
      · intro init' r' e
        have e2 := List.append_inj' e rfl
        simp only [List.cons.injEq, and_true] at e2
        obtain ⟨_, rfl⟩ := e2
        exact ⟨x, by simp, rfl, h0, by show x < x + 1; omega⟩
      · intro r' hr'
        simp only [List.mem_append, List.mem_singleton] at hr'
        rcases hr' with hr' | rfl
        · exact ok.fit r' (by simpa using hr')
        · exact nfit _
theorem splitOk_all (h : Int → Bool) (l : List Int) : ∀ (xs : List Int) (out : List RunS), SplitOk out xs → (xs ++ l).Pairwise (· < ·) → (∀ x ∈ l, 0 ≤ x ∧ x ≤ 4096) → SplitOk (l.foldl (splitStep h) out) (xs ++ l) := by
  induction l with
  | nil => intro xs out ok _ _; simpa using ok
  | cons x l ih =>
    intro xs out ok hp hb
    have hx : ∀ y ∈ xs, y < x := fun y hy => (List.pairwise_append.1 hp).2.2 y hy x (by simp)
    have := ih (xs ++ [x]) (splitStep h out x) (splitOk_step h ok x (hb x (by simp)).1 (hb x (by simp)).2 hx) (by simpa using hp) (fun y hy => hb y (by simp [hy]))
    simpa using this
theorem srt_mem (l : List Int) (x : Int) : x ∈ srt l ↔ x ∈ l ∧ 0 ≤ x ∧ x ≤ 4096 := by
  unfold srt
  simp only [List.mem_map, List.mem_filter, List.mem_range, decide_eq_true_eq]
  constructor
  · rintro ⟨i, ⟨h1, h2⟩, rfl⟩; exact ⟨h2, by omega, by omega⟩
  · rintro ⟨h1, h2, h3⟩; exact ⟨x.toNat, ⟨by omega, by rwa [Int.toNat_of_nonneg h2]⟩, by omega⟩
theorem srt_rise (l : List Int) : (srt l).Pairwise (· < ·) := by
  unfold srt
  rw [List.pairwise_map]
  refine (List.Pairwise.filter _ List.pairwise_lt_range).imp (fun h => by omega)
theorem splitAll_ok (h : Int → Bool) (l : List Int) : SplitOk (splitAll h (srt l)) (srt l) := by
  have := splitOk_all h (srt l) [] [] ⟨rfl, rfl, fun init r e => by simp at e, fun r hr => by simp at hr⟩ (by simpa using srt_rise l) (fun x hx => ((srt_mem l x).1 hx).2)
  unfold splitAll
  simpa using this
theorem splitAll_congr (h h' : Int → Bool) (l : List Int) (hh : ∀ x ∈ l, h x = h' x) : splitAll h l = splitAll h' l := by
  have go : ∀ (l : List Int) (out : List RunS), (∀ x ∈ l, h x = h' x) → l.foldl (splitStep h) out = l.foldl (splitStep h') out := by
    intro l
    induction l with
    | nil => intro _ _; rfl
    | cons x l ih =>
      intro out hx
      have e : splitStep h out x = splitStep h' out x := by unfold splitStep; rw [hx x (by simp)]
      rw [List.foldl_cons, List.foldl_cons, e, ih _ (fun y hy => hx y (by simp [hy]))]
  exact go l [] hh
theorem split_own (l m : List Int) : splitAll (hasF (ofF m)) (srt l) = splitAll (fun x => decide (x ∈ m)) (srt l) :=
  splitAll_congr _ _ _ fun x hx => by rw [has_own, decide_eq_true ((srt_mem l x).1 hx).2, Bool.true_and]
end Go.Proofs.YtcnlmpjoghogbaaDoor.Pure
namespace Go.Proofs.YtcnlmpjoghogbaaDoor.Pure
open Go.RowKit Go.Proofs.YtcnlmpjoghogbaaDoor.Xw Go.Proofs.YtcnlmpjoghogbaaDoor.PAll Go.Proofs.YtcnlmpjoghogbaaDoorW.PrintWords Go.Proofs.YtcnlmpjoghogbaaDoorW.PrintLast Go.Proofs.YtcnlmpjoghogbaaDoorW.PrintMore
open Go.Proofs.YtcnlmpjoghogbaaDoor.Ag (hasF withF zeroF ofF srt splitAll splitStep has_of has_own splitAll_snoc splitAll_len all_of all_len)
theorem splitRef_loop (need m : List Int) (hm : m.length ≤ 100000) (hn : need.length ≤ 100000) (post : List Int) : ∀ (pre : List Int), need = pre ++ post →
    Ev (fun k => spenceref24_Split.l0 k m (splitAll (fun x => decide (x ∈ m)) pre) need (need.length : Int) (pre.length : Int)) (splitAll (fun x => decide (x ∈ m)) need) := by
  induction post with
  | nil =>
    intro pre h
    rw [List.append_nil] at h
    subst h
    exact Ev.pos fun k => by simp only [spenceref24_Split.l0]; rw [if_neg (by omega)]
  | cons x rest ih =>
    intro pre h
    have hlen : need.length = pre.length + (rest.length + 1) := by rw [h]; simp
    have hnx := ih (pre ++ [x]) (by rw [h]; simp)
    have e2 : (((pre ++ [x]).length : Nat) : Int) = wrap64 ((pre.length : Int) + 1) := by rw [wrap_id (by omega)]; simp
    rw [splitAll_snoc, e2] at hnx
    have hsl := splitAll_len (fun x => decide (x ∈ m)) pre
    generalize splitAll (fun x => decide (x ∈ m)) pre = out at hnx hsl
    have hr : rd need (pre.length : Int) = x := by rw [h]; unfold rd; simp [List.getD_eq_getElem?_getD]
    refine Ev.succ ?_
    simp only [spenceref24_Split.l0, show (pre.length : Int) < (need.length : Int) by omega, show (0 : Int) ≤ (pre.length : Int) by omega, if_true, hr]
    refine Ev.bind (in_ev m x hm) ?_
    refine Ev.congr (fun k => ?_) hnx
    have hl1 : out.length < 5864062014805 := by omega
    unfold splitStep
    by_cases hl' : (out.length : Int) > 0
    · have e := wrap_id (x := (out.length : Int) - 1) (by omega)
      rw [if_pos hl', e, if_pos (by omega), if_pos (by omega)]
      by_cases c1 : (rd_T50 out ((out.length : Int) - 1)).f1 = x
      · rw [if_pos c1]
        by_cases c2 : (rd_T50 out ((out.length : Int) - 1)).f2 = decide (x ∈ m)
        · rw [if_pos (by rw [c2]; simp), if_pos ⟨by omega, c1, c2⟩, c1]
        · rw [if_neg (by simpa using c2), if_pos hl1, if_neg (fun hh => c2 hh.2.2)]
      · rw [if_neg c1, if_pos hl1, if_neg (fun hh => c1 hh.2.1)]
    · rw [if_neg hl', if_pos hl1, if_neg (fun hh => hl' (by omega))]
theorem srt_len (l : List Int) : (srt l).length ≤ 4160 := by rw [← all_of]; exact all_len _
theorem splitRef_ev (l m : List Int) (hl : l.length ≤ 100000) (hm : m.length ≤ 100000) : Ev (fun k => spenceref24_Split.f k l m) (splitAll (fun x => decide (x ∈ m)) (srt l)) := by
  refine Ev.bind (sorted_any l hl) ?_
  have := srt_len l
  generalize srt l = s at this
  exact splitRef_loop s m hm (by omega) s [] rfl
end Go.Proofs.YtcnlmpjoghogbaaDoor.Pure
namespace Go.Proofs.YtcnlmpjoghogbaaDoor.Pure
open Go.RowKit Go.Proofs.YtcnlmpjoghogbaaDoor.Xw Go.Proofs.YtcnlmpjoghogbaaDoor.PAll Go.Proofs.YtcnlmpjoghogbaaDoorW.PrintWords Go.Proofs.YtcnlmpjoghogbaaDoorW.PrintLast Go.Proofs.YtcnlmpjoghogbaaDoorW.PrintMore
def upTo (r : RunS) (i : Int) : Nat := (mn (mn r.f1 4097) i - mx r.f0 0).toNat
theorem numbers_in (x7 : List RunS) (x8 x9 : Int) (r : RunS) (out : List Int) (ho : out.length ≤ 1000000000) (d : Nat) : ∀ (i : Int), 0 ≤ i → i + d = 4097 →
    ∀ res, Ev (fun k => spenceref24_Numbers.l0 k (out ++ rng (fromR r) (sizeR r)) x7 x8 (wrap64 (x9 + 1))) res → Ev (fun k => spenceref24_Numbers.l1 k (out ++ rng (fromR r) (upTo r i)) i x7 x8 x9 r.f0 r.f1 r.f2) res := by
  induction d with
  | zero =>
    intro i h0 h1 res h
    have e : upTo r i = sizeR r := by
      have a1 := mx_eq r.f0 0; have a2 := mn_eq r.f1 4097; have a3 := mn_eq (mn r.f1 4097) i
      unfold upTo sizeR
      show (mn (mn r.f1 4097) i - mx r.f0 0).toNat = (mn r.f1 4097 - mx r.f0 0).toNat
      omega
    rw [e]
    refine Ev.step (fun k => ?_) h
    simp only [spenceref24_Numbers.l1]
    rw [if_neg (by omega)]
  | succ d ih =>
    intro i h0 h1 res h
    have hn := ih (i + 1) (by omega) (by omega) res h
    have a1 := mx_eq r.f0 0
    have a2 := mn_eq r.f1 4097
    have a3 := mn_eq (mn r.f1 4097) i
    have a4 := mn_eq (mn r.f1 4097) (i + 1)
    have hs : upTo r i ≤ 4097 := by unfold upTo; omega
    refine Ev.step (fun k => ?_) hn
    simp only [spenceref24_Numbers.l1]
    rw [if_pos (by omega), wrap_id (by omega)]
    by_cases c1 : i ≥ r.f0
    · by_cases c2 : i < r.f1
      · have e : upTo r (i + 1) = upTo r i + 1 := by unfold upTo; omega
        have e2 : fromR r + (upTo r i : Int) = i := by unfold upTo; show mx r.f0 0 + _ = i; omega
        rw [if_pos c1, if_pos c2, if_pos (by rw [List.length_append, rng_len]; omega), e, rng_succ, e2, List.append_assoc]
      · have e : upTo r (i + 1) = upTo r i := by unfold upTo; omega
        rw [if_pos c1, if_neg c2, e]
    · have e : upTo r (i + 1) = upTo r i := by unfold upTo; omega
      rw [if_neg c1, e]
theorem numbers_loop (l : List RunS) (hl : l.length ≤ 100000) (post : List RunS) : ∀ (pre : List RunS), l = pre ++ post → Ev (fun k => spenceref24_Numbers.l0 k (slicesOf pre) l (l.length : Int) (pre.length : Int)) (slicesOf l) := by
  induction post with
  | nil =>
    intro pre h
    rw [List.append_nil] at h
    subst h
    exact Ev.pos fun k => by simp only [spenceref24_Numbers.l0]; rw [if_neg (by omega)]
  | cons r rest ih =>
    intro pre h
    have hlen : l.length = pre.length + (rest.length + 1) := by rw [h]; simp
    have hn := ih (pre ++ [r]) (by rw [h]; simp)
    have e2 : (((pre ++ [r]).length : Nat) : Int) = wrap64 ((pre.length : Int) + 1) := by rw [wrap_id (by omega)]; simp
    rw [slices_snoc, e2] at hn
    have hs := slices_len pre
    have hx := numbers_in l (l.length : Int) (pre.length : Int) r (slicesOf pre) (by omega) 4097 0 (by omega) (by omega) _ hn
    have e3 : upTo r 0 = 0 := by
      have a1 := mx_eq r.f0 0; have a3 := mn_eq (mn r.f1 4097) 0
      unfold upTo; omega
    rw [e3, show rng (fromR r) 0 = [] by simp [rng], List.append_nil] at hx
    have hr : rd_T50 l (pre.length : Int) = r := by rw [h]; exact rdR pre r rest _ rfl
    refine Ev.step (fun k => ?_) hx
    simp only [spenceref24_Numbers.l0]
    rw [if_pos (by omega), if_pos (by omega), if_pos (by omega), hr]
theorem numbers_ev (l : List RunS) (hl : l.length ≤ 100000) : Ev (fun k => spenceref24_Numbers.f k l) (slicesOf l) := numbers_loop l hl l [] rfl
/-- the numbers from a on, j of them, in parts of m -/
def blk (a : Int) (m : Nat) (c : Bool) : Nat → List RunS
  | 0 => []
  | j + 1 => if j % m = 0 then blk a m c j ++ [⟨a + j, a + j + 1, c⟩] else (blk a m c j).dropLast ++ [⟨((blk a m c j).getLast?.getD ⟨0, 0, c⟩).f0, a + j + 1, c⟩]
theorem blk_part (a : Int) (m : Nat) (c : Bool) (q : Nat) : ∀ s : Nat, 1 ≤ s → s ≤ m → blk a m c (q * m + s) = blk a m c (q * m) ++ [⟨a + (q * m : Nat), a + (q * m : Nat) + s, c⟩]
  | 0, h, _ => by omega
  | 1, _, h2 => by
    show (if (q * m) % m = 0 then _ else _) = _
    rw [if_pos (Nat.mul_mod_left q m)]
    rfl
  | s + 2, _, h2 => by
    have ih := blk_part a m c q (s + 1) (by omega) (by omega)
    show (if (q * m + (s + 1)) % m = 0 then blk a m c (q * m + (s + 1)) ++ [⟨a + (q * m + (s + 1) : Nat), a + (q * m + (s + 1) : Nat) + 1, c⟩] else (blk a m c (q * m + (s + 1))).dropLast ++ [⟨((blk a m c (q * m + (s + 1))).getLast?.getD ⟨0, 0, c⟩).f0, a + (q * m + (s + 1) : Nat) + 1, c⟩]) = _
    have e : (q * m + (s + 1)) % m = s + 1 := by rw [Nat.add_comm, Nat.add_mul_mod_self_right, Nat.mod_eq_of_lt (by omega)]
    rw [if_neg (by omega), ih]
    simp only [List.dropLast_concat, List.getLast?_concat, Option.getD_some]
    congr 3
    push_cast
    omega
theorem blk_len (a : Int) (m : Nat) (c : Bool) : ∀ j, (blk a m c j).length ≤ j
  | 0 => by simp [blk]
  | j + 1 => by
    have ih := blk_len a m c j
    rw [blk]
    split
    · simp; omega
    · simp; omega
theorem blk_nonempty (a : Int) (m : Nat) (c : Bool) (j : Nat) : ∃ init r, blk a m c (j + 1) = init ++ [r] ∧ r.f1 = a + j + 1 ∧ r.f2 = c := by
  rw [blk]
  split
  · exact ⟨_, _, rfl, rfl, rfl⟩
  · exact ⟨_, _, rfl, rfl, rfl⟩
theorem blk_ext (a : Int) (m : Nat) (c : Bool) (j : Nat) (h : (j + 1) % m ≠ 0) {init : List RunS} {r : RunS} (e : blk a m c (j + 1) = init ++ [r]) : blk a m c (j + 2) = init ++ [⟨r.f0, a + (j + 1 : Nat) + 1, c⟩] := by
  show (if (j + 1) % m = 0 then _ else _) = _
  rw [if_neg h, e]
  simp
/-- The numbers of the parts. -/
theorem blk_slices (a : Int) (m : Nat) (c : Bool) (ha : 0 ≤ a) : ∀ j : Nat, a + j ≤ 4097 → slicesOf (blk a m c j) = rng a j ∧ ∀ init r, blk a m c j = init ++ [r] → 0 ≤ r.f0 ∧ r.f0 < r.f1
  | 0, _ => ⟨by simp [blk, slicesOf, rng], fun init r e => by simp [blk] at e⟩
  | j + 1, hb => by
    obtain ⟨ih, il⟩ := blk_slices a m c ha j (by omega)
    have one : fromR ⟨a + j, a + j + 1, c⟩ = a + j ∧ sizeR ⟨a + j, a + j + 1, c⟩ = 1 := by
      have h1 := mx_eq (a + j) 0
      have h2 := mn_eq (a + j + 1) 4097
      unfold sizeR
      show mx (a + j) 0 = a + j ∧ (mn (a + j + 1) 4097 - mx (a + j) 0).toNat = 1
      omega
    cases j with
    | zero =>
      have e : blk a m c 1 = [] ++ [⟨a + (0 : Nat), a + (0 : Nat) + 1, c⟩] := by
        show (if 0 % m = 0 then _ else _) = _
        rw [if_pos (Nat.zero_mod m)]; rfl
      rw [e]
      refine ⟨by rw [slices_snoc, one.1, one.2, rng_one]; simp [slicesOf, rng], fun init r e => ?_⟩
      have e2 := List.append_inj' e rfl
      simp only [List.cons.injEq, and_true] at e2
      obtain ⟨_, rfl⟩ := e2
      exact ⟨by show 0 ≤ a + ((0 : Nat) : Int); omega, by show a + ((0 : Nat) : Int) < a + ((0 : Nat) : Int) + 1; omega⟩
    | succ j =>
      by_cases h : (j + 1) % m = 0
      · have e : blk a m c (j + 1 + 1) = blk a m c (j + 1) ++ [⟨a + (j + 1 : Nat), a + (j + 1 : Nat) + 1, c⟩] := by
          show (if (j + 1) % m = 0 then _ else _) = _
          rw [if_pos h]
        rw [e]
        refine ⟨by rw [slices_snoc, ih, one.1, one.2, rng_one, ← rng_succ], fun init r e => ?_⟩
        have e2 := List.append_inj' e rfl
        simp only [List.cons.injEq, and_true] at e2
        obtain ⟨_, rfl⟩ := e2
        exact ⟨by show 0 ≤ a + ((j + 1 : Nat) : Int); omega, by show a + ((j + 1 : Nat) : Int) < a + ((j + 1 : Nat) : Int) + 1; omega⟩
      · obtain ⟨init, r, e0, e1, e2⟩ := blk_nonempty a m c j
        obtain ⟨i1, i2⟩ := il init r e0
        have e := blk_ext a m c j h e0
        rw [show j + 1 + 1 = j + 2 from rfl, e]
        rw [e0, slices_snoc] at ih
        have two : fromR ⟨r.f0, a + (j + 1 : Nat) + 1, c⟩ = fromR r ∧ sizeR ⟨r.f0, a + (j + 1 : Nat) + 1, c⟩ = sizeR r + 1 ∧ fromR r + (sizeR r : Int) = a + (j + 1 : Nat) := by
          have h1 := mx_eq r.f0 0
          have h2 := mn_eq (a + (j + 1 : Nat) + 1) 4097
          have h3 := mn_eq r.f1 4097
          unfold sizeR
          show mx r.f0 0 = mx r.f0 0 ∧ (mn (a + (j + 1 : Nat) + 1) 4097 - mx r.f0 0).toNat = (mn r.f1 4097 - mx r.f0 0).toNat + 1 ∧ mx r.f0 0 + ((mn r.f1 4097 - mx r.f0 0).toNat : Int) = a + (j + 1 : Nat)
          omega
        refine ⟨by rw [slices_snoc, two.1, two.2.1, rng_succ, two.2.2, ← List.append_assoc, ih, ← rng_succ], fun init' r' e' => ?_⟩
        have e3 := List.append_inj' e' rfl
        simp only [List.cons.injEq, and_true] at e3
        obtain ⟨_, rfl⟩ := e3
        exact ⟨i1, by show r.f0 < a + ((j + 1 : Nat) : Int) + 1; omega⟩
def capOf (m : Nat) (l : List RunS) : List RunS := l.flatMap fun r => blk (fromR r) m r.f2 (sizeR r)
theorem cap_snoc (m : Nat) (l : List RunS) (r : RunS) : capOf m (l ++ [r]) = capOf m l ++ blk (fromR r) m r.f2 (sizeR r) := by simp [capOf]
theorem cap_len (m : Nat) (l : List RunS) : (capOf m l).length ≤ l.length * 4097 := by
  induction l with
  | nil => simp [capOf]
  | cons r l ih =>
    have h1 := size_le r
    have h2 := blk_len (fromR r) m r.f2 (sizeR r)
    have e : capOf m (r :: l) = blk (fromR r) m r.f2 (sizeR r) ++ capOf m l := by simp [capOf]
    rw [e, List.length_append, List.length_cons, Nat.succ_mul]
    omega
theorem slices_append (a b : List RunS) : slicesOf (a ++ b) = slicesOf a ++ slicesOf b := by simp [slicesOf]
theorem cap_slices (m : Nat) (l : List RunS) : slicesOf (capOf m l) = slicesOf l := by
  induction l with
  | nil => rfl
  | cons r l ih =>
    have e : capOf m (r :: l) = blk (fromR r) m r.f2 (sizeR r) ++ capOf m l := by simp [capOf]
    have e2 : slicesOf (r :: l) = rng (fromR r) (sizeR r) ++ slicesOf l := by simp [slicesOf]
    have h1 := mx_eq r.f0 0
    have h2 := mn_eq r.f1 4097
    rw [e, slices_append, ih, e2]
    congr 1
    rcases Nat.eq_zero_or_pos (sizeR r) with h | h
    · rw [h]; simp [blk, slicesOf, rng]
    · refine (blk_slices (fromR r) m r.f2 (by show 0 ≤ mx r.f0 0; omega) (sizeR r) ?_).1
      unfold sizeR at h ⊢
      have h' : 0 < (mn r.f1 4097 - mx r.f0 0).toNat := h
      show mx r.f0 0 + ((mn r.f1 4097 - mx r.f0 0).toNat : Int) ≤ 4097
      omega
theorem to_eq (r : RunS) (h : 0 < sizeR r) : toR r = fromR r + sizeR r := by
  unfold sizeR at h ⊢
  show mn r.f1 4097 = mx r.f0 0 + ((mn r.f1 4097 - mx r.f0 0).toNat : Int)
  have h' : 0 < (mn r.f1 4097 - mx r.f0 0).toNat := h
  omega
theorem cap_in (m : Nat) (hm : 1 ≤ m) (hmb : (m : Int) ≤ 9223372036854775807) (r : RunS) (x13 : List RunS) (x14 x15 : Int) (out : List RunS) (ho : out.length ≤ 1000000000) (a : Int) (n : Nat) (ha : 0 ≤ a) (hn : a + n ≤ 4097) (d : Nat) : ∀ q : Nat, q * m < n → n - q * m ≤ d →
    ∀ res, Ev (fun k => runs_Cap.l0 k (m : Int) (out ++ blk a m r.f2 n) x13 x14 (wrap64 (x15 + 1))) res → Ev (fun k => runs_Cap.l1 k (m : Int) (out ++ blk a m r.f2 (q * m)) (a + (q * m : Nat)) (a + n) x13 x14 x15 r.f0 r.f1 r.f2) res := by
  induction d with
  | zero => intro q h1 h2; omega
  | succ d ih =>
    intro q h1 h2 res h
    have hbl := blk_len a m r.f2 (q * m)
    have hol : (out ++ blk a m r.f2 (q * m)).length < 5864062014805 := by rw [List.length_append]; omega
    have hw : wrap64 (a + (n : Int) - (a + ((q * m : Nat) : Int))) = (n : Int) - ((q * m : Nat) : Int) := by rw [wrap_id (by omega)]; omega
    refine Ev.succ ?_
    simp only [runs_Cap.l1, show a + ((q * m : Nat) : Int) < a + (n : Int) by omega, if_true, hw, hol]
    by_cases c1 : (m : Int) < (n : Int) - ((q * m : Nat) : Int)
    · simp only [c1, if_true]
      have e : (q + 1) * m = q * m + m := Nat.succ_mul q m
      have hp := blk_part a m r.f2 q m hm (Nat.le_refl _)
      have hnx := ih (q + 1) (by omega) (by omega) res h
      rw [e, hp] at hnx
      have hw2 : wrap64 (a + ((q * m : Nat) : Int) + (m : Int)) = a + ((q * m : Nat) : Int) + (m : Int) := wrap_id (by omega)
      have e3 : a + ((q * m + m : Nat) : Int) = a + ((q * m : Nat) : Int) + (m : Int) := by push_cast; omega
      rw [hw2]
      rw [e3, ← List.append_assoc] at hnx
      exact hnx
    · simp only [c1, if_false]
      have hp := blk_part a m r.f2 q (n - q * m) (by omega) (by omega)
      rw [show q * m + (n - q * m) = n by omega] at hp
      have e3 : a + ((q * m : Nat) : Int) + ((n - q * m : Nat) : Int) = a + (n : Int) := by omega
      rw [e3] at hp
      rw [hp, ← List.append_assoc] at h
      refine Ev.step (fun k => ?_) h
      simp only [runs_Cap.l1]
      rw [if_neg (by omega)]
theorem cap_loop (m : Nat) (hm : 1 ≤ m) (hmb : (m : Int) ≤ 9223372036854775807) (l : List RunS) (hl : l.length ≤ 100000) (post : List RunS) : ∀ (pre : List RunS), l = pre ++ post → Ev (fun k => runs_Cap.l0 k (m : Int) (capOf m pre) l (l.length : Int) (pre.length : Int)) (capOf m l) := by
  induction post with
  | nil =>
    intro pre h
    rw [List.append_nil] at h
    subst h
    exact Ev.pos fun k => by simp only [runs_Cap.l0]; rw [if_neg (by omega)]
  | cons r rest ih =>
    intro pre h
    have hlen : l.length = pre.length + (rest.length + 1) := by rw [h]; simp
    have hnx := ih (pre ++ [r]) (by rw [h]; simp)
    have e2 : (((pre ++ [r]).length : Nat) : Int) = wrap64 ((pre.length : Int) + 1) := by rw [wrap_id (by omega)]; simp
    rw [cap_snoc, e2] at hnx
    have hc := cap_len m pre
    have hr : rd_T50 l (pre.length : Int) = r := by rw [h]; exact rdR pre r rest _ rfl
    have h1 := mx_eq r.f0 0
    have h2 := mn_eq r.f1 4097
    have head : ∀ k, runs_Cap.l0 (k + 1) (m : Int) (capOf m pre) l (l.length : Int) (pre.length : Int) = (if fromR r ≥ toR r then (runs_Cap.l0 k (m : Int) (capOf m pre) l (l.length : Int) (wrap64 ((pre.length : Int) + 1))) else (runs_Cap.l1 k (m : Int) (capOf m pre) (fromR r) (toR r) l (l.length : Int) (pre.length : Int) r.f0 r.f1 r.f2)) := fun k => by
      simp only [runs_Cap.l0]
      rw [if_pos (by omega), if_pos (by omega), if_pos (by omega), hr]
      rfl
    rcases Nat.eq_zero_or_pos (sizeR r) with h0 | h0
    · rw [h0, show blk (fromR r) m r.f2 0 = [] from rfl, List.append_nil] at hnx
      refine Ev.step (fun k => ?_) hnx
      rw [head, if_pos]
      unfold sizeR at h0
      show mx r.f0 0 ≥ mn r.f1 4097
      have h0' : (mn r.f1 4097 - mx r.f0 0).toNat = 0 := h0
      omega
    · have ht := to_eq r h0
      have hx := cap_in m hm hmb r l (l.length : Int) (pre.length : Int) (capOf m pre) (by omega) (fromR r) (sizeR r) (by show 0 ≤ mx r.f0 0; omega) (by rw [← ht]; show mn r.f1 4097 ≤ 4097; omega) (sizeR r) 0 (by omega) (by omega) _ hnx
      rw [Nat.zero_mul, show blk (fromR r) m r.f2 0 = [] from rfl, List.append_nil, show fromR r + ((0 : Nat) : Int) = fromR r by omega, ← ht] at hx
      refine Ev.step (fun k => ?_) hx
      rw [head, if_neg (by omega)]
theorem cap_ev (m : Nat) (a1 : Int) (h : mx a1 1 = m) (hb : a1 ≤ 9223372036854775807) (l : List RunS) (hl : l.length ≤ 100000) : Ev (fun k => runs_Cap.f k l a1) (capOf m l) := by
  have h1 := mx_eq a1 1
  unfold runs_Cap.f
  rw [h]
  exact cap_loop m (by omega) (by omega) l hl l [] rfl
theorem next_mod (j m : Nat) (hm : 1 ≤ m) : (j + 1) % m = if j % m + 1 = m then 0 else j % m + 1 := by
  have hlt := Nat.mod_lt j hm
  have e : j + 1 = m * (j / m) + (j % m + 1) := by have := Nat.div_add_mod j m; omega
  split
  · rename_i c
    rw [e, c, ← Nat.mul_succ, Nat.mul_mod_right]
  · rename_i c
    rw [e, Nat.mul_add_mod, Nat.mod_eq_of_lt (by omega)]
theorem capRef_in (m : Nat) (hm : 1 ≤ m) (r : RunS) (x14 : List RunS) (x15 x16 : Int) (out : List RunS) (ho : out.length ≤ 1000000000) (a : Int) (n : Nat) (ha : 0 ≤ a) (hn : a + n ≤ 4097) (d : Nat) : ∀ j : Nat, j + d = n →
    ∀ res, Ev (fun k => spenceref24_Cap.l0 k (m : Int) (out ++ blk a m r.f2 n) x14 x15 (wrap64 (x16 + 1))) res → Ev (fun k => spenceref24_Cap.l1 k (m : Int) (out ++ blk a m r.f2 j) ((j % m : Nat) : Int) x14 x15 x16 (rng a n) (n : Int) (j : Int) r.f0 r.f1 r.f2) res := by
  induction d with
  | zero =>
    intro j h1 res h
    obtain rfl : j = n := by omega
    refine Ev.step (fun k => ?_) h
    simp only [spenceref24_Cap.l1]
    rw [if_neg (by omega)]
  | succ d ih =>
    intro j h1 res h
    have hnx := ih (j + 1) (by omega) res h
    have hbl := blk_len a m r.f2 j
    have hmod := Nat.mod_lt j hm
    have hmle := Nat.mod_le j m
    have hwk : wrap64 (((j % m : Nat) : Int) + 1) = ((j % m : Nat) : Int) + 1 := wrap_id (by omega)
    have hwj : wrap64 ((j : Int) + 1) = ((j + 1 : Nat) : Int) := by rw [wrap_id (by omega)]; push_cast; rfl
    have hwa : wrap64 (a + (j : Int) + 1) = a + (j : Int) + 1 := wrap_id (by omega)
    have hrd : rd (rng a n) (j : Int) = a + j := rng_rd a n j (by omega) (by omega)
    have fin : ∀ y : List RunS, y = out ++ blk a m r.f2 (j + 1) → Ev (fun k => if ((j % m : Nat) : Int) + 1 = (m : Int) then (spenceref24_Cap.l1 k (m : Int) y 0 x14 x15 x16 (rng a n) (n : Int) ((j + 1 : Nat) : Int) r.f0 r.f1 r.f2) else (spenceref24_Cap.l1 k (m : Int) y (((j % m : Nat) : Int) + 1) x14 x15 x16 (rng a n) (n : Int) ((j + 1 : Nat) : Int) r.f0 r.f1 r.f2)) res := fun y hy => by
      subst hy
      rw [next_mod j m hm] at hnx
      by_cases c : j % m + 1 = m
      · rw [if_pos c] at hnx
        simp only [show ((j % m : Nat) : Int) + 1 = (m : Int) by omega, if_true]
        exact hnx
      · rw [if_neg c] at hnx
        simp only [show ¬ ((j % m : Nat) : Int) + 1 = (m : Int) by omega, if_false]
        have e : ((j % m + 1 : Nat) : Int) = ((j % m : Nat) : Int) + 1 := by push_cast; rfl
        rw [e] at hnx
        exact hnx
    by_cases c0 : j % m = 0
    · have hb : blk a m r.f2 (j + 1) = blk a m r.f2 j ++ [⟨a + j, a + j + 1, r.f2⟩] := by rw [blk, if_pos c0]
      refine Ev.step (fun k => ?_) (fin (out ++ blk a m r.f2 j ++ [⟨a + j, a + j + 1, r.f2⟩]) (by rw [hb, List.append_assoc]))
      simp only [spenceref24_Cap.l1]
      rw [if_pos (by omega), if_pos (by omega), if_pos (by rw [rng_len]; omega), if_neg (by omega), if_pos (by rw [List.length_append]; omega), Option.bind_some, hrd, hwa, hwk, hwj]
    · cases j with
      | zero => exact absurd (Nat.zero_mod m) c0
      | succ j =>
        obtain ⟨init, q, e0, e1, e2⟩ := blk_nonempty a m r.f2 j
        have hb := blk_ext a m r.f2 j c0 e0
        have hlast : ((out ++ (init ++ [q])).length : Int) - 1 = ((out ++ init).length : Nat) := by simp; omega
        have hlw : wrap64 (((out ++ (init ++ [q])).length : Int) - 1) = ((out ++ init).length : Nat) := by
          rw [hlast, wrap_id]
          rw [e0] at hbl
          simp only [List.length_append, List.length_cons, List.length_nil] at hbl ⊢
          omega
        have hq : rd_T50 (out ++ (init ++ [q])) (((out ++ init).length : Nat) : Int) = q := by rw [← List.append_assoc]; exact rdR (out ++ init) q [] _ rfl
        have hset : (out ++ (init ++ [q])).set (out ++ init).length ⟨q.f0, a + ((j + 1 : Nat) : Int) + 1, q.f2⟩ = out ++ blk a m r.f2 (j + 2) := by
          rw [hb, ← e2, ← List.append_assoc, ← List.append_assoc]
          simp
        refine Ev.step (fun k => ?_) (fin _ rfl)
        simp only [spenceref24_Cap.l1]
        rw [if_pos (by omega), if_pos (by omega), if_pos (by rw [rng_len]; omega), if_pos (by omega), e0, hlw, if_pos (by omega), if_pos (by rw [← List.append_assoc]; simp; omega), hq, Int.toNat_natCast, hrd, hwa, hset, Option.bind_some, hwk, hwj]
theorem capRef_loop (m : Nat) (hm : 1 ≤ m) (l : List RunS) (hl : l.length ≤ 100000) (post : List RunS) : ∀ (pre : List RunS), l = pre ++ post → Ev (fun k => spenceref24_Cap.l0 k (m : Int) (capOf m pre) l (l.length : Int) (pre.length : Int)) (capOf m l) := by
  induction post with
  | nil =>
    intro pre h
    rw [List.append_nil] at h
    subst h
    exact Ev.pos fun k => by simp only [spenceref24_Cap.l0]; rw [if_neg (by omega)]
  | cons r rest ih =>
    intro pre h
    have hlen : l.length = pre.length + (rest.length + 1) := by rw [h]; simp
    have hnx := ih (pre ++ [r]) (by rw [h]; simp)
    have e2 : (((pre ++ [r]).length : Nat) : Int) = wrap64 ((pre.length : Int) + 1) := by rw [wrap_id (by omega)]; simp
    rw [cap_snoc, e2] at hnx
    have hc := cap_len m pre
    have hr : rd_T50 l (pre.length : Int) = r := by rw [h]; exact rdR pre r rest _ rfl
    have h1 := mx_eq r.f0 0
    have h2 := mn_eq r.f1 4097
    have hnum := numbers_ev [r] (by simp)
    rw [show slicesOf [r] = rng (fromR r) (sizeR r) by simp [slicesOf]] at hnum
    refine Ev.succ ?_
    simp only [spenceref24_Cap.l0, show (pre.length : Int) < (l.length : Int) by omega, show (0 : Int) ≤ (pre.length : Int) by omega, if_true, hr]
    refine Ev.bind hnum ?_
    simp only [rng_len]
    have hx : Ev (fun k => spenceref24_Cap.l1 k (m : Int) (capOf m pre ++ blk (fromR r) m r.f2 0) ((0 % m : Nat) : Int) l (l.length : Int) (pre.length : Int) (rng (fromR r) (sizeR r)) ((sizeR r : Nat) : Int) ((0 : Nat) : Int) r.f0 r.f1 r.f2) (capOf m l) := by
      rcases Nat.eq_zero_or_pos (sizeR r) with h0 | h0
      · refine Ev.step (fun k => ?_) hnx
        simp only [spenceref24_Cap.l1]
        rw [if_neg (by omega), h0]
      · have ht := to_eq r h0
        exact capRef_in m hm r l (l.length : Int) (pre.length : Int) (capOf m pre) (by omega) (fromR r) (sizeR r) (by show 0 ≤ mx r.f0 0; omega) (by rw [← ht]; show mn r.f1 4097 ≤ 4097; omega) (sizeR r) 0 (by omega) _ hnx
    rw [show blk (fromR r) m r.f2 0 = [] from rfl, List.append_nil, Nat.zero_mod] at hx
    exact hx
theorem capRef_ev (m : Nat) (a1 : Int) (h : mx a1 1 = m) (l : List RunS) (hl : l.length ≤ 100000) : Ev (fun k => spenceref24_Cap.f k l a1) (capOf m l) := by
  have h1 := mx_eq a1 1
  have main : Ev (fun k => spenceref24_Cap.j0 k l (m : Int)) (capOf m l) := by
    refine Ev.succ ?_
    simp only [spenceref24_Cap.j0]
    exact capRef_loop m (by omega) l hl l [] rfl
  unfold spenceref24_Cap.f
  by_cases c : a1 < 1
  · simp only [c, if_true]
    rw [show (1 : Int) = (m : Int) by omega]
    exact main
  · simp only [c, if_false]
    rw [show a1 = (m : Int) by omega]
    exact main
end Go.Proofs.YtcnlmpjoghogbaaDoor.Pure
namespace Go.Proofs.YtcnlmpjoghogbaaDoor.Pure
open Go.RowKit Go.Proofs.YtcnlmpjoghogbaaDoor.Xw Go.Proofs.YtcnlmpjoghogbaaDoor.PAll Go.Proofs.YtcnlmpjoghogbaaDoorW.PrintWords Go.Proofs.YtcnlmpjoghogbaaDoorW.PrintLast Go.Proofs.YtcnlmpjoghogbaaDoorW.PrintMore
open Go.Proofs.YtcnlmpjoghogbaaDoor.Ag (hasF withF zeroF ofF srt splitAll splitStep has_of has_own splitAll_snoc splitAll_len all_of all_len)
theorem ev_of {α : Type} {g : Nat → Option α} {r : α} (mono : ∀ k, LeO (g k) (g (k + 1))) {k0 : Nat} (h : g k0 = some r) : Ev g r := ⟨k0, fun k hk => by
  obtain ⟨d, rfl⟩ : ∃ d, k = k0 + d := ⟨k - k0, by omega⟩
  clear hk
  induction d with
  | zero => exact h
  | succ d ih => exact mono _ _ ih⟩
def fetchOf (F : Nat → Int) (need : List Int) : List RunS := capOf 8 ((splitAll (hasF F) (srt need)).filter fun r => !r.f2)
theorem fetch_ev (need : List Int) (F : Nat → Int) : Ev (fun k => plan_fetch.f k need F) (fetchOf F need) := by
  have h1 := splitAll_len (hasF F) (srt need)
  have h2 := srt_len need
  have h3 : ((splitAll (hasF F) (srt need)).filter fun r => !r.f2).length ≤ (splitAll (hasF F) (srt need)).length := List.length_filter_le _ _
  unfold plan_fetch.f runs_Split.f
  simp only [Option.bind_some]
  unfold runs_Missing.f
  rw [if_pos (by omega)]
  simp only [Option.bind_some]
  exact Ev.bind (cap_ev 8 8 (by decide) (by decide) _ (by omega)) (Ev.now _)
theorem planOf_ev (l : List S53) (n s : Int) (F : Nat → Int) (need : List Int) (hn : Ev (fun k => cuts_Cover.f k l n s) need) : Ev (fun k => plan_Of.f k l n s F) (need, splitAll (hasF F) (srt need), fetchOf F need) := by
  refine Ev.bind hn ?_
  unfold runs_Split.f
  simp only [Option.bind_some]
  exact Ev.bind (fetch_ev need F) (Ev.now _)
theorem fetch_own (need m : List Int) : fetchOf (ofF m) need = capOf 8 ((splitAll (fun x => decide (x ∈ m)) (srt need)).filter fun r => !r.f2) := by unfold fetchOf; rw [split_own]
theorem awake28 : Ev (fun k => spencelaw28_awake.f k) true := by
  unfold spencelaw28_awake.f bitmap_Of.f
  simp only [Option.bind_some]
  have hc : Ev (fun k => cuts_Cover.f k [⟨0, 5⟩] 10 4) [0, 1] := ev_of (k0 := 40) (fun k => cuts_Cover.mono _ _ _ k) (by kernel_rfl)
  refine Ev.bind (planOf_ev _ _ _ _ _ hc) ?_
  rw [show ([0] : List Int).foldl withF zeroF = ofF [0] from rfl]
  have e : fetchOf (ofF [0]) [0, 1] = [⟨1, 2, false⟩] := by
    rw [fetch_own]
    have e1 : srt [0, 1] = [0, 1] := by kernel_rfl
    rw [e1]
    show capOf 8 _ = _
    kernel_rfl
  rw [e]
  exact Ev.now _
end Go.Proofs.YtcnlmpjoghogbaaDoor.Pure
namespace Go.Proofs.YtcnlmpjoghogbaaDoor.Pure
open Go.RowKit Go.Proofs.YtcnlmpjoghogbaaDoor.Xw Go.Proofs.YtcnlmpjoghogbaaDoor.PAll Go.Proofs.YtcnlmpjoghogbaaDoorW.PrintWords Go.Proofs.YtcnlmpjoghogbaaDoorW.PrintLast Go.Proofs.YtcnlmpjoghogbaaDoorW.PrintMore
open Go.Proofs.YtcnlmpjoghogbaaDoor.Ag (hasF withF zeroF ofF srt splitAll splitStep has_of has_own splitAll_snoc splitAll_len all_of all_len)
def Col (h : Int → Bool) (out : List RunS) : Prop := ∀ r ∈ out, ∀ x, r.f0 ≤ x → x < r.f1 → h x = r.f2
theorem col_step (h : Int → Bool) {out : List RunS} (ok : Col h out) (x : Int) (h0 : 0 ≤ x) (h1 : x ≤ 4096) : Col h (splitStep h out x) := by
  have hw : wrap64 (x + 1) = x + 1 := wrap_id (by omega)
  have new : ∀ y, x ≤ y → y < x + 1 → h y = h x := fun y a b => by rw [show y = x by omega]
  rcases List.eq_nil_or_concat out with rfl | ⟨init, r, rfl⟩
  · rw [split_nil, hw]
    intro r hr
    simp only [List.mem_singleton] at hr
    subst hr
    exact new
  · rw [List.concat_eq_append] at *
    rw [split_snoc]
    split
    · rename_i c
      rw [c.1, hw]
      intro q hq
      simp only [List.mem_append, List.mem_singleton] at hq
      rcases hq with hq | rfl
      · exact ok q (by simp [hq])
      · intro y a b
        by_cases e : y = x
        · subst e; exact c.2.symm
        · exact ok r (by simp) y a (by have : y < x + 1 := b; have := c.1; omega)
    · rw [hw]
      intro q hq
      simp only [List.mem_append, List.mem_singleton] at hq
      rcases hq with hq | rfl
      · exact ok q (by simpa using hq)
      · exact new
theorem col_all (h : Int → Bool) (l : List Int) : ∀ (out : List RunS), Col h out → (∀ x ∈ l, 0 ≤ x ∧ x ≤ 4096) → Col h (l.foldl (splitStep h) out) := by
  induction l with
  | nil => intro out ok _; exact ok
  | cons x l ih => intro out ok hb; exact ih _ (col_step h ok x (hb x (by simp)).1 (hb x (by simp)).2) (fun y hy => hb y (by simp [hy]))
theorem col_split (h : Int → Bool) (l : List Int) : Col h (splitAll h (srt l)) := col_all h (srt l) [] (fun r hr => by simp at hr) (fun x hx => ((srt_mem l x).1 hx).2)
theorem apB_all (l : List RunS) : ∀ p, apB p l = true → ∀ r ∈ l, 0 ≤ r.f0 ∧ r.f0 < r.f1 ∧ r.f1 ≤ 4097 := by
  induction l with
  | nil => intro p _ r hr; simp at hr
  | cons x l ih =>
    intro p h r hr
    rw [apB, Bool.and_eq_true] at h
    rcases List.mem_cons.1 hr with rfl | hr
    · have := h.1
      simp only [okR, Bool.and_eq_true, decide_eq_true_eq] at this
      exact ⟨this.1, this.2.1, this.2.2.1⟩
    · exact ih _ h.2 r hr
theorem slices_filter (h : Int → Bool) (l : List RunS) (hc : Col h l) (hb : ∀ r ∈ l, 0 ≤ r.f0 ∧ r.f0 < r.f1 ∧ r.f1 ≤ 4097) : slicesOf (l.filter fun r => !r.f2) = (slicesOf l).filter fun x => !h x := by
  induction l with
  | nil => rfl
  | cons r l ih =>
    have e2 : slicesOf (r :: l) = rng (fromR r) (sizeR r) ++ slicesOf l := by simp [slicesOf]
    have ih' := ih (fun q hq => hc q (by simp [hq])) (fun q hq => hb q (by simp [hq]))
    obtain ⟨b0, b1, b2⟩ := hb r (by simp)
    have h1 := mx_eq r.f0 0
    have h2 := mn_eq r.f1 4097
    have hx : ∀ x ∈ rng (fromR r) (sizeR r), h x = r.f2 := fun x hx => by
      have := (rng_mem _ _ _).1 hx
      have e : fromR r = r.f0 := by show mx r.f0 0 = r.f0; omega
      have e3 : fromR r + (sizeR r : Int) = r.f1 := by unfold sizeR; show mx r.f0 0 + ((mn r.f1 4097 - mx r.f0 0).toNat : Int) = r.f1; omega
      exact hc r (by simp) x (by omega) (by omega)
    rw [e2, List.filter_append, ← ih']
    cases hq : r.f2 with
    | true =>
      rw [List.filter_cons_of_neg (by simp [hq])]
      have e5 : (rng (fromR r) (sizeR r)).filter (fun x => !h x) = [] := List.filter_eq_nil_iff.2 (fun x hm => by rw [hx x hm, hq]; simp)
      rw [e5, List.nil_append]
    | false =>
      rw [List.filter_cons_of_pos (by simp [hq])]
      have e6 : (rng (fromR r) (sizeR r)).filter (fun x => !h x) = rng (fromR r) (sizeR r) := List.filter_eq_self.2 (fun x hm => by rw [hx x hm, hq]; rfl)
      rw [e6]
      simp [slicesOf]
theorem blk_parts (a : Int) (m : Nat) (hm : 1 ≤ m) (c : Bool) (j : Nat) : ∀ p ∈ blk a m c j, p.f2 = c ∧ a ≤ p.f0 ∧ p.f0 < p.f1 ∧ p.f1 ≤ a + j ∧ p.f1 - p.f0 ≤ m := by
  induction j using Nat.strongRecOn with
  | ind j ih =>
    intro p hp
    cases j with
    | zero => simp [blk] at hp
    | succ j =>
      have hd := Nat.div_add_mod j m
      have hlt := Nat.mod_lt j hm
      have e : j + 1 = j / m * m + (j % m + 1) := by rw [Nat.mul_comm]; omega
      have hb := blk_part a m c (j / m) (j % m + 1) (by omega) (by omega)
      rw [← e] at hb
      rw [hb, List.mem_append, List.mem_singleton] at hp
      rcases hp with hp | rfl
      · obtain ⟨h1, h2, h3, h4, h5⟩ := ih (j / m * m) (by omega) p hp
        exact ⟨h1, h2, h3, by omega, h5⟩
      · refine ⟨rfl, ?_, ?_, ?_, ?_⟩
        · show a ≤ a + ((j / m * m : Nat) : Int); omega
        · show a + ((j / m * m : Nat) : Int) < a + ((j / m * m : Nat) : Int) + ((j % m + 1 : Nat) : Int); omega
        · show a + ((j / m * m : Nat) : Int) + ((j % m + 1 : Nat) : Int) ≤ a + ((j + 1 : Nat) : Int); omega
        · show a + ((j / m * m : Nat) : Int) + ((j % m + 1 : Nat) : Int) - (a + ((j / m * m : Nat) : Int)) ≤ (m : Int); omega
structure FetchOk (need m : List Int) (fetch : List RunS) : Prop where
  parts : ∀ r ∈ fetch, r.f2 = false ∧ 0 ≤ r.f0 ∧ r.f0 < r.f1 ∧ r.f1 ≤ 4097 ∧ r.f1 - r.f0 ≤ 8
  slices : slicesOf fetch = (srt need).filter fun x => !decide (x ∈ m)
theorem fetch_ok (need m : List Int) : FetchOk need m (fetchOf (ofF m) need) := by
  rw [fetch_own]
  have ok := splitAll_ok (fun x => decide (x ∈ m)) need
  have hb := apB_all _ none ok.apart
  have hc := col_split (fun x => decide (x ∈ m)) need
  refine ⟨fun r hr => ?_, ?_⟩
  · simp only [capOf, List.mem_flatMap] at hr
    obtain ⟨q, hq, hr⟩ := hr
    obtain ⟨hq1, hq2⟩ := List.mem_filter.1 hq
    obtain ⟨b0, b1, b2⟩ := hb q hq1
    have h1 := mx_eq q.f0 0
    have h2 := mn_eq q.f1 4097
    obtain ⟨p1, p2, p3, p4, p5⟩ := blk_parts (fromR q) 8 (by decide) q.f2 (sizeR q) r hr
    have e : fromR q = q.f0 := by show mx q.f0 0 = q.f0; omega
    have e3 : fromR q + (sizeR q : Int) = q.f1 := by unfold sizeR; show mx q.f0 0 + ((mn q.f1 4097 - mx q.f0 0).toNat : Int) = q.f1; omega
    exact ⟨by rw [p1]; simpa using hq2, by omega, p3, by omega, p5⟩
  · rw [cap_slices, slices_filter _ _ hc hb, ok.slices]
end Go.Proofs.YtcnlmpjoghogbaaDoor.Pure
namespace Go.Proofs.YtcnlmpjoghogbaaDoor.Pure
open Go.RowKit Go.Proofs.YtcnlmpjoghogbaaDoor.PAll Go.Proofs.YtcnlmpjoghogbaaDoorW.PrintWords Go.Proofs.YtcnlmpjoghogbaaDoorW.PrintLast Go.Proofs.YtcnlmpjoghogbaaDoorW.PrintMore
def CR (n s : Int) : Prop := 0 ≤ n ∧ n ≤ 4096 ∧ 1 ≤ s ∧ s ≤ 64
instance (n s : Int) : Decidable (CR n s) := by unfold CR; infer_instance
theorem right_eq (n s : Int) : cuts_Right.f n s = some (decide (CR n s)) := by
  unfold cuts_Right.f CR
  by_cases h0 : n ≥ 0 <;> by_cases h1 : n ≤ 4096 <;> by_cases h2 : s ≥ 1 <;> by_cases h3 : s ≤ 64 <;> simp [h0, h1, h2, h3] <;> omega
theorem ref_cuts_eq (n s : Int) : spenceref04_Cuts.f n s = some (decide (CR n s)) := right_eq n s
/-- how many slices -/
def cnt (n s : Int) : Int := if CR n s then (n + s - 1) / s else 0
theorem count_eq (n s : Int) : cuts_Count.f n s = some (cnt n s) := by
  unfold cuts_Count.f cnt
  rw [right_eq]
  by_cases h : CR n s
  · simp only [h, decide_true, Option.bind_some, if_true]
    obtain ⟨h0, h1, h2, h3⟩ := h
    rw [if_neg (by omega), wrap_id (x := n + s) (by omega), wrap_id (x := n + s - 1) (by omega), Int.tdiv_eq_ediv_of_nonneg (by omega)]
    have h4 : 0 ≤ (n + s - 1) / s := Int.ediv_nonneg (by omega) (by omega)
    have h5 : (n + s - 1) / s ≤ n + s - 1 := Int.ediv_le_self _ (by omega)
    rw [wrap_id (by omega)]
  · simp [h]
theorem lt_cnt {i n s : Int} (h : CR n s) : i < cnt n s ↔ i * s < n := by
  unfold cnt
  rw [if_pos h]
  obtain ⟨h0, h1, h2, h3⟩ := h
  have h4 : i + 1 ≤ (n + s - 1) / s ↔ (i + 1) * s ≤ n + s - 1 := Int.le_ediv_iff_mul_le (by omega)
  rw [Int.add_mul, Int.one_mul] at h4
  constructor
  · intro h; have := h4.1 (by omega); omega
  · intro h; have := h4.2 (by omega); omega
theorem cnt_bd {n s : Int} (h : CR n s) : 0 ≤ cnt n s ∧ cnt n s ≤ n := by
  have h' := h
  obtain ⟨h0, h1, h2, h3⟩ := h'
  constructor
  · unfold cnt; rw [if_pos h]; exact Int.ediv_nonneg (by omega) (by omega)
  · have := (lt_cnt (i := n) h).1
    have h6 : n ≤ n * s := by have := Int.mul_le_mul_of_nonneg_left h2 h0; omega
    by_cases h5 : n < cnt n s
    · have := this h5; omega
    · omega
/-- slice i: where it begins and ends -/
def bnd (i n s : Int) : Int × Int := if CR n s ∧ 0 ≤ i ∧ i * s < n then (i * s, mn (i * s + s) n) else (0, 0)
theorem mul_bd {i n s : Int} (h : CR n s) (h0 : 0 ≤ i) (h1 : i * s < n) : 0 ≤ i * s ∧ i ≤ i * s ∧ i * s ≤ 4096 := by
  obtain ⟨_, _, h2, _⟩ := h
  have h3 : 0 ≤ i * s := Int.mul_nonneg h0 (by omega)
  have h4 : i * 1 ≤ i * s := Int.mul_le_mul_of_nonneg_left h2 h0
  omega
theorem bounds_eq (i n s : Int) : cuts_Bounds.f i n s = some ((bnd i n s).1, (bnd i n s).2, decide (CR n s ∧ 0 ≤ i ∧ i * s < n)) := by
  unfold cuts_Bounds.f bnd
  by_cases h0 : i < 0
  · rw [if_pos h0, if_neg (by omega)]; simp; omega
  rw [if_neg h0, count_eq]
  simp only [Option.bind_some]
  by_cases hr : CR n s
  · by_cases h1 : i * s < n
    · have h2 := (lt_cnt hr).2 h1
      have hb := mul_bd hr (by omega) h1
      have hm : (i + 1) * s = i * s + s := by rw [Int.add_mul, Int.one_mul]
      have hr' := hr
      obtain ⟨g0, g1, g2, g3⟩ := hr'
      have hc : CR n s ∧ 0 ≤ i ∧ i * s < n := ⟨hr, by omega, h1⟩
      rw [if_neg (by omega), if_pos hc, wrap_id (x := i * s) (by omega), wrap_id (x := i + 1) (by omega), hm, wrap_id (x := i * s + s) (by omega), decide_eq_true hc]
    · have h2 : ¬ i < cnt n s := fun h => h1 ((lt_cnt hr).1 h)
      rw [if_pos (by omega), if_neg (by simp [h1])]; simp; omega
  · have h2 : cnt n s = 0 := by unfold cnt; rw [if_neg hr]
    rw [if_pos (by omega), if_neg (by simp [hr])]; simp [hr]
theorem ref_bounds_eq (k : Nat) (i n s : Int) : spenceref04_Bounds.f (k + 1) i n s = some (bnd i n s) := by
  unfold spenceref04_Bounds.f bnd
  rw [ref_cuts_eq]
  by_cases hr : CR n s
  · have hr' := hr
    obtain ⟨g0, g1, g2, g3⟩ := hr'
    simp only [hr, decide_true, Option.bind_some, if_true, spenceref04_Bounds.j0, true_and]
    by_cases h0 : i < 0
    · rw [if_pos h0, if_neg (by omega)]
    rw [if_neg h0]
    by_cases h1 : i * s < n
    · have hb := mul_bd hr (by omega) h1
      have hc : 0 ≤ i ∧ i * s < n := ⟨by omega, h1⟩
      rw [if_neg (by omega), wrap_id (x := i * s) (by omega), wrap_id (x := i * s + s) (by omega), if_pos hc]
      simp only [ge_iff_le, decide_eq_true_eq]
      rw [if_neg (by omega)]
      unfold mn
      by_cases h2 : i * s + s > n
      · rw [if_pos h2, if_pos h2]
      · rw [if_neg h2, if_neg h2]
    · by_cases h2 : i > 4096
      · rw [if_pos h2, if_neg (by simp [h1])]
      · have hb : 0 ≤ i * s ∧ i * s ≤ i * 64 := ⟨Int.mul_nonneg (by omega) (by omega), Int.mul_le_mul_of_nonneg_left g3 (by omega)⟩
        have hc : ¬ (0 ≤ i ∧ i * s < n) := fun h => h1 h.2
        rw [if_neg h2, wrap_id (x := i * s) (by omega), if_neg hc, if_pos (decide_eq_true (by omega))]
  · simp only [hr, decide_false, Option.bind_some, spenceref04_Bounds.j0]
    simp
theorem ref_bounds_ev (i n s : Int) : Ev (fun k => spenceref04_Bounds.f k i n s) (bnd i n s) := Ev.pos (fun k => ref_bounds_eq k i n s)
def SR (a b : Int) : Prop := 0 ≤ a ∧ a < b ∧ b ≤ 4611686018427387903
instance (n s : Int) : Decidable (SR n s) := by unfold SR; infer_instance
theorem span_right_eq (a b : Int) : span_Right.f a b = some (decide (SR a b)) := by
  unfold span_Right.f SR
  by_cases h0 : a ≥ 0 <;> by_cases h1 : a < b <;> by_cases h2 : b ≤ 4611686018427387903 <;> simp [h0, h1, h2] <;> omega
theorem ref_right_eq (a b : Int) : spenceref04_Right.f a b = some (decide (SR a b)) := span_right_eq a b
theorem bnd_in {i n s : Int} (h : CR n s ∧ 0 ≤ i ∧ i * s < n) : (bnd i n s).1 = i * s ∧ (bnd i n s).2 = mn (i * s + s) n := by
  unfold bnd; rw [if_pos h]; exact ⟨rfl, rfl⟩
theorem bnd_out {i n s : Int} (h : ¬ (CR n s ∧ 0 ≤ i ∧ i * s < n)) : bnd i n s = (0, 0) := by
  unfold bnd; rw [if_neg h]
theorem bnd_pos (i n s : Int) : (0 < (bnd i n s).2 ↔ (CR n s ∧ 0 ≤ i ∧ i * s < n)) ∧ 0 ≤ (bnd i n s).1 ∧ ((CR n s ∧ 0 ≤ i ∧ i * s < n) → (bnd i n s).1 < (bnd i n s).2 ∧ (bnd i n s).2 ≤ 4096 ∧ (bnd i n s).2 ≤ n) ∧ (¬ (CR n s ∧ 0 ≤ i ∧ i * s < n) → (bnd i n s).2 = 0) := by
  by_cases h : CR n s ∧ 0 ≤ i ∧ i * s < n
  · have hb := bnd_in h
    have hm := mul_bd h.1 h.2.1 h.2.2
    obtain ⟨⟨g0, g1, g2, g3⟩, h1, h2⟩ := h
    have h3 := mn_le (i * s + s) n
    rw [hb.1, hb.2]
    refine ⟨⟨fun _ => ⟨⟨g0, g1, g2, g3⟩, h1, h2⟩, fun _ => by omega⟩, by omega, fun _ => by omega, fun hn => (hn ⟨⟨g0, g1, g2, g3⟩, h1, h2⟩).elim⟩
  · rw [bnd_out h]
    exact ⟨⟨fun h' => by simp at h', fun h' => (h h').elim⟩, by simp, fun h' => (h h').elim, fun _ => rfl⟩
end Go.Proofs.YtcnlmpjoghogbaaDoor.Pure
namespace Go.Proofs.YtcnlmpjoghogbaaDoor.Pure
open Go.RowKit Go.Proofs.YtcnlmpjoghogbaaDoor.PAll Go.Proofs.YtcnlmpjoghogbaaDoorW.PrintWords Go.Proofs.YtcnlmpjoghogbaaDoorW.PrintLast Go.Proofs.YtcnlmpjoghogbaaDoorW.PrintMore
def hits (a0 a1 b0 b1 : Int) : Prop := SR a0 a1 ∧ SR b0 b1 ∧ mx a0 b0 < mn a1 b1
instance (a0 a1 b0 b1 : Int) : Decidable (hits a0 a1 b0 b1) := by unfold hits; infer_instance
def meet (a0 a1 b0 b1 : Int) : Int × Int := if hits a0 a1 b0 b1 then (mx a0 b0, mn a1 b1) else (0, 0)
theorem meet_eq (a0 a1 b0 b1 : Int) : span_Meet.f a0 a1 b0 b1 = some ((meet a0 a1 b0 b1).1, (meet a0 a1 b0 b1).2, decide (hits a0 a1 b0 b1)) := by
  unfold span_Meet.f meet
  simp only [span_right_eq, Option.bind_some]
  by_cases h0 : SR a0 a1
  · by_cases h1 : SR b0 b1
    · by_cases h2 : mx a0 b0 < mn a1 b1
      · have hh : hits a0 a1 b0 b1 := ⟨h0, h1, h2⟩
        have h3 : SR (mx a0 b0) (mn a1 b1) := by
          have := mx_le a0 b0; have := mn_le a1 b1
          unfold SR at *; omega
        simp [h0, h1, h3, hh]
      · have hh : ¬ hits a0 a1 b0 b1 := fun h => h2 h.2.2
        have h3 : ¬ SR (mx a0 b0) (mn a1 b1) := fun h => h2 h.2.1
        simp [h0, h1, h3, hh]
    · have hh : ¬ hits a0 a1 b0 b1 := fun h => h1 h.2.1
      simp [h0, h1, hh]
  · have hh : ¬ hits a0 a1 b0 b1 := fun h => h0 h.1
    simp [h0, hh]
theorem meet_pos (a0 a1 b0 b1 : Int) : 0 < (meet a0 a1 b0 b1).2 ↔ hits a0 a1 b0 b1 := by
  unfold meet
  by_cases h : hits a0 a1 b0 b1
  · rw [if_pos h]
    have h' := h
    obtain ⟨⟨h0, _, _⟩, ⟨h1, _, _⟩, h2⟩ := h'
    have := mx_le a0 b0
    exact ⟨fun _ => h, fun _ => by simp only; omega⟩
  · rw [if_neg h]; exact ⟨fun h' => by simp at h', fun h' => (h h').elim⟩
theorem part_eq (a0 a1 i n s : Int) : cuts_Part.f a0 a1 i n s = some ((meet a0 a1 (bnd i n s).1 (bnd i n s).2).1, (meet a0 a1 (bnd i n s).1 (bnd i n s).2).2, decide (hits a0 a1 (bnd i n s).1 (bnd i n s).2)) := by
  unfold cuts_Part.f
  simp only [bounds_eq, Option.bind_some]
  by_cases h : CR n s ∧ 0 ≤ i ∧ i * s < n
  · rw [if_pos (decide_eq_true h)]
    simp only [meet_eq, Option.bind_some]
  · have hd : ¬ (decide (CR n s ∧ 0 ≤ i ∧ i * s < n) = true) := by simpa using h
    rw [if_neg hd, bnd_out h]
    have hh : ¬ hits a0 a1 0 0 := fun h' => by have := h'.2.1.2.1; omega
    unfold meet
    rw [if_neg hh]
    simp [hh]
/-- slice i has a byte of a span -/
def hit (n s i : Int) (x : S53) : Bool := decide (hits x.f0 x.f1 (bnd i n s).1 (bnd i n s).2)
def cov (l : List S53) (n s : Int) : Nat → Int → List Int
  | 0, _ => []
  | d + 1, i => (if l.any (hit n s i) then [i] else []) ++ cov l n s d (i + 1)
theorem cov_length (l : List S53) (n s : Int) : ∀ (d : Nat) (i : Int), (cov l n s d i).length ≤ d
  | 0, _ => by simp [cov]
  | d + 1, i => by
    have := cov_length l n s d (i + 1)
    simp only [cov, List.length_append]
    split <;> simp <;> omega
theorem rd_at (l : List S53) (j : Int) (h0 : 0 ≤ j) (h1 : j < l.length) : rd_T53 l j = l[j.toNat]'(by omega) := by
  have : j.toNat < l.length := by omega
  simp [rd_T53, this]
theorem drop_any (l : List S53) (p : S53 → Bool) (j : Int) (h0 : 0 ≤ j) (h1 : j < l.length) : (l.drop j.toNat).any p = (p (rd_T53 l j) || (l.drop (j + 1).toNat).any p) := by
  have hj : j.toNat < l.length := by omega
  have e : (j + 1).toNat = j.toNat + 1 := by omega
  rw [List.drop_eq_getElem_cons hj, rd_at l j h0 h1, e]
  simp only [List.any_cons]
theorem cover_in (l : List S53) (n s : Int) (acc : List Int) (i c : Int) (r : List Int) (hl : l.length ≤ 9223372036854775807) (ha : acc.length < 17592186044416) (d : Nat) : ∀ j : Int, 0 ≤ j → j ≤ l.length → (l.length : Int) - j = d →
    Ev (fun k => cuts_Cover.l0 k l n s (if (l.drop j.toNat).any (hit n s i) then acc ++ [i] else acc) c (wrap64 (i + 1))) r →
    Ev (fun k => cuts_Cover.l1 k l n s acc i c i l (l.length : Int) j) r := by
  induction d with
  | zero =>
    intro j h0 h1 hd h
    obtain ⟨K, hK⟩ := h
    refine ⟨K + 1, fun k hk => ?_⟩
    obtain ⟨k, rfl⟩ : ∃ m, k = m + 1 := ⟨k - 1, by omega⟩
    have h := hK k (by omega)
    rw [List.drop_of_length_le (by omega)] at h
    simp only [cuts_Cover.l1]
    rw [if_neg (by omega)]
    simpa using h
  | succ d ih =>
    intro j h0 h1 hd h
    have hj : j < l.length := by omega
    rw [drop_any l _ j h0 hj] at h
    by_cases hh : hit n s i (rd_T53 l j) = true
    · obtain ⟨K, hK⟩ := h
      refine ⟨K + 1, fun k hk => ?_⟩
      obtain ⟨k, rfl⟩ : ∃ m, k = m + 1 := ⟨k - 1, by omega⟩
      have h := hK k (by omega)
      simp only [hh, Bool.true_or, if_true] at h
      simp only [cuts_Cover.l1, part_eq, Option.bind_some]
      rw [if_pos hj, if_pos h0, if_pos hj, if_pos (show decide (hits (rd_T53 l j).f0 (rd_T53 l j).f1 (bnd i n s).1 (bnd i n s).2) = true from hh), if_pos ha]
      exact h
    · have hf : hit n s i (rd_T53 l j) = false := by simpa using hh
      rw [hf, Bool.false_or] at h
      obtain ⟨K, hK⟩ := ih (j + 1) (by omega) (by omega) (by omega) h
      refine ⟨K + 1, fun k hk => ?_⟩
      obtain ⟨k, rfl⟩ : ∃ m, k = m + 1 := ⟨k - 1, by omega⟩
      have h := hK k (by omega)
      simp only [cuts_Cover.l1, part_eq, Option.bind_some]
      rw [if_pos hj, if_pos h0, if_pos hj, if_neg (show ¬ decide (hits (rd_T53 l j).f0 (rd_T53 l j).f1 (bnd i n s).1 (bnd i n s).2) = true from hh), wrap_id (by omega)]
      exact h
theorem cover_loop (l : List S53) (n s : Int) (hl : l.length ≤ 9223372036854775807) (hb : 0 ≤ cnt n s ∧ cnt n s ≤ 4096) (d : Nat) : ∀ (i : Int) (acc : List Int), 0 ≤ i → i ≤ cnt n s → cnt n s - i = d → acc.length ≤ i →
    Ev (fun k => cuts_Cover.l0 k l n s acc (cnt n s) i) (acc ++ cov l n s d i) := by
  induction d with
  | zero =>
    intro i acc h0 h1 hd ha
    refine Ev.pos (fun k => ?_)
    simp only [cuts_Cover.l0]
    rw [if_neg (by omega)]
    simp [cov]
  | succ d ih =>
    intro i acc h0 h1 hd ha
    have hw : wrap64 (i + 1) = i + 1 := wrap_id (by omega)
    have h := ih (i + 1) (if l.any (hit n s i) then acc ++ [i] else acc) (by omega) (by omega) (by omega) (by split <;> (try simp) <;> omega)
    have he : (if l.any (hit n s i) then acc ++ [i] else acc) ++ cov l n s d (i + 1) = acc ++ cov l n s (d + 1) i := by
      simp only [cov]; split <;> simp
    rw [he] at h
    have := cover_in l n s acc i (cnt n s) (acc ++ cov l n s (d + 1) i) hl (by omega) l.length 0 (by omega) (by omega) (by omega) (by simpa only [Int.toNat_zero, List.drop_zero, hw] using h)
    obtain ⟨K, hK⟩ := this
    refine ⟨K + 1, fun k hk => ?_⟩
    obtain ⟨k, rfl⟩ : ∃ m, k = m + 1 := ⟨k - 1, by omega⟩
    simp only [cuts_Cover.l0]
    rw [if_pos (by omega)]
    exact hK k (by omega)
theorem cnt_bd2 (n s : Int) : 0 ≤ cnt n s ∧ cnt n s ≤ 4096 := by
  by_cases hr : CR n s
  · have := cnt_bd hr; obtain ⟨g0, g1, g2, g3⟩ := hr; omega
  · unfold cnt; rw [if_neg hr]; omega
theorem cover_ev (l : List S53) (n s : Int) (hl : l.length ≤ 9223372036854775807) : Ev (fun k => cuts_Cover.f k l n s) (cov l n s (cnt n s).toNat 0) := by
  have hb := cnt_bd2 n s
  have := cover_loop l n s hl hb (cnt n s).toNat 0 [] (by omega) (by omega) (by omega) (by simp)
  unfold cuts_Cover.f
  simp only [count_eq, Option.bind_some]
  simpa using this
end Go.Proofs.YtcnlmpjoghogbaaDoor.Pure
namespace Go.Proofs.YtcnlmpjoghogbaaDoor.Pure
open Go.RowKit Go.Proofs.YtcnlmpjoghogbaaDoor.PAll Go.Proofs.YtcnlmpjoghogbaaDoorW.PrintWords Go.Proofs.YtcnlmpjoghogbaaDoorW.PrintLast Go.Proofs.YtcnlmpjoghogbaaDoorW.PrintMore
theorem ref_meet_eq (k : Nat) (a0 a1 b0 b1 : Int) : spenceref04_Meet.f (k + 2) a0 a1 b0 b1 = some (meet a0 a1 b0 b1) := by
  unfold spenceref04_Meet.f meet
  simp only [ref_right_eq, Option.bind_some]
  by_cases h0 : SR a0 a1
  · by_cases h1 : SR b0 b1
    · simp only [h0, h1, decide_true, if_true, Bool.not_true, spenceref04_Meet.j0]
      have e : hits a0 a1 b0 b1 ↔ mx a0 b0 < mn a1 b1 := ⟨fun h => h.2.2, fun h => ⟨h0, h1, h⟩⟩
      simp only [e]
      rw [if_neg (by decide)]
      by_cases h2 : b0 > a0
      · skip
        have hx : mx a0 b0 = b0 := by unfold mx; rw [if_pos (by omega)]
        rw [if_pos h2, hx]
        simp only [spenceref04_Meet.j1]
        by_cases h3 : b1 < a1
        · have hy : mn a1 b1 = b1 := by unfold mn; rw [if_pos h3]
          rw [if_pos h3, hy]
          by_cases h4 : b0 < b1
          · rw [if_neg (by omega), if_pos h4]
          · rw [if_pos (by omega), if_neg h4]
        · have hy : mn a1 b1 = a1 := by unfold mn; rw [if_neg h3]
          rw [if_neg h3, hy]
          by_cases h4 : b0 < a1
          · rw [if_neg (by omega), if_pos h4]
          · rw [if_pos (by omega), if_neg h4]
      · skip
        have hx : mx a0 b0 = a0 := by unfold mx; rw [if_neg (by omega)]
        rw [if_neg h2, hx]
        simp only [spenceref04_Meet.j1]
        by_cases h3 : b1 < a1
        · have hy : mn a1 b1 = b1 := by unfold mn; rw [if_pos h3]
          rw [if_pos h3, hy]
          by_cases h4 : a0 < b1
          · rw [if_neg (by omega), if_pos h4]
          · rw [if_pos (by omega), if_neg h4]
        · have hy : mn a1 b1 = a1 := by unfold mn; rw [if_neg h3]
          rw [if_neg h3, hy]
          by_cases h4 : a0 < a1
          · rw [if_neg (by omega), if_pos h4]
          · rw [if_pos (by omega), if_neg h4]
    · have hh : ¬ hits a0 a1 b0 b1 := fun h => h1 h.2.1
      simp [h0, h1, hh, spenceref04_Meet.j0]
  · have hh : ¬ hits a0 a1 b0 b1 := fun h => h0 h.1
    simp [h0, hh, spenceref04_Meet.j0]
theorem ref_in (l : List S53) (n s : Int) (acc : List Int) (i : Int) (r : List Int) (hl : l.length ≤ 9223372036854775807) (ha : acc.length < 17592186044416) (d : Nat) : ∀ (j : Int) (b : Bool), 0 ≤ j → j ≤ l.length → (l.length : Int) - j = d →
    Ev (fun k => spenceref04_Cover.l0 k l n s (if b || (l.drop j.toNat).any (hit n s i) then acc ++ [i] else acc) (wrap64 (i + 1))) r →
    Ev (fun k => spenceref04_Cover.l1 k l n s acc i b l (l.length : Int) j (bnd i n s).1 (bnd i n s).2) r := by
  induction d with
  | zero =>
    intro j b h0 h1 hd h
    obtain ⟨K, hK⟩ := h
    refine ⟨K + 1, fun k hk => ?_⟩
    obtain ⟨k, rfl⟩ : ∃ m, k = m + 1 := ⟨k - 1, by omega⟩
    have h := hK k (by omega)
    rw [List.drop_of_length_le (by omega)] at h
    simp only [spenceref04_Cover.l1]
    rw [if_neg (by omega), if_pos ha]
    cases b <;> simpa using h
  | succ d ih =>
    intro j b h0 h1 hd h
    have hj : j < l.length := by omega
    rw [drop_any l _ j h0 hj] at h
    cases b with
    | true =>
      obtain ⟨K, hK⟩ := ih (j + 1) true (by omega) (by omega) (by omega) (by simpa using h)
      refine ⟨K + 1, fun k hk => ?_⟩
      obtain ⟨k, rfl⟩ : ∃ m, k = m + 1 := ⟨k - 1, by omega⟩
      have h := hK k (by omega)
      simp only [spenceref04_Cover.l1]
      rw [if_pos hj, if_pos h0, if_pos hj, if_pos trivial, wrap_id (by omega)]
      exact h
    | false =>
      obtain ⟨K, hK⟩ := ih (j + 1) (hit n s i (rd_T53 l j)) (by omega) (by omega) (by omega) (by simpa using h)
      refine ⟨K + 3, fun k hk => ?_⟩
      obtain ⟨k, rfl⟩ : ∃ m, k = m + 2 + 1 := ⟨k - 3, by omega⟩
      have h := hK (k + 2) (by omega)
      simp only [spenceref04_Cover.l1, ref_meet_eq, Option.bind_some]
      rw [if_pos hj, if_pos h0, if_pos hj, if_neg (by decide), wrap_id (by omega)]
      have e : decide ((meet (rd_T53 l j).f0 (rd_T53 l j).f1 (bnd i n s).1 (bnd i n s).2).2 > 0) = hit n s i (rd_T53 l j) := by
        unfold hit
        exact decide_eq_decide.mpr (meet_pos _ _ _ _)
      rw [e]
      exact h
theorem ref_cover_loop (l : List S53) (n s : Int) (hl : l.length ≤ 9223372036854775807) (hb : 0 ≤ cnt n s ∧ cnt n s ≤ 4096) (d : Nat) : ∀ (i : Int) (acc : List Int), 0 ≤ i → i ≤ cnt n s → cnt n s - i = d → acc.length ≤ i →
    Ev (fun k => spenceref04_Cover.l0 k l n s acc i) (acc ++ cov l n s d i) := by
  induction d with
  | zero =>
    intro i acc h0 h1 hd ha
    refine ⟨2, fun k hk => ?_⟩
    obtain ⟨k, rfl⟩ : ∃ m, k = m + 1 + 1 := ⟨k - 2, by omega⟩
    have hz : (bnd i n s).2 = 0 := (bnd_pos i n s).2.2.2 (fun h => by
      have := (lt_cnt h.1).2 h.2.2; omega)
    simp only [spenceref04_Cover.l0, ref_bounds_eq, Option.bind_some]
    rw [if_pos (by omega), if_pos hz]
    simp [cov]
  | succ d ih =>
    intro i acc h0 h1 hd ha
    have hw : wrap64 (i + 1) = i + 1 := wrap_id (by omega)
    have h := ih (i + 1) (if l.any (hit n s i) then acc ++ [i] else acc) (by omega) (by omega) (by omega) (by split <;> (try simp) <;> omega)
    have he : (if l.any (hit n s i) then acc ++ [i] else acc) ++ cov l n s d (i + 1) = acc ++ cov l n s (d + 1) i := by
      simp only [cov]; split <;> simp
    rw [he] at h
    have := ref_in l n s acc i (acc ++ cov l n s (d + 1) i) hl (by omega) l.length 0 false (by omega) (by omega) (by omega) (by simpa only [Int.toNat_zero, List.drop_zero, hw, Bool.false_or] using h)
    obtain ⟨K, hK⟩ := this
    refine ⟨K + 2, fun k hk => ?_⟩
    obtain ⟨k, rfl⟩ : ∃ m, k = m + 1 + 1 := ⟨k - 2, by omega⟩
    have hr : CR n s := by
      by_cases hr : CR n s
      · exact hr
      · unfold cnt at hd; rw [if_neg hr] at hd; omega
    have hz : ¬ (bnd i n s).2 = 0 := by
      have := (bnd_pos i n s).1.2 ⟨hr, h0, (lt_cnt hr).1 (by omega)⟩
      omega
    simp only [spenceref04_Cover.l0, ref_bounds_eq, Option.bind_some]
    rw [if_pos (by omega), if_neg hz]
    exact hK (k + 1) (by omega)
theorem ref_cover_ev (l : List S53) (n s : Int) (hl : l.length ≤ 9223372036854775807) : Ev (fun k => spenceref04_Cover.f k l n s) (cov l n s (cnt n s).toNat 0) := by
  have hb := cnt_bd2 n s
  have := ref_cover_loop l n s hl hb (cnt n s).toNat 0 [] (by omega) (by omega) (by omega) (by simp)
  unfold spenceref04_Cover.f
  simpa using this
end Go.Proofs.YtcnlmpjoghogbaaDoor.Pure
namespace Go.Proofs.YtcnlmpjoghogbaaDoor.Pure
open Go.RowKit Go.Proofs.YtcnlmpjoghogbaaDoor.Xw Go.Proofs.YtcnlmpjoghogbaaDoor.PAll Go.Proofs.YtcnlmpjoghogbaaDoorW.PrintWords Go.Proofs.YtcnlmpjoghogbaaDoorW.PrintLast Go.Proofs.YtcnlmpjoghogbaaDoorW.PrintMore
def bytesOfRun (a b n s : Int) : Int × Int := if a ≥ b then (0, 0) else if (bnd a n s).2 = 0 ∨ (bnd (wrap64 (b - 1)) n s).2 = 0 then (0, 0) else ((bnd a n s).1, (bnd (wrap64 (b - 1)) n s).2)
theorem bnd_nought (i n s : Int) : (bnd i n s).2 = 0 ↔ ¬ (CR n s ∧ 0 ≤ i ∧ i * s < n) := by
  constructor
  · intro h hc
    have := (bnd_pos i n s).1.2 hc
    omega
  · intro h
    rw [bnd_out h]
theorem planBytes_eq (a b : Int) (c : Bool) (n s : Int) : plan_Bytes.f a b c n s = some ((bytesOfRun a b n s).1, (bytesOfRun a b n s).2, decide ((bytesOfRun a b n s).2 > 0)) := by
  unfold plan_Bytes.f bytesOfRun
  by_cases h : a ≥ b
  · rw [if_pos h, if_pos h]; rfl
  rw [if_neg h, if_neg h, bounds_eq, Option.bind_some, bounds_eq, Option.bind_some]
  by_cases h1 : CR n s ∧ 0 ≤ a ∧ a * s < n
  · by_cases h2 : CR n s ∧ 0 ≤ wrap64 (b - 1) ∧ wrap64 (b - 1) * s < n
    · have e1 := bnd_nought a n s
      have e2 := bnd_nought (wrap64 (b - 1)) n s
      have hp := (bnd_pos (wrap64 (b - 1)) n s).1.2 h2
      have hc : ¬ ((bnd a n s).2 = 0 ∨ (bnd (wrap64 (b - 1)) n s).2 = 0) := fun hh => hh.elim (fun x => e1.1 x h1) (fun x => e2.1 x h2)
      simp only [decide_eq_true h1, decide_eq_true h2, if_true, if_neg hc]
      rw [decide_eq_true hp]
    · have e2 := (bnd_nought (wrap64 (b - 1)) n s).2 h2
      have hc : (bnd a n s).2 = 0 ∨ (bnd (wrap64 (b - 1)) n s).2 = 0 := .inr e2
      simp only [decide_eq_true h1, decide_eq_false h2, Bool.false_eq_true, if_true, if_false, if_pos hc]
      rfl
  · have e1 := (bnd_nought a n s).2 h1
    have hc : (bnd a n s).2 = 0 ∨ (bnd (wrap64 (b - 1)) n s).2 = 0 := .inl e1
    simp only [decide_eq_false h1, Bool.false_eq_true, if_false, if_pos hc]
    rfl
theorem bytes_ev (a b : Int) (c : Bool) (n s : Int) : Ev (fun k => spencelaw28_bytes.f k a b c n s) (bytesOfRun a b n s) := by
  unfold spencelaw28_bytes.f bytesOfRun
  by_cases h : a ≥ b
  · simp only [h, if_true]; exact Ev.now _
  · simp only [h, if_false]
    exact Ev.bind (ref_bounds_ev a n s) (Ev.bind (ref_bounds_ev _ n s) (Ev.now _))
end Go.Proofs.YtcnlmpjoghogbaaDoor.Pure
namespace Go.Proofs.YtcnlmpjoghogbaaDoor.Pure
open Go.RowKit Go.Proofs.YtcnlmpjoghogbaaDoor.Xw Go.Proofs.YtcnlmpjoghogbaaDoor.PAll Go.Proofs.YtcnlmpjoghogbaaDoorW.PrintWords Go.Proofs.YtcnlmpjoghogbaaDoorW.PrintLast Go.Proofs.YtcnlmpjoghogbaaDoorW.PrintMore
open Go.Proofs.YtcnlmpjoghogbaaDoor.Ag (hasF withF zeroF ofF srt splitAll splitStep has_of has_own splitAll_snoc splitAll_len all_of all_len lenF priceO costF)
theorem cov_mem' (l : List S53) (n s : Int) : ∀ (d : Nat) (i x : Int), x ∈ cov l n s d i → i ≤ x ∧ x < i + d
  | 0, _, _, h => by simp [cov] at h
  | d + 1, i, x, h => by
    rw [cov, List.mem_append] at h
    rcases h with h | h
    · split at h
      · simp only [List.mem_singleton] at h; omega
      · simp at h
    · have := cov_mem' l n s d (i + 1) x h
      omega
theorem slot_in' {n s i : Int} (h0 : 0 ≤ i) (h1 : i < cnt n s) : CR n s ∧ 0 ≤ i ∧ i * s < n := by
  have := bounds_eq i n s
  unfold cuts_Bounds.f at this
  rw [if_neg (by omega), count_eq, Option.bind_some, if_neg (by omega)] at this
  simp only [Option.some.injEq, Prod.mk.injEq] at this
  exact of_decide_eq_true this.2.2.symm
theorem parts_le (l : List RunS) (h : ∀ r ∈ l, 0 ≤ r.f0 ∧ r.f0 < r.f1 ∧ r.f1 ≤ 4097) : l.length ≤ (slicesOf l).length := by
  induction l with
  | nil => simp
  | cons r l ih =>
    have ih' := ih (fun q hq => h q (by simp [hq]))
    obtain ⟨b0, b1, b2⟩ := h r (by simp)
    have h1 := mx_eq r.f0 0
    have h2 := mn_eq r.f1 4097
    have e2 : slicesOf (r :: l) = rng (fromR r) (sizeR r) ++ slicesOf l := by simp [slicesOf]
    have e3 : 1 ≤ sizeR r := by unfold sizeR; show 1 ≤ (mn r.f1 4097 - mx r.f0 0).toNat; omega
    rw [e2, List.length_append, List.length_cons]
    have e4 : (rng (fromR r) (sizeR r)).length = sizeR r := by simp [rng]
    omega
theorem fetch_small (need m : List Int) : (fetchOf (ofF m) need).length ≤ 4160 := by
  have ok := fetch_ok need m
  refine Nat.le_trans (parts_le _ fun r hr => ?_) ?_
  · have := ok.parts r hr; omega
  · rw [ok.slices]
    exact Nat.le_trans (List.length_filter_le _ _) (srt_len need)
/-- the bytes of a run that is fetched, as a number -/
def priceR (n s : Int) (r : RunS) : Int := wrap64 ((bytesOfRun r.f0 r.f1 n s).2 - (bytesOfRun r.f0 r.f1 n s).1)
theorem price_eq (n s : Int) (r : RunS) (_ : 0 ≤ r.f0) (h1 : r.f0 < r.f1) (h2 : r.f1 ≤ 4097) (s1 : CR n s ∧ 0 ≤ r.f0 ∧ r.f0 * s < n) (s2 : CR n s ∧ 0 ≤ r.f1 - 1 ∧ (r.f1 - 1) * s < n) : priceO n s r = some (priceR n s r) := by
  have hw : wrap64 (r.f1 - 1) = r.f1 - 1 := wrap_id (by omega)
  have hby : bytesOfRun r.f0 r.f1 n s = ((bnd r.f0 n s).1, (bnd (r.f1 - 1) n s).2) := by
    unfold bytesOfRun
    rw [hw, if_neg (by omega), if_neg (fun hh => hh.elim (fun e => (bnd_nought _ _ _).1 e s1) (fun e => (bnd_nought _ _ _).1 e s2))]
  have p1 := bnd_pos r.f0 n s
  have p2 := bnd_pos (r.f1 - 1) n s
  have q1 := (bnd_in s1).1
  have q2 := (bnd_in s2).1
  have q3 := p2.2.2.1 s2
  have hmul : r.f0 * s ≤ (r.f1 - 1) * s := Int.mul_le_mul_of_nonneg_right (by omega) (by have := s1.1; unfold CR at this; omega)
  unfold priceO priceR
  rw [planBytes_eq, Option.map_some, hby]
  show some (lenF (bnd r.f0 n s).1 (bnd (r.f1 - 1) n s).2) = _
  unfold lenF
  rw [if_pos ⟨by omega, by omega, by omega⟩]
theorem ready_loop (n s : Int) (m need : List Int) (x14 x16 : List RunS) (F : Nat → Int) (y0 : List Int) (y1 y2 : List RunS) (z0 : List Int) (z1 z2 : List RunS) (hm : m.length ≤ 100000) (hl : need.length ≤ 100000) (res : Bool) (post : List Int) : ∀ (pre : List Int), need = pre ++ post →
    Ev (fun k => spencelaw28_PlanMakes.l0 k n s m need x14 x16 (need.all fun x => decide (x ∈ m)) need (need.length : Int) (need.length : Int) F y0 y1 y2 z0 z1 z2) res →
    Ev (fun k => spencelaw28_PlanMakes.l0 k n s m need x14 x16 (pre.all fun x => decide (x ∈ m)) need (need.length : Int) (pre.length : Int) F y0 y1 y2 z0 z1 z2) res := by
  induction post with
  | nil =>
    intro pre h hres
    rw [List.append_nil] at h
    subst h
    exact hres
  | cons x post ih =>
    intro pre h hres
    have hn := ih (pre ++ [x]) (by rw [h]; simp) hres
    have hlen : need.length = pre.length + (post.length + 1) := by rw [h]; simp
    have hr : rd need (pre.length : Int) = x := by
      rw [h]
      simp [rd]
    have e2 : (((pre ++ [x]).length : Nat) : Int) = wrap64 ((pre.length : Int) + 1) := by rw [wrap_id (by omega)]; simp
    rw [e2, List.all_append] at hn
    refine Ev.succ ?_
    simp only [spencelaw28_PlanMakes.l0]
    have c1 : (pre.length : Int) < (need.length : Int) := by omega
    have c2 : 0 ≤ (pre.length : Int) := by omega
    simp only [c1, c2, if_true]
    cases hp : pre.all fun x => decide (x ∈ m) with
    | true =>
      rw [hp] at hn
      simp only [if_true]
      rw [hr]
      refine Ev.bind (in_ev m x hm) ?_
      simpa using hn
    | false =>
      rw [hp] at hn
      simp only [Bool.false_eq_true, if_false]
      simpa using hn
theorem cost_loop (n s : Int) (need : List Int) (x14 x16 : List RunS) (x17 : Bool) (fetch : List RunS) (F : Nat → Int) (y0 : List Int) (y1 y2 : List RunS) (z0 : List Int) (z1 z2 : List RunS) (hl : fetch.length ≤ 100000) (res : Bool) (post : List RunS) : ∀ (pre : List RunS), fetch = pre ++ post →
    Ev (fun k => spencelaw28_PlanMakes.l1 k n s need x14 x16 x17 (costF (priceR n s) fetch) fetch fetch (fetch.length : Int) (fetch.length : Int) F y0 y1 y2 z0 z1 z2) res →
    Ev (fun k => spencelaw28_PlanMakes.l1 k n s need x14 x16 x17 (costF (priceR n s) pre) fetch fetch (fetch.length : Int) (pre.length : Int) F y0 y1 y2 z0 z1 z2) res := by
  induction post with
  | nil =>
    intro pre h hres
    rw [List.append_nil] at h
    subst h
    exact hres
  | cons x post ih =>
    intro pre h hres
    have hn := ih (pre ++ [x]) (by rw [h]; simp) hres
    have hlen : fetch.length = pre.length + (post.length + 1) := by rw [h]; simp
    have hr : rd_T50 fetch (pre.length : Int) = x := by rw [h]; exact rdR pre x post _ rfl
    have e2 : (((pre ++ [x]).length : Nat) : Int) = wrap64 ((pre.length : Int) + 1) := by rw [wrap_id (by omega)]; simp
    have e3 : costF (priceR n s) (pre ++ [x]) = wrap64 (costF (priceR n s) pre + priceR n s x) := by unfold costF; rw [List.foldl_append]; rfl
    rw [e2, e3] at hn
    refine Ev.succ ?_
    simp only [spencelaw28_PlanMakes.l1]
    have c1 : (pre.length : Int) < (fetch.length : Int) := by omega
    have c2 : 0 ≤ (pre.length : Int) := by omega
    simp only [c1, c2, if_true]
    rw [hr]
    exact Ev.bind (bytes_ev x.f0 x.f1 x.f2 n s) hn
theorem cost_all (n s : Int) (need : List Int) (x14 fetch : List RunS) (h : ∀ r ∈ fetch, priceO n s r = some (priceR n s r)) : plan_Cost.f need x14 fetch n s = some (costF (priceR n s) fetch) := by
  unfold plan_Cost.f
  rw [if_pos (List.all_eq_true.2 fun r hr => by rw [h r hr]; rfl)]
  congr 1
  unfold costF
  have : ∀ (l : List RunS) (a : Int), (∀ r ∈ l, priceO n s r = some (priceR n s r)) → l.foldl (fun a r => wrap64 (a + (priceO n s r).getD 0)) a = l.foldl (fun a r => wrap64 (a + priceR n s r)) a := by
    intro l
    induction l with
    | nil => intro a _; rfl
    | cons r l ih =>
      intro a hl
      rw [List.foldl_cons, List.foldl_cons, hl r (by simp)]
      exact ih _ fun q hq => hl q (by simp [hq])
  exact this fetch 0 h
theorem PlanMakes : spencelaw28_PlanMakes.Pure := by
  intro l n s m ah h1 _ _ _ h3 _ h4 _
  refine Ev.rounds (g := fun k => spencelaw28_PlanMakes.f k l n s m ah) ?_
  unfold spencelaw28_PlanMakes.f
  refine Ev.bind awake28 ?_
  simp only [if_true]
  have yes : Ev (fun k => spencelaw28_PlanMakes.j0 k l n s m ah true) true := Ev.pos fun k => by simp only [spencelaw28_PlanMakes.j0, if_true]
  by_cases g1 : (l.length : Int) > 20
  · simp only [g1, if_true]; exact yes
  simp only [g1, if_false]
  by_cases g2 : (m.length : Int) > 60
  · simp only [g2, if_true]; exact yes
  simp only [g2, if_false]
  by_cases g3 : (ah.length : Int) > 30
  · simp only [g3, decide_true]; exact yes
  simp only [g3, decide_false]
  refine Ev.succ ?_
  simp only [spencelaw28_PlanMakes.j0, Bool.false_eq_true, if_false]
  unfold bitmap_Of.f
  simp only [Option.bind_some]
  rw [show m.foldl withF zeroF = ofF m from rfl]
  have hcov := cover_ev l n s (by omega)
  have hrcov := ref_cover_ev l n s (by omega)
  have hc := cnt_bd2 n s
  have hin : ∀ x ∈ cov l n s (cnt n s).toNat 0, 0 ≤ x ∧ x < cnt n s := fun x hx => by have := cov_mem' l n s _ 0 x hx; omega
  have hnl := cov_length l n s (cnt n s).toNat 0
  generalize cov l n s (cnt n s).toNat 0 = need at hcov hrcov hin hnl
  refine Ev.bind (planOf_ev l n s (ofF m) need hcov) ?_
  dsimp only
  refine Ev.bind hrcov ?_
  refine Ev.bind (splitRef_ev need m (by omega) (by omega)) ?_
  have hspl := split_own need m
  have hsl := splitAll_len (hasF (ofF m)) (srt need)
  have hsn := srt_len need
  have hfs := fetch_small need m
  have hfs2 := fetch_small (need ++ ah) m
  have hfe := fetch_ev (need ++ ah) (ofF m)
  have hok := fetch_ok need m
  have hw : Ev (fun k => plan_With.f k need (splitAll (hasF (ofF m)) (srt need)) (fetchOf (ofF m) need) ah (ofF m)) (need, splitAll (hasF (ofF m)) (srt need), fetchOf (ofF m) (need ++ ah)) := by
    unfold plan_With.f
    simp only [show need.length + ah.length ≤ 1000000 ∧ (splitAll (hasF (ofF m)) (srt need)).length ≤ 1000000 from ⟨by omega, by omega⟩, and_self, if_true]
    exact Ev.bind hfe (Ev.now _)
  refine Ev.bind hw ?_
  dsimp only
  have l1 : ([] : List Int).length + need.length < 17592186044416 := by simp only [List.length_nil]; omega
  have l2 : ([] ++ need : List Int).length + ah.length < 17592186044416 := by simp only [List.nil_append]; omega
  simp only [l1, if_true, l2]
  refine Ev.bind (splitRef_ev ([] ++ need ++ ah) m (by simp only [List.nil_append, List.length_append]; omega) (by omega)) ?_
  rw [List.nil_append, ← hspl]
  have hspl2 := split_own (need ++ ah) m
  have hsl2 := splitAll_len (hasF (ofF m)) (srt (need ++ ah))
  have hsn2 := srt_len (need ++ ah)
  rw [← hspl2]
  have hf1 : fetchOf (ofF m) need = capOf 8 ((splitAll (hasF (ofF m)) (srt need)).filter fun r => !r.f2) := rfl
  have hf2 : fetchOf (ofF m) (need ++ ah) = capOf 8 ((splitAll (hasF (ofF m)) (srt (need ++ ah))).filter fun r => !r.f2) := rfl
  generalize splitAll (hasF (ofF m)) (srt need) = sp at hsl hf1
  generalize splitAll (hasF (ofF m)) (srt (need ++ ah)) = sp2 at hsl2 hf2
  generalize fetchOf (ofF m) (need ++ ah) = fetch2 at hfs2 hf2
  generalize fetchOf (ofF m) need = fetch at hfs hf1 hok
  have hff : (sp.filter fun r => !r.f2).length ≤ sp.length := List.length_filter_le _ _
  have hff2 : (sp2.filter fun r => !r.f2).length ≤ sp2.length := List.length_filter_le _ _
  have hslot : ∀ x ∈ need, CR n s ∧ 0 ≤ x ∧ x * s < n := fun x hx => slot_in' (hin x hx).1 (hin x hx).2
  have hpr : ∀ r ∈ fetch, priceO n s r = some (priceR n s r) := fun r hr => by
    obtain ⟨c1, c2, c3, c4, c5⟩ := hok.parts r hr
    have hneed : ∀ x, r.f0 ≤ x → x < r.f1 → x ∈ need := fun x a b => by
      have hx : x ∈ slicesOf fetch := by
        simp only [slicesOf, List.mem_flatMap]
        refine ⟨r, hr, (rng_mem _ _ _).2 ?_⟩
        have m1 := mx_eq r.f0 0
        have m2 := mn_eq r.f1 4097
        unfold sizeR
        show mx r.f0 0 ≤ x ∧ x < mx r.f0 0 + ((mn r.f1 4097 - mx r.f0 0).toNat : Int)
        omega
      rw [hok.slices, List.mem_filter] at hx
      exact ((srt_mem need x).1 hx.1).1
    exact price_eq n s r c2 c3 c4 (hslot _ (hneed r.f0 (by omega) c3)) (hslot _ (hneed (r.f1 - 1) (by omega) (by omega)))
  refine ready_loop n s m need sp sp2 (ofF m) need sp fetch need sp fetch2 (by omega) (by omega) true need [] (List.nil_append _).symm ?_
  refine Ev.succ ?_
  simp only [spencelaw28_PlanMakes.l0, Int.lt_irrefl, if_false]
  refine Ev.bind (missing_ev sp (by omega)) ?_
  refine Ev.bind (capRef_ev 8 8 (by decide) _ (by omega)) ?_
  rw [← hf1]
  refine cost_loop n s need sp sp2 (need.all fun x => decide (x ∈ m)) fetch (ofF m) need sp fetch need sp fetch2 (by omega) true fetch [] (List.nil_append _).symm ?_
  refine Ev.succ ?_
  simp only [spencelaw28_PlanMakes.l1, Int.lt_irrefl, if_false]
  refine Ev.bind (ints_ev need need (by omega)) ?_
  simp only [decide_true, if_true]
  refine Ev.bind (same_runs sp (by omega)) ?_
  simp only [if_true]
  refine Ev.bind (same_runs fetch (by omega)) ?_
  simp only [if_true]
  refine Ev.bind (missing_ev sp2 (by omega)) ?_
  refine Ev.bind (capRef_ev 8 8 (by decide) _ (by omega)) ?_
  rw [← hf2]
  refine Ev.bind (same_runs fetch2 (by omega)) ?_
  simp only [if_true]
  refine Ev.bind (ints_ev need need (by omega)) ?_
  simp only [decide_true, if_true]
  unfold plan_Ready.f plan_Steps.f
  rw [cost_all n s need sp fetch hpr]
  simp only [Option.bind_some]
  have hr : (!need.any fun x => !hasF (ofF m) x) = need.all fun x => decide (x ∈ m) := by
    rw [List.not_any_eq_all_not, Bool.eq_iff_iff, List.all_eq_true, List.all_eq_true]
    refine forall_congr' fun x => forall_congr' fun hx => ?_
    have := hin x hx
    rw [Bool.not_not, has_own, decide_eq_true (show 0 ≤ x ∧ x ≤ 4096 by omega), Bool.true_and]
  rw [hr]
  simp only [beq_self_eq_true, if_true]
  exact Ev.now _
end Go.Proofs.YtcnlmpjoghogbaaDoor.Pure
namespace Go.Proofs.YtcnlmpjoghogbaaDoor.planMakes
open Go.ChangeShapes Go.WideShapes Go.ChangeAt Go.RowKit Go.Proofs.YtcnlmpjoghogbaaDoor.Rd Go.Proofs.YtcnlmpjoghogbaaDoor.PAll Go.Proofs.YtcnlmpjoghogbaaDoorW.PrintWords
open Go.ChangeMaps (open_string shut_string)
set_option linter.unusedVariables false
theorem own : ownKnob Tryd.prog.godebug = none := by kernel_rfl
theorem laidOut : laidOutB Tryd.prog = true := by kernel_rfl
def ok53 (x : S53) : Prop := (Lit.int .i64 x.f0).wf = true ∧ (Lit.int .i64 x.f1).wf = true
theorem o53 : Opens Tryd.prog 53 k53 ok53 := opens_struct Tryd.underlying53 (opensF_cons (opens_int Tryd.underlying3) rfl (by kernel_rfl) rfl (opensF_one (opens_int Tryd.underlying3) rfl (by kernel_rfl))) (by kernel_rfl) (fun x : S53 => (x.f0, x.f1)) (fun p => ⟨p.1, p.2⟩) (fun _ => rfl)
set_option maxRecDepth 100000 in
set_option maxHeartbeats 4000000 in
theorem lifted (os : Os) (started : os.Started) (H : Type) (enc : TypeId × Value → H) :
    ReturnsInHanded {} Tryd.checked os 8 .any (fun w args => (Rows.planMakesSpec.pre enc Tryd.prog Tryd.f8 Rows.planMakesRow.domain false w args ∧ laidMetH Tryd.prog Rows.planMakesRow.laid w) ∧ sizedMet enc Tryd.prog Tryd.f8 (OpenSpec.ofChange Rows.planMakesSpec) false w args) (Rows.planMakesSpec.post enc Tryd.prog Tryd.f8 false true false false) := by
  refine returnsInHanded_of_change_and (C := Tryd.checked) (X := (fun w _ => laidMetH Tryd.prog Rows.planMakesRow.laid w)) (fun _ _ _ hh h => h.of_heap hh) own started (by kernel_rfl) Tryd.func8
    (ChangeSpec.witness_shaped (enc := enc) (C := Tryd.checked) (os := os) (X := (fun w _ => laidMetH Tryd.prog Rows.planMakesRow.laid w)) false (World.laidAll Tryd.prog os Rows.planMakesRow.laid) #[.slice none 0 0, .int .i64 0, .int .i64 0, .slice none 0 0, .slice none 0 0] 8 (World.laidAll_os _ _ _)
      (World.shaped_of_ZipB (by kernel_rfl) (by kernel_rfl)) (by kernel_rfl) (by kernel_rfl) (by kernel_rfl)
      (by rw [MakeChecks.laidMetH_plain _ _ _ (by kernel_rfl)]; exact laidMet_laidAll _ (by kernel_rfl) (by kernel_rfl))) ?_
  intro W base args ds gs before hval0 hW hcnd hsz0 hL_ _
  rw [MakeChecks.laidMetH_plain _ _ _ (by kernel_rfl)] at hL_
  have hT := Ag.tab_of_reads (Lib.laidMet.reads hL_ (.head _))
  have hsz : (DataW.weightsEach Tryd.prog (Tryd.f8.params.toList ++ Rows.planMakesSpec.plain.varTypes Tryd.prog) (ds ++ gs)).all (· ≤ reachBytes) = true := hsz0
  have hval : ∀ (j : Nat) t v, Tryd.f8.params[j]? = some t → args[j]? = some v → Value.okWide Tryd.prog W .any base t v := hval0
  have hW' := hW
  obtain ⟨p, q, hA0, hV, rfl, hfz, hnd⟩ := hW
  have hA : DataW.TrodAll enc Tryd.prog W 0 (fun _ => true) true Tryd.f8.params.toList args.toList ds p := hA0
  rw [Tryd.params8] at hA hval hsz
  obtain ⟨v0, vs0, d0, ds0, p0, q0, hargs, rfl, rfl, h0, r0⟩ := trodAll_cons hA
  obtain ⟨v1, vs1, d1, ds1, p1, q1, rfl, rfl, rfl, h1, r1⟩ := trodAll_cons r0
  obtain ⟨v2, vs2, d2, ds2, p2, q2, rfl, rfl, rfl, h2, r2⟩ := trodAll_cons r1
  obtain ⟨v3, vs3, d3, ds3, p3, q3, rfl, rfl, rfl, h3, r3⟩ := trodAll_cons r2
  obtain ⟨v4, vs4, d4, ds4, p4, q4, rfl, rfl, rfl, h4, r4⟩ := trodAll_cons r3
  obtain ⟨rfl, rfl, rfl⟩ := trodAll_nil r4
  obtain rfl : args = #[v0, v1, v2, v3, v4] := by cases args; simp_all
  obtain ⟨rfl, rfl⟩ := trodVars_none hV
  have k0 := h0
  have lt0 : ∀ x ∈ p0, x.block < W.heap.size := by obtain ⟨m, hm⟩ := k0; exact DataW.trod_lt m _ _ _ hm
  have k1 := h1
  have lt1 : ∀ x ∈ p1, x.block < W.heap.size := by obtain ⟨m, hm⟩ := k1; exact DataW.trod_lt m _ _ _ hm
  have k2 := h2
  have lt2 : ∀ x ∈ p2, x.block < W.heap.size := by obtain ⟨m, hm⟩ := k2; exact DataW.trod_lt m _ _ _ hm
  have k3 := h3
  have lt3 : ∀ x ∈ p3, x.block < W.heap.size := by obtain ⟨m, hm⟩ := k3; exact DataW.trod_lt m _ _ _ hm
  have k4 := h4
  have lt4 : ∀ x ∈ p4, x.block < W.heap.size := by obtain ⟨m, hm⟩ := k4; exact DataW.trod_lt m _ _ _ hm
  obtain ⟨A0, c0, l0, rfl, hc0, hC0, hok0, hb0⟩ := Rd.open_row Tryd.underlying58 o53 (by kernel_rfl) (hval 0 58 v0 rfl rfl) h0 hsz (j := 0) rfl rfl (B := 16) (by kernel_rfl)
  obtain ⟨a1, rfl, rfl, rfl, w1⟩ := open_int Tryd.underlying3 (hval 1 3 v1 rfl rfl) h1
  obtain ⟨a2, rfl, rfl, rfl, w2⟩ := open_int Tryd.underlying3 (hval 2 3 v2 rfl rfl) h2
  obtain ⟨A3, c3, l3, rfl, hc3, hC3, hok3, hb3⟩ := Rd.open_row Tryd.underlying22 (opens_int Tryd.underlying3) (by kernel_rfl) (hval 3 22 v3 rfl rfl) h3 hsz (j := 3) rfl rfl (B := 8) (by kernel_rfl)
  obtain ⟨A4, c4, l4, rfl, hc4, hC4, hok4, hb4⟩ := Rd.open_row Tryd.underlying22 (opens_int Tryd.underlying3) (by kernel_rfl) (hval 4 22 v4 rfl rfl) h4 hsz (j := 4) rfl rfl (B := 8) (by kernel_rfl)
  clear hA0 hval0 hsz0 hsz
  obtain ⟨k, hk⟩ := Pure.PlanMakes l0 a1 a2 l3 l4 hb0 hok0 w1 w2 hb3 hok3 hb4 hok4
  refine (PAll.spencelaw28_PlanMakes.calls k _ _ l0 a1 a2 _ _ l3 _ _ l4 true rfl W hC0 hc0 hC3 hc3 hC4 hc4 hT hk).mono fun e W' ⟨he, hd⟩ => ?_
  have bel : Below W.heap.size W W' := hd
  subst he
  exact ⟨_, rfl, _, _, _, [], _, [], hW', trodAll_mk1 (shut_bool Tryd.underlying4 _), (trodAll_cons_mk (Below.trod laidOut (by kernel_rfl) (of_decide_eq_true (by kernel_rfl)) k0 bel lt0) (trodAll_cons_mk (shut_int Tryd.underlying3 w1) (trodAll_cons_mk (shut_int Tryd.underlying3 w2) (trodAll_cons_mk (Below.trod laidOut (by kernel_rfl) (of_decide_eq_true (by kernel_rfl)) k3 bel lt3) (trodAll_cons_mk (Below.trod laidOut (by kernel_rfl) (of_decide_eq_true (by kernel_rfl)) k4 bel lt4) trodAll_mk0))))), rfl, bel.frame _, fun h => by cases h⟩
theorem over : Rows.planMakesRow.holds Tryd.pinned (OpenSpec.ofChange Rows.planMakesSpec) :=
  OpenClaim.holds_of_wide 8 Tryd.f8 rfl rfl rfl rfl rfl rfl rfl ⟨rfl, rfl, rfl, rfl, rfl⟩ rfl rfl rfl rfl rfl (by kernel_rfl) Tryd.func8 (by kernel_rfl)
    (of_decide_eq_true (by kernel_rfl)) (by unfold Func.isWrapper; first | (rw [if_pos (by decide +kernel)]; kernel_rfl) | (rw [if_neg (by decide +kernel)]; exact ⟨rfl, rfl⟩))
    (fun os started H enc _ => lifted os started H enc)
end Go.Proofs.YtcnlmpjoghogbaaDoor.planMakes
namespace Go.Proofs.YtcnlmpjoghogbaaDoor
theorem planMakes_row : Rows.PlanMakesSaid := planMakes.over
theorem planMakesCard_holds : Rows.PlanMakesCardSaid :=
  Claim7.holds_tied_plain_at .later [] [.data] true (true, "9efb238688faacc68744475846aa2837f64feee42efab19a35a16943659a881b") false planMakes_row (fun _ h => by cases h) (by kernel_rfl) (fun _ h => by cases h) planMakes_row_tie rfl ⟨rfl, rfl⟩ (by kernel_rfl) rfl
    (fun f fn hf hfn => by
      obtain rfl : f = 8 := Option.some.inj ((show Tryd.prog.funcNamed "spence/spencelaw28.PlanMakes" = some 8 by kernel_rfl).symm.trans hf) |>.symm
      obtain rfl : fn = Tryd.f8 := (Option.some.inj (Tryd.func8.symm.trans hfn)).symm
      exact ⟨by kernel_rfl, fun j t ht => by
        rw [Tryd.params8] at ht
        have hm : t ∈ [58, 3, 3, 22, 22] := by simpa using Array.mem_of_getElem? ht
        have hall : ([58, 3, 3, 22, 22].all fun u => !Tryd.prog.wantsStandIn u) = true := by kernel_rfl
        exact (show Tryd.prog.wantsStandIn t = false by simpa using List.all_eq_true.1 hall t hm)⟩)
    (by kernel_rfl)
#print axioms planMakesCard_holds
end Go.Proofs.YtcnlmpjoghogbaaDoor
