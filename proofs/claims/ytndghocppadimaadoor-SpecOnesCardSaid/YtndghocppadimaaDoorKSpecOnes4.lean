/- The law SpecOnes: for every input the call returns true, and each argument reads behind the call as it read before. No condition. (The row, and the plain law ahead of it.) -/
import Derived.Test.YtndghocppadimaaDoorKSpecOnes3
import Derived.Test.YtndghocppadimaaDoorKSpecOnes1
import Derived.Test.YtndghocppadimaaDoorKSpecOnes2
import Derived.Test.YtndghocppadimaaDoorRows
import Derived.Test.YtndghocppadimaaDoorCards
import Derived.Test.YtndghocppadimaaDoorTie
import Derived.LaidMore
import Derived.Lay
import Derived.SevenTiedAt
import Derived.Stop.Joined
import Derived.WalkKit
import Derived.ProofKit
import Derived.OpenShut
import Derived.ShutString
import Derived.ChangeOld
import Derived.Below
import Derived.SizedLaws
namespace Go.Proofs.YtndghocppadimaaDoor.Pure
open Go.RowKit Go.Proofs.YtndghocppadimaaDoor.Xw Go.Proofs.YtndghocppadimaaDoor.PAll Go.Proofs.YtndghocppadimaaDoorW.PrintWords Go.Proofs.YtndghocppadimaaDoorW.PrintLast Go.Proofs.YtndghocppadimaaDoorW.PrintMore
abbrev SpecS := S33
def mkS (v : Int × Int × Int × Int) : SpecS := ⟨v.1, v.2.1, v.2.2.1⟩
def specsR (out : List SpecS) (bad : Int) : List (List Int) → List SpecS × Int
  | [] => if bad = 0 then (if out.length > 16 then ([], 10) else (out, 0)) else ([], bad)
  | p :: r => specsR (out ++ [mkS (oneOf p)]) (worseS bad (oneOf p).2.2.2) r
def specsE : Option (List (List Int)) → List SpecS × Int
  | some (t :: ts) => specsR [] 0 (t :: ts)
  | _ => ([], 3)
def specsOf (l : List Int) : List SpecS × Int :=
  if (cutOf 61 (trim l)).2.2 = true then (if (cutOf 61 (trim l)).1.map lowI = [98, 121, 116, 101, 115] then specsE (lists2 true (piecesOf [] (cutOf 61 (trim l)).2.1)) else ([], 3)) else ([], 3)
theorem lists2_facts : ∀ (ps : List (List Int)) (first : Bool) (ts : List (List Int)), lists2 first ps = some ts → ts.length ≤ ps.length ∧ ∀ t ∈ ts, ∃ p ∈ ps, t = trim p := by
  intro ps
  induction ps with
  | nil => intro first ts h; rw [lists2_nil] at h; rw [← Option.some.inj h]; simp
  | cons p r ih =>
    intro first ts h
    rw [lists2_cons] at h
    split at h
    · split at h
      · cases h
      · obtain ⟨h1, h2⟩ := ih _ _ h
        exact ⟨by simp; omega, fun t ht => by obtain ⟨q, hq, e⟩ := h2 t ht; exact ⟨q, List.mem_cons_of_mem _ hq, e⟩⟩
    · split at h
      · cases h
      · split at h
        · cases h
        · cases hr : lists2 false r with
          | none => rw [hr] at h; cases h
          | some us =>
            rw [hr] at h
            obtain rfl := Option.some.inj h
            obtain ⟨h1, h2⟩ := ih _ _ hr
            refine ⟨by simp; omega, fun t ht => ?_⟩
            rcases List.mem_cons.1 ht with e | ht
            · exact ⟨p, List.mem_cons_self, e⟩
            · obtain ⟨q, hq, e⟩ := h2 t ht; exact ⟨q, List.mem_cons_of_mem _ hq, e⟩
theorem sparse_loop (ps : List (List Int)) (hp : ∀ p ∈ ps, ∀ b ∈ p, isB b) (hz : ∀ p ∈ ps, p.length ≤ 10000) (hl : ps.length ≤ 10001) (d : Nat) : ∀ (i : Int) (out : List SpecS) (bad : Int), 0 ≤ i → i ≤ ps.length → (ps.length : Int) - i = d → out.length = i.toNat →
    Ev (fun k => spec_Parse.l0 k (ps.map strOfNums) out bad (ps.map strOfNums) ps.length i) (specsR out bad (ps.drop i.toNat)) := by
  induction d with
  | zero =>
    intro i out bad h0 h1 hd ho
    refine Ev.pos (fun k => ?_)
    have : ps.drop i.toNat = [] := List.drop_of_length_le (by omega)
    simp only [spec_Parse.l0]
    rw [if_neg (by omega), this, specsR, List.length_map]
    by_cases hb : bad = 0
    · rw [if_pos hb, if_pos hb]
      by_cases h16 : out.length > 16
      · rw [if_pos (by omega), if_pos h16]
      · rw [if_neg (by omega), if_neg h16]
    · rw [if_neg hb, if_neg hb]
  | succ d ih =>
    intro i out bad h0 h1 hd ho
    have hi : i.toNat < ps.length := by omega
    have e1 : (i + 1).toNat = i.toNat + 1 := by omega
    have hrd : rdOf ByteArray.empty (ps.map strOfNums) i = strOfNums ps[i.toNat] := by simp [rdOf, hi]
    have hpB := hp ps[i.toNat] (List.getElem_mem hi)
    have hpz := hz ps[i.toNat] (List.getElem_mem hi)
    rw [List.drop_eq_getElem_cons hi, specsR]
    generalize ps[i.toNat] = p at hrd hpB hpz
    have hn := ih (i + 1) (out ++ [mkS (oneOf p)]) (worseS bad (oneOf p).2.2.2) (by omega) (by omega) (by omega) (by simp; omega)
    rw [e1] at hn
    refine Ev.succ ?_
    simp only [spec_Parse.l0, List.length_map, show i < (ps.length : Int) by omega, h0, if_true, hrd]
    refine Ev.bind (one_ev p hpB hpz) ?_
    refine Ev.bind (worse_ev _ _) ?_
    refine Ev.congr (fun k => ?_) hn
    rw [if_pos (by omega), wrap_id (by omega)]; rfl
theorem unit5 : (strOfNums ((bytesOf (⟨#[98, 121, 116, 101, 115]⟩ : ByteArray)).map lowI)) = strOfNums [98, 121, 116, 101, 115] := by decide
theorem low_isB5 {l : List Int} (h : ∀ b ∈ l, isB b) : ∀ b ∈ l.map lowI, isB b := by
  intro b hb; obtain ⟨x, hx, rfl⟩ := List.mem_map.1 hb; exact lowI_isB x (h x hx)
theorem facts5 (l : List Int) (h : ∀ b ∈ l, isB b) (hl : l.length ≤ 10000) :
    (∀ b ∈ trim l, isB b) ∧ (trim l).length ≤ 10000 ∧ ((cutOf 61 (trim l)).1.length ≤ 10000 ∧ (cutOf 61 (trim l)).2.1.length ≤ 10000) ∧ (∀ b ∈ (cutOf 61 (trim l)).1, isB b) ∧ (∀ b ∈ (cutOf 61 (trim l)).2.1, isB b) := by
  have ht : ∀ b ∈ trim l, isB b := fun b hb => h b (trim_mem hb)
  have hz := trim_len l
  have f := cut_facts5 61 (trim l) ht
  exact ⟨ht, by omega, ⟨by omega, by omega⟩, f.2.2.1, f.2.2.2⟩
theorem spec_parse_ev (s : ByteArray) (hs : s.size ≤ 10000) : Ev (fun k => spec_Parse.f k s) (specsOf (bytesOf s)) := by
  obtain ⟨f1, f2, ⟨f3, f4⟩, f5, f6⟩ := facts5 (bytesOf s) (bytesOf_isB s) (by rw [bytesOf_length]; exact hs)
  have q := cut_eq (strOfNums (trim (bytesOf s))) 61 (by unfold isB; omega) (by rw [size_str]; omega)
  rw [bytesOf_str _ f1] at q
  refine Ev.bind (trim_ev s (by omega)) ?_
  unfold specsOf
  simp only [q, Option.bind_some]
  generalize (cutOf 61 (trim (bytesOf s))).1 = c1 at f3 f5
  generalize (cutOf 61 (trim (bytesOf s))).2.1 = c2 at f4 f6
  generalize (cutOf 61 (trim (bytesOf s))).2.2 = c3
  have h1 := list_ev (strOfNums c2) (by rw [size_str]; omega)
  rw [size_str, bytesOf_str _ f6, lists_lists2 _ _ _ (by omega)] at h1
  refine Ev.bind h1 ?_
  have hB := piecesOf_isB c2 [] f6 (by simp)
  have hZ := piecesOf_size c2 []
  have hL := piecesOf_len c2 []
  simp only [List.length_nil] at hZ
  have no : ∀ l, Ev (fun k => spec_Parse.j0 k l true) (([] : List SpecS), (3 : Int)) := fun l => Ev.pos fun k => by simp only [spec_Parse.j0, if_true]
  cases c3
  · simp only [Bool.false_eq_true, if_false]; exact no _
  simp only [if_true]
  have hf := fold_eq (strOfNums c1) (⟨#[98, 121, 116, 101, 115]⟩ : ByteArray) (by rw [size_str]; omega) (by decide)
  rw [bytesOf_str _ f5, unit5, toList_beq, bytesOf_str _ (low_isB5 f5), bytesOf_str _ (by simp [isB])] at hf
  rw [hf]
  simp only [Option.bind_some]
  by_cases hu : c1.map lowI = [98, 121, 116, 101, 115]
  · simp only [hu, decide_true, if_true]
    cases hx : lists2 true (piecesOf [] c2) with
    | none => simp only [listEnd, Bool.false_eq_true, if_false]; exact no _
    | some ts =>
      obtain ⟨g1, g2⟩ := lists2_facts _ _ _ hx
      simp only [listEnd, if_true, List.nil_append]
      cases ts with
      | nil => exact no _
      | cons t ts =>
        have hp : ∀ p ∈ t :: ts, ∀ b ∈ p, isB b := fun p hp b hb => by obtain ⟨q, hq, e⟩ := g2 p hp; rw [e] at hb; exact hB q hq b (trim_mem hb)
        have hz : ∀ p ∈ t :: ts, p.length ≤ 10000 := fun p hp => by obtain ⟨q, hq, e⟩ := g2 p hp; have := hZ q hq; have := trim_len q; rw [e]; omega
        have := sparse_loop (t :: ts) hp hz (by omega) (t :: ts).length 0 [] 0 (by omega) (by omega) (by omega) rfl
        rw [Int.toNat_zero, List.drop_zero] at this
        refine Ev.step (fun k => ?_) this
        simp only [spec_Parse.j0, List.length_map]
        rw [if_neg (by simp; omega)]
  · simp only [hu, decide_false, Bool.false_eq_true, if_false]; exact no _
theorem awake05 : Ev (fun k => spencelaw05_awake.f k) true := by
  refine Ev.bind (spec_parse_ev _ (by decide)) ?_
  have e : specsOf (bytesOf (⟨#[98, 121, 116, 101, 115, 61, 48, 45, 52, 44, 32, 45, 53]⟩ : ByteArray)) = ([⟨2, 0, 4⟩, ⟨3, 5, 0⟩], 0) := by kernel_rfl
  rw [e]
  exact Ev.now _
end Go.Proofs.YtndghocppadimaaDoor.Pure
namespace Go.Proofs.YtndghocppadimaaDoor.Pure
open Go.RowKit Go.Proofs.YtndghocppadimaaDoor.Xw Go.Proofs.YtndghocppadimaaDoor.PAll Go.Proofs.YtndghocppadimaaDoorW.PrintWords Go.Proofs.YtndghocppadimaaDoorW.PrintLast Go.Proofs.YtndghocppadimaaDoorW.PrintMore
def InR (x : Int) : Prop := -9223372036854775808 ≤ x ∧ x ≤ 9223372036854775807
def shownI (x : SpecS) : List Int := if x.f0 = 1 then ptext x.f1 ++ [45] else if x.f0 = 2 then ptext x.f1 ++ [45] ++ ptext x.f2 else if x.f0 = 3 then [45] ++ ptext x.f1 else [63]
def specT (l : List SpecS) : List Int := [98, 121, 116, 101, 115, 61] ++ joinI [44] (l.map shownI)
theorem ptext_len21 (n : Int) (h : InR n) : (ptext n).length ≤ 21 := by
  unfold InR at h
  unfold ptext
  split
  · have := dig_len n.natAbs (by omega); simp; omega
  · have := dig_len n.toNat (by omega); omega
theorem shownI_len (x : SpecS) (h1 : InR x.f1) (h2 : InR x.f2) : (shownI x).length ≤ 43 := by
  have := ptext_len21 _ h1
  have := ptext_len21 _ h2
  unfold shownI
  split
  · simp; omega
  · split
    · simp; omega
    · split
      · simp; omega
      · simp
theorem shownI_isB (x : SpecS) : ∀ b ∈ shownI x, isB b := by
  intro b hb
  have p1 := ptext_isB x.f1
  have p2 := ptext_isB x.f2
  have d : isB 45 := by unfold isB; omega
  have q : isB 63 := by unfold isB; omega
  unfold shownI at hb
  split at hb
  · rcases List.mem_append.1 hb with h | h
    · exact p1 b h
    · rw [List.mem_singleton.1 h]; exact d
  · split at hb
    · rcases List.mem_append.1 hb with h | h
      · rcases List.mem_append.1 h with h | h
        · exact p1 b h
        · rw [List.mem_singleton.1 h]; exact d
      · exact p2 b h
    · split at hb
      · rcases List.mem_append.1 hb with h | h
        · rw [List.mem_singleton.1 h]; exact d
        · exact p1 b h
      · rw [List.mem_singleton.1 hb]; exact q
theorem dash5 : (⟨#[45]⟩ : ByteArray) = strOfNums [45] := by decide
theorem what5 : (⟨#[63]⟩ : ByteArray) = strOfNums [63] := by decide
theorem comma5 : (⟨#[44]⟩ : ByteArray) = strOfNums [44] := by decide
theorem head5 : (⟨#[98, 121, 116, 101, 115, 61]⟩ : ByteArray) = strOfNums [98, 121, 116, 101, 115, 61] := by decide
theorem shown_ev (x : SpecS) (h1 : InR x.f1) (h2 : InR x.f2) : Ev (fun k => spec_shown.f k x.f0 x.f1 x.f2) (strOfNums (shownI x)) := by
  have l1 := ptext_len21 _ h1
  have l2 := ptext_len21 _ h2
  unfold spec_shown.f shownI
  by_cases c1 : x.f0 = 1
  · simp only [c1, if_true]
    refine Ev.bind (print_ev _ h1) (Ev.all fun k => ?_)
    rw [size_str, if_pos (by omega), dash5, str_append]
  simp only [c1, if_false]
  by_cases c2 : x.f0 = 2
  · simp only [c2, if_true]
    refine Ev.bind (print_ev _ h1) ?_
    refine Ev.congr (fun k => if_pos (by rw [size_str]; omega)) ?_
    refine Ev.bind (print_ev _ h2) (Ev.all fun k => ?_)
    rw [size_str, size_str, if_pos (by omega), dash5, str_append, str_append]
  simp only [c2, if_false]
  by_cases c3 : x.f0 = 3
  · simp only [c3, if_true]
    refine Ev.bind (print_ev _ h1) (Ev.all fun k => ?_)
    rw [size_str, if_pos (by omega), dash5, str_append]
  simp only [c3, if_false]
  exact Ev.all fun k => by rw [what5]
theorem join_len5 : ∀ l : List SpecS, (∀ x ∈ l, InR x.f1 ∧ InR x.f2) → (joinI [44] (l.map shownI)).length ≤ 44 * l.length
  | [], _ => by simp [joinI]
  | [x], h => by have := shownI_len x (h x List.mem_cons_self).1 (h x List.mem_cons_self).2; simp [joinI]; omega
  | x :: y :: r, h => by
    have e : joinI [44] ((x :: y :: r).map shownI) = shownI x ++ [44] ++ joinI [44] ((y :: r).map shownI) := by simp [joinI]
    have ih := join_len5 (y :: r) (fun z hz => h z (List.mem_cons_of_mem _ hz))
    have := shownI_len x (h x List.mem_cons_self).1 (h x List.mem_cons_self).2
    rw [e, List.length_append, List.length_append]
    simp only [List.length_cons, List.length_nil] at *
    omega
theorem join_snoc5 (x : SpecS) : ∀ l : List SpecS, l ≠ [] → joinI [44] ((l ++ [x]).map shownI) = joinI [44] (l.map shownI) ++ [44] ++ shownI x
  | [], h => absurd rfl h
  | [y], _ => by simp [joinI]
  | y :: z :: r, _ => by
    have ih := join_snoc5 x (z :: r) (by simp)
    have e : joinI [44] ((y :: z :: r ++ [x]).map shownI) = shownI y ++ [44] ++ joinI [44] ((z :: r ++ [x]).map shownI) := by simp [joinI]
    have e2 : joinI [44] ((y :: z :: r).map shownI) = shownI y ++ [44] ++ joinI [44] ((z :: r).map shownI) := by simp [joinI]
    rw [e, ih, e2]; simp
theorem specT_len (l : List SpecS) (h : ∀ x ∈ l, InR x.f1 ∧ InR x.f2) : (specT l).length ≤ 6 + 44 * l.length := by
  have := join_len5 l h
  unfold specT
  simp only [List.length_append, List.length_cons, List.length_nil] at *
  omega
theorem sep5 : bytesOf (⟨#[44]⟩ : ByteArray) = [44] := rfl
theorem rd5 (l : List SpecS) (i : Int) (hi : i.toNat < l.length) : rd_T33 l i = l[i.toNat] := by
  unfold rd_T33
  rw [List.getD_eq_getElem?_getD, List.getElem?_eq_getElem hi]; rfl
theorem sprint_loop (l : List SpecS) (hw : ∀ x ∈ l, InR x.f1 ∧ InR x.f2) (hn : l.length ≤ 100) (d : Nat) : ∀ i : Int, 0 ≤ i → i ≤ l.length → (l.length : Int) - i = d →
    Ev (fun k => spec_Print.l0 k ((l.take i.toNat).map fun x => strOfNums (shownI x)) l l.length i) (strOfNums (specT l)) := by
  induction d with
  | zero =>
    intro i h0 h1 hd
    refine Ev.pos (fun k => ?_)
    simp only [spec_Print.l0]
    rw [if_neg (by omega), List.take_of_length_le (by omega)]
    unfold strings_Join.f
    have e : (l.map fun x => strOfNums (shownI x)).map bytesOf = l.map shownI := by
      rw [List.map_map]
      apply List.map_congr_left
      intro x _
      exact bytesOf_str _ (shownI_isB x)
    have hj := join_len5 l hw
    rw [List.length_map, e, sep5, if_pos (by omega), if_pos (by omega), Option.bind_some, size_str, if_pos (by omega), head5, str_append]; rfl
  | succ d ih =>
    intro i h0 h1 hd
    have hi : i.toNat < l.length := by omega
    have e1 : (i + 1).toNat = i.toNat + 1 := by omega
    have hrd := rd5 l i hi
    have hz := hw l[i.toNat] (List.getElem_mem hi)
    have hnx := ih (i + 1) (by omega) (by omega) (by omega)
    rw [e1, List.take_succ_eq_append_getElem hi, List.map_append, List.map_cons, List.map_nil] at hnx
    generalize l[i.toNat] = x at hrd hz hnx
    refine Ev.succ ?_
    simp only [spec_Print.l0, show i < (l.length : Int) by omega, h0, if_true, hrd]
    refine Ev.bind (shown_ev x hz.1 hz.2) ?_
    refine Ev.congr (fun k => ?_) hnx
    rw [if_pos (by rw [List.length_map, List.length_take]; omega), wrap_id (by omega)]
theorem sprint_ev (l : List SpecS) (hw : ∀ x ∈ l, InR x.f1 ∧ InR x.f2) (hn : l.length ≤ 100) : Ev (fun k => spec_Print.f k l) (strOfNums (specT l)) := by
  have := sprint_loop l hw hn l.length 0 (by omega) (by omega) (by omega)
  rwa [Int.toNat_zero, List.take_zero, List.map_nil] at this
theorem rj1 (l : List SpecS) (n i : Int) (x : SpecS) (t : List Int) (r : ByteArray) (ht : t.length ≤ 100000) (h1 : InR x.f1) (h2 : InR x.f2)
    (h : Ev (fun k => spenceref04_PrintSpecs.l0 k (strOfNums (t ++ shownI x)) l n (wrap64 (i + 1))) r) : Ev (fun k => spenceref04_PrintSpecs.j1 k (strOfNums t) l n i x.f0 x.f1 x.f2) r := by
  have l1 := ptext_len21 _ h1
  have l2 := ptext_len21 _ h2
  refine Ev.succ ?_
  simp only [spenceref04_PrintSpecs.j1]
  unfold shownI at h
  by_cases c1 : x.f0 = 1
  · simp only [c1, if_true] at h ⊢
    refine Ev.bind (ref_print_ev _ h1) ?_
    refine Ev.congr (fun k => ?_) h
    rw [size_str, size_str, if_pos (by omega), if_pos (by omega), dash5, str_append, str_append]
  simp only [c1, if_false] at h ⊢
  by_cases c2 : x.f0 = 2
  · simp only [c2, if_true] at h ⊢
    refine Ev.bind (ref_print_ev _ h1) ?_
    refine Ev.congr (fun k => if_pos (by rw [size_str]; omega)) ?_
    refine Ev.bind (ref_print_ev _ h2) ?_
    refine Ev.congr (fun k => ?_) h
    rw [size_str, size_str, size_str, if_pos (by omega), if_pos (by omega), dash5, str_append, str_append, str_append]
  simp only [c2, if_false] at h ⊢
  by_cases c3 : x.f0 = 3
  · simp only [c3, if_true] at h ⊢
    refine Ev.bind (ref_print_ev _ h1) ?_
    refine Ev.congr (fun k => ?_) h
    rw [size_str, size_str, if_pos (by omega), if_pos (by omega), dash5, str_append, str_append]
  simp only [c3, if_false] at h ⊢
  refine Ev.congr (fun k => ?_) h
  rw [size_str, if_pos (by omega), what5, str_append]
theorem rprint_loop (l : List SpecS) (hw : ∀ x ∈ l, InR x.f1 ∧ InR x.f2) (hn : l.length ≤ 100) (d : Nat) : ∀ i : Int, 0 ≤ i → i ≤ l.length → (l.length : Int) - i = d →
    Ev (fun k => spenceref04_PrintSpecs.l0 k (strOfNums (specT (l.take i.toNat))) l l.length i) (strOfNums (specT l)) := by
  induction d with
  | zero =>
    intro i h0 h1 hd
    refine Ev.pos (fun k => ?_)
    simp only [spenceref04_PrintSpecs.l0]
    rw [if_neg (by omega), List.take_of_length_le (by omega)]
  | succ d ih =>
    intro i h0 h1 hd
    have hi : i.toNat < l.length := by omega
    have e1 : (i + 1).toNat = i.toNat + 1 := by omega
    have hrd := rd5 l i hi
    have hz := hw l[i.toNat] (List.getElem_mem hi)
    have hnx := ih (i + 1) (by omega) (by omega) (by omega)
    have hsn := join_snoc5 l[i.toNat] (l.take i.toNat)
    have hlen := specT_len (l.take i.toNat) (fun x hx => hw x (List.mem_of_mem_take hx))
    rw [List.length_take] at hlen
    have hemp : i = 0 → l.take i.toNat = [] := fun e => by subst e; rfl
    have hne : i > 0 → l.take i.toNat ≠ [] := fun e h => by rw [List.take_eq_nil_iff] at h; rcases h with h | h; omega; rw [h] at hi; simp at hi
    rw [e1, List.take_succ_eq_append_getElem hi] at hnx
    generalize l[i.toNat] = x at hrd hz hnx hsn
    refine Ev.succ ?_
    simp only [spenceref04_PrintSpecs.l0, show i < (l.length : Int) by omega, h0, if_true, hrd]
    by_cases hp : i > 0
    · simp only [hp, if_true]
      refine Ev.congr (fun k => if_pos (by rw [size_str]; omega)) ?_
      simp only [comma5, str_append]
      refine rj1 l _ i x _ _ (by simp; omega) hz.1 hz.2 ?_
      rw [wrap_id (by omega)]
      have e : specT (l.take i.toNat ++ [x]) = specT (l.take i.toNat) ++ [44] ++ shownI x := by
        unfold specT; rw [hsn (hne hp)]; simp
      rw [e] at hnx; exact hnx
    · simp only [hp, if_false]
      refine rj1 l _ i x _ _ (by omega) hz.1 hz.2 ?_
      rw [wrap_id (by omega)]
      have h0' : i = 0 := by omega
      rw [hemp h0'] at hnx ⊢
      have e : specT ([] ++ [x]) = specT [] ++ shownI x := by simp [specT, joinI]
      rw [e] at hnx; exact hnx
theorem rprint_ev (l : List SpecS) (hw : ∀ x ∈ l, InR x.f1 ∧ InR x.f2) (hn : l.length ≤ 100) : Ev (fun k => spenceref04_PrintSpecs.f k l) (strOfNums (specT l)) := by
  have := rprint_loop l hw hn l.length 0 (by omega) (by omega) (by omega)
  rw [Int.toNat_zero, List.take_zero] at this
  refine Ev.congr (fun k => ?_) this
  unfold spenceref04_PrintSpecs.f
  rw [head5]; rfl
def rightP (a b c : Int) : Bool := decide ((a = 2 ∧ 0 ≤ b ∧ b ≤ c ∧ c ≤ 4611686018427387903) ∨ ((a = 1 ∨ a = 3) ∧ 0 ≤ b ∧ b ≤ 4611686018427387903 ∧ c = 0))
theorem fits5 (a lo hi : Int) : nums_Fits.f a lo hi = some (decide (lo ≤ a ∧ a ≤ hi)) := by
  unfold nums_Fits.f
  by_cases h : a ≥ lo
  · rw [if_pos h]; have : lo ≤ a := h
    simp [this]
  · rw [if_neg h]; have : ¬ lo ≤ a := h
    simp [this]
theorem spec_right_eq (a b c : Int) : spec_Right.f a b c = some (rightP a b c) := by
  unfold spec_Right.f rightP
  simp only [fits5, Option.bind_some]
  by_cases h2 : a = 2
  · subst h2
    by_cases h3 : b ≥ 0 <;> by_cases h4 : c ≥ b <;> simp [h3, h4] <;> omega
  by_cases h1 : a = 1
  · subst h1
    by_cases h3 : 0 ≤ b <;> by_cases h4 : b ≤ 4611686018427387903 <;> by_cases h5 : c = 0 <;> simp [h3, h4, h5]
  by_cases h3 : a = 3
  · subst h3
    by_cases h3 : 0 ≤ b <;> by_cases h4 : b ≤ 4611686018427387903 <;> by_cases h5 : c = 0 <;> simp [h3, h4, h5]
  simp [h1, h2, h3]
theorem ref_right_spec (a b c : Int) : Ev (fun k => spenceref04_RightSpec.f k a b c) (rightP a b c) := by
  refine Ev.pos (fun k => ?_)
  unfold spenceref04_RightSpec.f
  simp only [spenceref04_RightSpec.j0, if_true]
  unfold rightP
  by_cases h1 : b < 0
  · rw [if_pos h1]; congr 1; symm; rw [decide_eq_false_iff_not]; omega
  rw [if_neg h1]
  by_cases h2 : b > 4611686018427387903
  · rw [if_pos h2]; congr 1; symm; rw [decide_eq_false_iff_not]; omega
  rw [if_neg h2]
  by_cases h3 : c > 4611686018427387903
  · rw [decide_eq_true h3, if_pos rfl]; congr 1; symm; rw [decide_eq_false_iff_not]; omega
  rw [decide_eq_false h3, if_neg (by decide)]
  by_cases k2 : a = 2
  · rw [if_pos k2]; congr 1; rw [decide_eq_decide]; omega
  rw [if_neg k2]
  by_cases k1 : a = 1
  · rw [if_pos k1]; congr 1; show decide (c = 0) = _; rw [decide_eq_decide]; omega
  rw [if_neg k1]
  by_cases k3 : a = 3
  · rw [if_pos k3]; congr 1; show decide (c = 0) = _; rw [decide_eq_decide]; omega
  rw [if_neg k3]; congr 1; symm; rw [decide_eq_false_iff_not]; omega
end Go.Proofs.YtndghocppadimaaDoor.Pure
namespace Go.Proofs.YtndghocppadimaaDoor.Pure
open Go.RowKit Go.Proofs.YtndghocppadimaaDoor.Xw Go.Proofs.YtndghocppadimaaDoor.PAll Go.Proofs.YtndghocppadimaaDoorW.PrintWords Go.Proofs.YtndghocppadimaaDoorW.PrintLast Go.Proofs.YtndghocppadimaaDoorW.PrintMore
theorem SpecOnes : spencelaw05_SpecOnes.Pure := by
  intro s a b c l _ _ _ _ _ hl
  have hw : ∀ x ∈ l, InR x.f1 ∧ InR x.f2 := fun x hx => ⟨wf_bd (hl x hx).2.1, wf_bd (hl x hx).2.2⟩
  refine Ev.rounds (g := fun k => spencelaw05_SpecOnes.f k s a b c l) ?_
  refine Ev.bind awake05 ?_
  simp only [if_true]
  have yes : Ev (fun k => spencelaw05_SpecOnes.j0 k s l true a b c) true := Ev.pos fun k => by simp only [spencelaw05_SpecOnes.j0, if_true]
  by_cases c1 : (s.size : Int) > 200
  · simp only [c1, if_true]; exact yes
  simp only [c1, if_false]
  by_cases c2 : (l.length : Int) > 30
  · simp only [c2, decide_true]; exact yes
  simp only [c2, decide_false]
  have h1 := one_ev (bytesOf s) (bytesOf_isB s) (by rw [bytesOf_length]; omega)
  have h2 := ref_one_ev (bytesOf s) (bytesOf_isB s) (by rw [bytesOf_length]; omega)
  rw [str_bytes] at h1 h2
  refine Ev.succ ?_
  simp only [spencelaw05_SpecOnes.j0, Bool.false_eq_true, if_false]
  refine Ev.bind h1 ?_
  refine Ev.bind h2 ?_
  simp only [beq_self_eq_true, Bool.and_self, if_true, spec_right_eq, Option.bind_some]
  refine Ev.bind (ref_right_spec a b c) ?_
  simp only [beq_self_eq_true, if_true]
  refine Ev.bind (sprint_ev l hw (by omega)) ?_
  refine Ev.bind (rprint_ev l hw (by omega)) ?_
  simp only [beq_self_eq_true]
  exact Ev.now _
end Go.Proofs.YtndghocppadimaaDoor.Pure
namespace Go.Proofs.YtndghocppadimaaDoor.specOnes
open Go.ChangeShapes Go.WideShapes Go.ChangeAt Go.RowKit Go.Proofs.YtndghocppadimaaDoor.Rd Go.Proofs.YtndghocppadimaaDoor.PAll Go.Proofs.YtndghocppadimaaDoorW.PrintWords
open Go.ChangeMaps (open_string shut_string)
set_option linter.unusedVariables false
theorem own : ownKnob Tryd.prog.godebug = none := by kernel_rfl
theorem laidOut : laidOutB Tryd.prog = true := by kernel_rfl
def ok33 (x : S33) : Prop := (Lit.int .i64 x.f0).wf = true ∧ (Lit.int .i64 x.f1).wf = true ∧ (Lit.int .i64 x.f2).wf = true
theorem o33 : Opens Tryd.prog 33 k33 ok33 := opens_struct Tryd.underlying33 (opensF_cons (opens_int Tryd.underlying3) rfl (by kernel_rfl) rfl (opensF_cons (opens_int Tryd.underlying3) rfl (by kernel_rfl) rfl (opensF_one (opens_int Tryd.underlying3) rfl (by kernel_rfl)))) (by kernel_rfl) (fun x : S33 => (x.f0, x.f1, x.f2)) (fun p => ⟨p.1, p.2.1, p.2.2⟩) (fun _ => rfl)
set_option maxRecDepth 100000 in
set_option maxHeartbeats 4000000 in
theorem lifted (os : Os) (started : os.Started) (H : Type) (enc : TypeId × Value → H) :
    ReturnsInHanded {} Tryd.checked os 5 .any (fun w args => (Rows.specOnesSpec.pre enc Tryd.prog Tryd.f5 Rows.specOnesRow.domain false w args ∧ laidMetH Tryd.prog Rows.specOnesRow.laid w) ∧ sizedMet enc Tryd.prog Tryd.f5 (OpenSpec.ofChange Rows.specOnesSpec) false w args) (Rows.specOnesSpec.post enc Tryd.prog Tryd.f5 false true false false) := by
  refine returnsInHanded_of_change_and (C := Tryd.checked) (X := (fun w _ => laidMetH Tryd.prog Rows.specOnesRow.laid w)) (fun _ _ _ hh h => h.of_heap hh) own started (by kernel_rfl) Tryd.func5
    (ChangeSpec.witness_shaped (enc := enc) (C := Tryd.checked) (os := os) (X := (fun w _ => laidMetH Tryd.prog Rows.specOnesRow.laid w)) false (World.laidAll Tryd.prog os Rows.specOnesRow.laid) #[.string ByteArray.empty, .agg #[.int .i64 0, .int .i64 0, .int .i64 0], .slice none 0 0] 8 (World.laidAll_os _ _ _)
      (World.shaped_of_ZipB (by kernel_rfl) (by kernel_rfl)) (by kernel_rfl) (by kernel_rfl) (by kernel_rfl)
      (by rw [MakeChecks.laidMetH_plain _ _ _ (by kernel_rfl)]; exact laidMet_laidAll _ (by kernel_rfl) (by kernel_rfl))) ?_
  intro W base args ds gs before hval0 hW hcnd hsz0 _ _
  have hsz : (DataW.weightsEach Tryd.prog (Tryd.f5.params.toList ++ Rows.specOnesSpec.plain.varTypes Tryd.prog) (ds ++ gs)).all (· ≤ reachBytes) = true := hsz0
  have hval : ∀ (j : Nat) t v, Tryd.f5.params[j]? = some t → args[j]? = some v → Value.okWide Tryd.prog W .any base t v := hval0
  have hW' := hW
  obtain ⟨p, q, hA0, hV, rfl, hfz, hnd⟩ := hW
  have hA : DataW.TrodAll enc Tryd.prog W 0 (fun _ => true) true Tryd.f5.params.toList args.toList ds p := hA0
  rw [Tryd.params5] at hA hval hsz
  obtain ⟨v0, vs0, d0, ds0, p0, q0, hargs, rfl, rfl, h0, r0⟩ := trodAll_cons hA
  obtain ⟨v1, vs1, d1, ds1, p1, q1, rfl, rfl, rfl, h1, r1⟩ := trodAll_cons r0
  obtain ⟨v2, vs2, d2, ds2, p2, q2, rfl, rfl, rfl, h2, r2⟩ := trodAll_cons r1
  obtain ⟨rfl, rfl, rfl⟩ := trodAll_nil r2
  obtain rfl : args = #[v0, v1, v2] := by cases args; simp_all
  obtain ⟨rfl, rfl⟩ := trodVars_none hV
  have k0 := h0
  have lt0 : ∀ x ∈ p0, x.block < W.heap.size := by obtain ⟨m, hm⟩ := k0; exact DataW.trod_lt m _ _ _ hm
  have k1 := h1
  have lt1 : ∀ x ∈ p1, x.block < W.heap.size := by obtain ⟨m, hm⟩ := k1; exact DataW.trod_lt m _ _ _ hm
  have k2 := h2
  have lt2 : ∀ x ∈ p2, x.block < W.heap.size := by obtain ⟨m, hm⟩ := k2; exact DataW.trod_lt m _ _ _ hm
  obtain ⟨a0, rfl, rfl, rfl, y0⟩ := open_string Tryd.underlying9 (hval 0 9 v0 rfl rfl) h0
  have w0 : a0.size ≤ 140737488351232 := by
    have z := sized_string hsz (j := 0) (t := 9) rfl rfl
    rw [Array.length_toList] at z
    exact z
  obtain ⟨L1, x1, rfl, hK1, hok1⟩ := open_agg Tryd.underlying33 o33 (hval 1 33 v1 rfl rfl) h1
  obtain rfl := k33_open hK1
  obtain ⟨A2, c2, l2, rfl, hc2, hC2, hok2, hb2⟩ := Rd.open_row Tryd.underlying23 o33 (by kernel_rfl) (hval 2 23 v2 rfl rfl) h2 hsz (j := 2) rfl rfl (B := 24) (by kernel_rfl)
  clear hA0 hval0 hsz0 hsz
  obtain ⟨k, hk⟩ := Pure.SpecOnes a0 x1.f0 x1.f1 x1.f2 l2 w0 (hok1.1) (hok1.2.1) (hok1.2.2) hb2 hok2
  refine (PAll.spencelaw05_SpecOnes.calls k a0 x1.f0 x1.f1 x1.f2 _ _ l2 true W hC2 hc2 hk).mono fun e W' ⟨he, hd⟩ => ?_
  have bel : Below W.heap.size W W' := hd
  subst he
  exact ⟨_, rfl, _, _, _, [], _, [], hW', trodAll_mk1 (shut_bool Tryd.underlying4 _), (trodAll_cons_mk (shut_string Tryd.underlying9 y0) (trodAll_cons_mk (Below.trod laidOut (by kernel_rfl) (of_decide_eq_true (by kernel_rfl)) k1 bel lt1) (trodAll_cons_mk (Below.trod laidOut (by kernel_rfl) (of_decide_eq_true (by kernel_rfl)) k2 bel lt2) trodAll_mk0))), rfl, bel.frame _, fun h => by cases h⟩
theorem over : Rows.specOnesRow.holds Tryd.pinned (OpenSpec.ofChange Rows.specOnesSpec) :=
  OpenClaim.holds_of_wide 5 Tryd.f5 rfl rfl rfl rfl rfl rfl rfl ⟨rfl, rfl, rfl, rfl, rfl⟩ rfl rfl rfl rfl rfl (by kernel_rfl) Tryd.func5 (by kernel_rfl)
    (of_decide_eq_true (by kernel_rfl)) (by unfold Func.isWrapper; first | (rw [if_pos (by decide +kernel)]; kernel_rfl) | (rw [if_neg (by decide +kernel)]; exact ⟨rfl, rfl⟩))
    (fun os started H enc _ => lifted os started H enc)
end Go.Proofs.YtndghocppadimaaDoor.specOnes
namespace Go.Proofs.YtndghocppadimaaDoor
theorem specOnes_row : Rows.SpecOnesSaid := specOnes.over
theorem specOnesCard_holds : Rows.SpecOnesCardSaid :=
  Claim7.holds_tied_plain_at .later [] [.data, .pinned] true (true, "4e3150b384d01644c5bede7423f0e901dc19b9dbc2b06a40fda422c2da5e56e4") false specOnes_row (fun _ h => by cases h) (by kernel_rfl) (fun _ h => by cases h) specOnes_row_tie rfl ⟨rfl, rfl⟩ (by kernel_rfl) rfl
    (fun f fn hf hfn => by
      obtain rfl : f = 5 := Option.some.inj ((show Tryd.prog.funcNamed "spence/spencelaw05.SpecOnes" = some 5 by kernel_rfl).symm.trans hf) |>.symm
      obtain rfl : fn = Tryd.f5 := (Option.some.inj (Tryd.func5.symm.trans hfn)).symm
      exact ⟨by kernel_rfl, fun j t ht => by
        rw [Tryd.params5] at ht
        have hm : t ∈ [9, 33, 23] := by simpa using Array.mem_of_getElem? ht
        have hall : ([9, 33, 23].all fun u => !Tryd.prog.wantsStandIn u) = true := by kernel_rfl
        exact (show Tryd.prog.wantsStandIn t = false by simpa using List.all_eq_true.1 hall t hm)⟩)
    (by kernel_rfl)
#print axioms specOnesCard_holds
end Go.Proofs.YtndghocppadimaaDoor
