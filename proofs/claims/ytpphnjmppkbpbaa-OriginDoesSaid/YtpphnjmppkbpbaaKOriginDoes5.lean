/- What the law OriginDoes leans on (part 6 of 7): Go functions as plain functions, that the code comes to them, and what these answer. -/
import Derived.Test.YtpphnjmppkbpbaaKOriginDoes1
import Derived.Test.YtpphnjmppkbpbaaKOriginDoes2
import Derived.Test.YtpphnjmppkbpbaaKOriginDoes4
import Derived.Lib.Bytealg
import Derived.Test.YtpphnjmppkbpbaaKOriginDoes3
import Derived.Test.YtpphnjmppkbpbaaProg
import Derived.WalkMore
import Derived.Laws.Cover1
import Derived.Laws.StandIn
import Derived.LoopTactic
import Derived.Lib.Hide
import Derived.Below
import Derived.Tactics
import Derived.WalkKit
import Derived.KernelRfl
import Derived.Laws.Rows
import Derived.Laws.IdiomCopy
import Derived.Laws.CopyOwn
import Derived.Deep.LoopGhost
import Derived.Deep.MidRow
import Derived.Deep.RegionHeld3
import Derived.Deep.DrawnRows
import Derived.Lib.SliceRun
import Derived.Shelf.Abstract
namespace Go.Proofs.Ytpphnjmppkbpbaa.PAll
open Go.RowKit Go.Proofs.Ytpphnjmppkbpbaa.Xw Go.Proofs.YtpphnjmppkbpbaaW.PrintWords Go.Proofs.YtpphnjmppkbpbaaW.PrintLast Go.Proofs.YtpphnjmppkbpbaaW.PrintMore
attribute [local go_sem] max2_int min2_int max_two min_two max_three min_three max_four min_four
set_option linter.unusedVariables false
set_option linter.unusedSimpArgs false
mutual
def spenceref24_Reply.j0 : Nat → Int → ByteArray → Int → Bool → Int → Bool → ByteArray → Int → Int → Option (Int × ByteArray × Int × ByteArray × List Int)
  | 0, _, _, _, _, _, _, _, _, _ => none
  | k + 1, x1, x5, x6, x33, x195000, x195001, x195002, x195003, x195004 => if x33 = true then (some (304, x5, 0, (⟨#[]⟩ : ByteArray), ([] : List Int))) else (if x195001 = true then (some (200, x5, x6, (⟨#[]⟩ : ByteArray), ([] : List Int))) else (if x195002.toList = x5.toList then ((spenceref04_Right.f x195003 x195004).bind fun t198 => (if t198 = true then (spenceref24_Reply.j1 k x1 x5 x6 (decide (x195004 > x6)) x195000 x195001 x195002 x195003 x195004) else (spenceref24_Reply.j1 k x1 x5 x6 true x195000 x195001 x195002 x195003 x195004))) else (some (412, x5, 0, (⟨#[]⟩ : ByteArray), ([] : List Int)))))
def spenceref24_Reply.j1 : Nat → Int → ByteArray → Int → Bool → Int → Bool → ByteArray → Int → Int → Option (Int × ByteArray × Int × ByteArray × List Int)
  | 0, _, _, _, _, _, _, _, _, _ => none
  | k + 1, x1, x5, x6, x57, x195000, x195001, x195002, x195003, x195004 => if x57 = true then ((r1Prt.f k x6).bind fun t199 => (if 8 + t199.size ≤ 9223372036854775807 then (some (416, x5, 0, (⟨#[98, 121, 116, 101, 115, 32, 42, 47]⟩ : ByteArray) ++ t199, ([] : List Int))) else (none))) else ((r4PC.f k true x195003 x195004 x6).bind fun t200 => ((spenceref24_Body.f k x195000 x1 x195003 x195004).bind fun t201 => (some (206, x5, x6, t200, t201))))
end
def spenceref24_Reply.f (k : Nat) (a0_0 : Int) (a0_1 : Bool) (a0_2 : ByteArray) (a0_3 : Int) (a0_4 : Int) (a1 : Int) : Option (Int × ByteArray × Int × ByteArray × List Int) := (spenceref24_Tag.f k a0_0 a1).bind fun t196 => ((spenceref24_Length.f a0_0 a1).bind fun t197 => (if t197 < 0 then (some (404, (⟨#[]⟩ : ByteArray), 0, (⟨#[]⟩ : ByteArray), ([] : List Int))) else (if a0_1 = true then (spenceref24_Reply.j0 k a1 t196 t197 (a0_2.toList == t196.toList) a0_0 a0_1 a0_2 a0_3 a0_4) else (spenceref24_Reply.j0 k a1 t196 t197 false a0_0 a0_1 a0_2 a0_3 a0_4))))
theorem spenceref24_Reply.mono_l : ∀ k, (∀ y0 y1 y2 y3 y4 y5 y6 y7 y8, LeO (spenceref24_Reply.j0 k y0 y1 y2 y3 y4 y5 y6 y7 y8) (spenceref24_Reply.j0 (k + 1) y0 y1 y2 y3 y4 y5 y6 y7 y8)) ∧ (∀ y0 y1 y2 y3 y4 y5 y6 y7 y8, LeO (spenceref24_Reply.j1 k y0 y1 y2 y3 y4 y5 y6 y7 y8) (spenceref24_Reply.j1 (k + 1) y0 y1 y2 y3 y4 y5 y6 y7 y8))
  | 0 => ⟨fun _ _ _ _ _ _ _ _ _ r h => by simp [spenceref24_Reply.j0] at h, fun _ _ _ _ _ _ _ _ _ r h => by simp [spenceref24_Reply.j1] at h⟩
  | k + 1 => by
    obtain ⟨ih0, ih1⟩ := spenceref24_Reply.mono_l k
    refine ⟨?_, ?_⟩
    · intro y0 y1 y2 y3 y4 y5 y6 y7 y8
      unfold spenceref24_Reply.j0
      repeat' first
      | (with_reducible exact ih0 _ _ _ _ _ _ _ _ _)
      | (with_reducible exact ih1 _ _ _ _ _ _ _ _ _)
      | (with_reducible exact r1Prt.mono _ _)
      | (with_reducible exact r4PC.mono _ _ _ _ _)
      | (with_reducible exact spenceref24_Body.mono _ _ _ _ _)
      | (with_reducible exact spenceref24_Tag.mono _ _ _)
      | (with_reducible exact LeO.refl _)
      | (with_reducible exact LeO.none _)
      | (with_reducible refine LeO.ite ?_ ?_)
      | (with_reducible refine LeO.bind ?_ (fun _ => ?_))
      | exact ih0 _ _ _ _ _ _ _ _ _
      | exact ih1 _ _ _ _ _ _ _ _ _
      | exact r1Prt.mono _ _
      | exact r4PC.mono _ _ _ _ _
      | exact spenceref24_Body.mono _ _ _ _ _
      | exact spenceref24_Tag.mono _ _ _
      | exact LeO.none _
      | refine LeO.ite ?_ ?_
      | refine LeO.bind ?_ (fun _ => ?_)
    · intro y0 y1 y2 y3 y4 y5 y6 y7 y8
      unfold spenceref24_Reply.j1
      repeat' first
      | (with_reducible exact ih0 _ _ _ _ _ _ _ _ _)
      | (with_reducible exact ih1 _ _ _ _ _ _ _ _ _)
      | (with_reducible exact r1Prt.mono _ _)
      | (with_reducible exact r4PC.mono _ _ _ _ _)
      | (with_reducible exact spenceref24_Body.mono _ _ _ _ _)
      | (with_reducible exact spenceref24_Tag.mono _ _ _)
      | (with_reducible exact LeO.refl _)
      | (with_reducible exact LeO.none _)
      | (with_reducible refine LeO.ite ?_ ?_)
      | (with_reducible refine LeO.bind ?_ (fun _ => ?_))
      | exact ih0 _ _ _ _ _ _ _ _ _
      | exact ih1 _ _ _ _ _ _ _ _ _
      | exact r1Prt.mono _ _
      | exact r4PC.mono _ _ _ _ _
      | exact spenceref24_Body.mono _ _ _ _ _
      | exact spenceref24_Tag.mono _ _ _
      | exact LeO.none _
      | refine LeO.ite ?_ ?_
      | refine LeO.bind ?_ (fun _ => ?_)
theorem spenceref24_Reply.mono : ∀ a0 a1 a2 a3 a4 a5 k, LeO (spenceref24_Reply.f k a0 a1 a2 a3 a4 a5) (spenceref24_Reply.f (k + 1) a0 a1 a2 a3 a4 a5) := by
  intro a0 a1 a2 a3 a4 a5 k
  obtain ⟨ih0, ih1⟩ := spenceref24_Reply.mono_l k
  unfold spenceref24_Reply.f
  repeat' first
      | (with_reducible exact ih0 _ _ _ _ _ _ _ _ _)
      | (with_reducible exact ih1 _ _ _ _ _ _ _ _ _)
      | (with_reducible exact r1Prt.mono _ _)
      | (with_reducible exact r4PC.mono _ _ _ _ _)
      | (with_reducible exact spenceref24_Body.mono _ _ _ _ _)
      | (with_reducible exact spenceref24_Tag.mono _ _ _)
      | (with_reducible exact LeO.refl _)
      | (with_reducible exact LeO.none _)
      | (with_reducible refine LeO.ite ?_ ?_)
      | (with_reducible refine LeO.bind ?_ (fun _ => ?_))
      | exact ih0 _ _ _ _ _ _ _ _ _
      | exact ih1 _ _ _ _ _ _ _ _ _
      | exact r1Prt.mono _ _
      | exact r4PC.mono _ _ _ _ _
      | exact spenceref24_Body.mono _ _ _ _ _
      | exact spenceref24_Tag.mono _ _ _
      | exact LeO.none _
      | refine LeO.ite ?_ ?_
      | refine LeO.bind ?_ (fun _ => ?_)
def spenceref24_Reply.T1 : Bool × List (List Nat × List Nat) := (true, [([], []), ([0], [0]), ([], []), ([1, 2], [1, 2]), ([], []), ([4], [4]), ([], []), ([5, 6, 3], [5, 6]), ([3, 7, 0, 1, 2, 3], [3]), ([7, 8, 0, 1, 2, 3, 4, 5, 6, 7, 8], [7])])
def spenceref24_Reply.B1 : List Nat := [0, 1, 0, 7, 0, 16, 0, 127, 255, 511]
theorem spenceref24_Reply.tab1 : rtab .any (opsOf Try.f9 1) = spenceref24_Reply.T1 := by kernel_rfl
theorem spenceref24_Reply.bits1 : waitsOk spenceref24_Reply.T1.2 spenceref24_Reply.B1 = true := by kernel_rfl
def spenceref24_Reply.T2 : Bool × List (List Nat × List Nat) := (true, [([], []), ([], []), ([], []), ([2], [2]), ([], []), ([3, 4], [3, 4]), ([5], [5]), ([], []), ([7], [7]), ([], []), ([], []), ([10], [10]), ([8, 9, 11, 6], [8, 9, 11]), ([0, 1, 6, 12], [0, 1, 6, 12]), ([13, 12, 0, 1, 2, 3, 4, 5, 6, 7, 8, 9, 10, 11, 12, 13], [13])])
def spenceref24_Reply.B2 : List Nat := [0, 0, 0, 4, 0, 28, 60, 0, 128, 0, 0, 1024, 4092, 8191, 16383]
theorem spenceref24_Reply.tab2 : rtab .any (opsOf Try.f9 2) = spenceref24_Reply.T2 := by kernel_rfl
theorem spenceref24_Reply.bits2 : waitsOk spenceref24_Reply.T2.2 spenceref24_Reply.B2 = true := by kernel_rfl
set_option maxHeartbeats 8000000 in
set_option maxRecDepth 100000 in
theorem spenceref24_Reply.calls (k : Nat) (a0_0 : Int) (a0_1 : Bool) (a0_2 : ByteArray) (a0_3 : Int) (a0_4 : Int) (a1 : Int) (r1 : Int) (r2 : ByteArray) (r3 : Int) (r4 : ByteArray) (r5 : List Int) (w : World) (h : spenceref24_Reply.f k a0_0 a0_1 a0_2 a0_3 a0_4 a1 = some (r1, r2, r3, r4, r5)) :
    Calls Try.prog 9 #[.agg #[.int .i64 a0_0, .bool a0_1, .string a0_2, .int .i64 a0_3, .int .i64 a0_4], .int .i64 a1] w fun e w' => ∃ v4_ : Value, e = .returned (.agg #[.int .i64 r1, .string r2, .int .i64 r3, .string r4, v4_]) ∧ Kd.R (Kd.int .u8) 5 w' w.heap.size (fun _ => True) v4_ r5 ∧ Below w.heap.size w w' := by
  have hu32 := Try.underlying32
  have hu40 := Try.underlying40
  have hu30 := Try.underlying30
  have hu59 := Try.underlying59
  have HB := AsZ.mk (Below.refl w.heap.size w)
  have H : ((spenceref24_Tag.f k a0_0 a1).bind fun t196 => ((spenceref24_Length.f a0_0 a1).bind fun t197 => (if t197 < 0 then (some (404, (⟨#[]⟩ : ByteArray), 0, (⟨#[]⟩ : ByteArray), ([] : List Int))) else (if a0_1 = true then (spenceref24_Reply.j0 k a1 t196 t197 (a0_2.toList == t196.toList) a0_0 a0_1 a0_2 a0_3 a0_4) else (spenceref24_Reply.j0 k a1 t196 t197 false a0_0 a0_1 a0_2 a0_3 a0_4))))) = some (r1, r2, r3, r4, r5) := h
  clear h
  replace H := Option.bind_eq_some_iff.mp H
  obtain ⟨t196, A30, H⟩ := H
  replace H : ((spenceref24_Length.f a0_0 a1).bind fun t197 => (if t197 < 0 then (some (404, (⟨#[]⟩ : ByteArray), 0, (⟨#[]⟩ : ByteArray), ([] : List Int))) else (if a0_1 = true then (spenceref24_Reply.j0 k a1 t196 t197 (a0_2.toList == t196.toList) a0_0 a0_1 a0_2 a0_3 a0_4) else (spenceref24_Reply.j0 k a1 t196 t197 false a0_0 a0_1 a0_2 a0_3 a0_4)))) = some (r1, r2, r3, r4, r5) := H
  have A3 := AsZ.mk A30
  clear A30
  replace H := Option.bind_eq_some_iff.mp H
  obtain ⟨t197, A40, H⟩ := H
  replace H : (if t197 < 0 then (some (404, (⟨#[]⟩ : ByteArray), 0, (⟨#[]⟩ : ByteArray), ([] : List Int))) else (if a0_1 = true then (spenceref24_Reply.j0 k a1 t196 t197 (a0_2.toList == t196.toList) a0_0 a0_1 a0_2 a0_3 a0_4) else (spenceref24_Reply.j0 k a1 t196 t197 false a0_0 a0_1 a0_2 a0_3 a0_4))) = some (r1, r2, r3, r4, r5) := H
  have A4 := AsZ.mk A40
  clear A40
  by_cases c5 : t197 < 0
  · rw [if_pos c5] at H
    have c5b0 : decide (t197 < 0) = true := decide_eq_true c5
    clear c5
    simp only [Option.some.injEq, Prod.mk.injEq] at H
    obtain ⟨rfl, rfl, rfl, rfl, rfl⟩ := H
    go_enter Try.func9, Try.ntmps9
    try go_wp2_with (first | ((with_reducible refine gDs (N := 2) rfl ?_); refine bEv ?hg (N := 2) ?hd (cs := #[.int .i64 a0_0, .bool a0_1, .string a0_2, .int .i64 a0_3, .int .i64 a0_4]) (t := 32) ?hr ?_; (case hd => rfl); (case hg => rfl); (case hr => first | (go_simp; done) | (go_simp; rfl)); intro gb194 hg w6 hbox hb; have n0_ := AsZ.mk (tBl (by repeat (first | (with_reducible first | exact HB.out | apply aBl | apply pBd | apply dBl) | exact HB.out)) hb); have n1_ := AsZ.mk (hbox); have n2_ := AsZ.mk ((by rw [hg]; exact (zBl (by repeat (first | (with_reducible first | exact HB.out | apply aBl | apply pBd | apply dBl) | exact HB.out))) : w.heap.size ≤ gb194)); have n3_ := AsZ.mk ((by rw [hg]; exact (zBl (by repeat (first | (with_reducible first | exact HB.out | apply aBl | apply pBd | apply dBl) | exact HB.out))) : w.heap.size ≤ gb194)); clear HB; have HB := n0_; have BK194 := n1_; have GW194 := n2_; have GE194 := n3_; clear n0_ n1_ n2_ n3_; clear hb hbox hg) | ((with_reducible refine gDs (N := 4) rfl ?_); refine bEv ?hg (N := 4) ?hd (cs := #[.int .i64 0, .string (⟨#[]⟩ : ByteArray), .int .i64 0, .string (⟨#[]⟩ : ByteArray), .slice none 0 0]) (t := 40) ?hr ?_; (case hd => rfl); (case hg => rfl); (case hr => first | (go_simp; done) | (go_simp; rfl)); intro gb195 hg w7 hbox hb; have n0_ := AsZ.mk (bBl (g := gb194) (o := .cells #[.int .i64 a0_0, .bool a0_1, .string a0_2, .int .i64 a0_3, .int .i64 a0_4] 32 (0, 0)) (by (with_reducible repeat first | apply bDn | apply bDr | apply bAl); exact BK194.out) hb); have n1_ := AsZ.mk (tBl (by repeat (first | (with_reducible first | exact HB.out | apply aBl | apply pBd | apply dBl | refine sBl ?_ GE194.out) | exact HB.out)) hb); have n2_ := AsZ.mk (hbox); have n3_ := AsZ.mk ((by rw [hg]; exact (zBl (by repeat (first | (with_reducible first | exact HB.out | apply aBl | apply pBd | apply dBl | refine sBl ?_ GE194.out) | exact HB.out))) : w.heap.size ≤ gb195)); have n4_ := AsZ.mk ((by rw [hg]; exact (zBl (by repeat (first | (with_reducible first | exact HB.out | apply aBl | apply pBd | apply dBl | refine sBl ?_ GE194.out) | exact HB.out))) : w.heap.size ≤ gb195)); have n5_ := AsZ.mk ((by rw [hg]; exact Nat.ne_of_lt (bLt (g := gb194) (o := .cells #[.int .i64 a0_0, .bool a0_1, .string a0_2, .int .i64 a0_3, .int .i64 a0_4] 32 (0, 0)) (by (with_reducible repeat first | apply bDn | apply bDr | apply bAl); exact BK194.out)) : gb194 ≠ gb195)); have n6_ := AsZ.mk ((by rw [hg]; exact Nat.ne_of_gt (bLt (g := gb194) (o := .cells #[.int .i64 a0_0, .bool a0_1, .string a0_2, .int .i64 a0_3, .int .i64 a0_4] 32 (0, 0)) (by (with_reducible repeat first | apply bDn | apply bDr | apply bAl); exact BK194.out)) : gb195 ≠ gb194)); clear BK194; clear HB; have BK194 := n0_; have HB := n1_; have BK195 := n2_; have GW195 := n3_; have GE195 := n4_; have NB194_195 := n5_; have NB195_194 := n6_; clear n0_ n1_ n2_ n3_ n4_ n5_ n6_; clear hb hbox hg))
    have n0_ := AsZ.mk (bDr BK194.out)
    have n1_ := AsZ.mk (bDr BK195.out)
    have n2_ := AsZ.mk (dBl HB.out)
    clear BK194
    clear BK195
    clear HB
    have BK194 := n0_
    have BK195 := n1_
    have HB := n2_
    clear n0_ n1_ n2_
    refine start_ (n := 10) (S := fun w' => w'.cell? ⟨gb194, 0, none⟩ = some (.int .i64 a0_0) ∧ w'.cell? ⟨gb194, 1, none⟩ = some (.bool a0_1) ∧ w'.cell? ⟨gb194, 2, none⟩ = some (.string a0_2) ∧ w'.cell? ⟨gb194, 3, none⟩ = some (.int .i64 a0_3) ∧ w'.cell? ⟨gb194, 4, none⟩ = some (.int .i64 a0_4)) (ds := []) #[false, false, false, false, false, false, false, false, false, false] (by kernel_rfl) rfl rfl ⟨(bCe BK194.out 0).trans rfl, (bCe BK194.out 1).trans rfl, (bCe BK194.out 2).trans rfl, (bCe BK194.out 3).trans rfl, (bCe BK194.out 4).trans rfl⟩ (fun hHeld => ?_); refine with_tabW spenceref24_Reply.tab1 spenceref24_Reply.bits1 (fun HT_ HW_ => ?_)
    generalize w7.drew = w8 at BK194 BK195 HB hHeld ⊢
    refine pure_ (i := 0) (N := some 7) (v := ?_) (a' := ?_) #[true, false, false, false, false, false, false, false, false, false] rfl rfl (any_of HT_.out (by kernel_rfl)) (fun _ _ _ h => h) (Or.inl ⟨by rfl, ?_⟩) ?_ ?_
    rotate_left
    · intro w'
      go_simp
      with_reducible rfl
    rotate_left
    · simp only [Act.put, lsA, lsB, lsC, i64_w, i32_w]
      rfl
    refine pure_ (i := 2) (N := some 9) (v := ?_) (a' := ?_) #[true, false, true, false, false, false, false, false, false, false] rfl rfl (any_of HT_.out (by kernel_rfl)) (fun _ _ _ h => h) (Or.inl ⟨by rfl, ?_⟩) ?_ ?_
    rotate_left
    · intro w'
      go_simp
      with_reducible rfl
    rotate_left
    · simp only [Act.put, lsA, lsB, lsC, i64_w, i32_w]
      rfl
    refine pure_ (i := 4) (N := some 11) (v := ?_) (a' := ?_) #[true, false, true, false, true, false, false, false, false, false] rfl rfl (any_of HT_.out (by kernel_rfl)) (fun _ _ _ h => h) (Or.inl ⟨by rfl, ?_⟩) ?_ ?_
    rotate_left
    · intro w'
      go_simp
      with_reducible rfl
    rotate_left
    · simp only [Act.put, lsA, lsB, lsC, i64_w, i32_w]
      rfl
    refine pure_ (i := 6) (N := some 13) (v := ?_) (a' := ?_) #[true, false, true, false, true, false, true, false, false, false] rfl rfl (any_of HT_.out (by kernel_rfl)) (fun _ _ _ h => h) (Or.inl ⟨by rfl, ?_⟩) ?_ ?_
    rotate_left
    · intro w'
      go_simp
      with_reducible rfl
    rotate_left
    · simp only [Act.put, lsA, lsB, lsC, i64_w, i32_w]
      rfl
    refine take_ (i := 1) (N := some 8) (v := ?_) (a' := ?_) #[true, true, true, false, true, false, true, false, false, false] rfl rfl (take_ofW HT_.out HW_.out (by kernel_rfl)) (fun _ _ _ h => h) (Or.inl ⟨by rfl, ?_⟩) hHeld ?_ ?_
    rotate_left
    · rintro w' ⟨s0, s1, s2, s3, s4⟩
      go_simp
      with_reducible rfl
    rotate_left
    · simp only [Act.put, lsA, lsB, lsC, i64_w, i32_w]
      rfl
    refine take_ (i := 5) (N := some 12) (v := ?_) (a' := ?_) #[true, true, true, false, true, true, true, false, false, false] rfl rfl (take_ofW HT_.out HW_.out (by kernel_rfl)) (fun _ _ _ h => h) (Or.inl ⟨by rfl, ?_⟩) hHeld ?_ ?_
    rotate_left
    · rintro w' ⟨s0, s1, s2, s3, s4⟩
      go_simp
      with_reducible rfl
    rotate_left
    · simp only [Act.put, lsA, lsB, lsC, i64_w, i32_w]
      rfl
    refine one_ (i := 3) (N := some 10) #[true, true, true, true, true, true, true, false, false, false] rfl rfl (one_of HT_.out (by kernel_rfl)) (by decide) (fun K hK => ?_)
    refine goes_ Try.func18 (by kernel_rfl) rfl #[.int .i64 a0_0, .int .i64 a1] (by rfl) rfl rfl (by (try simp only [lsD, lsE, lsF]); first | done | rfl | (simp only [lsG, lsH]; rfl)) ?_
    with_reducible refine (spenceref24_Tag.calls k a0_0 a1 t196 _ A3.out).mono ?_
    rintro e w9 ⟨rfl, hb⟩
    refine ⟨_, rfl, ?_⟩
    have n0_ := AsZ.mk (bBl (g := gb194) (o := .cells #[.int .i64 a0_0, .bool a0_1, .string a0_2, .int .i64 a0_3, .int .i64 a0_4] 32 (0, 0)) (by (with_reducible repeat first | apply bDn | apply bDr | apply bAl); exact BK194.out) hb)
    have n1_ := AsZ.mk (bBl (g := gb195) (o := .cells #[.int .i64 0, .string (⟨#[]⟩ : ByteArray), .int .i64 0, .string (⟨#[]⟩ : ByteArray), .slice none 0 0] 40 (0, 0)) (by (with_reducible repeat first | apply bDn | apply bDr | apply bAl); exact BK195.out) hb)
    have n2_ := AsZ.mk (tBl (by repeat (first | (with_reducible first | exact HB.out | apply aBl | apply pBd | apply dBl | refine sBl ?_ GE194.out | refine sBl ?_ GE195.out) | exact HB.out)) hb)
    clear BK194
    clear BK195
    clear HB
    have BK194 := n0_
    have BK195 := n1_
    have HB := n2_
    clear n0_ n1_ n2_
    (try clear hb)
    (try clear hb2)
    (try clear hk)
    (try clear hi)
    refine hK.out _ _ ⟨(bCe BK194.out 0).trans rfl, (bCe BK194.out 1).trans rfl, (bCe BK194.out 2).trans rfl, (bCe BK194.out 3).trans rfl, (bCe BK194.out 4).trans rfl⟩ (fun hHeld => ?_)
    clear hK K
    refine norm_ (a' := ?_) ?_ ?_
    rotate_left
    · show Act.put _ (some 10) _ = _
      simp only [Act.put, lsA, lsB, lsC, i64_w, i32_w]
      rfl
    refine one_ (i := 7) (N := some 14) #[true, true, true, true, true, true, true, true, false, false] rfl rfl (one_of HT_.out (by kernel_rfl)) (by decide) (fun K hK => ?_)
    refine goes_ Try.func19 (by kernel_rfl) rfl #[.int .i64 a0_0, .int .i64 a1] (by rfl) rfl rfl (by (try simp only [lsD, lsE, lsF]); first | done | rfl | (simp only [lsG, lsH]; rfl)) ?_
    with_reducible refine (spenceref24_Length.calls a0_0 a1 t197 _ A4.out).mono ?_
    rintro e w' ⟨rfl, ⟨nd, rfl⟩⟩
    refine ⟨_, rfl, ?_⟩
    refine hK.out _ _ ⟨(bCe BK194.out 0).trans rfl, (bCe BK194.out 1).trans rfl, (bCe BK194.out 2).trans rfl, (bCe BK194.out 3).trans rfl, (bCe BK194.out 4).trans rfl⟩ (fun hHeld => ?_)
    clear hK K
    refine norm_ (a' := ?_) ?_ ?_
    rotate_left
    · show Act.put _ (some 14) _ = _
      simp only [Act.put, lsA, lsB, lsC, i64_w, i32_w]
      rfl
    refine pure_ (i := 8) (N := some 5) (v := ?_) (a' := ?_) #[true, true, true, true, true, true, true, true, true, false] rfl rfl (any_of HT_.out (by kernel_rfl)) (fun _ _ _ h => h) (Or.inl ⟨by rfl, ?_⟩) ?_ ?_
    rotate_left
    · intro w'
      go_simp
      with_reducible rfl
    rotate_left
    · simp only [Act.put, lsA, lsB, lsC, i64_w, i32_w]
      rfl
    refine pure_ (i := 9) (N := some 6) (v := ?_) (a' := ?_) #[true, true, true, true, true, true, true, true, true, true] rfl rfl (any_of HT_.out (by kernel_rfl)) (fun _ _ _ h => h) (Or.inl ⟨by rfl, ?_⟩) ?_ ?_
    rotate_left
    · intro w'
      go_simp
      with_reducible rfl
    rotate_left
    · simp only [Act.put, lsA, lsB, lsC, i64_w, i32_w]
      rfl
    refine done_ (done_of HT_.out (by kernel_rfl)) ?_
    have hnb10 := NB195_194.out
    have hnc10 := NB194_195.out
    obtain ⟨hcz11_0, hcz11_1, hcz11_2, hcz11_3, hcz11_4⟩ := celN5 BK195.out
    obtain ⟨hfz11_0, hfz11_1, hfz11_2, hfz11_3, hfz11_4⟩ := fzN5 BK195.out
    try go_wp2
    refine bodyPost_ret (results_cell_row rfl _ _ gb195 40 #[.int .i64 404, .string (⟨#[]⟩ : ByteArray), .int .i64 0, .string (⟨#[]⟩ : ByteArray), .slice none 0 0] (0, 0) _ rfl (by (with_reducible repeat first | apply bDn | apply bDr | apply bAl); refine bPu (cs := #[.int .i64 404, .string (⟨#[]⟩ : ByteArray), .int .i64 0, .string (⟨#[]⟩ : ByteArray), .slice none 0 0]) ?_ 4 _ rfl; (with_reducible repeat first | apply bDn | apply bDr | apply bAl); refine bPu (cs := #[.int .i64 404, .string (⟨#[]⟩ : ByteArray), .int .i64 0, .string (⟨#[]⟩ : ByteArray), .slice none 0 0]) ?_ 3 _ rfl; (with_reducible repeat first | apply bDn | apply bDr | apply bAl); refine bPu (cs := #[.int .i64 404, .string (⟨#[]⟩ : ByteArray), .int .i64 0, .string (⟨#[]⟩ : ByteArray), .slice none 0 0]) ?_ 2 _ rfl; (with_reducible repeat first | apply bDn | apply bDr | apply bAl); refine bPu (cs := #[.int .i64 404, .string (⟨#[]⟩ : ByteArray), .int .i64 0, .string (⟨#[]⟩ : ByteArray), .slice none 0 0]) ?_ 1 _ rfl; (with_reducible repeat first | apply bDn | apply bDr | apply bAl); refine bPu (cs := #[.int .i64 0, .string (⟨#[]⟩ : ByteArray), .int .i64 0, .string (⟨#[]⟩ : ByteArray), .slice none 0 0]) ?_ 0 _ rfl; (with_reducible repeat first | apply bDn | apply bDr | apply bAl); exact BK195.out) Try.underlying40 rfl (by kernel_rfl)) rfl ?_
    exact ⟨_, by first | rfl | (simp [eWn, eWs] <;> rfl) | (simp [*, eWn, eWs] <;> rfl), by first | exact Kd.R_nil _ _ _ _ _ | exact Kd.N_nil _ _ _ _ _ | exact Kd.V_nil _ _ _ _ _ | exact Kd.Q_nil _ _ _ _ _ | exact Kd.S_nil _ _ _ _ _, by repeat (first | (with_reducible first | exact HB.out | apply aBl | apply pBd | apply dBl | refine sBl ?_ GE194.out | refine sBl ?_ GE195.out) | exact HB.out)⟩
  · rw [if_neg c5] at H
    have c5b0 : decide (t197 < 0) = false := decide_eq_false c5
    clear c5
    have HC12 := AsZ.mk H
    clear H
    go_enter Try.func9, Try.ntmps9
    try go_wp2_with (first | ((with_reducible refine gDs (N := 2) rfl ?_); refine bEv ?hg (N := 2) ?hd (cs := #[.int .i64 a0_0, .bool a0_1, .string a0_2, .int .i64 a0_3, .int .i64 a0_4]) (t := 32) ?hr ?_; (case hd => rfl); (case hg => rfl); (case hr => first | (go_simp; done) | (go_simp; rfl)); intro gb194 hg w13 hbox hb; have n0_ := AsZ.mk (tBl (by repeat (first | (with_reducible first | exact HB.out | apply aBl | apply pBd | apply dBl) | exact HB.out)) hb); have n1_ := AsZ.mk (hbox); have n2_ := AsZ.mk ((by rw [hg]; exact (zBl (by repeat (first | (with_reducible first | exact HB.out | apply aBl | apply pBd | apply dBl) | exact HB.out))) : w.heap.size ≤ gb194)); have n3_ := AsZ.mk ((by rw [hg]; exact (zBl (by repeat (first | (with_reducible first | exact HB.out | apply aBl | apply pBd | apply dBl) | exact HB.out))) : w.heap.size ≤ gb194)); clear HB; have HB := n0_; have BK194 := n1_; have GW194 := n2_; have GE194 := n3_; clear n0_ n1_ n2_ n3_; clear hb hbox hg) | ((with_reducible refine gDs (N := 4) rfl ?_); refine bEv ?hg (N := 4) ?hd (cs := #[.int .i64 0, .string (⟨#[]⟩ : ByteArray), .int .i64 0, .string (⟨#[]⟩ : ByteArray), .slice none 0 0]) (t := 40) ?hr ?_; (case hd => rfl); (case hg => rfl); (case hr => first | (go_simp; done) | (go_simp; rfl)); intro gb195 hg w14 hbox hb; have n0_ := AsZ.mk (bBl (g := gb194) (o := .cells #[.int .i64 a0_0, .bool a0_1, .string a0_2, .int .i64 a0_3, .int .i64 a0_4] 32 (0, 0)) (by (with_reducible repeat first | apply bDn | apply bDr | apply bAl); exact BK194.out) hb); have n1_ := AsZ.mk (tBl (by repeat (first | (with_reducible first | exact HB.out | apply aBl | apply pBd | apply dBl | refine sBl ?_ GE194.out) | exact HB.out)) hb); have n2_ := AsZ.mk (hbox); have n3_ := AsZ.mk ((by rw [hg]; exact (zBl (by repeat (first | (with_reducible first | exact HB.out | apply aBl | apply pBd | apply dBl | refine sBl ?_ GE194.out) | exact HB.out))) : w.heap.size ≤ gb195)); have n4_ := AsZ.mk ((by rw [hg]; exact (zBl (by repeat (first | (with_reducible first | exact HB.out | apply aBl | apply pBd | apply dBl | refine sBl ?_ GE194.out) | exact HB.out))) : w.heap.size ≤ gb195)); have n5_ := AsZ.mk ((by rw [hg]; exact Nat.ne_of_lt (bLt (g := gb194) (o := .cells #[.int .i64 a0_0, .bool a0_1, .string a0_2, .int .i64 a0_3, .int .i64 a0_4] 32 (0, 0)) (by (with_reducible repeat first | apply bDn | apply bDr | apply bAl); exact BK194.out)) : gb194 ≠ gb195)); have n6_ := AsZ.mk ((by rw [hg]; exact Nat.ne_of_gt (bLt (g := gb194) (o := .cells #[.int .i64 a0_0, .bool a0_1, .string a0_2, .int .i64 a0_3, .int .i64 a0_4] 32 (0, 0)) (by (with_reducible repeat first | apply bDn | apply bDr | apply bAl); exact BK194.out)) : gb195 ≠ gb194)); clear BK194; clear HB; have BK194 := n0_; have HB := n1_; have BK195 := n2_; have GW195 := n3_; have GE195 := n4_; have NB194_195 := n5_; have NB195_194 := n6_; clear n0_ n1_ n2_ n3_ n4_ n5_ n6_; clear hb hbox hg))
    have n0_ := AsZ.mk (bDr BK194.out)
    have n1_ := AsZ.mk (bDr BK195.out)
    have n2_ := AsZ.mk (dBl HB.out)
    clear BK194
    clear BK195
    clear HB
    have BK194 := n0_
    have BK195 := n1_
    have HB := n2_
    clear n0_ n1_ n2_
    refine start_ (n := 10) (S := fun w' => w'.cell? ⟨gb194, 0, none⟩ = some (.int .i64 a0_0) ∧ w'.cell? ⟨gb194, 1, none⟩ = some (.bool a0_1) ∧ w'.cell? ⟨gb194, 2, none⟩ = some (.string a0_2) ∧ w'.cell? ⟨gb194, 3, none⟩ = some (.int .i64 a0_3) ∧ w'.cell? ⟨gb194, 4, none⟩ = some (.int .i64 a0_4)) (ds := []) #[false, false, false, false, false, false, false, false, false, false] (by kernel_rfl) rfl rfl ⟨(bCe BK194.out 0).trans rfl, (bCe BK194.out 1).trans rfl, (bCe BK194.out 2).trans rfl, (bCe BK194.out 3).trans rfl, (bCe BK194.out 4).trans rfl⟩ (fun hHeld => ?_); refine with_tabW spenceref24_Reply.tab1 spenceref24_Reply.bits1 (fun HT_ HW_ => ?_)
    generalize w14.drew = w15 at BK194 BK195 HB hHeld ⊢
    refine pure_ (i := 0) (N := some 7) (v := ?_) (a' := ?_) #[true, false, false, false, false, false, false, false, false, false] rfl rfl (any_of HT_.out (by kernel_rfl)) (fun _ _ _ h => h) (Or.inl ⟨by rfl, ?_⟩) ?_ ?_
    rotate_left
    · intro w'
      go_simp
      with_reducible rfl
    rotate_left
    · simp only [Act.put, lsA, lsB, lsC, i64_w, i32_w]
      rfl
    refine pure_ (i := 2) (N := some 9) (v := ?_) (a' := ?_) #[true, false, true, false, false, false, false, false, false, false] rfl rfl (any_of HT_.out (by kernel_rfl)) (fun _ _ _ h => h) (Or.inl ⟨by rfl, ?_⟩) ?_ ?_
    rotate_left
    · intro w'
      go_simp
      with_reducible rfl
    rotate_left
    · simp only [Act.put, lsA, lsB, lsC, i64_w, i32_w]
      rfl
    refine pure_ (i := 4) (N := some 11) (v := ?_) (a' := ?_) #[true, false, true, false, true, false, false, false, false, false] rfl rfl (any_of HT_.out (by kernel_rfl)) (fun _ _ _ h => h) (Or.inl ⟨by rfl, ?_⟩) ?_ ?_
    rotate_left
    · intro w'
      go_simp
      with_reducible rfl
    rotate_left
    · simp only [Act.put, lsA, lsB, lsC, i64_w, i32_w]
      rfl
    refine pure_ (i := 6) (N := some 13) (v := ?_) (a' := ?_) #[true, false, true, false, true, false, true, false, false, false] rfl rfl (any_of HT_.out (by kernel_rfl)) (fun _ _ _ h => h) (Or.inl ⟨by rfl, ?_⟩) ?_ ?_
    rotate_left
    · intro w'
      go_simp
      with_reducible rfl
    rotate_left
    · simp only [Act.put, lsA, lsB, lsC, i64_w, i32_w]
      rfl
    refine take_ (i := 1) (N := some 8) (v := ?_) (a' := ?_) #[true, true, true, false, true, false, true, false, false, false] rfl rfl (take_ofW HT_.out HW_.out (by kernel_rfl)) (fun _ _ _ h => h) (Or.inl ⟨by rfl, ?_⟩) hHeld ?_ ?_
    rotate_left
    · rintro w' ⟨s0, s1, s2, s3, s4⟩
      go_simp
      with_reducible rfl
    rotate_left
    · simp only [Act.put, lsA, lsB, lsC, i64_w, i32_w]
      rfl
    refine take_ (i := 5) (N := some 12) (v := ?_) (a' := ?_) #[true, true, true, false, true, true, true, false, false, false] rfl rfl (take_ofW HT_.out HW_.out (by kernel_rfl)) (fun _ _ _ h => h) (Or.inl ⟨by rfl, ?_⟩) hHeld ?_ ?_
    rotate_left
    · rintro w' ⟨s0, s1, s2, s3, s4⟩
      go_simp
      with_reducible rfl
    rotate_left
    · simp only [Act.put, lsA, lsB, lsC, i64_w, i32_w]
      rfl
    refine one_ (i := 3) (N := some 10) #[true, true, true, true, true, true, true, false, false, false] rfl rfl (one_of HT_.out (by kernel_rfl)) (by decide) (fun K hK => ?_)
    refine goes_ Try.func18 (by kernel_rfl) rfl #[.int .i64 a0_0, .int .i64 a1] (by rfl) rfl rfl (by (try simp only [lsD, lsE, lsF]); first | done | rfl | (simp only [lsG, lsH]; rfl)) ?_
    with_reducible refine (spenceref24_Tag.calls k a0_0 a1 t196 _ A3.out).mono ?_
    rintro e w16 ⟨rfl, hb⟩
    refine ⟨_, rfl, ?_⟩
    have n0_ := AsZ.mk (bBl (g := gb194) (o := .cells #[.int .i64 a0_0, .bool a0_1, .string a0_2, .int .i64 a0_3, .int .i64 a0_4] 32 (0, 0)) (by (with_reducible repeat first | apply bDn | apply bDr | apply bAl); exact BK194.out) hb)
    have n1_ := AsZ.mk (bBl (g := gb195) (o := .cells #[.int .i64 0, .string (⟨#[]⟩ : ByteArray), .int .i64 0, .string (⟨#[]⟩ : ByteArray), .slice none 0 0] 40 (0, 0)) (by (with_reducible repeat first | apply bDn | apply bDr | apply bAl); exact BK195.out) hb)
    have n2_ := AsZ.mk (tBl (by repeat (first | (with_reducible first | exact HB.out | apply aBl | apply pBd | apply dBl | refine sBl ?_ GE194.out | refine sBl ?_ GE195.out) | exact HB.out)) hb)
    clear BK194
    clear BK195
    clear HB
    have BK194 := n0_
    have BK195 := n1_
    have HB := n2_
    clear n0_ n1_ n2_
    (try clear hb)
    (try clear hb2)
    (try clear hk)
    (try clear hi)
    refine hK.out _ _ ⟨(bCe BK194.out 0).trans rfl, (bCe BK194.out 1).trans rfl, (bCe BK194.out 2).trans rfl, (bCe BK194.out 3).trans rfl, (bCe BK194.out 4).trans rfl⟩ (fun hHeld => ?_)
    clear hK K
    refine norm_ (a' := ?_) ?_ ?_
    rotate_left
    · show Act.put _ (some 10) _ = _
      simp only [Act.put, lsA, lsB, lsC, i64_w, i32_w]
      rfl
    refine one_ (i := 7) (N := some 14) #[true, true, true, true, true, true, true, true, false, false] rfl rfl (one_of HT_.out (by kernel_rfl)) (by decide) (fun K hK => ?_)
    refine goes_ Try.func19 (by kernel_rfl) rfl #[.int .i64 a0_0, .int .i64 a1] (by rfl) rfl rfl (by (try simp only [lsD, lsE, lsF]); first | done | rfl | (simp only [lsG, lsH]; rfl)) ?_
    with_reducible refine (spenceref24_Length.calls a0_0 a1 t197 _ A4.out).mono ?_
    rintro e w' ⟨rfl, ⟨nd, rfl⟩⟩
    refine ⟨_, rfl, ?_⟩
    refine hK.out _ _ ⟨(bCe BK194.out 0).trans rfl, (bCe BK194.out 1).trans rfl, (bCe BK194.out 2).trans rfl, (bCe BK194.out 3).trans rfl, (bCe BK194.out 4).trans rfl⟩ (fun hHeld => ?_)
    clear hK K
    refine norm_ (a' := ?_) ?_ ?_
    rotate_left
    · show Act.put _ (some 14) _ = _
      simp only [Act.put, lsA, lsB, lsC, i64_w, i32_w]
      rfl
    refine pure_ (i := 8) (N := some 5) (v := ?_) (a' := ?_) #[true, true, true, true, true, true, true, true, true, false] rfl rfl (any_of HT_.out (by kernel_rfl)) (fun _ _ _ h => h) (Or.inl ⟨by rfl, ?_⟩) ?_ ?_
    rotate_left
    · intro w'
      go_simp
      with_reducible rfl
    rotate_left
    · simp only [Act.put, lsA, lsB, lsC, i64_w, i32_w]
      rfl
    refine pure_ (i := 9) (N := some 6) (v := ?_) (a' := ?_) #[true, true, true, true, true, true, true, true, true, true] rfl rfl (any_of HT_.out (by kernel_rfl)) (fun _ _ _ h => h) (Or.inl ⟨by rfl, ?_⟩) ?_ ?_
    rotate_left
    · intro w'
      go_simp
      with_reducible rfl
    rotate_left
    · simp only [Act.put, lsA, lsB, lsC, i64_w, i32_w]
      rfl
    refine done_ (done_of HT_.out (by kernel_rfl)) ?_
    go_upto_region 5 with (fail)
    go_cut [33] (fun v33 wc => ∃ (kq : Nat) (x33_11 : Bool), v33 = .bool x33_11 ∧ AsZ (spenceref24_Reply.j0 kq a1 t196 t197 x33_11 a0_0 a0_1 a0_2 a0_3 a0_4 = some (r1, r2, r3, r4, r5)) ∧ AsZ (kq ≤ k) ∧ AsZ (wc.heap[gb194]? = some (.cells #[.int .i64 a0_0, .bool a0_1, .string a0_2, .int .i64 a0_3, .int .i64 a0_4] 32 (0, 0))) ∧ AsZ (wc.heap[gb195]? = some (.cells #[.int .i64 0, .string (⟨#[]⟩ : ByteArray), .int .i64 0, .string (⟨#[]⟩ : ByteArray), (.slice none 0 0)] 40 (0, 0))) ∧ AsZ (Below w.heap.size w wc))
    case first =>
      have H := HC12.out
      clear HC12
      by_cases c17 : a0_1 = true
      · subst c17
        have H1 : (spenceref24_Reply.j0 k a1 t196 t197 (a0_2.toList == t196.toList) a0_0 true a0_2 a0_3 a0_4) = some (r1, r2, r3, r4, r5) := by rw [if_pos rfl] at H; exact H
        clear H
        have H := H1
        clear H1
        have H' := AsZ.mk H
        clear H
        have hnb18 := NB194_195.out
        have hnc18 := NB195_194.out
        obtain ⟨hcz19_0, hcz19_1, hcz19_2, hcz19_3, hcz19_4⟩ := celN5 BK194.out
        obtain ⟨hfz19_0, hfz19_1, hfz19_2, hfz19_3, hfz19_4⟩ := fzN5 BK194.out
        go_wp2
        go_meet
        case rel => exact ⟨_, ((a0_2.toList == t196.toList)), (by first | rfl | (simp; done) | (simp [*]; done)), H', ⟨by first | omega | exact Nat.le_refl _⟩, ⟨by (with_reducible repeat first | apply bDn | apply bDr | apply bAl); exact BK194.out⟩, ⟨by (with_reducible repeat first | apply bDn | apply bDr | apply bAl); exact BK195.out⟩, ⟨by repeat (first | (with_reducible first | exact HB.out | apply aBl | apply pBd | apply dBl | refine sBl ?_ GE194.out | refine sBl ?_ GE195.out) | exact HB.out)⟩⟩
      · replace c17 := Bool.eq_false_iff.mpr c17
        subst c17
        have H1 : (spenceref24_Reply.j0 k a1 t196 t197 false a0_0 false a0_2 a0_3 a0_4) = some (r1, r2, r3, r4, r5) := by rw [if_neg (show ¬ (false = true) by decide)] at H; exact H
        clear H
        have H := H1
        clear H1
        have H' := AsZ.mk H
        clear H
        have hnb20 := NB194_195.out
        have hnc20 := NB195_194.out
        obtain ⟨hcz21_0, hcz21_1, hcz21_2, hcz21_3, hcz21_4⟩ := celN5 BK194.out
        obtain ⟨hfz21_0, hfz21_1, hfz21_2, hfz21_3, hfz21_4⟩ := fzN5 BK194.out
        go_wp2
        go_meet
        case rel => exact ⟨_, (false), (by first | rfl | (simp; done) | (simp [*]; done)), H', ⟨by first | omega | exact Nat.le_refl _⟩, ⟨by (with_reducible repeat first | apply bDn | apply bDr | apply bAl); exact BK194.out⟩, ⟨by (with_reducible repeat first | apply bDn | apply bDr | apply bAl); exact BK195.out⟩, ⟨by repeat (first | (with_reducible first | exact HB.out | apply aBl | apply pBd | apply dBl | refine sBl ?_ GE194.out | refine sBl ?_ GE195.out) | exact HB.out)⟩⟩
    case rest =>
      clear HC12
      try clear c1
      try clear c2
      try clear p2
      try clear c5
      try clear c5b0
      try clear c9
      try clear c10
      try clear c17
      try clear c18
      try clear c19
      try clear c20
      try clear hcz11_0
      try clear hcz11_1
      try clear hcz11_2
      try clear hcz11_3
      try clear hcz11_4
      try clear hcz19_0
      try clear hcz19_1
      try clear hcz19_2
      try clear hcz19_3
      try clear hcz19_4
      try clear hcz21_0
      try clear hcz21_1
      try clear hcz21_2
      try clear hcz21_3
      try clear hcz21_4
      try clear hfz11_0
      try clear hfz11_1
      try clear hfz11_2
      try clear hfz11_3
      try clear hfz11_4
      try clear hfz19_0
      try clear hfz19_1
      try clear hfz19_2
      try clear hfz19_3
      try clear hfz19_4
      try clear hfz21_0
      try clear hfz21_1
      try clear hfz21_2
      try clear hfz21_3
      try clear hfz21_4
      obtain ⟨kq, x33_11, rfl, HA, HJ11, BK194, BK195, HB⟩ := hcut
      cases kq with
      | zero => exact absurd HA.out (by simp [spenceref24_Reply.j0])
      | succ kj11 =>
        have H := HA.out
        clear HA
        simp only [spenceref24_Reply.j0] at H
        by_cases c22 : x33_11 = true
        · subst c22
          have H1 : (some (304, t196, 0, (⟨#[]⟩ : ByteArray), ([] : List Int))) = some (r1, r2, r3, r4, r5) := by rw [if_pos rfl] at H; exact H
          clear H
          have H := H1
          clear H1
          simp only [Option.some.injEq, Prod.mk.injEq] at H
          obtain ⟨rfl, rfl, rfl, rfl, rfl⟩ := H
          have hnb23 := NB195_194.out
          have hnc23 := NB194_195.out
          obtain ⟨hcz24_0, hcz24_1, hcz24_2, hcz24_3, hcz24_4⟩ := celN5 BK195.out
          obtain ⟨hfz24_0, hfz24_1, hfz24_2, hfz24_3, hfz24_4⟩ := fzN5 BK195.out
          go_wp2
          refine bodyPost_ret (results_cell_row rfl _ _ gb195 40 #[.int .i64 304, .string t196, .int .i64 0, .string (⟨#[]⟩ : ByteArray), .slice none 0 0] (0, 0) _ rfl (by (with_reducible repeat first | apply bDn | apply bDr | apply bAl); refine bPu (cs := #[.int .i64 304, .string t196, .int .i64 0, .string (⟨#[]⟩ : ByteArray), .slice none 0 0]) ?_ 4 _ rfl; (with_reducible repeat first | apply bDn | apply bDr | apply bAl); refine bPu (cs := #[.int .i64 304, .string t196, .int .i64 0, .string (⟨#[]⟩ : ByteArray), .slice none 0 0]) ?_ 3 _ rfl; (with_reducible repeat first | apply bDn | apply bDr | apply bAl); refine bPu (cs := #[.int .i64 304, .string t196, .int .i64 0, .string (⟨#[]⟩ : ByteArray), .slice none 0 0]) ?_ 2 _ rfl; (with_reducible repeat first | apply bDn | apply bDr | apply bAl); refine bPu (cs := #[.int .i64 304, .string (⟨#[]⟩ : ByteArray), .int .i64 0, .string (⟨#[]⟩ : ByteArray), .slice none 0 0]) ?_ 1 _ rfl; (with_reducible repeat first | apply bDn | apply bDr | apply bAl); refine bPu (cs := #[.int .i64 0, .string (⟨#[]⟩ : ByteArray), .int .i64 0, .string (⟨#[]⟩ : ByteArray), .slice none 0 0]) ?_ 0 _ rfl; (with_reducible repeat first | apply bDn | apply bDr | apply bAl); exact BK195.out) Try.underlying40 rfl (by kernel_rfl)) rfl ?_
          exact ⟨_, by first | rfl | (simp [eWn, eWs] <;> rfl) | (simp [*, eWn, eWs] <;> rfl), by first | exact Kd.R_nil _ _ _ _ _ | exact Kd.N_nil _ _ _ _ _ | exact Kd.V_nil _ _ _ _ _ | exact Kd.Q_nil _ _ _ _ _ | exact Kd.S_nil _ _ _ _ _, by repeat (first | (with_reducible first | exact HB.out | apply aBl | apply pBd | apply dBl | refine sBl ?_ GE194.out | refine sBl ?_ GE195.out) | exact HB.out)⟩
        · replace c22 := Bool.eq_false_iff.mpr c22
          subst c22
          have H1 : (if a0_1 = true then (some (200, t196, t197, (⟨#[]⟩ : ByteArray), ([] : List Int))) else (if a0_2.toList = t196.toList then ((spenceref04_Right.f a0_3 a0_4).bind fun t198 => (if t198 = true then (spenceref24_Reply.j1 kj11 a1 t196 t197 (decide (a0_4 > t197)) a0_0 a0_1 a0_2 a0_3 a0_4) else (spenceref24_Reply.j1 kj11 a1 t196 t197 true a0_0 a0_1 a0_2 a0_3 a0_4))) else (some (412, t196, 0, (⟨#[]⟩ : ByteArray), ([] : List Int))))) = some (r1, r2, r3, r4, r5) := by rw [if_neg (show ¬ (false = true) by decide)] at H; exact H
          clear H
          have H := H1
          clear H1
          by_cases c25 : a0_1 = true
          · subst c25
            have H1 : (some (200, t196, t197, (⟨#[]⟩ : ByteArray), ([] : List Int))) = some (r1, r2, r3, r4, r5) := by rw [if_pos rfl] at H; exact H
            clear H
            have H := H1
            clear H1
            simp only [Option.some.injEq, Prod.mk.injEq] at H
            obtain ⟨rfl, rfl, rfl, rfl, rfl⟩ := H
            have hnb26 := NB194_195.out
            have hnc26 := NB195_194.out
            obtain ⟨hcz27_0, hcz27_1, hcz27_2, hcz27_3, hcz27_4⟩ := celN5 BK194.out
            obtain ⟨hfz27_0, hfz27_1, hfz27_2, hfz27_3, hfz27_4⟩ := fzN5 BK194.out
            obtain ⟨hcz28_0, hcz28_1, hcz28_2, hcz28_3, hcz28_4⟩ := celN5 BK195.out
            obtain ⟨hfz28_0, hfz28_1, hfz28_2, hfz28_3, hfz28_4⟩ := fzN5 BK195.out
            go_wp2
            refine bodyPost_ret (results_cell_row rfl _ _ gb195 40 #[.int .i64 200, .string t196, .int .i64 t197, .string (⟨#[]⟩ : ByteArray), .slice none 0 0] (0, 0) _ rfl (by (with_reducible repeat first | apply bDn | apply bDr | apply bAl); refine bPu (cs := #[.int .i64 200, .string t196, .int .i64 t197, .string (⟨#[]⟩ : ByteArray), .slice none 0 0]) ?_ 4 _ rfl; (with_reducible repeat first | apply bDn | apply bDr | apply bAl); refine bPu (cs := #[.int .i64 200, .string t196, .int .i64 t197, .string (⟨#[]⟩ : ByteArray), .slice none 0 0]) ?_ 3 _ rfl; (with_reducible repeat first | apply bDn | apply bDr | apply bAl); refine bPu (cs := #[.int .i64 200, .string t196, .int .i64 0, .string (⟨#[]⟩ : ByteArray), .slice none 0 0]) ?_ 2 _ rfl; (with_reducible repeat first | apply bDn | apply bDr | apply bAl); refine bPu (cs := #[.int .i64 200, .string (⟨#[]⟩ : ByteArray), .int .i64 0, .string (⟨#[]⟩ : ByteArray), .slice none 0 0]) ?_ 1 _ rfl; (with_reducible repeat first | apply bDn | apply bDr | apply bAl); refine bPu (cs := #[.int .i64 0, .string (⟨#[]⟩ : ByteArray), .int .i64 0, .string (⟨#[]⟩ : ByteArray), .slice none 0 0]) ?_ 0 _ rfl; (with_reducible repeat first | apply bDn | apply bDr | apply bAl); exact BK195.out) Try.underlying40 rfl (by kernel_rfl)) rfl ?_
            exact ⟨_, by first | rfl | (simp [eWn, eWs] <;> rfl) | (simp [*, eWn, eWs] <;> rfl), by first | exact Kd.R_nil _ _ _ _ _ | exact Kd.N_nil _ _ _ _ _ | exact Kd.V_nil _ _ _ _ _ | exact Kd.Q_nil _ _ _ _ _ | exact Kd.S_nil _ _ _ _ _, by repeat (first | (with_reducible first | exact HB.out | apply aBl | apply pBd | apply dBl | refine sBl ?_ GE194.out | refine sBl ?_ GE195.out) | exact HB.out)⟩
          · replace c25 := Bool.eq_false_iff.mpr c25
            subst c25
            have H1 : (if a0_2.toList = t196.toList then ((spenceref04_Right.f a0_3 a0_4).bind fun t198 => (if t198 = true then (spenceref24_Reply.j1 kj11 a1 t196 t197 (decide (a0_4 > t197)) a0_0 false a0_2 a0_3 a0_4) else (spenceref24_Reply.j1 kj11 a1 t196 t197 true a0_0 false a0_2 a0_3 a0_4))) else (some (412, t196, 0, (⟨#[]⟩ : ByteArray), ([] : List Int)))) = some (r1, r2, r3, r4, r5) := by rw [if_neg (show ¬ (false = true) by decide)] at H; exact H
            clear H
            have H := H1
            clear H1
            by_cases c29 : a0_2.toList = t196.toList
            · rw [if_pos c29] at H
              have c29b0 : (a0_2.toList == t196.toList) = true := beq_iff_eq.mpr c29
              have c29b1 : (a0_2.toList != t196.toList) = false := bne_eq_false_iff_eq.mpr c29
              clear c29
              have HC30 := AsZ.mk H
              clear H
              have hnb31 := NB194_195.out
              have hnc31 := NB195_194.out
              obtain ⟨hcz32_0, hcz32_1, hcz32_2, hcz32_3, hcz32_4⟩ := celN5 BK194.out
              obtain ⟨hfz32_0, hfz32_1, hfz32_2, hfz32_3, hfz32_4⟩ := fzN5 BK194.out
              go_upto_region 11 with (fail)
              go_cut [57] (fun v57 wc => ∃ (kq : Nat) (x57_29 : Bool), v57 = .bool x57_29 ∧ AsZ (spenceref24_Reply.j1 kq a1 t196 t197 x57_29 a0_0 false a0_2 a0_3 a0_4 = some (r1, r2, r3, r4, r5)) ∧ AsZ (kq ≤ kj11) ∧ AsZ (wc.heap[gb194]? = some (.cells #[.int .i64 a0_0, .bool false, .string a0_2, .int .i64 a0_3, .int .i64 a0_4] 32 (0, 0))) ∧ AsZ (wc.heap[gb195]? = some (.cells #[.int .i64 0, .string (⟨#[]⟩ : ByteArray), .int .i64 0, .string (⟨#[]⟩ : ByteArray), (.slice none 0 0)] 40 (0, 0))) ∧ AsZ (Below w.heap.size w wc))
              case first =>
                have H := HC30.out
                clear HC30
                replace H := Option.bind_eq_some_iff.mp H
                obtain ⟨t198, A330, H⟩ := H
                replace H : (if t198 = true then (spenceref24_Reply.j1 kj11 a1 t196 t197 (decide (a0_4 > t197)) a0_0 false a0_2 a0_3 a0_4) else (spenceref24_Reply.j1 kj11 a1 t196 t197 true a0_0 false a0_2 a0_3 a0_4)) = some (r1, r2, r3, r4, r5) := H
                have A33 := AsZ.mk A330
                clear A330
                by_cases c34 : t198 = true
                · subst c34
                  have H1 : (spenceref24_Reply.j1 kj11 a1 t196 t197 (decide (a0_4 > t197)) a0_0 false a0_2 a0_3 a0_4) = some (r1, r2, r3, r4, r5) := by rw [if_pos rfl] at H; exact H
                  clear H
                  have H := H1
                  clear H1
                  have H' := AsZ.mk H
                  clear H
                  have hnb35 := NB194_195.out
                  have hnc35 := NB195_194.out
                  obtain ⟨hcz36_0, hcz36_1, hcz36_2, hcz36_3, hcz36_4⟩ := celN5 BK194.out
                  obtain ⟨hfz36_0, hfz36_1, hfz36_2, hfz36_3, hfz36_4⟩ := fzN5 BK194.out
                  go_wp2_with (first | ((with_reducible refine gCa (f := 20) rfl ?_); refine gLl (some 60) rfl rfl Try.func20 (by kernel_rfl) rfl #[.agg #[.int .i64 a0_3, .int .i64 a0_4]] rfl (by (try simp only [lsD, lsE, lsF]); first | done | rfl | (simp only [lsG, lsH]; rfl)) ?_; (with_reducible refine (spenceref04_Right.calls a0_3 a0_4 true _ A33.out).mono ?_); rintro e w37 ⟨rfl, hb⟩; refine ⟨_, rfl, ?_⟩; have n0_ := AsZ.mk (bBl (g := gb194) (o := .cells #[.int .i64 a0_0, .bool false, .string a0_2, .int .i64 a0_3, .int .i64 a0_4] 32 (0, 0)) (by (with_reducible repeat first | apply bDn | apply bDr | apply bAl); exact BK194.out) hb); have n1_ := AsZ.mk (bBl (g := gb195) (o := .cells #[.int .i64 0, .string (⟨#[]⟩ : ByteArray), .int .i64 0, .string (⟨#[]⟩ : ByteArray), .slice none 0 0] 40 (0, 0)) (by (with_reducible repeat first | apply bDn | apply bDr | apply bAl); exact BK195.out) hb); have n2_ := AsZ.mk (tBl (by repeat (first | (with_reducible first | exact HB.out | apply aBl | apply pBd | apply dBl | refine sBl ?_ GE194.out | refine sBl ?_ GE195.out) | exact HB.out)) hb); clear BK194; clear BK195; clear HB; have BK194 := n0_; have BK195 := n1_; have HB := n2_; clear n0_ n1_ n2_; (try clear hb); (try clear hb2); (try clear hk); (try clear hi); obtain ⟨hcz38_0, hcz38_1, hcz38_2, hcz38_3, hcz38_4⟩ := celN5 BK194.out; obtain ⟨hfz38_0, hfz38_1, hfz38_2, hfz38_3, hfz38_4⟩ := fzN5 BK194.out))
                  go_meet
                  case rel => exact ⟨_, (decide (a0_4 > t197)), (by first | rfl | (simp; done) | (simp [*]; done)), H', ⟨by have := HJ11.out; first | omega | exact Nat.le_refl _⟩, ⟨by (with_reducible repeat first | apply bDn | apply bDr | apply bAl); exact BK194.out⟩, ⟨by (with_reducible repeat first | apply bDn | apply bDr | apply bAl); exact BK195.out⟩, ⟨by repeat (first | (with_reducible first | exact HB.out | apply aBl | apply pBd | apply dBl | refine sBl ?_ GE194.out | refine sBl ?_ GE195.out) | exact HB.out)⟩⟩
                · replace c34 := Bool.eq_false_iff.mpr c34
                  subst c34
                  have H1 : (spenceref24_Reply.j1 kj11 a1 t196 t197 true a0_0 false a0_2 a0_3 a0_4) = some (r1, r2, r3, r4, r5) := by rw [if_neg (show ¬ (false = true) by decide)] at H; exact H
                  clear H
                  have H := H1
                  clear H1
                  have H' := AsZ.mk H
                  clear H
                  have hnb39 := NB194_195.out
                  have hnc39 := NB195_194.out
                  obtain ⟨hcz40_0, hcz40_1, hcz40_2, hcz40_3, hcz40_4⟩ := celN5 BK194.out
                  obtain ⟨hfz40_0, hfz40_1, hfz40_2, hfz40_3, hfz40_4⟩ := fzN5 BK194.out
                  go_wp2_with (first | ((with_reducible refine gCa (f := 20) rfl ?_); refine gLl (some 60) rfl rfl Try.func20 (by kernel_rfl) rfl #[.agg #[.int .i64 a0_3, .int .i64 a0_4]] rfl (by (try simp only [lsD, lsE, lsF]); first | done | rfl | (simp only [lsG, lsH]; rfl)) ?_; (with_reducible refine (spenceref04_Right.calls a0_3 a0_4 false _ A33.out).mono ?_); rintro e w41 ⟨rfl, hb⟩; refine ⟨_, rfl, ?_⟩; have n0_ := AsZ.mk (bBl (g := gb194) (o := .cells #[.int .i64 a0_0, .bool false, .string a0_2, .int .i64 a0_3, .int .i64 a0_4] 32 (0, 0)) (by (with_reducible repeat first | apply bDn | apply bDr | apply bAl); exact BK194.out) hb); have n1_ := AsZ.mk (bBl (g := gb195) (o := .cells #[.int .i64 0, .string (⟨#[]⟩ : ByteArray), .int .i64 0, .string (⟨#[]⟩ : ByteArray), .slice none 0 0] 40 (0, 0)) (by (with_reducible repeat first | apply bDn | apply bDr | apply bAl); exact BK195.out) hb); have n2_ := AsZ.mk (tBl (by repeat (first | (with_reducible first | exact HB.out | apply aBl | apply pBd | apply dBl | refine sBl ?_ GE194.out | refine sBl ?_ GE195.out) | exact HB.out)) hb); clear BK194; clear BK195; clear HB; have BK194 := n0_; have BK195 := n1_; have HB := n2_; clear n0_ n1_ n2_; (try clear hb); (try clear hb2); (try clear hk); (try clear hi)))
                  go_meet
                  case rel => exact ⟨_, (true), (by first | rfl | (simp; done) | (simp [*]; done)), H', ⟨by have := HJ11.out; first | omega | exact Nat.le_refl _⟩, ⟨by (with_reducible repeat first | apply bDn | apply bDr | apply bAl); exact BK194.out⟩, ⟨by (with_reducible repeat first | apply bDn | apply bDr | apply bAl); exact BK195.out⟩, ⟨by repeat (first | (with_reducible first | exact HB.out | apply aBl | apply pBd | apply dBl | refine sBl ?_ GE194.out | refine sBl ?_ GE195.out) | exact HB.out)⟩⟩
              case rest =>
                clear HC30
                try clear c1
                try clear c2
                try clear p2
                try clear c3
                try clear c5
                try clear c5b0
                try clear c9
                try clear c10
                try clear c17
                try clear c18
                try clear c19
                try clear c20
                try clear c22
                try clear c23
                try clear c25
                try clear c26
                try clear c29
                try clear c29b0
                try clear c29b1
                try clear c31
                try clear c34
                try clear c35
                try clear c39
                try clear hcz11_0
                try clear hcz11_1
                try clear hcz11_2
                try clear hcz11_3
                try clear hcz11_4
                try clear hcz19_0
                try clear hcz19_1
                try clear hcz19_2
                try clear hcz19_3
                try clear hcz19_4
                try clear hcz21_0
                try clear hcz21_1
                try clear hcz21_2
                try clear hcz21_3
                try clear hcz21_4
                try clear hcz24_0
                try clear hcz24_1
                try clear hcz24_2
                try clear hcz24_3
                try clear hcz24_4
                try clear hcz27_0
                try clear hcz27_1
                try clear hcz27_2
                try clear hcz27_3
                try clear hcz27_4
                try clear hcz28_0
                try clear hcz28_1
                try clear hcz28_2
                try clear hcz28_3
                try clear hcz28_4
                try clear hcz32_0
                try clear hcz32_1
                try clear hcz32_2
                try clear hcz32_3
                try clear hcz32_4
                try clear hcz36_0
                try clear hcz36_1
                try clear hcz36_2
                try clear hcz36_3
                try clear hcz36_4
                try clear hcz38_0
                try clear hcz38_1
                try clear hcz38_2
                try clear hcz38_3
                try clear hcz38_4
                try clear hcz40_0
                try clear hcz40_1
                try clear hcz40_2
                try clear hcz40_3
                try clear hcz40_4
                try clear hfz11_0
                try clear hfz11_1
                try clear hfz11_2
                try clear hfz11_3
                try clear hfz11_4
                try clear hfz19_0
                try clear hfz19_1
                try clear hfz19_2
                try clear hfz19_3
                try clear hfz19_4
                try clear hfz21_0
                try clear hfz21_1
                try clear hfz21_2
                try clear hfz21_3
                try clear hfz21_4
                try clear hfz24_0
                try clear hfz24_1
                try clear hfz24_2
                try clear hfz24_3
                try clear hfz24_4
                try clear hfz27_0
                try clear hfz27_1
                try clear hfz27_2
                try clear hfz27_3
                try clear hfz27_4
                try clear hfz28_0
                try clear hfz28_1
                try clear hfz28_2
                try clear hfz28_3
                try clear hfz28_4
                try clear hfz32_0
                try clear hfz32_1
                try clear hfz32_2
                try clear hfz32_3
                try clear hfz32_4
                try clear hfz36_0
                try clear hfz36_1
                try clear hfz36_2
                try clear hfz36_3
                try clear hfz36_4
                try clear hfz38_0
                try clear hfz38_1
                try clear hfz38_2
                try clear hfz38_3
                try clear hfz38_4
                try clear hfz40_0
                try clear hfz40_1
                try clear hfz40_2
                try clear hfz40_3
                try clear hfz40_4
                try clear p2
                obtain ⟨kq, x57_29, rfl, HA, HJ29, BK194, BK195, HB⟩ := hcut
                cases kq with
                | zero => exact absurd HA.out (by simp [spenceref24_Reply.j1])
                | succ kj29 =>
                  have H := HA.out
                  clear HA
                  simp only [spenceref24_Reply.j1] at H
                  by_cases c42 : x57_29 = true
                  · subst c42
                    have H1 : ((r1Prt.f kj29 t197).bind fun t199 => (if 8 + t199.size ≤ 9223372036854775807 then (some (416, t196, 0, (⟨#[98, 121, 116, 101, 115, 32, 42, 47]⟩ : ByteArray) ++ t199, ([] : List Int))) else (none))) = some (r1, r2, r3, r4, r5) := by rw [if_pos rfl] at H; exact H
                    clear H
                    have H := H1
                    clear H1
                    replace H := Option.bind_eq_some_iff.mp H
                    obtain ⟨t199, A430, H⟩ := H
                    replace H : (if 8 + t199.size ≤ 9223372036854775807 then (some (416, t196, 0, (⟨#[98, 121, 116, 101, 115, 32, 42, 47]⟩ : ByteArray) ++ t199, ([] : List Int))) else (none)) = some (r1, r2, r3, r4, r5) := H
                    have A43 := AsZ.mk A430
                    clear A430
                    by_cases c44 : 8 + t199.size ≤ 9223372036854775807
                    · rw [if_pos c44] at H
                      have c44b0 := eq_true c44
                      have c44b1 : decide (8 + t199.size ≤ 9223372036854775807) = true := decide_eq_true c44
                      try have c44b2 : (9223372036854775807 < 8 + t199.size) = False := eq_false (Nat.not_lt.2 c44)
                      simp only [Option.some.injEq, Prod.mk.injEq] at H
                      obtain ⟨rfl, rfl, rfl, rfl, rfl⟩ := H
                      go_wp2_with (first | ((with_reducible refine gCa (f := 21) rfl ?_); refine gLl (some 71) rfl rfl Try.func21 (by kernel_rfl) rfl #[.int .i64 t197] rfl (by (try simp only [lsD, lsE, lsF]); first | done | rfl | (simp only [lsG, lsH]; rfl)) ?_; (with_reducible refine (r1Prt.calls kj29 t197 t199 _ A43.out).mono ?_); rintro e w45 ⟨rfl, hb⟩; refine ⟨_, rfl, ?_⟩; have n0_ := AsZ.mk (bBl (g := gb194) (o := .cells #[.int .i64 a0_0, .bool false, .string a0_2, .int .i64 a0_3, .int .i64 a0_4] 32 (0, 0)) (by (with_reducible repeat first | apply bDn | apply bDr | apply bAl); exact BK194.out) hb); have n1_ := AsZ.mk (bBl (g := gb195) (o := .cells #[.int .i64 0, .string (⟨#[]⟩ : ByteArray), .int .i64 0, .string (⟨#[]⟩ : ByteArray), .slice none 0 0] 40 (0, 0)) (by (with_reducible repeat first | apply bDn | apply bDr | apply bAl); exact BK195.out) hb); have n2_ := AsZ.mk (tBl (by repeat (first | (with_reducible first | exact HB.out | apply aBl | apply pBd | apply dBl | refine sBl ?_ GE194.out | refine sBl ?_ GE195.out) | exact HB.out)) hb); clear BK194; clear BK195; clear HB; have BK194 := n0_; have BK195 := n1_; have HB := n2_; clear n0_ n1_ n2_; (try clear hb); (try clear hb2); (try clear hk); (try clear hi); have hnb46 := NB195_194.out; have hnc46 := NB194_195.out; obtain ⟨hcz47_0, hcz47_1, hcz47_2, hcz47_3, hcz47_4⟩ := celN5 BK195.out; obtain ⟨hfz47_0, hfz47_1, hfz47_2, hfz47_3, hfz47_4⟩ := fzN5 BK195.out))
                      refine bodyPost_ret (results_cell_row rfl _ _ gb195 40 #[.int .i64 416, .string t196, .int .i64 0, .string ((⟨#[98, 121, 116, 101, 115, 32, 42, 47]⟩ : ByteArray) ++ t199), .slice none 0 0] (0, 0) _ rfl (by (with_reducible repeat first | apply bDn | apply bDr | apply bAl); refine bPu (cs := #[.int .i64 416, .string t196, .int .i64 0, .string ((⟨#[98, 121, 116, 101, 115, 32, 42, 47]⟩ : ByteArray) ++ t199), .slice none 0 0]) ?_ 4 _ rfl; (with_reducible repeat first | apply bDn | apply bDr | apply bAl); refine bPu (cs := #[.int .i64 416, .string t196, .int .i64 0, .string (⟨#[]⟩ : ByteArray), .slice none 0 0]) ?_ 3 _ rfl; (with_reducible repeat first | apply bDn | apply bDr | apply bAl); refine bPu (cs := #[.int .i64 416, .string t196, .int .i64 0, .string (⟨#[]⟩ : ByteArray), .slice none 0 0]) ?_ 2 _ rfl; (with_reducible repeat first | apply bDn | apply bDr | apply bAl); refine bPu (cs := #[.int .i64 416, .string (⟨#[]⟩ : ByteArray), .int .i64 0, .string (⟨#[]⟩ : ByteArray), .slice none 0 0]) ?_ 1 _ rfl; (with_reducible repeat first | apply bDn | apply bDr | apply bAl); refine bPu (cs := #[.int .i64 0, .string (⟨#[]⟩ : ByteArray), .int .i64 0, .string (⟨#[]⟩ : ByteArray), .slice none 0 0]) ?_ 0 _ rfl; (with_reducible repeat first | apply bDn | apply bDr | apply bAl); exact BK195.out) Try.underlying40 rfl (by kernel_rfl)) rfl ?_
                      exact ⟨_, by first | rfl | (simp [eWn, eWs] <;> rfl) | (simp [*, eWn, eWs] <;> rfl), by first | exact Kd.R_nil _ _ _ _ _ | exact Kd.N_nil _ _ _ _ _ | exact Kd.V_nil _ _ _ _ _ | exact Kd.Q_nil _ _ _ _ _ | exact Kd.S_nil _ _ _ _ _, by repeat (first | (with_reducible first | exact HB.out | apply aBl | apply pBd | apply dBl | refine sBl ?_ GE194.out | refine sBl ?_ GE195.out) | exact HB.out)⟩
                    · rw [if_neg c44] at H
                      exact absurd H (by simp)
                  · replace c42 := Bool.eq_false_iff.mpr c42
                    subst c42
                    have H1 : ((r4PC.f kj29 true a0_3 a0_4 t197).bind fun t200 => ((spenceref24_Body.f kj29 a0_0 a1 a0_3 a0_4).bind fun t201 => (some (206, t196, t197, t200, t201)))) = some (r1, r2, r3, r4, r5) := by rw [if_neg (show ¬ (false = true) by decide)] at H; exact H
                    clear H
                    have H := H1
                    clear H1
                    replace H := Option.bind_eq_some_iff.mp H
                    obtain ⟨t200, A480, H⟩ := H
                    replace H : ((spenceref24_Body.f kj29 a0_0 a1 a0_3 a0_4).bind fun t201 => (some (206, t196, t197, t200, t201))) = some (r1, r2, r3, r4, r5) := H
                    have A48 := AsZ.mk A480
                    clear A480
                    replace H := Option.bind_eq_some_iff.mp H
                    obtain ⟨t201, A490, H⟩ := H
                    replace H : (some (206, t196, t197, t200, t201)) = some (r1, r2, r3, r4, r5) := H
                    have A49 := AsZ.mk A490
                    clear A490
                    simp only [Option.some.injEq, Prod.mk.injEq] at H
                    obtain ⟨rfl, rfl, rfl, rfl, rfl⟩ := H
                    try go_wp2
                    have n0_ := AsZ.mk (bDr BK194.out)
                    have n1_ := AsZ.mk (bDr BK195.out)
                    have n2_ := AsZ.mk (dBl HB.out)
                    clear BK194
                    clear BK195
                    clear HB
                    have BK194 := n0_
                    have BK195 := n1_
                    have HB := n2_
                    clear n0_ n1_ n2_
                    refine start_ (n := 15) (S := fun w' => w'.cell? ⟨gb194, 0, none⟩ = some (.int .i64 a0_0) ∧ w'.cell? ⟨gb194, 1, none⟩ = some (.bool false) ∧ w'.cell? ⟨gb194, 2, none⟩ = some (.string a0_2) ∧ w'.cell? ⟨gb194, 3, none⟩ = some (.int .i64 a0_3) ∧ w'.cell? ⟨gb194, 4, none⟩ = some (.int .i64 a0_4)) (ds := []) #[false, false, false, false, false, false, false, false, false, false, false, false, false, false, false] (by kernel_rfl) rfl rfl ⟨(bCe BK194.out 0).trans rfl, (bCe BK194.out 1).trans rfl, (bCe BK194.out 2).trans rfl, (bCe BK194.out 3).trans rfl, (bCe BK194.out 4).trans rfl⟩ (fun hHeld => ?_); refine with_tabW spenceref24_Reply.tab2 spenceref24_Reply.bits2 (fun HT_ HW_ => ?_)
                    generalize wc.drew = w50 at BK194 BK195 HB hHeld ⊢
                    refine pure_ (i := 0) (N := some 15) (v := ?_) (a' := ?_) #[true, false, false, false, false, false, false, false, false, false, false, false, false, false, false] rfl rfl (any_of HT_.out (by kernel_rfl)) (fun _ _ _ h => h) (Or.inl ⟨by rfl, ?_⟩) ?_ ?_
                    rotate_left
                    · intro w'
                      go_simp
                      with_reducible rfl
                    rotate_left
                    · simp only [Act.put, lsA, lsB, lsC, i64_w, i32_w]
                      rfl
                    refine pure_ (i := 1) (N := some 16) (v := ?_) (a' := ?_) #[true, true, false, false, false, false, false, false, false, false, false, false, false, false, false] rfl rfl (any_of HT_.out (by kernel_rfl)) (fun _ _ _ h => h) (Or.inl ⟨by rfl, ?_⟩) ?_ ?_
                    rotate_left
                    · intro w'
                      go_simp
                      with_reducible rfl
                    rotate_left
                    · simp only [Act.put, lsA, lsB, lsC, i64_w, i32_w]
                      rfl
                    refine pure_ (i := 2) (N := some 17) (v := ?_) (a' := ?_) #[true, true, true, false, false, false, false, false, false, false, false, false, false, false, false] rfl rfl (any_of HT_.out (by kernel_rfl)) (fun _ _ _ h => h) (Or.inl ⟨by rfl, ?_⟩) ?_ ?_
                    rotate_left
                    · intro w'
                      go_simp
                      with_reducible rfl
                    rotate_left
                    · simp only [Act.put, lsA, lsB, lsC, i64_w, i32_w]
                      rfl
                    refine pure_ (i := 4) (N := some 19) (v := ?_) (a' := ?_) #[true, true, true, false, true, false, false, false, false, false, false, false, false, false, false] rfl rfl (any_of HT_.out (by kernel_rfl)) (fun _ _ _ h => h) (Or.inl ⟨by rfl, ?_⟩) ?_ ?_
                    rotate_left
                    · intro w'
                      go_simp
                      with_reducible rfl
                    rotate_left
                    · simp only [Act.put, lsA, lsB, lsC, i64_w, i32_w]
                      rfl
                    refine pure_ (i := 7) (N := some 22) (v := ?_) (a' := ?_) #[true, true, true, false, true, false, false, true, false, false, false, false, false, false, false] rfl rfl (any_of HT_.out (by kernel_rfl)) (fun _ _ _ h => h) (Or.inl ⟨by rfl, ?_⟩) ?_ ?_
                    rotate_left
                    · intro w'
                      go_simp
                      with_reducible rfl
                    rotate_left
                    · simp only [Act.put, lsA, lsB, lsC, i64_w, i32_w]
                      rfl
                    refine pure_ (i := 9) (N := some 24) (v := ?_) (a' := ?_) #[true, true, true, false, true, false, false, true, false, true, false, false, false, false, false] rfl rfl (any_of HT_.out (by kernel_rfl)) (fun _ _ _ h => h) (Or.inl ⟨by rfl, ?_⟩) ?_ ?_
                    rotate_left
                    · intro w'
                      go_simp
                      with_reducible rfl
                    rotate_left
                    · simp only [Act.put, lsA, lsB, lsC, i64_w, i32_w]
                      rfl
                    refine pure_ (i := 10) (N := some 25) (v := ?_) (a' := ?_) #[true, true, true, false, true, false, false, true, false, true, true, false, false, false, false] rfl rfl (any_of HT_.out (by kernel_rfl)) (fun _ _ _ h => h) (Or.inl ⟨by rfl, ?_⟩) ?_ ?_
                    rotate_left
                    · intro w'
                      go_simp
                      with_reducible rfl
                    rotate_left
                    · simp only [Act.put, lsA, lsB, lsC, i64_w, i32_w]
                      rfl
                    refine take_ (i := 3) (N := some 18) (v := ?_) (a' := ?_) #[true, true, true, true, true, false, false, true, false, true, true, false, false, false, false] rfl rfl (take_ofW HT_.out HW_.out (by kernel_rfl)) (fun _ _ _ h => h) (Or.inl ⟨by rfl, ?_⟩) hHeld ?_ ?_
                    rotate_left
                    · rintro w' ⟨s0, s1, s2, s3, s4⟩
                      go_simp
                      with_reducible rfl
                    rotate_left
                    · simp only [Act.put, lsA, lsB, lsC, i64_w, i32_w]
                      rfl
                    refine pure_ (i := 5) (N := some 20) (v := ?_) (a' := ?_) #[true, true, true, true, true, true, false, true, false, true, true, false, false, false, false] rfl rfl (any_of HT_.out (by kernel_rfl)) (fun _ _ _ h => h) (Or.inl ⟨by rfl, ?_⟩) ?_ ?_
                    rotate_left
                    · intro w'
                      go_simp
                      with_reducible rfl
                    rotate_left
                    · simp only [Act.put, lsA, lsB, lsC, i64_w, i32_w]
                      rfl
                    refine take_ (i := 8) (N := some 23) (v := ?_) (a' := ?_) #[true, true, true, true, true, true, false, true, true, true, true, false, false, false, false] rfl rfl (take_ofW HT_.out HW_.out (by kernel_rfl)) (fun _ _ _ h => h) (Or.inl ⟨by rfl, ?_⟩) hHeld ?_ ?_
                    rotate_left
                    · rintro w' ⟨s0, s1, s2, s3, s4⟩
                      go_simp
                      with_reducible rfl
                    rotate_left
                    · simp only [Act.put, lsA, lsB, lsC, i64_w, i32_w]
                      rfl
                    refine take_ (i := 11) (N := some 26) (v := ?_) (a' := ?_) #[true, true, true, true, true, true, false, true, true, true, true, true, false, false, false] rfl rfl (take_ofW HT_.out HW_.out (by kernel_rfl)) (fun _ _ _ h => h) (Or.inl ⟨by rfl, ?_⟩) hHeld ?_ ?_
                    rotate_left
                    · rintro w' ⟨s0, s1, s2, s3, s4⟩
                      go_simp
                      with_reducible rfl
                    rotate_left
                    · simp only [Act.put, lsA, lsB, lsC, i64_w, i32_w]
                      rfl
                    refine one_ (i := 6) (N := some 21) #[true, true, true, true, true, true, true, true, true, true, true, true, false, false, false] rfl rfl (one_of HT_.out (by kernel_rfl)) (by decide) (fun K hK => ?_)
                    refine goes_ Try.func22 (by kernel_rfl) rfl #[.agg #[.bool true, .int .i64 a0_3, .int .i64 a0_4, .int .i64 t197]] (by rfl) rfl rfl (by (try simp only [lsD, lsE, lsF]); first | done | rfl | (simp only [lsG, lsH]; rfl)) ?_
                    with_reducible refine (r4PC.calls kj29 true a0_3 a0_4 t197 t200 _ A48.out).mono ?_
                    rintro e w51 ⟨rfl, hb⟩
                    refine ⟨_, rfl, ?_⟩
                    have n0_ := AsZ.mk (bBl (g := gb194) (o := .cells #[.int .i64 a0_0, .bool false, .string a0_2, .int .i64 a0_3, .int .i64 a0_4] 32 (0, 0)) (by (with_reducible repeat first | apply bDn | apply bDr | apply bAl); exact BK194.out) hb)
                    have n1_ := AsZ.mk (bBl (g := gb195) (o := .cells #[.int .i64 0, .string (⟨#[]⟩ : ByteArray), .int .i64 0, .string (⟨#[]⟩ : ByteArray), .slice none 0 0] 40 (0, 0)) (by (with_reducible repeat first | apply bDn | apply bDr | apply bAl); exact BK195.out) hb)
                    have n2_ := AsZ.mk (tBl (by repeat (first | (with_reducible first | exact HB.out | apply aBl | apply pBd | apply dBl | refine sBl ?_ GE194.out | refine sBl ?_ GE195.out) | exact HB.out)) hb)
                    clear BK194
                    clear BK195
                    clear HB
                    have BK194 := n0_
                    have BK195 := n1_
                    have HB := n2_
                    clear n0_ n1_ n2_
                    (try clear hb)
                    (try clear hb2)
                    (try clear hk)
                    (try clear hi)
                    refine hK.out _ _ ⟨(bCe BK194.out 0).trans rfl, (bCe BK194.out 1).trans rfl, (bCe BK194.out 2).trans rfl, (bCe BK194.out 3).trans rfl, (bCe BK194.out 4).trans rfl⟩ (fun hHeld => ?_)
                    clear hK K
                    refine norm_ (a' := ?_) ?_ ?_
                    rotate_left
                    · show Act.put _ (some 21) _ = _
                      simp only [Act.put, lsA, lsB, lsC, i64_w, i32_w]
                      rfl
                    refine one_ (i := 12) (N := some 27) #[true, true, true, true, true, true, true, true, true, true, true, true, true, false, false] rfl rfl (one_of HT_.out (by kernel_rfl)) (by decide) (fun K hK => ?_)
                    refine goes_ Try.func23 (by kernel_rfl) rfl #[.int .i64 a0_0, .int .i64 a1, .agg #[.int .i64 a0_3, .int .i64 a0_4]] (by rfl) rfl rfl (by (try simp only [lsD, lsE, lsF]); first | done | rfl | (simp only [lsG, lsH]; rfl)) ?_
                    with_reducible refine (spenceref24_Body.calls kj29 a0_0 a1 a0_3 a0_4 t201 _ A49.out).mono ?_
                    rintro e w52 ⟨v202, rfl, ho0, hb⟩
                    refine ⟨_, rfl, ?_⟩
                    have n0_ := AsZ.mk (Kd.R_lower ho0 (zBl (by repeat (first | (with_reducible first | exact HB.out | apply aBl | apply pBd | apply dBl | refine sBl ?_ GE194.out | refine sBl ?_ GE195.out) | exact HB.out))))
                    have n1_ := AsZ.mk (bBl (g := gb194) (o := .cells #[.int .i64 a0_0, .bool false, .string a0_2, .int .i64 a0_3, .int .i64 a0_4] 32 (0, 0)) (by (with_reducible repeat first | apply bDn | apply bDr | apply bAl); exact BK194.out) hb)
                    have n2_ := AsZ.mk (bBl (g := gb195) (o := .cells #[.int .i64 0, .string (⟨#[]⟩ : ByteArray), .int .i64 0, .string (⟨#[]⟩ : ByteArray), .slice none 0 0] 40 (0, 0)) (by (with_reducible repeat first | apply bDn | apply bDr | apply bAl); exact BK195.out) hb)
                    have n3_ := AsZ.mk (tBl (by repeat (first | (with_reducible first | exact HB.out | apply aBl | apply pBd | apply dBl | refine sBl ?_ GE194.out | refine sBl ?_ GE195.out) | exact HB.out)) hb)
                    clear BK194
                    clear BK195
                    clear HB
                    have HO203 := n0_
                    have BK194 := n1_
                    have BK195 := n2_
                    have HB := n3_
                    clear n0_ n1_ n2_ n3_
                    (try clear hb)
                    (try clear hb2)
                    (try clear hk)
                    (try clear hi)
                    (try clear ho0)
                    obtain ⟨Ao53, co53, eo53⟩ := Kd.R_slice HO203.out
                    (first | subst eo53 | (injection eo53 with f1_ f2_ f3_; have f4_ := f1_.symm; have f5_ := f3_.symm; clear f1_ f2_ f3_; subst f4_; subst f5_))
                    refine hK.out _ _ ⟨(bCe BK194.out 0).trans rfl, (bCe BK194.out 1).trans rfl, (bCe BK194.out 2).trans rfl, (bCe BK194.out 3).trans rfl, (bCe BK194.out 4).trans rfl⟩ (fun hHeld => ?_)
                    clear hK K
                    refine norm_ (a' := ?_) ?_ ?_
                    rotate_left
                    · show Act.put _ (some 27) _ = _
                      simp only [Act.put, lsA, lsB, lsC, i64_w, i32_w]
                      rfl
                    refine pure_ (i := 13) (N := some 28) (v := ?_) (a' := ?_) #[true, true, true, true, true, true, true, true, true, true, true, true, true, true, false] rfl rfl (any_of HT_.out (by kernel_rfl)) (fun _ _ _ h => h) (Or.inl ⟨by rfl, ?_⟩) ?_ ?_
                    rotate_left
                    · intro w'
                      go_simp
                      with_reducible rfl
                    rotate_left
                    · simp only [Act.put, lsA, lsB, lsC, i64_w, i32_w]
                      rfl
                    refine one_ (i := 14) (N := none) #[true, true, true, true, true, true, true, true, true, true, true, true, true, true, true] rfl rfl (one_of HT_.out (by kernel_rfl)) (by decide) (fun K hK => ?_)
                    have hs54 : w52.cell? ⟨gb195, 0, none⟩ = some (.int .i64 0) := (bCe BK195.out 0).trans rfl
                    have hfs54 := bFz BK195.out 0
                    have hns54_0 := NB194_195.out
                    have hms54_0 := NB195_194.out
                    have hs55 : w52.cell? ⟨gb195, 1, none⟩ = some (.string (⟨#[]⟩ : ByteArray)) := (bCe BK195.out 1).trans rfl
                    have hfs55 := bFz BK195.out 1
                    have hns55_0 := NB194_195.out
                    have hms55_0 := NB195_194.out
                    have hs56 : w52.cell? ⟨gb195, 2, none⟩ = some (.int .i64 0) := (bCe BK195.out 2).trans rfl
                    have hfs56 := bFz BK195.out 2
                    have hns56_0 := NB194_195.out
                    have hms56_0 := NB195_194.out
                    have hs57 : w52.cell? ⟨gb195, 3, none⟩ = some (.string (⟨#[]⟩ : ByteArray)) := (bCe BK195.out 3).trans rfl
                    have hfs57 := bFz BK195.out 3
                    have hns57_0 := NB194_195.out
                    have hms57_0 := NB195_194.out
                    have hs58 : w52.cell? ⟨gb195, 4, none⟩ = some (.slice none 0 0) := (bCe BK195.out 4).trans rfl
                    have hfs58 := bFz BK195.out 4
                    have hns58_0 := NB194_195.out
                    have hms58_0 := NB195_194.out
                    refine skip_ (w1 := ?_) (by rfl) rfl ?_ ?_
                    rotate_left
                    · go_simp
                      rfl
                    refine hK.out _ _ ⟨((cell_far (p := ⟨gb195, _, none⟩) NB194_195.out _).trans (((cell_far (p := ⟨gb195, _, none⟩) NB194_195.out _).trans (((cell_far (p := ⟨gb195, _, none⟩) NB194_195.out _).trans (((cell_far (p := ⟨gb195, _, none⟩) NB194_195.out _).trans (((cell_far (p := ⟨gb195, _, none⟩) NB194_195.out _).trans (hHeld.1)))))))))), ((cell_far (p := ⟨gb195, _, none⟩) NB194_195.out _).trans (((cell_far (p := ⟨gb195, _, none⟩) NB194_195.out _).trans (((cell_far (p := ⟨gb195, _, none⟩) NB194_195.out _).trans (((cell_far (p := ⟨gb195, _, none⟩) NB194_195.out _).trans (((cell_far (p := ⟨gb195, _, none⟩) NB194_195.out _).trans (hHeld.2.1)))))))))), ((cell_far (p := ⟨gb195, _, none⟩) NB194_195.out _).trans (((cell_far (p := ⟨gb195, _, none⟩) NB194_195.out _).trans (((cell_far (p := ⟨gb195, _, none⟩) NB194_195.out _).trans (((cell_far (p := ⟨gb195, _, none⟩) NB194_195.out _).trans (((cell_far (p := ⟨gb195, _, none⟩) NB194_195.out _).trans (hHeld.2.2.1)))))))))), ((cell_far (p := ⟨gb195, _, none⟩) NB194_195.out _).trans (((cell_far (p := ⟨gb195, _, none⟩) NB194_195.out _).trans (((cell_far (p := ⟨gb195, _, none⟩) NB194_195.out _).trans (((cell_far (p := ⟨gb195, _, none⟩) NB194_195.out _).trans (((cell_far (p := ⟨gb195, _, none⟩) NB194_195.out _).trans (hHeld.2.2.2.1)))))))))), ((cell_far (p := ⟨gb195, _, none⟩) NB194_195.out _).trans (((cell_far (p := ⟨gb195, _, none⟩) NB194_195.out _).trans (((cell_far (p := ⟨gb195, _, none⟩) NB194_195.out _).trans (((cell_far (p := ⟨gb195, _, none⟩) NB194_195.out _).trans (((cell_far (p := ⟨gb195, _, none⟩) NB194_195.out _).trans (hHeld.2.2.2.2))))))))))⟩ (fun hHeld => ?_)
                    clear hK K
                    refine done_ (done_of HT_.out (by kernel_rfl)) ?_
                    try go_wp2
                    refine bodyPost_ret (results_cell_row rfl _ _ gb195 40 #[.int .i64 206, .string t196, .int .i64 t197, .string t200, .slice Ao53 t201.length co53] (0, 0) _ rfl (by (with_reducible repeat first | apply bDn | apply bDr | apply bAl); refine bPu (cs := #[.int .i64 206, .string t196, .int .i64 t197, .string t200, .slice none 0 0]) ?_ 4 _ rfl; (with_reducible repeat first | apply bDn | apply bDr | apply bAl); refine bPu (cs := #[.int .i64 206, .string t196, .int .i64 t197, .string (⟨#[]⟩ : ByteArray), .slice none 0 0]) ?_ 3 _ rfl; (with_reducible repeat first | apply bDn | apply bDr | apply bAl); refine bPu (cs := #[.int .i64 206, .string t196, .int .i64 0, .string (⟨#[]⟩ : ByteArray), .slice none 0 0]) ?_ 2 _ rfl; (with_reducible repeat first | apply bDn | apply bDr | apply bAl); refine bPu (cs := #[.int .i64 206, .string (⟨#[]⟩ : ByteArray), .int .i64 0, .string (⟨#[]⟩ : ByteArray), .slice none 0 0]) ?_ 1 _ rfl; (with_reducible repeat first | apply bDn | apply bDr | apply bAl); refine bPu (cs := #[.int .i64 0, .string (⟨#[]⟩ : ByteArray), .int .i64 0, .string (⟨#[]⟩ : ByteArray), .slice none 0 0]) ?_ 0 _ rfl; (with_reducible repeat first | apply bDn | apply bDr | apply bAl); exact BK195.out) Try.underlying40 rfl (by kernel_rfl)) rfl ?_
                    exact ⟨_, by first | rfl | (simp [eWn, eWs] <;> rfl) | (simp [*, eWn, eWs] <;> rfl), by (with_reducible repeat (first | apply Kd.R_alloc | apply Kd.R_drewN | apply Kd.R_drew)); exact Kd.R_mono (Kd.R_far (p := ⟨gb195, 4, none⟩) (Kd.R_far (p := ⟨gb195, 3, none⟩) (Kd.R_far (p := ⟨gb195, 2, none⟩) (Kd.R_far (p := ⟨gb195, 1, none⟩) (Kd.R_far (p := ⟨gb195, 0, none⟩) (Kd.R_types HO203.out BK195.out (by decide)) (fun _ hk => hk.2) (.int .i64 206)) (fun _ hk => hk.2) (.string t196)) (fun _ hk => hk.2) (.int .i64 t197)) (fun _ hk => hk.2) (.string t200)) (fun _ hk => hk.2) (.slice Ao53 t201.length co53)) (fun _ hk => trivial), by repeat (first | (with_reducible first | exact HB.out | apply aBl | apply pBd | apply dBl | refine sBl ?_ GE194.out | refine sBl ?_ GE195.out) | exact HB.out)⟩
            · rw [if_neg c29] at H
              have c29b0 : (a0_2.toList == t196.toList) = false := beq_eq_false_iff_ne.mpr c29
              have c29b1 : (a0_2.toList != t196.toList) = true := bne_iff_ne.mpr c29
              simp only [Option.some.injEq, Prod.mk.injEq] at H
              obtain ⟨rfl, rfl, rfl, rfl, rfl⟩ := H
              have hnb59 := NB194_195.out
              have hnc59 := NB195_194.out
              obtain ⟨hcz60_0, hcz60_1, hcz60_2, hcz60_3, hcz60_4⟩ := celN5 BK194.out
              obtain ⟨hfz60_0, hfz60_1, hfz60_2, hfz60_3, hfz60_4⟩ := fzN5 BK194.out
              obtain ⟨hcz61_0, hcz61_1, hcz61_2, hcz61_3, hcz61_4⟩ := celN5 BK195.out
              obtain ⟨hfz61_0, hfz61_1, hfz61_2, hfz61_3, hfz61_4⟩ := fzN5 BK195.out
              go_wp2
              refine bodyPost_ret (results_cell_row rfl _ _ gb195 40 #[.int .i64 412, .string t196, .int .i64 0, .string (⟨#[]⟩ : ByteArray), .slice none 0 0] (0, 0) _ rfl (by (with_reducible repeat first | apply bDn | apply bDr | apply bAl); refine bPu (cs := #[.int .i64 412, .string t196, .int .i64 0, .string (⟨#[]⟩ : ByteArray), .slice none 0 0]) ?_ 4 _ rfl; (with_reducible repeat first | apply bDn | apply bDr | apply bAl); refine bPu (cs := #[.int .i64 412, .string t196, .int .i64 0, .string (⟨#[]⟩ : ByteArray), .slice none 0 0]) ?_ 3 _ rfl; (with_reducible repeat first | apply bDn | apply bDr | apply bAl); refine bPu (cs := #[.int .i64 412, .string t196, .int .i64 0, .string (⟨#[]⟩ : ByteArray), .slice none 0 0]) ?_ 2 _ rfl; (with_reducible repeat first | apply bDn | apply bDr | apply bAl); refine bPu (cs := #[.int .i64 412, .string (⟨#[]⟩ : ByteArray), .int .i64 0, .string (⟨#[]⟩ : ByteArray), .slice none 0 0]) ?_ 1 _ rfl; (with_reducible repeat first | apply bDn | apply bDr | apply bAl); refine bPu (cs := #[.int .i64 0, .string (⟨#[]⟩ : ByteArray), .int .i64 0, .string (⟨#[]⟩ : ByteArray), .slice none 0 0]) ?_ 0 _ rfl; (with_reducible repeat first | apply bDn | apply bDr | apply bAl); exact BK195.out) Try.underlying40 rfl (by kernel_rfl)) rfl ?_
              exact ⟨_, by first | rfl | (simp [eWn, eWs] <;> rfl) | (simp [*, eWn, eWs] <;> rfl), by first | exact Kd.R_nil _ _ _ _ _ | exact Kd.N_nil _ _ _ _ _ | exact Kd.V_nil _ _ _ _ _ | exact Kd.Q_nil _ _ _ _ _ | exact Kd.S_nil _ _ _ _ _, by repeat (first | (with_reducible first | exact HB.out | apply aBl | apply pBd | apply dBl | refine sBl ?_ GE194.out | refine sBl ?_ GE195.out) | exact HB.out)⟩
end Go.Proofs.Ytpphnjmppkbpbaa.PAll
namespace Go.Proofs.Ytpphnjmppkbpbaa.Pure
open Go.RowKit Go.Proofs.Ytpphnjmppkbpbaa.PAll Go.Proofs.YtpphnjmppkbpbaaW.PrintWords Go.Proofs.YtpphnjmppkbpbaaW.PrintLast Go.Proofs.YtpphnjmppkbpbaaW.PrintMore
theorem ref_cr_right (p q n : Int) (hr : rightS p q = true) (hq : q ≤ n) (hn : n ≤ 160) : Ev (fun k => r4RC.f k true p q n) true := by
  have hr' := of_decide_eq_true hr
  unfold r4RC.f
  simp only [show ¬ n < -1 by omega, if_false]
  rw [decide_eq_false (by omega)]
  refine Ev.pos (fun k => ?_)
  simp only [r4RC.j0, ref_right_v, Option.bind_some, hr]
  rw [if_neg (by decide), if_pos trivial, if_pos trivial, if_neg (by omega), decide_eq_true hq]
theorem ref_cr_v (p q n : Int) (hr : rightS p q = true) (hq : q ≤ n) (hn : n ≤ 160) : Ev (fun k => r4PC.f k true p q n) (strOfNums (crText p q n)) := by
  have hr' := of_decide_eq_true hr
  have l1 := ptext_len p (by omega)
  have l2 := ptext_len (q - 1) (by omega)
  have l3 := ptext_len n (by omega)
  refine Ev.bind (ref_cr_right p q n hr hq hn) ?_
  simp only [if_true]
  refine Ev.bind (ref_print_ev p (by omega)) ?_
  rw [wrap_id (x := q - 1) (by omega)]
  simp only [size_str, show 6 + (ptext p).length ≤ 9223372036854775807 by omega, show 6 + (ptext p).length + 1 ≤ 9223372036854775807 by omega, if_true]
  refine Ev.bind (ref_print_ev (q - 1) (by omega)) ?_
  simp only [size_str, show 6 + (ptext p).length + 1 + (ptext (q - 1)).length ≤ 9223372036854775807 by omega, show 6 + (ptext p).length + 1 + (ptext (q - 1)).length + 1 ≤ 9223372036854775807 by omega, if_true, show ¬ n < 0 by omega, if_false]
  refine Ev.bind (ref_print_ev n (by omega)) ?_
  simp only [size_str, show 6 + (ptext p).length + 1 + (ptext (q - 1)).length + 1 + (ptext n).length ≤ 9223372036854775807 by omega, if_true]
  rw [unit_str, dash_str, slash_str, str_append, str_append, str_append, str_append, str_append]
  have : unitT ++ ptext p ++ [45] ++ ptext (q - 1) ++ [47] ++ ptext n = crText p q n := by unfold crText; simp
  rw [this]; exact Ev.now _
theorem ref_reply_v (a : Int) (head : Bool) (s : ByteArray) (p q v : Int) : Ev (fun k => spenceref24_Reply.f k a head s p q v) (replyV a head (bytesOf s) p q v) := by
  have hl := lenV_range a v
  have e1 : s.toList = (strOfNums (tagV a v)).toList ↔ bytesOf s = tagV a v := by rw [toList_bytes, bytesOf_str _ (tagV_isB a v)]
  refine Ev.bind (ref_tag_v a v) ?_
  unfold replyV
  simp only [ref_len_v, Option.bind_some]
  by_cases hm : ¬ mayV a v = true
  · have h0 : tagV a v = [] := (tagV_nil a v).2 (by simpa using hm)
    simp only [hm, Bool.false_eq_true, if_false, show (-1 : Int) < 0 by decide, if_true]
    rw [if_pos h0]; exact Ev.now _
  have hm : mayV a v = true := Decidable.not_not.1 hm
  have h0 : ¬ tagV a v = [] := fun h => by rw [tagV_nil, hm] at h; cases h
  rw [if_neg h0]
  simp only [hm, if_true, show ¬ lenV a v < 0 by omega, if_false]
  cases head with
  | true =>
    simp only [if_true]
    refine Ev.pos (fun k => ?_)
    simp only [spenceref24_Reply.j0]
    by_cases h1 : bytesOf s = tagV a v
    · rw [e1.2 h1, if_pos (by simp), if_pos h1]; rfl
    · have h1' : (s.toList == (strOfNums (tagV a v)).toList) = false := beq_eq_false_iff_ne.2 (fun x => h1 (e1.1 x))
      rw [h1', if_neg (by decide), if_pos trivial, if_neg h1]; rfl
  | false =>
    simp only [Bool.false_eq_true, if_false]
    refine Ev.succ ?_
    simp only [spenceref24_Reply.j0, Bool.false_eq_true, if_false]
    by_cases h1 : bytesOf s = tagV a v
    · have h1' := e1.2 h1
      simp only [h1', if_true]; rw [if_pos h1]
      simp only [ref_right_v, Option.bind_some]
      have hno : ¬ (rightS p q = true ∧ q ≤ lenV a v) → Ev (fun k => spenceref24_Reply.j1 k v (strOfNums (tagV a v)) (lenV a v) true a false s p q) (416, strOfNums (tagV a v), 0, strOfNums (crNone (lenV a v)), []) := by
        intro hn
        have l3 := ptext_len (lenV a v) (by omega)
        refine Ev.succ ?_
        simp only [spenceref24_Reply.j1, if_true]
        refine Ev.bind (ref_print_ev (lenV a v) (by omega)) ?_
        simp only [size_str, show 8 + (ptext (lenV a v)).length ≤ 9223372036854775807 by omega, if_true]
        rw [none_str, str_append]; exact Ev.now _
      by_cases h2 : rightS p q = true
      · simp only [h2, if_true]
        by_cases h3 : q > lenV a v
        · rw [decide_eq_true h3, if_neg (fun h => by omega)]
          exact hno (fun h => by omega)
        · rw [decide_eq_false h3]
          refine Ev.succ ?_
          simp only [spenceref24_Reply.j1, Bool.false_eq_true, if_false]
          refine Ev.bind (ref_cr_v p q (lenV a v) h2 (by omega) (by omega)) ?_
          refine Ev.bind (ref_body_v a v p q) ?_
          have : (True ∧ q ≤ lenV a v) := ⟨trivial, by omega⟩
          rw [if_pos this]; exact Ev.now _
      · simp only [h2, Bool.false_eq_true, if_false]
        rw [if_neg (fun h => h.1)]
        exact hno (fun h => h2 h.1)
    · have h1' : ¬ s.toList = (strOfNums (tagV a v)).toList := fun x => h1 (e1.1 x)
      simp only [h1', if_false]; rw [if_neg h1]; exact Ev.now _
end Go.Proofs.Ytpphnjmppkbpbaa.Pure
namespace Go.Proofs.Ytpphnjmppkbpbaa.Pure
open Go.RowKit Go.Proofs.Ytpphnjmppkbpbaa.Xw Go.Proofs.Ytpphnjmppkbpbaa.PAll Go.Proofs.YtpphnjmppkbpbaaW.PrintWords Go.Proofs.YtpphnjmppkbpbaaW.PrintLast Go.Proofs.YtpphnjmppkbpbaaW.PrintMore
/-- cut at the first byte b -/
def cutOf (b : Int) : List Int → List Int × List Int × Bool
  | [] => ([], [], false)
  | x :: l => if x = b then ([], l, true) else (x :: (cutOf b l).1, (cutOf b l).2.1, (cutOf b l).2.2)
theorem cutOf_no (b : Int) (l : List Int) (h : (cutOf b l).2.2 = false) : (cutOf b l).1 = l ∧ (cutOf b l).2.1 = [] ∧ b ∉ l := by
  induction l with
  | nil => simp [cutOf]
  | cons x l ih =>
    unfold cutOf at h ⊢
    by_cases e : x = b
    · rw [if_pos e] at h; cases h
    · rw [if_neg e] at h ⊢
      have := ih h
      refine ⟨?_, this.2.1, ?_⟩
      · dsimp only; rw [this.1]
      · intro hm; rcases List.mem_cons.1 hm with h1 | h1
        · exact e h1.symm
        · exact this.2.2 h1
theorem cutOf_yes (b : Int) (l : List Int) (h : (cutOf b l).2.2 = true) : l = (cutOf b l).1 ++ b :: (cutOf b l).2.1 ∧ b ∉ (cutOf b l).1 := by
  induction l with
  | nil => simp [cutOf] at h
  | cons x l ih =>
    unfold cutOf at h ⊢
    by_cases e : x = b
    · rw [if_pos e]; subst e; simp
    · rw [if_neg e] at h ⊢
      have := ih h
      refine ⟨?_, ?_⟩
      · dsimp only; rw [List.cons_append, ← this.1]
      · intro hm; rcases List.mem_cons.1 hm with h1 | h1
        · exact e h1.symm
        · exact this.2 h1
theorem cutOf_mk (b : Int) (p q : List Int) (h : b ∉ p) : cutOf b (p ++ b :: q) = (p, q, true) := by
  induction p with
  | nil => simp [cutOf]
  | cons x p ih =>
    have h1 : ¬ x = b := fun e => h (by rw [e]; exact List.mem_cons_self)
    have h2 : b ∉ p := fun e => h (List.mem_cons_of_mem _ e)
    rw [List.cons_append, cutOf, if_neg h1, ih h2]
theorem cutOf_none (b : Int) (p : List Int) (h : b ∉ p) : cutOf b p = (p, [], false) := by
  induction p with
  | nil => simp [cutOf]
  | cons x p ih =>
    have h1 : ¬ x = b := fun e => h (by rw [e]; exact List.mem_cons_self)
    have h2 : b ∉ p := fun e => h (List.mem_cons_of_mem _ e)
    rw [cutOf, if_neg h1, ih h2]
theorem idx_i8 (l : List UInt8) (b : Int) (h : isB b) : Lib.indexByte l b.toNat.toUInt8 = if (cutOf b (i8s l)).2.2 then ((cutOf b (i8s l)).1.length : Int) else -1 := by
  induction l with
  | nil => simp [Lib.indexByte, i8s, cutOf]
  | cons x l ih =>
    unfold isB at h
    have hx : (x == b.toNat.toUInt8) = decide ((x.toNat : Int) = b) := by
      rw [Bool.eq_iff_iff, beq_iff_eq, decide_eq_true_iff]
      constructor
      · intro e; rw [e]; simp; omega
      · intro e; apply UInt8.toNat_inj.1; simp; omega
    unfold Lib.indexByte
    rw [hx, ih]
    have e3 : i8s (x :: l) = (x.toNat : Int) :: i8s l := rfl
    rw [e3, cutOf]
    by_cases e : (x.toNat : Int) = b
    · rw [if_pos e, decide_eq_true e]; rfl
    · rw [if_neg e, decide_eq_false e]
      dsimp only
      rw [if_neg (by decide)]
      by_cases hc : (cutOf b (i8s l)).2.2 = true
      · rw [if_pos hc, if_pos hc, if_neg (by simp), List.length_cons]; omega
      · rw [if_neg hc, if_neg hc]; rfl
theorem cut_eq (s : ByteArray) (b : Int) (hb : isB b) (hs : s.size ≤ 9223372036854775806) : text_Cut.f s b = some (strOfNums (cutOf b (bytesOf s)).1, strOfNums (cutOf b (bytesOf s)).2.1, (cutOf b (bytesOf s)).2.2) := by
  unfold text_Cut.f strings_IndexByte.f idxb
  rw [idx_i8 _ _ hb]
  have e0 : i8s s.data.toList = bytesOf s := rfl
  rw [e0]
  simp only [Option.bind_some]
  cases hc : (cutOf b (bytesOf s)).2.2
  · obtain ⟨h1, h2, -⟩ := cutOf_no b _ hc
    rw [if_neg (by decide : ¬ false = true), if_pos (by decide), h1, h2, str_bytes]; rfl
  · obtain ⟨h1, -⟩ := cutOf_yes b _ hc
    have hl := congrArg List.length h1
    rw [bytesOf_length, List.length_append, List.length_cons] at hl
    rw [if_pos rfl, if_neg (by omega), if_pos (by omega), if_pos (by omega), wrap_id (by omega), if_pos (by omega), if_pos (by omega), ext_str, ext_str, take_size]
    generalize (cutOf b (bytesOf s)).1 = p at h1 hl ⊢
    generalize (cutOf b (bytesOf s)).2.1 = q at h1 hl ⊢
    rw [h1]
    congr 3
    · rw [List.drop_zero, Int.toNat_natCast, List.take_left' rfl]
    · congr 1
      have e1 : ((p.length : Int) + 1).toNat = p.length + 1 := by omega
      have e2 : p.length + 1 - p.length = 1 := by omega
      rw [e1, List.drop_append, List.drop_of_length_le (by omega), List.nil_append, e2]; rfl
end Go.Proofs.Ytpphnjmppkbpbaa.Pure
namespace Go.Proofs.Ytpphnjmppkbpbaa.Pure
open Go.RowKit Go.Proofs.Ytpphnjmppkbpbaa.Xw Go.Proofs.Ytpphnjmppkbpbaa.PAll Go.Proofs.YtpphnjmppkbpbaaW.PrintWords Go.Proofs.YtpphnjmppkbpbaaW.PrintLast Go.Proofs.YtpphnjmppkbpbaaW.PrintMore
theorem lowI_isB (b : Int) (h : isB b) : isB (lowI b) := by unfold isB lowI at *; split <;> omega
theorem lower_eq (s : ByteArray) (hs : s.size ≤ 9223372036854775807) : text_Lower.f s = some (strOfNums ((bytesOf s).map lowI)) := by unfold text_Lower.f; rw [if_pos hs]
theorem fold_eq (s t : ByteArray) (hs : s.size ≤ 9223372036854775807) (ht : t.size ≤ 9223372036854775807) : text_Fold.f s t = some ((strOfNums ((bytesOf s).map lowI)).toList == (strOfNums ((bytesOf t).map lowI)).toList) := by
  unfold text_Fold.f
  rw [lower_eq s hs, lower_eq t ht]; rfl
end Go.Proofs.Ytpphnjmppkbpbaa.Pure
namespace Go.Proofs.Ytpphnjmppkbpbaa.Pure
open Go.RowKit Go.Proofs.Ytpphnjmppkbpbaa.Xw Go.Proofs.Ytpphnjmppkbpbaa.PAll Go.Proofs.YtpphnjmppkbpbaaW.PrintWords Go.Proofs.YtpphnjmppkbpbaaW.PrintLast Go.Proofs.YtpphnjmppkbpbaaW.PrintMore
theorem ref_cut_loop (s : ByteArray) (b : Int) (hs : s.size ≤ 9223372036854775807) (d : Nat) : ∀ i : Int, 0 ≤ i → i ≤ s.size → (s.size : Int) - i = d → b ∉ (bytesOf s).take i.toNat →
    Ev (fun k => r1Cut.l0 k s b i) (strOfNums (cutOf b (bytesOf s)).1, strOfNums (cutOf b (bytesOf s)).2.1, (cutOf b (bytesOf s)).2.2) := by
  induction d with
  | zero =>
    intro i h0 h1 hd hn
    refine Ev.pos (fun k => ?_)
    simp only [r1Cut.l0]
    rw [List.take_of_length_le (by rw [bytesOf_length]; omega)] at hn
    rw [if_neg (by omega), cutOf_none b _ hn, str_bytes]; rfl
  | succ d ih =>
    intro i h0 h1 hd hn
    have hi : i < s.size := by omega
    have hdr := bytes_drop s i h0 hi
    by_cases hb : bt s i = b
    · refine Ev.pos (fun k => ?_)
      have he : bytesOf s = (bytesOf s).take i.toNat ++ b :: (bytesOf s).drop (i + 1).toNat := by
        conv => lhs; rw [← List.take_append_drop i.toNat (bytesOf s), hdr, hb]
      have hc := cutOf_mk b _ ((bytesOf s).drop (i + 1).toNat) hn
      rw [← he] at hc
      simp only [r1Cut.l0]
      rw [if_pos hi, if_pos h0, if_pos hb, if_pos h1, wrap_id (by omega), if_pos (by omega), if_pos (by omega), ext_str, ext_str, take_size, hc]
      rfl
    · refine Ev.step (fun k => ?_) (ih (i + 1) (by omega) (by omega) (by omega) ?_)
      · simp only [r1Cut.l0]
        rw [if_pos hi, if_pos h0, if_neg hb, wrap_id (by omega)]
      · rw [bytes_take s i h0 hi, List.mem_append]
        rintro (h | h)
        · exact hn h
        · exact hb (List.mem_singleton.1 h).symm
theorem ref_cut_ev (s : ByteArray) (b : Int) (hs : s.size ≤ 9223372036854775807) : Ev (fun k => r1Cut.f k s b) (strOfNums (cutOf b (bytesOf s)).1, strOfNums (cutOf b (bytesOf s)).2.1, (cutOf b (bytesOf s)).2.2) :=
  ref_cut_loop s b hs s.size 0 (by omega) (by omega) (by omega) (by simp)
theorem ref_lower_loop (s : ByteArray) (hs : s.size ≤ 9223372036854775806) (d : Nat) : ∀ (i : Int), 0 ≤ i → i ≤ s.size → (s.size : Int) - i = d →
    Ev (fun k => r1Low.l0 k s (strOfNums (((bytesOf s).take i.toNat).map lowI)) i) (strOfNums ((bytesOf s).map lowI)) := by
  induction d with
  | zero =>
    intro i h0 h1 hd
    refine Ev.pos (fun k => ?_)
    simp only [r1Low.l0]
    rw [if_neg (by omega), List.take_of_length_le (by rw [bytesOf_length]; omega)]
  | succ d ih =>
    intro i h0 h1 hd
    have hi : i < s.size := by omega
    have hb := bt_range s i
    have hlen : (strOfNums (((bytesOf s).take i.toNat).map lowI)).size = i.toNat := by
      rw [size_str, List.length_map, List.length_take, bytesOf_length]; omega
    have hadd : ∀ y, y = lowI (bt s i) → strOfNums (((bytesOf s).take i.toNat).map lowI) ++ strOfNums [y] = strOfNums (((bytesOf s).take (i + 1).toNat).map lowI) := by
      intro y hy
      rw [str_append, bytes_take s i h0 hi, List.map_append, hy]; rfl
    have hs1 : ∀ y : Int, (strOfNums [y]).size = 1 := fun y => size_str [y]
    refine Ev.step (fun k => ?_) (ih (i + 1) (by omega) (by omega) (by omega))
    simp only [r1Low.l0, Option.bind_some, hlen, hs1]
    rw [if_pos hi, if_pos h0, wrap_id (by omega)]
    by_cases c1 : bt s i ≥ 65
    · rw [if_pos c1]
      by_cases c2 : bt s i ≤ 90
      · rw [if_pos c2, if_pos (by omega), hadd _ (by unfold lowI; rw [if_pos ⟨c1, c2⟩]; omega)]
      · rw [if_neg c2, if_pos (by omega), hadd _ (by unfold lowI; rw [if_neg (by omega)])]
    · rw [if_neg c1, if_pos (by omega), hadd _ (by unfold lowI; rw [if_neg (by omega)])]
theorem ref_lower_ev (s : ByteArray) (hs : s.size ≤ 9223372036854775806) : Ev (fun k => r1Low.f k s) (strOfNums ((bytesOf s).map lowI)) := by
  have := ref_lower_loop s hs s.size 0 (by omega) (by omega) (by omega)
  rw [Int.toNat_zero, List.take_zero] at this
  exact this
end Go.Proofs.Ytpphnjmppkbpbaa.Pure
namespace Go.Proofs.Ytpphnjmppkbpbaa.Pure
open Go.RowKit Go.Proofs.Ytpphnjmppkbpbaa.PAll Go.Proofs.YtpphnjmppkbpbaaW.PrintWords Go.Proofs.YtpphnjmppkbpbaaW.PrintLast Go.Proofs.YtpphnjmppkbpbaaW.PrintMore
def maxN : Int := 4611686018427387903
/-- what a text's bytes say -/
def parse (l : List Int) : Int × Int := if l = [] ∨ l.all isDig = false then (0, 3) else if fval 0 l > maxN then (0, 9) else (fval 0 l, 0)
theorem digit_eq (b : Int) (h : 0 ≤ b ∧ b ≤ 255) : nums_digit.f b = some (if isDig b then b - 48 else 0, isDig b) := by
  unfold nums_digit.f isDig
  by_cases h1 : b < 48
  · rw [if_pos h1]; have : ¬ 48 ≤ b := by omega
    simp [this]
  · rw [if_neg h1]
    by_cases h2 : b > 57
    · rw [if_pos h2]; have : ¬ b ≤ 57 := by omega
      simp [this]
    · rw [if_neg h2]
      have h3 : 48 ≤ b := by omega
      have h4 : b ≤ 57 := by omega
      simp only [h3, h4, decide_true, Bool.and_self, if_true]
      have : (b - 48) % 256 = b - 48 := by omega
      rw [this]
/-- the loop's answer from a place on -/
def run (n : Int) (over : Bool) (l : List Int) : Int × Int := if l.all isDig = false then (0, 3) else if over = true ∨ fval n l > maxN then (0, 9) else (fval n l, 0)
theorem parse_loop (s : ByteArray) (hs : s.size ≤ 9223372036854775806) (hs0 : 0 < s.size) (d : Nat) : ∀ (i n : Int) (over : Bool), 0 ≤ i → i ≤ s.size → (s.size : Int) - i = d → 0 ≤ n → n ≤ maxN →
    Ev (fun k => nums_Parse.l0 k s n over (s.size : Int) i) (run n over ((bytesOf s).drop i.toNat)) := by
  induction d with
  | zero =>
    intro i n over h0 h1 hd hn hn2
    refine Ev.pos (fun k => ?_)
    have he : ¬ s.toList = ([] : List UInt8) := by rw [toList_nil, bytesOf_eq_nil]; omega
    simp only [nums_Parse.l0]
    rw [if_neg (by omega), if_neg he, List.drop_of_length_le (by rw [bytesOf_length]; omega)]
    have hf : fval n [] = n := rfl
    have hx : ¬ n > maxN := by omega
    cases over <;> simp [run, hf, hx]
  | succ d ih =>
    intro i n over h0 h1 hd hn hn2
    have hi : i < s.size := by omega
    have hb := bt_range s i
    have hw : wrap64 (i + 1) = i + 1 := wrap_id (by omega)
    rw [bytes_drop s i h0 hi]
    by_cases hdg : isDig (bt s i) = true
    · have hd2 := (isDig_iff _).1 hdg
      cases over with
      | true =>
        obtain ⟨K, hK⟩ := ih (i + 1) n true (by omega) (by omega) (by omega) hn hn2
        refine ⟨K + 1, fun k hk => ?_⟩
        obtain ⟨k, rfl⟩ : ∃ j, k = j + 1 := ⟨k - 1, by omega⟩
        have h := hK k (by omega)
        dsimp only at h
        simp only [nums_Parse.l0, digit_eq _ hb, Option.bind_some, hw]
        rw [if_pos hi, if_pos h0, if_pos hi, if_pos hdg, if_pos trivial, h]
        simp [run, hdg]
      | false =>
        have e1 : wrap64 (4611686018427387903 - (bt s i - 48)) = 4611686018427387903 - (bt s i - 48) := wrap_id (by omega)
        have e2 : Int.tdiv (4611686018427387903 - (bt s i - 48)) 10 = (4611686018427387903 - (bt s i - 48)) / 10 := Int.tdiv_eq_ediv_of_nonneg (by omega)
        have e3 : wrap64 ((4611686018427387903 - (bt s i - 48)) / 10) = (4611686018427387903 - (bt s i - 48)) / 10 := wrap_id (by omega)
        by_cases hov : n > (4611686018427387903 - (bt s i - 48)) / 10
        · obtain ⟨K, hK⟩ := ih (i + 1) n true (by omega) (by omega) (by omega) hn hn2
          refine ⟨K + 1, fun k hk => ?_⟩
          obtain ⟨k, rfl⟩ : ∃ j, k = j + 1 := ⟨k - 1, by omega⟩
          have h := hK k (by omega)
          dsimp only at h
          simp only [nums_Parse.l0, digit_eq _ hb, Option.bind_some, hw, hdg, if_true, e1, e2, e3]
          rw [if_pos hi, if_pos h0, if_pos hi, if_neg (by decide), if_pos hov, h]
          by_cases hall : ((bytesOf s).drop (i + 1).toNat).all isDig = true
          · have hge := fval_ge ((bytesOf s).drop (i + 1).toNat) (10 * n + (bt s i - 48)) (by omega) hall
            have hgt : fval n (bt s i :: (bytesOf s).drop (i + 1).toNat) > maxN := by rw [fval_cons]; unfold maxN; omega
            simp [run, hdg, hgt]
          · simp [run, hdg, hall]
        · have hmx : 10 * n + (bt s i - 48) ≤ maxN := by unfold maxN; omega
          have hmx' : 10 * n + (bt s i - 48) ≤ 4611686018427387903 := hmx
          have e4 : wrap64 (10 * n) = 10 * n := wrap_id (by omega)
          have e5 : wrap64 (10 * n + (bt s i - 48)) = 10 * n + (bt s i - 48) := wrap_id (by omega)
          obtain ⟨K, hK⟩ := ih (i + 1) (10 * n + (bt s i - 48)) false (by omega) (by omega) (by omega) (by omega) hmx
          refine ⟨K + 1, fun k hk => ?_⟩
          obtain ⟨k, rfl⟩ : ∃ j, k = j + 1 := ⟨k - 1, by omega⟩
          have h := hK k (by omega)
          dsimp only at h
          simp only [nums_Parse.l0, digit_eq _ hb, Option.bind_some, hw, hdg, if_true, e1, e2, e3, e4, e5]
          rw [if_pos hi, if_pos h0, if_pos hi, if_neg (by decide), if_neg hov, h]
          simp [run, hdg, fval_cons]
    · refine Ev.pos (fun k => ?_)
      have hf : isDig (bt s i) = false := by simpa using hdg
      simp only [nums_Parse.l0, digit_eq _ hb, Option.bind_some, hf]
      rw [if_pos hi, if_pos h0, if_pos hi, if_neg (by decide)]
      simp [run, hf]
theorem parse_ev (s : ByteArray) (hs : s.size ≤ 9223372036854775806) : Ev (fun k => nums_Parse.f k s) (parse (bytesOf s)) := by
  by_cases h0 : s.size = 0
  · refine Ev.pos (fun k => ?_)
    have hn : bytesOf s = [] := (bytesOf_eq_nil s).2 h0
    have he : s.toList = ([] : List UInt8) := (toList_nil s).2 hn
    simp only [nums_Parse.f, nums_Parse.l0]
    rw [if_neg (by omega), if_pos he, hn]
    simp [parse]
  · have := parse_loop s hs (by omega) s.size 0 0 false (by omega) (by omega) (by omega) (by omega) (by unfold maxN; omega)
    simp only [Int.toNat_zero, List.drop_zero] at this
    have hn : ¬ bytesOf s = [] := fun h => h0 (by rw [← bytesOf_length, h]; rfl)
    have e : run 0 false (bytesOf s) = parse (bytesOf s) := by simp [run, parse, hn]
    rw [e] at this
    exact this
end Go.Proofs.Ytpphnjmppkbpbaa.Pure
namespace Go.Proofs.Ytpphnjmppkbpbaa.PureQ
open Go.RowKit Go.Proofs.Ytpphnjmppkbpbaa.Pure Go.Proofs.Ytpphnjmppkbpbaa.Xw Go.Proofs.Ytpphnjmppkbpbaa.PAll Go.Proofs.YtpphnjmppkbpbaaW.PrintWords Go.Proofs.YtpphnjmppkbpbaaW.PrintLast Go.Proofs.YtpphnjmppkbpbaaW.PrintMore
def z3 : Bool × Int × Int × Int × Int := (false, 0, 0, 0, 3)
def rightS (p q : Int) : Bool := decide (0 ≤ p ∧ p < q ∧ q ≤ 4611686018427387903)
theorem span_right_c (p q : Int) : span_Right.f p q = some (rightS p q) := by
  unfold span_Right.f rightS
  by_cases h1 : p ≥ 0
  · rw [if_pos h1]
    by_cases h2 : p < q
    · rw [if_pos h2]; have : 0 ≤ p := h1
      simp [h2, this]
    · rw [if_neg h2]; simp [h2]
  · rw [if_neg h1]; have : ¬ 0 ≤ p := h1
    simp [this]
def rightC (kn : Bool) (f t tot : Int) : Bool := decide (tot = -1 ∨ (0 ≤ tot ∧ tot ≤ 4611686018427387903)) && (if kn then (rightS f t && decide (tot = -1 ∨ t ≤ tot)) else (decide (f = 0 ∧ t = 0) && decide (tot ≠ -1)))
theorem fits_c (a lo hi : Int) : nums_Fits.f a lo hi = some (decide (lo ≤ a ∧ a ≤ hi)) := by
  unfold nums_Fits.f
  by_cases h : a ≥ lo
  · rw [if_pos h]; have : lo ≤ a := h
    simp [this]
  · rw [if_neg h]; have : ¬ lo ≤ a := h
    simp [this]
theorem right_c (kn : Bool) (f t tot : Int) : Ev (fun k => crange_Right.f k kn f t tot) (rightC kn f t tot) := by
  have key : ∀ b : Bool, b = !decide (tot = -1 ∨ (0 ≤ tot ∧ tot ≤ 4611686018427387903)) → Ev (fun k => crange_Right.j0 k b kn f t tot) (rightC kn f t tot) := by
    intro b hb
    refine Ev.pos (fun k => ?_)
    simp only [crange_Right.j0, span_right_c, Option.bind_some]
    unfold rightC
    cases hd : decide (tot = -1 ∨ (0 ≤ tot ∧ tot ≤ 4611686018427387903))
    · rw [hb, hd, if_pos (by decide)]; rfl
    · rw [hb, hd, if_neg (by decide)]
      cases kn
      · rw [if_neg (by decide)]
        by_cases h1 : f = 0 <;> by_cases h2 : t = 0 <;> by_cases h3 : tot = -1 <;> simp [h1, h2, h3]
      · rw [if_pos rfl]
        by_cases h1 : rightS f t = true
        · rw [if_pos h1]
          by_cases h3 : tot = -1 <;> simp [h1, h3]
        · rw [if_neg h1]; simp [h1]
  unfold crange_Right.f
  by_cases h : tot = -1
  · simp only [h, if_true]
    have := key false (by rw [decide_eq_true (.inl h)]; rfl)
    rw [h] at this; exact this
  · simp only [h, if_false, fits_c, Option.bind_some]
    refine key _ ?_
    congr 1
    rw [decide_eq_decide]; omega
def worse (bad e : Int) : Int := if e = 3 then 3 else if bad = 0 then e else bad
def contE (bad : Int) (kn : Bool) (f t tot : Int) : Bool × Int × Int × Int × Int := if bad = 0 then (if rightC kn f t tot then (kn, f, t, tot, 0) else z3) else (false, 0, 0, 0, bad)
def contT (x : List Int) (bad : Int) (kn : Bool) (f t : Int) : Bool × Int × Int × Int × Int := if x = [42] then contE bad kn f t (-1) else contE (worse bad (parse x).2) kn f t (parse x).1
def contA (d1 d2 : List Int) : Bool × Int × Int × Int × Int :=
  if d1 = [42] then contT d2 0 false 0 0
  else if (cutOf 45 d1).2.2 = true then contT d2 (worse (worse 0 (parse (cutOf 45 d1).1).2) (parse (cutOf 45 d1).2.1).2) true (parse (cutOf 45 d1).1).1 (wrap64 ((parse (cutOf 45 d1).2.1).1 + 1))
  else z3
def contOf (l : List Int) : Bool × Int × Int × Int × Int :=
  if (cutOf 32 l).2.2 = true then (if (cutOf 47 (cutOf 32 l).2.1).2.2 = true then (if (cutOf 32 l).1.map lowI = [98, 121, 116, 101, 115] then contA (cutOf 47 (cutOf 32 l).2.1).1 (cutOf 47 (cutOf 32 l).2.1).2.1 else z3) else z3) else z3
theorem cut_facts (b : Int) (l : List Int) (h : ∀ x ∈ l, isB x) : (cutOf b l).1.length ≤ l.length ∧ (cutOf b l).2.1.length ≤ l.length ∧ (∀ x ∈ (cutOf b l).1, isB x) ∧ (∀ x ∈ (cutOf b l).2.1, isB x) := by
  cases hc : (cutOf b l).2.2
  · obtain ⟨h1, h2, -⟩ := cutOf_no b l hc
    rw [h1, h2]; exact ⟨Nat.le_refl _, Nat.zero_le _, h, by simp⟩
  · obtain ⟨h1, -⟩ := cutOf_yes b l hc
    have hl := congrArg List.length h1
    rw [List.length_append, List.length_cons] at hl
    refine ⟨by omega, by omega, fun x hx => h x ?_, fun x hx => h x ?_⟩
    · rw [h1]; exact List.mem_append.2 (.inl hx)
    · rw [h1]; exact List.mem_append.2 (.inr (List.mem_cons_of_mem _ hx))
theorem number_c (bad : Int) (x : List Int) (hx : ∀ b ∈ x, isB b) (hl : x.length ≤ 1000) : Ev (fun k => crNum.f k bad (strOfNums x)) ((parse x).1, worse bad (parse x).2) := by
  have hp := parse_ev (strOfNums x) (by rw [size_str]; omega)
  rw [bytesOf_str _ hx] at hp
  refine Ev.bind hp (Ev.all fun k => ?_)
  unfold worse
  by_cases h1 : (parse x).2 = 3
  · rw [if_pos h1, if_pos h1, h1]
  · rw [if_neg h1, if_neg h1]
    by_cases h2 : bad = 0
    · rw [if_pos h2, if_pos h2]
    · rw [if_neg h2, if_neg h2]
theorem star_iff (x : List Int) (hx : ∀ b ∈ x, isB b) : (strOfNums x).toList = ([42] : List UInt8) ↔ x = [42] := by
  have e : ([42] : List UInt8) = (strOfNums [42]).toList := by rw [ByteArray.toList_eq]; rfl
  rw [e, toList_bytes, bytesOf_str _ hx, bytesOf_str _ (by simp [isB])]
theorem e_c (bad : Int) (kn : Bool) (f t tot : Int) : Ev (fun k => crange_Parse.e k bad kn f t tot) (contE bad kn f t tot) := by
  unfold crange_Parse.e contE
  by_cases h : bad = 0
  · simp only [h, if_true]
    refine Ev.bind (right_c kn f t tot) (Ev.all fun k => ?_)
    cases rightC kn f t tot <;> rfl
  · simp only [h, if_false]; exact Ev.now _
theorem t_c (x : List Int) (hx : ∀ b ∈ x, isB b) (hl : x.length ≤ 1000) (bad : Int) (kn : Bool) (f t : Int) : Ev (fun k => crange_Parse.t k (strOfNums x) bad kn f t) (contT x bad kn f t) := by
  unfold crange_Parse.t contT
  by_cases h : x = [42]
  · simp only [(star_iff x hx).2 h, if_true]; rw [if_pos h]; exact e_c _ _ _ _ _
  · have h' : ¬ (strOfNums x).toList = ([42] : List UInt8) := fun e => h ((star_iff x hx).1 e)
    simp only [h', if_false]; rw [if_neg h]
    exact Ev.bind (number_c bad x hx hl) (e_c _ _ _ _ _)
theorem unit_low : (strOfNums ((bytesOf (⟨#[98, 121, 116, 101, 115]⟩ : ByteArray)).map lowI)) = strOfNums [98, 121, 116, 101, 115] := by decide
theorem crange_parse_ev (s : ByteArray) (hs : s.size ≤ 1000) : Ev (fun k => crange_Parse.f k s) (contOf (bytesOf s)) := by
  have f1 := cut_facts 32 (bytesOf s) (bytesOf_isB s)
  rw [bytesOf_length] at f1
  have f2 := cut_facts 47 (cutOf 32 (bytesOf s)).2.1 f1.2.2.2
  unfold crange_Parse.f contOf
  have b32 : isB 32 := by unfold isB; omega
  have b47 : isB 47 := by unfold isB; omega
  have b45 : isB 45 := by unfold isB; omega
  have q2 := cut_eq (strOfNums (cutOf 32 (bytesOf s)).2.1) 47 b47 (by rw [size_str]; omega)
  rw [bytesOf_str _ f1.2.2.2] at q2
  rw [cut_eq s 32 b32 (by omega)]
  simp only [Option.bind_some, q2]
  generalize (cutOf 47 (cutOf 32 (bytesOf s)).2.1).1 = d1 at f2
  generalize (cutOf 47 (cutOf 32 (bytesOf s)).2.1).2.1 = d2 at f2
  generalize (cutOf 47 (cutOf 32 (bytesOf s)).2.1).2.2 = d3
  generalize (cutOf 32 (bytesOf s)).1 = c1 at f1
  cases (cutOf 32 (bytesOf s)).2.2
  · exact Ev.now _
  cases d3
  · exact Ev.now _
  simp only [if_true]
  have hf := fold_eq (strOfNums c1) (⟨#[98, 121, 116, 101, 115]⟩ : ByteArray) (by rw [size_str]; omega) (by decide)
  rw [bytesOf_str _ f1.2.2.1, unit_low, toList_beq, bytesOf_str _ (by intro b hb; obtain ⟨x, hx, rfl⟩ := List.mem_map.1 hb; exact lowI_isB x (f1.2.2.1 x hx)), bytesOf_str _ (by simp [isB])] at hf
  rw [hf]
  simp only [Option.bind_some]
  by_cases hu : c1.map lowI = [98, 121, 116, 101, 115]
  · simp only [hu, decide_true, if_true]
    unfold contA
    by_cases hA : d1 = [42]
    · simp only [(star_iff d1 f2.2.2.1).2 hA, if_true]; rw [if_pos hA]
      exact t_c d2 f2.2.2.2 (by omega) _ _ _ _
    · have hA' : ¬ (strOfNums d1).toList = ([42] : List UInt8) := fun e => hA ((star_iff d1 f2.2.2.1).1 e)
      simp only [hA', if_false]; rw [if_neg hA]
      have q3 := cut_eq (strOfNums d1) 45 b45 (by rw [size_str]; omega)
      rw [bytesOf_str _ f2.2.2.1] at q3
      have f3 := cut_facts 45 d1 f2.2.2.1
      rw [q3]
      simp only [Option.bind_some]
      cases (cutOf 45 d1).2.2
      · exact Ev.now _
      · simp only [if_true]
        refine Ev.bind (number_c 0 _ f3.2.2.1 (by omega)) ?_
        refine Ev.bind (number_c _ _ f3.2.2.2 (by omega)) ?_
        exact t_c d2 f2.2.2.2 (by omega) _ _ _ _
  · simp only [hu, decide_false, Bool.false_eq_true, if_false]; exact Ev.now _
end Go.Proofs.Ytpphnjmppkbpbaa.PureQ
namespace Go.Proofs.Ytpphnjmppkbpbaa.PureQ
open Go.RowKit Go.Proofs.Ytpphnjmppkbpbaa.Pure Go.Proofs.Ytpphnjmppkbpbaa.Xw Go.Proofs.Ytpphnjmppkbpbaa.PAll Go.Proofs.YtpphnjmppkbpbaaW.PrintWords Go.Proofs.YtpphnjmppkbpbaaW.PrintLast Go.Proofs.YtpphnjmppkbpbaaW.PrintMore
theorem ref_right_c (p q : Int) : spenceref04_Right.f p q = some (rightS p q) := by
  unfold spenceref04_Right.f rightS
  by_cases h1 : p ≥ 0
  · rw [if_pos h1]
    by_cases h2 : q > p
    · rw [if_pos h2]; have : 0 ≤ p := h1
      have h3 : p < q := h2
      simp [h3, this]
    · rw [if_neg h2]; have h3 : ¬ p < q := h2
      simp [h3]
  · rw [if_neg h1]; have : ¬ 0 ≤ p := h1
    simp [this]
theorem ref_right_content (kn : Bool) (f t tot : Int) : Ev (fun k => r4RC.f k kn f t tot) (rightC kn f t tot) := by
  have key : ∀ b : Bool, b = !decide (tot = -1 ∨ (0 ≤ tot ∧ tot ≤ 4611686018427387903)) → Ev (fun k => r4RC.j0 k b kn f t tot) (rightC kn f t tot) := by
    intro b hb
    refine Ev.pos (fun k => ?_)
    simp only [r4RC.j0, ref_right_c, Option.bind_some]
    unfold rightC
    by_cases hd : (tot = -1 ∨ (0 ≤ tot ∧ tot ≤ 4611686018427387903))
    · rw [hb, decide_eq_true hd, if_neg (by decide)]
      cases kn
      · rw [if_neg (by decide)]
        have e : decide (tot ≥ 0) = decide (tot ≠ -1) := by rw [decide_eq_decide]; omega
        rw [e]
        by_cases h1 : f = 0 <;> by_cases h2 : t = 0 <;> simp [h1, h2]
      · rw [if_pos rfl]
        by_cases h1 : rightS f t = true
        · rw [if_pos h1]
          by_cases h3 : tot = -1 <;> simp [h1, h3]
        · rw [if_neg h1]; simp [h1]
    · rw [hb, decide_eq_false hd, if_pos (by decide)]; rfl
  unfold r4RC.f
  by_cases h : tot < -1
  · simp only [h, if_true]; exact key true (by rw [decide_eq_false (by omega)]; rfl)
  · simp only [h, if_false]
    refine key _ ?_
    rw [Bool.eq_iff_iff]; simp; omega
end Go.Proofs.Ytpphnjmppkbpbaa.PureQ
namespace Go.Proofs.Ytpphnjmppkbpbaa.Pure
open Go.RowKit Go.Proofs.Ytpphnjmppkbpbaa.PAll Go.Proofs.YtpphnjmppkbpbaaW.PrintWords Go.Proofs.YtpphnjmppkbpbaaW.PrintLast Go.Proofs.YtpphnjmppkbpbaaW.PrintMore
theorem ref_digit_eq (b : Int) : spenceref01_Digit.f b = some (isDig b) := by
  unfold spenceref01_Digit.f isDig
  by_cases h : b ≥ 48
  · rw [if_pos h]; have : 48 ≤ b := h
    simp [this]
  · rw [if_neg h]; have : ¬ 48 ≤ b := h
    simp [this]
theorem less_lex : ∀ (x y : List UInt8), Op.bytesLess x y = lexlt (i8s x) (i8s y)
  | [], [] => by simp [Op.bytesLess, lexlt, i8s]
  | [], _ :: _ => by simp [Op.bytesLess, lexlt, i8s]
  | _ :: _, [] => by simp [Op.bytesLess, lexlt, i8s]
  | a :: x, b :: y => by
    have h := less_lex x y
    have e1 : decide (a < b) = decide ((a.toNat : Int) < (b.toNat : Int)) := by rw [decide_eq_decide, UInt8.lt_iff_toNat_lt]; omega
    have e2 : (a == b) = decide ((a.toNat : Int) = (b.toNat : Int)) := by
      by_cases h : a = b
      · subst h; simp
      · have : ¬ (a.toNat : Int) = (b.toNat : Int) := fun e => h (UInt8.toNat_inj.1 (by omega))
        rw [decide_eq_false this]; simpa using h
    simp only [Op.bytesLess, i8s, List.map_cons, lexlt]
    rw [e1, e2, h]; rfl
theorem i8s_inj (x y : List UInt8) : x = y ↔ i8s x = i8s y := by
  unfold i8s
  exact (List.map_inj_right (fun a b h => UInt8.toNat_inj.1 (Int.ofNat_inj.1 h))).symm
theorem sum_loop (s : ByteArray) (hs : s.size ≤ 100) (d : Nat) : ∀ (i n : Int), 0 ≤ i → i ≤ s.size → (s.size : Int) - i = d → 0 ≤ n → ((bytesOf s).drop i.toNat).all isDig = true → fval n ((bytesOf s).drop i.toNat) ≤ maxN →
    Ev (fun k => r1Pars.l2 k s n i) (fval n ((bytesOf s).drop i.toNat), 0) := by
  induction d with
  | zero =>
    intro i n h0 h1 hd hn ha hf
    refine Ev.pos (fun k => ?_)
    simp only [r1Pars.l2]
    rw [if_neg (by omega), List.drop_of_length_le (by rw [bytesOf_length]; omega)]
    rfl
  | succ d ih =>
    intro i n h0 h1 hd hn ha hf
    have hi : i < s.size := by omega
    rw [bytes_drop s i h0 hi] at ha hf ⊢
    simp only [List.all_cons, Bool.and_eq_true] at ha
    have hb := (isDig_iff _).1 ha.1
    rw [fval_cons] at hf ⊢
    have hge := fval_ge _ (10 * n + (bt s i - 48)) (by omega) ha.2
    unfold maxN at hf
    obtain ⟨K, hK⟩ := ih (i + 1) (10 * n + (bt s i - 48)) (by omega) (by omega) (by omega) (by omega) ha.2 hf
    refine ⟨K + 1, fun k hk => ?_⟩
    obtain ⟨k, rfl⟩ : ∃ j, k = j + 1 := ⟨k - 1, by omega⟩
    have h := hK k (by omega)
    dsimp only at h
    simp only [r1Pars.l2]
    rw [if_pos hi, if_pos h0, wrap_id (x := 10 * n) (by omega), wrap_id (x := bt s i) (by omega), wrap_id (x := 10 * n + bt s i) (by omega), wrap_id (x := 10 * n + bt s i - 48) (by omega), wrap_id (x := i + 1) (by omega)]
    have e : 10 * n + bt s i - 48 = 10 * n + (bt s i - 48) := by omega
    rw [e]; exact h
theorem pow_le {a b : Nat} (h : a ≤ b) : (10 : Int) ^ a ≤ (10 : Int) ^ b := by
  have h1 : (10 : Nat) ^ a ≤ 10 ^ b := Nat.pow_le_pow_right (by omega) h
  have e1 : ((10 ^ a : Nat) : Int) = (10 : Int) ^ a := by simp
  have e2 : ((10 ^ b : Nat) : Int) = (10 : Int) ^ b := by simp
  rw [← e1, ← e2]; omega
theorem tail_case (s : ByteArray) (_hs : s.size ≤ 9223372036854775806) (i : Int) (h0 : 0 ≤ i) (h1 : i < s.size) (hd : (bytesOf s).all isDig = true) (hz : (bytesOf s).take i.toNat = List.replicate i.toNat 48)
    (hh : ((bytesOf s).drop i.toNat).head? ≠ some 48 ∨ ((bytesOf s).drop i.toNat).length = 1) :
    Ev (fun k => r1Pars.j2 k s i) (parse (bytesOf s)) := by
  generalize ht : (bytesOf s).drop i.toNat = t at hh
  have hlen : t.length = s.size - i.toNat := by rw [← ht, List.length_drop, bytesOf_length]
  have hsplit : bytesOf s = List.replicate i.toNat 48 ++ t := by rw [← hz, ← ht, List.take_append_drop]
  have hval : fval 0 (bytesOf s) = fval 0 t := by rw [hsplit, fval_zeros]
  have hn : ¬ bytesOf s = [] := fun h => by have := (bytesOf_eq_nil s).1 h; omega
  have hp : parse (bytesOf s) = if fval 0 t > maxN then (0, 9) else (fval 0 t, 0) := by
    unfold parse; rw [if_neg (by simp [hn, hd]), hval]
  have htd : t.all isDig = true := by rw [hsplit, List.all_append, Bool.and_eq_true] at hd; exact hd.2
  have hb : bytesOf (s.extract i.toNat s.size) = t := by
    rw [bytesOf_extract, List.take_of_length_le (by rw [bytesOf_length]; exact Nat.le_refl _)]; exact ht
  have hsz : (s.extract i.toNat s.size).size = t.length := by rw [← bytesOf_length, hb]
  rw [hp]
  have hlt := fval_lt t 0 (by omega) htd
  simp only [Int.zero_add, Int.one_mul] at hlt
  by_cases hl : t.length > 19
  · have hne : t.head? ≠ some 48 := by rcases hh with h | h; exact h; omega
    cases t with
    | nil => simp at hl
    | cons b t =>
      have hb1 : b ≠ 48 := by simpa using hne
      simp only [List.all_cons, Bool.and_eq_true, isDig_iff] at htd
      have hlo := fval_lo t (b - 48) (by omega) htd.2
      have h19 : (10 : Int) ^ 19 ≤ (10 : Int) ^ t.length := pow_le (by simp at hl; omega)
      have hm : 1 * (10 : Int) ^ t.length ≤ (b - 48) * (10 : Int) ^ t.length := Int.mul_le_mul_of_nonneg_right (by omega) (Int.le_of_lt (Int.pow_pos (by omega)))
      have hbig : fval 0 (b :: t) > maxN := by
        rw [fval_cons]
        have e : 10 * 0 + (b - 48) = b - 48 := by omega
        rw [e]; unfold maxN
        have : (10 : Int) ^ 19 = 10000000000000000000 := by decide
        omega
      rw [if_pos hbig]
      refine ⟨2, fun k hk => ?_⟩
      obtain ⟨k, rfl⟩ : ∃ m, k = m + 1 + 1 := ⟨k - 2, by omega⟩
      simp only [r1Pars.j2, hsz]
      rw [if_pos h0, if_pos (by omega), if_pos (by omega)]
      simp only [r1Pars.j3, if_true]
  · have hsum : fval 0 t ≤ maxN → Ev (fun k => r1Pars.l2 k (s.extract i.toNat s.size) 0 0) (fval 0 t, 0) := fun hle => by
      have hl2 : t.length ≤ 19 := by omega
      have := sum_loop (s.extract i.toNat s.size) (by rw [hsz]; exact Nat.le_trans hl2 (by omega)) (s.extract i.toNat s.size).size 0 0 (by omega) (by omega) (by omega) (by omega) (by rw [hb]; simpa using htd) (by rw [hb]; simpa using hle)
      rw [hb] at this
      simpa using this
    by_cases h19 : t.length = 19
    · have hlit : i8s [52, 54, 49, 49, 54, 56, 54, 48, 49, 56, 52, 50, 55, 51, 56, 55, 57, 48, 51] = [52, 54, 49, 49, 54, 56, 54, 48, 49, 56, 52, 50, 55, 51, 56, 55, 57, 48, 51] := by decide
      have hlv : fval 0 [52, 54, 49, 49, 54, 56, 54, 48, 49, 56, 52, 50, 55, 51, 56, 55, 57, 48, 51] = maxN := by decide
      have hlx := lex_fval t [52, 54, 49, 49, 54, 56, 54, 48, 49, 56, 52, 50, 55, 51, 56, 55, 57, 48, 51] 0 (by omega) h19 htd (by decide)
      have hlx2 := lex_fval [52, 54, 49, 49, 54, 56, 54, 48, 49, 56, 52, 50, 55, 51, 56, 55, 57, 48, 51] t 0 (by omega) h19.symm (by decide) htd
      rw [hlv] at hlx hlx2
      have htl : i8s (s.extract i.toNat s.size).toList = t := by rw [← bytesOf_i8, hb]
      have heq : t = [52, 54, 49, 49, 54, 56, 54, 48, 49, 56, 52, 50, 55, 51, 56, 55, 57, 48, 51] ↔ fval 0 t = maxN := by
        constructor
        · intro h; rw [h, hlv]
        · intro h
          have h4 : t.head? ≠ some 48 := by rcases hh with h | h; exact h; omega
          have c1 := (canon 19 t h19 (by intro h; rw [h] at h19; simp at h19) htd (.inl h4)).1
          have c2 := (canon 19 [52, 54, 49, 49, 54, 56, 54, 48, 49, 56, 52, 50, 55, 51, 56, 55, 57, 48, 51] (by rfl) (by simp) (by decide) (.inl (by simp))).1
          rw [c1, h, ← hlv, ← c2]
      have hless : Op.bytesLess (s.extract i.toNat s.size).toList [52, 54, 49, 49, 54, 56, 54, 48, 49, 56, 52, 50, 55, 51, 56, 55, 57, 48, 51] = decide (fval 0 t < maxN) := by
        rw [less_lex, htl, hlit]
        rw [Bool.eq_iff_iff, hlx]; simp
      have hsame : ((s.extract i.toNat s.size).toList == [52, 54, 49, 49, 54, 56, 54, 48, 49, 56, 52, 50, 55, 51, 56, 55, 57, 48, 51]) = decide (fval 0 t = maxN) := by
        rw [Bool.eq_iff_iff, beq_iff_eq, i8s_inj, htl, hlit, heq]; simp
      have hbool : (!(Op.bytesLess (s.extract i.toNat s.size).toList [52, 54, 49, 49, 54, 56, 54, 48, 49, 56, 52, 50, 55, 51, 56, 55, 57, 48, 51] || ((s.extract i.toNat s.size).toList == [52, 54, 49, 49, 54, 56, 54, 48, 49, 56, 52, 50, 55, 51, 56, 55, 57, 48, 51]))) = decide (fval 0 t > maxN) := by
        rw [hless, hsame]
        by_cases a1 : fval 0 t < maxN
        · have : ¬ fval 0 t > maxN := by omega
          simp [a1, this]
        · by_cases a2 : fval 0 t = maxN
          · simp [a2]
          · have : fval 0 t > maxN := by omega
            simp [a1, a2, this]
      by_cases hgt : fval 0 t > maxN
      · rw [if_pos hgt]
        refine ⟨2, fun k hk => ?_⟩
        obtain ⟨k, rfl⟩ : ∃ m, k = m + 1 + 1 := ⟨k - 2, by omega⟩
        simp only [r1Pars.j2, hsz, hbool]
        rw [if_pos h0, if_pos (by omega), if_neg (by omega), if_pos (by omega)]
        simp only [r1Pars.j3]
        rw [if_pos (decide_eq_true hgt)]
      · rw [if_neg hgt]
        obtain ⟨K, hK⟩ := hsum (by omega)
        refine ⟨K + 2, fun k hk => ?_⟩
        obtain ⟨k, rfl⟩ : ∃ m, k = m + 1 + 1 := ⟨k - 2, by omega⟩
        simp only [r1Pars.j2, hsz, hbool]
        rw [if_pos h0, if_pos (by omega), if_neg (by omega), if_pos (by omega)]
        simp only [r1Pars.j3]
        rw [if_neg (by simpa using hgt)]
        exact hK k (by omega)
    · have h18 : (10 : Int) ^ t.length ≤ (10 : Int) ^ 18 := pow_le (by omega)
      have hle : fval 0 t ≤ maxN := by
        unfold maxN
        have : (10 : Int) ^ 18 = 1000000000000000000 := by decide
        omega
      rw [if_neg (by omega)]
      obtain ⟨K, hK⟩ := hsum hle
      refine ⟨K + 2, fun k hk => ?_⟩
      obtain ⟨k, rfl⟩ : ∃ m, k = m + 1 + 1 := ⟨k - 2, by omega⟩
      simp only [r1Pars.j2, hsz]
      rw [if_pos h0, if_pos (by omega), if_neg (by omega), if_neg (by omega)]
      simp only [r1Pars.j3]
      rw [if_neg (by decide)]
      exact hK k (by omega)
theorem noughts_loop (s : ByteArray) (hs : s.size ≤ 9223372036854775806) (hd : (bytesOf s).all isDig = true) (d : Nat) : ∀ i : Int, 0 ≤ i → i < s.size → (s.size : Int) - i = d → (bytesOf s).take i.toNat = List.replicate i.toNat 48 →
    Ev (fun k => r1Pars.l1 k s i) (parse (bytesOf s)) := by
  induction d with
  | zero => intro i h0 h1 hd2; omega
  | succ d ih =>
    intro i h0 h1 hd2 hz
    have hw : wrap64 ((s.size : Int) - 1) = (s.size : Int) - 1 := wrap_id (by omega)
    have hdr := bytes_drop s i h0 h1
    by_cases hc : i < (s.size : Int) - 1 ∧ bt s i = 48
    · have hz2 : (bytesOf s).take (i + 1).toNat = List.replicate (i + 1).toNat 48 := by
        have e : (i + 1).toNat = i.toNat + 1 := by omega
        have hl : i.toNat < (bytesOf s).length := by rw [bytesOf_length]; omega
        have hg : (bytesOf s)[i.toNat] = 48 := by
          rw [List.drop_eq_getElem_cons hl] at hdr
          rw [(List.cons.inj hdr).1, hc.2]
        rw [e, List.take_succ_eq_append_getElem hl, hz, hg, List.replicate_succ']
      obtain ⟨K, hK⟩ := ih (i + 1) (by omega) (by omega) (by omega) hz2
      refine ⟨K + 1, fun k hk => ?_⟩
      obtain ⟨k, rfl⟩ : ∃ m, k = m + 1 := ⟨k - 1, by omega⟩
      simp only [r1Pars.l1, hw]
      rw [if_pos hc.1, if_pos h0, if_pos h1, if_pos hc.2, wrap_id (by omega)]
      exact hK k (by omega)
    · have hh : ((bytesOf s).drop i.toNat).head? ≠ some 48 ∨ ((bytesOf s).drop i.toNat).length = 1 := by
        rw [hdr]
        by_cases hl : i < (s.size : Int) - 1
        · left; simp; intro h; exact hc ⟨hl, h⟩
        · right
          have := congrArg List.length hdr
          rw [List.length_drop, bytesOf_length] at this
          rw [← this]; omega
      obtain ⟨K, hK⟩ := tail_case s hs i h0 h1 hd hz hh
      refine ⟨K + 1, fun k hk => ?_⟩
      obtain ⟨k, rfl⟩ : ∃ m, k = m + 1 := ⟨k - 1, by omega⟩
      have h := hK k (by omega)
      dsimp only at h
      simp only [r1Pars.l1, hw]
      by_cases hl : i < (s.size : Int) - 1
      · rw [if_pos hl, if_pos h0, if_pos h1, if_neg (fun e => hc ⟨hl, e⟩)]
        exact h
      · rw [if_neg hl]
        exact h
theorem check_loop (s : ByteArray) (hs : s.size ≤ 9223372036854775806) (h0s : 0 < s.size) (d : Nat) : ∀ i : Int, 0 ≤ i → i ≤ s.size → (s.size : Int) - i = d → ((bytesOf s).take i.toNat).all isDig = true →
    Ev (fun k => r1Pars.l0 k s i) (parse (bytesOf s)) := by
  induction d with
  | zero =>
    intro i h0 h1 hd ha
    rw [List.take_of_length_le (by rw [bytesOf_length]; omega)] at ha
    obtain ⟨K, hK⟩ := noughts_loop s hs ha s.size 0 (by omega) (by omega) (by omega) (by simp)
    refine ⟨K + 1, fun k hk => ?_⟩
    obtain ⟨k, rfl⟩ : ∃ m, k = m + 1 := ⟨k - 1, by omega⟩
    simp only [r1Pars.l0]
    rw [if_neg (by omega)]
    exact hK k (by omega)
  | succ d ih =>
    intro i h0 h1 hd ha
    have hi : i < s.size := by omega
    have hdr := bytes_drop s i h0 hi
    by_cases hg : isDig (bt s i) = true
    · have e : (i + 1).toNat = i.toNat + 1 := by omega
      have hl : i.toNat < (bytesOf s).length := by rw [bytesOf_length]; omega
      have hget : (bytesOf s)[i.toNat] = bt s i := by
        rw [List.drop_eq_getElem_cons hl] at hdr
        exact (List.cons.inj hdr).1
      obtain ⟨K, hK⟩ := ih (i + 1) (by omega) (by omega) (by omega) (by rw [e, List.take_succ_eq_append_getElem hl, List.all_append, ha, hget]; simpa using hg)
      refine ⟨K + 1, fun k hk => ?_⟩
      obtain ⟨k, rfl⟩ : ∃ m, k = m + 1 := ⟨k - 1, by omega⟩
      simp only [r1Pars.l0, ref_digit_eq, Option.bind_some]
      rw [if_pos hi, if_pos h0, if_pos hg, wrap_id (by omega)]
      exact hK k (by omega)
    · refine Ev.pos (fun k => ?_)
      simp only [r1Pars.l0, ref_digit_eq, Option.bind_some]
      rw [if_pos hi, if_pos h0, if_neg hg]
      have hf : (bytesOf s).all isDig = false := by
        rw [← List.take_append_drop i.toNat (bytesOf s), List.all_append, hdr]
        simp [hg]
      unfold parse; rw [if_pos (.inr hf)]
theorem ref_parse_ev (s : ByteArray) (hs : s.size ≤ 9223372036854775806) : Ev (fun k => r1Pars.f k s) (parse (bytesOf s)) := by
  unfold r1Pars.f
  by_cases h0 : s.size = 0
  · refine Ev.all (fun k => ?_)
    rw [if_pos (by omega)]
    unfold parse; rw [if_pos (.inl ((bytesOf_eq_nil s).2 h0))]
  · obtain ⟨K, hK⟩ := check_loop s hs (by omega) s.size 0 (by omega) (by omega) (by omega) (by simp)
    exact ⟨K, fun k hk => by dsimp only; rw [if_neg (by omega)]; exact hK k hk⟩
end Go.Proofs.Ytpphnjmppkbpbaa.Pure
namespace Go.Proofs.Ytpphnjmppkbpbaa.PureQ
open Go.RowKit Go.Proofs.Ytpphnjmppkbpbaa.Pure Go.Proofs.Ytpphnjmppkbpbaa.Xw Go.Proofs.Ytpphnjmppkbpbaa.PAll Go.Proofs.YtpphnjmppkbpbaaW.PrintWords Go.Proofs.YtpphnjmppkbpbaaW.PrintLast Go.Proofs.YtpphnjmppkbpbaaW.PrintMore
theorem parse_kind (l : List Int) : (parse l).2 = 0 ∨ (parse l).2 = 3 ∨ (parse l).2 = 9 := by
  unfold parse; split
  · simp
  · split <;> simp
theorem ref_parse_c (x : List Int) (hx : ∀ b ∈ x, isB b) (hl : x.length ≤ 1000) : Ev (fun k => r1Pars.f k (strOfNums x)) (parse x) := by
  have hp := ref_parse_ev (strOfNums x) (by rw [size_str]; omega)
  rwa [bytesOf_str _ hx] at hp
theorem ref_e_c (bad : Int) (hb : bad = 0 ∨ bad = 9) (kn : Bool) (f t tot : Int) : Ev (fun k => r4Cont.j2 k (bad != 0) kn f t tot) (contE bad kn f t tot) := by
  refine Ev.succ ?_
  simp only [r4Cont.j2]
  unfold contE
  rcases hb with h | h
  · subst h
    simp only [bne_self_eq_false, Bool.false_eq_true, if_false, if_true]
    refine Ev.bind (ref_right_content kn f t tot) (Ev.all fun k => ?_)
    cases rightC kn f t tot <;> rfl
  · subst h
    exact Ev.all fun k => rfl
theorem ref_t_c (x : List Int) (hx : ∀ b ∈ x, isB b) (hl : x.length ≤ 1000) (bad : Int) (hb : bad = 0 ∨ bad = 9) (kn : Bool) (f t : Int) : Ev (fun k => r4Cont.j1 k (strOfNums x) (bad != 0) kn f t (-1)) (contT x bad kn f t) := by
  refine Ev.succ ?_
  simp only [r4Cont.j1]
  unfold contT
  by_cases h : x = [42]
  · simp only [(star_iff x hx).2 h, if_true]; rw [if_pos h]; exact ref_e_c bad hb _ _ _ _
  · have h' : ¬ (strOfNums x).toList = ([42] : List UInt8) := fun e => h ((star_iff x hx).1 e)
    simp only [h', if_false]; rw [if_neg h]
    refine Ev.bind (ref_parse_c x hx hl) ?_
    by_cases h3 : (parse x).2 = 3
    · simp only [h3, if_true]
      have e : contE (worse bad 3) kn f t (parse x).1 = z3 := by unfold contE worse z3; rw [if_pos rfl, if_neg (by decide)]
      rw [e]; exact Ev.now _
    · simp only [h3, if_false]
      have hk : (parse x).2 = 0 ∨ (parse x).2 = 9 := by rcases parse_kind x with h | h | h; exact .inl h; exact absurd h h3; exact .inr h
      have hw : worse bad (parse x).2 = if bad = 0 then (parse x).2 else bad := by unfold worse; rw [if_neg h3]
      rcases hb with h0 | h9
      · subst h0
        rw [hw, if_pos rfl]
        simp only [bne_self_eq_false, Bool.false_eq_true, if_false]
        exact ref_e_c _ hk _ _ _ _
      · subst h9
        rw [hw, if_neg (by decide)]
        exact ref_e_c 9 (.inr rfl) kn f t (parse x).1
theorem low_beq (c : List Int) (hc : ∀ b ∈ c, isB b) : ((strOfNums (c.map lowI)).toList != ([98, 121, 116, 101, 115] : List UInt8)) = !decide (c.map lowI = [98, 121, 116, 101, 115]) := by
  have e : ([98, 121, 116, 101, 115] : List UInt8) = (strOfNums [98, 121, 116, 101, 115]).toList := by rw [ByteArray.toList_eq]; rfl
  have hm : ∀ b ∈ c.map lowI, isB b := by intro b hb; obtain ⟨x, hx, rfl⟩ := List.mem_map.1 hb; exact lowI_isB x (hc x hx)
  rw [e, bne, toList_beq, bytesOf_str _ hm, bytesOf_str _ (by simp [isB])]
theorem ref_content_ev (s : ByteArray) (hs : s.size ≤ 1000) : Ev (fun k => r4Cont.f k s) (contOf (bytesOf s)) := by
  have f1 := cut_facts 32 (bytesOf s) (bytesOf_isB s)
  rw [bytesOf_length] at f1
  have f2 := cut_facts 47 (cutOf 32 (bytesOf s)).2.1 f1.2.2.2
  unfold contOf
  have q2 := ref_cut_ev (strOfNums (cutOf 32 (bytesOf s)).2.1) 47 (by rw [size_str]; omega)
  rw [bytesOf_str _ f1.2.2.2] at q2
  refine Ev.bind (ref_cut_ev s 32 (by omega)) ?_
  refine Ev.bind q2 ?_
  generalize (cutOf 47 (cutOf 32 (bytesOf s)).2.1).1 = d1 at f2
  generalize (cutOf 47 (cutOf 32 (bytesOf s)).2.1).2.1 = d2 at f2
  generalize (cutOf 47 (cutOf 32 (bytesOf s)).2.1).2.2 = d3
  generalize (cutOf 32 (bytesOf s)).1 = c1 at f1
  have hno : Ev (fun k => r4Cont.j0 k (strOfNums d1) (strOfNums d2) true false 0 0 (-1)) z3 := Ev.pos (fun k => by simp [r4Cont.j0, z3])
  cases (cutOf 32 (bytesOf s)).2.2
  · exact hno
  cases d3
  · exact hno
  simp only [if_true]
  have hl := ref_lower_ev (strOfNums c1) (by rw [size_str]; omega)
  rw [bytesOf_str _ f1.2.2.1] at hl
  refine Ev.bind hl ?_
  rw [low_beq c1 f1.2.2.1]
  by_cases hu : c1.map lowI = [98, 121, 116, 101, 115]
  · rw [decide_eq_true hu, if_pos hu]
    refine Ev.succ ?_
    simp only [r4Cont.j0, Bool.not_true, Bool.false_eq_true, if_false]
    unfold contA
    by_cases hA : d1 = [42]
    · simp only [(star_iff d1 f2.2.2.1).2 hA, if_true]; rw [if_pos hA]
      exact ref_t_c d2 f2.2.2.2 (by omega) 0 (.inl rfl) false 0 0
    · have hA' : ¬ (strOfNums d1).toList = ([42] : List UInt8) := fun e => hA ((star_iff d1 f2.2.2.1).1 e)
      simp only [hA', if_false]; rw [if_neg hA]
      have q3 := ref_cut_ev (strOfNums d1) 45 (by rw [size_str]; omega)
      rw [bytesOf_str _ f2.2.2.1] at q3
      have f3 := cut_facts 45 d1 f2.2.2.1
      refine Ev.bind q3 ?_
      refine Ev.bind (ref_parse_c _ f3.2.2.1 (by omega)) ?_
      refine Ev.bind (ref_parse_c _ f3.2.2.2 (by omega)) ?_
      generalize (cutOf 45 d1).1 = g1
      generalize (cutOf 45 d1).2.1 = g2
      cases (cutOf 45 d1).2.2
      · exact Ev.now _
      · simp only [if_true]
        have hz : ∀ b kn f t, b = 3 → contT d2 b kn f t = z3 := by
          intro b kn f t hb
          subst hb
          unfold contT contE worse z3
          by_cases h : d2 = [42]
          · rw [if_pos h, if_neg (by decide)]
          · rw [if_neg h]
            by_cases h2 : (parse d2).2 = 3
            · rw [if_pos h2, if_neg (by decide)]
            · rw [if_neg h2, if_neg (by decide : ¬ (3 : Int) = 0), if_neg (by decide)]
        by_cases e1 : (parse g1).2 = 3
        · simp only [e1, if_true]
          rw [hz _ _ _ _ (by unfold worse; rw [if_pos rfl]; split <;> rfl)]
          exact Ev.now _
        simp only [e1, if_false]
        by_cases e2 : (parse g2).2 = 3
        · simp only [e2, if_true]
          rw [hz _ _ _ _ (by unfold worse; rw [if_pos rfl])]
          exact Ev.now _
        simp only [e2, if_false]
        have k1 : (parse g1).2 = 0 ∨ (parse g1).2 = 9 := by rcases parse_kind g1 with h | h | h; exact .inl h; exact absurd h e1; exact .inr h
        have k2 : (parse g2).2 = 0 ∨ (parse g2).2 = 9 := by rcases parse_kind g2 with h | h | h; exact .inl h; exact absurd h e2; exact .inr h
        rcases k1 with k1 | k1
        · simp only [k1, if_true]
          have : worse (worse 0 0) (parse g2).2 = (parse g2).2 := by unfold worse; rw [if_neg e2]; simp
          rw [this]
          exact ref_t_c d2 f2.2.2.2 (by omega) _ k2 true _ _
        · simp only [k1, show ¬ (9 : Int) = 0 by decide, if_false]
          have : worse (worse 0 9) (parse g2).2 = 9 := by unfold worse; rw [if_neg e2]; simp
          rw [this]
          exact ref_t_c d2 f2.2.2.2 (by omega) 9 (.inr rfl) true _ _
  · rw [decide_eq_false hu, if_neg hu]; exact hno
end Go.Proofs.Ytpphnjmppkbpbaa.PureQ
namespace Go.Proofs.Ytpphnjmppkbpbaa.PureQ
open Go.RowKit Go.Proofs.Ytpphnjmppkbpbaa.Pure Go.Proofs.Ytpphnjmppkbpbaa.Xw Go.Proofs.Ytpphnjmppkbpbaa.PAll Go.Proofs.YtpphnjmppkbpbaaW.PrintWords Go.Proofs.YtpphnjmppkbpbaaW.PrintLast Go.Proofs.YtpphnjmppkbpbaaW.PrintMore
def unitT : List Int := [98, 121, 116, 101, 115, 32]
def crPrint (kn : Bool) (f t tot : Int) : List Int :=
  if rightC kn f t tot then unitT ++ (if kn then ptext f ++ [45] ++ ptext (t - 1) else [42]) ++ (if tot = -1 then [47, 42] else [47] ++ ptext tot) else []
theorem unit_str : (⟨#[98, 121, 116, 101, 115, 32]⟩ : ByteArray) = strOfNums unitT := by decide
theorem dash_str : (⟨#[45]⟩ : ByteArray) = strOfNums [45] := by decide
theorem slash_str : (⟨#[47]⟩ : ByteArray) = strOfNums [47] := by decide
theorem star_str : (⟨#[42]⟩ : ByteArray) = strOfNums [42] := by decide
theorem any_str : (⟨#[47, 42]⟩ : ByteArray) = strOfNums [47, 42] := by decide
theorem ptext_dig (a : Int) (h : 0 ≤ a) : ptext a = dig a.toNat := by unfold ptext; rw [if_neg (by omega)]
theorem ptext_len (n : Int) (h : 0 ≤ n ∧ n ≤ 9223372036854775807) : (ptext n).length ≤ 20 := by
  rw [ptext_dig n h.1]; exact dig_len _ (by omega)
theorem rightC_tot {kn : Bool} {f t tot : Int} (h : rightC kn f t tot = true) : tot = -1 ∨ (0 ≤ tot ∧ tot ≤ 4611686018427387903) := by
  unfold rightC at h
  rw [Bool.and_eq_true] at h
  exact of_decide_eq_true h.1
theorem rightC_at {f t tot : Int} (h : rightC true f t tot = true) : 0 ≤ f ∧ f < t ∧ t ≤ 4611686018427387903 ∧ (tot = -1 ∨ t ≤ tot) := by
  unfold rightC at h
  rw [Bool.and_eq_true, if_pos rfl, Bool.and_eq_true] at h
  have h1 := of_decide_eq_true h.2.1
  have h2 := of_decide_eq_true h.2.2
  omega
theorem cr_print_ev (kn : Bool) (f t tot : Int) : Ev (fun k => crange_Print.f k kn f t tot) (strOfNums (crPrint kn f t tot)) := by
  refine Ev.bind (right_c kn f t tot) ?_
  unfold crPrint
  cases hr : rightC kn f t tot
  · exact Ev.now _
  have htot := rightC_tot hr
  simp only [if_true]
  cases kn with
  | true =>
    have hat := rightC_at hr
    have l1 := ptext_len f (by omega)
    have l2 := ptext_len (t - 1) (by omega)
    simp only [if_true]
    refine Ev.bind (print_ev f (by omega)) ?_
    rw [wrap_id (x := t - 1) (by omega)]
    simp only [size_str, show (ptext f).length + 1 ≤ 9223372036854775807 by omega, if_true]
    refine Ev.bind (print_ev (t - 1) (by omega)) ?_
    simp only [size_str, show (ptext f).length + 1 + (ptext (t - 1)).length ≤ 9223372036854775807 by omega, show 6 + ((ptext f).length + 1 + (ptext (t - 1)).length) ≤ 9223372036854775807 by omega, show 6 + ((ptext f).length + 1 + (ptext (t - 1)).length) + 2 ≤ 9223372036854775807 by omega, show 6 + ((ptext f).length + 1 + (ptext (t - 1)).length) + 1 ≤ 9223372036854775807 by omega, if_true]
    by_cases ht : tot = -1
    · simp only [ht, if_true]
      rw [unit_str, dash_str, any_str, str_append, str_append, str_append, str_append]
      exact Ev.now _
    · have l3 := ptext_len tot (by omega)
      simp only [ht, if_false]
      refine Ev.bind (print_ev tot (by omega)) ?_
      simp only [size_str, show 6 + ((ptext f).length + 1 + (ptext (t - 1)).length) + 1 + (ptext tot).length ≤ 9223372036854775807 by omega, if_true]
      rw [unit_str, dash_str, slash_str, str_append, str_append, str_append, str_append, str_append, List.append_assoc (unitT ++ _)]
      exact Ev.now _
  | false =>
    simp only [Bool.false_eq_true, if_false, show 6 + 1 ≤ 9223372036854775807 by decide, show 7 + 2 ≤ 9223372036854775807 by decide, show 7 + 1 ≤ 9223372036854775807 by decide, if_true]
    by_cases ht : tot = -1
    · simp only [ht, if_true]
      rw [unit_str, star_str, any_str, str_append, str_append]
      exact Ev.now _
    · have l3 := ptext_len tot (by omega)
      simp only [ht, if_false]
      refine Ev.bind (print_ev tot (by omega)) ?_
      simp only [size_str, show 8 + (ptext tot).length ≤ 9223372036854775807 by omega, if_true]
      rw [unit_str, star_str, slash_str, str_append, str_append, str_append, List.append_assoc (unitT ++ _)]
      exact Ev.now _
end Go.Proofs.Ytpphnjmppkbpbaa.PureQ

namespace Go.Proofs.Ytpphnjmppkbpbaa.PureQ
open Go.RowKit Go.Proofs.Ytpphnjmppkbpbaa.Pure Go.Proofs.Ytpphnjmppkbpbaa.Xw Go.Proofs.Ytpphnjmppkbpbaa.PAll Go.Proofs.YtpphnjmppkbpbaaW.PrintWords Go.Proofs.YtpphnjmppkbpbaaW.PrintLast Go.Proofs.YtpphnjmppkbpbaaW.PrintMore
theorem none_str : (⟨#[98, 121, 116, 101, 115, 32, 42]⟩ : ByteArray) = strOfNums (unitT ++ [42]) := by decide
theorem ref_print_content (kn : Bool) (f t tot : Int) : Ev (fun k => r4PC.f k kn f t tot) (strOfNums (crPrint kn f t tot)) := by
  refine Ev.bind (ref_right_content kn f t tot) ?_
  unfold crPrint
  cases hr : rightC kn f t tot
  · exact Ev.now _
  have htot := rightC_tot hr
  simp only [if_true]
  cases kn with
  | true =>
    have hat := rightC_at hr
    have l1 := ptext_len f (by omega)
    have l2 := ptext_len (t - 1) (by omega)
    simp only [if_true]
    refine Ev.bind (ref_print_ev f (by omega)) ?_
    rw [wrap_id (x := t - 1) (by omega)]
    simp only [size_str, show 6 + (ptext f).length ≤ 9223372036854775807 by omega, show 6 + (ptext f).length + 1 ≤ 9223372036854775807 by omega, if_true]
    refine Ev.bind (ref_print_ev (t - 1) (by omega)) ?_
    simp only [size_str, show 6 + (ptext f).length + 1 + (ptext (t - 1)).length ≤ 9223372036854775807 by omega, show 6 + (ptext f).length + 1 + (ptext (t - 1)).length + 2 ≤ 9223372036854775807 by omega, show 6 + (ptext f).length + 1 + (ptext (t - 1)).length + 1 ≤ 9223372036854775807 by omega, if_true]
    by_cases ht : tot = -1
    · simp only [ht, show (-1 : Int) < 0 by decide, if_true]
      rw [unit_str, dash_str, any_str, str_append, str_append, str_append, str_append]
      have : unitT ++ ptext f ++ [45] ++ ptext (t - 1) ++ [47, 42] = unitT ++ (ptext f ++ [45] ++ ptext (t - 1)) ++ [47, 42] := by simp
      rw [this]; exact Ev.now _
    · have l3 := ptext_len tot (by omega)
      simp only [ht, show ¬ tot < 0 by omega, if_false]
      refine Ev.bind (ref_print_ev tot (by omega)) ?_
      simp only [size_str, show 6 + (ptext f).length + 1 + (ptext (t - 1)).length + 1 + (ptext tot).length ≤ 9223372036854775807 by omega, if_true]
      rw [unit_str, dash_str, slash_str, str_append, str_append, str_append, str_append, str_append]
      have : unitT ++ ptext f ++ [45] ++ ptext (t - 1) ++ [47] ++ ptext tot = unitT ++ (ptext f ++ [45] ++ ptext (t - 1)) ++ ([47] ++ ptext tot) := by simp
      rw [this]; exact Ev.now _
  | false =>
    simp only [Bool.false_eq_true, if_false]
    by_cases ht : tot = -1
    · simp only [ht, show (-1 : Int) < 0 by decide, show 7 + 2 ≤ 9223372036854775807 by decide, if_true]
      rw [none_str, any_str, str_append]
      exact Ev.now _
    · have l3 := ptext_len tot (by omega)
      simp only [ht, show ¬ tot < 0 by omega, show 7 + 1 ≤ 9223372036854775807 by decide, if_false, if_true]
      refine Ev.bind (ref_print_ev tot (by omega)) ?_
      simp only [size_str, show 8 + (ptext tot).length ≤ 9223372036854775807 by omega, if_true]
      rw [none_str, slash_str, str_append, str_append, List.append_assoc (unitT ++ _)]
      exact Ev.now _
end Go.Proofs.Ytpphnjmppkbpbaa.PureQ
namespace Go.Proofs.Ytpphnjmppkbpbaa.PureQ
open Go.RowKit Go.Proofs.Ytpphnjmppkbpbaa.Pure Go.Proofs.Ytpphnjmppkbpbaa.Xw Go.Proofs.Ytpphnjmppkbpbaa.PAll Go.Proofs.YtpphnjmppkbpbaaW.PrintWords Go.Proofs.YtpphnjmppkbpbaaW.PrintLast Go.Proofs.YtpphnjmppkbpbaaW.PrintMore
theorem same_self (x : Int × ByteArray × Int × ByteArray × List Int) (h : x.2.2.2.2.length * 1 ≤ 140737488351232) : Ev (fun k => spenceref24_SameReply.f k x.1 x.2.1 x.2.2.1 x.2.2.2.1 x.2.2.2.2 x.1 x.2.1 x.2.2.1 x.2.2.2.1 x.2.2.2.2) true := by
  unfold spenceref24_SameReply.f
  simp only [if_true]
  have := bytes_ev x.2.2.2.2 x.2.2.2.2 (by omega)
  rw [decide_eq_true rfl] at this
  exact Ev.bind this (Ev.now _)
def shiftV (l : List Int) : List Int := if (contOf l).2.2.2.2 = 0 ∧ (contOf l).1 = true then crPrint true (wrap64 ((contOf l).2.1 + 1)) (wrap64 ((contOf l).2.2.1 + 1)) (contOf l).2.2.2.1 else l
def faultyV (kind : Int) (a : Int) (b : ByteArray) (c : Int) (d : ByteArray) (l : List Int) : Int × ByteArray × Int × ByteArray × List Int :=
  if kind = 5 then (404, (⟨#[]⟩ : ByteArray), 0, (⟨#[]⟩ : ByteArray), []) else if kind = 1 then (503, (⟨#[]⟩ : ByteArray), 0, (⟨#[]⟩ : ByteArray), [])
  else if kind = 4 then (a, b ++ (⟨#[34]⟩ : ByteArray), c, d, l) else if kind = 3 then (a, b, c, strOfNums (shiftV (bytesOf d)), l) else if kind = 2 then (a, b, c, d, l.take (l.length - 1)) else (a, b, c, d, l)
theorem shifted_ev (d : ByteArray) (h : d.size ≤ 1000) : Ev (fun k => reply_shifted.f k d) (strOfNums (shiftV (bytesOf d))) := by
  unfold reply_shifted.f
  refine Ev.bind (crange_parse_ev d h) ?_
  by_cases h1 : (contOf (bytesOf d)).2.2.2.2 = 0
  rotate_left
  · have e : shiftV (bytesOf d) = bytesOf d := by unfold shiftV; rw [if_neg (fun h => h1 h.1)]
    rw [e, str_bytes]
    simp only [h1, if_false]; exact Ev.now _
  by_cases h2 : (contOf (bytesOf d)).1 = true
  rotate_left
  · have e : shiftV (bytesOf d) = bytesOf d := by unfold shiftV; rw [if_neg (fun h => h2 h.2)]
    rw [e, str_bytes]
    simp only [h1, h2, if_true]; exact Ev.now _
  have e : shiftV (bytesOf d) = crPrint true (wrap64 ((contOf (bytesOf d)).2.1 + 1)) (wrap64 ((contOf (bytesOf d)).2.2.1 + 1)) (contOf (bytesOf d)).2.2.2.1 := by unfold shiftV; rw [if_pos ⟨h1, h2⟩]
  rw [e]
  simp only [h1, h2, if_true]
  exact Ev.bind (Ev.bind (cr_print_ev _ _ _ _) (Ev.now _)) (Ev.now _)
theorem len_cut (l : List Int) (h : l.length ≤ 500) (h0 : (l.length : Int) > 0) : wrap64 ((l.length : Int) - 1) = ((l.length - 1 : Nat) : Int) := by rw [wrap_id (by omega)]; omega
theorem clone_v (l : List Int) (h : l.length ≤ 500) : bytes_Clone.f l = some l := by
  unfold bytes_Clone.f
  simp only [Option.bind_some, List.length_nil, List.nil_append]
  rw [if_pos (by omega)]
theorem faulty_ev (kind a : Int) (b : ByteArray) (c : Int) (d : ByteArray) (l : List Int) (hb : b.size ≤ 200) (hd : d.size ≤ 200) (hl : l.length ≤ 500) : Ev (fun k => reply_Faulty.f k kind a b c d l) (faultyV kind a b c d l) := by
  unfold reply_Faulty.f faultyV
  simp only [clone_v l hl, Option.bind_some, reply_Gone.f, reply_Down.f]
  by_cases h5 : kind = 5
  · simp only [h5, if_true]; exact Ev.now _
  by_cases h1 : kind = 1
  · simp only [h1, if_true]; simp only [show ¬ (1 : Int) = 5 by decide, if_false]; exact Ev.now _
  by_cases h4 : kind = 4
  · simp only [h4, if_true, show ¬ (4 : Int) = 5 by decide, show ¬ (4 : Int) = 1 by decide, if_false, show b.size + 1 ≤ 9223372036854775807 by omega]; exact Ev.now _
  by_cases h3 : kind = 3
  · simp only [h3, if_true, show ¬ (3 : Int) = 5 by decide, show ¬ (3 : Int) = 1 by decide, show ¬ (3 : Int) = 4 by decide, if_false]
    exact Ev.bind (shifted_ev d (by omega)) (Ev.now _)
  by_cases h2 : kind = 2
  · simp only [h2, if_true, show ¬ (2 : Int) = 5 by decide, show ¬ (2 : Int) = 1 by decide, show ¬ (2 : Int) = 4 by decide, show ¬ (2 : Int) = 3 by decide, if_false]
    by_cases h0 : (l.length : Int) > 0
    · simp only [h0, if_true, len_cut l hl h0, Int.toNat_natCast]
      simp only [show (0 : Int) ≤ ((l.length - 1 : Nat) : Int) by omega, show ((l.length - 1 : Nat) : Int) ≤ (l.length : Int) by omega, if_true]
      exact Ev.now _
    · have : l = [] := List.eq_nil_of_length_eq_zero (by omega)
      subst this
      simp only [h0, if_false]; exact Ev.now _
  simp only [h5, h1, h4, h3, h2, if_false]; exact Ev.now _
theorem ref_faulty_ev (kind a : Int) (b : ByteArray) (c : Int) (d : ByteArray) (l : List Int) (hb : b.size ≤ 200) (hd : d.size ≤ 200) (hl : l.length ≤ 500) : Ev (fun k => spenceref24_Faulty.f k kind a b c d l) (faultyV kind a b c d l) := by
  unfold spenceref24_Faulty.f faultyV
  by_cases h5 : kind = 5
  · simp only [h5, if_true, show ¬ (5 : Int) = 1 by decide, if_false]; exact Ev.now _
  by_cases h1 : kind = 1
  · simp only [h1, if_true]; simp only [show ¬ (1 : Int) = 5 by decide, if_false]; exact Ev.now _
  by_cases h4 : kind = 4
  · simp only [h4, if_true, show ¬ (4 : Int) = 5 by decide, show ¬ (4 : Int) = 1 by decide, if_false, show b.size + 1 ≤ 9223372036854775807 by omega]; exact Ev.now _
  by_cases h3 : kind = 3
  · simp only [h3, if_true, show ¬ (3 : Int) = 5 by decide, show ¬ (3 : Int) = 1 by decide, show ¬ (3 : Int) = 4 by decide, show ¬ (3 : Int) = 2 by decide, if_false]
    refine Ev.bind (ref_content_ev d (by omega)) ?_
    by_cases g1 : (contOf (bytesOf d)).2.2.2.2 = 0
    rotate_left
    · have e : shiftV (bytesOf d) = bytesOf d := by unfold shiftV; rw [if_neg (fun h => g1 h.1)]
      rw [e, str_bytes]
      simp only [g1, if_false]; exact Ev.now _
    by_cases g2 : (contOf (bytesOf d)).1 = true
    rotate_left
    · have e : shiftV (bytesOf d) = bytesOf d := by unfold shiftV; rw [if_neg (fun h => g2 h.2)]
      rw [e, str_bytes]
      simp only [g1, g2, if_true]; exact Ev.now _
    have e : shiftV (bytesOf d) = crPrint true (wrap64 ((contOf (bytesOf d)).2.1 + 1)) (wrap64 ((contOf (bytesOf d)).2.2.1 + 1)) (contOf (bytesOf d)).2.2.2.1 := by unfold shiftV; rw [if_pos ⟨g1, g2⟩]
    rw [e]
    simp only [g1, g2, if_true]
    exact Ev.bind (ref_print_content _ _ _ _) (Ev.now _)
  by_cases h2 : kind = 2
  · simp only [h2, if_true, show ¬ (2 : Int) = 5 by decide, show ¬ (2 : Int) = 1 by decide, show ¬ (2 : Int) = 4 by decide, show ¬ (2 : Int) = 3 by decide, if_false]
    by_cases h0 : (l.length : Int) > 0
    · simp only [h0, if_true, len_cut l hl h0, Int.toNat_natCast]
      simp only [show (0 : Int) ≤ ((l.length - 1 : Nat) : Int) by omega, show ((l.length - 1 : Nat) : Int) ≤ (l.length : Int) by omega, if_true]
      exact Ev.now _
    · have : l = [] := List.eq_nil_of_length_eq_zero (by omega)
      subst this
      simp only [h0, if_false]; exact Ev.now _
  simp only [h5, h1, h4, h3, h2, if_false]; exact Ev.now _
theorem faultyV_len (kind a : Int) (b : ByteArray) (c : Int) (d : ByteArray) (l : List Int) (hl : l.length ≤ 500) : (faultyV kind a b c d l).2.2.2.2.length ≤ 500 := by
  unfold faultyV
  repeat' split
  all_goals simp
  all_goals omega
end Go.Proofs.Ytpphnjmppkbpbaa.PureQ
namespace Go.Proofs.Ytpphnjmppkbpbaa.Pure
open Go.Proofs.Ytpphnjmppkbpbaa.PAll
end Go.Proofs.Ytpphnjmppkbpbaa.Pure
namespace Go.Proofs.Ytpphnjmppkbpbaa.Ag
open Go.RowKit Go.Proofs.Ytpphnjmppkbpbaa.Xw Go.Proofs.YtpphnjmppkbpbaaW.PrintWords Go.Proofs.YtpphnjmppkbpbaaW.PrintLast Go.Proofs.YtpphnjmppkbpbaaW.PrintMore
def agC (k : IntKind) (n : Nat) (f : Nat → Int) : Array Value := ((List.range n).map fun i => Value.int k (f i)).toArray
theorem agC_size (k n f) : (agC k n f).size = n := by simp [agC]
theorem agC_get (k n f) (i : Nat) (h : i < n) : (agC k n f)[i]? = some (.int k (f i)) := by simp [agC, h]
theorem alloc_size (w : World) (o : Obj) : (w.alloc o).heap.size = w.heap.size + 1 := by
  unfold World.alloc
  exact Array.size_push _
def putF (f : Nat → Int) (q : Nat) (v : Int) : Nat → Int := fun j => if j = q then v else f j
theorem agC_set (k n f) (q : Nat) (v : Int) : (agC k n f).setIfInBounds q (.int k v) = agC k n (putF f q v) := by
  apply Array.ext
  · simp [agC]
  · intro i h1 h2
    simp only [agC, putF, List.getElem_toArray, List.getElem_map, List.getElem_range]
    by_cases hq : q = i
    · subst hq; simp
    · have : ¬ i = q := fun e => hq e.symm
      simp [hq, this]
section
variable {P : Program} {ops : Array Oper} {rest : List Oper} {o : Oper} {a : Act} {Q : Exit → Act → World → Prop} {W : World}
end
end Go.Proofs.Ytpphnjmppkbpbaa.Ag
namespace Go.Proofs.Ytpphnjmppkbpbaa.Org
open Go Go.RowKit Go.Proofs Go.Proofs.Ytpphnjmppkbpbaa.Xw Go.Proofs.Ytpphnjmppkbpbaa.PAll Go.Proofs.Ytpphnjmppkbpbaa.Ag Go.Proofs.YtpphnjmppkbpbaaW.PrintWords Go.Proofs.YtpphnjmppkbpbaaW.PrintLast Go.Proofs.YtpphnjmppkbpbaaW.PrintMore
attribute [local go_sem] Oper.semAt_some
abbrev AK := S32
abbrev kI : Kd Int := Kd.int .i64
abbrev kA : Kd AK := k32
def orgC (V : Nat → Int) (vf va : Value) : Array Value := agC .i64 16 V ++ #[vf, va]
section
variable {V : Nat → Int} {vf va : Value}
theorem orgC_int {j : Nat} (h : j < 16) : (orgC V vf va)[j]? = some (.int .i64 (V j)) := by
  unfold orgC
  rw [Array.getElem?_append_left (by rw [agC_size]; exact h), agC_get _ _ _ _ h]
theorem orgC_f : (orgC V vf va)[16]? = some vf := by
  unfold orgC
  rw [Array.getElem?_append_right (by rw [agC_size]; exact Nat.le_refl _), agC_size]; rfl
theorem orgC_a : (orgC V vf va)[17]? = some va := by
  unfold orgC
  rw [Array.getElem?_append_right (by rw [agC_size]; decide), agC_size]; rfl
theorem orgC_set {j : Nat} (h : j < 16) (x : Int) : (orgC V vf va).setIfInBounds j (.int .i64 x) = orgC (putF V j x) vf va := by
  unfold orgC
  rw [Array.setIfInBounds_append_left (by rw [agC_size]; exact h), agC_set]
theorem orgC_setf (u : Value) : (orgC V vf va).setIfInBounds 16 u = orgC V u va := by
  unfold orgC
  rw [Array.setIfInBounds_append_right (by rw [agC_size]; exact Nat.le_refl _), agC_size]; rfl
theorem orgC_seta (u : Value) : (orgC V vf va).setIfInBounds 17 u = orgC V vf u := by
  unfold orgC
  rw [Array.setIfInBounds_append_right (by rw [agC_size]; decide), agC_size]; rfl
end
/-- all blocks stand but P's -/
structure KeepP (w : World) (P : Nat → Prop) (X : World) : Prop where
  size : w.heap.size ≤ X.heap.size
  block : ∀ h, h < w.heap.size → ¬ P h → X.heap[h]? = w.heap[h]?
  os : X.os = w.os
  tape : X.tape = w.tape
  output : X.output = w.output
section
variable {w X Y : World} {P Q : Nat → Prop}
theorem KeepP.refl (w : World) (P : Nat → Prop) : KeepP w P w := ⟨Nat.le_refl _, fun _ _ _ => rfl, rfl, rfl, rfl⟩
theorem KeepP.of_below (h : Below w.heap.size w X) : KeepP w P X := ⟨h.size, fun k hk _ => h.block k hk, h.os, h.tape, h.output⟩
theorem KeepP.trans (h : KeepP w P X) (h2 : KeepP X Q Y) (hQ : ∀ k, Q k → P k ∨ w.heap.size ≤ k) : KeepP w P Y :=
  ⟨Nat.le_trans h.size h2.size, fun k hk hp => (h2.block k (Nat.lt_of_lt_of_le hk h.size) (fun hq => (hQ k hq).elim hp (fun hl => by omega))).trans (h.block k hk hp), h2.os.trans h.os, h2.tape.trans h.tape, h2.output.trans h.output⟩
theorem KeepP.drew (h : KeepP w P X) : KeepP w P X.drew := ⟨h.size, h.block, h.os, h.tape, h.output⟩
theorem KeepP.below (h : KeepP w P X) {B : Nat} {w0 : World} (hb : Below B w0 w) (hB : B ≤ w.heap.size) (hP : ∀ k, P k → B ≤ k) : Below B w0 X :=
  ⟨h.os.trans hb.os, h.tape.trans hb.tape, h.output.trans hb.output, Nat.le_trans hb.size h.size, fun k hk => (h.block k (Nat.lt_of_lt_of_le hk hB) (fun hp => by have := hP k hp; omega)).trans (hb.block k hk)⟩
theorem KeepP.cells (h : KeepP w P X) {g : Nat} {o : Obj} (hb : w.heap[g]? = some o) (hg : ¬ P g) : X.heap[g]? = some o := (h.block g (bLt hb) hg).trans hb
theorem KeepP.grown (h : KeepP w P X) {row : Option Nat} (hg : X.grownBy Y row) (hr : ∀ k, row = some k → P k ∨ w.heap.size ≤ k) : KeepP w P Y :=
  ⟨Nat.le_trans h.size hg.size, fun k hk hp => (hg.block k (Nat.lt_of_lt_of_le hk h.size) (fun e => (hr k e.symm).elim hp (fun hl => by omega))).trans (h.block k hk hp), hg.os.trans h.os, hg.tape.trans h.tape, hg.output.trans h.output⟩
theorem KeepP.set (h : KeepP w P X) {g : Nat} (hg : P g ∨ w.heap.size ≤ g) (j : Nat) (v : Value) : KeepP w P (X.setCell ⟨g, j, none⟩ v) :=
  ⟨by rw [show (X.setCell ⟨g, j, none⟩ v).heap.size = X.heap.size by simp [World.setCell]]; exact h.size, fun k hk hp => (Below.heap_setCell X ⟨g, j, none⟩ v k (fun e => hg.elim (fun h => hp (e ▸ h)) (fun hl => by have e' : k = g := e; omega))).trans (h.block k hk hp), h.os, h.tape, h.output⟩
theorem KeepP.alloc (h : KeepP w P X) (o : Obj) : KeepP w P (X.alloc o) := h.trans (.of_below (P := fun _ => False) (aBl (Below.refl _ X) o)) (fun _ h => h.elim)
theorem KeepP.mono (h : KeepP w P X) (hQ : ∀ k, P k → Q k ∨ w.heap.size ≤ k) : KeepP w Q X := ⟨h.size, fun k hk hp => h.block k hk (fun hq => (hQ k hq).elim hp (fun hl => by omega)), h.os, h.tape, h.output⟩
end
structure Org (w : World) (base : Nat) (P : Nat → Prop) (g : Nat) (V : Nat → Int) (F : List Int) (A : List AK) (vf va : Value) : Prop where
  hge : ∀ k, P k → base ≤ k
  hlt : ∀ k, P k → k < w.heap.size
  hg : P g
  hb : w.heap[g]? = some (.cells (orgC V vf va) 51 (0, 0))
  hF : kI.R 3 w base P vf F
  hA : kA.R 32 w base P va A
def OrgX (w : World) (base : Nat) (P : Nat → Prop) (g : Nat) (V : Nat → Int) (F : List Int) (A : List AK) : Prop := ∃ vf va, Org w base P g V F A vf va
section
variable {w X : World} {base g : Nat} {P Q : Nat → Prop} {V : Nat → Int} {F : List Int} {A : List AK} {vf va : Value}
theorem Org.step (h : Org w base P g V F A vf va) (hs : w.heap.size ≤ X.heap.size) (hm : ∀ k, P k → X.heap[k]? = w.heap[k]?) : Org X base P g V F A vf va :=
  ⟨h.hge, fun k hk => Nat.lt_of_lt_of_le (h.hlt k hk) hs, h.hg, (hm g h.hg).trans h.hb, Kd.R_step h.hF (fun k hk _ => hm k hk), Kd.R_step h.hA (fun k hk _ => hm k hk)⟩
theorem Org.below (h : Org w base P g V F A vf va) (hb : Below w.heap.size w X) : Org X base P g V F A vf va := h.step hb.size (fun k hk => hb.block k (h.hlt k hk))
theorem Org.keep (h : Org w base P g V F A vf va) (hk : KeepP w Q X) (hQ : ∀ k, P k → ¬ Q k) : Org X base P g V F A vf va := h.step hk.size (fun k hp => hk.block k (h.hlt k hp) (hQ k hp))
theorem Org.lower {base' : Nat} (h : Org w base P g V F A vf va) (hb : base' ≤ base) : Org w base' P g V F A vf va := ⟨fun k hk => Nat.le_trans hb (h.hge k hk), h.hlt, h.hg, h.hb, Kd.R_lower h.hF hb, Kd.R_lower h.hA hb⟩
theorem OrgX.below (h : OrgX w base P g V F A) (hb : Below w.heap.size w X) : OrgX X base P g V F A := by obtain ⟨vf, va, h⟩ := h; exact ⟨vf, va, h.below hb⟩
theorem OrgX.keep (h : OrgX w base P g V F A) (hk : KeepP w Q X) (hQ : ∀ k, P k → ¬ Q k) : OrgX X base P g V F A := by obtain ⟨vf, va, h⟩ := h; exact ⟨vf, va, h.keep hk hQ⟩
theorem OrgX.lower {base' : Nat} (h : OrgX w base P g V F A) (hb : base' ≤ base) : OrgX w base' P g V F A := by obtain ⟨vf, va, h⟩ := h; exact ⟨vf, va, h.lower hb⟩
theorem OrgX.lt (h : OrgX w base P g V F A) {k : Nat} (hk : P k) : k < w.heap.size := by obtain ⟨vf, va, h⟩ := h; exact h.hlt k hk
theorem OrgX.ge (h : OrgX w base P g V F A) {k : Nat} (hk : P k) : base ≤ k := by obtain ⟨vf, va, h⟩ := h; exact h.hge k hk
theorem Org.cellI (h : Org w base P g V F A vf va) {j : Nat} (hj : j < 16) : w.cell? ⟨g, j, none⟩ = some (.int .i64 (V j)) := (bCe h.hb j).trans (orgC_int hj)
theorem Org.cellF (h : Org w base P g V F A vf va) : w.cell? ⟨g, 16, none⟩ = some vf := (bCe h.hb 16).trans orgC_f
theorem Org.cellA (h : Org w base P g V F A vf va) : w.cell? ⟨g, 17, none⟩ = some va := (bCe h.hb 17).trans orgC_a
theorem tyI {q : Nat} (hq : q ∈ 3 :: kI.E) : q ≠ 51 := by
  simp only [Kd.int, Kd.scalar, List.mem_singleton] at hq
  subst hq
  decide
theorem tyA {q : Nat} (hq : q ∈ 32 :: kA.E) : q ≠ 51 := by
  have e : q = 32 := by simpa [kA, k32, k30, Kd.iso, Kd.pair, Kd.int, Kd.bool, Kd.string, Kd.scalar] using hq
  subst e
  decide
/-- a version turned -/
theorem Org.turn (h : Org w base P g V F A vf va) {j : Nat} (hj : j < 16) (x : Int) : Org (w.setCell ⟨g, j, none⟩ (.int .i64 x)) base P g (putF V j x) F A vf va :=
  ⟨h.hge, fun k hk => by rw [show (w.setCell ⟨g, j, none⟩ (.int .i64 x)).heap.size = w.heap.size by simp [World.setCell]]; exact h.hlt k hk, h.hg, by rw [blk_set h.hb, orgC_set hj],
    Kd.R_set h.hF h.hb (fun q hq => tyI hq) j _, Kd.R_set h.hA h.hb (fun q hq => tyA hq) j _⟩
end
theorem infoA : (Try.prog.info? 32).map (fun i => (i.zero, i.size, i.bytes)) = some (some (.agg #[.int .i64 0, .bool false, .string ⟨#[]⟩, .int .i64 0, .int .i64 0]), 5, 48) := by kernel_rfl
theorem infoI : (Try.prog.info? 3).map (fun i => (i.zero, i.size, i.bytes)) = some (some (.int .i64 0), 1, 8) := by kernel_rfl
/-- slices.Clone of whole numbers, and of what was asked -/
theorem cloneI_calls (A : Option Addr) (c : Nat) (l : List Int) (w : World) (hC : kI.C w A l.length l) (hb : l.length ≤ 1000000) :
    Calls Try.prog 29 #[.slice A l.length c] w fun e w' => ∃ v, e = .returned v ∧ kI.R 3 w' w.heap.size (fun _ => True) v l ∧ Below w.heap.size w w' := by
  have q22 : ∀ (w : World) (a : Option Addr) (n c n' c' : Nat), (binOp .eql 27 (.slice a n c) (.slice none n' c')).run Try.prog w = .ok (.bool a.isNone) w := fun w a n c n' c' => Lib.run_eql_slice_nil w _ _ a n c n' c' Try.underlying27
  have HC := AsZ.mk hC
  clear hC
  cases A with
  | none =>
    have h0 : l = [] := by
      cases l with
      | nil => rfl
      | cons x r => obtain ⟨ad, he, _⟩ := HC.out.2.2 (by simp); cases he
    subst h0
    go_enter Try.func29, Try.ntmps29
    go_wp2
    go_ret
    exact ⟨_, rfl, Kd.R_nil _ _ _ _ _, by first | exact Below.refl _ _ | exact below_drew (Below.refl _ _)⟩
  | some ad =>
    go_enter Try.func29, Try.ntmps29
    go_wp2_with (at_builtin; (refine Kd.R_append_rows kI (w0 := w) w.heap.size rfl (.tmp 5) (.tmp 6) 27 3 (.int .i64 0) 8 rfl Try.underlying27 infoI rfl (by decide) (by decide) (.slice (some ⟨w.heap.size, 0, none⟩) 0 0) [] l (some ad) l.length c (fun _ => True) (fun _ => False) rfl rfl ⟨fun _ _ => trivial, [], World.ownsRow_made w #[] 0 (Nat.le_refl _) (Nat.zero_le _) (by simp), Reps.none _ _⟩ (Kd.C_below HC.out (aBl (Below.refl _ _) _)) (fun x cs h => h) (fun _ h => h.elim) (fun _ _ => trivial) (aBl (Below.refl _ _) _) (by simp) (by simp; omega) ?_; intro v1 w1 hR hb1 _ _; rw [List.nil_append] at hR; replace hR := AsZ.mk hR; replace hb1 := AsZ.mk hb1))
    go_ret
    exact ⟨_, rfl, hR.out, hb1.out⟩
theorem cloneA_calls (A : Option Addr) (c : Nat) (l : List AK) (w : World) (hC : kA.C w A l.length l) (hb : l.length ≤ 1000000) :
    Calls Try.prog 31 #[.slice A l.length c] w fun e w' => ∃ v, e = .returned v ∧ kA.R 32 w' w.heap.size (fun _ => True) v l ∧ Below w.heap.size w w' := by
  have q22 : ∀ (w : World) (a : Option Addr) (n c n' c' : Nat), (binOp .eql 28 (.slice a n c) (.slice none n' c')).run Try.prog w = .ok (.bool a.isNone) w := fun w a n c n' c' => Lib.run_eql_slice_nil w _ _ a n c n' c' Try.underlying28
  have HC := AsZ.mk hC
  clear hC
  cases A with
  | none =>
    have h0 : l = [] := by
      cases l with
      | nil => rfl
      | cons x r => obtain ⟨ad, he, _⟩ := HC.out.2.2 (by simp); cases he
    subst h0
    go_enter Try.func31, Try.ntmps31
    go_wp2
    go_ret
    exact ⟨_, rfl, Kd.R_nil _ _ _ _ _, by first | exact Below.refl _ _ | exact below_drew (Below.refl _ _)⟩
  | some ad =>
    go_enter Try.func31, Try.ntmps31
    go_wp2_with (at_builtin; (refine Kd.R_append_rows kA (w0 := w) w.heap.size rfl (.tmp 5) (.tmp 6) 28 32 _ 48 rfl Try.underlying28 infoA rfl (by decide) (by decide) (.slice (some ⟨w.heap.size, 0, none⟩) 0 0) [] l (some ad) l.length c (fun _ => True) (fun _ => False) rfl rfl ⟨fun _ _ => trivial, [], World.ownsRow_made w #[] 0 (Nat.le_refl _) (Nat.zero_le _) (by simp), Reps.none _ _⟩ (Kd.C_below HC.out (aBl (Below.refl _ _) _)) (fun x cs h => by rw [k32_open h]; exact k32_mkM _ _ _ x) (fun _ h => h.elim) (fun _ _ => trivial) (aBl (Below.refl _ _) _) (by simp) (by simp; omega) ?_; intro v1 w1 hR hb1 _ _; rw [List.nil_append] at hR; replace hR := AsZ.mk hR; replace hb1 := AsZ.mk hb1))
    go_ret
    exact ⟨_, rfl, hR.out, hb1.out⟩
end Go.Proofs.Ytpphnjmppkbpbaa.Org
namespace Go.Proofs.Ytpphnjmppkbpbaa.Org
open Go Go.RowKit Go.Proofs Go.Proofs.Ytpphnjmppkbpbaa.Xw Go.Proofs.Ytpphnjmppkbpbaa.PAll Go.Proofs.Ytpphnjmppkbpbaa.Ag Go.Proofs.YtpphnjmppkbpbaaW.PrintWords Go.Proofs.YtpphnjmppkbpbaaW.PrintLast Go.Proofs.YtpphnjmppkbpbaaW.PrintMore
attribute [local go_sem] Oper.semAt_some
set_option linter.unusedSimpArgs false
set_option linter.unusedVariables false
abbrev vz : Nat → Int := fun _ => 0
theorem zero_org (w : World) : (zeroValue 51).run Try.prog w = .ok (.agg (orgC vz (.slice none 0 0) (.slice none 0 0))) w := by
  rw [Try.zeroValue51]; rfl
attribute [local go_sem ↓] zero_org
theorem Org.fresh (w : World) : Org (w.alloc (.cells (orgC vz (.slice none 0 0) (.slice none 0 0)) 51 (0, 0))) w.heap.size (fun k => k = w.heap.size) w.heap.size vz [] [] (.slice none 0 0) (.slice none 0 0) :=
  ⟨fun k hk => by omega, fun k hk => by rw [alloc_size]; omega, rfl, blk_new _ _, Kd.R_nil _ _ _ _ _, Kd.R_nil _ _ _ _ _⟩
set_option maxHeartbeats 4000000 in
set_option maxRecDepth 100000 in
theorem new_calls (w : World) : Calls Try.prog 6 #[] w fun e w' => e = .returned (.pointer (some ⟨w.heap.size, 0, none⟩)) ∧ OrgX w' w.heap.size (fun k => k = w.heap.size) w.heap.size vz [] [] ∧ Below w.heap.size w w' := by
  have HO := AsZ.mk (Org.fresh w)
  have HB := AsZ.mk (aBl (Below.refl w.heap.size w) (.cells (orgC vz (.slice none 0 0) (.slice none 0 0)) 51 (0, 0)))
  go_enter Try.func6, Try.ntmps6
  go_wp2
  go_ret
  exact ⟨rfl, ⟨_, _, HO.out⟩, HB.out⟩
set_option maxHeartbeats 4000000 in
set_option maxRecDepth 100000 in
theorem has_calls (g : Nat) (o : Int) (w : World) : Calls Try.prog 17 #[.pointer (some ⟨g, 0, none⟩), .int .i64 o] w fun e w' => e = .returned (.bool (decide (0 ≤ o ∧ o < 16))) ∧ Below w.heap.size w w' := by
  by_cases h0 : o ≥ 0
  · by_cases h1 : o < 16
    · have d0 := decide_eq_true h0
      have d1 := decide_eq_true h1
      rw [decide_eq_true (show 0 ≤ o ∧ o < 16 by omega)]
      go_enter Try.func17, Try.ntmps17
      go_wp2
      go_ret
      exact ⟨rfl, by first | exact Below.refl _ _ | exact below_drew (Below.refl _ _)⟩
    · have d0 := decide_eq_true h0
      have d1 := decide_eq_false h1
      rw [decide_eq_false (show ¬ (0 ≤ o ∧ o < 16) by omega)]
      go_enter Try.func17, Try.ntmps17
      go_wp2
      go_ret
      exact ⟨rfl, by first | exact Below.refl _ _ | exact below_drew (Below.refl _ _)⟩
  · have d0 := decide_eq_false h0
    rw [decide_eq_false (show ¬ (0 ≤ o ∧ o < 16) by omega)]
    go_enter Try.func17, Try.ntmps17
    go_wp2
    go_ret
    exact ⟨rfl, by first | exact Below.refl _ _ | exact below_drew (Below.refl _ _)⟩
/-- the version that an object is in -/
def verP (V : Nat → Int) (o : Int) : Int := if 0 ≤ o ∧ o < 16 then V o.toNat else -1
set_option maxHeartbeats 4000000 in
set_option maxRecDepth 100000 in
theorem version_calls {base g : Nat} {P : Nat → Prop} {V : Nat → Int} {F : List Int} {A : List AK} (o : Int) (w : World) (h : OrgX w base P g V F A) : Calls Try.prog 15 #[.pointer (some ⟨g, 0, none⟩), .int .i64 o] w fun e w' => e = .returned (.int .i64 (verP V o)) ∧ Below w.heap.size w w' := by
  obtain ⟨vf, va, h⟩ := h
  have HC := has_calls g o w
  unfold verP
  by_cases h0 : 0 ≤ o ∧ o < 16
  · rw [decide_eq_true h0] at HC
    replace HC := AsZ.mk HC
    rw [if_pos h0]
    obtain ⟨q, rfl⟩ : ∃ q : Nat, o = q := ⟨o.toNat, by omega⟩
    have hq : q < 16 := by omega
    rw [Int.toNat_natCast]
    replace h := AsZ.mk h
    go_enter Try.func15, Try.ntmps15
    go_wp2_with (go_at_call 17; refine HC.out.mono ?_; rintro e w1 ⟨rfl, hb1⟩; have hc1 := (h.out.below hb1).cellI hq; replace hb1 := AsZ.mk hb1)
    go_ret
    exact ⟨rfl, hb1.out⟩
  · rw [decide_eq_false h0] at HC
    replace HC := AsZ.mk HC
    rw [if_neg h0]
    replace h := AsZ.mk h
    go_enter Try.func15, Try.ntmps15
    go_wp2_with (go_at_call 17; refine HC.out.mono ?_; rintro e w1 ⟨rfl, hb1⟩; replace hb1 := AsZ.mk hb1)
    go_ret
    exact ⟨rfl, hb1.out⟩
set_option maxHeartbeats 4000000 in
set_option maxRecDepth 100000 in
theorem faults_calls {base g : Nat} {P : Nat → Prop} {V : Nat → Int} {F : List Int} {A : List AK} (w : World) (h : OrgX w base P g V F A) : Calls Try.prog 14 #[.pointer (some ⟨g, 0, none⟩)] w fun e w' => e = .returned (.int .i64 F.length) ∧ Below w.heap.size w w' := by
  obtain ⟨vf, va, h⟩ := h
  obtain ⟨A1, c1, rfl⟩ := Kd.R_slice h.hF
  have hc1 := h.cellF
  replace h := AsZ.mk h
  go_enter Try.func14, Try.ntmps14
  go_wp2
  go_ret
  exact ⟨rfl, by first | exact Below.refl _ _ | exact below_drew (Below.refl _ _)⟩
set_option maxHeartbeats 4000000 in
set_option maxRecDepth 100000 in
theorem asked_calls {base g : Nat} {P : Nat → Prop} {V : Nat → Int} {F : List Int} {A : List AK} (hl : A.length ≤ 1000000) (w : World) (h : OrgX w base P g V F A) : Calls Try.prog 13 #[.pointer (some ⟨g, 0, none⟩)] w fun e w' => ∃ v, e = .returned v ∧ kA.R 32 w' w.heap.size (fun _ => True) v A ∧ Below w.heap.size w w' := by
  obtain ⟨vf, va, h⟩ := h
  obtain ⟨A1, c1, rfl, hl1, hC1⟩ := Kd.R_reads h.hA
  have hc1 := h.cellA
  replace h := AsZ.mk h
  have HC := AsZ.mk (cloneA_calls A1 c1 A w hC1 hl)
  clear hC1
  go_enter Try.func13, Try.ntmps13
  go_wp2_with (go_at_call 31; refine HC.out.mono ?_; rintro e w1 ⟨v, rfl, hR, hb1⟩; replace hR := AsZ.mk hR; replace hb1 := AsZ.mk hb1)
  go_ret
  exact ⟨_, rfl, hR.out, hb1.out⟩
end Go.Proofs.Ytpphnjmppkbpbaa.Org
namespace Go.Proofs.Ytpphnjmppkbpbaa.Org
open Go Go.RowKit Go.Proofs Go.Proofs.Ytpphnjmppkbpbaa.Xw Go.Proofs.Ytpphnjmppkbpbaa.PAll Go.Proofs.Ytpphnjmppkbpbaa.Ag Go.Proofs.YtpphnjmppkbpbaaW.PrintWords Go.Proofs.YtpphnjmppkbpbaaW.PrintLast Go.Proofs.YtpphnjmppkbpbaaW.PrintMore
attribute [local go_sem] Oper.semAt_some
set_option linter.unusedSimpArgs false
set_option linter.unusedVariables false
/-- the blocks of an origin behind a deed that led from w to X -/
def PX (P : Nat → Prop) (w X : World) : Nat → Prop := fun k => (P k ∨ w.heap.size ≤ k) ∧ k < X.heap.size
theorem set_size (X : World) (a : Addr) (v : Value) : (X.setCell a v).heap.size = X.heap.size := by simp [World.setCell]
section
variable {w X : World} {base g : Nat} {P Q : Nat → Prop} {V : Nat → Int} {F F1 : List Int} {A A1 : List AK} {vf va v1 : Value}
theorem px_of {k : Nat} (h : PX P w X k) : P k ∨ w.heap.size ≤ k := h.1
theorem tyI1 {q : Nat} (hq : q ∈ 3 :: kI.E) : q = 3 := by simpa [Kd.int, Kd.scalar] using hq
theorem tyA1 {q : Nat} (hq : q ∈ 32 :: kA.E) : q = 32 := by simpa [kA, k32, k30, Kd.iso, Kd.pair, Kd.int, Kd.bool, Kd.string, Kd.scalar] using hq
theorem Org.base_le (h : Org w base P g V F A vf va) : base ≤ w.heap.size := Nat.le_trans (h.hge g h.hg) (Nat.le_of_lt (h.hlt g h.hg))
theorem Org.newF (h : Org w base P g V F A vf va) (hk : KeepP w (fun k => some k = vf.ownBlock) X) (hR : kI.R 3 X base (fun k => P k ∨ w.heap.size ≤ k) v1 F1) :
    Org (X.setCell ⟨g, 16, none⟩ v1) base (PX P w (X.setCell ⟨g, 16, none⟩ v1)) g V F1 A v1 va ∧ KeepP w P (X.setCell ⟨g, 16, none⟩ v1) := by
  have hgX : X.heap[g]? = some (.cells (orgC V vf va) 51 (0, 0)) := hk.cells h.hb (fun e => Kd.R_ne h.hF h.hb (by decide) e)
  have hs := set_size X ⟨g, 16, none⟩ v1
  have hbl := h.base_le
  refine ⟨⟨fun k hkk => ?_, fun k hkk => hkk.2, ⟨.inl h.hg, by rw [hs]; exact bLt hgX⟩, by rw [blk_set hgX, orgC_setf], ?_, ?_⟩, ?_⟩
  · rcases hkk.1 with hp | hp
    · exact h.hge k hp
    · omega
  · refine Kd.R_mono (Kd.R_bound (Kd.R_set hR hgX (fun q hq => tyI hq) 16 v1)) (fun k hkk => ⟨hkk.1, hkk.2.2.1⟩)
  · have hA1 : kA.R 32 X base P va A := Kd.R_mono (Kd.R_step (Kd.R_bound h.hA) (fun k hkk hlt => hk.block k hlt (fun e => by
      obtain ⟨_, _, _, q, hq, cells, hc⟩ := hkk
      obtain ⟨inner, ho⟩ := Kd.R_own h.hF
      obtain ⟨cs, hcs⟩ := own_typed ho k e.symm
      rw [hc] at hcs
      injection hcs with hcs
      injection hcs with _ h2
      rw [tyA1 hq] at h2
      exact absurd h2 (by decide)))) (fun k hkk => hkk.1)
    refine Kd.R_mono (Kd.R_bound (Kd.R_set hA1 hgX (fun q hq => tyA hq) 16 v1)) (fun k hkk => ⟨.inl hkk.1, hkk.2.2.1⟩)
  · exact (hk.mono (fun k e => .inl (h.hF.1 k e.symm))).set (.inl h.hg) 16 v1
theorem Org.newA (h : Org w base P g V F A vf va) (hk : KeepP w (fun k => some k = va.ownBlock) X) (hR : kA.R 32 X base (fun k => P k ∨ w.heap.size ≤ k) v1 A1) :
    Org (X.setCell ⟨g, 17, none⟩ v1) base (PX P w (X.setCell ⟨g, 17, none⟩ v1)) g V F A1 vf v1 ∧ KeepP w P (X.setCell ⟨g, 17, none⟩ v1) := by
  have hgX : X.heap[g]? = some (.cells (orgC V vf va) 51 (0, 0)) := hk.cells h.hb (fun e => Kd.R_ne h.hA h.hb (by decide) e)
  have hs := set_size X ⟨g, 17, none⟩ v1
  have hbl := h.base_le
  refine ⟨⟨fun k hkk => ?_, fun k hkk => hkk.2, ⟨.inl h.hg, by rw [hs]; exact bLt hgX⟩, by rw [blk_set hgX, orgC_seta], ?_, ?_⟩, ?_⟩
  · rcases hkk.1 with hp | hp
    · exact h.hge k hp
    · omega
  · have hF1 : kI.R 3 X base P vf F := Kd.R_mono (Kd.R_step (Kd.R_bound h.hF) (fun k hkk hlt => hk.block k hlt (fun e => by
      obtain ⟨_, _, _, q, hq, cells, hc⟩ := hkk
      obtain ⟨inner, ho⟩ := Kd.R_own h.hA
      obtain ⟨cs, hcs⟩ := own_typed ho k e.symm
      rw [hc] at hcs
      injection hcs with hcs
      injection hcs with _ h2
      rw [tyI1 hq] at h2
      exact absurd h2 (by decide)))) (fun k hkk => hkk.1)
    refine Kd.R_mono (Kd.R_bound (Kd.R_set hF1 hgX (fun q hq => tyI hq) 17 v1)) (fun k hkk => ⟨.inl hkk.1, hkk.2.2.1⟩)
  · refine Kd.R_mono (Kd.R_bound (Kd.R_set hR hgX (fun q hq => tyA hq) 17 v1)) (fun k hkk => ⟨hkk.1, hkk.2.2.1⟩)
  · exact (hk.mono (fun k e => .inl (h.hA.1 k e.symm))).set (.inl h.hg) 17 v1
end
theorem KeepP.of_grown {w X : World} {row : Option Nat} (hg : w.grownBy X row) : KeepP w (fun k => some k = row) X := (KeepP.refl w _).grown hg (fun k e => .inl e.symm)
set_option maxHeartbeats 4000000 in
set_option maxRecDepth 100000 in
theorem fault_calls {base g : Nat} {P : Nat → Prop} {V : Nat → Int} {F : List Int} {A : List AK} (A1 : Option Addr) (c : Nat) (l : List Int) (w : World) (h : OrgX w base P g V F A) (hC : kI.C w A1 l.length l) (hl : F.length + l.length ≤ 1000000) :
    Calls Try.prog 8 #[.pointer (some ⟨g, 0, none⟩), .slice A1 l.length c] w fun e w' => e = .returned (.tuple #[]) ∧ OrgX w' base (PX P w w') g V (F ++ l) A ∧ KeepP w P w' := by
  obtain ⟨vf, va, h⟩ := h
  have hc1 := h.cellF
  have hz1 := bFz h.hb 16
  replace h := AsZ.mk h
  replace hC := AsZ.mk hC
  have hfre : ∀ X : World, AsZ (w.grownBy X vf.ownBlock) → X.frozen? ⟨g, 16, none⟩ = false := fun X hg => bFz ((KeepP.of_grown hg.out).cells h.out.hb (fun e => Kd.R_ne h.out.hF h.out.hb (by decide) e)) 16
  have hcel : ∀ X : World, AsZ (w.grownBy X vf.ownBlock) → X.cell? ⟨g, 16, none⟩ = some vf := fun X hg => (bCe ((KeepP.of_grown hg.out).cells h.out.hb (fun e => Kd.R_ne h.out.hF h.out.hb (by decide) e)) 16).trans orgC_f
  go_enter Try.func8, Try.ntmps8
  go_wp2_with (at_builtin; (refine Kd.R_append_rows kI (w0 := w) base rfl (.tmp 10) (.tmp 11) 27 3 (.int .i64 0) 8 rfl Try.underlying27 infoI rfl (by decide) (by decide) vf F l A1 l.length c (fun k => P k ∨ w.heap.size ≤ k) (fun _ => False) rfl rfl (Kd.R_mono h.out.hF (fun k hk => .inl hk)) hC.out (fun x cs h => h) (fun _ h => h.elim) (fun _ h => .inr h) (Below.refl _ _) h.out.base_le (by omega) ?_; intro v1 w1 hR hb1 hg1 hat; clear hb1 hat; obtain ⟨A3, c3, rfl⟩ := Kd.R_slice hR; replace hR := AsZ.mk hR; replace hg1 := AsZ.mk hg1; have hf1 := hfre w1 hg1; have hq1 := hcel w1 hg1))
  refine bodyPost_end (results_none Try.results8 _ _ _) rfl ?_
  have hN := h.out.newF (KeepP.of_grown hg1.out) hR.out
  rw [List.length_append] at hN
  exact ⟨rfl, ⟨_, _, hN.1⟩, hN.2⟩
end Go.Proofs.Ytpphnjmppkbpbaa.Org
namespace Go.Proofs.Ytpphnjmppkbpbaa.Org
open Go Go.RowKit Go.Proofs Go.Proofs.Ytpphnjmppkbpbaa.Xw Go.Proofs.Ytpphnjmppkbpbaa.PAll Go.Proofs.Ytpphnjmppkbpbaa.Ag Go.Proofs.Ytpphnjmppkbpbaa.Pure Go.Proofs.Ytpphnjmppkbpbaa.PureQ Go.Proofs.YtpphnjmppkbpbaaW.PrintWords Go.Proofs.YtpphnjmppkbpbaaW.PrintLast Go.Proofs.YtpphnjmppkbpbaaW.PrintMore
attribute [local go_sem] Oper.semAt_some
set_option linter.unusedSimpArgs false
set_option linter.unusedVariables false
abbrev RP := Int × ByteArray × Int × ByteArray × List Int
/-- an answer's value: its body is a row that may be read, in blocks from lo on -/
def RepV (w : World) (lo : Nat) (v : Value) (r : RP) : Prop := ∃ A c, v = .agg #[.int .i64 r.1, .string r.2.1, .int .i64 r.2.2.1, .string r.2.2.2.1, .slice A r.2.2.2.2.length c] ∧ r.2.2.2.2.length ≤ c ∧ Kd.F (Kd.int .u8) w (fun k => lo ≤ k) A r.2.2.2.2.length r.2.2.2.2
theorem RepV.below {w X : World} {lo : Nat} {v : Value} {r : RP} (h : RepV w lo v r) (hb : Below w.heap.size w X) : RepV X lo v r := by
  obtain ⟨A, c, h1, h2, h3⟩ := h
  exact ⟨A, c, h1, h2, Kd.F_below h3 hb⟩
theorem RepV.lower {w : World} {lo lo' : Nat} {v : Value} {r : RP} (h : RepV w lo v r) (hl : lo' ≤ lo) : RepV w lo' v r := by
  obtain ⟨A, c, h1, h2, h3⟩ := h
  exact ⟨A, c, h1, h2, Kd.F_mono h3 (fun k hk => Nat.le_trans hl hk)⟩
theorem RepV.keep {w X : World} {lo : Nat} {P : Nat → Prop} {v : Value} {r : RP} (h : RepV w lo v r) (hk : KeepP w P X) (hP : ∀ k, lo ≤ k → ¬ P k) : RepV X lo v r := by
  obtain ⟨A, c, h1, h2, h3⟩ := h
  exact ⟨A, c, h1, h2, Kd.F_step h3 (fun k hl hlt => hk.block k hlt (hP k hl))⟩
theorem RepV.of_R {w : World} {base : Nat} {s1 : Int} {s2 : ByteArray} {s3 : Int} {s4 : ByteArray} {s5 : List Int} {u : Value} (h : (Kd.int .u8).R 5 w base (fun _ => True) u s5) : RepV w base (.agg #[.int .i64 s1, .string s2, .int .i64 s3, .string s4, u]) (s1, s2, s3, s4, s5) := by
  obtain ⟨A, c, rfl, hl, _⟩ := Kd.R_reads h
  refine ⟨A, c, rfl, hl, fun W' hW => ?_⟩
  obtain ⟨A', c', he, _, hC⟩ := Kd.R_reads (Kd.R_step (w1 := W') (Kd.R_bound h) (fun k hk hlt => hW k hk.2.1 hlt))
  injection he with e1 e2 e3
  subst e1
  exact hC
def askV (a : AK) : Value := .agg #[.int .i64 a.f0, .bool a.f1, .string a.f2, .int .i64 a.f3.f0, .int .i64 a.f3.f1]
def ans (a : AK) (v : Int) : RP := replyV a.f0 a.f1 (bytesOf a.f2) a.f3.f0 a.f3.f1 v
def flt (k : Int) (r : RP) : RP := faultyV k r.1 r.2.1 r.2.2.1 r.2.2.2.1 r.2.2.2.2
def served (F : List Int) (r : RP) : RP := match F with | [] => r | k :: _ => flt k r
structure RSm (r : RP) : Prop where
  tag : r.2.1.size ≤ 200
  range : r.2.2.2.1.size ≤ 200
  body : r.2.2.2.2.length ≤ 500
theorem tagV_len (o v : Int) : (tagV o v).length ≤ 100 := by
  unfold tagV
  split
  · rename_i h
    have hm := of_decide_eq_true h
    simp only [List.length_append, List.length_cons, List.length_nil]
    have l1 := dig_len o.toNat (by omega)
    have l2 := dig_len v.toNat (by omega)
    omega
  · simp
theorem ans_small (a : AK) (v : Int) : RSm (ans a v) := by
  have h1 := tagV_len a.f0 v
  have h2 := lenV_range a.f0 v
  have h3 := bodyV_len a.f0 v a.f3.f0 a.f3.f1
  have h4 := Pure.ptext_len (lenV a.f0 v) (by omega)
  unfold ans replyV
  repeat' split
  all_goals refine ⟨by simp only [size_str]; (try simp only [List.length_nil]); omega, ?_, by first | (dsimp only; omega) | simp⟩
  all_goals simp only [size_str, Pure.crText, Pure.crNone, Pure.unitT, List.length_append, List.length_cons, List.length_nil]
  all_goals try omega
  rename_i hr
  have hr' := of_decide_eq_true hr.1
  have l1 := Pure.ptext_len a.f3.f0 (by omega)
  have l2 := Pure.ptext_len (a.f3.f1 - 1) (by omega)
  omega
theorem of_calls (a : AK) (v : Int) (w : World) : Calls Try.prog 28 #[askV a, .int .i64 v] w fun e w' => ∃ u, e = .returned u ∧ RepV w' w.heap.size u (ans a v) ∧ Below w.heap.size w w' := by
  obtain ⟨n, hn⟩ := reply_v a.f0 a.f1 a.f2 a.f3.f0 a.f3.f1 v
  refine (reply_Of.calls n a.f0 a.f1 a.f2 a.f3.f0 a.f3.f1 v _ _ _ _ _ w (hn n (Nat.le_refl _))).mono ?_
  rintro e w' ⟨u, rfl, hR, hb⟩
  exact ⟨_, rfl, .of_R hR, hb⟩
theorem flt_calls (k : Int) (r : RP) (hs : RSm r) (u : Value) (lo : Nat) (w : World) (hr : RepV w lo u r) : Calls Try.prog 30 #[.int .i64 k, u] w fun e w' => ∃ u', e = .returned u' ∧ RepV w' w.heap.size u' (flt k r) ∧ Below w.heap.size w w' := by
  obtain ⟨A, c, rfl, hl, hC⟩ := hr
  obtain ⟨n, hn⟩ := faulty_ev k r.1 r.2.1 r.2.2.1 r.2.2.2.1 r.2.2.2.2 hs.tag hs.range hs.body
  refine (reply_Faulty.calls n k r.1 r.2.1 r.2.2.1 r.2.2.2.1 A c r.2.2.2.2 _ _ _ _ _ w (Kd.F_now hC) hl (hn n (Nat.le_refl _))).mono ?_
  rintro e w' ⟨u, rfl, hR, hb⟩
  exact ⟨_, rfl, .of_R hR, hb⟩
theorem ref_calls (a : AK) (v : Int) (w : World) : Calls Try.prog 9 #[askV a, .int .i64 v] w fun e w' => ∃ u, e = .returned u ∧ RepV w' w.heap.size u (ans a v) ∧ Below w.heap.size w w' := by
  obtain ⟨n, hn⟩ := ref_reply_v a.f0 a.f1 a.f2 a.f3.f0 a.f3.f1 v
  refine (spenceref24_Reply.calls n a.f0 a.f1 a.f2 a.f3.f0 a.f3.f1 v _ _ _ _ _ w (hn n (Nat.le_refl _))).mono ?_
  rintro e w' ⟨u, rfl, hR, hb⟩
  exact ⟨_, rfl, .of_R hR, hb⟩
theorem flt_body (k : Int) (r : RP) (hs : RSm r) : (flt k r).2.2.2.2.length ≤ 500 := faultyV_len k _ _ _ _ _ hs.body
theorem same_calls (r : RP) (hs : r.2.2.2.2.length ≤ 1000) (u u' : Value) (lo lo' : Nat) (w : World) (hr : RepV w lo u r) (hr' : RepV w lo' u' r) : Calls Try.prog 11 #[u, u'] w fun e w' => e = .returned (.bool true) ∧ Below w.heap.size w w' := by
  obtain ⟨A, c, rfl, hl, hC⟩ := hr
  obtain ⟨A', c', rfl, hl', hC'⟩ := hr'
  obtain ⟨n, hn⟩ := same_self r (by omega)
  exact spenceref24_SameReply.calls n r.1 r.2.1 r.2.2.1 r.2.2.2.1 A c r.2.2.2.2 r.1 r.2.1 r.2.2.1 r.2.2.2.1 A' c' r.2.2.2.2 true w (Kd.F_now hC) hl (Kd.F_now hC') hl' (hn n (Nat.le_refl _))
end Go.Proofs.Ytpphnjmppkbpbaa.Org
namespace Go.Proofs.Ytpphnjmppkbpbaa.Org
open Go Go.RowKit Go.Proofs Go.Proofs.Ytpphnjmppkbpbaa.Xw Go.Proofs.Ytpphnjmppkbpbaa.PAll Go.Proofs.Ytpphnjmppkbpbaa.Ag Go.Proofs.YtpphnjmppkbpbaaW.PrintWords Go.Proofs.YtpphnjmppkbpbaaW.PrintLast Go.Proofs.YtpphnjmppkbpbaaW.PrintMore
attribute [local go_sem] Oper.semAt_some
set_option linter.unusedSimpArgs false
set_option linter.unusedVariables false
theorem wp_store_row {P : Program} {o : Oper} {a : Act} {W : World} {K : Act → World → Prop} {Q : Exit → Act → World → Prop} (ty : TypeId) (x y : Operand) (ho : o.op = .store ty x y) (hN : o.dst = none) (g : Nat) (hx : a.eval x = .pointer (some ⟨g, 0, none⟩)) (cells : Array Value) (hy : a.eval y = .agg cells)
    (old : Array Value) (t : TypeId) (hg : W.heap[g]? = some (.cells old t (0, 0))) (hi : (P.info? ty).map (·.size) = some cells.size) (ho' : old.size = cells.size) (h1 : cells.all (·.oneCell') = true) (hK : K a (W.setRow g cells)) : Oper.wp P o a W K Q := by
  unfold Oper.wp execOp
  simp only [ho, hx, hy, Instr.storeAt, Instr.sureAddr, Sem.run_bind, Sem.run_pure, Result.andThen_ok, run_storeVar_row W g t ty old cells hg hi ho' h1]
  have e : a.put o.dst undef = a := by rw [hN]; rfl
  show K (a.put o.dst undef) (W.setRow g cells)
  rw [e]
  exact hK
theorem list_store_row {P : Program} {ops : Array Oper} {rest : List Oper} {o : Oper} {a : Act} {W : World} {Q : Exit → Act → World → Prop} (hgd : o.guard = none) (ty : TypeId) (x y : Operand) (ho : o.op = .store ty x y) (hN : o.dst = none) (g : Nat) (hx : a.eval x = .pointer (some ⟨g, 0, none⟩)) (cells : Array Value) (hy : a.eval y = .agg cells)
    (old : Array Value) (t : TypeId) (hg : W.heap[g]? = some (.cells old t (0, 0))) (hi : (P.info? ty).map (·.size) = some cells.size) (ho' : old.size = cells.size) (h1 : cells.all (·.oneCell') = true) (h : wpList P ops Q rest a (W.setRow g cells)) : wpList P ops Q (o :: rest) a W :=
  wpList_plain hgd fun K hK => wp_store_row ty x y ho hN g hx cells hy old t hg hi ho' h1 (hK _ _ h)
theorem setRow_size (X : World) (g : Nat) (cells : Array Value) : (X.setRow g cells).heap.size = X.heap.size := by simp [World.setRow]
theorem KeepP.setRow {w X : World} {P : Nat → Prop} (h : KeepP w P X) {g : Nat} (hg : P g ∨ w.heap.size ≤ g) (cells : Array Value) : KeepP w P (X.setRow g cells) :=
  ⟨by rw [setRow_size]; exact h.size, fun k hk hp => (setRow_other X g k cells (fun e => hg.elim (fun h => hp (e ▸ h)) (fun hl => by omega))).trans (h.block k hk hp), h.os, h.tape, h.output⟩
set_option maxHeartbeats 8000000 in
set_option maxRecDepth 100000 in
theorem right_calls {base g n m : Nat} {P : Nat → Prop} {V : Nat → Int} {F : List Int} {A : List AK} (a : AK) (w : World) (h : OrgX w base P g V F A) (hn : w.heap[n]? = some (.cells #[.pointer (some ⟨g, 0, none⟩)] 24 (0, 0)))
    (hm : w.heap[m]? = some (.cells #[.int .i64 a.f0, .bool a.f1, .string a.f2, .int .i64 a.f3.f0, .int .i64 a.f3.f1] 32 (0, 0))) :
    Calls Try.prog 27 #[.pointer (some ⟨m, 0, none⟩), .pointer (some ⟨n, 0, none⟩)] w fun e w' => ∃ u, e = .returned u ∧ RepV w' w.heap.size u (ans a (verP V a.f0)) ∧ Below w.heap.size w w' := by
  have hbr := blk_new w (.cells #[.int .i64 0, .string ⟨#[]⟩, .int .i64 0, .string ⟨#[]⟩, .slice none 0 0] 40 (0, 0))
  have hB1 := aBl (Below.refl w.heap.size w) (.cells #[.int .i64 0, .string ⟨#[]⟩, .int .i64 0, .string ⟨#[]⟩, .slice none 0 0] 40 (0, 0))
  obtain ⟨W1, hW1⟩ : ∃ X, w.alloc (.cells #[.int .i64 0, .string ⟨#[]⟩, .int .i64 0, .string ⟨#[]⟩, .slice none 0 0] 40 (0, 0)) = X := ⟨_, rfl⟩
  rw [hW1] at hbr hB1
  have hsz : w.heap.size < W1.heap.size := bLt hbr
  have hSn : ∀ X, KeepP W1 (fun k => k = w.heap.size) X → X.cell? ⟨n, 0, none⟩ = some (.pointer (some ⟨g, 0, none⟩)) := fun X hk => (bCe (hk.cells (bBl hn hB1) (by have := bLt hn; omega)) 0).trans rfl
  have hSm : ∀ j : Nat, ∀ X, KeepP W1 (fun k => k = w.heap.size) X → X.cell? ⟨m, j, none⟩ = #[Value.int .i64 a.f0, .bool a.f1, .string a.f2, .int .i64 a.f3.f0, .int .i64 a.f3.f1][j]? := fun j X hk => bCe (hk.cells (bBl hm hB1) (by have := bLt hm; omega)) j
  have hS0 := fun X hk => (hSm 0 X hk).trans rfl
  have hS1 := fun X hk => (hSm 1 X hk).trans rfl
  have hS2 := fun X hk => (hSm 2 X hk).trans rfl
  have hS3 := fun X hk => (hSm 3 X hk).trans rfl
  have hS4 := fun X hk => (hSm 4 X hk).trans rfl
  clear hSm
  replace h := AsZ.mk (h.below hB1)
  replace hW1 := AsZ.mk hW1
  replace hsz := AsZ.mk hsz
  replace hbr := AsZ.mk hbr
  replace hB1 := AsZ.mk hB1
  clear hn hm
  go_enter Try.func27, Try.ntmps27
  go_wp2
  rename_i Kz hKz
  replace hKz := AsZ.mk hKz
  rw [hW1.out]
  have hBd := AsZ.mk (below_drew (Below.refl W1.heap.size W1))
  have hX := AsZ.mk (KeepP.of_below (P := fun k => k = w.heap.size) hBd.out)
  have hOd := AsZ.mk (h.out.below hBd.out)
  refine wp_region_noPanic ?_
  refine wp_region_held_drew (S := fun X => KeepP W1 (fun k => k = w.heap.size) X) (by kernel_rfl) hX.out (fun hHeld => ?_)
  generalize W1.drew = wd at hX hOd hBd hHeld ⊢
  refine wpAnyH_take (i := 0) (oi := { dst := some 3, op := Go.Op.load 32 (Go.Operand.tmp 0), type := 32, pos := "origin.go:84", after := #[], guard := none }) (v := ?_) rfl (by kernel_rfl) (by kernel_rfl) (by kernel_rfl) (fun _ _ _ h => h) (Or.inl ⟨by kernel_rfl, ?_⟩) (by assumption) ?_
  rotate_left
  · intro W hSw; go_simp; first | done | with_reducible rfl
  try simp only [Act.put, lsA, lsB, lsC]
  refine wpAnyH_take (i := 1) (oi := { dst := some 4, op := Go.Op.load 24 (Go.Operand.tmp 1), type := 24, pos := "origin.go:84", after := #[], guard := none }) (v := ?_) rfl (by kernel_rfl) (by kernel_rfl) (by kernel_rfl) (fun _ _ _ h => h) (Or.inl ⟨by kernel_rfl, ?_⟩) (by assumption) ?_
  rotate_left
  · intro W hSw; go_simp; first | done | with_reducible rfl
  try simp only [Act.put, lsA, lsB, lsC]
  refine wpAnyH_take (i := 2) (oi := { dst := some 5, op := Go.Op.fieldAddr 32 (Go.Operand.tmp 0) 0, type := 0, pos := "origin.go:84", after := #[], guard := none }) (v := ?_) rfl (by kernel_rfl) (by kernel_rfl) (by kernel_rfl) (fun _ _ _ h => h) (Or.inl ⟨by kernel_rfl, ?_⟩) (by assumption) ?_
  rotate_left
  · intro W hSw; go_simp; first | done | with_reducible rfl
  try simp only [Act.put, lsA, lsB, lsC]
  refine wpAnyH_take (i := 3) (oi := { dst := some 6, op := Go.Op.load 3 (Go.Operand.tmp 5), type := 3, pos := "origin.go:84", after := #[{ on := 2, ground := Go.Ground.data }], guard := none }) (v := ?_) rfl (by kernel_rfl) (by kernel_rfl) (by kernel_rfl) (fun _ _ _ h => h) (Or.inl ⟨by kernel_rfl, ?_⟩) (by assumption) ?_
  rotate_left
  · intro W hSw; go_simp; first | done | with_reducible rfl
  try simp only [Act.put, lsA, lsB, lsC]
  refine wpAnyH_ready (rs := [4]) (by kernel_rfl) (by simp) ?_
  refine AllReadyH.cons (o := { dst := some 7, op := Go.Op.call { callee := Go.Callee.value (Go.Operand.func 15), args := #[Go.Operand.tmp 4, Go.Operand.tmp 6], argTypes := #[24, 3] }, type := 3, pos := "origin.go:84", after := #[{ on := 1, ground := Go.Ground.data }, { on := 3, ground := Go.Ground.data }], guard := none }) rfl (fun K hK => ?_) AllReadyH.nil
  refine goes_ (N := some 7) («as» := #[.tmp 4, .tmp 6]) Try.func15 (by kernel_rfl) rfl #[.pointer (some ⟨g, 0, none⟩), .int .i64 a.f0] (by kernel_rfl) rfl rfl (by kernel_rfl) ?_
  refine (version_calls a.f0 _ hOd.out).mono ?_
  rintro e Y ⟨rfl, hb⟩
  refine ⟨_, rfl, ?_⟩
  have hBY := AsZ.mk (tBl hBd.out hb)
  clear hb
  refine hK.out _ _ ?_ (fun hHeld => ?_)
  · exact KeepP.of_below hBY.out
  clear hK K
  try simp only [Act.put, lsA, lsB, lsC]
  refine wpAnyH_ready (rs := [5]) (by kernel_rfl) (by simp) ?_
  refine AllReadyH.cons (o := { dst := some 8, op := Go.Op.call { callee := Go.Callee.value (Go.Operand.func 28), args := #[Go.Operand.tmp 3, Go.Operand.tmp 7], argTypes := #[32, 3] }, type := 40, pos := "origin.go:84", after := #[{ on := 0, ground := Go.Ground.data }, { on := 4, ground := Go.Ground.data }, { on := 4, ground := Go.Ground.chain }], guard := none }) rfl (fun K hK => ?_) AllReadyH.nil
  refine goes_ (N := some 8) («as» := #[.tmp 3, .tmp 7]) Try.func28 (by kernel_rfl) rfl #[askV a, .int .i64 (verP V a.f0)] (by kernel_rfl) rfl rfl (by kernel_rfl) ?_
  refine (of_calls a (verP V a.f0) _).mono ?_
  rintro e Z ⟨v, rfl, hr, hb⟩
  refine ⟨_, rfl, ?_⟩
  have hBZ := AsZ.mk (tBl hBY.out hb)
  replace hr := AsZ.mk hr
  clear hb
  refine hK.out _ _ ?_ (fun hHeld => ?_)
  · exact KeepP.of_below hBZ.out
  clear hK K
  try simp only [Act.put, lsA, lsB, lsC]
  refine wpAnyH_ready (rs := [6]) (by kernel_rfl) (by simp) ?_
  refine AllReadyH.cons (o := { dst := none, op := Go.Op.store 40 (Go.Operand.tmp 2) (Go.Operand.tmp 8), type := 0, pos := "origin.go:84", after := #[{ on := 5, ground := Go.Ground.data }, { on := 5, ground := Go.Ground.chain }, { on := 0, ground := Go.Ground.phase }, { on := 1, ground := Go.Ground.phase }, { on := 2, ground := Go.Ground.phase }, { on := 3, ground := Go.Ground.phase }, { on := 4, ground := Go.Ground.phase }, { on := 5, ground := Go.Ground.phase }], guard := none }) rfl (fun K hK => ?_) AllReadyH.nil
  have hr1 := hr.out
  obtain ⟨Au, cu, rfl, hlu, hCu⟩ := hr1
  clear hlu hCu
  rw [if_pos (by first | rfl | kernel_rfl)]
  refine wp_store_row 40 (.tmp 2) (.tmp 8) rfl rfl w.heap.size rfl _ rfl _ 40 (bBl hbr.out hBZ.out) (by kernel_rfl) rfl (by simp [Value.oneCell']) ?_
  refine hK.out _ _ ?_ (fun hHeld => ?_)
  · exact KeepP.setRow (P := fun k => k = w.heap.size) (g := w.heap.size) (KeepP.of_below hBZ.out) (.inl rfl) _
  clear hK K
  try simp only [Act.put, lsA, lsB, lsC]
  refine wpAnyH_done (by kernel_rfl) ?_ _
  try simp only [Act.put, lsA, lsB, lsC, List.getElem_toArray, List.getElem_cons_zero, List.getElem_cons_succ]
  refine NoPanic.normal ?_
  (try dsimp only [Exit.then])
  refine hKz.out _ _ ?_
  have hRb := fun cs => setRow_heap Z w.heap.size _ cs 40 (0, 0) (bBl hbr.out hBZ.out)
  go_wp2
  refine bodyPost_ret (v := .agg _) (results_cell_row (p := 2) (ty := 40) rfl _ _ w.heap.size 40 _ (0, 0) _ rfl (hRb _) Try.underlying40 rfl (by kernel_rfl)) rfl ⟨_, rfl, ?_, ?_⟩
  · exact (hr.out.keep (P := fun k => k = w.heap.size) (KeepP.setRow (P := fun k => k = w.heap.size) (g := w.heap.size) (KeepP.refl Z _) (.inl rfl) _) (fun k hk => by have := hBY.out.size; have := hsz.out; omega)).lower (by have := hBY.out.size; have := hsz.out; omega)
  · exact below_setRow (tBl hB1.out hBZ.out) (Nat.le_refl _) _
end Go.Proofs.Ytpphnjmppkbpbaa.Org
namespace Go.Proofs.Ytpphnjmppkbpbaa.Org
open Go Go.RowKit Go.Proofs Go.Proofs.Ytpphnjmppkbpbaa.Xw Go.Proofs.Ytpphnjmppkbpbaa.PAll Go.Proofs.Ytpphnjmppkbpbaa.Ag Go.Proofs.YtpphnjmppkbpbaaW.PrintWords Go.Proofs.YtpphnjmppkbpbaaW.PrintLast Go.Proofs.YtpphnjmppkbpbaaW.PrintMore
attribute [local go_sem] Oper.semAt_some
set_option linter.unusedSimpArgs false
set_option linter.unusedVariables false
theorem Org.widen {w : World} {base g : Nat} {P Q : Nat → Prop} {V : Nat → Int} {F : List Int} {A : List AK} {vf va : Value} (h : Org w base P g V F A vf va) (hQ : ∀ k, P k → Q k) (hge : ∀ k, Q k → base ≤ k) (hlt : ∀ k, Q k → k < w.heap.size) : Org w base Q g V F A vf va :=
  ⟨hge, hlt, hQ g h.hg, h.hb, Kd.R_mono h.hF hQ, Kd.R_mono h.hA hQ⟩
theorem serve_fin {w w5 : World} {base g lo : Nat} {P P5 : Nat → Prop} {V : Nat → Int} {F5 : List Int} {A5 : List AK} {vf5 va5 u : Value} {r : RP} (hPl : ∀ k, P k → k < w.heap.size) (hge : ∀ k, P k → base ≤ k) (hbl : base ≤ w.heap.size)
    (hO : Org w5 base P5 g V F5 A5 vf5 va5) (hP5 : ∀ k, P5 k → P k ∨ w.heap.size + 3 ≤ k) (hK : KeepP w P w5) (hr : RepV w5 lo u r) (hlo : w.heap.size + 3 ≤ lo) (cs : Array Value) :
    RepV (w5.setRow (w.heap.size + 1 + 1) cs) w.heap.size u r ∧ OrgX (w5.setRow (w.heap.size + 1 + 1) cs) base (PX P w (w5.setRow (w.heap.size + 1 + 1) cs)) g V F5 A5 ∧ KeepP w P (w5.setRow (w.heap.size + 1 + 1) cs) := by
  have hs := setRow_size w5 (w.heap.size + 1 + 1) cs
  have hk : KeepP w5 (fun k => k = w.heap.size + 1 + 1) (w5.setRow (w.heap.size + 1 + 1) cs) := KeepP.setRow (P := fun k => k = w.heap.size + 1 + 1) (g := w.heap.size + 1 + 1) (KeepP.refl _ _) (.inl rfl) _
  refine ⟨(hr.keep hk (fun k hk => by omega)).lower (by omega), ⟨_, _, (hO.keep hk (fun k hk e => ?_)).widen (fun k hk => ⟨?_, ?_⟩) (fun k hk => ?_) (fun k hk => hk.2)⟩, hK.setRow (.inr (by omega)) _⟩
  · rcases hP5 k hk with hp | hp
    · have := hPl k hp; omega
    · omega
  · exact (hP5 k hk).imp id (fun h => by omega)
  · have := hO.hlt k hk; omega
  · rcases hk.1 with hp | hp
    · exact hge k hp
    · omega
theorem right_enters (args : Array Value) (w : World) : (callFunc 27 args).run Try.prog w = .ok (.enter 27 args) w := enters_of Try.func27 (by kernel_rfl) rfl args w
set_option maxHeartbeats 8000000 in
set_option maxRecDepth 100000 in
theorem serve_calls {base g : Nat} {P : Nat → Prop} {V : Nat → Int} {F : List Int} {A : List AK} (a : AK) (w : World) (h : OrgX w base P g V F A) (hF : F.length ≤ 1000000) (hA : A.length ≤ 1000000) :
    Calls Try.prog 12 #[.pointer (some ⟨g, 0, none⟩), askV a] w fun e w' => ∃ u, e = .returned u ∧ RepV w' w.heap.size u (served F (ans a (verP V a.f0))) ∧ OrgX w' base (PX P w w') g V F.tail (A ++ [a]) ∧ KeepP w P w' := by
  obtain ⟨vf, va, h⟩ := h
  have e0 := bAl (bAl (blk_new w (Obj.cells #[.pointer (some ⟨g, 0, none⟩)] 24 (0, 0))) (Obj.cells #[.int .i64 a.f0, .bool a.f1, .string a.f2, .int .i64 a.f3.f0, .int .i64 a.f3.f1] 32 (0, 0))) (Obj.cells #[.int .i64 0, .string ⟨#[]⟩, .int .i64 0, .string ⟨#[]⟩, .slice none 0 0] 40 (0, 0))
  have e1 := bAl (blk_new (w.alloc (Obj.cells #[.pointer (some ⟨g, 0, none⟩)] 24 (0, 0))) (Obj.cells #[.int .i64 a.f0, .bool a.f1, .string a.f2, .int .i64 a.f3.f0, .int .i64 a.f3.f1] 32 (0, 0))) (Obj.cells #[.int .i64 0, .string ⟨#[]⟩, .int .i64 0, .string ⟨#[]⟩, .slice none 0 0] 40 (0, 0))
  have e2 := blk_new ((w.alloc (Obj.cells #[.pointer (some ⟨g, 0, none⟩)] 24 (0, 0))).alloc (Obj.cells #[.int .i64 a.f0, .bool a.f1, .string a.f2, .int .i64 a.f3.f0, .int .i64 a.f3.f1] 32 (0, 0))) (Obj.cells #[.int .i64 0, .string ⟨#[]⟩, .int .i64 0, .string ⟨#[]⟩, .slice none 0 0] 40 (0, 0))
  have hB3 := aBl (aBl (aBl (Below.refl w.heap.size w) (Obj.cells #[.pointer (some ⟨g, 0, none⟩)] 24 (0, 0))) (Obj.cells #[.int .i64 a.f0, .bool a.f1, .string a.f2, .int .i64 a.f3.f0, .int .i64 a.f3.f1] 32 (0, 0))) (Obj.cells #[.int .i64 0, .string ⟨#[]⟩, .int .i64 0, .string ⟨#[]⟩, .slice none 0 0] 40 (0, 0))
  rw [alloc_size] at e1
  rw [alloc_size, alloc_size] at e2
  have hsz : (((w.alloc (Obj.cells #[.pointer (some ⟨g, 0, none⟩)] 24 (0, 0))).alloc (Obj.cells #[.int .i64 a.f0, .bool a.f1, .string a.f2, .int .i64 a.f3.f0, .int .i64 a.f3.f1] 32 (0, 0))).alloc (Obj.cells #[.int .i64 0, .string ⟨#[]⟩, .int .i64 0, .string ⟨#[]⟩, .slice none 0 0] 40 (0, 0))).heap.size = w.heap.size + 3 := by rw [alloc_size, alloc_size, alloc_size]
  obtain ⟨W3, hW3⟩ : ∃ X, ((w.alloc (Obj.cells #[.pointer (some ⟨g, 0, none⟩)] 24 (0, 0))).alloc (Obj.cells #[.int .i64 a.f0, .bool a.f1, .string a.f2, .int .i64 a.f3.f0, .int .i64 a.f3.f1] 32 (0, 0))).alloc (Obj.cells #[.int .i64 0, .string ⟨#[]⟩, .int .i64 0, .string ⟨#[]⟩, .slice none 0 0] 40 (0, 0)) = X := ⟨_, rfl⟩
  rw [hW3] at e0 e1 e2 hB3 hsz
  have hO3 := h.below hB3
  have hgl : g < w.heap.size := h.hlt g h.hg
  have hPl := AsZ.mk h.hlt
  have hge := AsZ.mk h.hge
  have hbl := AsZ.mk h.base_le
  have hnv : ∀ k, w.heap.size ≤ k → ¬ (k = g ∨ some k = va.ownBlock) := fun k hk e => e.elim (fun e => by omega) (fun e => by
    have := h.hlt k (h.hA.1 k e.symm)
    omega)
  have hSo : ∀ X, KeepP W3 (fun k => k = g ∨ some k = va.ownBlock) X → X.cell? ⟨w.heap.size, 0, none⟩ = some (.pointer (some ⟨g, 0, none⟩)) := fun X hk => (bCe (hk.cells e0 (hnv _ (Nat.le_refl _))) 0).trans rfl
  have hSm : ∀ j : Nat, ∀ X, KeepP W3 (fun k => k = g ∨ some k = va.ownBlock) X → X.cell? ⟨w.heap.size + 1, j, none⟩ = #[Value.int .i64 a.f0, .bool a.f1, .string a.f2, .int .i64 a.f3.f0, .int .i64 a.f3.f1][j]? := fun j X hk => bCe (hk.cells e1 (hnv _ (by omega))) j
  have hS0 := fun X hk => (hSm 0 X hk).trans rfl
  have hS1 := fun X hk => (hSm 1 X hk).trans rfl
  have hS2 := fun X hk => (hSm 2 X hk).trans rfl
  have hS3 := fun X hk => (hSm 3 X hk).trans rfl
  have hS4 := fun X hk => (hSm 4 X hk).trans rfl
  clear hSm
  replace h := AsZ.mk h
  replace e0 := AsZ.mk e0
  replace e1 := AsZ.mk e1
  replace e2 := AsZ.mk e2
  replace hsz := AsZ.mk hsz
  replace hgl := AsZ.mk hgl
  replace hnv := AsZ.mk hnv
  replace hB3 := AsZ.mk hB3
  replace hO3 := AsZ.mk hO3
  replace hW3 := AsZ.mk hW3
  replace hF := AsZ.mk hF
  replace hA := AsZ.mk hA
  unfold askV
  go_enter Try.func12, Try.ntmps12
  go_wp2
  rename_i Kz hKz
  replace hKz := AsZ.mk hKz
  rw [hW3.out]
  have hBd := AsZ.mk (tBl hB3.out (below_drew (Below.refl _ W3)))
  have hX := AsZ.mk (KeepP.refl W3 (fun k => k = g ∨ some k = va.ownBlock)).drew
  have hOd := AsZ.mk (hO3.out.below (below_drew (Below.refl _ W3)))
  have hdS := AsZ.mk (show W3.drew.heap.size = w.heap.size + 3 from hsz.out)
  have hd0 := AsZ.mk (bDr e0.out)
  have hd1 := AsZ.mk (bDr e1.out)
  have hd2 := AsZ.mk (bDr e2.out)
  refine wp_region_noPanic ?_
  refine wp_region_held_drew (S := fun X => KeepP W3 (fun k => k = g ∨ some k = va.ownBlock) X) (by kernel_rfl) hX.out (fun hHeld => ?_)
  generalize W3.drew = wd at hX hOd hdS hBd hd0 hd1 hd2 hHeld ⊢
  have hX2 := AsZ.mk (hX.out.alloc (Obj.cells #[.int .i64 a.f0, .bool a.f1, .string a.f2, .int .i64 a.f3.f0, .int .i64 a.f3.f1] 32 (0, 0)))
  have hOe := AsZ.mk (hOd.out.below (aBl (Below.refl _ wd) (Obj.cells #[.int .i64 a.f0, .bool a.f1, .string a.f2, .int .i64 a.f3.f0, .int .i64 a.f3.f1] 32 (0, 0))))
  have hq1 := AsZ.mk hOd.out.cellA
  have hq2 := AsZ.mk hOe.out.cellA
  have REST : ∀ (w4 : World) (P4 : Nat → Prop) (va4 : Value) (y0 y1 y2 y3 y4 y5 y6 y7 y8 y9 : Value), Org w4 base P4 g V F (A ++ [a]) vf va4 → (∀ k, P4 k → P k ∨ w.heap.size + 3 ≤ k) → KeepP w P w4 → KeepP wd P w4 →
      Kz { tmps := (Value.pointer (some ⟨g, 0, none⟩) :: askV a :: .pointer (some ⟨w.heap.size, 0, none⟩) :: .pointer (some ⟨w.heap.size + 1, 0, none⟩) :: .pointer (some ⟨w.heap.size + 1 + 1, 0, none⟩) :: undef :: undef :: .pointer (some ⟨g, 0, none⟩) :: .bool false :: undef :: y0 :: y1 :: y2 :: y3 :: y4 :: y5 :: y6 :: y7 :: y8 :: y9 :: undef :: undef :: undef :: undef :: undef :: undef :: undef :: undef :: undef :: undef :: undef :: undef :: undef :: undef :: undef :: undef :: undef :: undef :: undef :: undef :: undef :: undef :: undef :: undef :: undef :: undef :: undef :: undef :: []).toArray, defers := [] } w4 := by
    clear hHeld hX hX2 hOe hq1 hq2 hSo hS0 hS1 hS2 hS3 hS4
    intro w4 P4 va4 y0 y1 y2 y3 y4 y5 y6 y7 y8 y9 hO4 hP4 hK4 hKd4
    have hnP : ∀ k, w.heap.size ≤ k → ¬ P k := fun k hk hp => by have := hPl.out k hp; omega
    have h40 := hKd4.cells hd0.out (hnP _ (Nat.le_refl _))
    have h41 := hKd4.cells hd1.out (hnP _ (by omega))
    have h42 := hKd4.cells hd2.out (hnP _ (by omega))
    have c0 := (bCe h40 0).trans rfl
    have cF := hO4.cellF
    have hn4 : w.heap.size + 1 + 1 < w4.heap.size := bLt h42
    have hgl' := hgl.out
    have CR := AsZ.mk (right_calls a w4 ⟨_, _, hO4⟩ h40 h41)
    have eg := right_enters
    have hne2 : ∀ k, P4 k → ¬ k = w.heap.size + 1 + 1 := fun k hk e => by
      rcases hP4 k hk with hp | hp
      · have := hPl.out k hp; omega
      · omega
    replace hne2 := AsZ.mk hne2
    replace h40 := AsZ.mk h40
    replace h41 := AsZ.mk h41
    replace h42 := AsZ.mk h42
    replace hn4 := AsZ.mk hn4
    replace hO4 := AsZ.mk hO4
    replace hP4 := AsZ.mk hP4
    replace hK4 := AsZ.mk hK4
    replace hKd4 := AsZ.mk hKd4
    replace hnP := AsZ.mk hnP
    refine hKz.out _ _ ?_
    unfold askV
    cases F with
    | nil =>
      obtain ⟨A2, c2, rfl⟩ := Kd.R_slice hO4.out.hF
      go_wp2_with (first | (go_at_fn 27; refine CR.out.mono ?_; rintro e w5 ⟨u, rfl, hr, hb⟩; have hr1 := hr; obtain ⟨Au, cu, rfl, hlu, hCu⟩ := hr1; clear hlu hCu; replace hr := AsZ.mk hr; replace hb := AsZ.mk hb) | ((with_reducible refine gate_store (t := 40) (p := 4) rfl ?_); refine list_store_row rfl 40 (.tmp 4) (.tmp 28) rfl rfl (w.heap.size + 1 + 1) rfl _ rfl _ 40 (bBl h42.out hb.out) (by kernel_rfl) rfl (by simp [Value.oneCell']) ?_))
      have hRb := fun cs => setRow_heap w5 (w.heap.size + 1 + 1) _ cs 40 (0, 0) (bBl h42.out hb.out)
      refine bodyPost_ret (v := .agg _) (results_cell_row (p := 4) (ty := 40) Try.results12 _ _ (w.heap.size + 1 + 1) 40 _ (0, 0) _ rfl (hRb _) Try.underlying40 rfl (by kernel_rfl)) rfl ⟨_, rfl, ?_⟩
      exact serve_fin hPl.out hge.out hbl.out (hO4.out.below hb.out) hP4.out (hK4.out.trans (KeepP.of_below (P := fun _ => False) hb.out) (fun _ h => h.elim)) hr.out (by have := hn4.out; omega) _
    | cons k F =>
      obtain ⟨A2, c2, rfl, hl2, hC2⟩ := Kd.R_reads hO4.out.hF
      have hF1 := AsZ.mk (show F.length ≤ 1000000 by have := hF.out; rw [List.length_cons] at this; omega)
      obtain ⟨ad, eA, hxk⟩ := hC2.2.2 (by simp)
      cases eA
      obtain ⟨cs, hcl, hcs, hcx⟩ := hxk 0 k rfl
      have hcs' : cs = [.int .i64 k] := hcs
      subst hcs'
      have hk0 := hcx 0 _ rfl
      rw [show 0 * kI.sz + 0 = 0 from rfl] at hk0
      have hk1 : w4.cell? ad = some (.int .i64 k) := by simpa [Addr.add] using hk0
      obtain ⟨i0, hi0, hz0⟩ := Option.map_eq_some_iff.1 infoI
      simp only [Prod.mk.injEq] at hz0
      obtain ⟨A5, hcut, hrd, hcc⟩ := print_cut_int (k := .i64) 27 3 Try.underlying27 hi0 hz0.2.1 (some ad) c2 (k :: F) 1 (by decide) (by simp; omega) hl2
      have hC5 := AsZ.mk (Kd.C_of_reads (d := (0 : Int)) (h1 := fun _ => rfl) (hrd w4 (Kd.reads_of_C (enc := Value.int .i64) (d := (0 : Int)) (h1 := fun _ => rfl) hC2)) : kI.C w4 A5 _ _)
      rw [show (1 : Int).toNat = 1 from rfl, List.drop_succ_cons, List.drop_zero] at hcut hC5
      rw [List.length_cons] at hcut cF hl2
      have hne0 : (((F.length + 1 : Nat) : Int) == 0) = false := by simp; omega
      have hlt0 : (0 : Int) < ((F.length + 1 : Nat) : Int) := by omega
      clear hxk hcl hcs hcx hrd hcc hz0 hi0 hC2
      replace hl2 := AsZ.mk hl2
      go_wp2
      rename_i Ky hKy
      replace hKy := AsZ.mk hKy
      have hB8 := AsZ.mk (below_drew (Below.refl w4.heap.size w4))
      have hX8 := AsZ.mk (KeepP.of_below (P := fun k => k = g) hB8.out)
      have hO8 := AsZ.mk (hO4.out.below hB8.out)
      have hS8 : ∀ X, KeepP w4 (fun k => k = g) X → X.cell? ⟨w.heap.size, 0, none⟩ = some (.pointer (some ⟨g, 0, none⟩)) := fun X hk => (bCe (hk.cells h40.out (fun e => by omega)) 0).trans rfl
      clear c0 cF hk0 hk1
      refine wp_region_noPanic ?_
      refine wp_region_held_drew (S := fun X => KeepP w4 (fun k => k = g) X) (by kernel_rfl) hX8.out (fun hHeld => ?_)
      generalize w4.drew = w8 at hB8 hX8 hO8 hHeld ⊢
      refine wpAnyH_take (i := 0) (oi := { dst := some 35, op := Go.Op.load 24 (Go.Operand.tmp 2), type := 24, pos := "origin.go:89", after := #[], guard := none }) (v := ?_) rfl (by kernel_rfl) (by kernel_rfl) (by kernel_rfl) (fun _ _ _ h => h) (Or.inl ⟨by kernel_rfl, ?_⟩) (by assumption) ?_
      rotate_left
      · intro W hSw; go_simp; first | done | with_reducible rfl
      try simp only [Act.put, lsA, lsB, lsC]
      refine wpAnyH_take (i := 1) (oi := { dst := some 36, op := Go.Op.load 24 (Go.Operand.tmp 2), type := 24, pos := "origin.go:89", after := #[], guard := none }) (v := ?_) rfl (by kernel_rfl) (by kernel_rfl) (by kernel_rfl) (fun _ _ _ h => h) (Or.inl ⟨by kernel_rfl, ?_⟩) (by assumption) ?_
      rotate_left
      · intro W hSw; go_simp; first | done | with_reducible rfl
      try simp only [Act.put, lsA, lsB, lsC]
      refine wpAnyH_take (i := 2) (oi := { dst := some 37, op := Go.Op.nilCheck (Go.Operand.tmp 36), type := 0, pos := "origin.go:89", after := #[{ on := 1, ground := Go.Ground.data }], guard := none }) (v := ?_) rfl (by kernel_rfl) (by kernel_rfl) (by kernel_rfl) (fun _ _ _ h => h) (Or.inl ⟨by kernel_rfl, ?_⟩) (by assumption) ?_
      rotate_left
      · intro W hSw; go_simp; first | done | with_reducible rfl
      try simp only [Act.put, lsA, lsB, lsC]
      refine wpAnyH_take (i := 3) (oi := { dst := some 38, op := Go.Op.fieldAddr 51 (Go.Operand.tmp 37) 1, type := 0, pos := "origin.go:89", after := #[{ on := 2, ground := Go.Ground.data }], guard := none }) (v := ?_) rfl (by kernel_rfl) (by kernel_rfl) (by kernel_rfl) (fun _ _ _ h => h) (Or.inl ⟨by kernel_rfl, ?_⟩) (by assumption) ?_
      rotate_left
      · intro W hSw; go_simp; first | done | with_reducible rfl
      try simp only [Act.put, lsA, lsB, lsC]
      refine wpAnyH_ready (rs := [4]) (by kernel_rfl) (by simp) ?_
      refine AllReadyH.cons (o := { dst := some 39, op := Go.Op.load 27 (Go.Operand.tmp 38), type := 27, pos := "origin.go:89", after := #[{ on := 3, ground := Go.Ground.data }], guard := none }) rfl (fun K hK => ?_) AllReadyH.nil
      have hq_ := hO8.out.cellF
      go_simp
      clear hq_
      refine hK.out _ _ ?_ (fun hHeld => ?_)
      · exact hX8.out
      clear hK K
      try simp only [Act.put, lsA, lsB, lsC]
      refine wpAnyH_take (i := 5) (oi := { dst := some 40, op := Go.Op.slice 27 (Go.Operand.tmp 39) (some (Go.Operand.const (Go.Value.int Go.IntKind.i64 1))) none none, type := 27, pos := "origin.go:89", after := #[{ on := 4, ground := Go.Ground.data }], guard := none }) (v := ?_) rfl (by kernel_rfl) (by kernel_rfl) (by kernel_rfl) (fun _ _ _ h => h) (Or.inl ⟨by kernel_rfl, ?_⟩) (by assumption) ?_
      rotate_left
      · intro W hSw; go_simp; first | done | with_reducible rfl
      try simp only [Act.put, lsA, lsB, lsC]
      refine wpAnyH_ready (rs := [6]) (by kernel_rfl) (by simp) ?_
      refine AllReadyH.cons (o := { dst := some 41, op := Go.Op.call { callee := Go.Callee.value (Go.Operand.func 29), args := #[Go.Operand.tmp 40], argTypes := #[27] }, type := 27, pos := "origin.go:89", after := #[{ on := 5, ground := Go.Ground.data }], guard := none }) rfl (fun K hK => ?_) AllReadyH.nil
      refine goes_ (N := some 41) («as» := #[.tmp 40]) Try.func29 (by kernel_rfl) rfl #[.slice A5 F.length (c2 - 1)] (by kernel_rfl) rfl rfl (by kernel_rfl) ?_
      refine (cloneI_calls A5 (c2 - 1) F _ (Kd.C_below hC5.out hB8.out) hF1.out).mono ?_
      rintro e Y ⟨v, rfl, hR, hb⟩
      refine ⟨_, rfl, ?_⟩
      obtain ⟨A6, c6, rfl⟩ := Kd.R_slice hR
      replace hR := AsZ.mk hR
      have hX9 := AsZ.mk (hX8.out.trans (KeepP.of_below (P := fun _ => False) hb) (fun _ h => h.elim))
      replace hb := AsZ.mk hb
      refine hK.out _ _ ?_ (fun hHeld => ?_)
      · exact hX9.out
      clear hK K
      try simp only [Act.put, lsA, lsB, lsC]
      refine wpAnyH_take (i := 7) (oi := { dst := some 42, op := Go.Op.nilCheck (Go.Operand.tmp 35), type := 0, pos := "origin.go:89", after := #[{ on := 0, ground := Go.Ground.data }, { on := 0, ground := Go.Ground.phase }, { on := 1, ground := Go.Ground.phase }, { on := 2, ground := Go.Ground.phase }, { on := 3, ground := Go.Ground.phase }, { on := 4, ground := Go.Ground.phase }, { on := 5, ground := Go.Ground.phase }, { on := 6, ground := Go.Ground.phase }], guard := none }) (v := ?_) rfl (by kernel_rfl) (by kernel_rfl) (by kernel_rfl) (fun _ _ _ h => h) (Or.inl ⟨by kernel_rfl, ?_⟩) (by assumption) ?_
      rotate_left
      · intro W hSw; go_simp; first | done | with_reducible rfl
      try simp only [Act.put, lsA, lsB, lsC]
      refine wpAnyH_take (i := 8) (oi := { dst := some 43, op := Go.Op.fieldAddr 51 (Go.Operand.tmp 42) 1, type := 0, pos := "origin.go:89", after := #[{ on := 7, ground := Go.Ground.data }, { on := 0, ground := Go.Ground.phase }, { on := 1, ground := Go.Ground.phase }, { on := 2, ground := Go.Ground.phase }, { on := 3, ground := Go.Ground.phase }, { on := 4, ground := Go.Ground.phase }, { on := 5, ground := Go.Ground.phase }, { on := 6, ground := Go.Ground.phase }], guard := none }) (v := ?_) rfl (by kernel_rfl) (by kernel_rfl) (by kernel_rfl) (fun _ _ _ h => h) (Or.inl ⟨by kernel_rfl, ?_⟩) (by assumption) ?_
      rotate_left
      · intro W hSw; go_simp; first | done | with_reducible rfl
      try simp only [Act.put, lsA, lsB, lsC]
      refine wpAnyH_ready (rs := [9]) (by kernel_rfl) (by simp) ?_
      refine AllReadyH.cons (o := { dst := none, op := Go.Op.store 27 (Go.Operand.tmp 43) (Go.Operand.tmp 41), type := 0, pos := "origin.go:89", after := #[{ on := 8, ground := Go.Ground.data }, { on := 6, ground := Go.Ground.data }, { on := 6, ground := Go.Ground.chain }, { on := 0, ground := Go.Ground.phase }, { on := 1, ground := Go.Ground.phase }, { on := 2, ground := Go.Ground.phase }, { on := 3, ground := Go.Ground.phase }, { on := 4, ground := Go.Ground.phase }, { on := 5, ground := Go.Ground.phase }, { on := 6, ground := Go.Ground.phase }], guard := none }) rfl (fun K hK => ?_) AllReadyH.nil
      have hgb_ := (hO8.out.below hb.out)
      have hq_ := hgb_.cellF
      have hf_ := bFz hgb_.hb 16
      replace hgb_ := AsZ.mk hgb_
      go_simp
      clear hq_ hf_ hgb_
      refine hK.out _ _ ?_ (fun hHeld => ?_)
      · exact KeepP.set (P := fun k => k = g) (g := g) hX9.out (.inl rfl) _ _
      clear hK K
      try simp only [Act.put, lsA, lsB, lsC]
      refine wpAnyH_done (by kernel_rfl) ?_ _
      try simp only [Act.put, lsA, lsB, lsC, List.getElem_toArray, List.getElem_cons_zero, List.getElem_cons_succ]
      refine NoPanic.normal ?_
      (try dsimp only [Exit.then])
      refine hKy.out _ _ ?_
      obtain ⟨hO9, hK9⟩ := hO8.out.newF (KeepP.of_below hb.out) (Kd.R_mono (Kd.R_lower (Kd.R_bound hR.out) hO8.out.base_le) (fun k hk => .inr hk.2.1))
      have hK9' := (hK4.out.trans (KeepP.of_below (P := fun _ => False) hB8.out) (fun _ h => h.elim)).trans hK9 (fun k hk => (hP4.out k hk).imp id (fun h => by omega))
      generalize Y.setCell ⟨g, 16, none⟩ (Value.slice A6 F.length c6) = w9 at hO9 hK9 hK9' ⊢
      have hP9 : ∀ k, PX P4 w8 w9 k → P k ∨ w.heap.size + 3 ≤ k := fun k hk => by
        rcases hk.1 with hp | hp
        · exact hP4.out k hp
        · have := hB8.out.size; have := hn4.out; exact .inr (by omega)
      have hn9 : ∀ j, w.heap.size ≤ j → j < w.heap.size + 3 → ¬ P4 j := fun j h1 h2 hp => by
        rcases hP4.out j hp with hp | hp
        · exact hnP.out j h1 hp
        · omega
      have h90 := hK9.cells (bBl h40.out hB8.out) (hn9 _ (by omega) (by omega))
      have h91 := hK9.cells (bBl h41.out hB8.out) (hn9 _ (by omega) (by omega))
      have h92 := AsZ.mk (hK9.cells (bBl h42.out hB8.out) (hn9 _ (by omega) (by omega)))
      have hlo9 := AsZ.mk (bLt h92.out)
      have CR9 := AsZ.mk (right_calls a w9 ⟨_, _, hO9⟩ h90 h91)
      have CF9 := AsZ.mk (fun u X hr => flt_calls k (ans a (verP V a.f0)) (ans_small a _) u w9.heap.size X hr)
      replace hO9 := AsZ.mk hO9
      replace hP9 := AsZ.mk hP9
      replace hK9' := AsZ.mk hK9'
      clear hK9 hn9 h90 h91 hS8 hHeld hX9 hX8
      have hPl2 := hPl
      go_wp2_with (first | (go_at_fn 27; refine CR9.out.mono ?_; rintro e w10 ⟨u, rfl, hr, hb10⟩; have hr1 := hr; obtain ⟨Au, cu, rfl, hlu, hCu⟩ := hr1; clear hlu hCu; replace hr := AsZ.mk hr; replace hb10 := AsZ.mk hb10) | (go_at_call 30; refine (CF9.out _ _ hr.out).mono ?_; rintro e w11 ⟨u2, rfl, hr2, hb11⟩; have hr3 := hr2; obtain ⟨Au2, cu2, rfl, hlu, hCu⟩ := hr3; clear hlu hCu; replace hr2 := AsZ.mk hr2; replace hb11 := AsZ.mk hb11) | ((with_reducible refine gate_store (t := 40) (p := 4) rfl ?_); refine list_store_row rfl 40 (.tmp 4) (.tmp 47) rfl rfl (w.heap.size + 1 + 1) rfl _ rfl _ 40 (bBl h92.out (tBl hb10.out hb11.out)) (by kernel_rfl) rfl (by simp [Value.oneCell']) ?_))
      have hRb := fun cs => setRow_heap w11 (w.heap.size + 1 + 1) _ cs 40 (0, 0) (bBl h92.out (tBl hb10.out hb11.out))
      refine bodyPost_ret (v := .agg _) (results_cell_row (p := 4) (ty := 40) Try.results12 _ _ (w.heap.size + 1 + 1) 40 _ (0, 0) _ rfl (hRb _) Try.underlying40 rfl (by kernel_rfl)) rfl ⟨_, rfl, ?_⟩
      exact serve_fin hPl.out hge.out hbl.out (hO9.out.below (tBl hb10.out hb11.out)) hP9.out (hK9'.out.trans (KeepP.of_below (P := fun _ => False) (tBl hb10.out hb11.out)) (fun _ h => h.elim)) hr2.out (by have := hlo9.out; have := hb10.out.size; omega) _
  refine wpAnyH_take (i := 0) (oi := { dst := some 10, op := Go.Op.load 24 (Go.Operand.tmp 2), type := 24, pos := "origin.go:83", after := #[], guard := none }) (v := ?_) rfl (by kernel_rfl) (by kernel_rfl) (by kernel_rfl) (fun _ _ _ h => h) (Or.inl ⟨by kernel_rfl, ?_⟩) (by assumption) ?_
  rotate_left
  · intro W hSw; go_simp; first | done | with_reducible rfl
  try simp only [Act.put, lsA, lsB, lsC]
  refine wpAnyH_take (i := 1) (oi := { dst := some 11, op := Go.Op.load 24 (Go.Operand.tmp 2), type := 24, pos := "origin.go:83", after := #[], guard := none }) (v := ?_) rfl (by kernel_rfl) (by kernel_rfl) (by kernel_rfl) (fun _ _ _ h => h) (Or.inl ⟨by kernel_rfl, ?_⟩) (by assumption) ?_
  rotate_left
  · intro W hSw; go_simp; first | done | with_reducible rfl
  try simp only [Act.put, lsA, lsB, lsC]
  refine wpAnyH_take (i := 2) (oi := { dst := some 12, op := Go.Op.nilCheck (Go.Operand.tmp 11), type := 0, pos := "origin.go:83", after := #[{ on := 1, ground := Go.Ground.data }], guard := none }) (v := ?_) rfl (by kernel_rfl) (by kernel_rfl) (by kernel_rfl) (fun _ _ _ h => h) (Or.inl ⟨by kernel_rfl, ?_⟩) (by assumption) ?_
  rotate_left
  · intro W hSw; go_simp; first | done | with_reducible rfl
  try simp only [Act.put, lsA, lsB, lsC]
  refine wpAnyH_take (i := 3) (oi := { dst := some 13, op := Go.Op.fieldAddr 51 (Go.Operand.tmp 12) 2, type := 0, pos := "origin.go:83", after := #[{ on := 2, ground := Go.Ground.data }], guard := none }) (v := ?_) rfl (by kernel_rfl) (by kernel_rfl) (by kernel_rfl) (fun _ _ _ h => h) (Or.inl ⟨by kernel_rfl, ?_⟩) (by assumption) ?_
  rotate_left
  · intro W hSw; go_simp; first | done | with_reducible rfl
  try simp only [Act.put, lsA, lsB, lsC]
  refine wpAnyH_take (i := 5) (oi := { dst := some 15, op := Go.Op.load 32 (Go.Operand.tmp 3), type := 32, pos := "origin.go:83", after := #[], guard := none }) (v := ?_) rfl (by kernel_rfl) (by kernel_rfl) (by kernel_rfl) (fun _ _ _ h => h) (Or.inl ⟨by kernel_rfl, ?_⟩) (by assumption) ?_
  rotate_left
  · intro W hSw; go_simp; first | done | with_reducible rfl
  try simp only [Act.put, lsA, lsB, lsC]
  refine wpAnyH_ready (rs := [4, 6]) (by kernel_rfl) (by simp) ?_
  refine AllReadyH.cons (o := { dst := some 14, op := Go.Op.load 28 (Go.Operand.tmp 13), type := 28, pos := "origin.go:83", after := #[{ on := 3, ground := Go.Ground.data }], guard := none }) rfl (fun K hK => ?_) (AllReadyH.cons (o := { dst := some 16, op := Go.Op.buildSlice 28 1 #[(0, Go.Operand.tmp 15)], type := 28, pos := "origin.go:83", after := #[{ on := 5, ground := Go.Ground.data }], guard := none }) rfl (fun K hK => ?_) AllReadyH.nil)
  · have hq1_ := hq1.out
    have hq2_ := hq2.out
    go_simp
    clear hq1_ hq2_
    refine hK.out _ _ ?_ (fun hHeld => ?_)
    · first | exact hX.out | exact hX2.out
    clear hK K
    try simp only [Act.put, lsA, lsB, lsC]
    refine wpAnyH_ready (rs := [6]) (by kernel_rfl) (by simp) ?_
    refine AllReadyH.cons (o := { dst := some 16, op := Go.Op.buildSlice 28 1 #[(0, Go.Operand.tmp 15)], type := 28, pos := "origin.go:83", after := #[{ on := 5, ground := Go.Ground.data }], guard := none }) rfl (fun K hK => ?_) AllReadyH.nil
    go_simp
    refine hK.out _ _ ?_ (fun hHeld => ?_)
    · exact hX2.out
    clear hK K
    try simp only [Act.put, lsA, lsB, lsC]
    refine wpAnyH_ready (rs := [7]) (by kernel_rfl) (by simp) ?_
    refine AllReadyH.cons (o := { dst := some 17, op := Go.Op.call { callee := Go.Callee.builtin Go.Builtin.append, args := #[Go.Operand.tmp 14, Go.Operand.tmp 16], argTypes := #[28, 28] }, type := 28, pos := "origin.go:83", after := #[{ on := 4, ground := Go.Ground.data }, { on := 6, ground := Go.Ground.data }], guard := none }) rfl (fun K hK => ?_) AllReadyH.nil
    refine Kd.R_append_step kA (w0 := wd) (W := wd) base (by kernel_rfl) (.tmp 14) (.tmp 16) 28 32 _ 48 rfl Try.underlying28 infoA rfl (by decide) (by decide) va A a [.int .i64 a.f0, .bool a.f1, .string a.f2, .int .i64 a.f3.f0, .int .i64 a.f3.f1] (fun k => P k ∨ wd.heap.size ≤ k) (fun _ => False) rfl rfl (k32_mkM _ _ _ a) (fun _ h => h.elim) (fun _ h => .inr h) (Kd.R_mono hOd.out.hA (fun k hk => .inl hk)) (Below.refl _ _) hOd.out.base_le (by have := hA.out; omega) ?_
    intro v1 w1 hR hb1_ hg1 hat_
    clear hb1_ hat_
    obtain ⟨A3, c3, rfl⟩ := Kd.R_slice hR
    replace hR := AsZ.mk hR
    have hX4 := AsZ.mk (hX.out.grown hg1 (fun k e => .inl (.inr e.symm)))
    replace hg1 := AsZ.mk hg1
    refine hK.out _ _ ?_ (fun hHeld => ?_)
    · exact hX4.out
    clear hK K
    try simp only [Act.put, lsA, lsB, lsC]
    refine wpAnyH_take (i := 8) (oi := { dst := some 18, op := Go.Op.nilCheck (Go.Operand.tmp 10), type := 0, pos := "origin.go:83", after := #[{ on := 0, ground := Go.Ground.data }, { on := 0, ground := Go.Ground.phase }, { on := 1, ground := Go.Ground.phase }, { on := 2, ground := Go.Ground.phase }, { on := 3, ground := Go.Ground.phase }, { on := 4, ground := Go.Ground.phase }, { on := 5, ground := Go.Ground.phase }, { on := 6, ground := Go.Ground.phase }, { on := 7, ground := Go.Ground.phase }], guard := none }) (v := ?_) rfl (by kernel_rfl) (by kernel_rfl) (by kernel_rfl) (fun _ _ _ h => h) (Or.inl ⟨by kernel_rfl, ?_⟩) (by assumption) ?_
    rotate_left
    · intro W hSw; go_simp; first | done | with_reducible rfl
    try simp only [Act.put, lsA, lsB, lsC]
    refine wpAnyH_take (i := 9) (oi := { dst := some 19, op := Go.Op.fieldAddr 51 (Go.Operand.tmp 18) 2, type := 0, pos := "origin.go:83", after := #[{ on := 8, ground := Go.Ground.data }, { on := 0, ground := Go.Ground.phase }, { on := 1, ground := Go.Ground.phase }, { on := 2, ground := Go.Ground.phase }, { on := 3, ground := Go.Ground.phase }, { on := 4, ground := Go.Ground.phase }, { on := 5, ground := Go.Ground.phase }, { on := 6, ground := Go.Ground.phase }, { on := 7, ground := Go.Ground.phase }], guard := none }) (v := ?_) rfl (by kernel_rfl) (by kernel_rfl) (by kernel_rfl) (fun _ _ _ h => h) (Or.inl ⟨by kernel_rfl, ?_⟩) (by assumption) ?_
    rotate_left
    · intro W hSw; go_simp; first | done | with_reducible rfl
    try simp only [Act.put, lsA, lsB, lsC]
    refine wpAnyH_ready (rs := [10]) (by kernel_rfl) (by simp) ?_
    refine AllReadyH.cons (o := { dst := none, op := Go.Op.store 28 (Go.Operand.tmp 19) (Go.Operand.tmp 17), type := 0, pos := "origin.go:83", after := #[{ on := 9, ground := Go.Ground.data }, { on := 7, ground := Go.Ground.data }, { on := 7, ground := Go.Ground.chain }, { on := 0, ground := Go.Ground.phase }, { on := 1, ground := Go.Ground.phase }, { on := 2, ground := Go.Ground.phase }, { on := 3, ground := Go.Ground.phase }, { on := 4, ground := Go.Ground.phase }, { on := 5, ground := Go.Ground.phase }, { on := 6, ground := Go.Ground.phase }, { on := 7, ground := Go.Ground.phase }], guard := none }) rfl (fun K hK => ?_) AllReadyH.nil
    have hgb_ := (KeepP.of_grown hg1.out).cells hOd.out.hb (fun e => Kd.R_ne hOd.out.hA hOd.out.hb (by decide) e)
    have hq_ := (bCe hgb_ 17).trans orgC_a
    have hf_ := bFz hgb_ 17
    replace hgb_ := AsZ.mk hgb_
    go_simp
    clear hq_ hf_ hgb_
    refine hK.out _ _ ?_ (fun hHeld => ?_)
    · exact hX4.out.set (.inl (.inl rfl)) _ _
    clear hK K
    try simp only [Act.put, lsA, lsB, lsC]
    refine wpAnyH_done (by kernel_rfl) ?_ _
    try simp only [Act.put, lsA, lsB, lsC, List.getElem_toArray, List.getElem_cons_zero, List.getElem_cons_succ]
    refine NoPanic.normal ?_
    (try dsimp only [Exit.then])
    have hN := hOd.out.newA (KeepP.of_grown hg1.out) hR.out
    try rw [List.length_append] at hN
    exact REST _ _ _ _ _ _ _ _ _ _ _ _ _ hN.1 (fun k hk => hk.1.imp id (fun h => by have := hdS.out; omega)) (((KeepP.of_below hBd.out).trans hN.2 (fun k hk => .inl hk))) hN.2
  · go_simp
    refine hK.out _ _ ?_ (fun hHeld => ?_)
    · exact hX2.out
    clear hK K
    try simp only [Act.put, lsA, lsB, lsC]
    refine wpAnyH_ready (rs := [4]) (by kernel_rfl) (by simp) ?_
    refine AllReadyH.cons (o := { dst := some 14, op := Go.Op.load 28 (Go.Operand.tmp 13), type := 28, pos := "origin.go:83", after := #[{ on := 3, ground := Go.Ground.data }], guard := none }) rfl (fun K hK => ?_) AllReadyH.nil
    have hq1_ := hq1.out
    have hq2_ := hq2.out
    go_simp
    clear hq1_ hq2_
    refine hK.out _ _ ?_ (fun hHeld => ?_)
    · first | exact hX.out | exact hX2.out
    clear hK K
    try simp only [Act.put, lsA, lsB, lsC]
    refine wpAnyH_ready (rs := [7]) (by kernel_rfl) (by simp) ?_
    refine AllReadyH.cons (o := { dst := some 17, op := Go.Op.call { callee := Go.Callee.builtin Go.Builtin.append, args := #[Go.Operand.tmp 14, Go.Operand.tmp 16], argTypes := #[28, 28] }, type := 28, pos := "origin.go:83", after := #[{ on := 4, ground := Go.Ground.data }, { on := 6, ground := Go.Ground.data }], guard := none }) rfl (fun K hK => ?_) AllReadyH.nil
    refine Kd.R_append_step kA (w0 := wd) (W := wd) base (by kernel_rfl) (.tmp 14) (.tmp 16) 28 32 _ 48 rfl Try.underlying28 infoA rfl (by decide) (by decide) va A a [.int .i64 a.f0, .bool a.f1, .string a.f2, .int .i64 a.f3.f0, .int .i64 a.f3.f1] (fun k => P k ∨ wd.heap.size ≤ k) (fun _ => False) rfl rfl (k32_mkM _ _ _ a) (fun _ h => h.elim) (fun _ h => .inr h) (Kd.R_mono hOd.out.hA (fun k hk => .inl hk)) (Below.refl _ _) hOd.out.base_le (by have := hA.out; omega) ?_
    intro v1 w1 hR hb1_ hg1 hat_
    clear hb1_ hat_
    obtain ⟨A3, c3, rfl⟩ := Kd.R_slice hR
    replace hR := AsZ.mk hR
    have hX4 := AsZ.mk (hX.out.grown hg1 (fun k e => .inl (.inr e.symm)))
    replace hg1 := AsZ.mk hg1
    refine hK.out _ _ ?_ (fun hHeld => ?_)
    · exact hX4.out
    clear hK K
    try simp only [Act.put, lsA, lsB, lsC]
    refine wpAnyH_take (i := 8) (oi := { dst := some 18, op := Go.Op.nilCheck (Go.Operand.tmp 10), type := 0, pos := "origin.go:83", after := #[{ on := 0, ground := Go.Ground.data }, { on := 0, ground := Go.Ground.phase }, { on := 1, ground := Go.Ground.phase }, { on := 2, ground := Go.Ground.phase }, { on := 3, ground := Go.Ground.phase }, { on := 4, ground := Go.Ground.phase }, { on := 5, ground := Go.Ground.phase }, { on := 6, ground := Go.Ground.phase }, { on := 7, ground := Go.Ground.phase }], guard := none }) (v := ?_) rfl (by kernel_rfl) (by kernel_rfl) (by kernel_rfl) (fun _ _ _ h => h) (Or.inl ⟨by kernel_rfl, ?_⟩) (by assumption) ?_
    rotate_left
    · intro W hSw; go_simp; first | done | with_reducible rfl
    try simp only [Act.put, lsA, lsB, lsC]
    refine wpAnyH_take (i := 9) (oi := { dst := some 19, op := Go.Op.fieldAddr 51 (Go.Operand.tmp 18) 2, type := 0, pos := "origin.go:83", after := #[{ on := 8, ground := Go.Ground.data }, { on := 0, ground := Go.Ground.phase }, { on := 1, ground := Go.Ground.phase }, { on := 2, ground := Go.Ground.phase }, { on := 3, ground := Go.Ground.phase }, { on := 4, ground := Go.Ground.phase }, { on := 5, ground := Go.Ground.phase }, { on := 6, ground := Go.Ground.phase }, { on := 7, ground := Go.Ground.phase }], guard := none }) (v := ?_) rfl (by kernel_rfl) (by kernel_rfl) (by kernel_rfl) (fun _ _ _ h => h) (Or.inl ⟨by kernel_rfl, ?_⟩) (by assumption) ?_
    rotate_left
    · intro W hSw; go_simp; first | done | with_reducible rfl
    try simp only [Act.put, lsA, lsB, lsC]
    refine wpAnyH_ready (rs := [10]) (by kernel_rfl) (by simp) ?_
    refine AllReadyH.cons (o := { dst := none, op := Go.Op.store 28 (Go.Operand.tmp 19) (Go.Operand.tmp 17), type := 0, pos := "origin.go:83", after := #[{ on := 9, ground := Go.Ground.data }, { on := 7, ground := Go.Ground.data }, { on := 7, ground := Go.Ground.chain }, { on := 0, ground := Go.Ground.phase }, { on := 1, ground := Go.Ground.phase }, { on := 2, ground := Go.Ground.phase }, { on := 3, ground := Go.Ground.phase }, { on := 4, ground := Go.Ground.phase }, { on := 5, ground := Go.Ground.phase }, { on := 6, ground := Go.Ground.phase }, { on := 7, ground := Go.Ground.phase }], guard := none }) rfl (fun K hK => ?_) AllReadyH.nil
    have hgb_ := (KeepP.of_grown hg1.out).cells hOd.out.hb (fun e => Kd.R_ne hOd.out.hA hOd.out.hb (by decide) e)
    have hq_ := (bCe hgb_ 17).trans orgC_a
    have hf_ := bFz hgb_ 17
    replace hgb_ := AsZ.mk hgb_
    go_simp
    clear hq_ hf_ hgb_
    refine hK.out _ _ ?_ (fun hHeld => ?_)
    · exact hX4.out.set (.inl (.inl rfl)) _ _
    clear hK K
    try simp only [Act.put, lsA, lsB, lsC]
    refine wpAnyH_done (by kernel_rfl) ?_ _
    try simp only [Act.put, lsA, lsB, lsC, List.getElem_toArray, List.getElem_cons_zero, List.getElem_cons_succ]
    refine NoPanic.normal ?_
    (try dsimp only [Exit.then])
    have hN := hOd.out.newA (KeepP.of_grown hg1.out) hR.out
    try rw [List.length_append] at hN
    exact REST _ _ _ _ _ _ _ _ _ _ _ _ _ hN.1 (fun k hk => hk.1.imp id (fun h => by have := hdS.out; omega)) (((KeepP.of_below hBd.out).trans hN.2 (fun k hk => .inl hk))) hN.2
end Go.Proofs.Ytpphnjmppkbpbaa.Org
namespace Go.Proofs.Ytpphnjmppkbpbaa.Org
open Go Go.RowKit Go.Proofs Go.Proofs.Ytpphnjmppkbpbaa.Xw Go.Proofs.Ytpphnjmppkbpbaa.PAll Go.Proofs.Ytpphnjmppkbpbaa.Ag Go.Proofs.YtpphnjmppkbpbaaW.PrintWords Go.Proofs.YtpphnjmppkbpbaaW.PrintLast Go.Proofs.YtpphnjmppkbpbaaW.PrintMore
attribute [local go_sem] Oper.semAt_some
set_option linter.unusedSimpArgs false
set_option linter.unusedVariables false
theorem wr {x : Int} (h : -9223372036854775808 ≤ x ∧ x ≤ 9223372036854775807) : IntKind.i64.wrap x = x := (i64_w _).trans (Pure.wrap_id h)
set_option maxHeartbeats 8000000 in
set_option maxRecDepth 100000 in
theorem turn_calls {base g : Nat} {P : Nat → Prop} {V : Nat → Int} {F : List Int} {A : List AK} (o : Int) (w : World) (h : OrgX w base P g V F A) (h0 : 0 ≤ o ∧ o < 16) (hv : 0 ≤ V o.toNat ∧ V o.toNat < 1000000) :
    Calls Try.prog 7 #[.pointer (some ⟨g, 0, none⟩), .int .i64 o] w fun e w' => e = .returned (.int .i64 0) ∧ OrgX w' base P g (putF V o.toNat (V o.toNat + 1)) F A ∧ KeepP w P w' := by
  obtain ⟨vf, va, h⟩ := h
  have HC := has_calls g o w
  rw [decide_eq_true h0] at HC
  replace HC := AsZ.mk HC
  obtain ⟨q, rfl⟩ : ∃ q : Nat, o = q := ⟨o.toNat, by omega⟩
  have hq : q < 16 := by omega
  rw [Int.toNat_natCast] at hv ⊢
  have hne : (V q == 1000000) = false := by simp; omega
  have hw : IntKind.i64.wrap (V q + 1) = V q + 1 := wr (by omega)
  replace h := AsZ.mk h
  replace hv := AsZ.mk hv
  go_enter Try.func7, Try.ntmps7
  go_wp2_with (go_at_call 17; refine HC.out.mono ?_; rintro e w1 ⟨rfl, hb1⟩; have hO1 := h.out.below hb1; have hc1 := hO1.cellI hq; replace hb1 := AsZ.mk hb1; replace hO1 := AsZ.mk hO1)
  rename_i Kz hKz
  replace hKz := AsZ.mk hKz
  clear hc1 hne
  have hX := AsZ.mk (KeepP.refl w1 P).drew
  have hOd := AsZ.mk (hO1.out.below (below_drew (Below.refl _ w1)))
  refine wp_region_noPanic ?_
  refine wp_region_held_drew (S := fun X => KeepP w1 P X) (by kernel_rfl) hX.out (fun hHeld => ?_)
  generalize w1.drew = wd at hX hOd hHeld ⊢
  refine wpAnyH_take (i := 0) (oi := { dst := some 22, op := Go.Op.move (Go.Operand.tmp 0), type := 24, pos := "origin.go:51", after := #[], guard := none }) (v := ?_) rfl (by kernel_rfl) (by kernel_rfl) (by kernel_rfl) (fun _ _ _ h => h) (Or.inl ⟨by kernel_rfl, ?_⟩) (by assumption) ?_
  rotate_left
  · intro W hSw; go_simp; first | done | with_reducible rfl
  try simp only [Act.put, lsA, lsB, lsC]
  refine wpAnyH_take (i := 1) (oi := { dst := some 23, op := Go.Op.move (Go.Operand.tmp 1), type := 3, pos := "origin.go:51", after := #[], guard := none }) (v := ?_) rfl (by kernel_rfl) (by kernel_rfl) (by kernel_rfl) (fun _ _ _ h => h) (Or.inl ⟨by kernel_rfl, ?_⟩) (by assumption) ?_
  rotate_left
  · intro W hSw; go_simp; first | done | with_reducible rfl
  try simp only [Act.put, lsA, lsB, lsC]
  refine wpAnyH_take (i := 2) (oi := { dst := some 24, op := Go.Op.nilCheck (Go.Operand.tmp 22), type := 0, pos := "origin.go:51", after := #[{ on := 0, ground := Go.Ground.data }], guard := none }) (v := ?_) rfl (by kernel_rfl) (by kernel_rfl) (by kernel_rfl) (fun _ _ _ h => h) (Or.inl ⟨by kernel_rfl, ?_⟩) (by assumption) ?_
  rotate_left
  · intro W hSw; go_simp; first | done | with_reducible rfl
  try simp only [Act.put, lsA, lsB, lsC]
  refine wpAnyH_take (i := 3) (oi := { dst := some 25, op := Go.Op.fieldAddr 51 (Go.Operand.tmp 24) 0, type := 0, pos := "origin.go:51", after := #[{ on := 2, ground := Go.Ground.data }], guard := none }) (v := ?_) rfl (by kernel_rfl) (by kernel_rfl) (by kernel_rfl) (fun _ _ _ h => h) (Or.inl ⟨by kernel_rfl, ?_⟩) (by assumption) ?_
  rotate_left
  · intro W hSw; go_simp; first | done | with_reducible rfl
  try simp only [Act.put, lsA, lsB, lsC]
  refine wpAnyH_take (i := 4) (oi := { dst := some 26, op := Go.Op.indexAddr 26 (Go.Operand.tmp 25) (Go.Operand.tmp 23), type := 0, pos := "origin.go:51", after := #[{ on := 3, ground := Go.Ground.data }, { on := 1, ground := Go.Ground.data }], guard := none }) (v := ?_) rfl (by kernel_rfl) (by kernel_rfl) (by kernel_rfl) (fun _ _ _ h => h) (Or.inl ⟨by kernel_rfl, ?_⟩) (by assumption) ?_
  rotate_left
  · intro W hSw; go_simp; first | done | with_reducible rfl
  try simp only [Act.put, lsA, lsB, lsC]
  refine wpAnyH_take (i := 7) (oi := { dst := some 29, op := Go.Op.nilCheck (Go.Operand.tmp 22), type := 0, pos := "origin.go:51", after := #[{ on := 0, ground := Go.Ground.data }], guard := none }) (v := ?_) rfl (by kernel_rfl) (by kernel_rfl) (by kernel_rfl) (fun _ _ _ h => h) (Or.inl ⟨by kernel_rfl, ?_⟩) (by assumption) ?_
  rotate_left
  · intro W hSw; go_simp; first | done | with_reducible rfl
  try simp only [Act.put, lsA, lsB, lsC]
  refine wpAnyH_take (i := 8) (oi := { dst := some 30, op := Go.Op.fieldAddr 51 (Go.Operand.tmp 29) 0, type := 0, pos := "origin.go:51", after := #[{ on := 7, ground := Go.Ground.data }], guard := none }) (v := ?_) rfl (by kernel_rfl) (by kernel_rfl) (by kernel_rfl) (fun _ _ _ h => h) (Or.inl ⟨by kernel_rfl, ?_⟩) (by assumption) ?_
  rotate_left
  · intro W hSw; go_simp; first | done | with_reducible rfl
  try simp only [Act.put, lsA, lsB, lsC]
  refine wpAnyH_ready (rs := [5]) (by kernel_rfl) (by simp) ?_
  refine AllReadyH.cons (o := { dst := some 27, op := Go.Op.load 3 (Go.Operand.tmp 26), type := 3, pos := "origin.go:51", after := #[{ on := 4, ground := Go.Ground.data }], guard := none }) rfl (fun K hK => ?_) AllReadyH.nil
  have hq_ := hOd.out.cellI hq
  go_simp
  clear hq_
  refine hK.out _ _ ?_ (fun hHeld => ?_)
  · exact hX.out
  clear hK K
  try simp only [Act.put, lsA, lsB, lsC]
  refine wpAnyH_take (i := 6) (oi := { dst := some 28, op := Go.Op.binOp Go.BinOp.add 3 (Go.Operand.tmp 27) (Go.Operand.const (Go.Value.int Go.IntKind.i64 1)) 3, type := 3, pos := "origin.go:51", after := #[{ on := 5, ground := Go.Ground.data }], guard := none }) (v := ?_) rfl (by kernel_rfl) (by kernel_rfl) (by kernel_rfl) (fun _ _ _ h => h) (Or.inl ⟨by kernel_rfl, ?_⟩) (by assumption) ?_
  rotate_left
  · intro W hSw; go_simp; first | done | with_reducible rfl
  try simp only [Act.put, lsA, lsB, lsC]
  refine wpAnyH_take (i := 9) (oi := { dst := some 31, op := Go.Op.indexAddr 26 (Go.Operand.tmp 30) (Go.Operand.tmp 23), type := 0, pos := "origin.go:51", after := #[{ on := 8, ground := Go.Ground.data }, { on := 1, ground := Go.Ground.data }, { on := 0, ground := Go.Ground.phase }, { on := 1, ground := Go.Ground.phase }, { on := 2, ground := Go.Ground.phase }, { on := 3, ground := Go.Ground.phase }, { on := 4, ground := Go.Ground.phase }, { on := 5, ground := Go.Ground.phase }, { on := 6, ground := Go.Ground.phase }], guard := none }) (v := ?_) rfl (by kernel_rfl) (by kernel_rfl) (by kernel_rfl) (fun _ _ _ h => h) (Or.inl ⟨by kernel_rfl, ?_⟩) (by assumption) ?_
  rotate_left
  · intro W hSw; go_simp; first | done | with_reducible rfl
  try simp only [Act.put, lsA, lsB, lsC]
  refine wpAnyH_ready (rs := [10]) (by kernel_rfl) (by simp) ?_
  refine AllReadyH.cons (o := { dst := none, op := Go.Op.store 3 (Go.Operand.tmp 31) (Go.Operand.tmp 28), type := 0, pos := "origin.go:51", after := #[{ on := 9, ground := Go.Ground.data }, { on := 6, ground := Go.Ground.data }, { on := 0, ground := Go.Ground.phase }, { on := 1, ground := Go.Ground.phase }, { on := 2, ground := Go.Ground.phase }, { on := 3, ground := Go.Ground.phase }, { on := 4, ground := Go.Ground.phase }, { on := 5, ground := Go.Ground.phase }, { on := 6, ground := Go.Ground.phase }], guard := none }) rfl (fun K hK => ?_) AllReadyH.nil
  have hq_ := hOd.out.cellI hq
  have hf_ := bFz hOd.out.hb q
  go_simp
  clear hq_ hf_
  refine hK.out _ _ ?_ (fun hHeld => ?_)
  · exact hX.out.set (.inl hOd.out.hg) _ _
  clear hK K
  try simp only [Act.put, lsA, lsB, lsC]
  refine wpAnyH_done (by kernel_rfl) ?_ _
  try simp only [Act.put, lsA, lsB, lsC, List.getElem_toArray, List.getElem_cons_zero, List.getElem_cons_succ]
  refine NoPanic.normal ?_
  (try dsimp only [Exit.then])
  refine hKz.out _ _ ?_
  have hFin := AsZ.mk (hOd.out.turn hq (V q + 1))
  have hKe := AsZ.mk (((KeepP.of_below (P := P) hb1.out).trans hX.out (fun k hk => .inl hk)).set (.inl hOd.out.hg) q (.int .i64 (V q + 1)))
  clear hHeld
  go_wp2
  go_ret
  exact ⟨rfl, ⟨_, _, hFin.out⟩, hKe.out⟩
set_option maxHeartbeats 4000000 in
set_option maxRecDepth 100000 in
theorem turn_not {base g : Nat} {P : Nat → Prop} {V : Nat → Int} {F : List Int} {A : List AK} (o : Int) (w : World) (h : OrgX w base P g V F A) (h0 : ¬ (0 ≤ o ∧ o < 16)) :
    Calls Try.prog 7 #[.pointer (some ⟨g, 0, none⟩), .int .i64 o] w fun e w' => e = .returned (.int .i64 1) ∧ Below w.heap.size w w' := by
  have HC := has_calls g o w
  rw [decide_eq_false h0] at HC
  replace HC := AsZ.mk HC
  go_enter Try.func7, Try.ntmps7
  go_wp2_with (go_at_call 17; refine HC.out.mono ?_; rintro e w1 ⟨rfl, hb1⟩; replace hb1 := AsZ.mk hb1)
  go_ret
  exact ⟨rfl, hb1.out⟩
end Go.Proofs.Ytpphnjmppkbpbaa.Org
namespace Go.Proofs.Ytpphnjmppkbpbaa.Org
open Go Go.RowKit Go.Proofs Go.Proofs.Ytpphnjmppkbpbaa.Xw Go.Proofs.Ytpphnjmppkbpbaa.PAll Go.Proofs.Ytpphnjmppkbpbaa.Ag Go.Proofs.Ytpphnjmppkbpbaa.Pure Go.Proofs.YtpphnjmppkbpbaaW.PrintWords Go.Proofs.YtpphnjmppkbpbaaW.PrintLast Go.Proofs.YtpphnjmppkbpbaaW.PrintMore
attribute [local go_sem] Oper.semAt_some
set_option linter.unusedSimpArgs false
set_option linter.unusedVariables false
theorem one_C (w : World) (x : Int) : kI.C (w.alloc (.cells #[.int .i64 x] 3 (0, 0))) (some ⟨w.heap.size, 0, none⟩) 1 [x] := by
  refine ⟨rfl, by decide, fun _ => ⟨_, rfl, fun j p hj => ?_⟩⟩
  cases j with
  | zero =>
    obtain rfl : x = p := by simpa using hj
    refine ⟨[.int .i64 x], rfl, rfl, fun i u hu => ?_⟩
    cases i with
    | zero => rw [show (⟨w.heap.size, 0, none⟩ : Addr).add (0 * kI.sz + 0) = ⟨w.heap.size, 0, none⟩ from rfl]; exact (bCe (blk_new w _) 0).trans hu
    | succ i => simp at hu
  | succ j => simp at hj
theorem PX.lt {P : Nat → Prop} {w X : World} {k : Nat} (h : PX P w X k) : k < X.heap.size := h.2
def askO (a : AK) : Obj := .cells #[.int .i64 a.f0, .bool a.f1, .string a.f2, .int .i64 a.f3.f0, .int .i64 a.f3.f1] 32 (0, 0)
theorem ask_cells {X : World} {k : Nat} {a : AK} (h : X.heap[k]? = some (askO a)) : X.cell? ⟨k, 0, none⟩ = some (.int .i64 a.f0) ∧ X.cell? ⟨k, 1, none⟩ = some (.bool a.f1) ∧ X.cell? ⟨k, 2, none⟩ = some (.string a.f2) ∧ X.cell? ⟨k, 3, none⟩ = some (.int .i64 a.f3.f0) ∧ X.cell? ⟨k, 4, none⟩ = some (.int .i64 a.f3.f1) :=
  ⟨(bCe h 0).trans rfl, (bCe h 1).trans rfl, (bCe h 2).trans rfl, (bCe h 3).trans rfl, (bCe h 4).trans rfl⟩
theorem status_run (s : Int) (s2 : ByteArray) (s3 : Int) (s4 : ByteArray) (v5 : Value) (w : World) : (Instr.field 40 (.agg #[.int .i64 s, .string s2, .int .i64 s3, .string s4, v5]) 0).run Try.prog w = .ok (.int .i64 s) w := by kernel_rfl
attribute [local go_sem] status_run
def ask1 : AK := ⟨1, true, ⟨#[]⟩, ⟨0, 0⟩⟩
theorem st1 : (served (([] : List Int) ++ [1]) (ans ask1 (verP vz ask1.f0))).1 = 503 := by simp [served, flt, PureQ.faultyV]
theorem st2 : (served (([] : List Int) ++ [1]).tail (ans ask1 (verP vz ask1.f0))).1 = 200 := by
  have h : tagV 1 0 = [118, 49, 45, 48] := by
    have h1 : mayV 1 0 = true := by decide
    rw [tagV, if_pos h1, dig_small (by decide), dig_small (by decide)]; rfl
  show (replyV 1 true (bytesOf ⟨#[]⟩) 0 0 0).1 = 200
  unfold replyV
  rw [h]; rfl
set_option maxHeartbeats 8000000 in
set_option maxRecDepth 100000 in
theorem awake_calls (w : World) : Calls Try.prog 5 #[] w fun e w' => e = .returned (.bool true) ∧ Below w.heap.size w w' := by
  have hu40 := Try.underlying40
  have CN := AsZ.mk (new_calls w)
  have e1 := AsZ.mk st1
  have e2 := AsZ.mk st2
  go_enter Try.func5, Try.ntmps5
  go_wp2_with (first
    | (go_at_call 6; refine CN.out.mono ?_; rintro e w1 ⟨rfl, hO1, hb1⟩; replace hO1 := AsZ.mk hO1; replace hb1 := AsZ.mk hb1)
    | (go_at_call 8; refine (fault_calls _ 1 [1] _ (hO1.out.below (aBl (Below.refl _ _) _)) (one_C w1 1) (by simp)).mono ?_; rintro e w2 ⟨rfl, hO2, hK2⟩; have hA := AsZ.mk (blk_new w2 (askO ask1)); have hO3 := AsZ.mk (hO2.below (aBl (Below.refl _ w2) (askO ask1))); have hB3 := AsZ.mk (aBl (hK2.below (aBl hb1.out _) (aBl hb1.out (.cells #[.int .i64 1] 3 (0, 0))).size (fun k hk => Nat.le_of_eq hk.symm)) (askO ask1)); clear hO2 hK2 hO1 hb1)
    | (go_at_call 12; refine (serve_calls ask1 (w2.alloc (askO ask1)) hO3.out (by simp) (by simp)).mono ?_; rintro e w4 ⟨u, rfl, ⟨Au, cu, rfl, hlu, hCu⟩, hO, hK4⟩; rw [e1.out]; obtain ⟨q0, q1, q2, q3, q4⟩ := ask_cells (a := ask1) (hK4.cells hA.out (fun hk => absurd hk.2 (Nat.lt_irrefl _))); have hB4 := AsZ.mk (hK4.below hB3.out hB3.out.size (fun k hk => hO3.out.ge hk)); have hO4 := AsZ.mk hO; clear hlu hCu hK4 hO hO3 hB3 hA)
    | (go_at_call 12; refine (serve_calls ask1 w4 hO4.out (by simp) (by simp)).mono ?_; rintro e w5 ⟨u, rfl, ⟨Au, cu, rfl, hlu, hCu⟩, hO, hK⟩; rw [e2.out]; have hB5 := AsZ.mk (hK.below hB4.out hB4.out.size (fun k hk => hO4.out.ge hk)); clear hO hK hO4 hlu hCu))
  go_ret
  exact ⟨rfl, hB5.out⟩
end Go.Proofs.Ytpphnjmppkbpbaa.Org
namespace Go.Proofs.Ytpphnjmppkbpbaa.Org
open Go Go.RowKit Go.Proofs Go.Proofs.Ytpphnjmppkbpbaa.Xw Go.Proofs.Ytpphnjmppkbpbaa.PAll Go.Proofs.Ytpphnjmppkbpbaa.Ag Go.Proofs.Ytpphnjmppkbpbaa.Pure Go.Proofs.Ytpphnjmppkbpbaa.PureQ Go.Proofs.YtpphnjmppkbpbaaW.PrintWords Go.Proofs.YtpphnjmppkbpbaaW.PrintLast Go.Proofs.YtpphnjmppkbpbaaW.PrintMore
attribute [local go_sem] Oper.semAt_some status_run
set_option linter.unusedSimpArgs false
set_option linter.unusedVariables false
abbrev DK := S34
abbrev kD : Kd DK := k34
def dCells (d : DK) : Array Value := #[.int .i64 d.f0, .int .i64 d.f1.f0, .bool d.f1.f1, .string d.f1.f2, .int .i64 d.f1.f3.f0, .int .i64 d.f1.f3.f1, .int .i64 d.f2]
/-- what stands between two deeds: the origin, the versions told by hand, the faults that wait and what was asked -/
structure Inv (w : World) (nv g m : Nat) (P : Nat → Prop) (Vo : Nat → Int) (Fo : List Int) (Ao : List AK) (Vl : Nat → Int) (Fl : List Int) (Al : List AK) (vF vA : Value) (X : World) : Prop where
  hB : Below w.heap.size w X
  hO : OrgX X w.heap.size P g Vo Fo Ao
  hV : ∀ j, 0 ≤ Vl j ∧ Vl j ≤ m
  hl : Fl.length ≤ m ∧ Al.length ≤ m
  hv : X.heap[nv]? = some (.cells (agC .i64 16 Vl) 26 (0, 0))
  hnv : ¬ P nv
  hbn : w.heap.size ≤ nv
  hF : kI.Q 3 X w.heap.size (fun k => ¬ P k) vF Fl
  hA : kA.R 32 X w.heap.size (fun k => ¬ P k) vA Al
section
variable {w X Y : World} {nv g m : Nat} {P : Nat → Prop} {Vo Vo' Vl : Nat → Int} {Fo Fo' Fl : List Int} {Ao Ao' Al : List AK} {vF vA v1 : Value}
theorem Inv.below (h : Inv w nv g m P Vo Fo Ao Vl Fl Al vF vA X) (hb : Below X.heap.size X Y) : Inv w nv g m P Vo Fo Ao Vl Fl Al vF vA Y :=
  ⟨tBl h.hB hb, h.hO.below hb, h.hV, h.hl, bBl h.hv hb, h.hnv, h.hbn, Kd.Q_below h.hF hb, Kd.R_below h.hA hb⟩
theorem Inv.succ (h : Inv w nv g m P Vo Fo Ao Vl Fl Al vF vA X) : Inv w nv g (m + 1) P Vo Fo Ao Vl Fl Al vF vA X :=
  ⟨h.hB, h.hO, fun j => ⟨(h.hV j).1, by have := (h.hV j).2; push_cast; omega⟩, ⟨by have := h.hl.1; omega, by have := h.hl.2; omega⟩, h.hv, h.hnv, h.hbn, h.hF, h.hA⟩
/-- the origin does something -/
theorem Inv.keep (h : Inv w nv g m P Vo Fo Ao Vl Fl Al vF vA X) (hK : KeepP X P Y) {P2 : Nat → Prop} (hP2 : ∀ k, P2 k → P k ∨ X.heap.size ≤ k) (hO : OrgX Y w.heap.size P2 g Vo' Fo' Ao') : Inv w nv g m P2 Vo' Fo' Ao' Vl Fl Al vF vA Y :=
  ⟨hK.below h.hB h.hB.size (fun k hk => h.hO.ge hk), hO, h.hV, h.hl, hK.cells h.hv h.hnv, fun hp => (hP2 _ hp).elim h.hnv (fun hl => by have := bLt h.hv; omega), h.hbn,
    Kd.Q_mono (Kd.Q_step (Kd.Q_bound h.hF) (fun k hk hlt => hK.block k hlt hk.1)) (fun k hk hp => (hP2 k hp).elim hk.1 (fun hl => by have := hk.2.2.1; omega)),
    Kd.R_mono (Kd.R_step (Kd.R_bound h.hA) (fun k hk hlt => hK.block k hlt hk.1)) (fun k hk hp => (hP2 k hp).elim hk.1 (fun hl => by have := hk.2.2.1; omega))⟩
/-- a version told by hand -/
theorem Inv.setv (h : Inv w nv g m P Vo Fo Ao Vl Fl Al vF vA X) {q : Nat} (hq : q < 16) (x : Int) (hx : 0 ≤ x ∧ x ≤ m) : Inv w nv g m P Vo Fo Ao (putF Vl q x) Fl Al vF vA (X.setCell ⟨nv, q, none⟩ (.int .i64 x)) := by
  have hK := (KeepP.refl X (fun k => k = nv)).set (g := nv) (.inl rfl) q (.int .i64 x)
  refine ⟨hK.below h.hB h.hB.size (fun k e => e ▸ h.hbn), h.hO.keep hK (fun k hk e => h.hnv (e ▸ hk)), fun j => ?_, h.hl, by rw [blk_set h.hv, agC_set], h.hnv, h.hbn, Kd.Q_set h.hF h.hv (fun q hq => by rw [tyI1 hq]; decide) q _, Kd.R_set h.hA h.hv (fun q hq => by rw [tyA1 hq]; decide) q _⟩
  unfold putF
  split
  · exact hx
  · exact h.hV j
/-- a fault more, told by hand -/
theorem Inv.appF (h : Inv w nv g m P Vo Fo Ao Vl Fl Al vF vA X) (hg : X.grownBy Y vF.ownBlock) (hb : Below w.heap.size w Y) {x : Int} (hQ : kI.Q 3 Y w.heap.size (fun k => ¬ P k) v1 (Fl ++ [x])) : Inv w nv g (m + 1) P Vo Fo Ao Vl (Fl ++ [x]) Al v1 vA Y := by
  have hs := h.succ
  refine ⟨hb, h.hO.keep (KeepP.of_grown hg) (fun k hk e => h.hF.1 k e.symm hk), hs.hV, ⟨by have := h.hl.1; simp; omega, hs.hl.2⟩, (KeepP.of_grown hg).cells h.hv (fun e => Kd.Q_ne h.hF h.hv (by decide) e), h.hnv, h.hbn, hQ, ?_⟩
  refine Kd.R_mono (Kd.R_step (Kd.R_bound h.hA) (fun k hk hlt => hg.block k hlt (fun e => ?_))) (fun k hk => hk.1)
  obtain ⟨_, _, _, q, hq, cells, hc⟩ := hk
  rw [tyA1 hq] at hc
  exact Kd.Q_ne h.hF hc (by decide) e
/-- what was asked, told by hand -/
theorem Inv.appA (h : Inv w nv g m P Vo Fo Ao Vl Fl Al vF vA X) (hg : X.grownBy Y vA.ownBlock) (hb : Below w.heap.size w Y) {x : AK} (hR : kA.R 32 Y w.heap.size (fun k => ¬ P k) v1 (Al ++ [x])) : Inv w nv g (m + 1) P Vo Fo Ao Vl Fl (Al ++ [x]) vF v1 Y := by
  have hs := h.succ
  refine ⟨hb, h.hO.keep (KeepP.of_grown hg) (fun k hk e => h.hA.1 k e.symm hk), hs.hV, ⟨hs.hl.1, by have := h.hl.2; simp; omega⟩, (KeepP.of_grown hg).cells h.hv (fun e => Kd.R_ne h.hA h.hv (by decide) e), h.hnv, h.hbn, ?_, hR⟩
  refine Kd.Q_mono (Kd.Q_step (Kd.Q_bound h.hF) (fun k hk hlt => hg.block k hlt (fun e => ?_))) (fun k hk => hk.1)
  obtain ⟨_, _, _, q, hq, cells, hc⟩ := hk
  rw [tyI1 hq] at hc
  exact Kd.R_ne h.hA hc (by decide) e
/-- a fault that waits no more -/
theorem Inv.cutF {A : Option Addr} {n c : Nat} (h : Inv w nv g m P Vo Fo Ao Vl Fl Al (.slice A n c) vA X) (hp : 1 ≤ Fl.length) : Inv w nv g m P Vo Fo Ao Vl Fl.tail Al (.slice (if c = 1 then A else A.map (·.add 1)) (n - 1) (c - 1)) vA X := by
  have hd := Kd.Q_drop h.hF hp
  rw [List.drop_one] at hd
  exact ⟨h.hB, h.hO, h.hV, ⟨by have := h.hl.1; rw [List.length_tail]; omega, h.hl.2⟩, h.hv, h.hnv, h.hbn, hd, h.hA⟩
end
theorem cut_run (A : Option Addr) (n c : Nat) (hm : 1 ≤ n) (W : World) : (Instr.slice 27 (.slice A n c) (some (.int .i64 1)) none none).run Try.prog W = .ok (.slice (if c = 1 then A else A.map (·.add 1)) (n - 1) (c - 1)) W := by
  obtain ⟨i, hi, hiz⟩ := Option.map_eq_some_iff.1 infoI
  simp only [Prod.mk.injEq] at hiz
  have ht := Try.underlying27
  have hel : (Try.prog).elem 27 = 3 := by simp [Program.elem, ht]
  have hu : (Try.prog).underlying 27 = some (.slice ((Try.prog).elem 27)) := by rw [hel]; exact ht
  have hr := run_slice_l W 27 A n c hu .i64 1 (by omega) (by omega)
  rw [hr, hel]
  simp [sizeOf, typeInfo, hi, hiz.2.1, sliced, Result.andThen]
def dZero : Obj := .cells #[.int .i64 0, .int .i64 0, .bool false, .string ⟨#[]⟩, .int .i64 0, .int .i64 0, .int .i64 0] 34 (0, 0)
/-- the world with a deed laid into a block of its own -/
def dWorld (w : World) (d : DK) : World := (w.alloc dZero).setRow w.heap.size (dCells d)
theorem dW_below (w : World) (d : DK) : Below w.heap.size w (dWorld w d) := below_setRow (aBl (Below.refl _ w) dZero) (Nat.le_refl _) _
theorem dW_cells (w : World) (d : DK) : (dWorld w d).heap[w.heap.size]? = some (.cells (dCells d) 34 (0, 0)) := setRow_heap _ _ _ _ _ _ (blk_new w dZero)
theorem d_cells {X : World} {k : Nat} {d : DK} (h : X.heap[k]? = some (.cells (dCells d) 34 (0, 0))) : X.cell? ⟨k, 0, none⟩ = some (.int .i64 d.f0) ∧ X.cell? ⟨k, 1, none⟩ = some (.int .i64 d.f1.f0) ∧ X.cell? ⟨k, 2, none⟩ = some (.bool d.f1.f1) ∧ X.cell? ⟨k, 3, none⟩ = some (.string d.f1.f2) ∧ X.cell? ⟨k, 4, none⟩ = some (.int .i64 d.f1.f3.f0) ∧ X.cell? ⟨k, 5, none⟩ = some (.int .i64 d.f1.f3.f1) ∧ X.cell? ⟨k, 6, none⟩ = some (.int .i64 d.f2) :=
  ⟨(bCe h 0).trans rfl, (bCe h 1).trans rfl, (bCe h 2).trans rfl, (bCe h 3).trans rfl, (bCe h 4).trans rfl, (bCe h 5).trans rfl, (bCe h 6).trans rfl⟩
theorem Inv.start {w X1 X2 : World} (hb2 : Below w.heap.size w X2) (hO : OrgX X2 w.heap.size (fun k => k = X1.heap.size) X1.heap.size vz [] []) (hg : X1.heap.size < X2.heap.size) :
    Inv w X2.heap.size X1.heap.size 0 (fun k => k = X1.heap.size) vz [] [] vz [] [] (.slice none 0 0) (.slice none 0 0) (X2.alloc (.cells (agC .i64 16 vz) 26 (0, 0))) :=
  ⟨aBl hb2 _, hO.below (aBl (Below.refl _ _) _), fun j => by simp [vz], ⟨by simp, by simp⟩, blk_new _ _, fun e => by have e' : X2.heap.size = X1.heap.size := e; omega, hb2.size, Kd.Q_nil _ _ _ _ _, Kd.R_nil _ _ _ _ _⟩
/-- an answer's value, its body in blocks of Q -/
def RepX (w : World) (Q : Nat → Prop) (v : Value) (r : RP) : Prop := ∃ A c, v = .agg #[.int .i64 r.1, .string r.2.1, .int .i64 r.2.2.1, .string r.2.2.2.1, .slice A r.2.2.2.2.length c] ∧ r.2.2.2.2.length ≤ c ∧ Kd.F (Kd.int .u8) w Q A r.2.2.2.2.length r.2.2.2.2
theorem RepV.toX {w : World} {lo : Nat} {v : Value} {r : RP} (h : RepV w lo v r) : RepX w (fun k => lo ≤ k ∧ k < w.heap.size) v r := by
  obtain ⟨A, c, h1, h2, h3⟩ := h
  exact ⟨A, c, h1, h2, Kd.F_bound h3⟩
theorem RepX.toV {w : World} {Q : Nat → Prop} {v : Value} {r : RP} (h : RepX w Q v r) : RepV w 0 v r := by
  obtain ⟨A, c, h1, h2, h3⟩ := h
  exact ⟨A, c, h1, h2, Kd.F_mono h3 (fun _ _ => Nat.zero_le _)⟩
theorem RepX.below {w X : World} {Q : Nat → Prop} {v : Value} {r : RP} (h : RepX w Q v r) (hb : Below w.heap.size w X) : RepX X Q v r := by
  obtain ⟨A, c, h1, h2, h3⟩ := h
  exact ⟨A, c, h1, h2, Kd.F_below h3 hb⟩
theorem RepX.keep {w X : World} {Q P : Nat → Prop} {v : Value} {r : RP} (h : RepX w Q v r) (hk : KeepP w P X) (hP : ∀ k, Q k → ¬ P k) : RepX X Q v r := by
  obtain ⟨A, c, h1, h2, h3⟩ := h
  exact ⟨A, c, h1, h2, Kd.F_step h3 (fun k hl hlt => hk.block k hlt (hP k hl))⟩
theorem ref_flt2 (k : Int) (r : RP) (hs : RSm r) (u : Value) (Q : Nat → Prop) (w : World) (hr : RepX w Q u r) : Calls Try.prog 10 #[.int .i64 k, u] w fun e w' => ∃ u', e = .returned u' ∧ RepX w' (fun k => Q k ∨ w.heap.size ≤ k) u' (flt k r) ∧ Below w.heap.size w w' := by
  obtain ⟨A, c, rfl, hl, hC⟩ := hr
  obtain ⟨n, hn⟩ := ref_faulty_ev k r.1 r.2.1 r.2.2.1 r.2.2.2.1 r.2.2.2.2 hs.tag hs.range hs.body
  refine (spenceref24_Faulty.calls n k r.1 r.2.1 r.2.2.1 r.2.2.2.1 Q A c r.2.2.2.2 _ _ _ _ _ w (Kd.V_mk hl hC) (hn n (Nat.le_refl _))).mono ?_
  rintro e w' ⟨u, rfl, hR, hb⟩
  obtain ⟨A, c, rfl⟩ := Kd.V_slice hR
  exact ⟨_, rfl, ⟨A, c, rfl, (Kd.V_reads' hR).2.1, Kd.V_F hR⟩, hb⟩
def rCells (r : RP) (A : Option Addr) (c : Nat) : Array Value := #[.int .i64 r.1, .string r.2.1, .int .i64 r.2.2.1, .string r.2.2.2.1, .slice A r.2.2.2.2.length c]
def rZero : Obj := .cells #[.int .i64 0, .string ⟨#[]⟩, .int .i64 0, .string ⟨#[]⟩, .slice none 0 0] 40 (0, 0)
def rWorld (w : World) (c : Array Value) : World := (w.alloc rZero).setRow w.heap.size c
theorem rW_below (w : World) (c : Array Value) : Below w.heap.size w (rWorld w c) := below_setRow (aBl (Below.refl _ w) rZero) (Nat.le_refl _) _
theorem rW_cells (w : World) (c : Array Value) : (rWorld w c).heap[w.heap.size]? = some (.cells c 40 (0, 0)) := setRow_heap _ _ _ _ _ _ (blk_new w rZero)
theorem r_cells {X : World} {k c : Nat} {r : RP} {A : Option Addr} (h : X.heap[k]? = some (.cells (rCells r A c) 40 (0, 0))) : X.cell? ⟨k, 0, none⟩ = some (.int .i64 r.1) ∧ X.cell? ⟨k, 1, none⟩ = some (.string r.2.1) ∧ X.cell? ⟨k, 2, none⟩ = some (.int .i64 r.2.2.1) ∧ X.cell? ⟨k, 3, none⟩ = some (.string r.2.2.2.1) ∧ X.cell? ⟨k, 4, none⟩ = some (.slice A r.2.2.2.2.length c) :=
  ⟨(bCe h 0).trans rfl, (bCe h 1).trans rfl, (bCe h 2).trans rfl, (bCe h 3).trans rfl, (bCe h 4).trans rfl⟩
theorem rng_cases (o : Int) : (0 ≤ o ∧ o < 16) ∨ (0 ≤ o ∧ ¬ o < 16) ∨ ¬ 0 ≤ o := by omega
def aZero : Obj := .cells #[.int .i64 0, .bool false, .string ⟨#[]⟩, .int .i64 0, .int .i64 0] 32 (0, 0)
def aCells (a : AK) : Array Value := #[.int .i64 a.f0, .bool a.f1, .string a.f2, .int .i64 a.f3.f0, .int .i64 a.f3.f1]
def aWorld (w : World) (a : AK) : World := (w.alloc aZero).setRow w.heap.size (aCells a)
theorem aW_below (w : World) (a : AK) : Below w.heap.size w (aWorld w a) := below_setRow (aBl (Below.refl _ w) aZero) (Nat.le_refl _) _
theorem aW_cells (w : World) (a : AK) : (aWorld w a).heap[w.heap.size]? = some (.cells (aCells a) 32 (0, 0)) := setRow_heap _ _ _ _ _ _ (blk_new w aZero)
theorem neq_ask (a : AK) (W : World) : (binOp .neq 32 (askV a) (askV a)).run Try.prog W = .ok (.bool false) W := by
  have eI : ∀ (d : Nat) (x : Int), (Op.equalIn (d + 1) 3 (.int .i64 x) (.int .i64 x)).run Try.prog W = .ok true W := fun d x => by rw [run_equalIn_int W d _ .i64 .i64 x x Try.underlying3, beq_self_eq_true]
  have eB : ∀ (d : Nat) (x : Bool), (Op.equalIn (d + 1) 4 (.bool x) (.bool x)).run Try.prog W = .ok true W := fun d x => by rw [run_equalIn_bool' W d _ x x Try.underlying4, beq_self_eq_true]
  have eS : ∀ (d : Nat) (x : ByteArray), (Op.equalIn (d + 1) 9 (.string x) (.string x)).run Try.prog W = .ok true W := fun d x => by rw [run_equalIn_string W d _ x x Try.underlying9, beq_self_eq_true]
  have eP : (Op.equalIn (9998 + 1) 30 (.agg #[.int .i64 a.f3.f0, .int .i64 a.f3.f1]) (.agg #[.int .i64 a.f3.f0, .int .i64 a.f3.f1])).run Try.prog W = .ok true W :=
    eqA_of (r := true) Try.underlying30 (by kernel_rfl) (eqf_cons (r := true) (s := true) rfl (a := .int .i64 a.f3.f0) (b := .int .i64 a.f3.f0) (by kernel_rfl) (by kernel_rfl) (eI _ _) (eqf_last rfl (a := .int .i64 a.f3.f1) (b := .int .i64 a.f3.f1) (by kernel_rfl) (by kernel_rfl) (eI _ _)))
  have eA : (Op.equalIn (9999 + 1) 32 (askV a) (askV a)).run Try.prog W = .ok true W :=
    eqA_of (r := true) Try.underlying32 (by kernel_rfl) (eqf_cons (r := true) (s := true) rfl (a := .int .i64 a.f0) (b := .int .i64 a.f0) (by kernel_rfl) (by kernel_rfl) (eI _ _) (eqf_cons (r := true) (s := true) rfl (a := .bool a.f1) (b := .bool a.f1) (by kernel_rfl) (by kernel_rfl) (eB _ _) (eqf_cons (r := true) (s := true) rfl (a := .string a.f2) (b := .string a.f2) (by kernel_rfl) (by kernel_rfl) (eS _ _) (eqf_last rfl (a := .agg #[.int .i64 a.f3.f0, .int .i64 a.f3.f1]) (b := .agg #[.int .i64 a.f3.f0, .int .i64 a.f3.f1]) (by kernel_rfl) (by kernel_rfl) eP))))
  have hr : (binOp .neq 32 (askV a) (askV a)).run Try.prog W = ((Op.equalIn 10000 32 (askV a) (askV a)).run Try.prog W).andThen fun b w' => .ok (.bool (!b)) w' := run_neq_struct W _ _ _
  rw [hr, show (Op.equalIn 10000 32 (askV a) (askV a)).run Try.prog W = .ok true W from eA]
  rfl
end Go.Proofs.Ytpphnjmppkbpbaa.Org
