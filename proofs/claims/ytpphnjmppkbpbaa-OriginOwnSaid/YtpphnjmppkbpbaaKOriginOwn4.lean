/- What the law OriginOwn leans on (part 5 of 6): Go functions as plain functions, that the code comes to them, and what these answer. -/
import Derived.Test.YtpphnjmppkbpbaaKOriginOwn1
import Derived.Test.YtpphnjmppkbpbaaKOriginOwn3
import Derived.Test.YtpphnjmppkbpbaaKOriginOwn0
import Derived.OpenShut
import Derived.Laws.BytesArg
import Derived.Laws.Strings
import Derived.Lib.Bytealg
import Derived.Test.YtpphnjmppkbpbaaKOriginOwn2
import Derived.Test.YtpphnjmppkbpbaaProg
import Derived.WalkMore
import Derived.Laws.Cover1
import Derived.Laws.StandIn
import Derived.LoopTactic
import Derived.Lib.Hide
import Derived.Below
import Derived.Tactics
import Derived.WalkKit
import Derived.KernelRfl
import Derived.Laws.Rows
import Derived.Laws.IdiomCopy
import Derived.Laws.CopyOwn
import Derived.Deep.LoopGhost
import Derived.Deep.MidRow
import Derived.Deep.RegionHeld3
import Derived.Deep.DrawnRows
import Derived.Lib.SliceRun
import Derived.Shelf.Abstract
namespace Go.Proofs.Ytpphnjmppkbpbaa.PAll
open Go.RowKit Go.Proofs.Ytpphnjmppkbpbaa.Xw Go.Proofs.YtpphnjmppkbpbaaW.PrintWords Go.Proofs.YtpphnjmppkbpbaaW.PrintLast Go.Proofs.YtpphnjmppkbpbaaW.PrintMore
attribute [local go_sem] max2_int min2_int max_two min_two max_three min_three max_four min_four   -- for this text's walks alone
set_option linter.unusedVariables false
set_option linter.unusedSimpArgs false
def reply_Of.j0 : Nat → Int → ByteArray → Int → Bool → Int → Bool → ByteArray → Int → Int → Option (Int × ByteArray × Int × ByteArray × List Int)
  | 0, _, _, _, _, _, _, _, _, _ => none
  | k + 1, x1, x5, x6, x33, x282000, x282001, x282002, x282003, x282004 => if x33 = true then ((crange_Print.f k false 0 0 x6).bind fun t300 => (some (416, x5, 0, t300, ([] : List Int)))) else ((crange_Of.f k x282003 x282004 x6).bind fun t301 => ((version_Body.f k x282000 x1 x282003 x282004).bind fun t302 => (some (206, x5, x6, t301, t302))))
def reply_Of.f (k : Nat) (a0_0 : Int) (a0_1 : Bool) (a0_2 : ByteArray) (a0_3 : Int) (a0_4 : Int) (a1 : Int) : Option (Int × ByteArray × Int × ByteArray × List Int) := (version_Tag.f k a0_0 a1).bind fun t283 => ((version_Length.f a0_0 a1).bind fun t284 => (if t283.toList = ([] : List UInt8) then ((reply_Gone.f).bind fun bt285 => (some (bt285.1, bt285.2.1, bt285.2.2.1, bt285.2.2.2.1, bt285.2.2.2.2))) else (if a0_1 = true then ((reply_head.f a0_0 a0_1 a0_2 a0_3 a0_4 t283 t284).bind fun bt292 => (some (bt292.1, bt292.2.1, bt292.2.2.1, bt292.2.2.2.1, bt292.2.2.2.2))) else (if a0_2.toList = t283.toList then ((span_Right.f a0_3 a0_4).bind fun t299 => (if t299 = true then (reply_Of.j0 k a1 t283 t284 (decide (a0_4 > t284)) a0_0 a0_1 a0_2 a0_3 a0_4) else (reply_Of.j0 k a1 t283 t284 true a0_0 a0_1 a0_2 a0_3 a0_4))) else (some (412, t283, 0, (⟨#[]⟩ : ByteArray), ([] : List Int)))))))
theorem reply_Of.mono_l : ∀ k, (∀ y0 y1 y2 y3 y4 y5 y6 y7 y8, LeO (reply_Of.j0 k y0 y1 y2 y3 y4 y5 y6 y7 y8) (reply_Of.j0 (k + 1) y0 y1 y2 y3 y4 y5 y6 y7 y8))
  | 0 => fun _ _ _ _ _ _ _ _ _ r h => by simp [reply_Of.j0] at h
  | k + 1 => by
    have ih0 := reply_Of.mono_l k
    · intro y0 y1 y2 y3 y4 y5 y6 y7 y8
      unfold reply_Of.j0
      repeat' first
      | (with_reducible exact ih0 _ _ _ _ _ _ _ _ _)
      | (with_reducible exact crange_Of.mono _ _ _ _)
      | (with_reducible exact crange_Print.mono _ _ _ _ _)
      | (with_reducible exact version_Body.mono _ _ _ _ _)
      | (with_reducible exact version_Tag.mono _ _ _)
      | (with_reducible exact LeO.refl _)
      | (with_reducible exact LeO.none _)
      | (with_reducible refine LeO.ite ?_ ?_)
      | (with_reducible refine LeO.bind ?_ (fun _ => ?_))
      | exact ih0 _ _ _ _ _ _ _ _ _
      | exact crange_Of.mono _ _ _ _
      | exact crange_Print.mono _ _ _ _ _
      | exact version_Body.mono _ _ _ _ _
      | exact version_Tag.mono _ _ _
      | exact LeO.none _
      | refine LeO.ite ?_ ?_
      | refine LeO.bind ?_ (fun _ => ?_)
theorem reply_Of.mono : ∀ a0 a1 a2 a3 a4 a5 k, LeO (reply_Of.f k a0 a1 a2 a3 a4 a5) (reply_Of.f (k + 1) a0 a1 a2 a3 a4 a5) := by
  intro a0 a1 a2 a3 a4 a5 k
  have ih0 := reply_Of.mono_l k
  unfold reply_Of.f
  repeat' first
      | (with_reducible exact ih0 _ _ _ _ _ _ _ _ _)
      | (with_reducible exact crange_Of.mono _ _ _ _)
      | (with_reducible exact crange_Print.mono _ _ _ _ _)
      | (with_reducible exact version_Body.mono _ _ _ _ _)
      | (with_reducible exact version_Tag.mono _ _ _)
      | (with_reducible exact LeO.refl _)
      | (with_reducible exact LeO.none _)
      | (with_reducible refine LeO.ite ?_ ?_)
      | (with_reducible refine LeO.bind ?_ (fun _ => ?_))
      | exact ih0 _ _ _ _ _ _ _ _ _
      | exact crange_Of.mono _ _ _ _
      | exact crange_Print.mono _ _ _ _ _
      | exact version_Body.mono _ _ _ _ _
      | exact version_Tag.mono _ _ _
      | exact LeO.none _
      | refine LeO.ite ?_ ?_
      | refine LeO.bind ?_ (fun _ => ?_)
def reply_Of.T1 : Bool × List (List Nat × List Nat) := (true, [([], []), ([0], [0]), ([], []), ([1, 2], [1, 2]), ([], []), ([4], [4]), ([], []), ([5, 6, 3], [5, 6]), ([3, 7, 0, 1, 2, 3], [3]), ([7, 8, 0, 1, 2, 3, 4, 5, 6, 7, 8], [7])])
def reply_Of.B1 : List Nat := [0, 1, 0, 7, 0, 16, 0, 127, 255, 511]
theorem reply_Of.tab1 : rtab .any (opsOf Try.f28 1) = reply_Of.T1 := by kernel_rfl
theorem reply_Of.bits1 : waitsOk reply_Of.T1.2 reply_Of.B1 = true := by kernel_rfl
def reply_Of.T10 : Bool × List (List Nat × List Nat) := (true, [([], []), ([], []), ([], []), ([2], [2]), ([], []), ([3, 4], [3, 4]), ([], []), ([6], [6]), ([], []), ([], []), ([9], [9]), ([7, 8, 10, 5], [7, 8, 10]), ([0, 1, 5, 11], [0, 1, 5, 11]), ([12, 11, 0, 1, 2, 3, 4, 5, 6, 7, 8, 9, 10, 11, 12], [12])])
def reply_Of.B10 : List Nat := [0, 0, 0, 4, 0, 28, 0, 64, 0, 0, 512, 2044, 4095, 8191]
theorem reply_Of.tab10 : rtab .any (opsOf Try.f28 10) = reply_Of.T10 := by kernel_rfl
theorem reply_Of.bits10 : waitsOk reply_Of.T10.2 reply_Of.B10 = true := by kernel_rfl
set_option maxHeartbeats 8000000 in
set_option maxRecDepth 100000 in
theorem reply_Of.calls (k : Nat) (a0_0 : Int) (a0_1 : Bool) (a0_2 : ByteArray) (a0_3 : Int) (a0_4 : Int) (a1 : Int) (r1 : Int) (r2 : ByteArray) (r3 : Int) (r4 : ByteArray) (r5 : List Int) (w : World) (h : reply_Of.f k a0_0 a0_1 a0_2 a0_3 a0_4 a1 = some (r1, r2, r3, r4, r5)) :
    Calls Try.prog 28 #[.agg #[.int .i64 a0_0, .bool a0_1, .string a0_2, .int .i64 a0_3, .int .i64 a0_4], .int .i64 a1] w fun e w' => ∃ v4_ : Value, e = .returned (.agg #[.int .i64 r1, .string r2, .int .i64 r3, .string r4, v4_]) ∧ Kd.R (Kd.int .u8) 5 w' w.heap.size (fun _ => True) v4_ r5 ∧ Below w.heap.size w w' := by
  have hu32 := Try.underlying32
  have hu40 := Try.underlying40
  have hu30 := Try.underlying30
  have hu59 := Try.underlying59
  have HB := Aside0.mk (Below.refl w.heap.size w)
  have H : ((version_Tag.f k a0_0 a1).bind fun t283 => ((version_Length.f a0_0 a1).bind fun t284 => (if t283.toList = ([] : List UInt8) then ((reply_Gone.f).bind fun bt285 => (some (bt285.1, bt285.2.1, bt285.2.2.1, bt285.2.2.2.1, bt285.2.2.2.2))) else (if a0_1 = true then ((reply_head.f a0_0 a0_1 a0_2 a0_3 a0_4 t283 t284).bind fun bt292 => (some (bt292.1, bt292.2.1, bt292.2.2.1, bt292.2.2.2.1, bt292.2.2.2.2))) else (if a0_2.toList = t283.toList then ((span_Right.f a0_3 a0_4).bind fun t299 => (if t299 = true then (reply_Of.j0 k a1 t283 t284 (decide (a0_4 > t284)) a0_0 a0_1 a0_2 a0_3 a0_4) else (reply_Of.j0 k a1 t283 t284 true a0_0 a0_1 a0_2 a0_3 a0_4))) else (some (412, t283, 0, (⟨#[]⟩ : ByteArray), ([] : List Int)))))))) = some (r1, r2, r3, r4, r5) := h
  clear h
  replace H := Option.bind_eq_some_iff.mp H
  obtain ⟨t283, A30, H⟩ := H
  replace H : ((version_Length.f a0_0 a1).bind fun t284 => (if t283.toList = ([] : List UInt8) then ((reply_Gone.f).bind fun bt285 => (some (bt285.1, bt285.2.1, bt285.2.2.1, bt285.2.2.2.1, bt285.2.2.2.2))) else (if a0_1 = true then ((reply_head.f a0_0 a0_1 a0_2 a0_3 a0_4 t283 t284).bind fun bt292 => (some (bt292.1, bt292.2.1, bt292.2.2.1, bt292.2.2.2.1, bt292.2.2.2.2))) else (if a0_2.toList = t283.toList then ((span_Right.f a0_3 a0_4).bind fun t299 => (if t299 = true then (reply_Of.j0 k a1 t283 t284 (decide (a0_4 > t284)) a0_0 a0_1 a0_2 a0_3 a0_4) else (reply_Of.j0 k a1 t283 t284 true a0_0 a0_1 a0_2 a0_3 a0_4))) else (some (412, t283, 0, (⟨#[]⟩ : ByteArray), ([] : List Int))))))) = some (r1, r2, r3, r4, r5) := H
  have A3 := Aside0.mk A30
  clear A30
  replace H := Option.bind_eq_some_iff.mp H
  obtain ⟨t284, A40, H⟩ := H
  replace H : (if t283.toList = ([] : List UInt8) then ((reply_Gone.f).bind fun bt285 => (some (bt285.1, bt285.2.1, bt285.2.2.1, bt285.2.2.2.1, bt285.2.2.2.2))) else (if a0_1 = true then ((reply_head.f a0_0 a0_1 a0_2 a0_3 a0_4 t283 t284).bind fun bt292 => (some (bt292.1, bt292.2.1, bt292.2.2.1, bt292.2.2.2.1, bt292.2.2.2.2))) else (if a0_2.toList = t283.toList then ((span_Right.f a0_3 a0_4).bind fun t299 => (if t299 = true then (reply_Of.j0 k a1 t283 t284 (decide (a0_4 > t284)) a0_0 a0_1 a0_2 a0_3 a0_4) else (reply_Of.j0 k a1 t283 t284 true a0_0 a0_1 a0_2 a0_3 a0_4))) else (some (412, t283, 0, (⟨#[]⟩ : ByteArray), ([] : List Int)))))) = some (r1, r2, r3, r4, r5) := H
  have A4 := Aside0.mk A40
  clear A40
  by_cases c5 : t283.toList = ([] : List UInt8)
  · rw [if_pos c5] at H
    have c5b0 : (t283.toList == ([] : List UInt8)) = true := beq_iff_eq.mpr c5
    have c5b1 : (t283.toList != ([] : List UInt8)) = false := bne_eq_false_iff_eq.mpr c5
    clear c5
    replace H := Option.bind_eq_some_iff.mp H
    obtain ⟨⟨t285, t286, t287, t288, t289⟩, A60, H⟩ := H
    replace H : (some (t285, t286, t287, t288, t289)) = some (r1, r2, r3, r4, r5) := H
    have A6 := Aside0.mk A60
    clear A60
    simp only [Option.some.injEq, Prod.mk.injEq] at H
    obtain ⟨rfl, rfl, rfl, rfl, rfl⟩ := H
    go_enter Try.func28, Try.ntmps28
    try go_wp2_with (first | ((with_reducible refine gate_dst (N := 2) rfl ?_); refine box_event ?hg (N := 2) ?hd (cs := #[.int .i64 a0_0, .bool a0_1, .string a0_2, .int .i64 a0_3, .int .i64 a0_4]) (t := 32) ?hr ?_; (case hd => rfl); (case hg => rfl); (case hr => first | (go_simp; done) | (go_simp; rfl)); intro gb281 hg w7 hbox hb; have n0_ := Aside0.mk (below_step (by repeat (first | (with_reducible first | exact HB.out | apply below_alloc | apply pw_below_drewN | apply below_drew1) | exact HB.out)) hb); have n1_ := Aside0.mk (hbox); have n2_ := Aside0.mk ((by rw [hg]; exact (below_size (by repeat (first | (with_reducible first | exact HB.out | apply below_alloc | apply pw_below_drewN | apply below_drew1) | exact HB.out))) : w.heap.size ≤ gb281)); have n3_ := Aside0.mk ((by rw [hg]; exact (below_size (by repeat (first | (with_reducible first | exact HB.out | apply below_alloc | apply pw_below_drewN | apply below_drew1) | exact HB.out))) : w.heap.size ≤ gb281)); clear HB; have HB := n0_; have BK281 := n1_; have GW281 := n2_; have GE281 := n3_; clear n0_ n1_ n2_ n3_; clear hb hbox hg) | ((with_reducible refine gate_dst (N := 4) rfl ?_); refine box_event ?hg (N := 4) ?hd (cs := #[.int .i64 0, .string (⟨#[]⟩ : ByteArray), .int .i64 0, .string (⟨#[]⟩ : ByteArray), .slice none 0 0]) (t := 40) ?hr ?_; (case hd => rfl); (case hg => rfl); (case hr => first | (go_simp; done) | (go_simp; rfl)); intro gb282 hg w8 hbox hb; have n0_ := Aside0.mk (blk_below (g := gb281) (o := .cells #[.int .i64 a0_0, .bool a0_1, .string a0_2, .int .i64 a0_3, .int .i64 a0_4] 32 (0, 0)) (by (with_reducible repeat (first | refine blk_drewN ?_ _ | refine blk_drew ?_ | refine blk_alloc ?_ _)); exact BK281.out) hb); have n1_ := Aside0.mk (below_step (by repeat (first | (with_reducible first | exact HB.out | apply below_alloc | apply pw_below_drewN | apply below_drew1 | refine below_set ?_ GE281.out) | exact HB.out)) hb); have n2_ := Aside0.mk (hbox); have n3_ := Aside0.mk ((by rw [hg]; exact (below_size (by repeat (first | (with_reducible first | exact HB.out | apply below_alloc | apply pw_below_drewN | apply below_drew1 | refine below_set ?_ GE281.out) | exact HB.out))) : w.heap.size ≤ gb282)); have n4_ := Aside0.mk ((by rw [hg]; exact (below_size (by repeat (first | (with_reducible first | exact HB.out | apply below_alloc | apply pw_below_drewN | apply below_drew1 | refine below_set ?_ GE281.out) | exact HB.out))) : w.heap.size ≤ gb282)); have n5_ := Aside0.mk ((by rw [hg]; exact Nat.ne_of_lt (blk_lt (g := gb281) (o := .cells #[.int .i64 a0_0, .bool a0_1, .string a0_2, .int .i64 a0_3, .int .i64 a0_4] 32 (0, 0)) (by (with_reducible repeat (first | refine blk_drewN ?_ _ | refine blk_drew ?_ | refine blk_alloc ?_ _)); exact BK281.out)) : gb281 ≠ gb282)); have n6_ := Aside0.mk ((by rw [hg]; exact Nat.ne_of_gt (blk_lt (g := gb281) (o := .cells #[.int .i64 a0_0, .bool a0_1, .string a0_2, .int .i64 a0_3, .int .i64 a0_4] 32 (0, 0)) (by (with_reducible repeat (first | refine blk_drewN ?_ _ | refine blk_drew ?_ | refine blk_alloc ?_ _)); exact BK281.out)) : gb282 ≠ gb281)); clear BK281; clear HB; have BK281 := n0_; have HB := n1_; have BK282 := n2_; have GW282 := n3_; have GE282 := n4_; have NB281_282 := n5_; have NB282_281 := n6_; clear n0_ n1_ n2_ n3_ n4_ n5_ n6_; clear hb hbox hg))
    have n0_ := Aside0.mk (blk_drew BK281.out)
    have n1_ := Aside0.mk (blk_drew BK282.out)
    have n2_ := Aside0.mk (below_drew1 HB.out)
    clear BK281
    clear BK282
    clear HB
    have BK281 := n0_
    have BK282 := n1_
    have HB := n2_
    clear n0_ n1_ n2_
    refine start_ (n := 10) (S := fun w' => w'.cell? ⟨gb281, 0, none⟩ = some (.int .i64 a0_0) ∧ w'.cell? ⟨gb281, 1, none⟩ = some (.bool a0_1) ∧ w'.cell? ⟨gb281, 2, none⟩ = some (.string a0_2) ∧ w'.cell? ⟨gb281, 3, none⟩ = some (.int .i64 a0_3) ∧ w'.cell? ⟨gb281, 4, none⟩ = some (.int .i64 a0_4)) (ds := []) #[false, false, false, false, false, false, false, false, false, false] (by kernel_rfl) rfl rfl ⟨(blk_cell BK281.out 0).trans rfl, (blk_cell BK281.out 1).trans rfl, (blk_cell BK281.out 2).trans rfl, (blk_cell BK281.out 3).trans rfl, (blk_cell BK281.out 4).trans rfl⟩ (fun hHeld => ?_); refine with_tabW reply_Of.tab1 reply_Of.bits1 (fun HT_ HW_ => ?_)
    generalize w8.drew = w9 at BK281 BK282 HB hHeld ⊢
    refine pure_ (i := 0) (N := some 7) (v := ?_) (a' := ?_) #[true, false, false, false, false, false, false, false, false, false] rfl rfl (any_of HT_.out (by kernel_rfl)) (fun _ _ _ h => h) (Or.inl ⟨by rfl, ?_⟩) ?_ ?_
    rotate_left
    · intro w'
      go_simp
      with_reducible rfl
    rotate_left
    · simp only [Act.put, List.setIfInBounds_toArray, List.set_cons_zero, List.set_cons_succ, i64_w, i32_w]
      rfl
    refine pure_ (i := 2) (N := some 9) (v := ?_) (a' := ?_) #[true, false, true, false, false, false, false, false, false, false] rfl rfl (any_of HT_.out (by kernel_rfl)) (fun _ _ _ h => h) (Or.inl ⟨by rfl, ?_⟩) ?_ ?_
    rotate_left
    · intro w'
      go_simp
      with_reducible rfl
    rotate_left
    · simp only [Act.put, List.setIfInBounds_toArray, List.set_cons_zero, List.set_cons_succ, i64_w, i32_w]
      rfl
    refine pure_ (i := 4) (N := some 11) (v := ?_) (a' := ?_) #[true, false, true, false, true, false, false, false, false, false] rfl rfl (any_of HT_.out (by kernel_rfl)) (fun _ _ _ h => h) (Or.inl ⟨by rfl, ?_⟩) ?_ ?_
    rotate_left
    · intro w'
      go_simp
      with_reducible rfl
    rotate_left
    · simp only [Act.put, List.setIfInBounds_toArray, List.set_cons_zero, List.set_cons_succ, i64_w, i32_w]
      rfl
    refine pure_ (i := 6) (N := some 13) (v := ?_) (a' := ?_) #[true, false, true, false, true, false, true, false, false, false] rfl rfl (any_of HT_.out (by kernel_rfl)) (fun _ _ _ h => h) (Or.inl ⟨by rfl, ?_⟩) ?_ ?_
    rotate_left
    · intro w'
      go_simp
      with_reducible rfl
    rotate_left
    · simp only [Act.put, List.setIfInBounds_toArray, List.set_cons_zero, List.set_cons_succ, i64_w, i32_w]
      rfl
    refine take_ (i := 1) (N := some 8) (v := ?_) (a' := ?_) #[true, true, true, false, true, false, true, false, false, false] rfl rfl (take_ofW HT_.out HW_.out (by kernel_rfl)) (fun _ _ _ h => h) (Or.inl ⟨by rfl, ?_⟩) hHeld ?_ ?_
    rotate_left
    · rintro w' ⟨s0, s1, s2, s3, s4⟩
      go_simp
      with_reducible rfl
    rotate_left
    · simp only [Act.put, List.setIfInBounds_toArray, List.set_cons_zero, List.set_cons_succ, i64_w, i32_w]
      rfl
    refine take_ (i := 5) (N := some 12) (v := ?_) (a' := ?_) #[true, true, true, false, true, true, true, false, false, false] rfl rfl (take_ofW HT_.out HW_.out (by kernel_rfl)) (fun _ _ _ h => h) (Or.inl ⟨by rfl, ?_⟩) hHeld ?_ ?_
    rotate_left
    · rintro w' ⟨s0, s1, s2, s3, s4⟩
      go_simp
      with_reducible rfl
    rotate_left
    · simp only [Act.put, List.setIfInBounds_toArray, List.set_cons_zero, List.set_cons_succ, i64_w, i32_w]
      rfl
    refine one_ (i := 3) (N := some 10) #[true, true, true, true, true, true, true, false, false, false] rfl rfl (one_of HT_.out (by kernel_rfl)) (by decide) (fun K hK => ?_)
    refine goes_ Try.func38 (by kernel_rfl) rfl #[.int .i64 a0_0, .int .i64 a1] (by rfl) rfl rfl (by (try simp only [List.map_toArray, List.map_cons, List.map_nil]); first | done | rfl | (simp only [List.length_drop, List.length_take]; rfl)) ?_
    with_reducible refine (version_Tag.calls k a0_0 a1 t283 _ A3.out).mono ?_
    rintro e w10 ⟨rfl, hb⟩
    refine ⟨_, rfl, ?_⟩
    have n0_ := Aside0.mk (blk_below (g := gb281) (o := .cells #[.int .i64 a0_0, .bool a0_1, .string a0_2, .int .i64 a0_3, .int .i64 a0_4] 32 (0, 0)) (by (with_reducible repeat (first | refine blk_drewN ?_ _ | refine blk_drew ?_ | refine blk_alloc ?_ _)); exact BK281.out) hb)
    have n1_ := Aside0.mk (blk_below (g := gb282) (o := .cells #[.int .i64 0, .string (⟨#[]⟩ : ByteArray), .int .i64 0, .string (⟨#[]⟩ : ByteArray), .slice none 0 0] 40 (0, 0)) (by (with_reducible repeat (first | refine blk_drewN ?_ _ | refine blk_drew ?_ | refine blk_alloc ?_ _)); exact BK282.out) hb)
    have n2_ := Aside0.mk (below_step (by repeat (first | (with_reducible first | exact HB.out | apply below_alloc | apply pw_below_drewN | apply below_drew1 | refine below_set ?_ GE281.out | refine below_set ?_ GE282.out) | exact HB.out)) hb)
    clear BK281
    clear BK282
    clear HB
    have BK281 := n0_
    have BK282 := n1_
    have HB := n2_
    clear n0_ n1_ n2_
    (try clear hb)
    (try clear hb2)
    (try clear hk)
    (try clear hi)
    refine hK.out _ _ ⟨(blk_cell BK281.out 0).trans rfl, (blk_cell BK281.out 1).trans rfl, (blk_cell BK281.out 2).trans rfl, (blk_cell BK281.out 3).trans rfl, (blk_cell BK281.out 4).trans rfl⟩ (fun hHeld => ?_)
    clear hK K
    refine norm_ (a' := ?_) ?_ ?_
    rotate_left
    · show Act.put _ (some 10) _ = _
      simp only [Act.put, List.setIfInBounds_toArray, List.set_cons_zero, List.set_cons_succ, i64_w, i32_w]
      rfl
    refine one_ (i := 7) (N := some 14) #[true, true, true, true, true, true, true, true, false, false] rfl rfl (one_of HT_.out (by kernel_rfl)) (by decide) (fun K hK => ?_)
    refine goes_ Try.func39 (by kernel_rfl) rfl #[.int .i64 a0_0, .int .i64 a1] (by rfl) rfl rfl (by (try simp only [List.map_toArray, List.map_cons, List.map_nil]); first | done | rfl | (simp only [List.length_drop, List.length_take]; rfl)) ?_
    with_reducible refine (version_Length.calls a0_0 a1 t284 _ A4.out).mono ?_
    rintro e w' ⟨rfl, ⟨nd, rfl⟩⟩
    refine ⟨_, rfl, ?_⟩
    refine hK.out _ _ ⟨(blk_cell BK281.out 0).trans rfl, (blk_cell BK281.out 1).trans rfl, (blk_cell BK281.out 2).trans rfl, (blk_cell BK281.out 3).trans rfl, (blk_cell BK281.out 4).trans rfl⟩ (fun hHeld => ?_)
    clear hK K
    refine norm_ (a' := ?_) ?_ ?_
    rotate_left
    · show Act.put _ (some 14) _ = _
      simp only [Act.put, List.setIfInBounds_toArray, List.set_cons_zero, List.set_cons_succ, i64_w, i32_w]
      rfl
    refine pure_ (i := 8) (N := some 5) (v := ?_) (a' := ?_) #[true, true, true, true, true, true, true, true, true, false] rfl rfl (any_of HT_.out (by kernel_rfl)) (fun _ _ _ h => h) (Or.inl ⟨by rfl, ?_⟩) ?_ ?_
    rotate_left
    · intro w'
      go_simp
      with_reducible rfl
    rotate_left
    · simp only [Act.put, List.setIfInBounds_toArray, List.set_cons_zero, List.set_cons_succ, i64_w, i32_w]
      rfl
    refine pure_ (i := 9) (N := some 6) (v := ?_) (a' := ?_) #[true, true, true, true, true, true, true, true, true, true] rfl rfl (any_of HT_.out (by kernel_rfl)) (fun _ _ _ h => h) (Or.inl ⟨by rfl, ?_⟩) ?_ ?_
    rotate_left
    · intro w'
      go_simp
      with_reducible rfl
    rotate_left
    · simp only [Act.put, List.setIfInBounds_toArray, List.set_cons_zero, List.set_cons_succ, i64_w, i32_w]
      rfl
    refine done_ (done_of HT_.out (by kernel_rfl)) ?_
    try go_wp2_with (first | ((with_reducible refine gate_callee (f := 40) rfl ?_); refine goesL_ (some 18) rfl rfl Try.func40 (by kernel_rfl) rfl #[] rfl (by (try simp only [List.map_toArray, List.map_cons, List.map_nil]); first | done | rfl | (simp only [List.length_drop, List.length_take]; rfl)) ?_; (with_reducible refine (reply_Gone.calls  t285 t286 t287 t288 t289 _ A6.out).mono ?_); rintro e w11 ⟨v290, rfl, ho0, hb⟩; refine ⟨_, rfl, ?_⟩; have n0_ := Aside0.mk (Kd.R_lower ho0 (below_size (by repeat (first | (with_reducible first | exact HB.out | apply below_alloc | apply pw_below_drewN | apply below_drew1 | refine below_set ?_ GE281.out | refine below_set ?_ GE282.out) | exact HB.out)))); have n1_ := Aside0.mk (blk_below (g := gb281) (o := .cells #[.int .i64 a0_0, .bool a0_1, .string a0_2, .int .i64 a0_3, .int .i64 a0_4] 32 (0, 0)) (by (with_reducible repeat (first | refine blk_drewN ?_ _ | refine blk_drew ?_ | refine blk_alloc ?_ _)); exact BK281.out) hb); have n2_ := Aside0.mk (blk_below (g := gb282) (o := .cells #[.int .i64 0, .string (⟨#[]⟩ : ByteArray), .int .i64 0, .string (⟨#[]⟩ : ByteArray), .slice none 0 0] 40 (0, 0)) (by (with_reducible repeat (first | refine blk_drewN ?_ _ | refine blk_drew ?_ | refine blk_alloc ?_ _)); exact BK282.out) hb); have n3_ := Aside0.mk (below_step (by repeat (first | (with_reducible first | exact HB.out | apply below_alloc | apply pw_below_drewN | apply below_drew1 | refine below_set ?_ GE281.out | refine below_set ?_ GE282.out) | exact HB.out)) hb); clear BK281; clear BK282; clear HB; have HO291 := n0_; have BK281 := n1_; have BK282 := n2_; have HB := n3_; clear n0_ n1_ n2_ n3_; (try clear hb); (try clear hb2); (try clear hk); (try clear hi); (try clear ho0); have hnb12 := NB282_281.out; have hnc12 := NB281_282.out; have hcz13_0 : w11.cell? ⟨gb282, 0, none⟩ = some (.int .i64 0) := (blk_cell BK282.out 0).trans rfl; have hcz13_1 : w11.cell? ⟨gb282, 1, none⟩ = some (.string (⟨#[]⟩ : ByteArray)) := (blk_cell BK282.out 1).trans rfl; have hcz13_2 : w11.cell? ⟨gb282, 2, none⟩ = some (.int .i64 0) := (blk_cell BK282.out 2).trans rfl; have hcz13_3 : w11.cell? ⟨gb282, 3, none⟩ = some (.string (⟨#[]⟩ : ByteArray)) := (blk_cell BK282.out 3).trans rfl; have hcz13_4 : w11.cell? ⟨gb282, 4, none⟩ = some (.slice none 0 0) := (blk_cell BK282.out 4).trans rfl; have hfz13_0 := blk_frozen BK282.out 0; have hfz13_1 := blk_frozen BK282.out 1; have hfz13_2 := blk_frozen BK282.out 2; have hfz13_3 := blk_frozen BK282.out 3; have hfz13_4 := blk_frozen BK282.out 4; obtain ⟨Ao14, co14, eo14⟩ := Kd.R_slice HO291.out; subst eo14))
    refine bodyPost_ret (results_cell_row rfl _ _ gb282 40 #[.int .i64 t285, .string t286, .int .i64 t287, .string t288, .slice Ao14 t289.length co14] (0, 0) _ rfl (by (with_reducible repeat (first | refine blk_drewN ?_ _ | refine blk_drew ?_ | refine blk_alloc ?_ _)); refine blk_put (cs := #[.int .i64 t285, .string t286, .int .i64 t287, .string t288, .slice none 0 0]) ?_ 4 _ rfl; (with_reducible repeat (first | refine blk_drewN ?_ _ | refine blk_drew ?_ | refine blk_alloc ?_ _)); refine blk_put (cs := #[.int .i64 t285, .string t286, .int .i64 t287, .string (⟨#[]⟩ : ByteArray), .slice none 0 0]) ?_ 3 _ rfl; (with_reducible repeat (first | refine blk_drewN ?_ _ | refine blk_drew ?_ | refine blk_alloc ?_ _)); refine blk_put (cs := #[.int .i64 t285, .string t286, .int .i64 0, .string (⟨#[]⟩ : ByteArray), .slice none 0 0]) ?_ 2 _ rfl; (with_reducible repeat (first | refine blk_drewN ?_ _ | refine blk_drew ?_ | refine blk_alloc ?_ _)); refine blk_put (cs := #[.int .i64 t285, .string (⟨#[]⟩ : ByteArray), .int .i64 0, .string (⟨#[]⟩ : ByteArray), .slice none 0 0]) ?_ 1 _ rfl; (with_reducible repeat (first | refine blk_drewN ?_ _ | refine blk_drew ?_ | refine blk_alloc ?_ _)); refine blk_put (cs := #[.int .i64 0, .string (⟨#[]⟩ : ByteArray), .int .i64 0, .string (⟨#[]⟩ : ByteArray), .slice none 0 0]) ?_ 0 _ rfl; (with_reducible repeat (first | refine blk_drewN ?_ _ | refine blk_drew ?_ | refine blk_alloc ?_ _)); exact BK282.out) Try.underlying40 rfl (by kernel_rfl)) rfl ?_
    exact ⟨_, by first | rfl | (simp [errW_none, errW_some] <;> rfl) | (simp [*, errW_none, errW_some] <;> rfl), by (with_reducible repeat (first | apply Kd.R_alloc | apply Kd.R_drewN | apply Kd.R_drew)); exact Kd.R_mono (Kd.R_far (p := ⟨gb282, 4, none⟩) (Kd.R_far (p := ⟨gb282, 3, none⟩) (Kd.R_far (p := ⟨gb282, 2, none⟩) (Kd.R_far (p := ⟨gb282, 1, none⟩) (Kd.R_far (p := ⟨gb282, 0, none⟩) (Kd.R_types HO291.out BK282.out (by decide)) (fun _ hk => hk.2) (.int .i64 t285)) (fun _ hk => hk.2) (.string t286)) (fun _ hk => hk.2) (.int .i64 t287)) (fun _ hk => hk.2) (.string t288)) (fun _ hk => hk.2) (.slice Ao14 t289.length co14)) (fun _ hk => trivial), by repeat (first | (with_reducible first | exact HB.out | apply below_alloc | apply pw_below_drewN | apply below_drew1 | refine below_set ?_ GE281.out | refine below_set ?_ GE282.out) | exact HB.out)⟩
  · rw [if_neg c5] at H
    have c5b0 : (t283.toList == ([] : List UInt8)) = false := beq_eq_false_iff_ne.mpr c5
    have c5b1 : (t283.toList != ([] : List UInt8)) = true := bne_iff_ne.mpr c5
    by_cases c15 : a0_1 = true
    · subst c15
      have H1 : ((reply_head.f a0_0 true a0_2 a0_3 a0_4 t283 t284).bind fun bt292 => (some (bt292.1, bt292.2.1, bt292.2.2.1, bt292.2.2.2.1, bt292.2.2.2.2))) = some (r1, r2, r3, r4, r5) := by rw [if_pos rfl] at H; exact H
      clear H
      have H := H1
      clear H1
      replace H := Option.bind_eq_some_iff.mp H
      obtain ⟨⟨t292, t293, t294, t295, t296⟩, A160, H⟩ := H
      replace H : (some (t292, t293, t294, t295, t296)) = some (r1, r2, r3, r4, r5) := H
      have A16 := Aside0.mk A160
      clear A160
      simp only [Option.some.injEq, Prod.mk.injEq] at H
      obtain ⟨rfl, rfl, rfl, rfl, rfl⟩ := H
      go_enter Try.func28, Try.ntmps28
      try go_wp2_with (first | ((with_reducible refine gate_dst (N := 2) rfl ?_); refine box_event ?hg (N := 2) ?hd (cs := #[.int .i64 a0_0, .bool true, .string a0_2, .int .i64 a0_3, .int .i64 a0_4]) (t := 32) ?hr ?_; (case hd => rfl); (case hg => rfl); (case hr => first | (go_simp; done) | (go_simp; rfl)); intro gb281 hg w17 hbox hb; have n0_ := Aside0.mk (below_step (by repeat (first | (with_reducible first | exact HB.out | apply below_alloc | apply pw_below_drewN | apply below_drew1) | exact HB.out)) hb); have n1_ := Aside0.mk (hbox); have n2_ := Aside0.mk ((by rw [hg]; exact (below_size (by repeat (first | (with_reducible first | exact HB.out | apply below_alloc | apply pw_below_drewN | apply below_drew1) | exact HB.out))) : w.heap.size ≤ gb281)); have n3_ := Aside0.mk ((by rw [hg]; exact (below_size (by repeat (first | (with_reducible first | exact HB.out | apply below_alloc | apply pw_below_drewN | apply below_drew1) | exact HB.out))) : w.heap.size ≤ gb281)); clear HB; have HB := n0_; have BK281 := n1_; have GW281 := n2_; have GE281 := n3_; clear n0_ n1_ n2_ n3_; clear hb hbox hg) | ((with_reducible refine gate_dst (N := 4) rfl ?_); refine box_event ?hg (N := 4) ?hd (cs := #[.int .i64 0, .string (⟨#[]⟩ : ByteArray), .int .i64 0, .string (⟨#[]⟩ : ByteArray), .slice none 0 0]) (t := 40) ?hr ?_; (case hd => rfl); (case hg => rfl); (case hr => first | (go_simp; done) | (go_simp; rfl)); intro gb282 hg w18 hbox hb; have n0_ := Aside0.mk (blk_below (g := gb281) (o := .cells #[.int .i64 a0_0, .bool true, .string a0_2, .int .i64 a0_3, .int .i64 a0_4] 32 (0, 0)) (by (with_reducible repeat (first | refine blk_drewN ?_ _ | refine blk_drew ?_ | refine blk_alloc ?_ _)); exact BK281.out) hb); have n1_ := Aside0.mk (below_step (by repeat (first | (with_reducible first | exact HB.out | apply below_alloc | apply pw_below_drewN | apply below_drew1 | refine below_set ?_ GE281.out) | exact HB.out)) hb); have n2_ := Aside0.mk (hbox); have n3_ := Aside0.mk ((by rw [hg]; exact (below_size (by repeat (first | (with_reducible first | exact HB.out | apply below_alloc | apply pw_below_drewN | apply below_drew1 | refine below_set ?_ GE281.out) | exact HB.out))) : w.heap.size ≤ gb282)); have n4_ := Aside0.mk ((by rw [hg]; exact (below_size (by repeat (first | (with_reducible first | exact HB.out | apply below_alloc | apply pw_below_drewN | apply below_drew1 | refine below_set ?_ GE281.out) | exact HB.out))) : w.heap.size ≤ gb282)); have n5_ := Aside0.mk ((by rw [hg]; exact Nat.ne_of_lt (blk_lt (g := gb281) (o := .cells #[.int .i64 a0_0, .bool true, .string a0_2, .int .i64 a0_3, .int .i64 a0_4] 32 (0, 0)) (by (with_reducible repeat (first | refine blk_drewN ?_ _ | refine blk_drew ?_ | refine blk_alloc ?_ _)); exact BK281.out)) : gb281 ≠ gb282)); have n6_ := Aside0.mk ((by rw [hg]; exact Nat.ne_of_gt (blk_lt (g := gb281) (o := .cells #[.int .i64 a0_0, .bool true, .string a0_2, .int .i64 a0_3, .int .i64 a0_4] 32 (0, 0)) (by (with_reducible repeat (first | refine blk_drewN ?_ _ | refine blk_drew ?_ | refine blk_alloc ?_ _)); exact BK281.out)) : gb282 ≠ gb281)); clear BK281; clear HB; have BK281 := n0_; have HB := n1_; have BK282 := n2_; have GW282 := n3_; have GE282 := n4_; have NB281_282 := n5_; have NB282_281 := n6_; clear n0_ n1_ n2_ n3_ n4_ n5_ n6_; clear hb hbox hg))
      have n0_ := Aside0.mk (blk_drew BK281.out)
      have n1_ := Aside0.mk (blk_drew BK282.out)
      have n2_ := Aside0.mk (below_drew1 HB.out)
      clear BK281
      clear BK282
      clear HB
      have BK281 := n0_
      have BK282 := n1_
      have HB := n2_
      clear n0_ n1_ n2_
      refine start_ (n := 10) (S := fun w' => w'.cell? ⟨gb281, 0, none⟩ = some (.int .i64 a0_0) ∧ w'.cell? ⟨gb281, 1, none⟩ = some (.bool true) ∧ w'.cell? ⟨gb281, 2, none⟩ = some (.string a0_2) ∧ w'.cell? ⟨gb281, 3, none⟩ = some (.int .i64 a0_3) ∧ w'.cell? ⟨gb281, 4, none⟩ = some (.int .i64 a0_4)) (ds := []) #[false, false, false, false, false, false, false, false, false, false] (by kernel_rfl) rfl rfl ⟨(blk_cell BK281.out 0).trans rfl, (blk_cell BK281.out 1).trans rfl, (blk_cell BK281.out 2).trans rfl, (blk_cell BK281.out 3).trans rfl, (blk_cell BK281.out 4).trans rfl⟩ (fun hHeld => ?_); refine with_tabW reply_Of.tab1 reply_Of.bits1 (fun HT_ HW_ => ?_)
      generalize w18.drew = w19 at BK281 BK282 HB hHeld ⊢
      refine pure_ (i := 0) (N := some 7) (v := ?_) (a' := ?_) #[true, false, false, false, false, false, false, false, false, false] rfl rfl (any_of HT_.out (by kernel_rfl)) (fun _ _ _ h => h) (Or.inl ⟨by rfl, ?_⟩) ?_ ?_
      rotate_left
      · intro w'
        go_simp
        with_reducible rfl
      rotate_left
      · simp only [Act.put, List.setIfInBounds_toArray, List.set_cons_zero, List.set_cons_succ, i64_w, i32_w]
        rfl
      refine pure_ (i := 2) (N := some 9) (v := ?_) (a' := ?_) #[true, false, true, false, false, false, false, false, false, false] rfl rfl (any_of HT_.out (by kernel_rfl)) (fun _ _ _ h => h) (Or.inl ⟨by rfl, ?_⟩) ?_ ?_
      rotate_left
      · intro w'
        go_simp
        with_reducible rfl
      rotate_left
      · simp only [Act.put, List.setIfInBounds_toArray, List.set_cons_zero, List.set_cons_succ, i64_w, i32_w]
        rfl
      refine pure_ (i := 4) (N := some 11) (v := ?_) (a' := ?_) #[true, false, true, false, true, false, false, false, false, false] rfl rfl (any_of HT_.out (by kernel_rfl)) (fun _ _ _ h => h) (Or.inl ⟨by rfl, ?_⟩) ?_ ?_
      rotate_left
      · intro w'
        go_simp
        with_reducible rfl
      rotate_left
      · simp only [Act.put, List.setIfInBounds_toArray, List.set_cons_zero, List.set_cons_succ, i64_w, i32_w]
        rfl
      refine pure_ (i := 6) (N := some 13) (v := ?_) (a' := ?_) #[true, false, true, false, true, false, true, false, false, false] rfl rfl (any_of HT_.out (by kernel_rfl)) (fun _ _ _ h => h) (Or.inl ⟨by rfl, ?_⟩) ?_ ?_
      rotate_left
      · intro w'
        go_simp
        with_reducible rfl
      rotate_left
      · simp only [Act.put, List.setIfInBounds_toArray, List.set_cons_zero, List.set_cons_succ, i64_w, i32_w]
        rfl
      refine take_ (i := 1) (N := some 8) (v := ?_) (a' := ?_) #[true, true, true, false, true, false, true, false, false, false] rfl rfl (take_ofW HT_.out HW_.out (by kernel_rfl)) (fun _ _ _ h => h) (Or.inl ⟨by rfl, ?_⟩) hHeld ?_ ?_
      rotate_left
      · rintro w' ⟨s0, s1, s2, s3, s4⟩
        go_simp
        with_reducible rfl
      rotate_left
      · simp only [Act.put, List.setIfInBounds_toArray, List.set_cons_zero, List.set_cons_succ, i64_w, i32_w]
        rfl
      refine take_ (i := 5) (N := some 12) (v := ?_) (a' := ?_) #[true, true, true, false, true, true, true, false, false, false] rfl rfl (take_ofW HT_.out HW_.out (by kernel_rfl)) (fun _ _ _ h => h) (Or.inl ⟨by rfl, ?_⟩) hHeld ?_ ?_
      rotate_left
      · rintro w' ⟨s0, s1, s2, s3, s4⟩
        go_simp
        with_reducible rfl
      rotate_left
      · simp only [Act.put, List.setIfInBounds_toArray, List.set_cons_zero, List.set_cons_succ, i64_w, i32_w]
        rfl
      refine one_ (i := 3) (N := some 10) #[true, true, true, true, true, true, true, false, false, false] rfl rfl (one_of HT_.out (by kernel_rfl)) (by decide) (fun K hK => ?_)
      refine goes_ Try.func38 (by kernel_rfl) rfl #[.int .i64 a0_0, .int .i64 a1] (by rfl) rfl rfl (by (try simp only [List.map_toArray, List.map_cons, List.map_nil]); first | done | rfl | (simp only [List.length_drop, List.length_take]; rfl)) ?_
      with_reducible refine (version_Tag.calls k a0_0 a1 t283 _ A3.out).mono ?_
      rintro e w20 ⟨rfl, hb⟩
      refine ⟨_, rfl, ?_⟩
      have n0_ := Aside0.mk (blk_below (g := gb281) (o := .cells #[.int .i64 a0_0, .bool true, .string a0_2, .int .i64 a0_3, .int .i64 a0_4] 32 (0, 0)) (by (with_reducible repeat (first | refine blk_drewN ?_ _ | refine blk_drew ?_ | refine blk_alloc ?_ _)); exact BK281.out) hb)
      have n1_ := Aside0.mk (blk_below (g := gb282) (o := .cells #[.int .i64 0, .string (⟨#[]⟩ : ByteArray), .int .i64 0, .string (⟨#[]⟩ : ByteArray), .slice none 0 0] 40 (0, 0)) (by (with_reducible repeat (first | refine blk_drewN ?_ _ | refine blk_drew ?_ | refine blk_alloc ?_ _)); exact BK282.out) hb)
      have n2_ := Aside0.mk (below_step (by repeat (first | (with_reducible first | exact HB.out | apply below_alloc | apply pw_below_drewN | apply below_drew1 | refine below_set ?_ GE281.out | refine below_set ?_ GE282.out) | exact HB.out)) hb)
      clear BK281
      clear BK282
      clear HB
      have BK281 := n0_
      have BK282 := n1_
      have HB := n2_
      clear n0_ n1_ n2_
      (try clear hb)
      (try clear hb2)
      (try clear hk)
      (try clear hi)
      refine hK.out _ _ ⟨(blk_cell BK281.out 0).trans rfl, (blk_cell BK281.out 1).trans rfl, (blk_cell BK281.out 2).trans rfl, (blk_cell BK281.out 3).trans rfl, (blk_cell BK281.out 4).trans rfl⟩ (fun hHeld => ?_)
      clear hK K
      refine norm_ (a' := ?_) ?_ ?_
      rotate_left
      · show Act.put _ (some 10) _ = _
        simp only [Act.put, List.setIfInBounds_toArray, List.set_cons_zero, List.set_cons_succ, i64_w, i32_w]
        rfl
      refine one_ (i := 7) (N := some 14) #[true, true, true, true, true, true, true, true, false, false] rfl rfl (one_of HT_.out (by kernel_rfl)) (by decide) (fun K hK => ?_)
      refine goes_ Try.func39 (by kernel_rfl) rfl #[.int .i64 a0_0, .int .i64 a1] (by rfl) rfl rfl (by (try simp only [List.map_toArray, List.map_cons, List.map_nil]); first | done | rfl | (simp only [List.length_drop, List.length_take]; rfl)) ?_
      with_reducible refine (version_Length.calls a0_0 a1 t284 _ A4.out).mono ?_
      rintro e w' ⟨rfl, ⟨nd, rfl⟩⟩
      refine ⟨_, rfl, ?_⟩
      refine hK.out _ _ ⟨(blk_cell BK281.out 0).trans rfl, (blk_cell BK281.out 1).trans rfl, (blk_cell BK281.out 2).trans rfl, (blk_cell BK281.out 3).trans rfl, (blk_cell BK281.out 4).trans rfl⟩ (fun hHeld => ?_)
      clear hK K
      refine norm_ (a' := ?_) ?_ ?_
      rotate_left
      · show Act.put _ (some 14) _ = _
        simp only [Act.put, List.setIfInBounds_toArray, List.set_cons_zero, List.set_cons_succ, i64_w, i32_w]
        rfl
      refine pure_ (i := 8) (N := some 5) (v := ?_) (a' := ?_) #[true, true, true, true, true, true, true, true, true, false] rfl rfl (any_of HT_.out (by kernel_rfl)) (fun _ _ _ h => h) (Or.inl ⟨by rfl, ?_⟩) ?_ ?_
      rotate_left
      · intro w'
        go_simp
        with_reducible rfl
      rotate_left
      · simp only [Act.put, List.setIfInBounds_toArray, List.set_cons_zero, List.set_cons_succ, i64_w, i32_w]
        rfl
      refine pure_ (i := 9) (N := some 6) (v := ?_) (a' := ?_) #[true, true, true, true, true, true, true, true, true, true] rfl rfl (any_of HT_.out (by kernel_rfl)) (fun _ _ _ h => h) (Or.inl ⟨by rfl, ?_⟩) ?_ ?_
      rotate_left
      · intro w'
        go_simp
        with_reducible rfl
      rotate_left
      · simp only [Act.put, List.setIfInBounds_toArray, List.set_cons_zero, List.set_cons_succ, i64_w, i32_w]
        rfl
      refine done_ (done_of HT_.out (by kernel_rfl)) ?_
      have hnb21 := NB281_282.out
      have hnc21 := NB282_281.out
      have hcz22_0 : w20.cell? ⟨gb281, 0, none⟩ = some (.int .i64 a0_0) := (blk_cell BK281.out 0).trans rfl
      have hcz22_1 : w20.cell? ⟨gb281, 1, none⟩ = some (.bool true) := (blk_cell BK281.out 1).trans rfl
      have hcz22_2 : w20.cell? ⟨gb281, 2, none⟩ = some (.string a0_2) := (blk_cell BK281.out 2).trans rfl
      have hcz22_3 : w20.cell? ⟨gb281, 3, none⟩ = some (.int .i64 a0_3) := (blk_cell BK281.out 3).trans rfl
      have hcz22_4 : w20.cell? ⟨gb281, 4, none⟩ = some (.int .i64 a0_4) := (blk_cell BK281.out 4).trans rfl
      have hfz22_0 := blk_frozen BK281.out 0
      have hfz22_1 := blk_frozen BK281.out 1
      have hfz22_2 := blk_frozen BK281.out 2
      have hfz22_3 := blk_frozen BK281.out 3
      have hfz22_4 := blk_frozen BK281.out 4
      try go_wp2_with (first | ((with_reducible refine gate_callee (f := 41) rfl ?_); refine goesL_ (some 25) rfl rfl Try.func41 (by kernel_rfl) rfl #[.agg #[.int .i64 a0_0, .bool true, .string a0_2, .int .i64 a0_3, .int .i64 a0_4], .string t283, .int .i64 t284] rfl (by (try simp only [List.map_toArray, List.map_cons, List.map_nil]); first | done | rfl | (simp only [List.length_drop, List.length_take]; rfl)) ?_; (with_reducible refine (reply_head.calls a0_0 true a0_2 a0_3 a0_4 t283 t284 t292 t293 t294 t295 t296 _ A16.out).mono ?_); rintro e w23 ⟨v297, rfl, ho0, hb⟩; refine ⟨_, rfl, ?_⟩; have n0_ := Aside0.mk (Kd.R_lower ho0 (below_size (by repeat (first | (with_reducible first | exact HB.out | apply below_alloc | apply pw_below_drewN | apply below_drew1 | refine below_set ?_ GE281.out | refine below_set ?_ GE282.out) | exact HB.out)))); have n1_ := Aside0.mk (blk_below (g := gb281) (o := .cells #[.int .i64 a0_0, .bool true, .string a0_2, .int .i64 a0_3, .int .i64 a0_4] 32 (0, 0)) (by (with_reducible repeat (first | refine blk_drewN ?_ _ | refine blk_drew ?_ | refine blk_alloc ?_ _)); exact BK281.out) hb); have n2_ := Aside0.mk (blk_below (g := gb282) (o := .cells #[.int .i64 0, .string (⟨#[]⟩ : ByteArray), .int .i64 0, .string (⟨#[]⟩ : ByteArray), .slice none 0 0] 40 (0, 0)) (by (with_reducible repeat (first | refine blk_drewN ?_ _ | refine blk_drew ?_ | refine blk_alloc ?_ _)); exact BK282.out) hb); have n3_ := Aside0.mk (below_step (by repeat (first | (with_reducible first | exact HB.out | apply below_alloc | apply pw_below_drewN | apply below_drew1 | refine below_set ?_ GE281.out | refine below_set ?_ GE282.out) | exact HB.out)) hb); clear BK281; clear BK282; clear HB; have HO298 := n0_; have BK281 := n1_; have BK282 := n2_; have HB := n3_; clear n0_ n1_ n2_ n3_; (try clear hb); (try clear hb2); (try clear hk); (try clear hi); (try clear ho0); have hcz24_0 : w23.cell? ⟨gb282, 0, none⟩ = some (.int .i64 0) := (blk_cell BK282.out 0).trans rfl; have hcz24_1 : w23.cell? ⟨gb282, 1, none⟩ = some (.string (⟨#[]⟩ : ByteArray)) := (blk_cell BK282.out 1).trans rfl; have hcz24_2 : w23.cell? ⟨gb282, 2, none⟩ = some (.int .i64 0) := (blk_cell BK282.out 2).trans rfl; have hcz24_3 : w23.cell? ⟨gb282, 3, none⟩ = some (.string (⟨#[]⟩ : ByteArray)) := (blk_cell BK282.out 3).trans rfl; have hcz24_4 : w23.cell? ⟨gb282, 4, none⟩ = some (.slice none 0 0) := (blk_cell BK282.out 4).trans rfl; have hfz24_0 := blk_frozen BK282.out 0; have hfz24_1 := blk_frozen BK282.out 1; have hfz24_2 := blk_frozen BK282.out 2; have hfz24_3 := blk_frozen BK282.out 3; have hfz24_4 := blk_frozen BK282.out 4; obtain ⟨Ao25, co25, eo25⟩ := Kd.R_slice HO298.out; subst eo25))
      refine bodyPost_ret (results_cell_row rfl _ _ gb282 40 #[.int .i64 t292, .string t293, .int .i64 t294, .string t295, .slice Ao25 t296.length co25] (0, 0) _ rfl (by (with_reducible repeat (first | refine blk_drewN ?_ _ | refine blk_drew ?_ | refine blk_alloc ?_ _)); refine blk_put (cs := #[.int .i64 t292, .string t293, .int .i64 t294, .string t295, .slice none 0 0]) ?_ 4 _ rfl; (with_reducible repeat (first | refine blk_drewN ?_ _ | refine blk_drew ?_ | refine blk_alloc ?_ _)); refine blk_put (cs := #[.int .i64 t292, .string t293, .int .i64 t294, .string (⟨#[]⟩ : ByteArray), .slice none 0 0]) ?_ 3 _ rfl; (with_reducible repeat (first | refine blk_drewN ?_ _ | refine blk_drew ?_ | refine blk_alloc ?_ _)); refine blk_put (cs := #[.int .i64 t292, .string t293, .int .i64 0, .string (⟨#[]⟩ : ByteArray), .slice none 0 0]) ?_ 2 _ rfl; (with_reducible repeat (first | refine blk_drewN ?_ _ | refine blk_drew ?_ | refine blk_alloc ?_ _)); refine blk_put (cs := #[.int .i64 t292, .string (⟨#[]⟩ : ByteArray), .int .i64 0, .string (⟨#[]⟩ : ByteArray), .slice none 0 0]) ?_ 1 _ rfl; (with_reducible repeat (first | refine blk_drewN ?_ _ | refine blk_drew ?_ | refine blk_alloc ?_ _)); refine blk_put (cs := #[.int .i64 0, .string (⟨#[]⟩ : ByteArray), .int .i64 0, .string (⟨#[]⟩ : ByteArray), .slice none 0 0]) ?_ 0 _ rfl; (with_reducible repeat (first | refine blk_drewN ?_ _ | refine blk_drew ?_ | refine blk_alloc ?_ _)); exact BK282.out) Try.underlying40 rfl (by kernel_rfl)) rfl ?_
      exact ⟨_, by first | rfl | (simp [errW_none, errW_some] <;> rfl) | (simp [*, errW_none, errW_some] <;> rfl), by (with_reducible repeat (first | apply Kd.R_alloc | apply Kd.R_drewN | apply Kd.R_drew)); exact Kd.R_mono (Kd.R_far (p := ⟨gb282, 4, none⟩) (Kd.R_far (p := ⟨gb282, 3, none⟩) (Kd.R_far (p := ⟨gb282, 2, none⟩) (Kd.R_far (p := ⟨gb282, 1, none⟩) (Kd.R_far (p := ⟨gb282, 0, none⟩) (Kd.R_types HO298.out BK282.out (by decide)) (fun _ hk => hk.2) (.int .i64 t292)) (fun _ hk => hk.2) (.string t293)) (fun _ hk => hk.2) (.int .i64 t294)) (fun _ hk => hk.2) (.string t295)) (fun _ hk => hk.2) (.slice Ao25 t296.length co25)) (fun _ hk => trivial), by repeat (first | (with_reducible first | exact HB.out | apply below_alloc | apply pw_below_drewN | apply below_drew1 | refine below_set ?_ GE281.out | refine below_set ?_ GE282.out) | exact HB.out)⟩
    · replace c15 := Bool.eq_false_iff.mpr c15
      subst c15
      have H1 : (if a0_2.toList = t283.toList then ((span_Right.f a0_3 a0_4).bind fun t299 => (if t299 = true then (reply_Of.j0 k a1 t283 t284 (decide (a0_4 > t284)) a0_0 false a0_2 a0_3 a0_4) else (reply_Of.j0 k a1 t283 t284 true a0_0 false a0_2 a0_3 a0_4))) else (some (412, t283, 0, (⟨#[]⟩ : ByteArray), ([] : List Int)))) = some (r1, r2, r3, r4, r5) := by rw [if_neg (show ¬ (false = true) by decide)] at H; exact H
      clear H
      have H := H1
      clear H1
      by_cases c26 : a0_2.toList = t283.toList
      · rw [if_pos c26] at H
        have c26b0 : (a0_2.toList == t283.toList) = true := beq_iff_eq.mpr c26
        have c26b1 : (a0_2.toList != t283.toList) = false := bne_eq_false_iff_eq.mpr c26
        clear c26
        have HC27 := Aside0.mk H
        clear H
        go_enter Try.func28, Try.ntmps28
        try go_wp2_with (first | ((with_reducible refine gate_dst (N := 2) rfl ?_); refine box_event ?hg (N := 2) ?hd (cs := #[.int .i64 a0_0, .bool false, .string a0_2, .int .i64 a0_3, .int .i64 a0_4]) (t := 32) ?hr ?_; (case hd => rfl); (case hg => rfl); (case hr => first | (go_simp; done) | (go_simp; rfl)); intro gb281 hg w28 hbox hb; have n0_ := Aside0.mk (below_step (by repeat (first | (with_reducible first | exact HB.out | apply below_alloc | apply pw_below_drewN | apply below_drew1) | exact HB.out)) hb); have n1_ := Aside0.mk (hbox); have n2_ := Aside0.mk ((by rw [hg]; exact (below_size (by repeat (first | (with_reducible first | exact HB.out | apply below_alloc | apply pw_below_drewN | apply below_drew1) | exact HB.out))) : w.heap.size ≤ gb281)); have n3_ := Aside0.mk ((by rw [hg]; exact (below_size (by repeat (first | (with_reducible first | exact HB.out | apply below_alloc | apply pw_below_drewN | apply below_drew1) | exact HB.out))) : w.heap.size ≤ gb281)); clear HB; have HB := n0_; have BK281 := n1_; have GW281 := n2_; have GE281 := n3_; clear n0_ n1_ n2_ n3_; clear hb hbox hg) | ((with_reducible refine gate_dst (N := 4) rfl ?_); refine box_event ?hg (N := 4) ?hd (cs := #[.int .i64 0, .string (⟨#[]⟩ : ByteArray), .int .i64 0, .string (⟨#[]⟩ : ByteArray), .slice none 0 0]) (t := 40) ?hr ?_; (case hd => rfl); (case hg => rfl); (case hr => first | (go_simp; done) | (go_simp; rfl)); intro gb282 hg w29 hbox hb; have n0_ := Aside0.mk (blk_below (g := gb281) (o := .cells #[.int .i64 a0_0, .bool false, .string a0_2, .int .i64 a0_3, .int .i64 a0_4] 32 (0, 0)) (by (with_reducible repeat (first | refine blk_drewN ?_ _ | refine blk_drew ?_ | refine blk_alloc ?_ _)); exact BK281.out) hb); have n1_ := Aside0.mk (below_step (by repeat (first | (with_reducible first | exact HB.out | apply below_alloc | apply pw_below_drewN | apply below_drew1 | refine below_set ?_ GE281.out) | exact HB.out)) hb); have n2_ := Aside0.mk (hbox); have n3_ := Aside0.mk ((by rw [hg]; exact (below_size (by repeat (first | (with_reducible first | exact HB.out | apply below_alloc | apply pw_below_drewN | apply below_drew1 | refine below_set ?_ GE281.out) | exact HB.out))) : w.heap.size ≤ gb282)); have n4_ := Aside0.mk ((by rw [hg]; exact (below_size (by repeat (first | (with_reducible first | exact HB.out | apply below_alloc | apply pw_below_drewN | apply below_drew1 | refine below_set ?_ GE281.out) | exact HB.out))) : w.heap.size ≤ gb282)); have n5_ := Aside0.mk ((by rw [hg]; exact Nat.ne_of_lt (blk_lt (g := gb281) (o := .cells #[.int .i64 a0_0, .bool false, .string a0_2, .int .i64 a0_3, .int .i64 a0_4] 32 (0, 0)) (by (with_reducible repeat (first | refine blk_drewN ?_ _ | refine blk_drew ?_ | refine blk_alloc ?_ _)); exact BK281.out)) : gb281 ≠ gb282)); have n6_ := Aside0.mk ((by rw [hg]; exact Nat.ne_of_gt (blk_lt (g := gb281) (o := .cells #[.int .i64 a0_0, .bool false, .string a0_2, .int .i64 a0_3, .int .i64 a0_4] 32 (0, 0)) (by (with_reducible repeat (first | refine blk_drewN ?_ _ | refine blk_drew ?_ | refine blk_alloc ?_ _)); exact BK281.out)) : gb282 ≠ gb281)); clear BK281; clear HB; have BK281 := n0_; have HB := n1_; have BK282 := n2_; have GW282 := n3_; have GE282 := n4_; have NB281_282 := n5_; have NB282_281 := n6_; clear n0_ n1_ n2_ n3_ n4_ n5_ n6_; clear hb hbox hg))
        have n0_ := Aside0.mk (blk_drew BK281.out)
        have n1_ := Aside0.mk (blk_drew BK282.out)
        have n2_ := Aside0.mk (below_drew1 HB.out)
        clear BK281
        clear BK282
        clear HB
        have BK281 := n0_
        have BK282 := n1_
        have HB := n2_
        clear n0_ n1_ n2_
        refine start_ (n := 10) (S := fun w' => w'.cell? ⟨gb281, 0, none⟩ = some (.int .i64 a0_0) ∧ w'.cell? ⟨gb281, 1, none⟩ = some (.bool false) ∧ w'.cell? ⟨gb281, 2, none⟩ = some (.string a0_2) ∧ w'.cell? ⟨gb281, 3, none⟩ = some (.int .i64 a0_3) ∧ w'.cell? ⟨gb281, 4, none⟩ = some (.int .i64 a0_4)) (ds := []) #[false, false, false, false, false, false, false, false, false, false] (by kernel_rfl) rfl rfl ⟨(blk_cell BK281.out 0).trans rfl, (blk_cell BK281.out 1).trans rfl, (blk_cell BK281.out 2).trans rfl, (blk_cell BK281.out 3).trans rfl, (blk_cell BK281.out 4).trans rfl⟩ (fun hHeld => ?_); refine with_tabW reply_Of.tab1 reply_Of.bits1 (fun HT_ HW_ => ?_)
        generalize w29.drew = w30 at BK281 BK282 HB hHeld ⊢
        refine pure_ (i := 0) (N := some 7) (v := ?_) (a' := ?_) #[true, false, false, false, false, false, false, false, false, false] rfl rfl (any_of HT_.out (by kernel_rfl)) (fun _ _ _ h => h) (Or.inl ⟨by rfl, ?_⟩) ?_ ?_
        rotate_left
        · intro w'
          go_simp
          with_reducible rfl
        rotate_left
        · simp only [Act.put, List.setIfInBounds_toArray, List.set_cons_zero, List.set_cons_succ, i64_w, i32_w]
          rfl
        refine pure_ (i := 2) (N := some 9) (v := ?_) (a' := ?_) #[true, false, true, false, false, false, false, false, false, false] rfl rfl (any_of HT_.out (by kernel_rfl)) (fun _ _ _ h => h) (Or.inl ⟨by rfl, ?_⟩) ?_ ?_
        rotate_left
        · intro w'
          go_simp
          with_reducible rfl
        rotate_left
        · simp only [Act.put, List.setIfInBounds_toArray, List.set_cons_zero, List.set_cons_succ, i64_w, i32_w]
          rfl
        refine pure_ (i := 4) (N := some 11) (v := ?_) (a' := ?_) #[true, false, true, false, true, false, false, false, false, false] rfl rfl (any_of HT_.out (by kernel_rfl)) (fun _ _ _ h => h) (Or.inl ⟨by rfl, ?_⟩) ?_ ?_
        rotate_left
        · intro w'
          go_simp
          with_reducible rfl
        rotate_left
        · simp only [Act.put, List.setIfInBounds_toArray, List.set_cons_zero, List.set_cons_succ, i64_w, i32_w]
          rfl
        refine pure_ (i := 6) (N := some 13) (v := ?_) (a' := ?_) #[true, false, true, false, true, false, true, false, false, false] rfl rfl (any_of HT_.out (by kernel_rfl)) (fun _ _ _ h => h) (Or.inl ⟨by rfl, ?_⟩) ?_ ?_
        rotate_left
        · intro w'
          go_simp
          with_reducible rfl
        rotate_left
        · simp only [Act.put, List.setIfInBounds_toArray, List.set_cons_zero, List.set_cons_succ, i64_w, i32_w]
          rfl
        refine take_ (i := 1) (N := some 8) (v := ?_) (a' := ?_) #[true, true, true, false, true, false, true, false, false, false] rfl rfl (take_ofW HT_.out HW_.out (by kernel_rfl)) (fun _ _ _ h => h) (Or.inl ⟨by rfl, ?_⟩) hHeld ?_ ?_
        rotate_left
        · rintro w' ⟨s0, s1, s2, s3, s4⟩
          go_simp
          with_reducible rfl
        rotate_left
        · simp only [Act.put, List.setIfInBounds_toArray, List.set_cons_zero, List.set_cons_succ, i64_w, i32_w]
          rfl
        refine take_ (i := 5) (N := some 12) (v := ?_) (a' := ?_) #[true, true, true, false, true, true, true, false, false, false] rfl rfl (take_ofW HT_.out HW_.out (by kernel_rfl)) (fun _ _ _ h => h) (Or.inl ⟨by rfl, ?_⟩) hHeld ?_ ?_
        rotate_left
        · rintro w' ⟨s0, s1, s2, s3, s4⟩
          go_simp
          with_reducible rfl
        rotate_left
        · simp only [Act.put, List.setIfInBounds_toArray, List.set_cons_zero, List.set_cons_succ, i64_w, i32_w]
          rfl
        refine one_ (i := 3) (N := some 10) #[true, true, true, true, true, true, true, false, false, false] rfl rfl (one_of HT_.out (by kernel_rfl)) (by decide) (fun K hK => ?_)
        refine goes_ Try.func38 (by kernel_rfl) rfl #[.int .i64 a0_0, .int .i64 a1] (by rfl) rfl rfl (by (try simp only [List.map_toArray, List.map_cons, List.map_nil]); first | done | rfl | (simp only [List.length_drop, List.length_take]; rfl)) ?_
        with_reducible refine (version_Tag.calls k a0_0 a1 t283 _ A3.out).mono ?_
        rintro e w31 ⟨rfl, hb⟩
        refine ⟨_, rfl, ?_⟩
        have n0_ := Aside0.mk (blk_below (g := gb281) (o := .cells #[.int .i64 a0_0, .bool false, .string a0_2, .int .i64 a0_3, .int .i64 a0_4] 32 (0, 0)) (by (with_reducible repeat (first | refine blk_drewN ?_ _ | refine blk_drew ?_ | refine blk_alloc ?_ _)); exact BK281.out) hb)
        have n1_ := Aside0.mk (blk_below (g := gb282) (o := .cells #[.int .i64 0, .string (⟨#[]⟩ : ByteArray), .int .i64 0, .string (⟨#[]⟩ : ByteArray), .slice none 0 0] 40 (0, 0)) (by (with_reducible repeat (first | refine blk_drewN ?_ _ | refine blk_drew ?_ | refine blk_alloc ?_ _)); exact BK282.out) hb)
        have n2_ := Aside0.mk (below_step (by repeat (first | (with_reducible first | exact HB.out | apply below_alloc | apply pw_below_drewN | apply below_drew1 | refine below_set ?_ GE281.out | refine below_set ?_ GE282.out) | exact HB.out)) hb)
        clear BK281
        clear BK282
        clear HB
        have BK281 := n0_
        have BK282 := n1_
        have HB := n2_
        clear n0_ n1_ n2_
        (try clear hb)
        (try clear hb2)
        (try clear hk)
        (try clear hi)
        refine hK.out _ _ ⟨(blk_cell BK281.out 0).trans rfl, (blk_cell BK281.out 1).trans rfl, (blk_cell BK281.out 2).trans rfl, (blk_cell BK281.out 3).trans rfl, (blk_cell BK281.out 4).trans rfl⟩ (fun hHeld => ?_)
        clear hK K
        refine norm_ (a' := ?_) ?_ ?_
        rotate_left
        · show Act.put _ (some 10) _ = _
          simp only [Act.put, List.setIfInBounds_toArray, List.set_cons_zero, List.set_cons_succ, i64_w, i32_w]
          rfl
        refine one_ (i := 7) (N := some 14) #[true, true, true, true, true, true, true, true, false, false] rfl rfl (one_of HT_.out (by kernel_rfl)) (by decide) (fun K hK => ?_)
        refine goes_ Try.func39 (by kernel_rfl) rfl #[.int .i64 a0_0, .int .i64 a1] (by rfl) rfl rfl (by (try simp only [List.map_toArray, List.map_cons, List.map_nil]); first | done | rfl | (simp only [List.length_drop, List.length_take]; rfl)) ?_
        with_reducible refine (version_Length.calls a0_0 a1 t284 _ A4.out).mono ?_
        rintro e w' ⟨rfl, ⟨nd, rfl⟩⟩
        refine ⟨_, rfl, ?_⟩
        refine hK.out _ _ ⟨(blk_cell BK281.out 0).trans rfl, (blk_cell BK281.out 1).trans rfl, (blk_cell BK281.out 2).trans rfl, (blk_cell BK281.out 3).trans rfl, (blk_cell BK281.out 4).trans rfl⟩ (fun hHeld => ?_)
        clear hK K
        refine norm_ (a' := ?_) ?_ ?_
        rotate_left
        · show Act.put _ (some 14) _ = _
          simp only [Act.put, List.setIfInBounds_toArray, List.set_cons_zero, List.set_cons_succ, i64_w, i32_w]
          rfl
        refine pure_ (i := 8) (N := some 5) (v := ?_) (a' := ?_) #[true, true, true, true, true, true, true, true, true, false] rfl rfl (any_of HT_.out (by kernel_rfl)) (fun _ _ _ h => h) (Or.inl ⟨by rfl, ?_⟩) ?_ ?_
        rotate_left
        · intro w'
          go_simp
          with_reducible rfl
        rotate_left
        · simp only [Act.put, List.setIfInBounds_toArray, List.set_cons_zero, List.set_cons_succ, i64_w, i32_w]
          rfl
        refine pure_ (i := 9) (N := some 6) (v := ?_) (a' := ?_) #[true, true, true, true, true, true, true, true, true, true] rfl rfl (any_of HT_.out (by kernel_rfl)) (fun _ _ _ h => h) (Or.inl ⟨by rfl, ?_⟩) ?_ ?_
        rotate_left
        · intro w'
          go_simp
          with_reducible rfl
        rotate_left
        · simp only [Act.put, List.setIfInBounds_toArray, List.set_cons_zero, List.set_cons_succ, i64_w, i32_w]
          rfl
        refine done_ (done_of HT_.out (by kernel_rfl)) ?_
        have hnb32 := NB281_282.out
        have hnc32 := NB282_281.out
        have hcz33_0 : w31.cell? ⟨gb281, 0, none⟩ = some (.int .i64 a0_0) := (blk_cell BK281.out 0).trans rfl
        have hcz33_1 : w31.cell? ⟨gb281, 1, none⟩ = some (.bool false) := (blk_cell BK281.out 1).trans rfl
        have hcz33_2 : w31.cell? ⟨gb281, 2, none⟩ = some (.string a0_2) := (blk_cell BK281.out 2).trans rfl
        have hcz33_3 : w31.cell? ⟨gb281, 3, none⟩ = some (.int .i64 a0_3) := (blk_cell BK281.out 3).trans rfl
        have hcz33_4 : w31.cell? ⟨gb281, 4, none⟩ = some (.int .i64 a0_4) := (blk_cell BK281.out 4).trans rfl
        have hfz33_0 := blk_frozen BK281.out 0
        have hfz33_1 := blk_frozen BK281.out 1
        have hfz33_2 := blk_frozen BK281.out 2
        have hfz33_3 := blk_frozen BK281.out 3
        have hfz33_4 := blk_frozen BK281.out 4
        go_upto_region 8 with (fail)
        go_cut [33] (fun v33 wc => ∃ (kq : Nat) (x33_26 : Bool), v33 = .bool x33_26 ∧ Aside0 (reply_Of.j0 kq a1 t283 t284 x33_26 a0_0 false a0_2 a0_3 a0_4 = some (r1, r2, r3, r4, r5)) ∧ Aside0 (kq ≤ k) ∧ Aside0 (wc.heap[gb281]? = some (.cells #[.int .i64 a0_0, .bool false, .string a0_2, .int .i64 a0_3, .int .i64 a0_4] 32 (0, 0))) ∧ Aside0 (wc.heap[gb282]? = some (.cells #[.int .i64 0, .string (⟨#[]⟩ : ByteArray), .int .i64 0, .string (⟨#[]⟩ : ByteArray), (.slice none 0 0)] 40 (0, 0))) ∧ Aside0 (Below w.heap.size w wc))
        case first =>
          have H := HC27.out
          clear HC27
          replace H := Option.bind_eq_some_iff.mp H
          obtain ⟨t299, A340, H⟩ := H
          replace H : (if t299 = true then (reply_Of.j0 k a1 t283 t284 (decide (a0_4 > t284)) a0_0 false a0_2 a0_3 a0_4) else (reply_Of.j0 k a1 t283 t284 true a0_0 false a0_2 a0_3 a0_4)) = some (r1, r2, r3, r4, r5) := H
          have A34 := Aside0.mk A340
          clear A340
          by_cases c35 : t299 = true
          · subst c35
            have H1 : (reply_Of.j0 k a1 t283 t284 (decide (a0_4 > t284)) a0_0 false a0_2 a0_3 a0_4) = some (r1, r2, r3, r4, r5) := by rw [if_pos rfl] at H; exact H
            clear H
            have H := H1
            clear H1
            have H' := Aside0.mk H
            clear H
            have hnb36 := NB281_282.out
            have hnc36 := NB282_281.out
            have hcz37_0 : w31.cell? ⟨gb281, 0, none⟩ = some (.int .i64 a0_0) := (blk_cell BK281.out 0).trans rfl
            have hcz37_1 : w31.cell? ⟨gb281, 1, none⟩ = some (.bool false) := (blk_cell BK281.out 1).trans rfl
            have hcz37_2 : w31.cell? ⟨gb281, 2, none⟩ = some (.string a0_2) := (blk_cell BK281.out 2).trans rfl
            have hcz37_3 : w31.cell? ⟨gb281, 3, none⟩ = some (.int .i64 a0_3) := (blk_cell BK281.out 3).trans rfl
            have hcz37_4 : w31.cell? ⟨gb281, 4, none⟩ = some (.int .i64 a0_4) := (blk_cell BK281.out 4).trans rfl
            have hfz37_0 := blk_frozen BK281.out 0
            have hfz37_1 := blk_frozen BK281.out 1
            have hfz37_2 := blk_frozen BK281.out 2
            have hfz37_3 := blk_frozen BK281.out 3
            have hfz37_4 := blk_frozen BK281.out 4
            go_wp2_with (first | ((with_reducible refine gate_callee (f := 42) rfl ?_); refine goesL_ (some 36) rfl rfl Try.func42 (by kernel_rfl) rfl #[.agg #[.int .i64 a0_3, .int .i64 a0_4]] rfl (by (try simp only [List.map_toArray, List.map_cons, List.map_nil]); first | done | rfl | (simp only [List.length_drop, List.length_take]; rfl)) ?_; (with_reducible refine (span_Right.calls a0_3 a0_4 true _ A34.out).mono ?_); rintro e w38 ⟨rfl, hb⟩; refine ⟨_, rfl, ?_⟩; have n0_ := Aside0.mk (blk_below (g := gb281) (o := .cells #[.int .i64 a0_0, .bool false, .string a0_2, .int .i64 a0_3, .int .i64 a0_4] 32 (0, 0)) (by (with_reducible repeat (first | refine blk_drewN ?_ _ | refine blk_drew ?_ | refine blk_alloc ?_ _)); exact BK281.out) hb); have n1_ := Aside0.mk (blk_below (g := gb282) (o := .cells #[.int .i64 0, .string (⟨#[]⟩ : ByteArray), .int .i64 0, .string (⟨#[]⟩ : ByteArray), .slice none 0 0] 40 (0, 0)) (by (with_reducible repeat (first | refine blk_drewN ?_ _ | refine blk_drew ?_ | refine blk_alloc ?_ _)); exact BK282.out) hb); have n2_ := Aside0.mk (below_step (by repeat (first | (with_reducible first | exact HB.out | apply below_alloc | apply pw_below_drewN | apply below_drew1 | refine below_set ?_ GE281.out | refine below_set ?_ GE282.out) | exact HB.out)) hb); clear BK281; clear BK282; clear HB; have BK281 := n0_; have BK282 := n1_; have HB := n2_; clear n0_ n1_ n2_; (try clear hb); (try clear hb2); (try clear hk); (try clear hi); have hcz39_0 : w38.cell? ⟨gb281, 0, none⟩ = some (.int .i64 a0_0) := (blk_cell BK281.out 0).trans rfl; have hcz39_1 : w38.cell? ⟨gb281, 1, none⟩ = some (.bool false) := (blk_cell BK281.out 1).trans rfl; have hcz39_2 : w38.cell? ⟨gb281, 2, none⟩ = some (.string a0_2) := (blk_cell BK281.out 2).trans rfl; have hcz39_3 : w38.cell? ⟨gb281, 3, none⟩ = some (.int .i64 a0_3) := (blk_cell BK281.out 3).trans rfl; have hcz39_4 : w38.cell? ⟨gb281, 4, none⟩ = some (.int .i64 a0_4) := (blk_cell BK281.out 4).trans rfl; have hfz39_0 := blk_frozen BK281.out 0; have hfz39_1 := blk_frozen BK281.out 1; have hfz39_2 := blk_frozen BK281.out 2; have hfz39_3 := blk_frozen BK281.out 3; have hfz39_4 := blk_frozen BK281.out 4))
            go_meet
            case rel => exact ⟨_, (decide (a0_4 > t284)), (by first | rfl | (simp; done) | (simp [*]; done)), H', ⟨by first | omega | exact Nat.le_refl _⟩, ⟨by (with_reducible repeat (first | refine blk_drewN ?_ _ | refine blk_drew ?_ | refine blk_alloc ?_ _)); exact BK281.out⟩, ⟨by (with_reducible repeat (first | refine blk_drewN ?_ _ | refine blk_drew ?_ | refine blk_alloc ?_ _)); exact BK282.out⟩, ⟨by repeat (first | (with_reducible first | exact HB.out | apply below_alloc | apply pw_below_drewN | apply below_drew1 | refine below_set ?_ GE281.out | refine below_set ?_ GE282.out) | exact HB.out)⟩⟩
          · replace c35 := Bool.eq_false_iff.mpr c35
            subst c35
            have H1 : (reply_Of.j0 k a1 t283 t284 true a0_0 false a0_2 a0_3 a0_4) = some (r1, r2, r3, r4, r5) := by rw [if_neg (show ¬ (false = true) by decide)] at H; exact H
            clear H
            have H := H1
            clear H1
            have H' := Aside0.mk H
            clear H
            have hnb40 := NB281_282.out
            have hnc40 := NB282_281.out
            have hcz41_0 : w31.cell? ⟨gb281, 0, none⟩ = some (.int .i64 a0_0) := (blk_cell BK281.out 0).trans rfl
            have hcz41_1 : w31.cell? ⟨gb281, 1, none⟩ = some (.bool false) := (blk_cell BK281.out 1).trans rfl
            have hcz41_2 : w31.cell? ⟨gb281, 2, none⟩ = some (.string a0_2) := (blk_cell BK281.out 2).trans rfl
            have hcz41_3 : w31.cell? ⟨gb281, 3, none⟩ = some (.int .i64 a0_3) := (blk_cell BK281.out 3).trans rfl
            have hcz41_4 : w31.cell? ⟨gb281, 4, none⟩ = some (.int .i64 a0_4) := (blk_cell BK281.out 4).trans rfl
            have hfz41_0 := blk_frozen BK281.out 0
            have hfz41_1 := blk_frozen BK281.out 1
            have hfz41_2 := blk_frozen BK281.out 2
            have hfz41_3 := blk_frozen BK281.out 3
            have hfz41_4 := blk_frozen BK281.out 4
            go_wp2_with (first | ((with_reducible refine gate_callee (f := 42) rfl ?_); refine goesL_ (some 36) rfl rfl Try.func42 (by kernel_rfl) rfl #[.agg #[.int .i64 a0_3, .int .i64 a0_4]] rfl (by (try simp only [List.map_toArray, List.map_cons, List.map_nil]); first | done | rfl | (simp only [List.length_drop, List.length_take]; rfl)) ?_; (with_reducible refine (span_Right.calls a0_3 a0_4 false _ A34.out).mono ?_); rintro e w42 ⟨rfl, hb⟩; refine ⟨_, rfl, ?_⟩; have n0_ := Aside0.mk (blk_below (g := gb281) (o := .cells #[.int .i64 a0_0, .bool false, .string a0_2, .int .i64 a0_3, .int .i64 a0_4] 32 (0, 0)) (by (with_reducible repeat (first | refine blk_drewN ?_ _ | refine blk_drew ?_ | refine blk_alloc ?_ _)); exact BK281.out) hb); have n1_ := Aside0.mk (blk_below (g := gb282) (o := .cells #[.int .i64 0, .string (⟨#[]⟩ : ByteArray), .int .i64 0, .string (⟨#[]⟩ : ByteArray), .slice none 0 0] 40 (0, 0)) (by (with_reducible repeat (first | refine blk_drewN ?_ _ | refine blk_drew ?_ | refine blk_alloc ?_ _)); exact BK282.out) hb); have n2_ := Aside0.mk (below_step (by repeat (first | (with_reducible first | exact HB.out | apply below_alloc | apply pw_below_drewN | apply below_drew1 | refine below_set ?_ GE281.out | refine below_set ?_ GE282.out) | exact HB.out)) hb); clear BK281; clear BK282; clear HB; have BK281 := n0_; have BK282 := n1_; have HB := n2_; clear n0_ n1_ n2_; (try clear hb); (try clear hb2); (try clear hk); (try clear hi)))
            go_meet
            case rel => exact ⟨_, (true), (by first | rfl | (simp; done) | (simp [*]; done)), H', ⟨by first | omega | exact Nat.le_refl _⟩, ⟨by (with_reducible repeat (first | refine blk_drewN ?_ _ | refine blk_drew ?_ | refine blk_alloc ?_ _)); exact BK281.out⟩, ⟨by (with_reducible repeat (first | refine blk_drewN ?_ _ | refine blk_drew ?_ | refine blk_alloc ?_ _)); exact BK282.out⟩, ⟨by repeat (first | (with_reducible first | exact HB.out | apply below_alloc | apply pw_below_drewN | apply below_drew1 | refine below_set ?_ GE281.out | refine below_set ?_ GE282.out) | exact HB.out)⟩⟩
        case rest =>
          clear HC27
          try clear c1
          try clear c2
          try clear p2
          try clear c3
          try clear c4
          try clear c5
          try clear c5b0
          try clear c5b1
          try clear c12
          try clear c15
          try clear c21
          try clear c26
          try clear c26b0
          try clear c26b1
          try clear c28
          try clear c32
          try clear c35
          try clear c36
          try clear c38
          try clear c39
          try clear c40
          try clear c41
          try clear c42
          try clear hcz13_0
          try clear hcz13_1
          try clear hcz13_2
          try clear hcz13_3
          try clear hcz13_4
          try clear hcz22_0
          try clear hcz22_1
          try clear hcz22_2
          try clear hcz22_3
          try clear hcz22_4
          try clear hcz24_0
          try clear hcz24_1
          try clear hcz24_2
          try clear hcz24_3
          try clear hcz24_4
          try clear hcz33_0
          try clear hcz33_1
          try clear hcz33_2
          try clear hcz33_3
          try clear hcz33_4
          try clear hcz37_0
          try clear hcz37_1
          try clear hcz37_2
          try clear hcz37_3
          try clear hcz37_4
          try clear hcz39_0
          try clear hcz39_1
          try clear hcz39_2
          try clear hcz39_3
          try clear hcz39_4
          try clear hcz41_0
          try clear hcz41_1
          try clear hcz41_2
          try clear hcz41_3
          try clear hcz41_4
          try clear hfz13_0
          try clear hfz13_1
          try clear hfz13_2
          try clear hfz13_3
          try clear hfz13_4
          try clear hfz22_0
          try clear hfz22_1
          try clear hfz22_2
          try clear hfz22_3
          try clear hfz22_4
          try clear hfz24_0
          try clear hfz24_1
          try clear hfz24_2
          try clear hfz24_3
          try clear hfz24_4
          try clear hfz33_0
          try clear hfz33_1
          try clear hfz33_2
          try clear hfz33_3
          try clear hfz33_4
          try clear hfz37_0
          try clear hfz37_1
          try clear hfz37_2
          try clear hfz37_3
          try clear hfz37_4
          try clear hfz39_0
          try clear hfz39_1
          try clear hfz39_2
          try clear hfz39_3
          try clear hfz39_4
          try clear hfz41_0
          try clear hfz41_1
          try clear hfz41_2
          try clear hfz41_3
          try clear hfz41_4
          obtain ⟨kq, x33_26, rfl, HA, HJ26, BK281, BK282, HB⟩ := hcut
          cases kq with
          | zero => exact absurd HA.out (by simp [reply_Of.j0])
          | succ kj26 =>
            have H := HA.out
            clear HA
            simp only [reply_Of.j0] at H
            by_cases c43 : x33_26 = true
            · subst c43
              have H1 : ((crange_Print.f kj26 false 0 0 t284).bind fun t300 => (some (416, t283, 0, t300, ([] : List Int)))) = some (r1, r2, r3, r4, r5) := by rw [if_pos rfl] at H; exact H
              clear H
              have H := H1
              clear H1
              replace H := Option.bind_eq_some_iff.mp H
              obtain ⟨t300, A440, H⟩ := H
              replace H : (some (416, t283, 0, t300, ([] : List Int))) = some (r1, r2, r3, r4, r5) := H
              have A44 := Aside0.mk A440
              clear A440
              simp only [Option.some.injEq, Prod.mk.injEq] at H
              obtain ⟨rfl, rfl, rfl, rfl, rfl⟩ := H
              go_wp2_with (first | ((with_reducible refine gate_callee (f := 43) rfl ?_); refine goesL_ (some 48) rfl rfl Try.func43 (by kernel_rfl) rfl #[.agg #[.bool false, .int .i64 0, .int .i64 0, .int .i64 t284]] rfl (by (try simp only [List.map_toArray, List.map_cons, List.map_nil]); first | done | rfl | (simp only [List.length_drop, List.length_take]; rfl)) ?_; (with_reducible refine (crange_Print.calls kj26 false 0 0 t284 t300 _ A44.out).mono ?_); rintro e w45 ⟨rfl, hb⟩; refine ⟨_, rfl, ?_⟩; have n0_ := Aside0.mk (blk_below (g := gb281) (o := .cells #[.int .i64 a0_0, .bool false, .string a0_2, .int .i64 a0_3, .int .i64 a0_4] 32 (0, 0)) (by (with_reducible repeat (first | refine blk_drewN ?_ _ | refine blk_drew ?_ | refine blk_alloc ?_ _)); exact BK281.out) hb); have n1_ := Aside0.mk (blk_below (g := gb282) (o := .cells #[.int .i64 0, .string (⟨#[]⟩ : ByteArray), .int .i64 0, .string (⟨#[]⟩ : ByteArray), .slice none 0 0] 40 (0, 0)) (by (with_reducible repeat (first | refine blk_drewN ?_ _ | refine blk_drew ?_ | refine blk_alloc ?_ _)); exact BK282.out) hb); have n2_ := Aside0.mk (below_step (by repeat (first | (with_reducible first | exact HB.out | apply below_alloc | apply pw_below_drewN | apply below_drew1 | refine below_set ?_ GE281.out | refine below_set ?_ GE282.out) | exact HB.out)) hb); clear BK281; clear BK282; clear HB; have BK281 := n0_; have BK282 := n1_; have HB := n2_; clear n0_ n1_ n2_; (try clear hb); (try clear hb2); (try clear hk); (try clear hi); have hnb46 := NB282_281.out; have hnc46 := NB281_282.out; have hcz47_0 : w45.cell? ⟨gb282, 0, none⟩ = some (.int .i64 0) := (blk_cell BK282.out 0).trans rfl; have hcz47_1 : w45.cell? ⟨gb282, 1, none⟩ = some (.string (⟨#[]⟩ : ByteArray)) := (blk_cell BK282.out 1).trans rfl; have hcz47_2 : w45.cell? ⟨gb282, 2, none⟩ = some (.int .i64 0) := (blk_cell BK282.out 2).trans rfl; have hcz47_3 : w45.cell? ⟨gb282, 3, none⟩ = some (.string (⟨#[]⟩ : ByteArray)) := (blk_cell BK282.out 3).trans rfl; have hcz47_4 : w45.cell? ⟨gb282, 4, none⟩ = some (.slice none 0 0) := (blk_cell BK282.out 4).trans rfl; have hfz47_0 := blk_frozen BK282.out 0; have hfz47_1 := blk_frozen BK282.out 1; have hfz47_2 := blk_frozen BK282.out 2; have hfz47_3 := blk_frozen BK282.out 3; have hfz47_4 := blk_frozen BK282.out 4))
              refine bodyPost_ret (results_cell_row rfl _ _ gb282 40 #[.int .i64 416, .string t283, .int .i64 0, .string t300, .slice none 0 0] (0, 0) _ rfl (by (with_reducible repeat (first | refine blk_drewN ?_ _ | refine blk_drew ?_ | refine blk_alloc ?_ _)); refine blk_put (cs := #[.int .i64 416, .string t283, .int .i64 0, .string t300, .slice none 0 0]) ?_ 4 _ rfl; (with_reducible repeat (first | refine blk_drewN ?_ _ | refine blk_drew ?_ | refine blk_alloc ?_ _)); refine blk_put (cs := #[.int .i64 416, .string t283, .int .i64 0, .string (⟨#[]⟩ : ByteArray), .slice none 0 0]) ?_ 3 _ rfl; (with_reducible repeat (first | refine blk_drewN ?_ _ | refine blk_drew ?_ | refine blk_alloc ?_ _)); refine blk_put (cs := #[.int .i64 416, .string t283, .int .i64 0, .string (⟨#[]⟩ : ByteArray), .slice none 0 0]) ?_ 2 _ rfl; (with_reducible repeat (first | refine blk_drewN ?_ _ | refine blk_drew ?_ | refine blk_alloc ?_ _)); refine blk_put (cs := #[.int .i64 416, .string (⟨#[]⟩ : ByteArray), .int .i64 0, .string (⟨#[]⟩ : ByteArray), .slice none 0 0]) ?_ 1 _ rfl; (with_reducible repeat (first | refine blk_drewN ?_ _ | refine blk_drew ?_ | refine blk_alloc ?_ _)); refine blk_put (cs := #[.int .i64 0, .string (⟨#[]⟩ : ByteArray), .int .i64 0, .string (⟨#[]⟩ : ByteArray), .slice none 0 0]) ?_ 0 _ rfl; (with_reducible repeat (first | refine blk_drewN ?_ _ | refine blk_drew ?_ | refine blk_alloc ?_ _)); exact BK282.out) Try.underlying40 rfl (by kernel_rfl)) rfl ?_
              exact ⟨_, by first | rfl | (simp [errW_none, errW_some] <;> rfl) | (simp [*, errW_none, errW_some] <;> rfl), by first | exact Kd.R_nil _ _ _ _ _ | exact Kd.N_nil _ _ _ _ _ | exact Kd.V_nil _ _ _ _ _ | exact Kd.Q_nil _ _ _ _ _ | exact Kd.S_nil _ _ _ _ _, by repeat (first | (with_reducible first | exact HB.out | apply below_alloc | apply pw_below_drewN | apply below_drew1 | refine below_set ?_ GE281.out | refine below_set ?_ GE282.out) | exact HB.out)⟩
            · replace c43 := Bool.eq_false_iff.mpr c43
              subst c43
              have H1 : ((crange_Of.f kj26 a0_3 a0_4 t284).bind fun t301 => ((version_Body.f kj26 a0_0 a1 a0_3 a0_4).bind fun t302 => (some (206, t283, t284, t301, t302)))) = some (r1, r2, r3, r4, r5) := by rw [if_neg (show ¬ (false = true) by decide)] at H; exact H
              clear H
              have H := H1
              clear H1
              replace H := Option.bind_eq_some_iff.mp H
              obtain ⟨t301, A480, H⟩ := H
              replace H : ((version_Body.f kj26 a0_0 a1 a0_3 a0_4).bind fun t302 => (some (206, t283, t284, t301, t302))) = some (r1, r2, r3, r4, r5) := H
              have A48 := Aside0.mk A480
              clear A480
              replace H := Option.bind_eq_some_iff.mp H
              obtain ⟨t302, A490, H⟩ := H
              replace H : (some (206, t283, t284, t301, t302)) = some (r1, r2, r3, r4, r5) := H
              have A49 := Aside0.mk A490
              clear A490
              simp only [Option.some.injEq, Prod.mk.injEq] at H
              obtain ⟨rfl, rfl, rfl, rfl, rfl⟩ := H
              try go_wp2
              have n0_ := Aside0.mk (blk_drew BK281.out)
              have n1_ := Aside0.mk (blk_drew BK282.out)
              have n2_ := Aside0.mk (below_drew1 HB.out)
              clear BK281
              clear BK282
              clear HB
              have BK281 := n0_
              have BK282 := n1_
              have HB := n2_
              clear n0_ n1_ n2_
              refine start_ (n := 14) (S := fun w' => w'.cell? ⟨gb281, 0, none⟩ = some (.int .i64 a0_0) ∧ w'.cell? ⟨gb281, 1, none⟩ = some (.bool false) ∧ w'.cell? ⟨gb281, 2, none⟩ = some (.string a0_2) ∧ w'.cell? ⟨gb281, 3, none⟩ = some (.int .i64 a0_3) ∧ w'.cell? ⟨gb281, 4, none⟩ = some (.int .i64 a0_4)) (ds := []) #[false, false, false, false, false, false, false, false, false, false, false, false, false, false] (by kernel_rfl) rfl rfl ⟨(blk_cell BK281.out 0).trans rfl, (blk_cell BK281.out 1).trans rfl, (blk_cell BK281.out 2).trans rfl, (blk_cell BK281.out 3).trans rfl, (blk_cell BK281.out 4).trans rfl⟩ (fun hHeld => ?_); refine with_tabW reply_Of.tab10 reply_Of.bits10 (fun HT_ HW_ => ?_)
              generalize wc.drew = w50 at BK281 BK282 HB hHeld ⊢
              refine pure_ (i := 0) (N := some 50) (v := ?_) (a' := ?_) #[true, false, false, false, false, false, false, false, false, false, false, false, false, false] rfl rfl (any_of HT_.out (by kernel_rfl)) (fun _ _ _ h => h) (Or.inl ⟨by rfl, ?_⟩) ?_ ?_
              rotate_left
              · intro w'
                go_simp
                with_reducible rfl
              rotate_left
              · simp only [Act.put, List.setIfInBounds_toArray, List.set_cons_zero, List.set_cons_succ, i64_w, i32_w]
                rfl
              refine pure_ (i := 1) (N := some 51) (v := ?_) (a' := ?_) #[true, true, false, false, false, false, false, false, false, false, false, false, false, false] rfl rfl (any_of HT_.out (by kernel_rfl)) (fun _ _ _ h => h) (Or.inl ⟨by rfl, ?_⟩) ?_ ?_
              rotate_left
              · intro w'
                go_simp
                with_reducible rfl
              rotate_left
              · simp only [Act.put, List.setIfInBounds_toArray, List.set_cons_zero, List.set_cons_succ, i64_w, i32_w]
                rfl
              refine pure_ (i := 2) (N := some 52) (v := ?_) (a' := ?_) #[true, true, true, false, false, false, false, false, false, false, false, false, false, false] rfl rfl (any_of HT_.out (by kernel_rfl)) (fun _ _ _ h => h) (Or.inl ⟨by rfl, ?_⟩) ?_ ?_
              rotate_left
              · intro w'
                go_simp
                with_reducible rfl
              rotate_left
              · simp only [Act.put, List.setIfInBounds_toArray, List.set_cons_zero, List.set_cons_succ, i64_w, i32_w]
                rfl
              refine pure_ (i := 4) (N := some 54) (v := ?_) (a' := ?_) #[true, true, true, false, true, false, false, false, false, false, false, false, false, false] rfl rfl (any_of HT_.out (by kernel_rfl)) (fun _ _ _ h => h) (Or.inl ⟨by rfl, ?_⟩) ?_ ?_
              rotate_left
              · intro w'
                go_simp
                with_reducible rfl
              rotate_left
              · simp only [Act.put, List.setIfInBounds_toArray, List.set_cons_zero, List.set_cons_succ, i64_w, i32_w]
                rfl
              refine pure_ (i := 6) (N := some 56) (v := ?_) (a' := ?_) #[true, true, true, false, true, false, true, false, false, false, false, false, false, false] rfl rfl (any_of HT_.out (by kernel_rfl)) (fun _ _ _ h => h) (Or.inl ⟨by rfl, ?_⟩) ?_ ?_
              rotate_left
              · intro w'
                go_simp
                with_reducible rfl
              rotate_left
              · simp only [Act.put, List.setIfInBounds_toArray, List.set_cons_zero, List.set_cons_succ, i64_w, i32_w]
                rfl
              refine pure_ (i := 8) (N := some 58) (v := ?_) (a' := ?_) #[true, true, true, false, true, false, true, false, true, false, false, false, false, false] rfl rfl (any_of HT_.out (by kernel_rfl)) (fun _ _ _ h => h) (Or.inl ⟨by rfl, ?_⟩) ?_ ?_
              rotate_left
              · intro w'
                go_simp
                with_reducible rfl
              rotate_left
              · simp only [Act.put, List.setIfInBounds_toArray, List.set_cons_zero, List.set_cons_succ, i64_w, i32_w]
                rfl
              refine pure_ (i := 9) (N := some 59) (v := ?_) (a' := ?_) #[true, true, true, false, true, false, true, false, true, true, false, false, false, false] rfl rfl (any_of HT_.out (by kernel_rfl)) (fun _ _ _ h => h) (Or.inl ⟨by rfl, ?_⟩) ?_ ?_
              rotate_left
              · intro w'
                go_simp
                with_reducible rfl
              rotate_left
              · simp only [Act.put, List.setIfInBounds_toArray, List.set_cons_zero, List.set_cons_succ, i64_w, i32_w]
                rfl
              refine take_ (i := 3) (N := some 53) (v := ?_) (a' := ?_) #[true, true, true, true, true, false, true, false, true, true, false, false, false, false] rfl rfl (take_ofW HT_.out HW_.out (by kernel_rfl)) (fun _ _ _ h => h) (Or.inl ⟨by rfl, ?_⟩) hHeld ?_ ?_
              rotate_left
              · rintro w' ⟨s0, s1, s2, s3, s4⟩
                go_simp
                with_reducible rfl
              rotate_left
              · simp only [Act.put, List.setIfInBounds_toArray, List.set_cons_zero, List.set_cons_succ, i64_w, i32_w]
                rfl
              refine take_ (i := 7) (N := some 57) (v := ?_) (a' := ?_) #[true, true, true, true, true, false, true, true, true, true, false, false, false, false] rfl rfl (take_ofW HT_.out HW_.out (by kernel_rfl)) (fun _ _ _ h => h) (Or.inl ⟨by rfl, ?_⟩) hHeld ?_ ?_
              rotate_left
              · rintro w' ⟨s0, s1, s2, s3, s4⟩
                go_simp
                with_reducible rfl
              rotate_left
              · simp only [Act.put, List.setIfInBounds_toArray, List.set_cons_zero, List.set_cons_succ, i64_w, i32_w]
                rfl
              refine take_ (i := 10) (N := some 60) (v := ?_) (a' := ?_) #[true, true, true, true, true, false, true, true, true, true, true, false, false, false] rfl rfl (take_ofW HT_.out HW_.out (by kernel_rfl)) (fun _ _ _ h => h) (Or.inl ⟨by rfl, ?_⟩) hHeld ?_ ?_
              rotate_left
              · rintro w' ⟨s0, s1, s2, s3, s4⟩
                go_simp
                with_reducible rfl
              rotate_left
              · simp only [Act.put, List.setIfInBounds_toArray, List.set_cons_zero, List.set_cons_succ, i64_w, i32_w]
                rfl
              refine one_ (i := 5) (N := some 55) #[true, true, true, true, true, true, true, true, true, true, true, false, false, false] rfl rfl (one_of HT_.out (by kernel_rfl)) (by decide) (fun K hK => ?_)
              refine goes_ Try.func44 (by kernel_rfl) rfl #[.agg #[.int .i64 a0_3, .int .i64 a0_4], .int .i64 t284] (by rfl) rfl rfl (by (try simp only [List.map_toArray, List.map_cons, List.map_nil]); first | done | rfl | (simp only [List.length_drop, List.length_take]; rfl)) ?_
              with_reducible refine (crange_Of.calls kj26 a0_3 a0_4 t284 t301 _ A48.out).mono ?_
              rintro e w51 ⟨rfl, hb⟩
              refine ⟨_, rfl, ?_⟩
              have n0_ := Aside0.mk (blk_below (g := gb281) (o := .cells #[.int .i64 a0_0, .bool false, .string a0_2, .int .i64 a0_3, .int .i64 a0_4] 32 (0, 0)) (by (with_reducible repeat (first | refine blk_drewN ?_ _ | refine blk_drew ?_ | refine blk_alloc ?_ _)); exact BK281.out) hb)
              have n1_ := Aside0.mk (blk_below (g := gb282) (o := .cells #[.int .i64 0, .string (⟨#[]⟩ : ByteArray), .int .i64 0, .string (⟨#[]⟩ : ByteArray), .slice none 0 0] 40 (0, 0)) (by (with_reducible repeat (first | refine blk_drewN ?_ _ | refine blk_drew ?_ | refine blk_alloc ?_ _)); exact BK282.out) hb)
              have n2_ := Aside0.mk (below_step (by repeat (first | (with_reducible first | exact HB.out | apply below_alloc | apply pw_below_drewN | apply below_drew1 | refine below_set ?_ GE281.out | refine below_set ?_ GE282.out) | exact HB.out)) hb)
              clear BK281
              clear BK282
              clear HB
              have BK281 := n0_
              have BK282 := n1_
              have HB := n2_
              clear n0_ n1_ n2_
              (try clear hb)
              (try clear hb2)
              (try clear hk)
              (try clear hi)
              refine hK.out _ _ ⟨(blk_cell BK281.out 0).trans rfl, (blk_cell BK281.out 1).trans rfl, (blk_cell BK281.out 2).trans rfl, (blk_cell BK281.out 3).trans rfl, (blk_cell BK281.out 4).trans rfl⟩ (fun hHeld => ?_)
              clear hK K
              refine norm_ (a' := ?_) ?_ ?_
              rotate_left
              · show Act.put _ (some 55) _ = _
                simp only [Act.put, List.setIfInBounds_toArray, List.set_cons_zero, List.set_cons_succ, i64_w, i32_w]
                rfl
              refine one_ (i := 11) (N := some 61) #[true, true, true, true, true, true, true, true, true, true, true, true, false, false] rfl rfl (one_of HT_.out (by kernel_rfl)) (by decide) (fun K hK => ?_)
              refine goes_ Try.func45 (by kernel_rfl) rfl #[.int .i64 a0_0, .int .i64 a1, .agg #[.int .i64 a0_3, .int .i64 a0_4]] (by rfl) rfl rfl (by (try simp only [List.map_toArray, List.map_cons, List.map_nil]); first | done | rfl | (simp only [List.length_drop, List.length_take]; rfl)) ?_
              with_reducible refine (version_Body.calls kj26 a0_0 a1 a0_3 a0_4 t302 _ A49.out).mono ?_
              rintro e w52 ⟨v303, rfl, ho0, hb⟩
              refine ⟨_, rfl, ?_⟩
              have n0_ := Aside0.mk (Kd.R_lower ho0 (below_size (by repeat (first | (with_reducible first | exact HB.out | apply below_alloc | apply pw_below_drewN | apply below_drew1 | refine below_set ?_ GE281.out | refine below_set ?_ GE282.out) | exact HB.out))))
              have n1_ := Aside0.mk (blk_below (g := gb281) (o := .cells #[.int .i64 a0_0, .bool false, .string a0_2, .int .i64 a0_3, .int .i64 a0_4] 32 (0, 0)) (by (with_reducible repeat (first | refine blk_drewN ?_ _ | refine blk_drew ?_ | refine blk_alloc ?_ _)); exact BK281.out) hb)
              have n2_ := Aside0.mk (blk_below (g := gb282) (o := .cells #[.int .i64 0, .string (⟨#[]⟩ : ByteArray), .int .i64 0, .string (⟨#[]⟩ : ByteArray), .slice none 0 0] 40 (0, 0)) (by (with_reducible repeat (first | refine blk_drewN ?_ _ | refine blk_drew ?_ | refine blk_alloc ?_ _)); exact BK282.out) hb)
              have n3_ := Aside0.mk (below_step (by repeat (first | (with_reducible first | exact HB.out | apply below_alloc | apply pw_below_drewN | apply below_drew1 | refine below_set ?_ GE281.out | refine below_set ?_ GE282.out) | exact HB.out)) hb)
              clear BK281
              clear BK282
              clear HB
              have HO304 := n0_
              have BK281 := n1_
              have BK282 := n2_
              have HB := n3_
              clear n0_ n1_ n2_ n3_
              (try clear hb)
              (try clear hb2)
              (try clear hk)
              (try clear hi)
              (try clear ho0)
              obtain ⟨Ao53, co53, eo53⟩ := Kd.R_slice HO304.out
              (first | subst eo53 | (injection eo53 with f1_ f2_ f3_; have f4_ := f1_.symm; have f5_ := f3_.symm; clear f1_ f2_ f3_; subst f4_; subst f5_))
              refine hK.out _ _ ⟨(blk_cell BK281.out 0).trans rfl, (blk_cell BK281.out 1).trans rfl, (blk_cell BK281.out 2).trans rfl, (blk_cell BK281.out 3).trans rfl, (blk_cell BK281.out 4).trans rfl⟩ (fun hHeld => ?_)
              clear hK K
              refine norm_ (a' := ?_) ?_ ?_
              rotate_left
              · show Act.put _ (some 61) _ = _
                simp only [Act.put, List.setIfInBounds_toArray, List.set_cons_zero, List.set_cons_succ, i64_w, i32_w]
                rfl
              refine pure_ (i := 12) (N := some 62) (v := ?_) (a' := ?_) #[true, true, true, true, true, true, true, true, true, true, true, true, true, false] rfl rfl (any_of HT_.out (by kernel_rfl)) (fun _ _ _ h => h) (Or.inl ⟨by rfl, ?_⟩) ?_ ?_
              rotate_left
              · intro w'
                go_simp
                with_reducible rfl
              rotate_left
              · simp only [Act.put, List.setIfInBounds_toArray, List.set_cons_zero, List.set_cons_succ, i64_w, i32_w]
                rfl
              refine one_ (i := 13) (N := none) #[true, true, true, true, true, true, true, true, true, true, true, true, true, true] rfl rfl (one_of HT_.out (by kernel_rfl)) (by decide) (fun K hK => ?_)
              have hs54 : w52.cell? ⟨gb282, 0, none⟩ = some (.int .i64 0) := (blk_cell BK282.out 0).trans rfl
              have hfs54 := blk_frozen BK282.out 0
              have hns54_0 := NB281_282.out
              have hms54_0 := NB282_281.out
              have hs55 : w52.cell? ⟨gb282, 1, none⟩ = some (.string (⟨#[]⟩ : ByteArray)) := (blk_cell BK282.out 1).trans rfl
              have hfs55 := blk_frozen BK282.out 1
              have hns55_0 := NB281_282.out
              have hms55_0 := NB282_281.out
              have hs56 : w52.cell? ⟨gb282, 2, none⟩ = some (.int .i64 0) := (blk_cell BK282.out 2).trans rfl
              have hfs56 := blk_frozen BK282.out 2
              have hns56_0 := NB281_282.out
              have hms56_0 := NB282_281.out
              have hs57 : w52.cell? ⟨gb282, 3, none⟩ = some (.string (⟨#[]⟩ : ByteArray)) := (blk_cell BK282.out 3).trans rfl
              have hfs57 := blk_frozen BK282.out 3
              have hns57_0 := NB281_282.out
              have hms57_0 := NB282_281.out
              have hs58 : w52.cell? ⟨gb282, 4, none⟩ = some (.slice none 0 0) := (blk_cell BK282.out 4).trans rfl
              have hfs58 := blk_frozen BK282.out 4
              have hns58_0 := NB281_282.out
              have hms58_0 := NB282_281.out
              refine skip_ (w1 := ?_) (by rfl) rfl ?_ ?_
              rotate_left
              · go_simp
                rfl
              refine hK.out _ _ ⟨((cell_far (p := ⟨gb282, _, none⟩) NB281_282.out _).trans (((cell_far (p := ⟨gb282, _, none⟩) NB281_282.out _).trans (((cell_far (p := ⟨gb282, _, none⟩) NB281_282.out _).trans (((cell_far (p := ⟨gb282, _, none⟩) NB281_282.out _).trans (((cell_far (p := ⟨gb282, _, none⟩) NB281_282.out _).trans (hHeld.1)))))))))), ((cell_far (p := ⟨gb282, _, none⟩) NB281_282.out _).trans (((cell_far (p := ⟨gb282, _, none⟩) NB281_282.out _).trans (((cell_far (p := ⟨gb282, _, none⟩) NB281_282.out _).trans (((cell_far (p := ⟨gb282, _, none⟩) NB281_282.out _).trans (((cell_far (p := ⟨gb282, _, none⟩) NB281_282.out _).trans (hHeld.2.1)))))))))), ((cell_far (p := ⟨gb282, _, none⟩) NB281_282.out _).trans (((cell_far (p := ⟨gb282, _, none⟩) NB281_282.out _).trans (((cell_far (p := ⟨gb282, _, none⟩) NB281_282.out _).trans (((cell_far (p := ⟨gb282, _, none⟩) NB281_282.out _).trans (((cell_far (p := ⟨gb282, _, none⟩) NB281_282.out _).trans (hHeld.2.2.1)))))))))), ((cell_far (p := ⟨gb282, _, none⟩) NB281_282.out _).trans (((cell_far (p := ⟨gb282, _, none⟩) NB281_282.out _).trans (((cell_far (p := ⟨gb282, _, none⟩) NB281_282.out _).trans (((cell_far (p := ⟨gb282, _, none⟩) NB281_282.out _).trans (((cell_far (p := ⟨gb282, _, none⟩) NB281_282.out _).trans (hHeld.2.2.2.1)))))))))), ((cell_far (p := ⟨gb282, _, none⟩) NB281_282.out _).trans (((cell_far (p := ⟨gb282, _, none⟩) NB281_282.out _).trans (((cell_far (p := ⟨gb282, _, none⟩) NB281_282.out _).trans (((cell_far (p := ⟨gb282, _, none⟩) NB281_282.out _).trans (((cell_far (p := ⟨gb282, _, none⟩) NB281_282.out _).trans (hHeld.2.2.2.2))))))))))⟩ (fun hHeld => ?_)
              clear hK K
              refine done_ (done_of HT_.out (by kernel_rfl)) ?_
              try go_wp2
              refine bodyPost_ret (results_cell_row rfl _ _ gb282 40 #[.int .i64 206, .string t283, .int .i64 t284, .string t301, .slice Ao53 t302.length co53] (0, 0) _ rfl (by (with_reducible repeat (first | refine blk_drewN ?_ _ | refine blk_drew ?_ | refine blk_alloc ?_ _)); refine blk_put (cs := #[.int .i64 206, .string t283, .int .i64 t284, .string t301, .slice none 0 0]) ?_ 4 _ rfl; (with_reducible repeat (first | refine blk_drewN ?_ _ | refine blk_drew ?_ | refine blk_alloc ?_ _)); refine blk_put (cs := #[.int .i64 206, .string t283, .int .i64 t284, .string (⟨#[]⟩ : ByteArray), .slice none 0 0]) ?_ 3 _ rfl; (with_reducible repeat (first | refine blk_drewN ?_ _ | refine blk_drew ?_ | refine blk_alloc ?_ _)); refine blk_put (cs := #[.int .i64 206, .string t283, .int .i64 0, .string (⟨#[]⟩ : ByteArray), .slice none 0 0]) ?_ 2 _ rfl; (with_reducible repeat (first | refine blk_drewN ?_ _ | refine blk_drew ?_ | refine blk_alloc ?_ _)); refine blk_put (cs := #[.int .i64 206, .string (⟨#[]⟩ : ByteArray), .int .i64 0, .string (⟨#[]⟩ : ByteArray), .slice none 0 0]) ?_ 1 _ rfl; (with_reducible repeat (first | refine blk_drewN ?_ _ | refine blk_drew ?_ | refine blk_alloc ?_ _)); refine blk_put (cs := #[.int .i64 0, .string (⟨#[]⟩ : ByteArray), .int .i64 0, .string (⟨#[]⟩ : ByteArray), .slice none 0 0]) ?_ 0 _ rfl; (with_reducible repeat (first | refine blk_drewN ?_ _ | refine blk_drew ?_ | refine blk_alloc ?_ _)); exact BK282.out) Try.underlying40 rfl (by kernel_rfl)) rfl ?_
              exact ⟨_, by first | rfl | (simp [errW_none, errW_some] <;> rfl) | (simp [*, errW_none, errW_some] <;> rfl), by (with_reducible repeat (first | apply Kd.R_alloc | apply Kd.R_drewN | apply Kd.R_drew)); exact Kd.R_mono (Kd.R_far (p := ⟨gb282, 4, none⟩) (Kd.R_far (p := ⟨gb282, 3, none⟩) (Kd.R_far (p := ⟨gb282, 2, none⟩) (Kd.R_far (p := ⟨gb282, 1, none⟩) (Kd.R_far (p := ⟨gb282, 0, none⟩) (Kd.R_types HO304.out BK282.out (by decide)) (fun _ hk => hk.2) (.int .i64 206)) (fun _ hk => hk.2) (.string t283)) (fun _ hk => hk.2) (.int .i64 t284)) (fun _ hk => hk.2) (.string t301)) (fun _ hk => hk.2) (.slice Ao53 t302.length co53)) (fun _ hk => trivial), by repeat (first | (with_reducible first | exact HB.out | apply below_alloc | apply pw_below_drewN | apply below_drew1 | refine below_set ?_ GE281.out | refine below_set ?_ GE282.out) | exact HB.out)⟩
      · rw [if_neg c26] at H
        have c26b0 : (a0_2.toList == t283.toList) = false := beq_eq_false_iff_ne.mpr c26
        have c26b1 : (a0_2.toList != t283.toList) = true := bne_iff_ne.mpr c26
        simp only [Option.some.injEq, Prod.mk.injEq] at H
        obtain ⟨rfl, rfl, rfl, rfl, rfl⟩ := H
        go_enter Try.func28, Try.ntmps28
        try go_wp2_with (first | ((with_reducible refine gate_dst (N := 2) rfl ?_); refine box_event ?hg (N := 2) ?hd (cs := #[.int .i64 a0_0, .bool false, .string a0_2, .int .i64 a0_3, .int .i64 a0_4]) (t := 32) ?hr ?_; (case hd => rfl); (case hg => rfl); (case hr => first | (go_simp; done) | (go_simp; rfl)); intro gb281 hg w59 hbox hb; have n0_ := Aside0.mk (below_step (by repeat (first | (with_reducible first | exact HB.out | apply below_alloc | apply pw_below_drewN | apply below_drew1) | exact HB.out)) hb); have n1_ := Aside0.mk (hbox); have n2_ := Aside0.mk ((by rw [hg]; exact (below_size (by repeat (first | (with_reducible first | exact HB.out | apply below_alloc | apply pw_below_drewN | apply below_drew1) | exact HB.out))) : w.heap.size ≤ gb281)); have n3_ := Aside0.mk ((by rw [hg]; exact (below_size (by repeat (first | (with_reducible first | exact HB.out | apply below_alloc | apply pw_below_drewN | apply below_drew1) | exact HB.out))) : w.heap.size ≤ gb281)); clear HB; have HB := n0_; have BK281 := n1_; have GW281 := n2_; have GE281 := n3_; clear n0_ n1_ n2_ n3_; clear hb hbox hg) | ((with_reducible refine gate_dst (N := 4) rfl ?_); refine box_event ?hg (N := 4) ?hd (cs := #[.int .i64 0, .string (⟨#[]⟩ : ByteArray), .int .i64 0, .string (⟨#[]⟩ : ByteArray), .slice none 0 0]) (t := 40) ?hr ?_; (case hd => rfl); (case hg => rfl); (case hr => first | (go_simp; done) | (go_simp; rfl)); intro gb282 hg w60 hbox hb; have n0_ := Aside0.mk (blk_below (g := gb281) (o := .cells #[.int .i64 a0_0, .bool false, .string a0_2, .int .i64 a0_3, .int .i64 a0_4] 32 (0, 0)) (by (with_reducible repeat (first | refine blk_drewN ?_ _ | refine blk_drew ?_ | refine blk_alloc ?_ _)); exact BK281.out) hb); have n1_ := Aside0.mk (below_step (by repeat (first | (with_reducible first | exact HB.out | apply below_alloc | apply pw_below_drewN | apply below_drew1 | refine below_set ?_ GE281.out) | exact HB.out)) hb); have n2_ := Aside0.mk (hbox); have n3_ := Aside0.mk ((by rw [hg]; exact (below_size (by repeat (first | (with_reducible first | exact HB.out | apply below_alloc | apply pw_below_drewN | apply below_drew1 | refine below_set ?_ GE281.out) | exact HB.out))) : w.heap.size ≤ gb282)); have n4_ := Aside0.mk ((by rw [hg]; exact (below_size (by repeat (first | (with_reducible first | exact HB.out | apply below_alloc | apply pw_below_drewN | apply below_drew1 | refine below_set ?_ GE281.out) | exact HB.out))) : w.heap.size ≤ gb282)); have n5_ := Aside0.mk ((by rw [hg]; exact Nat.ne_of_lt (blk_lt (g := gb281) (o := .cells #[.int .i64 a0_0, .bool false, .string a0_2, .int .i64 a0_3, .int .i64 a0_4] 32 (0, 0)) (by (with_reducible repeat (first | refine blk_drewN ?_ _ | refine blk_drew ?_ | refine blk_alloc ?_ _)); exact BK281.out)) : gb281 ≠ gb282)); have n6_ := Aside0.mk ((by rw [hg]; exact Nat.ne_of_gt (blk_lt (g := gb281) (o := .cells #[.int .i64 a0_0, .bool false, .string a0_2, .int .i64 a0_3, .int .i64 a0_4] 32 (0, 0)) (by (with_reducible repeat (first | refine blk_drewN ?_ _ | refine blk_drew ?_ | refine blk_alloc ?_ _)); exact BK281.out)) : gb282 ≠ gb281)); clear BK281; clear HB; have BK281 := n0_; have HB := n1_; have BK282 := n2_; have GW282 := n3_; have GE282 := n4_; have NB281_282 := n5_; have NB282_281 := n6_; clear n0_ n1_ n2_ n3_ n4_ n5_ n6_; clear hb hbox hg))
        have n0_ := Aside0.mk (blk_drew BK281.out)
        have n1_ := Aside0.mk (blk_drew BK282.out)
        have n2_ := Aside0.mk (below_drew1 HB.out)
        clear BK281
        clear BK282
        clear HB
        have BK281 := n0_
        have BK282 := n1_
        have HB := n2_
        clear n0_ n1_ n2_
        refine start_ (n := 10) (S := fun w' => w'.cell? ⟨gb281, 0, none⟩ = some (.int .i64 a0_0) ∧ w'.cell? ⟨gb281, 1, none⟩ = some (.bool false) ∧ w'.cell? ⟨gb281, 2, none⟩ = some (.string a0_2) ∧ w'.cell? ⟨gb281, 3, none⟩ = some (.int .i64 a0_3) ∧ w'.cell? ⟨gb281, 4, none⟩ = some (.int .i64 a0_4)) (ds := []) #[false, false, false, false, false, false, false, false, false, false] (by kernel_rfl) rfl rfl ⟨(blk_cell BK281.out 0).trans rfl, (blk_cell BK281.out 1).trans rfl, (blk_cell BK281.out 2).trans rfl, (blk_cell BK281.out 3).trans rfl, (blk_cell BK281.out 4).trans rfl⟩ (fun hHeld => ?_); refine with_tabW reply_Of.tab1 reply_Of.bits1 (fun HT_ HW_ => ?_)
        generalize w60.drew = w61 at BK281 BK282 HB hHeld ⊢
        refine pure_ (i := 0) (N := some 7) (v := ?_) (a' := ?_) #[true, false, false, false, false, false, false, false, false, false] rfl rfl (any_of HT_.out (by kernel_rfl)) (fun _ _ _ h => h) (Or.inl ⟨by rfl, ?_⟩) ?_ ?_
        rotate_left
        · intro w'
          go_simp
          with_reducible rfl
        rotate_left
        · simp only [Act.put, List.setIfInBounds_toArray, List.set_cons_zero, List.set_cons_succ, i64_w, i32_w]
          rfl
        refine pure_ (i := 2) (N := some 9) (v := ?_) (a' := ?_) #[true, false, true, false, false, false, false, false, false, false] rfl rfl (any_of HT_.out (by kernel_rfl)) (fun _ _ _ h => h) (Or.inl ⟨by rfl, ?_⟩) ?_ ?_
        rotate_left
        · intro w'
          go_simp
          with_reducible rfl
        rotate_left
        · simp only [Act.put, List.setIfInBounds_toArray, List.set_cons_zero, List.set_cons_succ, i64_w, i32_w]
          rfl
        refine pure_ (i := 4) (N := some 11) (v := ?_) (a' := ?_) #[true, false, true, false, true, false, false, false, false, false] rfl rfl (any_of HT_.out (by kernel_rfl)) (fun _ _ _ h => h) (Or.inl ⟨by rfl, ?_⟩) ?_ ?_
        rotate_left
        · intro w'
          go_simp
          with_reducible rfl
        rotate_left
        · simp only [Act.put, List.setIfInBounds_toArray, List.set_cons_zero, List.set_cons_succ, i64_w, i32_w]
          rfl
        refine pure_ (i := 6) (N := some 13) (v := ?_) (a' := ?_) #[true, false, true, false, true, false, true, false, false, false] rfl rfl (any_of HT_.out (by kernel_rfl)) (fun _ _ _ h => h) (Or.inl ⟨by rfl, ?_⟩) ?_ ?_
        rotate_left
        · intro w'
          go_simp
          with_reducible rfl
        rotate_left
        · simp only [Act.put, List.setIfInBounds_toArray, List.set_cons_zero, List.set_cons_succ, i64_w, i32_w]
          rfl
        refine take_ (i := 1) (N := some 8) (v := ?_) (a' := ?_) #[true, true, true, false, true, false, true, false, false, false] rfl rfl (take_ofW HT_.out HW_.out (by kernel_rfl)) (fun _ _ _ h => h) (Or.inl ⟨by rfl, ?_⟩) hHeld ?_ ?_
        rotate_left
        · rintro w' ⟨s0, s1, s2, s3, s4⟩
          go_simp
          with_reducible rfl
        rotate_left
        · simp only [Act.put, List.setIfInBounds_toArray, List.set_cons_zero, List.set_cons_succ, i64_w, i32_w]
          rfl
        refine take_ (i := 5) (N := some 12) (v := ?_) (a' := ?_) #[true, true, true, false, true, true, true, false, false, false] rfl rfl (take_ofW HT_.out HW_.out (by kernel_rfl)) (fun _ _ _ h => h) (Or.inl ⟨by rfl, ?_⟩) hHeld ?_ ?_
        rotate_left
        · rintro w' ⟨s0, s1, s2, s3, s4⟩
          go_simp
          with_reducible rfl
        rotate_left
        · simp only [Act.put, List.setIfInBounds_toArray, List.set_cons_zero, List.set_cons_succ, i64_w, i32_w]
          rfl
        refine one_ (i := 3) (N := some 10) #[true, true, true, true, true, true, true, false, false, false] rfl rfl (one_of HT_.out (by kernel_rfl)) (by decide) (fun K hK => ?_)
        refine goes_ Try.func38 (by kernel_rfl) rfl #[.int .i64 a0_0, .int .i64 a1] (by rfl) rfl rfl (by (try simp only [List.map_toArray, List.map_cons, List.map_nil]); first | done | rfl | (simp only [List.length_drop, List.length_take]; rfl)) ?_
        with_reducible refine (version_Tag.calls k a0_0 a1 t283 _ A3.out).mono ?_
        rintro e w62 ⟨rfl, hb⟩
        refine ⟨_, rfl, ?_⟩
        have n0_ := Aside0.mk (blk_below (g := gb281) (o := .cells #[.int .i64 a0_0, .bool false, .string a0_2, .int .i64 a0_3, .int .i64 a0_4] 32 (0, 0)) (by (with_reducible repeat (first | refine blk_drewN ?_ _ | refine blk_drew ?_ | refine blk_alloc ?_ _)); exact BK281.out) hb)
        have n1_ := Aside0.mk (blk_below (g := gb282) (o := .cells #[.int .i64 0, .string (⟨#[]⟩ : ByteArray), .int .i64 0, .string (⟨#[]⟩ : ByteArray), .slice none 0 0] 40 (0, 0)) (by (with_reducible repeat (first | refine blk_drewN ?_ _ | refine blk_drew ?_ | refine blk_alloc ?_ _)); exact BK282.out) hb)
        have n2_ := Aside0.mk (below_step (by repeat (first | (with_reducible first | exact HB.out | apply below_alloc | apply pw_below_drewN | apply below_drew1 | refine below_set ?_ GE281.out | refine below_set ?_ GE282.out) | exact HB.out)) hb)
        clear BK281
        clear BK282
        clear HB
        have BK281 := n0_
        have BK282 := n1_
        have HB := n2_
        clear n0_ n1_ n2_
        (try clear hb)
        (try clear hb2)
        (try clear hk)
        (try clear hi)
        refine hK.out _ _ ⟨(blk_cell BK281.out 0).trans rfl, (blk_cell BK281.out 1).trans rfl, (blk_cell BK281.out 2).trans rfl, (blk_cell BK281.out 3).trans rfl, (blk_cell BK281.out 4).trans rfl⟩ (fun hHeld => ?_)
        clear hK K
        refine norm_ (a' := ?_) ?_ ?_
        rotate_left
        · show Act.put _ (some 10) _ = _
          simp only [Act.put, List.setIfInBounds_toArray, List.set_cons_zero, List.set_cons_succ, i64_w, i32_w]
          rfl
        refine one_ (i := 7) (N := some 14) #[true, true, true, true, true, true, true, true, false, false] rfl rfl (one_of HT_.out (by kernel_rfl)) (by decide) (fun K hK => ?_)
        refine goes_ Try.func39 (by kernel_rfl) rfl #[.int .i64 a0_0, .int .i64 a1] (by rfl) rfl rfl (by (try simp only [List.map_toArray, List.map_cons, List.map_nil]); first | done | rfl | (simp only [List.length_drop, List.length_take]; rfl)) ?_
        with_reducible refine (version_Length.calls a0_0 a1 t284 _ A4.out).mono ?_
        rintro e w' ⟨rfl, ⟨nd, rfl⟩⟩
        refine ⟨_, rfl, ?_⟩
        refine hK.out _ _ ⟨(blk_cell BK281.out 0).trans rfl, (blk_cell BK281.out 1).trans rfl, (blk_cell BK281.out 2).trans rfl, (blk_cell BK281.out 3).trans rfl, (blk_cell BK281.out 4).trans rfl⟩ (fun hHeld => ?_)
        clear hK K
        refine norm_ (a' := ?_) ?_ ?_
        rotate_left
        · show Act.put _ (some 14) _ = _
          simp only [Act.put, List.setIfInBounds_toArray, List.set_cons_zero, List.set_cons_succ, i64_w, i32_w]
          rfl
        refine pure_ (i := 8) (N := some 5) (v := ?_) (a' := ?_) #[true, true, true, true, true, true, true, true, true, false] rfl rfl (any_of HT_.out (by kernel_rfl)) (fun _ _ _ h => h) (Or.inl ⟨by rfl, ?_⟩) ?_ ?_
        rotate_left
        · intro w'
          go_simp
          with_reducible rfl
        rotate_left
        · simp only [Act.put, List.setIfInBounds_toArray, List.set_cons_zero, List.set_cons_succ, i64_w, i32_w]
          rfl
        refine pure_ (i := 9) (N := some 6) (v := ?_) (a' := ?_) #[true, true, true, true, true, true, true, true, true, true] rfl rfl (any_of HT_.out (by kernel_rfl)) (fun _ _ _ h => h) (Or.inl ⟨by rfl, ?_⟩) ?_ ?_
        rotate_left
        · intro w'
          go_simp
          with_reducible rfl
        rotate_left
        · simp only [Act.put, List.setIfInBounds_toArray, List.set_cons_zero, List.set_cons_succ, i64_w, i32_w]
          rfl
        refine done_ (done_of HT_.out (by kernel_rfl)) ?_
        have hnb63 := NB281_282.out
        have hnc63 := NB282_281.out
        have hcz64_0 : w62.cell? ⟨gb281, 0, none⟩ = some (.int .i64 a0_0) := (blk_cell BK281.out 0).trans rfl
        have hcz64_1 : w62.cell? ⟨gb281, 1, none⟩ = some (.bool false) := (blk_cell BK281.out 1).trans rfl
        have hcz64_2 : w62.cell? ⟨gb281, 2, none⟩ = some (.string a0_2) := (blk_cell BK281.out 2).trans rfl
        have hcz64_3 : w62.cell? ⟨gb281, 3, none⟩ = some (.int .i64 a0_3) := (blk_cell BK281.out 3).trans rfl
        have hcz64_4 : w62.cell? ⟨gb281, 4, none⟩ = some (.int .i64 a0_4) := (blk_cell BK281.out 4).trans rfl
        have hfz64_0 := blk_frozen BK281.out 0
        have hfz64_1 := blk_frozen BK281.out 1
        have hfz64_2 := blk_frozen BK281.out 2
        have hfz64_3 := blk_frozen BK281.out 3
        have hfz64_4 := blk_frozen BK281.out 4
        have hcz65_0 : w62.cell? ⟨gb282, 0, none⟩ = some (.int .i64 0) := (blk_cell BK282.out 0).trans rfl
        have hcz65_1 : w62.cell? ⟨gb282, 1, none⟩ = some (.string (⟨#[]⟩ : ByteArray)) := (blk_cell BK282.out 1).trans rfl
        have hcz65_2 : w62.cell? ⟨gb282, 2, none⟩ = some (.int .i64 0) := (blk_cell BK282.out 2).trans rfl
        have hcz65_3 : w62.cell? ⟨gb282, 3, none⟩ = some (.string (⟨#[]⟩ : ByteArray)) := (blk_cell BK282.out 3).trans rfl
        have hcz65_4 : w62.cell? ⟨gb282, 4, none⟩ = some (.slice none 0 0) := (blk_cell BK282.out 4).trans rfl
        have hfz65_0 := blk_frozen BK282.out 0
        have hfz65_1 := blk_frozen BK282.out 1
        have hfz65_2 := blk_frozen BK282.out 2
        have hfz65_3 := blk_frozen BK282.out 3
        have hfz65_4 := blk_frozen BK282.out 4
        try go_wp2
        refine bodyPost_ret (results_cell_row rfl _ _ gb282 40 #[.int .i64 412, .string t283, .int .i64 0, .string (⟨#[]⟩ : ByteArray), .slice none 0 0] (0, 0) _ rfl (by (with_reducible repeat (first | refine blk_drewN ?_ _ | refine blk_drew ?_ | refine blk_alloc ?_ _)); refine blk_put (cs := #[.int .i64 412, .string t283, .int .i64 0, .string (⟨#[]⟩ : ByteArray), .slice none 0 0]) ?_ 4 _ rfl; (with_reducible repeat (first | refine blk_drewN ?_ _ | refine blk_drew ?_ | refine blk_alloc ?_ _)); refine blk_put (cs := #[.int .i64 412, .string t283, .int .i64 0, .string (⟨#[]⟩ : ByteArray), .slice none 0 0]) ?_ 3 _ rfl; (with_reducible repeat (first | refine blk_drewN ?_ _ | refine blk_drew ?_ | refine blk_alloc ?_ _)); refine blk_put (cs := #[.int .i64 412, .string t283, .int .i64 0, .string (⟨#[]⟩ : ByteArray), .slice none 0 0]) ?_ 2 _ rfl; (with_reducible repeat (first | refine blk_drewN ?_ _ | refine blk_drew ?_ | refine blk_alloc ?_ _)); refine blk_put (cs := #[.int .i64 412, .string (⟨#[]⟩ : ByteArray), .int .i64 0, .string (⟨#[]⟩ : ByteArray), .slice none 0 0]) ?_ 1 _ rfl; (with_reducible repeat (first | refine blk_drewN ?_ _ | refine blk_drew ?_ | refine blk_alloc ?_ _)); refine blk_put (cs := #[.int .i64 0, .string (⟨#[]⟩ : ByteArray), .int .i64 0, .string (⟨#[]⟩ : ByteArray), .slice none 0 0]) ?_ 0 _ rfl; (with_reducible repeat (first | refine blk_drewN ?_ _ | refine blk_drew ?_ | refine blk_alloc ?_ _)); exact BK282.out) Try.underlying40 rfl (by kernel_rfl)) rfl ?_
        exact ⟨_, by first | rfl | (simp [errW_none, errW_some] <;> rfl) | (simp [*, errW_none, errW_some] <;> rfl), by first | exact Kd.R_nil _ _ _ _ _ | exact Kd.N_nil _ _ _ _ _ | exact Kd.V_nil _ _ _ _ _ | exact Kd.Q_nil _ _ _ _ _ | exact Kd.S_nil _ _ _ _ _, by repeat (first | (with_reducible first | exact HB.out | apply below_alloc | apply pw_below_drewN | apply below_drew1 | refine below_set ?_ GE281.out | refine below_set ?_ GE282.out) | exact HB.out)⟩
end Go.Proofs.Ytpphnjmppkbpbaa.PAll
namespace Go.Proofs.Ytpphnjmppkbpbaa.PAll
open Go.RowKit Go.Proofs.Ytpphnjmppkbpbaa.Xw Go.Proofs.YtpphnjmppkbpbaaW.PrintWords Go.Proofs.YtpphnjmppkbpbaaW.PrintLast Go.Proofs.YtpphnjmppkbpbaaW.PrintMore
attribute [local go_sem] max2_int min2_int max_two min_two max_three min_three max_four min_four   -- for this text's walks alone
set_option linter.unusedVariables false
set_option linter.unusedSimpArgs false
def spenceref24_Body.l0 : Nat → Int → Int → List Int → Int → Int → Int → Option (List Int)
  | 0, _, _, _, _, _, _ => none
  | k + 1, x0, x1, x7, x8, x188000, x188001 => (spenceref24_Length.f x0 x1).bind fun t188 => (if x8 < t188 then ((spenceref04_Right.f x188000 x188001).bind fun t189 => (if t189 = true then (if x8 ≥ x188000 then (if x8 < x188001 then ((spenceref24_Byte.f x0 x1 x8).bind fun t190 => (if x7.length < 140737488355328 then (spenceref24_Body.l0 k x0 x1 (x7 ++ [t190]) (wrap64 (x8 + 1)) x188000 x188001) else (none))) else (spenceref24_Body.l0 k x0 x1 x7 (wrap64 (x8 + 1)) x188000 x188001)) else (spenceref24_Body.l0 k x0 x1 x7 (wrap64 (x8 + 1)) x188000 x188001)) else (spenceref24_Body.l0 k x0 x1 x7 (wrap64 (x8 + 1)) x188000 x188001))) else (some x7))
def spenceref24_Body.f (k : Nat) (a0 : Int) (a1 : Int) (a2_0 : Int) (a2_1 : Int) : Option (List Int) := spenceref24_Body.l0 k a0 a1 ([] : List Int) 0 a2_0 a2_1
theorem spenceref24_Body.mono_l : ∀ k, (∀ y0 y1 y2 y3 y4 y5, LeO (spenceref24_Body.l0 k y0 y1 y2 y3 y4 y5) (spenceref24_Body.l0 (k + 1) y0 y1 y2 y3 y4 y5))
  | 0 => fun _ _ _ _ _ _ r h => by simp [spenceref24_Body.l0] at h
  | k + 1 => by
    have ih0 := spenceref24_Body.mono_l k
    · intro y0 y1 y2 y3 y4 y5
      unfold spenceref24_Body.l0
      repeat' first
      | (with_reducible exact ih0 _ _ _ _ _ _)
      | (with_reducible exact LeO.refl _)
      | (with_reducible exact LeO.none _)
      | (with_reducible refine LeO.ite ?_ ?_)
      | (with_reducible refine LeO.bind ?_ (fun _ => ?_))
      | exact ih0 _ _ _ _ _ _
      | exact LeO.none _
      | refine LeO.ite ?_ ?_
      | refine LeO.bind ?_ (fun _ => ?_)
theorem spenceref24_Body.mono : ∀ a0 a1 a2 a3 k, LeO (spenceref24_Body.f k a0 a1 a2 a3) (spenceref24_Body.f (k + 1) a0 a1 a2 a3) := by
  intro a0 a1 a2 a3 k
  have ih0 := spenceref24_Body.mono_l k
  unfold spenceref24_Body.f
  repeat' first
      | (with_reducible exact ih0 _ _ _ _ _ _)
      | (with_reducible exact LeO.refl _)
      | (with_reducible exact LeO.none _)
      | (with_reducible refine LeO.ite ?_ ?_)
      | (with_reducible refine LeO.bind ?_ (fun _ => ?_))
      | exact ih0 _ _ _ _ _ _
      | exact LeO.none _
      | refine LeO.ite ?_ ?_
      | refine LeO.bind ?_ (fun _ => ?_)
end Go.Proofs.Ytpphnjmppkbpbaa.PAll
namespace Go.Proofs.Ytpphnjmppkbpbaa.Pure
open Go.RowKit Go.Proofs.YtpphnjmppkbpbaaW.PrintWords Go.Proofs.YtpphnjmppkbpbaaW.PrintLast Go.Proofs.YtpphnjmppkbpbaaW.PrintMore
theorem Ev.succ {α : Type} {g : Nat → Option α} {r : α} (h : Ev (fun k => g (k + 1)) r) : Ev g r := Ev.step (fun _ => rfl) h
theorem Ev.all {α : Type} {g : Nat → Option α} {r : α} (h : ∀ k, g k = some r) : Ev g r := ⟨0, fun k _ => h k⟩
theorem Ev.pos {α : Type} {g : Nat → Option α} {r : α} (h : ∀ k, g (k + 1) = some r) : Ev g r := ⟨1, fun k hk => by obtain ⟨j, rfl⟩ : ∃ j, k = j + 1 := ⟨k - 1, by omega⟩; exact h j⟩
theorem wrap_id {x : Int} (h : -9223372036854775808 ≤ x ∧ x ≤ 9223372036854775807) : wrap64 x = x := by unfold wrap64; omega
theorem mn_eq (a b : Int) : mn a b = min a b := by unfold mn; split <;> omega
theorem mx_eq (a b : Int) : mx a b = max a b := by unfold mx; split <;> omega
end Go.Proofs.Ytpphnjmppkbpbaa.Pure
namespace Go.Proofs.Ytpphnjmppkbpbaa.Pure
open Go.RowKit Go.Proofs.YtpphnjmppkbpbaaW.PrintWords
/-- the number of digits (bytes as numbers), from n on -/
def fval (n : Int) (l : List Int) : Int := l.foldl (fun n b => 10 * n + (b - 48)) n
def isDig (b : Int) : Bool := decide (48 ≤ b) && decide (b ≤ 57)
theorem isDig_iff (b : Int) : isDig b = true ↔ 48 ≤ b ∧ b ≤ 57 := by simp [isDig]
theorem fval_cons (n b : Int) (l : List Int) : fval n (b :: l) = fval (10 * n + (b - 48)) l := rfl
theorem fval_snoc (n b : Int) (l : List Int) : fval n (l ++ [b]) = 10 * fval n l + (b - 48) := by simp [fval]
theorem fval_ge (l : List Int) : ∀ n : Int, 0 ≤ n → l.all isDig = true → n ≤ fval n l := by
  induction l with
  | nil => intro n _ _; exact Int.le_refl _
  | cons b l ih =>
    intro n hn h
    simp only [List.all_cons, Bool.and_eq_true, isDig_iff] at h
    have := ih (10 * n + (b - 48)) (by omega) h.2
    rw [fval_cons]
    omega
/-- digits of a number, the last one first -/
def rdig (u : Nat) : List Int := if u < 10 then [48 + (u : Int)] else (48 + ((u % 10 : Nat) : Int)) :: rdig (u / 10)
decreasing_by omega
def dig (u : Nat) : List Int := (rdig u).reverse
theorem dig_small {u : Nat} (h : u < 10) : dig u = [48 + (u : Int)] := by unfold dig; rw [rdig, if_pos h]; rfl
theorem dig_big {u : Nat} (h : ¬ u < 10) : dig u = dig (u / 10) ++ [48 + ((u % 10 : Nat) : Int)] := by
  unfold dig; rw [rdig, if_neg h, List.reverse_cons]
theorem dig_all (u : Nat) : (dig u).all isDig = true ∧ dig u ≠ [] ∧ fval 0 (dig u) = u := by
  induction u using Nat.strongRecOn with
  | _ u ih =>
    by_cases h : u < 10
    · rw [dig_small h]
      refine ⟨by simp [isDig_iff]; omega, by simp, ?_⟩
      simp only [fval, List.foldl_cons, List.foldl_nil]; omega
    · have := ih (u / 10) (by omega)
      rw [dig_big h]
      refine ⟨by rw [List.all_append, this.1]; simp [isDig_iff]; omega, by simp, ?_⟩
      rw [fval_snoc, this.2.2]
      omega
theorem dig_length (u : Nat) : ∀ k : Nat, u < 10 ^ (k + 1) → (dig u).length ≤ k + 1 := by
  induction u using Nat.strongRecOn with
  | _ u ih =>
    intro k hk
    by_cases h : u < 10
    · rw [dig_small h]; simp
    · rw [dig_big h, List.length_append]
      cases k with
      | zero => simp at hk; omega
      | succ k =>
        have := ih (u / 10) (by omega) k (by rw [Nat.pow_succ] at hk; omega)
        simp only [List.length_singleton]
        omega
end Go.Proofs.Ytpphnjmppkbpbaa.Pure
namespace Go.Proofs.Ytpphnjmppkbpbaa.Pure
open Go.RowKit Go.Proofs.YtpphnjmppkbpbaaW.PrintWords
def isB (b : Int) : Prop := 0 ≤ b ∧ b < 256
theorem bytesOf_inj {s t : ByteArray} : bytesOf s = bytesOf t ↔ s = t := by
  constructor
  · intro h
    have h2 : s.data.toList = t.data.toList := by
      unfold bytesOf at h
      exact (List.map_inj_right (fun a b h => by have := Int.ofNat_inj.1 h; exact UInt8.toNat_inj.1 this)).1 h
    have h3 : s.data = t.data := Array.toList_inj.1 h2
    cases s; cases t; simp_all
  · intro h; rw [h]
theorem toList_bytes (s t : ByteArray) : s.toList = t.toList ↔ bytesOf s = bytesOf t := by
  rw [ByteArray.toList_eq, ByteArray.toList_eq, bytesOf_inj]
  constructor
  · intro h; have := Array.toList_inj.1 h; cases s; cases t; simp_all
  · intro h; rw [h]
theorem toList_beq (s t : ByteArray) : (s.toList == t.toList) = decide (bytesOf s = bytesOf t) := by
  by_cases h : bytesOf s = bytesOf t
  · rw [decide_eq_true h, beq_iff_eq, toList_bytes]; exact h
  · rw [decide_eq_false h, beq_eq_false_iff_ne, ne_eq, toList_bytes]; exact h
theorem bytesOf_isB (s : ByteArray) : ∀ b ∈ bytesOf s, isB b := by
  intro b hb
  unfold bytesOf at hb
  obtain ⟨x, _, rfl⟩ := List.mem_map.1 hb
  have := x.toNat_lt
  unfold isB; omega
theorem bytesOf_str (l : List Int) (h : ∀ b ∈ l, isB b) : bytesOf (strOfNums l) = l := by
  unfold bytesOf
  rw [strOfNums_data, List.map_map]
  conv => rhs; rw [← List.map_id l]
  apply List.map_congr_left
  intro b hb
  have := h b hb
  unfold isB at this
  simp
  omega
theorem str_append (l m : List Int) : strOfNums l ++ strOfNums m = strOfNums (l ++ m) := by
  unfold strOfNums
  apply ByteArray.ext
  rw [ByteArray.data_append]
  simp
theorem str_bytes (s : ByteArray) : strOfNums (bytesOf s) = s := by
  rw [← bytesOf_inj]
  exact bytesOf_str _ (bytesOf_isB s)
theorem size_str (l : List Int) : (strOfNums l).size = l.length := strOfNums_size l
theorem bytesOf_extract (s : ByteArray) (a b : Nat) : bytesOf (s.extract a b) = ((bytesOf s).take b).drop a := by
  unfold bytesOf
  rw [ByteArray.data_extract, Array.toList_extract, List.extract_eq_take_drop]
  rw [← List.map_take, ← List.map_drop]
  congr 1
  by_cases h : a ≤ b
  · rw [List.take_drop, Nat.add_sub_cancel' h]
  · have e : b - a = 0 := by omega
    rw [e, List.take_zero, List.drop_of_length_le (by rw [List.length_take]; omega)]
theorem bytesOf_eq_nil (s : ByteArray) : bytesOf s = [] ↔ s.size = 0 := by
  rw [← bytesOf_length]
  exact ⟨fun h => by rw [h]; rfl, fun h => List.eq_nil_of_length_eq_zero h⟩
theorem toList_nil (s : ByteArray) : s.toList = ([] : List UInt8) ↔ bytesOf s = [] := by
  rw [ByteArray.toList_eq]
  unfold bytesOf
  simp
end Go.Proofs.Ytpphnjmppkbpbaa.Pure
namespace Go.Proofs.Ytpphnjmppkbpbaa.Pure
open Go.RowKit Go.Proofs.Ytpphnjmppkbpbaa.PAll Go.Proofs.YtpphnjmppkbpbaaW.PrintWords Go.Proofs.YtpphnjmppkbpbaaW.PrintLast Go.Proofs.YtpphnjmppkbpbaaW.PrintMore
theorem bytes_drop (s : ByteArray) (i : Int) (h0 : 0 ≤ i) (h1 : i < s.size) : (bytesOf s).drop i.toNat = bt s i :: (bytesOf s).drop (i + 1).toNat := by
  have hl : i.toNat < (bytesOf s).length := by rw [bytesOf_length]; omega
  have e : (i + 1).toNat = i.toNat + 1 := by omega
  rw [List.drop_eq_getElem_cons hl, e, ← rd_bytesOf]
  simp [rd, hl]
theorem ext_str (s : ByteArray) (a b : Nat) : s.extract a b = strOfNums (((bytesOf s).take b).drop a) := by
  rw [← bytesOf_extract, str_bytes]
theorem take_size (s : ByteArray) : (bytesOf s).take s.size = bytesOf s := List.take_of_length_le (by rw [bytesOf_length]; omega)
def i8s (l : List UInt8) : List Int := l.map fun b => (b.toNat : Int)
theorem rev_loop (d : Nat) : ∀ (l : List Int) (i : Int), l.length ≤ 4611686018427387904 → 0 ≤ i → 2 * i ≤ (l.length : Int) → (l.length : Int) - 2 * i ≤ d →
    Ev (fun k => slices_Reverse_byte_byte.l0 k l i ((l.length : Int) - 1 - i)) (l.take i.toNat ++ ((l.drop i.toNat).take (l.length - 2 * i.toNat)).reverse ++ l.drop (l.length - i.toNat)) := by
  induction d using Nat.strongRecOn with
  | _ d ih =>
    intro l i hl h0 h1 hd
    by_cases hlt : i < (l.length : Int) - 1 - i
    · have hi : i.toNat < l.length := by omega
      have hj : ((l.length : Int) - 1 - i).toNat = l.length - 1 - i.toNat := by omega
      have hjl : l.length - 1 - i.toNat < l.length := by omega
      generalize hm : (l.set (i : Int).toNat (rd l ((l.length : Int) - 1 - i))).set ((l.length : Int) - 1 - i : Int).toNat (rd l i) = m
      have hml : m.length = l.length := by rw [← hm]; simp
      have := ih (d - 2) (by omega) m (i + 1) (by omega) (by omega) (by omega) (by omega)
      obtain ⟨K, hK⟩ := this
      refine ⟨K + 1, fun k hk => ?_⟩
      obtain ⟨k, rfl⟩ : ∃ j, k = j + 1 := ⟨k - 1, by omega⟩
      have h := hK k (by omega)
      dsimp only at h
      have w1 : wrap64 (i + 1) = i + 1 := wrap_id (by omega)
      have w2 : wrap64 ((l.length : Int) - 1 - i - 1) = (m.length : Int) - 1 - (i + 1) := by rw [wrap_id (by omega)]; omega
      simp only [slices_Reverse_byte_byte.l0]
      rw [if_pos hlt, if_pos (by omega), if_pos (by omega), if_pos h0, if_pos (by omega), hm, w1, w2, h]
      congr 1
      have e1 : (i + 1).toNat = i.toNat + 1 := by omega
      have r1 : rd l ((l.length : Int) - 1 - i) = l[l.length - 1 - i.toNat] := by simp [rd, hj, hjl]
      have r2 : rd l i = l[i.toNat] := by simp [rd, hi]
      rw [r1, r2, hj] at hm
      apply List.ext_getElem?
      intro q
      have gm : ∀ q, m[q]? = if q = l.length - 1 - i.toNat then some l[i.toNat] else if q = i.toNat then some l[l.length - 1 - i.toNat] else l[q]? := by
        intro q
        rw [← hm, List.getElem?_set, List.getElem?_set]
        simp only [List.length_set]
        by_cases a1 : l.length - 1 - i.toNat = q
        · rw [if_pos a1, if_pos (by omega), if_pos a1.symm]
        · rw [if_neg a1, if_neg (show ¬ q = l.length - 1 - i.toNat from fun h => a1 h.symm)]
          by_cases a2 : i.toNat = q
          · rw [if_pos a2, if_pos (by omega), if_pos (show q = i.toNat from a2.symm)]
          · rw [if_neg a2, if_neg (show ¬ q = i.toNat from fun h => a2 h.symm)]
      have spec : ∀ (x : List Int) (a : Nat), x.length = l.length → 2 * a ≤ l.length → ∀ q, (x.take a ++ ((x.drop a).take (l.length - 2 * a)).reverse ++ x.drop (l.length - a))[q]? = if q < a then x[q]? else if q < l.length - a then x[l.length - 1 - q]? else x[q]? := by
        intro x a hx ha q
        by_cases b1 : q < a
        · rw [if_pos b1, List.append_assoc, List.getElem?_append_left (by simp; omega), List.getElem?_take, if_pos b1]
        · rw [if_neg b1]
          by_cases b2 : q < l.length - a
          · rw [if_pos b2, List.getElem?_append_left (by simp; omega), List.getElem?_append_right (by simp; omega)]
            rw [List.getElem?_reverse (by simp; omega), List.getElem?_take, if_pos (by simp; omega), List.getElem?_drop]
            congr 1
            simp
            omega
          · rw [if_neg b2, List.getElem?_append_right (by simp; omega), List.getElem?_drop]
            congr 1
            simp
            omega
      rw [hml, e1, spec m (i.toNat + 1) hml (by omega) q, spec l i.toNat rfl (by omega) q]
      by_cases c1 : q < i.toNat
      · rw [if_pos (by omega), if_pos c1, gm, if_neg (by omega), if_neg (by omega)]
      · rw [if_neg c1]
        by_cases c2 : q = i.toNat
        · subst c2
          rw [if_pos (by omega), if_pos (by omega), gm, if_neg (by omega), if_pos rfl, List.getElem?_eq_getElem hjl]
        · rw [if_neg (by omega)]
          by_cases c3 : q < l.length - (i.toNat + 1)
          · rw [if_pos c3, if_pos (by omega), gm, if_neg (by omega), if_neg (by omega)]
          · rw [if_neg c3]
            by_cases c4 : q = l.length - 1 - i.toNat
            · rw [if_pos (by omega), gm, if_pos c4]
              have : l.length - 1 - q = i.toNat := by omega
              rw [this, List.getElem?_eq_getElem hi]
            · rw [if_neg (by omega), gm, if_neg c4, if_neg c2]
    · refine Ev.pos (fun k => ?_)
      simp only [slices_Reverse_byte_byte.l0]
      rw [if_neg hlt]
      congr 1
      have hz : l.length - 2 * i.toNat = 0 ∨ l.length - 2 * i.toNat = 1 := by omega
      have hr : ((l.drop i.toNat).take (l.length - 2 * i.toNat)).reverse = (l.drop i.toNat).take (l.length - 2 * i.toNat) := by
        rcases hz with h | h <;> rw [h]
        · simp
        · cases l.drop i.toNat <;> simp
      rw [hr, List.append_assoc]
      have e : l.drop (l.length - i.toNat) = (l.drop i.toNat).drop (l.length - 2 * i.toNat) := by rw [List.drop_drop]; congr 1; omega
      rw [e, List.take_append_drop, List.take_append_drop]
theorem reverse_ev (l : List Int) (hl : l.length ≤ 4611686018427387904) : Ev (fun k => slices_Reverse_byte_byte.f k l) l.reverse := by
  have := rev_loop l.length l 0 hl (by omega) (by omega) (by omega)
  unfold slices_Reverse_byte_byte.f
  rw [wrap_id (by omega)]
  simpa using this
end Go.Proofs.Ytpphnjmppkbpbaa.Pure
namespace Go.Proofs.Ytpphnjmppkbpbaa.Pure
open Go.RowKit Go.Proofs.Ytpphnjmppkbpbaa.PAll Go.Proofs.YtpphnjmppkbpbaaW.PrintWords Go.Proofs.YtpphnjmppkbpbaaW.PrintLast Go.Proofs.YtpphnjmppkbpbaaW.PrintMore
theorem u64_mod (x : Int) : IntKind.u64.wrap x = x % 18446744073709551616 := by
  unfold IntKind.wrap; simp [IntKind.signed, IntKind.bits]
theorem u64_id {x : Int} (h : 0 ≤ x ∧ x < 18446744073709551616) : IntKind.u64.wrap x = x := by rw [u64_mod]; omega
/-- a number's text -/
def ptext (n : Int) : List Int := if n < 0 then 45 :: dig n.natAbs else dig n.toNat
theorem dig_isB (u : Nat) : ∀ b ∈ dig u, isB b := by
  intro b hb
  have := List.all_eq_true.1 (dig_all u).1 b hb
  rw [isDig_iff] at this
  unfold isB; omega
theorem dig_len (u : Nat) (h : u < 18446744073709551616) : (dig u).length ≤ 20 := dig_length u 19 (by omega)
theorem rdig_len (u : Nat) (h : u < 18446744073709551616) : (rdig u).length ≤ 20 := by have := dig_len u h; unfold dig at this; simpa using this
theorem pdigit (u : Nat) : (IntKind.u64.wrap (48 + Int.tmod u 10)) % 256 = 48 + ((u % 10 : Nat) : Int) := by
  have h : Int.tmod (u : Int) 10 = ((u % 10 : Nat) : Int) := by rw [Int.tmod_eq_emod_of_nonneg (by omega)]; omega
  rw [h, u64_id (by omega)]; omega
theorem pdiv (u : Nat) (h : u < 18446744073709551616) : IntKind.u64.wrap (Int.tdiv u 10) = ((u / 10 : Nat) : Int) := by
  have e : Int.tdiv (u : Int) 10 = ((u / 10 : Nat) : Int) := by rw [Int.tdiv_eq_ediv_of_nonneg (by omega)]; omega
  rw [e, u64_id (by omega)]
theorem print_loop (pre : List Int) (hp : pre.length ≤ 10) (u : Nat) : u < 18446744073709551616 → ∀ acc : List Int, acc.length ≤ 40 → (acc ++ rdig u).length ≤ 40 →
    Ev (fun k => nums_Print.l0 k (u : Int) (strOfNums pre) acc) (strOfNums (pre ++ (acc ++ rdig u).reverse)) := by
  induction u using Nat.strongRecOn with
  | _ u ih =>
    intro hu acc ha hb
    have e : pre.length + (acc ++ rdig u).length ≤ 50 := by omega
    by_cases h : u < 10
    · have hr : rdig u = [48 + ((u % 10 : Nat) : Int)] := by rw [rdig, if_pos h]; congr 2; omega
      obtain ⟨K, hK⟩ := reverse_ev (acc ++ [48 + ((u % 10 : Nat) : Int)]) (by simp; omega)
      refine ⟨K + 1, fun k hk => ?_⟩
      obtain ⟨k, rfl⟩ : ∃ j, k = j + 1 := ⟨k - 1, by omega⟩
      have hk2 := hK k (by omega)
      dsimp only at hk2
      simp only [nums_Print.l0, pdigit, pdiv u hu, Option.bind_some]
      rw [if_pos (by omega), if_pos (by omega), hk2]
      simp only [Option.bind_some, size_str]
      rw [if_pos (by simp; omega), str_append, hr]
    · have hr : rdig u = (48 + ((u % 10 : Nat) : Int)) :: rdig (u / 10) := by rw [rdig, if_neg h]
      rw [hr] at hb ⊢
      obtain ⟨K, hK⟩ := ih (u / 10) (by omega) (by omega) (acc ++ [48 + ((u % 10 : Nat) : Int)]) (by simp at hb ⊢; omega) (by simpa using hb)
      refine ⟨K + 1, fun k hk => ?_⟩
      obtain ⟨k, rfl⟩ : ∃ j, k = j + 1 := ⟨k - 1, by omega⟩
      have hk2 := hK k (by omega)
      dsimp only at hk2
      simp only [nums_Print.l0, pdigit, pdiv u hu, Option.bind_some]
      rw [if_pos (by omega), if_neg (by omega), hk2]
      simp
theorem print_ev (n : Int) (h : -9223372036854775808 ≤ n ∧ n ≤ 9223372036854775807) : Ev (fun k => nums_Print.f k n) (strOfNums (ptext n)) := by
  unfold ptext
  by_cases h0 : n < 0
  · have e1 : IntKind.u64.wrap n = n + 18446744073709551616 := by rw [u64_mod]; omega
    have e2 : IntKind.u64.wrap (-(n + 18446744073709551616)) = (n.natAbs : Int) := by rw [u64_mod]; omega
    have hr := rdig_len n.natAbs (by omega)
    obtain ⟨K, hK⟩ := print_loop [45] (by simp) n.natAbs (by omega) [] (by simp) (by simp; omega)
    refine ⟨K + 1, fun k hk => ?_⟩
    obtain ⟨k, rfl⟩ : ∃ j, k = j + 1 := ⟨k - 1, by omega⟩
    have hk2 := hK k (by omega)
    dsimp only at hk2
    simp only [nums_Print.f, nums_Print.j0, e1, e2]
    rw [if_pos h0, if_pos h0]
    exact hk2
  · have e1 : IntKind.u64.wrap n = (n.toNat : Int) := by rw [u64_mod]; omega
    have hr := rdig_len n.toNat (by omega)
    obtain ⟨K, hK⟩ := print_loop [] (by simp) n.toNat (by omega) [] (by simp) (by simp; omega)
    refine ⟨K + 1, fun k hk => ?_⟩
    obtain ⟨k, rfl⟩ : ∃ j, k = j + 1 := ⟨k - 1, by omega⟩
    have hk2 := hK k (by omega)
    dsimp only at hk2
    simp only [nums_Print.f, nums_Print.j0, e1]
    rw [if_neg h0, if_neg h0]
    exact hk2
end Go.Proofs.Ytpphnjmppkbpbaa.Pure
namespace Go.Proofs.Ytpphnjmppkbpbaa.Pure
open Go.RowKit Go.Proofs.Ytpphnjmppkbpbaa.PAll Go.Proofs.YtpphnjmppkbpbaaW.PrintWords Go.Proofs.YtpphnjmppkbpbaaW.PrintLast Go.Proofs.YtpphnjmppkbpbaaW.PrintMore
def mayV (a v : Int) : Bool := decide (0 ≤ a ∧ a ≤ 15 ∧ 0 ≤ v ∧ v ≤ 1000000)
theorem fits_v (a lo hi : Int) : nums_Fits.f a lo hi = some (decide (lo ≤ a ∧ a ≤ hi)) := by
  unfold nums_Fits.f
  by_cases h : a ≥ lo
  · rw [if_pos h]; have : lo ≤ a := h
    simp [this]
  · rw [if_neg h]; have : ¬ lo ≤ a := h
    simp [this]
theorem may_v (a v : Int) : version_may.f a v = some (mayV a v) := by
  unfold version_may.f mayV
  rw [fits_v]
  simp only [Option.bind_some, fits_v]
  by_cases h1 : 0 ≤ a ∧ a ≤ 15
  · rw [if_pos (decide_eq_true h1)]
    simp [h1]
  · rw [if_neg (by simpa using h1)]
    simp; intro h2 h3; exact absurd ⟨h2, h3⟩ h1
def lenV (a v : Int) : Int := if mayV a v then (53 * a + 29 * v) % 160 else 0
theorem len_v (a v : Int) : version_Length.f a v = some (lenV a v) := by
  unfold version_Length.f lenV
  rw [may_v]
  simp only [Option.bind_some]
  by_cases h : mayV a v = true
  · rw [if_pos h, if_pos h]
    have h := of_decide_eq_true h
    rw [wrap_id (x := 53 * a) (by omega), wrap_id (x := 29 * v) (by omega), wrap_id (by omega), Int.tmod_eq_emod_of_nonneg (by omega)]
  · rw [if_neg h, if_neg h]
theorem lenV_range (a v : Int) : 0 ≤ lenV a v ∧ lenV a v < 160 := by unfold lenV; split <;> omega
def tagV (a v : Int) : List Int := if mayV a v then (118 :: dig a.toNat) ++ (45 :: dig v.toNat) else []
theorem tag_parts (p q : List Int) : ((((⟨#[118]⟩ : ByteArray) ++ strOfNums p) ++ (⟨#[45]⟩ : ByteArray)) ++ strOfNums q) = strOfNums ((118 :: p) ++ (45 :: q)) := by
  have e1 : (⟨#[118]⟩ : ByteArray) = strOfNums [118] := by decide
  have e2 : (⟨#[45]⟩ : ByteArray) = strOfNums [45] := by decide
  rw [e1, e2, str_append, str_append, str_append]
  simp
theorem ptext_dig (a : Int) (h : 0 ≤ a) : ptext a = dig a.toNat := by unfold ptext; rw [if_neg (by omega)]
theorem tag_v (a v : Int) : Ev (fun k => version_Tag.f k a v) (strOfNums (tagV a v)) := by
  unfold version_Tag.f tagV
  rw [may_v]
  simp only [Option.bind_some]
  by_cases h : mayV a v = true
  · simp only [h, if_true]
    have h := of_decide_eq_true h
    have l1 := dig_len a.toNat (by omega)
    have l2 := dig_len v.toNat (by omega)
    have p1 := print_ev a (by omega)
    have p2 := print_ev v (by omega)
    rw [ptext_dig _ (by omega)] at p1 p2
    refine Ev.bind p1 ?_
    simp only [size_str, show 1 + (dig a.toNat).length ≤ 9223372036854775807 by omega, show 1 + (dig a.toNat).length + 1 ≤ 9223372036854775807 by omega, if_true]
    refine Ev.bind p2 ?_
    simp only [size_str, show 1 + (dig a.toNat).length + 1 + (dig v.toNat).length ≤ 9223372036854775807 by omega, if_true]
    rw [tag_parts]
    exact Ev.now _
  · simp only [h]; exact Ev.now _
theorem tagV_isB (a v : Int) : ∀ b ∈ tagV a v, isB b := by
  intro b hb
  unfold tagV at hb
  split at hb
  · simp only [List.cons_append, List.mem_cons, List.mem_append] at hb
    rcases hb with h | h | h | h
    · unfold isB; omega
    · exact dig_isB _ b h
    · unfold isB; omega
    · exact dig_isB _ b h
  · cases hb
end Go.Proofs.Ytpphnjmppkbpbaa.Pure
namespace Go.Proofs.Ytpphnjmppkbpbaa.Pure
open Go.RowKit Go.Proofs.Ytpphnjmppkbpbaa.PAll Go.Proofs.YtpphnjmppkbpbaaW.PrintWords Go.Proofs.YtpphnjmppkbpbaaW.PrintLast Go.Proofs.YtpphnjmppkbpbaaW.PrintMore
def byteV (a v i : Int) : Int := if 0 ≤ i ∧ i < lenV a v then (7 * a + 13 * v + i + i * i / 3) % 256 else 0
theorem byte_v (a v i : Int) : version_Byte.f a v i = some (byteV a v i) := by
  unfold version_Byte.f byteV
  have hl := lenV_range a v
  rw [len_v]
  simp only [Option.bind_some, fits_v]
  rw [wrap_id (x := lenV a v - 1) (by omega)]
  by_cases h : 0 ≤ i ∧ i < lenV a v
  · rw [if_pos (decide_eq_true (by omega)), if_pos h]
    have hm : mayV a v = true := by
      unfold lenV at h
      by_cases hm : mayV a v = true
      · exact hm
      · rw [if_neg hm] at h; omega
    have hm := of_decide_eq_true hm
    have hsq : 0 ≤ i * i ∧ i * i ≤ 160 * 160 := ⟨Int.mul_nonneg h.1 h.1, by have := Int.mul_le_mul (show i ≤ 160 by omega) (show i ≤ 160 by omega) h.1 (by omega); omega⟩
    rw [wrap_id (x := 7 * a) (by omega), wrap_id (x := 13 * v) (by omega), wrap_id (x := 7 * a + 13 * v) (by omega), wrap_id (x := i * i) (by omega), Int.tdiv_eq_ediv_of_nonneg hsq.1, wrap_id (x := i * i / 3) (by omega), wrap_id (x := 7 * a + 13 * v + i) (by omega), wrap_id (by omega)]
  · rw [if_neg (by simp; omega), if_neg h]
def rightS (p q : Int) : Bool := decide (0 ≤ p ∧ p < q ∧ q ≤ 4611686018427387903)
theorem span_right_v (p q : Int) : span_Right.f p q = some (rightS p q) := by
  unfold span_Right.f rightS
  by_cases h1 : p ≥ 0
  · rw [if_pos h1]
    by_cases h2 : p < q
    · rw [if_pos h2]; have : 0 ≤ p := h1
      simp [h2, this]
    · rw [if_neg h2]; simp [h2]
  · rw [if_neg h1]; have : ¬ 0 ≤ p := h1
    simp [this]
/-- the bytes from i on, d of them -/
def bytesV (a v : Int) : Nat → Int → List Int
  | 0, _ => []
  | d + 1, i => byteV a v i :: bytesV a v d (i + 1)
theorem bytesV_len (a v : Int) : ∀ d i, (bytesV a v d i).length = d := by
  intro d
  induction d with
  | zero => intro i; rfl
  | succ d ih => intro i; rw [bytesV, List.length_cons, ih]
/-- what a span has in common with the version -/
def cutV (a v p q : Int) : Int × Int := if rightS p q && rightS (max p 0) (min q (lenV a v)) then (p, min q (lenV a v)) else (0, 0)
def bodyV (a v p q : Int) : List Int := bytesV a v ((cutV a v p q).2 - (cutV a v p q).1).toNat (cutV a v p q).1
theorem meet_v (a v p q : Int) : ∃ b, span_Meet.f p q 0 (lenV a v) = some ((cutV a v p q).1, (cutV a v p q).2, b) := by
  unfold span_Meet.f cutV
  have hl := lenV_range a v
  simp only [span_right_v, Option.bind_some, mx_eq, mn_eq]
  by_cases h1 : rightS p q = true
  · rw [if_pos h1, h1, Bool.true_and]
    have h1' := of_decide_eq_true h1
    have hmax : max p 0 = p := by omega
    rw [hmax]
    by_cases h2 : rightS 0 (lenV a v) = true
    · rw [if_pos h2]
      by_cases h3 : rightS p (min q (lenV a v)) = true
      · rw [if_pos h3, if_pos h3]; exact ⟨_, rfl⟩
      · rw [if_neg h3, if_neg h3]; exact ⟨_, rfl⟩
    · rw [if_neg h2]
      have h3 : ¬ rightS p (min q (lenV a v)) = true := by
        intro h3
        have h3 := of_decide_eq_true h3
        apply h2
        unfold rightS
        exact decide_eq_true (by omega)
      rw [if_neg h3]; exact ⟨_, rfl⟩
  · have h1' : rightS p q = false := by simpa using h1
    rw [if_neg h1, h1', Bool.false_and]; exact ⟨_, rfl⟩
theorem cutV_range (a v p q : Int) : 0 ≤ (cutV a v p q).1 ∧ (cutV a v p q).1 ≤ (cutV a v p q).2 ∧ (cutV a v p q).2 ≤ 160 := by
  have hl := lenV_range a v
  unfold cutV
  by_cases h : (rightS p q && rightS (max p 0) (min q (lenV a v))) = true
  · rw [if_pos h]
    rw [Bool.and_eq_true] at h
    have h1 := of_decide_eq_true h.1
    have h2 := of_decide_eq_true h.2
    dsimp only; omega
  · rw [if_neg h]; dsimp only; omega
theorem body_loop (a v p q n : Int) (hp : 0 ≤ p ∧ p ≤ 160) (hn : n ≤ 160) (d : Nat) : ∀ (i : Int) (out : List Int), 0 ≤ i → (n - i).toNat = d → i ≤ n ∨ d = 0 → out.length ≤ 1000 - d →  d ≤ 160 →
    Ev (fun k => version_Body.l0 k a v out n i p q) (out ++ bytesV a v d (p + i)) := by
  induction d with
  | zero =>
    intro i out h0 hd _ _ _
    refine Ev.pos (fun k => ?_)
    simp only [version_Body.l0]
    rw [if_neg (by omega), bytesV, List.append_nil]
  | succ d ih =>
    intro i out h0 hd _ ho hd2
    have := ih (i + 1) (out ++ [byteV a v (p + i)]) (by omega) (by omega) (by omega) (by rw [List.length_append, List.length_singleton]; omega) (by omega)
    have e : p + (i + 1) = p + i + 1 := by omega
    rw [List.append_assoc, List.singleton_append, e] at this
    rw [bytesV]
    refine Ev.step (fun k => ?_) this
    simp only [version_Body.l0]
    rw [if_pos (by omega), wrap_id (x := p + i) (by omega), byte_v]
    simp only [Option.bind_some]
    rw [if_pos (by omega), wrap_id (by omega)]
theorem body_v (a v p q : Int) : Ev (fun k => version_Body.f k a v p q) (bodyV a v p q) := by
  unfold version_Body.f
  obtain ⟨b, hb⟩ := meet_v a v p q
  have hr := cutV_range a v p q
  rw [len_v]
  simp only [Option.bind_some, hb]
  have hlen : span_Len.f (cutV a v p q).1 (cutV a v p q).2 = some ((cutV a v p q).2 - (cutV a v p q).1) := by
    unfold span_Len.f
    rw [span_right_v]
    simp only [Option.bind_some]
    by_cases h : rightS (cutV a v p q).1 (cutV a v p q).2 = true
    · rw [if_pos h, wrap_id (by omega)]
    · rw [if_neg h]
      have : (cutV a v p q).2 = (cutV a v p q).1 := by
        have : ¬ (cutV a v p q).1 < (cutV a v p q).2 := fun x => h (decide_eq_true ⟨hr.1, x, by omega⟩)
        omega
      rw [this, Int.sub_self]
  rw [hlen]
  simp only [Option.bind_some]
  have := body_loop a v (cutV a v p q).1 (cutV a v p q).2 ((cutV a v p q).2 - (cutV a v p q).1) (by omega) (by omega) _ 0 [] (by omega) rfl (.inl (by omega)) (by simp) (by omega)
  rw [List.nil_append, Int.add_zero] at this
  have e : ((cutV a v p q).2 - (cutV a v p q).1 - 0).toNat = ((cutV a v p q).2 - (cutV a v p q).1).toNat := by omega
  rw [e] at this
  exact this
theorem bodyV_len (a v p q : Int) : (bodyV a v p q).length ≤ 160 := by
  have := cutV_range a v p q
  unfold bodyV; rw [bytesV_len]; omega
end Go.Proofs.Ytpphnjmppkbpbaa.Pure
namespace Go.Proofs.Ytpphnjmppkbpbaa.Pure
open Go.RowKit Go.Proofs.Ytpphnjmppkbpbaa.PAll Go.Proofs.YtpphnjmppkbpbaaW.PrintWords Go.Proofs.YtpphnjmppkbpbaaW.PrintLast Go.Proofs.YtpphnjmppkbpbaaW.PrintMore
def unitT : List Int := [98, 121, 116, 101, 115, 32]
def crText (p q n : Int) : List Int := unitT ++ (ptext p ++ [45] ++ ptext (q - 1)) ++ [47] ++ ptext n
def crNone (n : Int) : List Int := unitT ++ [42, 47] ++ ptext n
theorem unit_str : (⟨#[98, 121, 116, 101, 115, 32]⟩ : ByteArray) = strOfNums unitT := by decide
theorem dash_str : (⟨#[45]⟩ : ByteArray) = strOfNums [45] := by decide
theorem slash_str : (⟨#[47]⟩ : ByteArray) = strOfNums [47] := by decide
theorem star_str : (⟨#[42]⟩ : ByteArray) = strOfNums [42] := by decide
theorem ptext_len (n : Int) (h : 0 ≤ n ∧ n ≤ 9223372036854775807) : (ptext n).length ≤ 20 := by
  rw [ptext_dig n h.1]; exact dig_len _ (by omega)
theorem cr_none_v (n : Int) (h : 0 ≤ n ∧ n ≤ 160) : Ev (fun k => crange_Print.f k false 0 0 n) (strOfNums (crNone n)) := by
  have hl := ptext_len n (by omega)
  have hr : Ev (fun k => crange_Right.f k false 0 0 n) true := by
    unfold crange_Right.f
    simp only [show ¬ n = -1 by omega, if_false, fits_v, Option.bind_some]
    rw [decide_eq_true (by omega)]
    refine Ev.pos (fun k => ?_)
    have : (n != -1) = true := by simp; omega
    simp [crange_Right.j0]; omega
  refine Ev.bind hr ?_
  simp only [if_true, Bool.false_eq_true, if_false, show ¬ n = -1 by omega, show 6 + 1 ≤ 9223372036854775807 by decide, show 7 + 1 ≤ 9223372036854775807 by decide]
  refine Ev.bind (print_ev n (by omega)) ?_
  simp only [size_str, show 8 + (ptext n).length ≤ 9223372036854775807 by omega, if_true]
  rw [unit_str, star_str, slash_str, str_append, str_append, str_append]
  have : unitT ++ [42] ++ [47] ++ ptext n = crNone n := by unfold crNone; simp
  rw [this]; exact Ev.now _
theorem cr_of_v (p q n : Int) (hr : rightS p q = true) (hq : q ≤ n) (hn : n ≤ 160) : Ev (fun k => crange_Of.f k p q n) (strOfNums (crText p q n)) := by
  have hr' := of_decide_eq_true hr
  have l1 := ptext_len p (by omega)
  have l2 := ptext_len (q - 1) (by omega)
  have l3 := ptext_len n (by omega)
  have hright : Ev (fun k => crange_Right.f k true p q n) true := by
    unfold crange_Right.f
    simp only [show ¬ n = -1 by omega, if_false, fits_v, Option.bind_some]
    rw [decide_eq_true (show 0 ≤ n ∧ n ≤ 4611686018427387903 by omega)]
    refine Ev.pos (fun k => ?_)
    simp only [crange_Right.j0, span_right_v, Option.bind_some, hr]
    rw [if_neg (by decide), if_pos trivial, if_pos trivial, if_neg (by omega), decide_eq_true hq]
  refine Ev.bind (f := fun _ t => some t) ?_ (Ev.now _)
  refine Ev.bind hright ?_
  simp only [if_true]
  refine Ev.bind (print_ev p (by omega)) ?_
  rw [wrap_id (x := q - 1) (by omega)]
  simp only [size_str, show (ptext p).length + 1 ≤ 9223372036854775807 by omega, if_true]
  refine Ev.bind (print_ev (q - 1) (by omega)) ?_
  simp only [size_str, show (ptext p).length + 1 + (ptext (q - 1)).length ≤ 9223372036854775807 by omega, show 6 + ((ptext p).length + 1 + (ptext (q - 1)).length) ≤ 9223372036854775807 by omega, show 6 + ((ptext p).length + 1 + (ptext (q - 1)).length) + 1 ≤ 9223372036854775807 by omega, if_true, show ¬ n = -1 by omega, if_false]
  refine Ev.bind (print_ev n (by omega)) ?_
  simp only [size_str, show 6 + ((ptext p).length + 1 + (ptext (q - 1)).length) + 1 + (ptext n).length ≤ 9223372036854775807 by omega, if_true]
  rw [unit_str, dash_str, slash_str, str_append, str_append, str_append, str_append, str_append]
  exact Ev.now _
def replyV (a : Int) (head : Bool) (m : List Int) (p q v : Int) : Int × ByteArray × Int × ByteArray × List Int :=
  if tagV a v = [] then (404, strOfNums [], 0, strOfNums [], [])
  else if head then (if m = tagV a v then (304, strOfNums (tagV a v), 0, strOfNums [], []) else (200, strOfNums (tagV a v), lenV a v, strOfNums [], []))
  else if m = tagV a v then (if rightS p q = true ∧ q ≤ lenV a v then (206, strOfNums (tagV a v), lenV a v, strOfNums (crText p q (lenV a v)), bodyV a v p q) else (416, strOfNums (tagV a v), 0, strOfNums (crNone (lenV a v)), []))
  else (412, strOfNums (tagV a v), 0, strOfNums [], [])
theorem reply_v (a : Int) (head : Bool) (s : ByteArray) (p q v : Int) : Ev (fun k => reply_Of.f k a head s p q v) (replyV a head (bytesOf s) p q v) := by
  have hl := lenV_range a v
  have e0 : (strOfNums (tagV a v)).toList = ([] : List UInt8) ↔ tagV a v = [] := by rw [toList_nil, bytesOf_str _ (tagV_isB a v)]
  have e1 : s.toList = (strOfNums (tagV a v)).toList ↔ bytesOf s = tagV a v := by rw [toList_bytes, bytesOf_str _ (tagV_isB a v)]
  refine Ev.bind (tag_v a v) ?_
  unfold replyV
  simp only [len_v, Option.bind_some, reply_Gone.f, reply_head.f]
  by_cases h0 : tagV a v = []
  · have h0' := e0.2 h0
    simp only [h0', if_true]; rw [if_pos h0]; exact Ev.now _
  have h0' : ¬ (strOfNums (tagV a v)).toList = ([] : List UInt8) := fun x => h0 (e0.1 x)
  simp only [h0', if_false]
  rw [if_neg h0]
  cases head with
  | true =>
    simp only [if_true]
    by_cases h1 : bytesOf s = tagV a v
    · have h1' := e1.2 h1
      simp only [h1', if_true]; rw [if_pos h1]; exact Ev.now _
    · have h1' : ¬ s.toList = (strOfNums (tagV a v)).toList := fun x => h1 (e1.1 x)
      simp only [h1', if_false]; rw [if_neg h1]; exact Ev.now _
  | false =>
    simp only [Bool.false_eq_true, if_false]
    by_cases h1 : bytesOf s = tagV a v
    · have h1' := e1.2 h1
      simp only [h1', if_true]; rw [if_pos h1]
      simp only [span_right_v, Option.bind_some]
      have hno : ¬ (rightS p q = true ∧ q ≤ lenV a v) → Ev (fun k => reply_Of.j0 k v (strOfNums (tagV a v)) (lenV a v) true a false s p q) (if rightS p q = true ∧ q ≤ lenV a v then (206, strOfNums (tagV a v), lenV a v, strOfNums (crText p q (lenV a v)), bodyV a v p q) else (416, strOfNums (tagV a v), 0, strOfNums (crNone (lenV a v)), [])) := by
        intro hn
        rw [if_neg hn]
        refine Ev.succ ?_
        simp only [reply_Of.j0, if_true]
        exact Ev.bind (cr_none_v (lenV a v) (by omega)) (Ev.now _)
      by_cases h2 : rightS p q = true
      · simp only [h2, if_true]
        by_cases h3 : q > lenV a v
        · rw [decide_eq_true h3]
          have := hno (fun h => by omega)
          rw [h2] at this; simpa using this
        · rw [decide_eq_false h3]
          refine Ev.succ ?_
          simp only [reply_Of.j0, Bool.false_eq_true, if_false]
          refine Ev.bind (cr_of_v p q (lenV a v) h2 (by omega) (by omega)) ?_
          refine Ev.bind (body_v a v p q) ?_
          have : (True ∧ q ≤ lenV a v) := ⟨trivial, by omega⟩
          rw [if_pos this]; exact Ev.now _
      · simp only [h2, Bool.false_eq_true, if_false]
        have := hno (fun h => h2 h.1)
        rw [if_neg (fun h => h2 h.1)] at this
        simpa using this
    · have h1' : ¬ s.toList = (strOfNums (tagV a v)).toList := fun x => h1 (e1.1 x)
      simp only [h1', if_false]; rw [if_neg h1]; exact Ev.now _
end Go.Proofs.Ytpphnjmppkbpbaa.Pure
namespace Go.Proofs.Ytpphnjmppkbpbaa.PAll
open Go.RowKit Go.Proofs.Ytpphnjmppkbpbaa.Xw Go.Proofs.YtpphnjmppkbpbaaW.PrintWords Go.Proofs.YtpphnjmppkbpbaaW.PrintLast Go.Proofs.YtpphnjmppkbpbaaW.PrintMore
attribute [local go_sem] max2_int min2_int max_two min_two max_three min_three max_four min_four   -- for this text's walks alone
set_option linter.unusedVariables false
set_option linter.unusedSimpArgs false
mutual
def spenceref24_Reply.j0 : Nat → Int → ByteArray → Int → Bool → Int → Bool → ByteArray → Int → Int → Option (Int × ByteArray × Int × ByteArray × List Int)
  | 0, _, _, _, _, _, _, _, _, _ => none
  | k + 1, x1, x5, x6, x33, x195000, x195001, x195002, x195003, x195004 => if x33 = true then (some (304, x5, 0, (⟨#[]⟩ : ByteArray), ([] : List Int))) else (if x195001 = true then (some (200, x5, x6, (⟨#[]⟩ : ByteArray), ([] : List Int))) else (if x195002.toList = x5.toList then ((spenceref04_Right.f x195003 x195004).bind fun t198 => (if t198 = true then (spenceref24_Reply.j1 k x1 x5 x6 (decide (x195004 > x6)) x195000 x195001 x195002 x195003 x195004) else (spenceref24_Reply.j1 k x1 x5 x6 true x195000 x195001 x195002 x195003 x195004))) else (some (412, x5, 0, (⟨#[]⟩ : ByteArray), ([] : List Int)))))
def spenceref24_Reply.j1 : Nat → Int → ByteArray → Int → Bool → Int → Bool → ByteArray → Int → Int → Option (Int × ByteArray × Int × ByteArray × List Int)
  | 0, _, _, _, _, _, _, _, _, _ => none
  | k + 1, x1, x5, x6, x57, x195000, x195001, x195002, x195003, x195004 => if x57 = true then ((spenceref01_Print.f k x6).bind fun t199 => (if 8 + t199.size ≤ 9223372036854775807 then (some (416, x5, 0, (⟨#[98, 121, 116, 101, 115, 32, 42, 47]⟩ : ByteArray) ++ t199, ([] : List Int))) else (none))) else ((spenceref04_PrintContent.f k true x195003 x195004 x6).bind fun t200 => ((spenceref24_Body.f k x195000 x1 x195003 x195004).bind fun t201 => (some (206, x5, x6, t200, t201))))
end
def spenceref24_Reply.f (k : Nat) (a0_0 : Int) (a0_1 : Bool) (a0_2 : ByteArray) (a0_3 : Int) (a0_4 : Int) (a1 : Int) : Option (Int × ByteArray × Int × ByteArray × List Int) := (spenceref24_Tag.f k a0_0 a1).bind fun t196 => ((spenceref24_Length.f a0_0 a1).bind fun t197 => (if t197 < 0 then (some (404, (⟨#[]⟩ : ByteArray), 0, (⟨#[]⟩ : ByteArray), ([] : List Int))) else (if a0_1 = true then (spenceref24_Reply.j0 k a1 t196 t197 (a0_2.toList == t196.toList) a0_0 a0_1 a0_2 a0_3 a0_4) else (spenceref24_Reply.j0 k a1 t196 t197 false a0_0 a0_1 a0_2 a0_3 a0_4))))
theorem spenceref24_Reply.mono_l : ∀ k, (∀ y0 y1 y2 y3 y4 y5 y6 y7 y8, LeO (spenceref24_Reply.j0 k y0 y1 y2 y3 y4 y5 y6 y7 y8) (spenceref24_Reply.j0 (k + 1) y0 y1 y2 y3 y4 y5 y6 y7 y8)) ∧ (∀ y0 y1 y2 y3 y4 y5 y6 y7 y8, LeO (spenceref24_Reply.j1 k y0 y1 y2 y3 y4 y5 y6 y7 y8) (spenceref24_Reply.j1 (k + 1) y0 y1 y2 y3 y4 y5 y6 y7 y8))
  | 0 => ⟨fun _ _ _ _ _ _ _ _ _ r h => by simp [spenceref24_Reply.j0] at h, fun _ _ _ _ _ _ _ _ _ r h => by simp [spenceref24_Reply.j1] at h⟩
  | k + 1 => by
    obtain ⟨ih0, ih1⟩ := spenceref24_Reply.mono_l k
    refine ⟨?_, ?_⟩
    · intro y0 y1 y2 y3 y4 y5 y6 y7 y8
      unfold spenceref24_Reply.j0
      repeat' first
      | (with_reducible exact ih0 _ _ _ _ _ _ _ _ _)
      | (with_reducible exact ih1 _ _ _ _ _ _ _ _ _)
      | (with_reducible exact spenceref01_Print.mono _ _)
      | (with_reducible exact spenceref04_PrintContent.mono _ _ _ _ _)
      | (with_reducible exact spenceref24_Body.mono _ _ _ _ _)
      | (with_reducible exact spenceref24_Tag.mono _ _ _)
      | (with_reducible exact LeO.refl _)
      | (with_reducible exact LeO.none _)
      | (with_reducible refine LeO.ite ?_ ?_)
      | (with_reducible refine LeO.bind ?_ (fun _ => ?_))
      | exact ih0 _ _ _ _ _ _ _ _ _
      | exact ih1 _ _ _ _ _ _ _ _ _
      | exact spenceref01_Print.mono _ _
      | exact spenceref04_PrintContent.mono _ _ _ _ _
      | exact spenceref24_Body.mono _ _ _ _ _
      | exact spenceref24_Tag.mono _ _ _
      | exact LeO.none _
      | refine LeO.ite ?_ ?_
      | refine LeO.bind ?_ (fun _ => ?_)
    · intro y0 y1 y2 y3 y4 y5 y6 y7 y8
      unfold spenceref24_Reply.j1
      repeat' first
      | (with_reducible exact ih0 _ _ _ _ _ _ _ _ _)
      | (with_reducible exact ih1 _ _ _ _ _ _ _ _ _)
      | (with_reducible exact spenceref01_Print.mono _ _)
      | (with_reducible exact spenceref04_PrintContent.mono _ _ _ _ _)
      | (with_reducible exact spenceref24_Body.mono _ _ _ _ _)
      | (with_reducible exact spenceref24_Tag.mono _ _ _)
      | (with_reducible exact LeO.refl _)
      | (with_reducible exact LeO.none _)
      | (with_reducible refine LeO.ite ?_ ?_)
      | (with_reducible refine LeO.bind ?_ (fun _ => ?_))
      | exact ih0 _ _ _ _ _ _ _ _ _
      | exact ih1 _ _ _ _ _ _ _ _ _
      | exact spenceref01_Print.mono _ _
      | exact spenceref04_PrintContent.mono _ _ _ _ _
      | exact spenceref24_Body.mono _ _ _ _ _
      | exact spenceref24_Tag.mono _ _ _
      | exact LeO.none _
      | refine LeO.ite ?_ ?_
      | refine LeO.bind ?_ (fun _ => ?_)
theorem spenceref24_Reply.mono : ∀ a0 a1 a2 a3 a4 a5 k, LeO (spenceref24_Reply.f k a0 a1 a2 a3 a4 a5) (spenceref24_Reply.f (k + 1) a0 a1 a2 a3 a4 a5) := by
  intro a0 a1 a2 a3 a4 a5 k
  obtain ⟨ih0, ih1⟩ := spenceref24_Reply.mono_l k
  unfold spenceref24_Reply.f
  repeat' first
      | (with_reducible exact ih0 _ _ _ _ _ _ _ _ _)
      | (with_reducible exact ih1 _ _ _ _ _ _ _ _ _)
      | (with_reducible exact spenceref01_Print.mono _ _)
      | (with_reducible exact spenceref04_PrintContent.mono _ _ _ _ _)
      | (with_reducible exact spenceref24_Body.mono _ _ _ _ _)
      | (with_reducible exact spenceref24_Tag.mono _ _ _)
      | (with_reducible exact LeO.refl _)
      | (with_reducible exact LeO.none _)
      | (with_reducible refine LeO.ite ?_ ?_)
      | (with_reducible refine LeO.bind ?_ (fun _ => ?_))
      | exact ih0 _ _ _ _ _ _ _ _ _
      | exact ih1 _ _ _ _ _ _ _ _ _
      | exact spenceref01_Print.mono _ _
      | exact spenceref04_PrintContent.mono _ _ _ _ _
      | exact spenceref24_Body.mono _ _ _ _ _
      | exact spenceref24_Tag.mono _ _ _
      | exact LeO.none _
      | refine LeO.ite ?_ ?_
      | refine LeO.bind ?_ (fun _ => ?_)
end Go.Proofs.Ytpphnjmppkbpbaa.PAll

namespace Go.Proofs.Ytpphnjmppkbpbaa.Pure
open Go.RowKit Go.Proofs.Ytpphnjmppkbpbaa.Xw Go.Proofs.Ytpphnjmppkbpbaa.PAll Go.Proofs.YtpphnjmppkbpbaaW.PrintWords Go.Proofs.YtpphnjmppkbpbaaW.PrintLast Go.Proofs.YtpphnjmppkbpbaaW.PrintMore
/-- cut at the first byte b -/
def cutOf (b : Int) : List Int → List Int × List Int × Bool
  | [] => ([], [], false)
  | x :: l => if x = b then ([], l, true) else (x :: (cutOf b l).1, (cutOf b l).2.1, (cutOf b l).2.2)
theorem cutOf_no (b : Int) (l : List Int) (h : (cutOf b l).2.2 = false) : (cutOf b l).1 = l ∧ (cutOf b l).2.1 = [] ∧ b ∉ l := by
  induction l with
  | nil => simp [cutOf]
  | cons x l ih =>
    unfold cutOf at h ⊢
    by_cases e : x = b
    · rw [if_pos e] at h; cases h
    · rw [if_neg e] at h ⊢
      have := ih h
      refine ⟨?_, this.2.1, ?_⟩
      · dsimp only; rw [this.1]
      · intro hm; rcases List.mem_cons.1 hm with h1 | h1
        · exact e h1.symm
        · exact this.2.2 h1
theorem cutOf_yes (b : Int) (l : List Int) (h : (cutOf b l).2.2 = true) : l = (cutOf b l).1 ++ b :: (cutOf b l).2.1 ∧ b ∉ (cutOf b l).1 := by
  induction l with
  | nil => simp [cutOf] at h
  | cons x l ih =>
    unfold cutOf at h ⊢
    by_cases e : x = b
    · rw [if_pos e]; subst e; simp
    · rw [if_neg e] at h ⊢
      have := ih h
      refine ⟨?_, ?_⟩
      · dsimp only; rw [List.cons_append, ← this.1]
      · intro hm; rcases List.mem_cons.1 hm with h1 | h1
        · exact e h1.symm
        · exact this.2 h1
theorem idx_i8 (l : List UInt8) (b : Int) (h : isB b) : Lib.indexByte l b.toNat.toUInt8 = if (cutOf b (i8s l)).2.2 then ((cutOf b (i8s l)).1.length : Int) else -1 := by
  induction l with
  | nil => simp [Lib.indexByte, i8s, cutOf]
  | cons x l ih =>
    unfold isB at h
    have hx : (x == b.toNat.toUInt8) = decide ((x.toNat : Int) = b) := by
      rw [Bool.eq_iff_iff, beq_iff_eq, decide_eq_true_iff]
      constructor
      · intro e; rw [e]; simp; omega
      · intro e; apply UInt8.toNat_inj.1; simp; omega
    unfold Lib.indexByte
    rw [hx, ih]
    have e3 : i8s (x :: l) = (x.toNat : Int) :: i8s l := rfl
    rw [e3, cutOf]
    by_cases e : (x.toNat : Int) = b
    · rw [if_pos e, decide_eq_true e]; rfl
    · rw [if_neg e, decide_eq_false e]
      dsimp only
      rw [if_neg (by decide)]
      by_cases hc : (cutOf b (i8s l)).2.2 = true
      · rw [if_pos hc, if_pos hc, if_neg (by simp), List.length_cons]; omega
      · rw [if_neg hc, if_neg hc]; rfl
theorem cut_eq (s : ByteArray) (b : Int) (hb : isB b) (hs : s.size ≤ 9223372036854775806) : text_Cut.f s b = some (strOfNums (cutOf b (bytesOf s)).1, strOfNums (cutOf b (bytesOf s)).2.1, (cutOf b (bytesOf s)).2.2) := by
  unfold text_Cut.f strings_IndexByte.f idxb
  rw [idx_i8 _ _ hb]
  have e0 : i8s s.data.toList = bytesOf s := rfl
  rw [e0]
  simp only [Option.bind_some]
  cases hc : (cutOf b (bytesOf s)).2.2
  · obtain ⟨h1, h2, -⟩ := cutOf_no b _ hc
    rw [if_neg (by decide : ¬ false = true), if_pos (by decide), h1, h2, str_bytes]; rfl
  · obtain ⟨h1, -⟩ := cutOf_yes b _ hc
    have hl := congrArg List.length h1
    rw [bytesOf_length, List.length_append, List.length_cons] at hl
    rw [if_pos rfl, if_neg (by omega), if_pos (by omega), if_pos (by omega), wrap_id (by omega), if_pos (by omega), if_pos (by omega), ext_str, ext_str, take_size]
    generalize (cutOf b (bytesOf s)).1 = p at h1 hl ⊢
    generalize (cutOf b (bytesOf s)).2.1 = q at h1 hl ⊢
    rw [h1]
    congr 3
    · rw [List.drop_zero, Int.toNat_natCast, List.take_left' rfl]
    · congr 1
      have e1 : ((p.length : Int) + 1).toNat = p.length + 1 := by omega
      have e2 : p.length + 1 - p.length = 1 := by omega
      rw [e1, List.drop_append, List.drop_of_length_le (by omega), List.nil_append, e2]; rfl
end Go.Proofs.Ytpphnjmppkbpbaa.Pure
namespace Go.Proofs.Ytpphnjmppkbpbaa.Pure
open Go.RowKit Go.Proofs.Ytpphnjmppkbpbaa.Xw Go.Proofs.Ytpphnjmppkbpbaa.PAll Go.Proofs.YtpphnjmppkbpbaaW.PrintWords Go.Proofs.YtpphnjmppkbpbaaW.PrintLast Go.Proofs.YtpphnjmppkbpbaaW.PrintMore
theorem lowI_isB (b : Int) (h : isB b) : isB (lowI b) := by unfold isB lowI at *; split <;> omega
theorem lower_eq (s : ByteArray) (hs : s.size ≤ 9223372036854775807) : text_Lower.f s = some (strOfNums ((bytesOf s).map lowI)) := by unfold text_Lower.f; rw [if_pos hs]
theorem fold_eq (s t : ByteArray) (hs : s.size ≤ 9223372036854775807) (ht : t.size ≤ 9223372036854775807) : text_Fold.f s t = some ((strOfNums ((bytesOf s).map lowI)).toList == (strOfNums ((bytesOf t).map lowI)).toList) := by
  unfold text_Fold.f
  rw [lower_eq s hs, lower_eq t ht]; rfl
end Go.Proofs.Ytpphnjmppkbpbaa.Pure

namespace Go.Proofs.Ytpphnjmppkbpbaa.Pure
open Go.RowKit Go.Proofs.Ytpphnjmppkbpbaa.PAll Go.Proofs.YtpphnjmppkbpbaaW.PrintWords Go.Proofs.YtpphnjmppkbpbaaW.PrintLast Go.Proofs.YtpphnjmppkbpbaaW.PrintMore
def maxN : Int := 4611686018427387903
/-- what a text's bytes say -/
def parse (l : List Int) : Int × Int := if l = [] ∨ l.all isDig = false then (0, 3) else if fval 0 l > maxN then (0, 9) else (fval 0 l, 0)
theorem digit_eq (b : Int) (h : 0 ≤ b ∧ b ≤ 255) : nums_digit.f b = some (if isDig b then b - 48 else 0, isDig b) := by
  unfold nums_digit.f isDig
  by_cases h1 : b < 48
  · rw [if_pos h1]; have : ¬ 48 ≤ b := by omega
    simp [this]
  · rw [if_neg h1]
    by_cases h2 : b > 57
    · rw [if_pos h2]; have : ¬ b ≤ 57 := by omega
      simp [this]
    · rw [if_neg h2]
      have h3 : 48 ≤ b := by omega
      have h4 : b ≤ 57 := by omega
      simp only [h3, h4, decide_true, Bool.and_self, if_true]
      have : (b - 48) % 256 = b - 48 := by omega
      rw [this]
/-- the loop's answer from a place on -/
def run (n : Int) (over : Bool) (l : List Int) : Int × Int := if l.all isDig = false then (0, 3) else if over = true ∨ fval n l > maxN then (0, 9) else (fval n l, 0)
theorem parse_loop (s : ByteArray) (hs : s.size ≤ 9223372036854775806) (hs0 : 0 < s.size) (d : Nat) : ∀ (i n : Int) (over : Bool), 0 ≤ i → i ≤ s.size → (s.size : Int) - i = d → 0 ≤ n → n ≤ maxN →
    Ev (fun k => nums_Parse.l0 k s n over (s.size : Int) i) (run n over ((bytesOf s).drop i.toNat)) := by
  induction d with
  | zero =>
    intro i n over h0 h1 hd hn hn2
    refine Ev.pos (fun k => ?_)
    have he : ¬ s.toList = ([] : List UInt8) := by rw [toList_nil, bytesOf_eq_nil]; omega
    simp only [nums_Parse.l0]
    rw [if_neg (by omega), if_neg he, List.drop_of_length_le (by rw [bytesOf_length]; omega)]
    have hf : fval n [] = n := rfl
    have hx : ¬ n > maxN := by omega
    cases over <;> simp [run, hf, hx]
  | succ d ih =>
    intro i n over h0 h1 hd hn hn2
    have hi : i < s.size := by omega
    have hb := bt_range s i
    have hw : wrap64 (i + 1) = i + 1 := wrap_id (by omega)
    rw [bytes_drop s i h0 hi]
    by_cases hdg : isDig (bt s i) = true
    · have hd2 := (isDig_iff _).1 hdg
      cases over with
      | true =>
        obtain ⟨K, hK⟩ := ih (i + 1) n true (by omega) (by omega) (by omega) hn hn2
        refine ⟨K + 1, fun k hk => ?_⟩
        obtain ⟨k, rfl⟩ : ∃ j, k = j + 1 := ⟨k - 1, by omega⟩
        have h := hK k (by omega)
        dsimp only at h
        simp only [nums_Parse.l0, digit_eq _ hb, Option.bind_some, hw]
        rw [if_pos hi, if_pos h0, if_pos hi, if_pos hdg, if_pos trivial, h]
        simp [run, hdg]
      | false =>
        have e1 : wrap64 (4611686018427387903 - (bt s i - 48)) = 4611686018427387903 - (bt s i - 48) := wrap_id (by omega)
        have e2 : Int.tdiv (4611686018427387903 - (bt s i - 48)) 10 = (4611686018427387903 - (bt s i - 48)) / 10 := Int.tdiv_eq_ediv_of_nonneg (by omega)
        have e3 : wrap64 ((4611686018427387903 - (bt s i - 48)) / 10) = (4611686018427387903 - (bt s i - 48)) / 10 := wrap_id (by omega)
        by_cases hov : n > (4611686018427387903 - (bt s i - 48)) / 10
        · obtain ⟨K, hK⟩ := ih (i + 1) n true (by omega) (by omega) (by omega) hn hn2
          refine ⟨K + 1, fun k hk => ?_⟩
          obtain ⟨k, rfl⟩ : ∃ j, k = j + 1 := ⟨k - 1, by omega⟩
          have h := hK k (by omega)
          dsimp only at h
          simp only [nums_Parse.l0, digit_eq _ hb, Option.bind_some, hw, hdg, if_true, e1, e2, e3]
          rw [if_pos hi, if_pos h0, if_pos hi, if_neg (by decide), if_pos hov, h]
          by_cases hall : ((bytesOf s).drop (i + 1).toNat).all isDig = true
          · have hge := fval_ge ((bytesOf s).drop (i + 1).toNat) (10 * n + (bt s i - 48)) (by omega) hall
            have hgt : fval n (bt s i :: (bytesOf s).drop (i + 1).toNat) > maxN := by rw [fval_cons]; unfold maxN; omega
            simp [run, hdg, hgt]
          · simp [run, hdg, hall]
        · have hmx : 10 * n + (bt s i - 48) ≤ maxN := by unfold maxN; omega
          have hmx' : 10 * n + (bt s i - 48) ≤ 4611686018427387903 := hmx
          have e4 : wrap64 (10 * n) = 10 * n := wrap_id (by omega)
          have e5 : wrap64 (10 * n + (bt s i - 48)) = 10 * n + (bt s i - 48) := wrap_id (by omega)
          obtain ⟨K, hK⟩ := ih (i + 1) (10 * n + (bt s i - 48)) false (by omega) (by omega) (by omega) (by omega) hmx
          refine ⟨K + 1, fun k hk => ?_⟩
          obtain ⟨k, rfl⟩ : ∃ j, k = j + 1 := ⟨k - 1, by omega⟩
          have h := hK k (by omega)
          dsimp only at h
          simp only [nums_Parse.l0, digit_eq _ hb, Option.bind_some, hw, hdg, if_true, e1, e2, e3, e4, e5]
          rw [if_pos hi, if_pos h0, if_pos hi, if_neg (by decide), if_neg hov, h]
          simp [run, hdg, fval_cons]
    · refine Ev.pos (fun k => ?_)
      have hf : isDig (bt s i) = false := by simpa using hdg
      simp only [nums_Parse.l0, digit_eq _ hb, Option.bind_some, hf]
      rw [if_pos hi, if_pos h0, if_pos hi, if_neg (by decide)]
      simp [run, hf]
theorem parse_ev (s : ByteArray) (hs : s.size ≤ 9223372036854775806) : Ev (fun k => nums_Parse.f k s) (parse (bytesOf s)) := by
  by_cases h0 : s.size = 0
  · refine Ev.pos (fun k => ?_)
    have hn : bytesOf s = [] := (bytesOf_eq_nil s).2 h0
    have he : s.toList = ([] : List UInt8) := (toList_nil s).2 hn
    simp only [nums_Parse.f, nums_Parse.l0]
    rw [if_neg (by omega), if_pos he, hn]
    simp [parse]
  · have := parse_loop s hs (by omega) s.size 0 0 false (by omega) (by omega) (by omega) (by omega) (by unfold maxN; omega)
    simp only [Int.toNat_zero, List.drop_zero] at this
    have hn : ¬ bytesOf s = [] := fun h => h0 (by rw [← bytesOf_length, h]; rfl)
    have e : run 0 false (bytesOf s) = parse (bytesOf s) := by simp [run, parse, hn]
    rw [e] at this
    exact this
end Go.Proofs.Ytpphnjmppkbpbaa.Pure
namespace Go.Proofs.Ytpphnjmppkbpbaa.PureQ
open Go.RowKit Go.Proofs.Ytpphnjmppkbpbaa.Pure Go.Proofs.Ytpphnjmppkbpbaa.Xw Go.Proofs.Ytpphnjmppkbpbaa.PAll Go.Proofs.YtpphnjmppkbpbaaW.PrintWords Go.Proofs.YtpphnjmppkbpbaaW.PrintLast Go.Proofs.YtpphnjmppkbpbaaW.PrintMore
def z3 : Bool × Int × Int × Int × Int := (false, 0, 0, 0, 3)
def rightS (p q : Int) : Bool := decide (0 ≤ p ∧ p < q ∧ q ≤ 4611686018427387903)
theorem span_right_c (p q : Int) : span_Right.f p q = some (rightS p q) := by
  unfold span_Right.f rightS
  by_cases h1 : p ≥ 0
  · rw [if_pos h1]
    by_cases h2 : p < q
    · rw [if_pos h2]; have : 0 ≤ p := h1
      simp [h2, this]
    · rw [if_neg h2]; simp [h2]
  · rw [if_neg h1]; have : ¬ 0 ≤ p := h1
    simp [this]
def rightC (kn : Bool) (f t tot : Int) : Bool := decide (tot = -1 ∨ (0 ≤ tot ∧ tot ≤ 4611686018427387903)) && (if kn then (rightS f t && decide (tot = -1 ∨ t ≤ tot)) else (decide (f = 0 ∧ t = 0) && decide (tot ≠ -1)))
theorem fits_c (a lo hi : Int) : nums_Fits.f a lo hi = some (decide (lo ≤ a ∧ a ≤ hi)) := by
  unfold nums_Fits.f
  by_cases h : a ≥ lo
  · rw [if_pos h]; have : lo ≤ a := h
    simp [this]
  · rw [if_neg h]; have : ¬ lo ≤ a := h
    simp [this]
theorem right_c (kn : Bool) (f t tot : Int) : Ev (fun k => crange_Right.f k kn f t tot) (rightC kn f t tot) := by
  have key : ∀ b : Bool, b = !decide (tot = -1 ∨ (0 ≤ tot ∧ tot ≤ 4611686018427387903)) → Ev (fun k => crange_Right.j0 k b kn f t tot) (rightC kn f t tot) := by
    intro b hb
    refine Ev.pos (fun k => ?_)
    simp only [crange_Right.j0, span_right_c, Option.bind_some]
    unfold rightC
    cases hd : decide (tot = -1 ∨ (0 ≤ tot ∧ tot ≤ 4611686018427387903))
    · rw [hb, hd, if_pos (by decide)]; rfl
    · rw [hb, hd, if_neg (by decide)]
      cases kn
      · rw [if_neg (by decide)]
        by_cases h1 : f = 0 <;> by_cases h2 : t = 0 <;> by_cases h3 : tot = -1 <;> simp [h1, h2, h3]
      · rw [if_pos rfl]
        by_cases h1 : rightS f t = true
        · rw [if_pos h1]
          by_cases h3 : tot = -1 <;> simp [h1, h3]
        · rw [if_neg h1]; simp [h1]
  unfold crange_Right.f
  by_cases h : tot = -1
  · simp only [h, if_true]
    have := key false (by rw [decide_eq_true (.inl h)]; rfl)
    rw [h] at this; exact this
  · simp only [h, if_false, fits_c, Option.bind_some]
    refine key _ ?_
    congr 1
    rw [decide_eq_decide]; omega
def worse (bad e : Int) : Int := if e = 3 then 3 else if bad = 0 then e else bad
def contE (bad : Int) (kn : Bool) (f t tot : Int) : Bool × Int × Int × Int × Int := if bad = 0 then (if rightC kn f t tot then (kn, f, t, tot, 0) else z3) else (false, 0, 0, 0, bad)
def contT (x : List Int) (bad : Int) (kn : Bool) (f t : Int) : Bool × Int × Int × Int × Int := if x = [42] then contE bad kn f t (-1) else contE (worse bad (parse x).2) kn f t (parse x).1
def contA (d1 d2 : List Int) : Bool × Int × Int × Int × Int :=
  if d1 = [42] then contT d2 0 false 0 0
  else if (cutOf 45 d1).2.2 = true then contT d2 (worse (worse 0 (parse (cutOf 45 d1).1).2) (parse (cutOf 45 d1).2.1).2) true (parse (cutOf 45 d1).1).1 (wrap64 ((parse (cutOf 45 d1).2.1).1 + 1))
  else z3
def contOf (l : List Int) : Bool × Int × Int × Int × Int :=
  if (cutOf 32 l).2.2 = true then (if (cutOf 47 (cutOf 32 l).2.1).2.2 = true then (if (cutOf 32 l).1.map lowI = [98, 121, 116, 101, 115] then contA (cutOf 47 (cutOf 32 l).2.1).1 (cutOf 47 (cutOf 32 l).2.1).2.1 else z3) else z3) else z3
theorem cut_facts (b : Int) (l : List Int) (h : ∀ x ∈ l, isB x) : (cutOf b l).1.length ≤ l.length ∧ (cutOf b l).2.1.length ≤ l.length ∧ (∀ x ∈ (cutOf b l).1, isB x) ∧ (∀ x ∈ (cutOf b l).2.1, isB x) := by
  cases hc : (cutOf b l).2.2
  · obtain ⟨h1, h2, -⟩ := cutOf_no b l hc
    rw [h1, h2]; exact ⟨Nat.le_refl _, Nat.zero_le _, h, by simp⟩
  · obtain ⟨h1, -⟩ := cutOf_yes b l hc
    have hl := congrArg List.length h1
    rw [List.length_append, List.length_cons] at hl
    refine ⟨by omega, by omega, fun x hx => h x ?_, fun x hx => h x ?_⟩
    · rw [h1]; exact List.mem_append.2 (.inl hx)
    · rw [h1]; exact List.mem_append.2 (.inr (List.mem_cons_of_mem _ hx))
theorem number_c (bad : Int) (x : List Int) (hx : ∀ b ∈ x, isB b) (hl : x.length ≤ 1000) : Ev (fun k => crange_reader_number.f k bad (strOfNums x)) ((parse x).1, worse bad (parse x).2) := by
  have hp := parse_ev (strOfNums x) (by rw [size_str]; omega)
  rw [bytesOf_str _ hx] at hp
  refine Ev.bind hp (Ev.all fun k => ?_)
  unfold worse
  by_cases h1 : (parse x).2 = 3
  · rw [if_pos h1, if_pos h1, h1]
  · rw [if_neg h1, if_neg h1]
    by_cases h2 : bad = 0
    · rw [if_pos h2, if_pos h2]
    · rw [if_neg h2, if_neg h2]
theorem star_iff (x : List Int) (hx : ∀ b ∈ x, isB b) : (strOfNums x).toList = ([42] : List UInt8) ↔ x = [42] := by
  have e : ([42] : List UInt8) = (strOfNums [42]).toList := by rw [ByteArray.toList_eq]; rfl
  rw [e, toList_bytes, bytesOf_str _ hx, bytesOf_str _ (by simp [isB])]
theorem e_c (bad : Int) (kn : Bool) (f t tot : Int) : Ev (fun k => crange_Parse.e k bad kn f t tot) (contE bad kn f t tot) := by
  unfold crange_Parse.e contE
  by_cases h : bad = 0
  · simp only [h, if_true]
    refine Ev.bind (right_c kn f t tot) (Ev.all fun k => ?_)
    cases rightC kn f t tot <;> rfl
  · simp only [h, if_false]; exact Ev.now _
theorem t_c (x : List Int) (hx : ∀ b ∈ x, isB b) (hl : x.length ≤ 1000) (bad : Int) (kn : Bool) (f t : Int) : Ev (fun k => crange_Parse.t k (strOfNums x) bad kn f t) (contT x bad kn f t) := by
  unfold crange_Parse.t contT
  by_cases h : x = [42]
  · simp only [(star_iff x hx).2 h, if_true]; rw [if_pos h]; exact e_c _ _ _ _ _
  · have h' : ¬ (strOfNums x).toList = ([42] : List UInt8) := fun e => h ((star_iff x hx).1 e)
    simp only [h', if_false]; rw [if_neg h]
    exact Ev.bind (number_c bad x hx hl) (e_c _ _ _ _ _)
theorem unit_low : (strOfNums ((bytesOf (⟨#[98, 121, 116, 101, 115]⟩ : ByteArray)).map lowI)) = strOfNums [98, 121, 116, 101, 115] := by decide
theorem crange_parse_ev (s : ByteArray) (hs : s.size ≤ 1000) : Ev (fun k => crange_Parse.f k s) (contOf (bytesOf s)) := by
  have f1 := cut_facts 32 (bytesOf s) (bytesOf_isB s)
  rw [bytesOf_length] at f1
  have f2 := cut_facts 47 (cutOf 32 (bytesOf s)).2.1 f1.2.2.2
  unfold crange_Parse.f contOf
  have b32 : isB 32 := by unfold isB; omega
  have b47 : isB 47 := by unfold isB; omega
  have b45 : isB 45 := by unfold isB; omega
  have q2 := cut_eq (strOfNums (cutOf 32 (bytesOf s)).2.1) 47 b47 (by rw [size_str]; omega)
  rw [bytesOf_str _ f1.2.2.2] at q2
  rw [cut_eq s 32 b32 (by omega)]
  simp only [Option.bind_some, q2]
  generalize (cutOf 47 (cutOf 32 (bytesOf s)).2.1).1 = d1 at f2
  generalize (cutOf 47 (cutOf 32 (bytesOf s)).2.1).2.1 = d2 at f2
  generalize (cutOf 47 (cutOf 32 (bytesOf s)).2.1).2.2 = d3
  generalize (cutOf 32 (bytesOf s)).1 = c1 at f1
  cases (cutOf 32 (bytesOf s)).2.2
  · exact Ev.now _
  cases d3
  · exact Ev.now _
  simp only [if_true]
  have hf := fold_eq (strOfNums c1) (⟨#[98, 121, 116, 101, 115]⟩ : ByteArray) (by rw [size_str]; omega) (by decide)
  rw [bytesOf_str _ f1.2.2.1, unit_low, toList_beq, bytesOf_str _ (by intro b hb; obtain ⟨x, hx, rfl⟩ := List.mem_map.1 hb; exact lowI_isB x (f1.2.2.1 x hx)), bytesOf_str _ (by simp [isB])] at hf
  rw [hf]
  simp only [Option.bind_some]
  by_cases hu : c1.map lowI = [98, 121, 116, 101, 115]
  · simp only [hu, decide_true, if_true]
    unfold contA
    by_cases hA : d1 = [42]
    · simp only [(star_iff d1 f2.2.2.1).2 hA, if_true]; rw [if_pos hA]
      exact t_c d2 f2.2.2.2 (by omega) _ _ _ _
    · have hA' : ¬ (strOfNums d1).toList = ([42] : List UInt8) := fun e => hA ((star_iff d1 f2.2.2.1).1 e)
      simp only [hA', if_false]; rw [if_neg hA]
      have q3 := cut_eq (strOfNums d1) 45 b45 (by rw [size_str]; omega)
      rw [bytesOf_str _ f2.2.2.1] at q3
      have f3 := cut_facts 45 d1 f2.2.2.1
      rw [q3]
      simp only [Option.bind_some]
      cases (cutOf 45 d1).2.2
      · exact Ev.now _
      · simp only [if_true]
        refine Ev.bind (number_c 0 _ f3.2.2.1 (by omega)) ?_
        refine Ev.bind (number_c _ _ f3.2.2.2 (by omega)) ?_
        exact t_c d2 f2.2.2.2 (by omega) _ _ _ _
  · simp only [hu, decide_false, Bool.false_eq_true, if_false]; exact Ev.now _
end Go.Proofs.Ytpphnjmppkbpbaa.PureQ



namespace Go.Proofs.Ytpphnjmppkbpbaa.PureQ
open Go.RowKit Go.Proofs.Ytpphnjmppkbpbaa.Pure Go.Proofs.Ytpphnjmppkbpbaa.Xw Go.Proofs.Ytpphnjmppkbpbaa.PAll Go.Proofs.YtpphnjmppkbpbaaW.PrintWords Go.Proofs.YtpphnjmppkbpbaaW.PrintLast Go.Proofs.YtpphnjmppkbpbaaW.PrintMore
def unitT : List Int := [98, 121, 116, 101, 115, 32]
def crPrint (kn : Bool) (f t tot : Int) : List Int :=
  if rightC kn f t tot then unitT ++ (if kn then ptext f ++ [45] ++ ptext (t - 1) else [42]) ++ (if tot = -1 then [47, 42] else [47] ++ ptext tot) else []
theorem unit_str : (⟨#[98, 121, 116, 101, 115, 32]⟩ : ByteArray) = strOfNums unitT := by decide
theorem dash_str : (⟨#[45]⟩ : ByteArray) = strOfNums [45] := by decide
theorem slash_str : (⟨#[47]⟩ : ByteArray) = strOfNums [47] := by decide
theorem star_str : (⟨#[42]⟩ : ByteArray) = strOfNums [42] := by decide
theorem any_str : (⟨#[47, 42]⟩ : ByteArray) = strOfNums [47, 42] := by decide
theorem ptext_dig (a : Int) (h : 0 ≤ a) : ptext a = dig a.toNat := by unfold ptext; rw [if_neg (by omega)]
theorem ptext_len (n : Int) (h : 0 ≤ n ∧ n ≤ 9223372036854775807) : (ptext n).length ≤ 20 := by
  rw [ptext_dig n h.1]; exact dig_len _ (by omega)
theorem rightC_tot {kn : Bool} {f t tot : Int} (h : rightC kn f t tot = true) : tot = -1 ∨ (0 ≤ tot ∧ tot ≤ 4611686018427387903) := by
  unfold rightC at h
  rw [Bool.and_eq_true] at h
  exact of_decide_eq_true h.1
theorem rightC_at {f t tot : Int} (h : rightC true f t tot = true) : 0 ≤ f ∧ f < t ∧ t ≤ 4611686018427387903 ∧ (tot = -1 ∨ t ≤ tot) := by
  unfold rightC at h
  rw [Bool.and_eq_true, if_pos rfl, Bool.and_eq_true] at h
  have h1 := of_decide_eq_true h.2.1
  have h2 := of_decide_eq_true h.2.2
  omega
theorem cr_print_ev (kn : Bool) (f t tot : Int) : Ev (fun k => crange_Print.f k kn f t tot) (strOfNums (crPrint kn f t tot)) := by
  refine Ev.bind (right_c kn f t tot) ?_
  unfold crPrint
  cases hr : rightC kn f t tot
  · exact Ev.now _
  have htot := rightC_tot hr
  simp only [if_true]
  cases kn with
  | true =>
    have hat := rightC_at hr
    have l1 := ptext_len f (by omega)
    have l2 := ptext_len (t - 1) (by omega)
    simp only [if_true]
    refine Ev.bind (print_ev f (by omega)) ?_
    rw [wrap_id (x := t - 1) (by omega)]
    simp only [size_str, show (ptext f).length + 1 ≤ 9223372036854775807 by omega, if_true]
    refine Ev.bind (print_ev (t - 1) (by omega)) ?_
    simp only [size_str, show (ptext f).length + 1 + (ptext (t - 1)).length ≤ 9223372036854775807 by omega, show 6 + ((ptext f).length + 1 + (ptext (t - 1)).length) ≤ 9223372036854775807 by omega, show 6 + ((ptext f).length + 1 + (ptext (t - 1)).length) + 2 ≤ 9223372036854775807 by omega, show 6 + ((ptext f).length + 1 + (ptext (t - 1)).length) + 1 ≤ 9223372036854775807 by omega, if_true]
    by_cases ht : tot = -1
    · simp only [ht, if_true]
      rw [unit_str, dash_str, any_str, str_append, str_append, str_append, str_append]
      exact Ev.now _
    · have l3 := ptext_len tot (by omega)
      simp only [ht, if_false]
      refine Ev.bind (print_ev tot (by omega)) ?_
      simp only [size_str, show 6 + ((ptext f).length + 1 + (ptext (t - 1)).length) + 1 + (ptext tot).length ≤ 9223372036854775807 by omega, if_true]
      rw [unit_str, dash_str, slash_str, str_append, str_append, str_append, str_append, str_append, List.append_assoc (unitT ++ _)]
      exact Ev.now _
  | false =>
    simp only [Bool.false_eq_true, if_false, show 6 + 1 ≤ 9223372036854775807 by decide, show 7 + 2 ≤ 9223372036854775807 by decide, show 7 + 1 ≤ 9223372036854775807 by decide, if_true]
    by_cases ht : tot = -1
    · simp only [ht, if_true]
      rw [unit_str, star_str, any_str, str_append, str_append]
      exact Ev.now _
    · have l3 := ptext_len tot (by omega)
      simp only [ht, if_false]
      refine Ev.bind (print_ev tot (by omega)) ?_
      simp only [size_str, show 8 + (ptext tot).length ≤ 9223372036854775807 by omega, if_true]
      rw [unit_str, star_str, slash_str, str_append, str_append, str_append, List.append_assoc (unitT ++ _)]
      exact Ev.now _
end Go.Proofs.Ytpphnjmppkbpbaa.PureQ


namespace Go.Proofs.Ytpphnjmppkbpbaa.PureQ
open Go.RowKit Go.Proofs.Ytpphnjmppkbpbaa.Pure Go.Proofs.Ytpphnjmppkbpbaa.Xw Go.Proofs.Ytpphnjmppkbpbaa.PAll Go.Proofs.YtpphnjmppkbpbaaW.PrintWords Go.Proofs.YtpphnjmppkbpbaaW.PrintLast Go.Proofs.YtpphnjmppkbpbaaW.PrintMore
def shiftV (l : List Int) : List Int := if (contOf l).2.2.2.2 = 0 ∧ (contOf l).1 = true then crPrint true (wrap64 ((contOf l).2.1 + 1)) (wrap64 ((contOf l).2.2.1 + 1)) (contOf l).2.2.2.1 else l
def faultyV (kind : Int) (a : Int) (b : ByteArray) (c : Int) (d : ByteArray) (l : List Int) : Int × ByteArray × Int × ByteArray × List Int :=
  if kind = 5 then (404, (⟨#[]⟩ : ByteArray), 0, (⟨#[]⟩ : ByteArray), []) else if kind = 1 then (503, (⟨#[]⟩ : ByteArray), 0, (⟨#[]⟩ : ByteArray), [])
  else if kind = 4 then (a, b ++ (⟨#[34]⟩ : ByteArray), c, d, l) else if kind = 3 then (a, b, c, strOfNums (shiftV (bytesOf d)), l) else if kind = 2 then (a, b, c, d, l.take (l.length - 1)) else (a, b, c, d, l)
theorem shifted_ev (d : ByteArray) (h : d.size ≤ 1000) : Ev (fun k => reply_shifted.f k d) (strOfNums (shiftV (bytesOf d))) := by
  unfold reply_shifted.f
  refine Ev.bind (crange_parse_ev d h) ?_
  by_cases h1 : (contOf (bytesOf d)).2.2.2.2 = 0
  rotate_left
  · have e : shiftV (bytesOf d) = bytesOf d := by unfold shiftV; rw [if_neg (fun h => h1 h.1)]
    rw [e, str_bytes]
    simp only [h1, if_false]; exact Ev.now _
  by_cases h2 : (contOf (bytesOf d)).1 = true
  rotate_left
  · have e : shiftV (bytesOf d) = bytesOf d := by unfold shiftV; rw [if_neg (fun h => h2 h.2)]
    rw [e, str_bytes]
    simp only [h1, h2, if_true]; exact Ev.now _
  have e : shiftV (bytesOf d) = crPrint true (wrap64 ((contOf (bytesOf d)).2.1 + 1)) (wrap64 ((contOf (bytesOf d)).2.2.1 + 1)) (contOf (bytesOf d)).2.2.2.1 := by unfold shiftV; rw [if_pos ⟨h1, h2⟩]
  rw [e]
  simp only [h1, h2, if_true]
  exact Ev.bind (Ev.bind (cr_print_ev _ _ _ _) (Ev.now _)) (Ev.now _)
theorem len_cut (l : List Int) (h : l.length ≤ 500) (h0 : (l.length : Int) > 0) : wrap64 ((l.length : Int) - 1) = ((l.length - 1 : Nat) : Int) := by rw [wrap_id (by omega)]; omega
theorem clone_v (l : List Int) (h : l.length ≤ 500) : bytes_Clone.f l = some l := by
  unfold bytes_Clone.f
  simp only [Option.bind_some, List.length_nil, List.nil_append]
  rw [if_pos (by omega)]
theorem faulty_ev (kind a : Int) (b : ByteArray) (c : Int) (d : ByteArray) (l : List Int) (hb : b.size ≤ 200) (hd : d.size ≤ 200) (hl : l.length ≤ 500) : Ev (fun k => reply_Faulty.f k kind a b c d l) (faultyV kind a b c d l) := by
  unfold reply_Faulty.f faultyV
  simp only [clone_v l hl, Option.bind_some, reply_Gone.f, reply_Down.f]
  by_cases h5 : kind = 5
  · simp only [h5, if_true]; exact Ev.now _
  by_cases h1 : kind = 1
  · simp only [h1, if_true]; simp only [show ¬ (1 : Int) = 5 by decide, if_false]; exact Ev.now _
  by_cases h4 : kind = 4
  · simp only [h4, if_true, show ¬ (4 : Int) = 5 by decide, show ¬ (4 : Int) = 1 by decide, if_false, show b.size + 1 ≤ 9223372036854775807 by omega]; exact Ev.now _
  by_cases h3 : kind = 3
  · simp only [h3, if_true, show ¬ (3 : Int) = 5 by decide, show ¬ (3 : Int) = 1 by decide, show ¬ (3 : Int) = 4 by decide, if_false]
    exact Ev.bind (shifted_ev d (by omega)) (Ev.now _)
  by_cases h2 : kind = 2
  · simp only [h2, if_true, show ¬ (2 : Int) = 5 by decide, show ¬ (2 : Int) = 1 by decide, show ¬ (2 : Int) = 4 by decide, show ¬ (2 : Int) = 3 by decide, if_false]
    by_cases h0 : (l.length : Int) > 0
    · simp only [h0, if_true, len_cut l hl h0, Int.toNat_natCast]
      simp only [show (0 : Int) ≤ ((l.length - 1 : Nat) : Int) by omega, show ((l.length - 1 : Nat) : Int) ≤ (l.length : Int) by omega, if_true]
      exact Ev.now _
    · have : l = [] := List.eq_nil_of_length_eq_zero (by omega)
      subst this
      simp only [h0, if_false]; exact Ev.now _
  simp only [h5, h1, h4, h3, h2, if_false]; exact Ev.now _
end Go.Proofs.Ytpphnjmppkbpbaa.PureQ
namespace Go.Proofs.Ytpphnjmppkbpbaa.Pure
open Go.Proofs.Ytpphnjmppkbpbaa.PAll
end Go.Proofs.Ytpphnjmppkbpbaa.Pure
namespace Go.Proofs.Ytpphnjmppkbpbaa.Ag
open Go.RowKit Go.Proofs.Ytpphnjmppkbpbaa.Xw Go.Proofs.YtpphnjmppkbpbaaW.PrintWords Go.Proofs.YtpphnjmppkbpbaaW.PrintLast Go.Proofs.YtpphnjmppkbpbaaW.PrintMore
def agC (k : IntKind) (n : Nat) (f : Nat → Int) : Array Value := ((List.range n).map fun i => Value.int k (f i)).toArray
theorem agC_size (k n f) : (agC k n f).size = n := by simp [agC]
theorem agC_get (k n f) (i : Nat) (h : i < n) : (agC k n f)[i]? = some (.int k (f i)) := by simp [agC, h]
theorem alloc_size (w : World) (o : Obj) : (w.alloc o).heap.size = w.heap.size + 1 := by
  unfold World.alloc
  exact Array.size_push _
def putF (f : Nat → Int) (q : Nat) (v : Int) : Nat → Int := fun j => if j = q then v else f j
theorem agC_set (k n f) (q : Nat) (v : Int) : (agC k n f).setIfInBounds q (.int k v) = agC k n (putF f q v) := by
  apply Array.ext
  · simp [agC]
  · intro i h1 h2
    simp only [agC, putF, List.getElem_toArray, List.getElem_map, List.getElem_range]
    by_cases hq : q = i
    · subst hq; simp
    · have : ¬ i = q := fun e => hq e.symm
      simp [hq, this]
section
variable {P : Program} {ops : Array Oper} {rest : List Oper} {o : Oper} {a : Act} {Q : Exit → Act → World → Prop} {W : World}
end
end Go.Proofs.Ytpphnjmppkbpbaa.Ag
namespace Go.Proofs.Ytpphnjmppkbpbaa.Org
open Go Go.RowKit Go.Proofs Go.Proofs.Ytpphnjmppkbpbaa.Xw Go.Proofs.Ytpphnjmppkbpbaa.PAll Go.Proofs.Ytpphnjmppkbpbaa.Ag Go.Proofs.YtpphnjmppkbpbaaW.PrintWords Go.Proofs.YtpphnjmppkbpbaaW.PrintLast Go.Proofs.YtpphnjmppkbpbaaW.PrintMore
attribute [local go_sem] Oper.semAt_some
abbrev AK := S32
abbrev kI : Kd Int := Kd.int .i64
abbrev kA : Kd AK := k32
def orgC (V : Nat → Int) (vf va : Value) : Array Value := agC .i64 16 V ++ #[vf, va]
section
variable {V : Nat → Int} {vf va : Value}
theorem orgC_int {j : Nat} (h : j < 16) : (orgC V vf va)[j]? = some (.int .i64 (V j)) := by
  unfold orgC
  rw [Array.getElem?_append_left (by rw [agC_size]; exact h), agC_get _ _ _ _ h]
theorem orgC_f : (orgC V vf va)[16]? = some vf := by
  unfold orgC
  rw [Array.getElem?_append_right (by rw [agC_size]; exact Nat.le_refl _), agC_size]; rfl
theorem orgC_a : (orgC V vf va)[17]? = some va := by
  unfold orgC
  rw [Array.getElem?_append_right (by rw [agC_size]; decide), agC_size]; rfl
theorem orgC_set {j : Nat} (h : j < 16) (x : Int) : (orgC V vf va).setIfInBounds j (.int .i64 x) = orgC (putF V j x) vf va := by
  unfold orgC
  rw [Array.setIfInBounds_append_left (by rw [agC_size]; exact h), agC_set]
theorem orgC_setf (u : Value) : (orgC V vf va).setIfInBounds 16 u = orgC V u va := by
  unfold orgC
  rw [Array.setIfInBounds_append_right (by rw [agC_size]; exact Nat.le_refl _), agC_size]; rfl
theorem orgC_seta (u : Value) : (orgC V vf va).setIfInBounds 17 u = orgC V vf u := by
  unfold orgC
  rw [Array.setIfInBounds_append_right (by rw [agC_size]; decide), agC_size]; rfl
end
/-- all blocks stand but P's -/
structure KeepP (w : World) (P : Nat → Prop) (X : World) : Prop where
  size : w.heap.size ≤ X.heap.size
  block : ∀ h, h < w.heap.size → ¬ P h → X.heap[h]? = w.heap[h]?
  os : X.os = w.os
  tape : X.tape = w.tape
  output : X.output = w.output
section
variable {w X Y : World} {P Q : Nat → Prop}
theorem KeepP.refl (w : World) (P : Nat → Prop) : KeepP w P w := ⟨Nat.le_refl _, fun _ _ _ => rfl, rfl, rfl, rfl⟩
theorem KeepP.of_below (h : Below w.heap.size w X) : KeepP w P X := ⟨h.size, fun k hk _ => h.block k hk, h.os, h.tape, h.output⟩
theorem KeepP.trans (h : KeepP w P X) (h2 : KeepP X Q Y) (hQ : ∀ k, Q k → P k ∨ w.heap.size ≤ k) : KeepP w P Y :=
  ⟨Nat.le_trans h.size h2.size, fun k hk hp => (h2.block k (Nat.lt_of_lt_of_le hk h.size) (fun hq => (hQ k hq).elim hp (fun hl => by omega))).trans (h.block k hk hp), h2.os.trans h.os, h2.tape.trans h.tape, h2.output.trans h.output⟩
theorem KeepP.drew (h : KeepP w P X) : KeepP w P X.drew := ⟨h.size, h.block, h.os, h.tape, h.output⟩
theorem KeepP.below (h : KeepP w P X) {B : Nat} {w0 : World} (hb : Below B w0 w) (hB : B ≤ w.heap.size) (hP : ∀ k, P k → B ≤ k) : Below B w0 X :=
  ⟨h.os.trans hb.os, h.tape.trans hb.tape, h.output.trans hb.output, Nat.le_trans hb.size h.size, fun k hk => (h.block k (Nat.lt_of_lt_of_le hk hB) (fun hp => by have := hP k hp; omega)).trans (hb.block k hk)⟩
theorem KeepP.cells (h : KeepP w P X) {g : Nat} {o : Obj} (hb : w.heap[g]? = some o) (hg : ¬ P g) : X.heap[g]? = some o := (h.block g (blk_lt hb) hg).trans hb
theorem KeepP.grown (h : KeepP w P X) {row : Option Nat} (hg : X.grownBy Y row) (hr : ∀ k, row = some k → P k ∨ w.heap.size ≤ k) : KeepP w P Y :=
  ⟨Nat.le_trans h.size hg.size, fun k hk hp => (hg.block k (Nat.lt_of_lt_of_le hk h.size) (fun e => (hr k e.symm).elim hp (fun hl => by omega))).trans (h.block k hk hp), hg.os.trans h.os, hg.tape.trans h.tape, hg.output.trans h.output⟩
theorem KeepP.set (h : KeepP w P X) {g : Nat} (hg : P g ∨ w.heap.size ≤ g) (j : Nat) (v : Value) : KeepP w P (X.setCell ⟨g, j, none⟩ v) :=
  ⟨by rw [show (X.setCell ⟨g, j, none⟩ v).heap.size = X.heap.size by simp [World.setCell]]; exact h.size, fun k hk hp => (Below.heap_setCell X ⟨g, j, none⟩ v k (fun e => hg.elim (fun h => hp (e ▸ h)) (fun hl => by have e' : k = g := e; omega))).trans (h.block k hk hp), h.os, h.tape, h.output⟩
theorem KeepP.alloc (h : KeepP w P X) (o : Obj) : KeepP w P (X.alloc o) := h.trans (.of_below (P := fun _ => False) (below_alloc (Below.refl _ X) o)) (fun _ h => h.elim)
theorem KeepP.mono (h : KeepP w P X) (hQ : ∀ k, P k → Q k ∨ w.heap.size ≤ k) : KeepP w Q X := ⟨h.size, fun k hk hp => h.block k hk (fun hq => (hQ k hq).elim hp (fun hl => by omega)), h.os, h.tape, h.output⟩
end
structure Org (w : World) (base : Nat) (P : Nat → Prop) (g : Nat) (V : Nat → Int) (F : List Int) (A : List AK) (vf va : Value) : Prop where
  hge : ∀ k, P k → base ≤ k
  hlt : ∀ k, P k → k < w.heap.size
  hg : P g
  hb : w.heap[g]? = some (.cells (orgC V vf va) 51 (0, 0))
  hF : kI.R 3 w base P vf F
  hA : kA.R 32 w base P va A
def OrgX (w : World) (base : Nat) (P : Nat → Prop) (g : Nat) (V : Nat → Int) (F : List Int) (A : List AK) : Prop := ∃ vf va, Org w base P g V F A vf va
section
variable {w X : World} {base g : Nat} {P Q : Nat → Prop} {V : Nat → Int} {F : List Int} {A : List AK} {vf va : Value}
theorem Org.step (h : Org w base P g V F A vf va) (hs : w.heap.size ≤ X.heap.size) (hm : ∀ k, P k → X.heap[k]? = w.heap[k]?) : Org X base P g V F A vf va :=
  ⟨h.hge, fun k hk => Nat.lt_of_lt_of_le (h.hlt k hk) hs, h.hg, (hm g h.hg).trans h.hb, Kd.R_step h.hF (fun k hk _ => hm k hk), Kd.R_step h.hA (fun k hk _ => hm k hk)⟩
theorem Org.below (h : Org w base P g V F A vf va) (hb : Below w.heap.size w X) : Org X base P g V F A vf va := h.step hb.size (fun k hk => hb.block k (h.hlt k hk))
theorem Org.keep (h : Org w base P g V F A vf va) (hk : KeepP w Q X) (hQ : ∀ k, P k → ¬ Q k) : Org X base P g V F A vf va := h.step hk.size (fun k hp => hk.block k (h.hlt k hp) (hQ k hp))
theorem Org.lower {base' : Nat} (h : Org w base P g V F A vf va) (hb : base' ≤ base) : Org w base' P g V F A vf va := ⟨fun k hk => Nat.le_trans hb (h.hge k hk), h.hlt, h.hg, h.hb, Kd.R_lower h.hF hb, Kd.R_lower h.hA hb⟩
theorem OrgX.below (h : OrgX w base P g V F A) (hb : Below w.heap.size w X) : OrgX X base P g V F A := by obtain ⟨vf, va, h⟩ := h; exact ⟨vf, va, h.below hb⟩
theorem OrgX.keep (h : OrgX w base P g V F A) (hk : KeepP w Q X) (hQ : ∀ k, P k → ¬ Q k) : OrgX X base P g V F A := by obtain ⟨vf, va, h⟩ := h; exact ⟨vf, va, h.keep hk hQ⟩
theorem OrgX.lower {base' : Nat} (h : OrgX w base P g V F A) (hb : base' ≤ base) : OrgX w base' P g V F A := by obtain ⟨vf, va, h⟩ := h; exact ⟨vf, va, h.lower hb⟩
theorem OrgX.lt (h : OrgX w base P g V F A) {k : Nat} (hk : P k) : k < w.heap.size := by obtain ⟨vf, va, h⟩ := h; exact h.hlt k hk
theorem OrgX.ge (h : OrgX w base P g V F A) {k : Nat} (hk : P k) : base ≤ k := by obtain ⟨vf, va, h⟩ := h; exact h.hge k hk
theorem Org.cellI (h : Org w base P g V F A vf va) {j : Nat} (hj : j < 16) : w.cell? ⟨g, j, none⟩ = some (.int .i64 (V j)) := (blk_cell h.hb j).trans (orgC_int hj)
theorem Org.cellF (h : Org w base P g V F A vf va) : w.cell? ⟨g, 16, none⟩ = some vf := (blk_cell h.hb 16).trans orgC_f
theorem Org.cellA (h : Org w base P g V F A vf va) : w.cell? ⟨g, 17, none⟩ = some va := (blk_cell h.hb 17).trans orgC_a
theorem tyI {q : Nat} (hq : q ∈ 3 :: kI.E) : q ≠ 51 := by
  simp only [Kd.int, Kd.scalar, List.mem_singleton] at hq
  subst hq
  decide
theorem tyA {q : Nat} (hq : q ∈ 32 :: kA.E) : q ≠ 51 := by
  have e : q = 32 := by simpa [kA, k32, k30, Kd.iso, Kd.pair, Kd.int, Kd.bool, Kd.string, Kd.scalar] using hq
  subst e
  decide
/-- a version turned -/
theorem Org.turn (h : Org w base P g V F A vf va) {j : Nat} (hj : j < 16) (x : Int) : Org (w.setCell ⟨g, j, none⟩ (.int .i64 x)) base P g (putF V j x) F A vf va :=
  ⟨h.hge, fun k hk => by rw [show (w.setCell ⟨g, j, none⟩ (.int .i64 x)).heap.size = w.heap.size by simp [World.setCell]]; exact h.hlt k hk, h.hg, by rw [blk_set h.hb, orgC_set hj],
    Kd.R_set h.hF h.hb (fun q hq => tyI hq) j _, Kd.R_set h.hA h.hb (fun q hq => tyA hq) j _⟩
end
theorem infoA : (Try.prog.info? 32).map (fun i => (i.zero, i.size, i.bytes)) = some (some (.agg #[.int .i64 0, .bool false, .string ⟨#[]⟩, .int .i64 0, .int .i64 0]), 5, 48) := by kernel_rfl
theorem infoI : (Try.prog.info? 3).map (fun i => (i.zero, i.size, i.bytes)) = some (some (.int .i64 0), 1, 8) := by kernel_rfl
/-- slices.Clone of whole numbers, and of what was asked -/
theorem cloneI_calls (A : Option Addr) (c : Nat) (l : List Int) (w : World) (hC : kI.C w A l.length l) (hb : l.length ≤ 1000000) :
    Calls Try.prog 29 #[.slice A l.length c] w fun e w' => ∃ v, e = .returned v ∧ kI.R 3 w' w.heap.size (fun _ => True) v l ∧ Below w.heap.size w w' := by
  have q22 : ∀ (w : World) (a : Option Addr) (n c n' c' : Nat), (binOp .eql 27 (.slice a n c) (.slice none n' c')).run Try.prog w = .ok (.bool a.isNone) w := fun w a n c n' c' => Lib.run_eql_slice_nil w _ _ a n c n' c' Try.underlying27
  have HC := Aside0.mk hC
  clear hC
  cases A with
  | none =>
    have h0 : l = [] := by
      cases l with
      | nil => rfl
      | cons x r => obtain ⟨ad, he, _⟩ := HC.out.2.2 (by simp); cases he
    subst h0
    go_enter Try.func29, Try.ntmps29
    go_wp2
    go_ret
    exact ⟨_, rfl, Kd.R_nil _ _ _ _ _, by first | exact Below.refl _ _ | exact below_drew (Below.refl _ _)⟩
  | some ad =>
    go_enter Try.func29, Try.ntmps29
    go_wp2_with (at_builtin; (refine Kd.R_append_rows kI (w0 := w) w.heap.size rfl (.tmp 5) (.tmp 6) 27 3 (.int .i64 0) 8 rfl Try.underlying27 infoI rfl (by decide) (by decide) (.slice (some ⟨w.heap.size, 0, none⟩) 0 0) [] l (some ad) l.length c (fun _ => True) (fun _ => False) rfl rfl ⟨fun _ _ => trivial, [], World.ownsRow_made w #[] 0 (Nat.le_refl _) (Nat.zero_le _) (by simp), Reps.none _ _⟩ (Kd.C_below HC.out (below_alloc (Below.refl _ _) _)) (fun x cs h => h) (fun _ h => h.elim) (fun _ _ => trivial) (below_alloc (Below.refl _ _) _) (by simp) (by simp; omega) ?_; intro v1 w1 hR hb1 _ _; rw [List.nil_append] at hR; replace hR := Aside0.mk hR; replace hb1 := Aside0.mk hb1))
    go_ret
    exact ⟨_, rfl, hR.out, hb1.out⟩
theorem cloneA_calls (A : Option Addr) (c : Nat) (l : List AK) (w : World) (hC : kA.C w A l.length l) (hb : l.length ≤ 1000000) :
    Calls Try.prog 31 #[.slice A l.length c] w fun e w' => ∃ v, e = .returned v ∧ kA.R 32 w' w.heap.size (fun _ => True) v l ∧ Below w.heap.size w w' := by
  have q22 : ∀ (w : World) (a : Option Addr) (n c n' c' : Nat), (binOp .eql 28 (.slice a n c) (.slice none n' c')).run Try.prog w = .ok (.bool a.isNone) w := fun w a n c n' c' => Lib.run_eql_slice_nil w _ _ a n c n' c' Try.underlying28
  have HC := Aside0.mk hC
  clear hC
  cases A with
  | none =>
    have h0 : l = [] := by
      cases l with
      | nil => rfl
      | cons x r => obtain ⟨ad, he, _⟩ := HC.out.2.2 (by simp); cases he
    subst h0
    go_enter Try.func31, Try.ntmps31
    go_wp2
    go_ret
    exact ⟨_, rfl, Kd.R_nil _ _ _ _ _, by first | exact Below.refl _ _ | exact below_drew (Below.refl _ _)⟩
  | some ad =>
    go_enter Try.func31, Try.ntmps31
    go_wp2_with (at_builtin; (refine Kd.R_append_rows kA (w0 := w) w.heap.size rfl (.tmp 5) (.tmp 6) 28 32 _ 48 rfl Try.underlying28 infoA rfl (by decide) (by decide) (.slice (some ⟨w.heap.size, 0, none⟩) 0 0) [] l (some ad) l.length c (fun _ => True) (fun _ => False) rfl rfl ⟨fun _ _ => trivial, [], World.ownsRow_made w #[] 0 (Nat.le_refl _) (Nat.zero_le _) (by simp), Reps.none _ _⟩ (Kd.C_below HC.out (below_alloc (Below.refl _ _) _)) (fun x cs h => by rw [k32_open h]; exact k32_mkM _ _ _ x) (fun _ h => h.elim) (fun _ _ => trivial) (below_alloc (Below.refl _ _) _) (by simp) (by simp; omega) ?_; intro v1 w1 hR hb1 _ _; rw [List.nil_append] at hR; replace hR := Aside0.mk hR; replace hb1 := Aside0.mk hb1))
    go_ret
    exact ⟨_, rfl, hR.out, hb1.out⟩
end Go.Proofs.Ytpphnjmppkbpbaa.Org
namespace Go.Proofs.Ytpphnjmppkbpbaa.Org
open Go Go.RowKit Go.Proofs Go.Proofs.Ytpphnjmppkbpbaa.Xw Go.Proofs.Ytpphnjmppkbpbaa.PAll Go.Proofs.Ytpphnjmppkbpbaa.Ag Go.Proofs.YtpphnjmppkbpbaaW.PrintWords Go.Proofs.YtpphnjmppkbpbaaW.PrintLast Go.Proofs.YtpphnjmppkbpbaaW.PrintMore
attribute [local go_sem] Oper.semAt_some
set_option linter.unusedSimpArgs false
set_option linter.unusedVariables false
abbrev vz : Nat → Int := fun _ => 0
theorem zero_org (w : World) : (zeroValue 51).run Try.prog w = .ok (.agg (orgC vz (.slice none 0 0) (.slice none 0 0))) w := by
  rw [Try.zeroValue51]; rfl
attribute [local go_sem ↓] zero_org
theorem Org.fresh (w : World) : Org (w.alloc (.cells (orgC vz (.slice none 0 0) (.slice none 0 0)) 51 (0, 0))) w.heap.size (fun k => k = w.heap.size) w.heap.size vz [] [] (.slice none 0 0) (.slice none 0 0) :=
  ⟨fun k hk => by omega, fun k hk => by rw [alloc_size]; omega, rfl, blk_new _ _, Kd.R_nil _ _ _ _ _, Kd.R_nil _ _ _ _ _⟩
set_option maxHeartbeats 4000000 in
set_option maxRecDepth 100000 in
theorem new_calls (w : World) : Calls Try.prog 6 #[] w fun e w' => e = .returned (.pointer (some ⟨w.heap.size, 0, none⟩)) ∧ OrgX w' w.heap.size (fun k => k = w.heap.size) w.heap.size vz [] [] ∧ Below w.heap.size w w' := by
  have HO := Aside0.mk (Org.fresh w)
  have HB := Aside0.mk (below_alloc (Below.refl w.heap.size w) (.cells (orgC vz (.slice none 0 0) (.slice none 0 0)) 51 (0, 0)))
  go_enter Try.func6, Try.ntmps6
  go_wp2
  go_ret
  exact ⟨rfl, ⟨_, _, HO.out⟩, HB.out⟩
set_option maxHeartbeats 4000000 in
set_option maxRecDepth 100000 in
theorem has_calls (g : Nat) (o : Int) (w : World) : Calls Try.prog 17 #[.pointer (some ⟨g, 0, none⟩), .int .i64 o] w fun e w' => e = .returned (.bool (decide (0 ≤ o ∧ o < 16))) ∧ Below w.heap.size w w' := by
  by_cases h0 : o ≥ 0
  · by_cases h1 : o < 16
    · have d0 := decide_eq_true h0
      have d1 := decide_eq_true h1
      rw [decide_eq_true (show 0 ≤ o ∧ o < 16 by omega)]
      go_enter Try.func17, Try.ntmps17
      go_wp2
      go_ret
      exact ⟨rfl, by first | exact Below.refl _ _ | exact below_drew (Below.refl _ _)⟩
    · have d0 := decide_eq_true h0
      have d1 := decide_eq_false h1
      rw [decide_eq_false (show ¬ (0 ≤ o ∧ o < 16) by omega)]
      go_enter Try.func17, Try.ntmps17
      go_wp2
      go_ret
      exact ⟨rfl, by first | exact Below.refl _ _ | exact below_drew (Below.refl _ _)⟩
  · have d0 := decide_eq_false h0
    rw [decide_eq_false (show ¬ (0 ≤ o ∧ o < 16) by omega)]
    go_enter Try.func17, Try.ntmps17
    go_wp2
    go_ret
    exact ⟨rfl, by first | exact Below.refl _ _ | exact below_drew (Below.refl _ _)⟩
set_option maxHeartbeats 4000000 in
set_option maxRecDepth 100000 in
theorem has_nil (o : Int) (w : World) : Calls Try.prog 17 #[.pointer none, .int .i64 o] w fun e w' => e = .returned (.bool false) ∧ Below w.heap.size w w' := by
  go_enter Try.func17, Try.ntmps17
  go_wp2
  go_ret
  exact ⟨rfl, by first | exact Below.refl _ _ | exact below_drew (Below.refl _ _)⟩
/-- the version that an object is in -/
def verP (V : Nat → Int) (o : Int) : Int := if 0 ≤ o ∧ o < 16 then V o.toNat else -1
set_option maxHeartbeats 4000000 in
set_option maxRecDepth 100000 in
theorem version_calls {base g : Nat} {P : Nat → Prop} {V : Nat → Int} {F : List Int} {A : List AK} (o : Int) (w : World) (h : OrgX w base P g V F A) : Calls Try.prog 15 #[.pointer (some ⟨g, 0, none⟩), .int .i64 o] w fun e w' => e = .returned (.int .i64 (verP V o)) ∧ Below w.heap.size w w' := by
  obtain ⟨vf, va, h⟩ := h
  have HC := has_calls g o w
  unfold verP
  by_cases h0 : 0 ≤ o ∧ o < 16
  · rw [decide_eq_true h0] at HC
    replace HC := Aside0.mk HC
    rw [if_pos h0]
    obtain ⟨q, rfl⟩ : ∃ q : Nat, o = q := ⟨o.toNat, by omega⟩
    have hq : q < 16 := by omega
    rw [Int.toNat_natCast]
    replace h := Aside0.mk h
    go_enter Try.func15, Try.ntmps15
    go_wp2_with (go_at_call 17; refine HC.out.mono ?_; rintro e w1 ⟨rfl, hb1⟩; have hc1 := (h.out.below hb1).cellI hq; replace hb1 := Aside0.mk hb1)
    go_ret
    exact ⟨rfl, hb1.out⟩
  · rw [decide_eq_false h0] at HC
    replace HC := Aside0.mk HC
    rw [if_neg h0]
    replace h := Aside0.mk h
    go_enter Try.func15, Try.ntmps15
    go_wp2_with (go_at_call 17; refine HC.out.mono ?_; rintro e w1 ⟨rfl, hb1⟩; replace hb1 := Aside0.mk hb1)
    go_ret
    exact ⟨rfl, hb1.out⟩
set_option maxHeartbeats 4000000 in
set_option maxRecDepth 100000 in
theorem version_nil (o : Int) (w : World) : Calls Try.prog 15 #[.pointer none, .int .i64 o] w fun e w' => e = .returned (.int .i64 (-1)) ∧ Below w.heap.size w w' := by
  have HC := Aside0.mk (has_nil o w)
  go_enter Try.func15, Try.ntmps15
  go_wp2_with (go_at_call 17; refine HC.out.mono ?_; rintro e w1 ⟨rfl, hb1⟩; replace hb1 := Aside0.mk hb1)
  go_ret
  exact ⟨rfl, hb1.out⟩
set_option maxHeartbeats 4000000 in
set_option maxRecDepth 100000 in
theorem faults_calls {base g : Nat} {P : Nat → Prop} {V : Nat → Int} {F : List Int} {A : List AK} (w : World) (h : OrgX w base P g V F A) : Calls Try.prog 14 #[.pointer (some ⟨g, 0, none⟩)] w fun e w' => e = .returned (.int .i64 F.length) ∧ Below w.heap.size w w' := by
  obtain ⟨vf, va, h⟩ := h
  obtain ⟨A1, c1, rfl⟩ := Kd.R_slice h.hF
  have hc1 := h.cellF
  replace h := Aside0.mk h
  go_enter Try.func14, Try.ntmps14
  go_wp2
  go_ret
  exact ⟨rfl, by first | exact Below.refl _ _ | exact below_drew (Below.refl _ _)⟩
set_option maxHeartbeats 4000000 in
set_option maxRecDepth 100000 in
theorem faults_nil (w : World) : Calls Try.prog 14 #[.pointer none] w fun e w' => e = .returned (.int .i64 0) ∧ Below w.heap.size w w' := by
  go_enter Try.func14, Try.ntmps14
  go_wp2
  go_ret
  exact ⟨rfl, by first | exact Below.refl _ _ | exact below_drew (Below.refl _ _)⟩
set_option maxHeartbeats 4000000 in
set_option maxRecDepth 100000 in
theorem asked_nil (w : World) : Calls Try.prog 13 #[.pointer none] w fun e w' => e = .returned (.slice none 0 0) ∧ Below w.heap.size w w' := by
  go_enter Try.func13, Try.ntmps13
  go_wp2
  go_ret
  exact ⟨rfl, by first | exact Below.refl _ _ | exact below_drew (Below.refl _ _)⟩
set_option maxHeartbeats 4000000 in
set_option maxRecDepth 100000 in
theorem copy_nil (w : World) : Calls Try.prog 16 #[.pointer none] w fun e w' => e = .returned (.pointer none) ∧ Below w.heap.size w w' := by
  go_enter Try.func16, Try.ntmps16
  go_wp2
  go_ret
  exact ⟨rfl, by first | exact Below.refl _ _ | exact below_drew (Below.refl _ _)⟩
set_option maxHeartbeats 4000000 in
set_option maxRecDepth 100000 in
theorem turn_nil (o : Int) (w : World) : Calls Try.prog 7 #[.pointer none, .int .i64 o] w fun e w' => e = .returned (.int .i64 2) ∧ Below w.heap.size w w' := by
  go_enter Try.func7, Try.ntmps7
  go_wp2
  go_ret
  exact ⟨rfl, by first | exact Below.refl _ _ | exact below_drew (Below.refl _ _)⟩
set_option maxHeartbeats 4000000 in
set_option maxRecDepth 100000 in
theorem fault_nil (A : Option Addr) (n c : Nat) (w : World) : Calls Try.prog 8 #[.pointer none, .slice A n c] w fun e w' => e = .returned (.tuple #[]) ∧ Below w.heap.size w w' := by
  go_enter Try.func8, Try.ntmps8
  go_wp2
  refine bodyPost_end (results_none Try.results8 _ _ _) rfl ?_
  exact ⟨rfl, by first | exact Below.refl _ _ | exact below_drew (Below.refl _ _)⟩
set_option maxHeartbeats 4000000 in
set_option maxRecDepth 100000 in
theorem asked_calls {base g : Nat} {P : Nat → Prop} {V : Nat → Int} {F : List Int} {A : List AK} (hl : A.length ≤ 1000000) (w : World) (h : OrgX w base P g V F A) : Calls Try.prog 13 #[.pointer (some ⟨g, 0, none⟩)] w fun e w' => ∃ v, e = .returned v ∧ kA.R 32 w' w.heap.size (fun _ => True) v A ∧ Below w.heap.size w w' := by
  obtain ⟨vf, va, h⟩ := h
  obtain ⟨A1, c1, rfl, hl1, hC1⟩ := Kd.R_reads h.hA
  have hc1 := h.cellA
  replace h := Aside0.mk h
  have HC := Aside0.mk (cloneA_calls A1 c1 A w hC1 hl)
  clear hC1
  go_enter Try.func13, Try.ntmps13
  go_wp2_with (go_at_call 31; refine HC.out.mono ?_; rintro e w1 ⟨v, rfl, hR, hb1⟩; replace hR := Aside0.mk hR; replace hb1 := Aside0.mk hb1)
  go_ret
  exact ⟨_, rfl, hR.out, hb1.out⟩
end Go.Proofs.Ytpphnjmppkbpbaa.Org
namespace Go.Proofs.Ytpphnjmppkbpbaa.Org
open Go Go.RowKit Go.Proofs Go.Proofs.Ytpphnjmppkbpbaa.Xw Go.Proofs.Ytpphnjmppkbpbaa.PAll Go.Proofs.Ytpphnjmppkbpbaa.Ag Go.Proofs.YtpphnjmppkbpbaaW.PrintWords Go.Proofs.YtpphnjmppkbpbaaW.PrintLast Go.Proofs.YtpphnjmppkbpbaaW.PrintMore
attribute [local go_sem] Oper.semAt_some
set_option linter.unusedSimpArgs false
set_option linter.unusedVariables false
/-- the blocks of an origin behind a deed that led from w to X -/
def PX (P : Nat → Prop) (w X : World) : Nat → Prop := fun k => (P k ∨ w.heap.size ≤ k) ∧ k < X.heap.size
theorem set_size (X : World) (a : Addr) (v : Value) : (X.setCell a v).heap.size = X.heap.size := by simp [World.setCell]
section
variable {w X : World} {base g : Nat} {P Q : Nat → Prop} {V : Nat → Int} {F F1 : List Int} {A A1 : List AK} {vf va v1 : Value}
theorem tyI1 {q : Nat} (hq : q ∈ 3 :: kI.E) : q = 3 := by simpa [Kd.int, Kd.scalar] using hq
theorem tyA1 {q : Nat} (hq : q ∈ 32 :: kA.E) : q = 32 := by simpa [kA, k32, k30, Kd.iso, Kd.pair, Kd.int, Kd.bool, Kd.string, Kd.scalar] using hq
theorem Org.base_le (h : Org w base P g V F A vf va) : base ≤ w.heap.size := Nat.le_trans (h.hge g h.hg) (Nat.le_of_lt (h.hlt g h.hg))
theorem Org.newF (h : Org w base P g V F A vf va) (hk : KeepP w (fun k => some k = vf.ownBlock) X) (hR : kI.R 3 X base (fun k => P k ∨ w.heap.size ≤ k) v1 F1) :
    Org (X.setCell ⟨g, 16, none⟩ v1) base (PX P w (X.setCell ⟨g, 16, none⟩ v1)) g V F1 A v1 va ∧ KeepP w P (X.setCell ⟨g, 16, none⟩ v1) := by
  have hgX : X.heap[g]? = some (.cells (orgC V vf va) 51 (0, 0)) := hk.cells h.hb (fun e => Kd.R_ne h.hF h.hb (by decide) e)
  have hs := set_size X ⟨g, 16, none⟩ v1
  have hbl := h.base_le
  refine ⟨⟨fun k hkk => ?_, fun k hkk => hkk.2, ⟨.inl h.hg, by rw [hs]; exact blk_lt hgX⟩, by rw [blk_set hgX, orgC_setf], ?_, ?_⟩, ?_⟩
  · rcases hkk.1 with hp | hp
    · exact h.hge k hp
    · omega
  · refine Kd.R_mono (Kd.R_bound (Kd.R_set hR hgX (fun q hq => tyI hq) 16 v1)) (fun k hkk => ⟨hkk.1, hkk.2.2.1⟩)
  · have hA1 : kA.R 32 X base P va A := Kd.R_mono (Kd.R_step (Kd.R_bound h.hA) (fun k hkk hlt => hk.block k hlt (fun e => by
      obtain ⟨_, _, _, q, hq, cells, hc⟩ := hkk
      obtain ⟨inner, ho⟩ := Kd.R_own h.hF
      obtain ⟨cs, hcs⟩ := own_typed ho k e.symm
      rw [hc] at hcs
      injection hcs with hcs
      injection hcs with _ h2
      rw [tyA1 hq] at h2
      exact absurd h2 (by decide)))) (fun k hkk => hkk.1)
    refine Kd.R_mono (Kd.R_bound (Kd.R_set hA1 hgX (fun q hq => tyA hq) 16 v1)) (fun k hkk => ⟨.inl hkk.1, hkk.2.2.1⟩)
  · exact (hk.mono (fun k e => .inl (h.hF.1 k e.symm))).set (.inl h.hg) 16 v1
theorem Org.newA (h : Org w base P g V F A vf va) (hk : KeepP w (fun k => some k = va.ownBlock) X) (hR : kA.R 32 X base (fun k => P k ∨ w.heap.size ≤ k) v1 A1) :
    Org (X.setCell ⟨g, 17, none⟩ v1) base (PX P w (X.setCell ⟨g, 17, none⟩ v1)) g V F A1 vf v1 ∧ KeepP w P (X.setCell ⟨g, 17, none⟩ v1) := by
  have hgX : X.heap[g]? = some (.cells (orgC V vf va) 51 (0, 0)) := hk.cells h.hb (fun e => Kd.R_ne h.hA h.hb (by decide) e)
  have hs := set_size X ⟨g, 17, none⟩ v1
  have hbl := h.base_le
  refine ⟨⟨fun k hkk => ?_, fun k hkk => hkk.2, ⟨.inl h.hg, by rw [hs]; exact blk_lt hgX⟩, by rw [blk_set hgX, orgC_seta], ?_, ?_⟩, ?_⟩
  · rcases hkk.1 with hp | hp
    · exact h.hge k hp
    · omega
  · have hF1 : kI.R 3 X base P vf F := Kd.R_mono (Kd.R_step (Kd.R_bound h.hF) (fun k hkk hlt => hk.block k hlt (fun e => by
      obtain ⟨_, _, _, q, hq, cells, hc⟩ := hkk
      obtain ⟨inner, ho⟩ := Kd.R_own h.hA
      obtain ⟨cs, hcs⟩ := own_typed ho k e.symm
      rw [hc] at hcs
      injection hcs with hcs
      injection hcs with _ h2
      rw [tyI1 hq] at h2
      exact absurd h2 (by decide)))) (fun k hkk => hkk.1)
    refine Kd.R_mono (Kd.R_bound (Kd.R_set hF1 hgX (fun q hq => tyI hq) 17 v1)) (fun k hkk => ⟨.inl hkk.1, hkk.2.2.1⟩)
  · refine Kd.R_mono (Kd.R_bound (Kd.R_set hR hgX (fun q hq => tyA hq) 17 v1)) (fun k hkk => ⟨hkk.1, hkk.2.2.1⟩)
  · exact (hk.mono (fun k e => .inl (h.hA.1 k e.symm))).set (.inl h.hg) 17 v1
end
theorem KeepP.of_grown {w X : World} {row : Option Nat} (hg : w.grownBy X row) : KeepP w (fun k => some k = row) X := (KeepP.refl w _).grown hg (fun k e => .inl e.symm)
set_option maxHeartbeats 4000000 in
set_option maxRecDepth 100000 in
theorem fault_calls {base g : Nat} {P : Nat → Prop} {V : Nat → Int} {F : List Int} {A : List AK} (A1 : Option Addr) (c : Nat) (l : List Int) (w : World) (h : OrgX w base P g V F A) (hC : kI.C w A1 l.length l) (hl : F.length + l.length ≤ 1000000) :
    Calls Try.prog 8 #[.pointer (some ⟨g, 0, none⟩), .slice A1 l.length c] w fun e w' => e = .returned (.tuple #[]) ∧ OrgX w' base (PX P w w') g V (F ++ l) A ∧ KeepP w P w' := by
  obtain ⟨vf, va, h⟩ := h
  have hc1 := h.cellF
  have hz1 := blk_frozen h.hb 16
  replace h := Aside0.mk h
  replace hC := Aside0.mk hC
  have hfre : ∀ X : World, Aside0 (w.grownBy X vf.ownBlock) → X.frozen? ⟨g, 16, none⟩ = false := fun X hg => blk_frozen ((KeepP.of_grown hg.out).cells h.out.hb (fun e => Kd.R_ne h.out.hF h.out.hb (by decide) e)) 16
  have hcel : ∀ X : World, Aside0 (w.grownBy X vf.ownBlock) → X.cell? ⟨g, 16, none⟩ = some vf := fun X hg => (blk_cell ((KeepP.of_grown hg.out).cells h.out.hb (fun e => Kd.R_ne h.out.hF h.out.hb (by decide) e)) 16).trans orgC_f
  go_enter Try.func8, Try.ntmps8
  go_wp2_with (at_builtin; (refine Kd.R_append_rows kI (w0 := w) base rfl (.tmp 10) (.tmp 11) 27 3 (.int .i64 0) 8 rfl Try.underlying27 infoI rfl (by decide) (by decide) vf F l A1 l.length c (fun k => P k ∨ w.heap.size ≤ k) (fun _ => False) rfl rfl (Kd.R_mono h.out.hF (fun k hk => .inl hk)) hC.out (fun x cs h => h) (fun _ h => h.elim) (fun _ h => .inr h) (Below.refl _ _) h.out.base_le (by omega) ?_; intro v1 w1 hR hb1 hg1 hat; clear hb1 hat; obtain ⟨A3, c3, rfl⟩ := Kd.R_slice hR; replace hR := Aside0.mk hR; replace hg1 := Aside0.mk hg1; have hf1 := hfre w1 hg1; have hq1 := hcel w1 hg1))
  refine bodyPost_end (results_none Try.results8 _ _ _) rfl ?_
  have hN := h.out.newF (KeepP.of_grown hg1.out) hR.out
  rw [List.length_append] at hN
  exact ⟨rfl, ⟨_, _, hN.1⟩, hN.2⟩
end Go.Proofs.Ytpphnjmppkbpbaa.Org
namespace Go.Proofs.Ytpphnjmppkbpbaa.Org
open Go Go.RowKit Go.Proofs Go.Proofs.Ytpphnjmppkbpbaa.Xw Go.Proofs.Ytpphnjmppkbpbaa.PAll Go.Proofs.Ytpphnjmppkbpbaa.Ag Go.Proofs.Ytpphnjmppkbpbaa.Pure Go.Proofs.Ytpphnjmppkbpbaa.PureQ Go.Proofs.YtpphnjmppkbpbaaW.PrintWords Go.Proofs.YtpphnjmppkbpbaaW.PrintLast Go.Proofs.YtpphnjmppkbpbaaW.PrintMore
attribute [local go_sem] Oper.semAt_some
set_option linter.unusedSimpArgs false
set_option linter.unusedVariables false
abbrev RP := Int × ByteArray × Int × ByteArray × List Int
/-- an answer's value: its body is a row that may be read, in blocks from lo on -/
def RepV (w : World) (lo : Nat) (v : Value) (r : RP) : Prop := ∃ A c, v = .agg #[.int .i64 r.1, .string r.2.1, .int .i64 r.2.2.1, .string r.2.2.2.1, .slice A r.2.2.2.2.length c] ∧ r.2.2.2.2.length ≤ c ∧ Kd.F (Kd.int .u8) w (fun k => lo ≤ k) A r.2.2.2.2.length r.2.2.2.2
theorem RepV.below {w X : World} {lo : Nat} {v : Value} {r : RP} (h : RepV w lo v r) (hb : Below w.heap.size w X) : RepV X lo v r := by
  obtain ⟨A, c, h1, h2, h3⟩ := h
  exact ⟨A, c, h1, h2, Kd.F_below h3 hb⟩
theorem RepV.lower {w : World} {lo lo' : Nat} {v : Value} {r : RP} (h : RepV w lo v r) (hl : lo' ≤ lo) : RepV w lo' v r := by
  obtain ⟨A, c, h1, h2, h3⟩ := h
  exact ⟨A, c, h1, h2, Kd.F_mono h3 (fun k hk => Nat.le_trans hl hk)⟩
theorem RepV.keep {w X : World} {lo : Nat} {P : Nat → Prop} {v : Value} {r : RP} (h : RepV w lo v r) (hk : KeepP w P X) (hP : ∀ k, lo ≤ k → ¬ P k) : RepV X lo v r := by
  obtain ⟨A, c, h1, h2, h3⟩ := h
  exact ⟨A, c, h1, h2, Kd.F_step h3 (fun k hl hlt => hk.block k hlt (hP k hl))⟩
theorem RepV.of_R {w : World} {base : Nat} {s1 : Int} {s2 : ByteArray} {s3 : Int} {s4 : ByteArray} {s5 : List Int} {u : Value} (h : (Kd.int .u8).R 5 w base (fun _ => True) u s5) : RepV w base (.agg #[.int .i64 s1, .string s2, .int .i64 s3, .string s4, u]) (s1, s2, s3, s4, s5) := by
  obtain ⟨A, c, rfl, hl, _⟩ := Kd.R_reads h
  refine ⟨A, c, rfl, hl, fun W' hW => ?_⟩
  obtain ⟨A', c', he, _, hC⟩ := Kd.R_reads (Kd.R_step (w1 := W') (Kd.R_bound h) (fun k hk hlt => hW k hk.2.1 hlt))
  injection he with e1 e2 e3
  subst e1
  exact hC
def askV (a : AK) : Value := .agg #[.int .i64 a.f0, .bool a.f1, .string a.f2, .int .i64 a.f3.f0, .int .i64 a.f3.f1]
def ans (a : AK) (v : Int) : RP := replyV a.f0 a.f1 (bytesOf a.f2) a.f3.f0 a.f3.f1 v
def flt (k : Int) (r : RP) : RP := faultyV k r.1 r.2.1 r.2.2.1 r.2.2.2.1 r.2.2.2.2
def served (F : List Int) (r : RP) : RP := match F with | [] => r | k :: _ => flt k r
structure RSm (r : RP) : Prop where
  tag : r.2.1.size ≤ 200
  range : r.2.2.2.1.size ≤ 200
  body : r.2.2.2.2.length ≤ 500
theorem tagV_len (o v : Int) : (tagV o v).length ≤ 100 := by
  unfold tagV
  split
  · rename_i h
    have hm := of_decide_eq_true h
    simp only [List.length_append, List.length_cons, List.length_nil]
    have l1 := dig_len o.toNat (by omega)
    have l2 := dig_len v.toNat (by omega)
    omega
  · simp
theorem ans_small (a : AK) (v : Int) : RSm (ans a v) := by
  have h1 := tagV_len a.f0 v
  have h2 := lenV_range a.f0 v
  have h3 := bodyV_len a.f0 v a.f3.f0 a.f3.f1
  have h4 := Pure.ptext_len (lenV a.f0 v) (by omega)
  unfold ans replyV
  repeat' split
  all_goals refine ⟨by simp only [size_str]; (try simp only [List.length_nil]); omega, ?_, by first | (dsimp only; omega) | simp⟩
  all_goals simp only [size_str, Pure.crText, Pure.crNone, Pure.unitT, List.length_append, List.length_cons, List.length_nil]
  all_goals try omega
  rename_i hr
  have hr' := of_decide_eq_true hr.1
  have l1 := Pure.ptext_len a.f3.f0 (by omega)
  have l2 := Pure.ptext_len (a.f3.f1 - 1) (by omega)
  omega
theorem of_calls (a : AK) (v : Int) (w : World) : Calls Try.prog 28 #[askV a, .int .i64 v] w fun e w' => ∃ u, e = .returned u ∧ RepV w' w.heap.size u (ans a v) ∧ Below w.heap.size w w' := by
  obtain ⟨n, hn⟩ := reply_v a.f0 a.f1 a.f2 a.f3.f0 a.f3.f1 v
  refine (reply_Of.calls n a.f0 a.f1 a.f2 a.f3.f0 a.f3.f1 v _ _ _ _ _ w (hn n (Nat.le_refl _))).mono ?_
  rintro e w' ⟨u, rfl, hR, hb⟩
  exact ⟨_, rfl, .of_R hR, hb⟩
theorem flt_calls (k : Int) (r : RP) (hs : RSm r) (u : Value) (lo : Nat) (w : World) (hr : RepV w lo u r) : Calls Try.prog 30 #[.int .i64 k, u] w fun e w' => ∃ u', e = .returned u' ∧ RepV w' w.heap.size u' (flt k r) ∧ Below w.heap.size w w' := by
  obtain ⟨A, c, rfl, hl, hC⟩ := hr
  obtain ⟨n, hn⟩ := faulty_ev k r.1 r.2.1 r.2.2.1 r.2.2.2.1 r.2.2.2.2 hs.tag hs.range hs.body
  refine (reply_Faulty.calls n k r.1 r.2.1 r.2.2.1 r.2.2.2.1 A c r.2.2.2.2 _ _ _ _ _ w (Kd.F_now hC) hl (hn n (Nat.le_refl _))).mono ?_
  rintro e w' ⟨u, rfl, hR, hb⟩
  exact ⟨_, rfl, .of_R hR, hb⟩
end Go.Proofs.Ytpphnjmppkbpbaa.Org
namespace Go.Proofs.Ytpphnjmppkbpbaa.Org
open Go Go.RowKit Go.Proofs Go.Proofs.Ytpphnjmppkbpbaa.Xw Go.Proofs.Ytpphnjmppkbpbaa.PAll Go.Proofs.Ytpphnjmppkbpbaa.Ag Go.Proofs.YtpphnjmppkbpbaaW.PrintWords Go.Proofs.YtpphnjmppkbpbaaW.PrintLast Go.Proofs.YtpphnjmppkbpbaaW.PrintMore
attribute [local go_sem] Oper.semAt_some
set_option linter.unusedSimpArgs false
set_option linter.unusedVariables false
theorem wp_store_row {P : Program} {o : Oper} {a : Act} {W : World} {K : Act → World → Prop} {Q : Exit → Act → World → Prop} (ty : TypeId) (x y : Operand) (ho : o.op = .store ty x y) (hN : o.dst = none) (g : Nat) (hx : a.eval x = .pointer (some ⟨g, 0, none⟩)) (cells : Array Value) (hy : a.eval y = .agg cells)
    (old : Array Value) (t : TypeId) (hg : W.heap[g]? = some (.cells old t (0, 0))) (hi : (P.info? ty).map (·.size) = some cells.size) (ho' : old.size = cells.size) (h1 : cells.all (·.oneCell') = true) (hK : K a (W.setRow g cells)) : Oper.wp P o a W K Q := by
  unfold Oper.wp execOp
  simp only [ho, hx, hy, Instr.storeAt, Instr.sureAddr, Sem.run_bind, Sem.run_pure, Result.andThen_ok, run_storeVar_row W g t ty old cells hg hi ho' h1]
  have e : a.put o.dst undef = a := by rw [hN]; rfl
  show K (a.put o.dst undef) (W.setRow g cells)
  rw [e]
  exact hK
theorem list_store_row {P : Program} {ops : Array Oper} {rest : List Oper} {o : Oper} {a : Act} {W : World} {Q : Exit → Act → World → Prop} (hgd : o.guard = none) (ty : TypeId) (x y : Operand) (ho : o.op = .store ty x y) (hN : o.dst = none) (g : Nat) (hx : a.eval x = .pointer (some ⟨g, 0, none⟩)) (cells : Array Value) (hy : a.eval y = .agg cells)
    (old : Array Value) (t : TypeId) (hg : W.heap[g]? = some (.cells old t (0, 0))) (hi : (P.info? ty).map (·.size) = some cells.size) (ho' : old.size = cells.size) (h1 : cells.all (·.oneCell') = true) (h : wpList P ops Q rest a (W.setRow g cells)) : wpList P ops Q (o :: rest) a W :=
  wpList_plain hgd fun K hK => wp_store_row ty x y ho hN g hx cells hy old t hg hi ho' h1 (hK _ _ h)
theorem setRow_size (X : World) (g : Nat) (cells : Array Value) : (X.setRow g cells).heap.size = X.heap.size := by simp [World.setRow]
theorem KeepP.setRow {w X : World} {P : Nat → Prop} (h : KeepP w P X) {g : Nat} (hg : P g ∨ w.heap.size ≤ g) (cells : Array Value) : KeepP w P (X.setRow g cells) :=
  ⟨by rw [setRow_size]; exact h.size, fun k hk hp => (setRow_other X g k cells (fun e => hg.elim (fun h => hp (e ▸ h)) (fun hl => by omega))).trans (h.block k hk hp), h.os, h.tape, h.output⟩
set_option maxHeartbeats 8000000 in
set_option maxRecDepth 100000 in
theorem right_calls {base g n m : Nat} {P : Nat → Prop} {V : Nat → Int} {F : List Int} {A : List AK} (a : AK) (w : World) (h : OrgX w base P g V F A) (hn : w.heap[n]? = some (.cells #[.pointer (some ⟨g, 0, none⟩)] 24 (0, 0)))
    (hm : w.heap[m]? = some (.cells #[.int .i64 a.f0, .bool a.f1, .string a.f2, .int .i64 a.f3.f0, .int .i64 a.f3.f1] 32 (0, 0))) :
    Calls Try.prog 27 #[.pointer (some ⟨m, 0, none⟩), .pointer (some ⟨n, 0, none⟩)] w fun e w' => ∃ u, e = .returned u ∧ RepV w' w.heap.size u (ans a (verP V a.f0)) ∧ Below w.heap.size w w' := by
  have hbr := blk_new w (.cells #[.int .i64 0, .string ⟨#[]⟩, .int .i64 0, .string ⟨#[]⟩, .slice none 0 0] 40 (0, 0))
  have hB1 := below_alloc (Below.refl w.heap.size w) (.cells #[.int .i64 0, .string ⟨#[]⟩, .int .i64 0, .string ⟨#[]⟩, .slice none 0 0] 40 (0, 0))
  obtain ⟨W1, hW1⟩ : ∃ X, w.alloc (.cells #[.int .i64 0, .string ⟨#[]⟩, .int .i64 0, .string ⟨#[]⟩, .slice none 0 0] 40 (0, 0)) = X := ⟨_, rfl⟩
  rw [hW1] at hbr hB1
  have hsz : w.heap.size < W1.heap.size := blk_lt hbr
  have hSn : ∀ X, KeepP W1 (fun k => k = w.heap.size) X → X.cell? ⟨n, 0, none⟩ = some (.pointer (some ⟨g, 0, none⟩)) := fun X hk => (blk_cell (hk.cells (blk_below hn hB1) (by have := blk_lt hn; omega)) 0).trans rfl
  have hSm : ∀ j : Nat, ∀ X, KeepP W1 (fun k => k = w.heap.size) X → X.cell? ⟨m, j, none⟩ = #[Value.int .i64 a.f0, .bool a.f1, .string a.f2, .int .i64 a.f3.f0, .int .i64 a.f3.f1][j]? := fun j X hk => blk_cell (hk.cells (blk_below hm hB1) (by have := blk_lt hm; omega)) j
  have hS0 := fun X hk => (hSm 0 X hk).trans rfl
  have hS1 := fun X hk => (hSm 1 X hk).trans rfl
  have hS2 := fun X hk => (hSm 2 X hk).trans rfl
  have hS3 := fun X hk => (hSm 3 X hk).trans rfl
  have hS4 := fun X hk => (hSm 4 X hk).trans rfl
  clear hSm
  replace h := Aside0.mk (h.below hB1)
  replace hW1 := Aside0.mk hW1
  replace hsz := Aside0.mk hsz
  replace hbr := Aside0.mk hbr
  replace hB1 := Aside0.mk hB1
  clear hn hm
  go_enter Try.func27, Try.ntmps27
  go_wp2
  rename_i Kz hKz
  replace hKz := Aside0.mk hKz
  rw [hW1.out]
  have hBd := Aside0.mk (below_drew (Below.refl W1.heap.size W1))
  have hX := Aside0.mk (KeepP.of_below (P := fun k => k = w.heap.size) hBd.out)
  have hOd := Aside0.mk (h.out.below hBd.out)
  refine wp_region_noPanic ?_
  refine wp_region_held_drew (S := fun X => KeepP W1 (fun k => k = w.heap.size) X) (by kernel_rfl) hX.out (fun hHeld => ?_)
  generalize W1.drew = wd at hX hOd hBd hHeld ⊢
  refine wpAnyH_take (i := 0) (oi := { dst := some 3, op := Go.Op.load 32 (Go.Operand.tmp 0), type := 32, pos := "origin.go:84", after := #[], guard := none }) (v := ?_) rfl (by kernel_rfl) (by kernel_rfl) (by kernel_rfl) (fun _ _ _ h => h) (Or.inl ⟨by kernel_rfl, ?_⟩) (by assumption) ?_
  rotate_left
  · intro W hSw; go_simp; first | done | with_reducible rfl
  try simp only [Act.put, List.setIfInBounds_toArray, List.set_cons_zero, List.set_cons_succ]
  refine wpAnyH_take (i := 1) (oi := { dst := some 4, op := Go.Op.load 24 (Go.Operand.tmp 1), type := 24, pos := "origin.go:84", after := #[], guard := none }) (v := ?_) rfl (by kernel_rfl) (by kernel_rfl) (by kernel_rfl) (fun _ _ _ h => h) (Or.inl ⟨by kernel_rfl, ?_⟩) (by assumption) ?_
  rotate_left
  · intro W hSw; go_simp; first | done | with_reducible rfl
  try simp only [Act.put, List.setIfInBounds_toArray, List.set_cons_zero, List.set_cons_succ]
  refine wpAnyH_take (i := 2) (oi := { dst := some 5, op := Go.Op.fieldAddr 32 (Go.Operand.tmp 0) 0, type := 0, pos := "origin.go:84", after := #[], guard := none }) (v := ?_) rfl (by kernel_rfl) (by kernel_rfl) (by kernel_rfl) (fun _ _ _ h => h) (Or.inl ⟨by kernel_rfl, ?_⟩) (by assumption) ?_
  rotate_left
  · intro W hSw; go_simp; first | done | with_reducible rfl
  try simp only [Act.put, List.setIfInBounds_toArray, List.set_cons_zero, List.set_cons_succ]
  refine wpAnyH_take (i := 3) (oi := { dst := some 6, op := Go.Op.load 3 (Go.Operand.tmp 5), type := 3, pos := "origin.go:84", after := #[{ on := 2, ground := Go.Ground.data }], guard := none }) (v := ?_) rfl (by kernel_rfl) (by kernel_rfl) (by kernel_rfl) (fun _ _ _ h => h) (Or.inl ⟨by kernel_rfl, ?_⟩) (by assumption) ?_
  rotate_left
  · intro W hSw; go_simp; first | done | with_reducible rfl
  try simp only [Act.put, List.setIfInBounds_toArray, List.set_cons_zero, List.set_cons_succ]
  refine wpAnyH_ready (rs := [4]) (by kernel_rfl) (by simp) ?_
  refine AllReadyH.cons (o := { dst := some 7, op := Go.Op.call { callee := Go.Callee.value (Go.Operand.func 15), args := #[Go.Operand.tmp 4, Go.Operand.tmp 6], argTypes := #[24, 3] }, type := 3, pos := "origin.go:84", after := #[{ on := 1, ground := Go.Ground.data }, { on := 3, ground := Go.Ground.data }], guard := none }) rfl (fun K hK => ?_) AllReadyH.nil
  refine goes_ (N := some 7) («as» := #[.tmp 4, .tmp 6]) Try.func15 (by kernel_rfl) rfl #[.pointer (some ⟨g, 0, none⟩), .int .i64 a.f0] (by kernel_rfl) rfl rfl (by kernel_rfl) ?_
  refine (version_calls a.f0 _ hOd.out).mono ?_
  rintro e Y ⟨rfl, hb⟩
  refine ⟨_, rfl, ?_⟩
  have hBY := Aside0.mk (below_step hBd.out hb)
  clear hb
  refine hK.out _ _ ?_ (fun hHeld => ?_)
  · exact KeepP.of_below hBY.out
  clear hK K
  try simp only [Act.put, List.setIfInBounds_toArray, List.set_cons_zero, List.set_cons_succ]
  refine wpAnyH_ready (rs := [5]) (by kernel_rfl) (by simp) ?_
  refine AllReadyH.cons (o := { dst := some 8, op := Go.Op.call { callee := Go.Callee.value (Go.Operand.func 28), args := #[Go.Operand.tmp 3, Go.Operand.tmp 7], argTypes := #[32, 3] }, type := 40, pos := "origin.go:84", after := #[{ on := 0, ground := Go.Ground.data }, { on := 4, ground := Go.Ground.data }, { on := 4, ground := Go.Ground.chain }], guard := none }) rfl (fun K hK => ?_) AllReadyH.nil
  refine goes_ (N := some 8) («as» := #[.tmp 3, .tmp 7]) Try.func28 (by kernel_rfl) rfl #[askV a, .int .i64 (verP V a.f0)] (by kernel_rfl) rfl rfl (by kernel_rfl) ?_
  refine (of_calls a (verP V a.f0) _).mono ?_
  rintro e Z ⟨v, rfl, hr, hb⟩
  refine ⟨_, rfl, ?_⟩
  have hBZ := Aside0.mk (below_step hBY.out hb)
  replace hr := Aside0.mk hr
  clear hb
  refine hK.out _ _ ?_ (fun hHeld => ?_)
  · exact KeepP.of_below hBZ.out
  clear hK K
  try simp only [Act.put, List.setIfInBounds_toArray, List.set_cons_zero, List.set_cons_succ]
  refine wpAnyH_ready (rs := [6]) (by kernel_rfl) (by simp) ?_
  refine AllReadyH.cons (o := { dst := none, op := Go.Op.store 40 (Go.Operand.tmp 2) (Go.Operand.tmp 8), type := 0, pos := "origin.go:84", after := #[{ on := 5, ground := Go.Ground.data }, { on := 5, ground := Go.Ground.chain }, { on := 0, ground := Go.Ground.phase }, { on := 1, ground := Go.Ground.phase }, { on := 2, ground := Go.Ground.phase }, { on := 3, ground := Go.Ground.phase }, { on := 4, ground := Go.Ground.phase }, { on := 5, ground := Go.Ground.phase }], guard := none }) rfl (fun K hK => ?_) AllReadyH.nil
  have hr1 := hr.out
  obtain ⟨Au, cu, rfl, hlu, hCu⟩ := hr1
  clear hlu hCu
  rw [if_pos (by first | rfl | kernel_rfl)]
  refine wp_store_row 40 (.tmp 2) (.tmp 8) rfl rfl w.heap.size rfl _ rfl _ 40 (blk_below hbr.out hBZ.out) (by kernel_rfl) rfl (by simp [Value.oneCell']) ?_
  refine hK.out _ _ ?_ (fun hHeld => ?_)
  · exact KeepP.setRow (P := fun k => k = w.heap.size) (g := w.heap.size) (KeepP.of_below hBZ.out) (.inl rfl) _
  clear hK K
  try simp only [Act.put, List.setIfInBounds_toArray, List.set_cons_zero, List.set_cons_succ]
  refine wpAnyH_done (by kernel_rfl) ?_ _
  try simp only [Act.put, List.setIfInBounds_toArray, List.set_cons_zero, List.set_cons_succ, List.getElem_toArray, List.getElem_cons_zero, List.getElem_cons_succ]
  refine NoPanic.normal ?_
  (try dsimp only [Exit.then])
  refine hKz.out _ _ ?_
  have hRb := fun cs => setRow_heap Z w.heap.size _ cs 40 (0, 0) (blk_below hbr.out hBZ.out)
  go_wp2
  refine bodyPost_ret (v := .agg _) (results_cell_row (p := 2) (ty := 40) rfl _ _ w.heap.size 40 _ (0, 0) _ rfl (hRb _) Try.underlying40 rfl (by kernel_rfl)) rfl ⟨_, rfl, ?_, ?_⟩
  · exact (hr.out.keep (P := fun k => k = w.heap.size) (KeepP.setRow (P := fun k => k = w.heap.size) (g := w.heap.size) (KeepP.refl Z _) (.inl rfl) _) (fun k hk => by have := hBY.out.size; have := hsz.out; omega)).lower (by have := hBY.out.size; have := hsz.out; omega)
  · exact below_setRow (below_step hB1.out hBZ.out) (Nat.le_refl _) _
end Go.Proofs.Ytpphnjmppkbpbaa.Org
namespace Go.Proofs.Ytpphnjmppkbpbaa.Org
open Go Go.RowKit Go.Proofs Go.Proofs.Ytpphnjmppkbpbaa.Xw Go.Proofs.Ytpphnjmppkbpbaa.PAll Go.Proofs.Ytpphnjmppkbpbaa.Ag Go.Proofs.YtpphnjmppkbpbaaW.PrintWords Go.Proofs.YtpphnjmppkbpbaaW.PrintLast Go.Proofs.YtpphnjmppkbpbaaW.PrintMore
attribute [local go_sem] Oper.semAt_some
set_option linter.unusedSimpArgs false
set_option linter.unusedVariables false
theorem Org.widen {w : World} {base g : Nat} {P Q : Nat → Prop} {V : Nat → Int} {F : List Int} {A : List AK} {vf va : Value} (h : Org w base P g V F A vf va) (hQ : ∀ k, P k → Q k) (hge : ∀ k, Q k → base ≤ k) (hlt : ∀ k, Q k → k < w.heap.size) : Org w base Q g V F A vf va :=
  ⟨hge, hlt, hQ g h.hg, h.hb, Kd.R_mono h.hF hQ, Kd.R_mono h.hA hQ⟩
theorem serve_fin {w w5 : World} {base g lo : Nat} {P P5 : Nat → Prop} {V : Nat → Int} {F5 : List Int} {A5 : List AK} {vf5 va5 u : Value} {r : RP} (hPl : ∀ k, P k → k < w.heap.size) (hge : ∀ k, P k → base ≤ k) (hbl : base ≤ w.heap.size)
    (hO : Org w5 base P5 g V F5 A5 vf5 va5) (hP5 : ∀ k, P5 k → P k ∨ w.heap.size + 3 ≤ k) (hK : KeepP w P w5) (hr : RepV w5 lo u r) (hlo : w.heap.size + 3 ≤ lo) (cs : Array Value) :
    RepV (w5.setRow (w.heap.size + 1 + 1) cs) w.heap.size u r ∧ OrgX (w5.setRow (w.heap.size + 1 + 1) cs) base (PX P w (w5.setRow (w.heap.size + 1 + 1) cs)) g V F5 A5 ∧ KeepP w P (w5.setRow (w.heap.size + 1 + 1) cs) := by
  have hs := setRow_size w5 (w.heap.size + 1 + 1) cs
  have hk : KeepP w5 (fun k => k = w.heap.size + 1 + 1) (w5.setRow (w.heap.size + 1 + 1) cs) := KeepP.setRow (P := fun k => k = w.heap.size + 1 + 1) (g := w.heap.size + 1 + 1) (KeepP.refl _ _) (.inl rfl) _
  refine ⟨(hr.keep hk (fun k hk => by omega)).lower (by omega), ⟨_, _, (hO.keep hk (fun k hk e => ?_)).widen (fun k hk => ⟨?_, ?_⟩) (fun k hk => ?_) (fun k hk => hk.2)⟩, hK.setRow (.inr (by omega)) _⟩
  · rcases hP5 k hk with hp | hp
    · have := hPl k hp; omega
    · omega
  · exact (hP5 k hk).imp id (fun h => by omega)
  · have := hO.hlt k hk; omega
  · rcases hk.1 with hp | hp
    · exact hge k hp
    · omega
theorem right_enters (args : Array Value) (w : World) : (callFunc 27 args).run Try.prog w = .ok (.enter 27 args) w := enters_of Try.func27 (by kernel_rfl) rfl args w
set_option maxHeartbeats 8000000 in
set_option maxRecDepth 100000 in
theorem serve_calls {base g : Nat} {P : Nat → Prop} {V : Nat → Int} {F : List Int} {A : List AK} (a : AK) (w : World) (h : OrgX w base P g V F A) (hF : F.length ≤ 1000000) (hA : A.length ≤ 1000000) :
    Calls Try.prog 12 #[.pointer (some ⟨g, 0, none⟩), askV a] w fun e w' => ∃ u, e = .returned u ∧ RepV w' w.heap.size u (served F (ans a (verP V a.f0))) ∧ OrgX w' base (PX P w w') g V F.tail (A ++ [a]) ∧ KeepP w P w' := by
  obtain ⟨vf, va, h⟩ := h
  have e0 := blk_alloc (blk_alloc (blk_new w (Obj.cells #[.pointer (some ⟨g, 0, none⟩)] 24 (0, 0))) (Obj.cells #[.int .i64 a.f0, .bool a.f1, .string a.f2, .int .i64 a.f3.f0, .int .i64 a.f3.f1] 32 (0, 0))) (Obj.cells #[.int .i64 0, .string ⟨#[]⟩, .int .i64 0, .string ⟨#[]⟩, .slice none 0 0] 40 (0, 0))
  have e1 := blk_alloc (blk_new (w.alloc (Obj.cells #[.pointer (some ⟨g, 0, none⟩)] 24 (0, 0))) (Obj.cells #[.int .i64 a.f0, .bool a.f1, .string a.f2, .int .i64 a.f3.f0, .int .i64 a.f3.f1] 32 (0, 0))) (Obj.cells #[.int .i64 0, .string ⟨#[]⟩, .int .i64 0, .string ⟨#[]⟩, .slice none 0 0] 40 (0, 0))
  have e2 := blk_new ((w.alloc (Obj.cells #[.pointer (some ⟨g, 0, none⟩)] 24 (0, 0))).alloc (Obj.cells #[.int .i64 a.f0, .bool a.f1, .string a.f2, .int .i64 a.f3.f0, .int .i64 a.f3.f1] 32 (0, 0))) (Obj.cells #[.int .i64 0, .string ⟨#[]⟩, .int .i64 0, .string ⟨#[]⟩, .slice none 0 0] 40 (0, 0))
  have hB3 := below_alloc (below_alloc (below_alloc (Below.refl w.heap.size w) (Obj.cells #[.pointer (some ⟨g, 0, none⟩)] 24 (0, 0))) (Obj.cells #[.int .i64 a.f0, .bool a.f1, .string a.f2, .int .i64 a.f3.f0, .int .i64 a.f3.f1] 32 (0, 0))) (Obj.cells #[.int .i64 0, .string ⟨#[]⟩, .int .i64 0, .string ⟨#[]⟩, .slice none 0 0] 40 (0, 0))
  rw [alloc_size] at e1
  rw [alloc_size, alloc_size] at e2
  have hsz : (((w.alloc (Obj.cells #[.pointer (some ⟨g, 0, none⟩)] 24 (0, 0))).alloc (Obj.cells #[.int .i64 a.f0, .bool a.f1, .string a.f2, .int .i64 a.f3.f0, .int .i64 a.f3.f1] 32 (0, 0))).alloc (Obj.cells #[.int .i64 0, .string ⟨#[]⟩, .int .i64 0, .string ⟨#[]⟩, .slice none 0 0] 40 (0, 0))).heap.size = w.heap.size + 3 := by rw [alloc_size, alloc_size, alloc_size]
  obtain ⟨W3, hW3⟩ : ∃ X, ((w.alloc (Obj.cells #[.pointer (some ⟨g, 0, none⟩)] 24 (0, 0))).alloc (Obj.cells #[.int .i64 a.f0, .bool a.f1, .string a.f2, .int .i64 a.f3.f0, .int .i64 a.f3.f1] 32 (0, 0))).alloc (Obj.cells #[.int .i64 0, .string ⟨#[]⟩, .int .i64 0, .string ⟨#[]⟩, .slice none 0 0] 40 (0, 0)) = X := ⟨_, rfl⟩
  rw [hW3] at e0 e1 e2 hB3 hsz
  have hO3 := h.below hB3
  have hgl : g < w.heap.size := h.hlt g h.hg
  have hPl := Aside0.mk h.hlt
  have hge := Aside0.mk h.hge
  have hbl := Aside0.mk h.base_le
  have hnv : ∀ k, w.heap.size ≤ k → ¬ (k = g ∨ some k = va.ownBlock) := fun k hk e => e.elim (fun e => by omega) (fun e => by
    have := h.hlt k (h.hA.1 k e.symm)
    omega)
  have hSo : ∀ X, KeepP W3 (fun k => k = g ∨ some k = va.ownBlock) X → X.cell? ⟨w.heap.size, 0, none⟩ = some (.pointer (some ⟨g, 0, none⟩)) := fun X hk => (blk_cell (hk.cells e0 (hnv _ (Nat.le_refl _))) 0).trans rfl
  have hSm : ∀ j : Nat, ∀ X, KeepP W3 (fun k => k = g ∨ some k = va.ownBlock) X → X.cell? ⟨w.heap.size + 1, j, none⟩ = #[Value.int .i64 a.f0, .bool a.f1, .string a.f2, .int .i64 a.f3.f0, .int .i64 a.f3.f1][j]? := fun j X hk => blk_cell (hk.cells e1 (hnv _ (by omega))) j
  have hS0 := fun X hk => (hSm 0 X hk).trans rfl
  have hS1 := fun X hk => (hSm 1 X hk).trans rfl
  have hS2 := fun X hk => (hSm 2 X hk).trans rfl
  have hS3 := fun X hk => (hSm 3 X hk).trans rfl
  have hS4 := fun X hk => (hSm 4 X hk).trans rfl
  clear hSm
  replace h := Aside0.mk h
  replace e0 := Aside0.mk e0
  replace e1 := Aside0.mk e1
  replace e2 := Aside0.mk e2
  replace hsz := Aside0.mk hsz
  replace hgl := Aside0.mk hgl
  replace hnv := Aside0.mk hnv
  replace hB3 := Aside0.mk hB3
  replace hO3 := Aside0.mk hO3
  replace hW3 := Aside0.mk hW3
  replace hF := Aside0.mk hF
  replace hA := Aside0.mk hA
  unfold askV
  go_enter Try.func12, Try.ntmps12
  go_wp2
  rename_i Kz hKz
  replace hKz := Aside0.mk hKz
  rw [hW3.out]
  have hBd := Aside0.mk (below_step hB3.out (below_drew (Below.refl _ W3)))
  have hX := Aside0.mk (KeepP.refl W3 (fun k => k = g ∨ some k = va.ownBlock)).drew
  have hOd := Aside0.mk (hO3.out.below (below_drew (Below.refl _ W3)))
  have hdS := Aside0.mk (show W3.drew.heap.size = w.heap.size + 3 from hsz.out)
  have hd0 := Aside0.mk (blk_drew e0.out)
  have hd1 := Aside0.mk (blk_drew e1.out)
  have hd2 := Aside0.mk (blk_drew e2.out)
  refine wp_region_noPanic ?_
  refine wp_region_held_drew (S := fun X => KeepP W3 (fun k => k = g ∨ some k = va.ownBlock) X) (by kernel_rfl) hX.out (fun hHeld => ?_)
  generalize W3.drew = wd at hX hOd hdS hBd hd0 hd1 hd2 hHeld ⊢
  have hX2 := Aside0.mk (hX.out.alloc (Obj.cells #[.int .i64 a.f0, .bool a.f1, .string a.f2, .int .i64 a.f3.f0, .int .i64 a.f3.f1] 32 (0, 0)))
  have hOe := Aside0.mk (hOd.out.below (below_alloc (Below.refl _ wd) (Obj.cells #[.int .i64 a.f0, .bool a.f1, .string a.f2, .int .i64 a.f3.f0, .int .i64 a.f3.f1] 32 (0, 0))))
  have hq1 := Aside0.mk hOd.out.cellA
  have hq2 := Aside0.mk hOe.out.cellA
  have REST : ∀ (w4 : World) (P4 : Nat → Prop) (va4 : Value) (y0 y1 y2 y3 y4 y5 y6 y7 y8 y9 : Value), Org w4 base P4 g V F (A ++ [a]) vf va4 → (∀ k, P4 k → P k ∨ w.heap.size + 3 ≤ k) → KeepP w P w4 → KeepP wd P w4 →
      Kz { tmps := (Value.pointer (some ⟨g, 0, none⟩) :: askV a :: .pointer (some ⟨w.heap.size, 0, none⟩) :: .pointer (some ⟨w.heap.size + 1, 0, none⟩) :: .pointer (some ⟨w.heap.size + 1 + 1, 0, none⟩) :: undef :: undef :: .pointer (some ⟨g, 0, none⟩) :: .bool false :: undef :: y0 :: y1 :: y2 :: y3 :: y4 :: y5 :: y6 :: y7 :: y8 :: y9 :: undef :: undef :: undef :: undef :: undef :: undef :: undef :: undef :: undef :: undef :: undef :: undef :: undef :: undef :: undef :: undef :: undef :: undef :: undef :: undef :: undef :: undef :: undef :: undef :: undef :: undef :: undef :: undef :: []).toArray, defers := [] } w4 := by
    clear hHeld hX hX2 hOe hq1 hq2 hSo hS0 hS1 hS2 hS3 hS4
    intro w4 P4 va4 y0 y1 y2 y3 y4 y5 y6 y7 y8 y9 hO4 hP4 hK4 hKd4
    have hnP : ∀ k, w.heap.size ≤ k → ¬ P k := fun k hk hp => by have := hPl.out k hp; omega
    have h40 := hKd4.cells hd0.out (hnP _ (Nat.le_refl _))
    have h41 := hKd4.cells hd1.out (hnP _ (by omega))
    have h42 := hKd4.cells hd2.out (hnP _ (by omega))
    have c0 := (blk_cell h40 0).trans rfl
    have cF := hO4.cellF
    have hn4 : w.heap.size + 1 + 1 < w4.heap.size := blk_lt h42
    have hgl' := hgl.out
    have CR := Aside0.mk (right_calls a w4 ⟨_, _, hO4⟩ h40 h41)
    have eg := right_enters
    have hne2 : ∀ k, P4 k → ¬ k = w.heap.size + 1 + 1 := fun k hk e => by
      rcases hP4 k hk with hp | hp
      · have := hPl.out k hp; omega
      · omega
    replace hne2 := Aside0.mk hne2
    replace h40 := Aside0.mk h40
    replace h41 := Aside0.mk h41
    replace h42 := Aside0.mk h42
    replace hn4 := Aside0.mk hn4
    replace hO4 := Aside0.mk hO4
    replace hP4 := Aside0.mk hP4
    replace hK4 := Aside0.mk hK4
    replace hKd4 := Aside0.mk hKd4
    replace hnP := Aside0.mk hnP
    refine hKz.out _ _ ?_
    unfold askV
    cases F with
    | nil =>
      obtain ⟨A2, c2, rfl⟩ := Kd.R_slice hO4.out.hF
      go_wp2_with (first | (go_at_fn 27; refine CR.out.mono ?_; rintro e w5 ⟨u, rfl, hr, hb⟩; have hr1 := hr; obtain ⟨Au, cu, rfl, hlu, hCu⟩ := hr1; clear hlu hCu; replace hr := Aside0.mk hr; replace hb := Aside0.mk hb) | ((with_reducible refine gate_store (t := 40) (p := 4) rfl ?_); refine list_store_row rfl 40 (.tmp 4) (.tmp 28) rfl rfl (w.heap.size + 1 + 1) rfl _ rfl _ 40 (blk_below h42.out hb.out) (by kernel_rfl) rfl (by simp [Value.oneCell']) ?_))
      have hRb := fun cs => setRow_heap w5 (w.heap.size + 1 + 1) _ cs 40 (0, 0) (blk_below h42.out hb.out)
      refine bodyPost_ret (v := .agg _) (results_cell_row (p := 4) (ty := 40) Try.results12 _ _ (w.heap.size + 1 + 1) 40 _ (0, 0) _ rfl (hRb _) Try.underlying40 rfl (by kernel_rfl)) rfl ⟨_, rfl, ?_⟩
      exact serve_fin hPl.out hge.out hbl.out (hO4.out.below hb.out) hP4.out (hK4.out.trans (KeepP.of_below (P := fun _ => False) hb.out) (fun _ h => h.elim)) hr.out (by have := hn4.out; omega) _
    | cons k F =>
      obtain ⟨A2, c2, rfl, hl2, hC2⟩ := Kd.R_reads hO4.out.hF
      have hF1 := Aside0.mk (show F.length ≤ 1000000 by have := hF.out; rw [List.length_cons] at this; omega)
      obtain ⟨ad, eA, hxk⟩ := hC2.2.2 (by simp)
      cases eA
      obtain ⟨cs, hcl, hcs, hcx⟩ := hxk 0 k rfl
      have hcs' : cs = [.int .i64 k] := hcs
      subst hcs'
      have hk0 := hcx 0 _ rfl
      rw [show 0 * kI.sz + 0 = 0 from rfl] at hk0
      have hk1 : w4.cell? ad = some (.int .i64 k) := by simpa [Addr.add] using hk0
      obtain ⟨i0, hi0, hz0⟩ := Option.map_eq_some_iff.1 infoI
      simp only [Prod.mk.injEq] at hz0
      obtain ⟨A5, hcut, hrd, hcc⟩ := print_cut_int (k := .i64) 27 3 Try.underlying27 hi0 hz0.2.1 (some ad) c2 (k :: F) 1 (by decide) (by simp; omega) hl2
      have hC5 := Aside0.mk (Kd.C_of_reads (d := (0 : Int)) (h1 := fun _ => rfl) (hrd w4 (Kd.reads_of_C (enc := Value.int .i64) (d := (0 : Int)) (h1 := fun _ => rfl) hC2)) : kI.C w4 A5 _ _)
      rw [show (1 : Int).toNat = 1 from rfl, List.drop_succ_cons, List.drop_zero] at hcut hC5
      rw [List.length_cons] at hcut cF hl2
      have hne0 : (((F.length + 1 : Nat) : Int) == 0) = false := by simp; omega
      have hlt0 : (0 : Int) < ((F.length + 1 : Nat) : Int) := by omega
      clear hxk hcl hcs hcx hrd hcc hz0 hi0 hC2
      replace hl2 := Aside0.mk hl2
      go_wp2
      rename_i Ky hKy
      replace hKy := Aside0.mk hKy
      have hB8 := Aside0.mk (below_drew (Below.refl w4.heap.size w4))
      have hX8 := Aside0.mk (KeepP.of_below (P := fun k => k = g) hB8.out)
      have hO8 := Aside0.mk (hO4.out.below hB8.out)
      have hS8 : ∀ X, KeepP w4 (fun k => k = g) X → X.cell? ⟨w.heap.size, 0, none⟩ = some (.pointer (some ⟨g, 0, none⟩)) := fun X hk => (blk_cell (hk.cells h40.out (fun e => by omega)) 0).trans rfl
      clear c0 cF hk0 hk1
      refine wp_region_noPanic ?_
      refine wp_region_held_drew (S := fun X => KeepP w4 (fun k => k = g) X) (by kernel_rfl) hX8.out (fun hHeld => ?_)
      generalize w4.drew = w8 at hB8 hX8 hO8 hHeld ⊢
      refine wpAnyH_take (i := 0) (oi := { dst := some 35, op := Go.Op.load 24 (Go.Operand.tmp 2), type := 24, pos := "origin.go:89", after := #[], guard := none }) (v := ?_) rfl (by kernel_rfl) (by kernel_rfl) (by kernel_rfl) (fun _ _ _ h => h) (Or.inl ⟨by kernel_rfl, ?_⟩) (by assumption) ?_
      rotate_left
      · intro W hSw; go_simp; first | done | with_reducible rfl
      try simp only [Act.put, List.setIfInBounds_toArray, List.set_cons_zero, List.set_cons_succ]
      refine wpAnyH_take (i := 1) (oi := { dst := some 36, op := Go.Op.load 24 (Go.Operand.tmp 2), type := 24, pos := "origin.go:89", after := #[], guard := none }) (v := ?_) rfl (by kernel_rfl) (by kernel_rfl) (by kernel_rfl) (fun _ _ _ h => h) (Or.inl ⟨by kernel_rfl, ?_⟩) (by assumption) ?_
      rotate_left
      · intro W hSw; go_simp; first | done | with_reducible rfl
      try simp only [Act.put, List.setIfInBounds_toArray, List.set_cons_zero, List.set_cons_succ]
      refine wpAnyH_take (i := 2) (oi := { dst := some 37, op := Go.Op.nilCheck (Go.Operand.tmp 36), type := 0, pos := "origin.go:89", after := #[{ on := 1, ground := Go.Ground.data }], guard := none }) (v := ?_) rfl (by kernel_rfl) (by kernel_rfl) (by kernel_rfl) (fun _ _ _ h => h) (Or.inl ⟨by kernel_rfl, ?_⟩) (by assumption) ?_
      rotate_left
      · intro W hSw; go_simp; first | done | with_reducible rfl
      try simp only [Act.put, List.setIfInBounds_toArray, List.set_cons_zero, List.set_cons_succ]
      refine wpAnyH_take (i := 3) (oi := { dst := some 38, op := Go.Op.fieldAddr 51 (Go.Operand.tmp 37) 1, type := 0, pos := "origin.go:89", after := #[{ on := 2, ground := Go.Ground.data }], guard := none }) (v := ?_) rfl (by kernel_rfl) (by kernel_rfl) (by kernel_rfl) (fun _ _ _ h => h) (Or.inl ⟨by kernel_rfl, ?_⟩) (by assumption) ?_
      rotate_left
      · intro W hSw; go_simp; first | done | with_reducible rfl
      try simp only [Act.put, List.setIfInBounds_toArray, List.set_cons_zero, List.set_cons_succ]
      refine wpAnyH_ready (rs := [4]) (by kernel_rfl) (by simp) ?_
      refine AllReadyH.cons (o := { dst := some 39, op := Go.Op.load 27 (Go.Operand.tmp 38), type := 27, pos := "origin.go:89", after := #[{ on := 3, ground := Go.Ground.data }], guard := none }) rfl (fun K hK => ?_) AllReadyH.nil
      have hq_ := hO8.out.cellF
      go_simp
      clear hq_
      refine hK.out _ _ ?_ (fun hHeld => ?_)
      · exact hX8.out
      clear hK K
      try simp only [Act.put, List.setIfInBounds_toArray, List.set_cons_zero, List.set_cons_succ]
      refine wpAnyH_take (i := 5) (oi := { dst := some 40, op := Go.Op.slice 27 (Go.Operand.tmp 39) (some (Go.Operand.const (Go.Value.int Go.IntKind.i64 1))) none none, type := 27, pos := "origin.go:89", after := #[{ on := 4, ground := Go.Ground.data }], guard := none }) (v := ?_) rfl (by kernel_rfl) (by kernel_rfl) (by kernel_rfl) (fun _ _ _ h => h) (Or.inl ⟨by kernel_rfl, ?_⟩) (by assumption) ?_
      rotate_left
      · intro W hSw; go_simp; first | done | with_reducible rfl
      try simp only [Act.put, List.setIfInBounds_toArray, List.set_cons_zero, List.set_cons_succ]
      refine wpAnyH_ready (rs := [6]) (by kernel_rfl) (by simp) ?_
      refine AllReadyH.cons (o := { dst := some 41, op := Go.Op.call { callee := Go.Callee.value (Go.Operand.func 29), args := #[Go.Operand.tmp 40], argTypes := #[27] }, type := 27, pos := "origin.go:89", after := #[{ on := 5, ground := Go.Ground.data }], guard := none }) rfl (fun K hK => ?_) AllReadyH.nil
      refine goes_ (N := some 41) («as» := #[.tmp 40]) Try.func29 (by kernel_rfl) rfl #[.slice A5 F.length (c2 - 1)] (by kernel_rfl) rfl rfl (by kernel_rfl) ?_
      refine (cloneI_calls A5 (c2 - 1) F _ (Kd.C_below hC5.out hB8.out) hF1.out).mono ?_
      rintro e Y ⟨v, rfl, hR, hb⟩
      refine ⟨_, rfl, ?_⟩
      obtain ⟨A6, c6, rfl⟩ := Kd.R_slice hR
      replace hR := Aside0.mk hR
      have hX9 := Aside0.mk (hX8.out.trans (KeepP.of_below (P := fun _ => False) hb) (fun _ h => h.elim))
      replace hb := Aside0.mk hb
      refine hK.out _ _ ?_ (fun hHeld => ?_)
      · exact hX9.out
      clear hK K
      try simp only [Act.put, List.setIfInBounds_toArray, List.set_cons_zero, List.set_cons_succ]
      refine wpAnyH_take (i := 7) (oi := { dst := some 42, op := Go.Op.nilCheck (Go.Operand.tmp 35), type := 0, pos := "origin.go:89", after := #[{ on := 0, ground := Go.Ground.data }, { on := 0, ground := Go.Ground.phase }, { on := 1, ground := Go.Ground.phase }, { on := 2, ground := Go.Ground.phase }, { on := 3, ground := Go.Ground.phase }, { on := 4, ground := Go.Ground.phase }, { on := 5, ground := Go.Ground.phase }, { on := 6, ground := Go.Ground.phase }], guard := none }) (v := ?_) rfl (by kernel_rfl) (by kernel_rfl) (by kernel_rfl) (fun _ _ _ h => h) (Or.inl ⟨by kernel_rfl, ?_⟩) (by assumption) ?_
      rotate_left
      · intro W hSw; go_simp; first | done | with_reducible rfl
      try simp only [Act.put, List.setIfInBounds_toArray, List.set_cons_zero, List.set_cons_succ]
      refine wpAnyH_take (i := 8) (oi := { dst := some 43, op := Go.Op.fieldAddr 51 (Go.Operand.tmp 42) 1, type := 0, pos := "origin.go:89", after := #[{ on := 7, ground := Go.Ground.data }, { on := 0, ground := Go.Ground.phase }, { on := 1, ground := Go.Ground.phase }, { on := 2, ground := Go.Ground.phase }, { on := 3, ground := Go.Ground.phase }, { on := 4, ground := Go.Ground.phase }, { on := 5, ground := Go.Ground.phase }, { on := 6, ground := Go.Ground.phase }], guard := none }) (v := ?_) rfl (by kernel_rfl) (by kernel_rfl) (by kernel_rfl) (fun _ _ _ h => h) (Or.inl ⟨by kernel_rfl, ?_⟩) (by assumption) ?_
      rotate_left
      · intro W hSw; go_simp; first | done | with_reducible rfl
      try simp only [Act.put, List.setIfInBounds_toArray, List.set_cons_zero, List.set_cons_succ]
      refine wpAnyH_ready (rs := [9]) (by kernel_rfl) (by simp) ?_
      refine AllReadyH.cons (o := { dst := none, op := Go.Op.store 27 (Go.Operand.tmp 43) (Go.Operand.tmp 41), type := 0, pos := "origin.go:89", after := #[{ on := 8, ground := Go.Ground.data }, { on := 6, ground := Go.Ground.data }, { on := 6, ground := Go.Ground.chain }, { on := 0, ground := Go.Ground.phase }, { on := 1, ground := Go.Ground.phase }, { on := 2, ground := Go.Ground.phase }, { on := 3, ground := Go.Ground.phase }, { on := 4, ground := Go.Ground.phase }, { on := 5, ground := Go.Ground.phase }, { on := 6, ground := Go.Ground.phase }], guard := none }) rfl (fun K hK => ?_) AllReadyH.nil
      have hgb_ := (hO8.out.below hb.out)
      have hq_ := hgb_.cellF
      have hf_ := blk_frozen hgb_.hb 16
      replace hgb_ := Aside0.mk hgb_
      go_simp
      clear hq_ hf_ hgb_
      refine hK.out _ _ ?_ (fun hHeld => ?_)
      · exact KeepP.set (P := fun k => k = g) (g := g) hX9.out (.inl rfl) _ _
      clear hK K
      try simp only [Act.put, List.setIfInBounds_toArray, List.set_cons_zero, List.set_cons_succ]
      refine wpAnyH_done (by kernel_rfl) ?_ _
      try simp only [Act.put, List.setIfInBounds_toArray, List.set_cons_zero, List.set_cons_succ, List.getElem_toArray, List.getElem_cons_zero, List.getElem_cons_succ]
      refine NoPanic.normal ?_
      (try dsimp only [Exit.then])
      refine hKy.out _ _ ?_
      obtain ⟨hO9, hK9⟩ := hO8.out.newF (KeepP.of_below hb.out) (Kd.R_mono (Kd.R_lower (Kd.R_bound hR.out) hO8.out.base_le) (fun k hk => .inr hk.2.1))
      have hK9' := (hK4.out.trans (KeepP.of_below (P := fun _ => False) hB8.out) (fun _ h => h.elim)).trans hK9 (fun k hk => (hP4.out k hk).imp id (fun h => by omega))
      generalize Y.setCell ⟨g, 16, none⟩ (Value.slice A6 F.length c6) = w9 at hO9 hK9 hK9' ⊢
      have hP9 : ∀ k, PX P4 w8 w9 k → P k ∨ w.heap.size + 3 ≤ k := fun k hk => by
        rcases hk.1 with hp | hp
        · exact hP4.out k hp
        · have := hB8.out.size; have := hn4.out; exact .inr (by omega)
      have hn9 : ∀ j, w.heap.size ≤ j → j < w.heap.size + 3 → ¬ P4 j := fun j h1 h2 hp => by
        rcases hP4.out j hp with hp | hp
        · exact hnP.out j h1 hp
        · omega
      have h90 := hK9.cells (blk_below h40.out hB8.out) (hn9 _ (by omega) (by omega))
      have h91 := hK9.cells (blk_below h41.out hB8.out) (hn9 _ (by omega) (by omega))
      have h92 := Aside0.mk (hK9.cells (blk_below h42.out hB8.out) (hn9 _ (by omega) (by omega)))
      have hlo9 := Aside0.mk (blk_lt h92.out)
      have CR9 := Aside0.mk (right_calls a w9 ⟨_, _, hO9⟩ h90 h91)
      have CF9 := Aside0.mk (fun u X hr => flt_calls k (ans a (verP V a.f0)) (ans_small a _) u w9.heap.size X hr)
      replace hO9 := Aside0.mk hO9
      replace hP9 := Aside0.mk hP9
      replace hK9' := Aside0.mk hK9'
      clear hK9 hn9 h90 h91 hS8 hHeld hX9 hX8
      have hPl2 := hPl
      go_wp2_with (first | (go_at_fn 27; refine CR9.out.mono ?_; rintro e w10 ⟨u, rfl, hr, hb10⟩; have hr1 := hr; obtain ⟨Au, cu, rfl, hlu, hCu⟩ := hr1; clear hlu hCu; replace hr := Aside0.mk hr; replace hb10 := Aside0.mk hb10) | (go_at_call 30; refine (CF9.out _ _ hr.out).mono ?_; rintro e w11 ⟨u2, rfl, hr2, hb11⟩; have hr3 := hr2; obtain ⟨Au2, cu2, rfl, hlu, hCu⟩ := hr3; clear hlu hCu; replace hr2 := Aside0.mk hr2; replace hb11 := Aside0.mk hb11) | ((with_reducible refine gate_store (t := 40) (p := 4) rfl ?_); refine list_store_row rfl 40 (.tmp 4) (.tmp 47) rfl rfl (w.heap.size + 1 + 1) rfl _ rfl _ 40 (blk_below h92.out (below_step hb10.out hb11.out)) (by kernel_rfl) rfl (by simp [Value.oneCell']) ?_))
      have hRb := fun cs => setRow_heap w11 (w.heap.size + 1 + 1) _ cs 40 (0, 0) (blk_below h92.out (below_step hb10.out hb11.out))
      refine bodyPost_ret (v := .agg _) (results_cell_row (p := 4) (ty := 40) Try.results12 _ _ (w.heap.size + 1 + 1) 40 _ (0, 0) _ rfl (hRb _) Try.underlying40 rfl (by kernel_rfl)) rfl ⟨_, rfl, ?_⟩
      exact serve_fin hPl.out hge.out hbl.out (hO9.out.below (below_step hb10.out hb11.out)) hP9.out (hK9'.out.trans (KeepP.of_below (P := fun _ => False) (below_step hb10.out hb11.out)) (fun _ h => h.elim)) hr2.out (by have := hlo9.out; have := hb10.out.size; omega) _
  refine wpAnyH_take (i := 0) (oi := { dst := some 10, op := Go.Op.load 24 (Go.Operand.tmp 2), type := 24, pos := "origin.go:83", after := #[], guard := none }) (v := ?_) rfl (by kernel_rfl) (by kernel_rfl) (by kernel_rfl) (fun _ _ _ h => h) (Or.inl ⟨by kernel_rfl, ?_⟩) (by assumption) ?_
  rotate_left
  · intro W hSw; go_simp; first | done | with_reducible rfl
  try simp only [Act.put, List.setIfInBounds_toArray, List.set_cons_zero, List.set_cons_succ]
  refine wpAnyH_take (i := 1) (oi := { dst := some 11, op := Go.Op.load 24 (Go.Operand.tmp 2), type := 24, pos := "origin.go:83", after := #[], guard := none }) (v := ?_) rfl (by kernel_rfl) (by kernel_rfl) (by kernel_rfl) (fun _ _ _ h => h) (Or.inl ⟨by kernel_rfl, ?_⟩) (by assumption) ?_
  rotate_left
  · intro W hSw; go_simp; first | done | with_reducible rfl
  try simp only [Act.put, List.setIfInBounds_toArray, List.set_cons_zero, List.set_cons_succ]
  refine wpAnyH_take (i := 2) (oi := { dst := some 12, op := Go.Op.nilCheck (Go.Operand.tmp 11), type := 0, pos := "origin.go:83", after := #[{ on := 1, ground := Go.Ground.data }], guard := none }) (v := ?_) rfl (by kernel_rfl) (by kernel_rfl) (by kernel_rfl) (fun _ _ _ h => h) (Or.inl ⟨by kernel_rfl, ?_⟩) (by assumption) ?_
  rotate_left
  · intro W hSw; go_simp; first | done | with_reducible rfl
  try simp only [Act.put, List.setIfInBounds_toArray, List.set_cons_zero, List.set_cons_succ]
  refine wpAnyH_take (i := 3) (oi := { dst := some 13, op := Go.Op.fieldAddr 51 (Go.Operand.tmp 12) 2, type := 0, pos := "origin.go:83", after := #[{ on := 2, ground := Go.Ground.data }], guard := none }) (v := ?_) rfl (by kernel_rfl) (by kernel_rfl) (by kernel_rfl) (fun _ _ _ h => h) (Or.inl ⟨by kernel_rfl, ?_⟩) (by assumption) ?_
  rotate_left
  · intro W hSw; go_simp; first | done | with_reducible rfl
  try simp only [Act.put, List.setIfInBounds_toArray, List.set_cons_zero, List.set_cons_succ]
  refine wpAnyH_take (i := 5) (oi := { dst := some 15, op := Go.Op.load 32 (Go.Operand.tmp 3), type := 32, pos := "origin.go:83", after := #[], guard := none }) (v := ?_) rfl (by kernel_rfl) (by kernel_rfl) (by kernel_rfl) (fun _ _ _ h => h) (Or.inl ⟨by kernel_rfl, ?_⟩) (by assumption) ?_
  rotate_left
  · intro W hSw; go_simp; first | done | with_reducible rfl
  try simp only [Act.put, List.setIfInBounds_toArray, List.set_cons_zero, List.set_cons_succ]
  refine wpAnyH_ready (rs := [4, 6]) (by kernel_rfl) (by simp) ?_
  refine AllReadyH.cons (o := { dst := some 14, op := Go.Op.load 28 (Go.Operand.tmp 13), type := 28, pos := "origin.go:83", after := #[{ on := 3, ground := Go.Ground.data }], guard := none }) rfl (fun K hK => ?_) (AllReadyH.cons (o := { dst := some 16, op := Go.Op.buildSlice 28 1 #[(0, Go.Operand.tmp 15)], type := 28, pos := "origin.go:83", after := #[{ on := 5, ground := Go.Ground.data }], guard := none }) rfl (fun K hK => ?_) AllReadyH.nil)
  · have hq1_ := hq1.out
    have hq2_ := hq2.out
    go_simp
    clear hq1_ hq2_
    refine hK.out _ _ ?_ (fun hHeld => ?_)
    · first | exact hX.out | exact hX2.out
    clear hK K
    try simp only [Act.put, List.setIfInBounds_toArray, List.set_cons_zero, List.set_cons_succ]
    refine wpAnyH_ready (rs := [6]) (by kernel_rfl) (by simp) ?_
    refine AllReadyH.cons (o := { dst := some 16, op := Go.Op.buildSlice 28 1 #[(0, Go.Operand.tmp 15)], type := 28, pos := "origin.go:83", after := #[{ on := 5, ground := Go.Ground.data }], guard := none }) rfl (fun K hK => ?_) AllReadyH.nil
    go_simp
    refine hK.out _ _ ?_ (fun hHeld => ?_)
    · exact hX2.out
    clear hK K
    try simp only [Act.put, List.setIfInBounds_toArray, List.set_cons_zero, List.set_cons_succ]
    refine wpAnyH_ready (rs := [7]) (by kernel_rfl) (by simp) ?_
    refine AllReadyH.cons (o := { dst := some 17, op := Go.Op.call { callee := Go.Callee.builtin Go.Builtin.append, args := #[Go.Operand.tmp 14, Go.Operand.tmp 16], argTypes := #[28, 28] }, type := 28, pos := "origin.go:83", after := #[{ on := 4, ground := Go.Ground.data }, { on := 6, ground := Go.Ground.data }], guard := none }) rfl (fun K hK => ?_) AllReadyH.nil
    refine Kd.R_append_step kA (w0 := wd) (W := wd) base (by kernel_rfl) (.tmp 14) (.tmp 16) 28 32 _ 48 rfl Try.underlying28 infoA rfl (by decide) (by decide) va A a [.int .i64 a.f0, .bool a.f1, .string a.f2, .int .i64 a.f3.f0, .int .i64 a.f3.f1] (fun k => P k ∨ wd.heap.size ≤ k) (fun _ => False) rfl rfl (k32_mkM _ _ _ a) (fun _ h => h.elim) (fun _ h => .inr h) (Kd.R_mono hOd.out.hA (fun k hk => .inl hk)) (Below.refl _ _) hOd.out.base_le (by have := hA.out; omega) ?_
    intro v1 w1 hR hb1_ hg1 hat_
    clear hb1_ hat_
    obtain ⟨A3, c3, rfl⟩ := Kd.R_slice hR
    replace hR := Aside0.mk hR
    have hX4 := Aside0.mk (hX.out.grown hg1 (fun k e => .inl (.inr e.symm)))
    replace hg1 := Aside0.mk hg1
    refine hK.out _ _ ?_ (fun hHeld => ?_)
    · exact hX4.out
    clear hK K
    try simp only [Act.put, List.setIfInBounds_toArray, List.set_cons_zero, List.set_cons_succ]
    refine wpAnyH_take (i := 8) (oi := { dst := some 18, op := Go.Op.nilCheck (Go.Operand.tmp 10), type := 0, pos := "origin.go:83", after := #[{ on := 0, ground := Go.Ground.data }, { on := 0, ground := Go.Ground.phase }, { on := 1, ground := Go.Ground.phase }, { on := 2, ground := Go.Ground.phase }, { on := 3, ground := Go.Ground.phase }, { on := 4, ground := Go.Ground.phase }, { on := 5, ground := Go.Ground.phase }, { on := 6, ground := Go.Ground.phase }, { on := 7, ground := Go.Ground.phase }], guard := none }) (v := ?_) rfl (by kernel_rfl) (by kernel_rfl) (by kernel_rfl) (fun _ _ _ h => h) (Or.inl ⟨by kernel_rfl, ?_⟩) (by assumption) ?_
    rotate_left
    · intro W hSw; go_simp; first | done | with_reducible rfl
    try simp only [Act.put, List.setIfInBounds_toArray, List.set_cons_zero, List.set_cons_succ]
    refine wpAnyH_take (i := 9) (oi := { dst := some 19, op := Go.Op.fieldAddr 51 (Go.Operand.tmp 18) 2, type := 0, pos := "origin.go:83", after := #[{ on := 8, ground := Go.Ground.data }, { on := 0, ground := Go.Ground.phase }, { on := 1, ground := Go.Ground.phase }, { on := 2, ground := Go.Ground.phase }, { on := 3, ground := Go.Ground.phase }, { on := 4, ground := Go.Ground.phase }, { on := 5, ground := Go.Ground.phase }, { on := 6, ground := Go.Ground.phase }, { on := 7, ground := Go.Ground.phase }], guard := none }) (v := ?_) rfl (by kernel_rfl) (by kernel_rfl) (by kernel_rfl) (fun _ _ _ h => h) (Or.inl ⟨by kernel_rfl, ?_⟩) (by assumption) ?_
    rotate_left
    · intro W hSw; go_simp; first | done | with_reducible rfl
    try simp only [Act.put, List.setIfInBounds_toArray, List.set_cons_zero, List.set_cons_succ]
    refine wpAnyH_ready (rs := [10]) (by kernel_rfl) (by simp) ?_
    refine AllReadyH.cons (o := { dst := none, op := Go.Op.store 28 (Go.Operand.tmp 19) (Go.Operand.tmp 17), type := 0, pos := "origin.go:83", after := #[{ on := 9, ground := Go.Ground.data }, { on := 7, ground := Go.Ground.data }, { on := 7, ground := Go.Ground.chain }, { on := 0, ground := Go.Ground.phase }, { on := 1, ground := Go.Ground.phase }, { on := 2, ground := Go.Ground.phase }, { on := 3, ground := Go.Ground.phase }, { on := 4, ground := Go.Ground.phase }, { on := 5, ground := Go.Ground.phase }, { on := 6, ground := Go.Ground.phase }, { on := 7, ground := Go.Ground.phase }], guard := none }) rfl (fun K hK => ?_) AllReadyH.nil
    have hgb_ := (KeepP.of_grown hg1.out).cells hOd.out.hb (fun e => Kd.R_ne hOd.out.hA hOd.out.hb (by decide) e)
    have hq_ := (blk_cell hgb_ 17).trans orgC_a
    have hf_ := blk_frozen hgb_ 17
    replace hgb_ := Aside0.mk hgb_
    go_simp
    clear hq_ hf_ hgb_
    refine hK.out _ _ ?_ (fun hHeld => ?_)
    · exact hX4.out.set (.inl (.inl rfl)) _ _
    clear hK K
    try simp only [Act.put, List.setIfInBounds_toArray, List.set_cons_zero, List.set_cons_succ]
    refine wpAnyH_done (by kernel_rfl) ?_ _
    try simp only [Act.put, List.setIfInBounds_toArray, List.set_cons_zero, List.set_cons_succ, List.getElem_toArray, List.getElem_cons_zero, List.getElem_cons_succ]
    refine NoPanic.normal ?_
    (try dsimp only [Exit.then])
    have hN := hOd.out.newA (KeepP.of_grown hg1.out) hR.out
    try rw [List.length_append] at hN
    exact REST _ _ _ _ _ _ _ _ _ _ _ _ _ hN.1 (fun k hk => hk.1.imp id (fun h => by have := hdS.out; omega)) (((KeepP.of_below hBd.out).trans hN.2 (fun k hk => .inl hk))) hN.2
  · go_simp
    refine hK.out _ _ ?_ (fun hHeld => ?_)
    · exact hX2.out
    clear hK K
    try simp only [Act.put, List.setIfInBounds_toArray, List.set_cons_zero, List.set_cons_succ]
    refine wpAnyH_ready (rs := [4]) (by kernel_rfl) (by simp) ?_
    refine AllReadyH.cons (o := { dst := some 14, op := Go.Op.load 28 (Go.Operand.tmp 13), type := 28, pos := "origin.go:83", after := #[{ on := 3, ground := Go.Ground.data }], guard := none }) rfl (fun K hK => ?_) AllReadyH.nil
    have hq1_ := hq1.out
    have hq2_ := hq2.out
    go_simp
    clear hq1_ hq2_
    refine hK.out _ _ ?_ (fun hHeld => ?_)
    · first | exact hX.out | exact hX2.out
    clear hK K
    try simp only [Act.put, List.setIfInBounds_toArray, List.set_cons_zero, List.set_cons_succ]
    refine wpAnyH_ready (rs := [7]) (by kernel_rfl) (by simp) ?_
    refine AllReadyH.cons (o := { dst := some 17, op := Go.Op.call { callee := Go.Callee.builtin Go.Builtin.append, args := #[Go.Operand.tmp 14, Go.Operand.tmp 16], argTypes := #[28, 28] }, type := 28, pos := "origin.go:83", after := #[{ on := 4, ground := Go.Ground.data }, { on := 6, ground := Go.Ground.data }], guard := none }) rfl (fun K hK => ?_) AllReadyH.nil
    refine Kd.R_append_step kA (w0 := wd) (W := wd) base (by kernel_rfl) (.tmp 14) (.tmp 16) 28 32 _ 48 rfl Try.underlying28 infoA rfl (by decide) (by decide) va A a [.int .i64 a.f0, .bool a.f1, .string a.f2, .int .i64 a.f3.f0, .int .i64 a.f3.f1] (fun k => P k ∨ wd.heap.size ≤ k) (fun _ => False) rfl rfl (k32_mkM _ _ _ a) (fun _ h => h.elim) (fun _ h => .inr h) (Kd.R_mono hOd.out.hA (fun k hk => .inl hk)) (Below.refl _ _) hOd.out.base_le (by have := hA.out; omega) ?_
    intro v1 w1 hR hb1_ hg1 hat_
    clear hb1_ hat_
    obtain ⟨A3, c3, rfl⟩ := Kd.R_slice hR
    replace hR := Aside0.mk hR
    have hX4 := Aside0.mk (hX.out.grown hg1 (fun k e => .inl (.inr e.symm)))
    replace hg1 := Aside0.mk hg1
    refine hK.out _ _ ?_ (fun hHeld => ?_)
    · exact hX4.out
    clear hK K
    try simp only [Act.put, List.setIfInBounds_toArray, List.set_cons_zero, List.set_cons_succ]
    refine wpAnyH_take (i := 8) (oi := { dst := some 18, op := Go.Op.nilCheck (Go.Operand.tmp 10), type := 0, pos := "origin.go:83", after := #[{ on := 0, ground := Go.Ground.data }, { on := 0, ground := Go.Ground.phase }, { on := 1, ground := Go.Ground.phase }, { on := 2, ground := Go.Ground.phase }, { on := 3, ground := Go.Ground.phase }, { on := 4, ground := Go.Ground.phase }, { on := 5, ground := Go.Ground.phase }, { on := 6, ground := Go.Ground.phase }, { on := 7, ground := Go.Ground.phase }], guard := none }) (v := ?_) rfl (by kernel_rfl) (by kernel_rfl) (by kernel_rfl) (fun _ _ _ h => h) (Or.inl ⟨by kernel_rfl, ?_⟩) (by assumption) ?_
    rotate_left
    · intro W hSw; go_simp; first | done | with_reducible rfl
    try simp only [Act.put, List.setIfInBounds_toArray, List.set_cons_zero, List.set_cons_succ]
    refine wpAnyH_take (i := 9) (oi := { dst := some 19, op := Go.Op.fieldAddr 51 (Go.Operand.tmp 18) 2, type := 0, pos := "origin.go:83", after := #[{ on := 8, ground := Go.Ground.data }, { on := 0, ground := Go.Ground.phase }, { on := 1, ground := Go.Ground.phase }, { on := 2, ground := Go.Ground.phase }, { on := 3, ground := Go.Ground.phase }, { on := 4, ground := Go.Ground.phase }, { on := 5, ground := Go.Ground.phase }, { on := 6, ground := Go.Ground.phase }, { on := 7, ground := Go.Ground.phase }], guard := none }) (v := ?_) rfl (by kernel_rfl) (by kernel_rfl) (by kernel_rfl) (fun _ _ _ h => h) (Or.inl ⟨by kernel_rfl, ?_⟩) (by assumption) ?_
    rotate_left
    · intro W hSw; go_simp; first | done | with_reducible rfl
    try simp only [Act.put, List.setIfInBounds_toArray, List.set_cons_zero, List.set_cons_succ]
    refine wpAnyH_ready (rs := [10]) (by kernel_rfl) (by simp) ?_
    refine AllReadyH.cons (o := { dst := none, op := Go.Op.store 28 (Go.Operand.tmp 19) (Go.Operand.tmp 17), type := 0, pos := "origin.go:83", after := #[{ on := 9, ground := Go.Ground.data }, { on := 7, ground := Go.Ground.data }, { on := 7, ground := Go.Ground.chain }, { on := 0, ground := Go.Ground.phase }, { on := 1, ground := Go.Ground.phase }, { on := 2, ground := Go.Ground.phase }, { on := 3, ground := Go.Ground.phase }, { on := 4, ground := Go.Ground.phase }, { on := 5, ground := Go.Ground.phase }, { on := 6, ground := Go.Ground.phase }, { on := 7, ground := Go.Ground.phase }], guard := none }) rfl (fun K hK => ?_) AllReadyH.nil
    have hgb_ := (KeepP.of_grown hg1.out).cells hOd.out.hb (fun e => Kd.R_ne hOd.out.hA hOd.out.hb (by decide) e)
    have hq_ := (blk_cell hgb_ 17).trans orgC_a
    have hf_ := blk_frozen hgb_ 17
    replace hgb_ := Aside0.mk hgb_
    go_simp
    clear hq_ hf_ hgb_
    refine hK.out _ _ ?_ (fun hHeld => ?_)
    · exact hX4.out.set (.inl (.inl rfl)) _ _
    clear hK K
    try simp only [Act.put, List.setIfInBounds_toArray, List.set_cons_zero, List.set_cons_succ]
    refine wpAnyH_done (by kernel_rfl) ?_ _
    try simp only [Act.put, List.setIfInBounds_toArray, List.set_cons_zero, List.set_cons_succ, List.getElem_toArray, List.getElem_cons_zero, List.getElem_cons_succ]
    refine NoPanic.normal ?_
    (try dsimp only [Exit.then])
    have hN := hOd.out.newA (KeepP.of_grown hg1.out) hR.out
    try rw [List.length_append] at hN
    exact REST _ _ _ _ _ _ _ _ _ _ _ _ _ hN.1 (fun k hk => hk.1.imp id (fun h => by have := hdS.out; omega)) (((KeepP.of_below hBd.out).trans hN.2 (fun k hk => .inl hk))) hN.2
end Go.Proofs.Ytpphnjmppkbpbaa.Org
namespace Go.Proofs.Ytpphnjmppkbpbaa.Org
open Go Go.RowKit Go.Proofs Go.Proofs.Ytpphnjmppkbpbaa.Xw Go.Proofs.Ytpphnjmppkbpbaa.PAll Go.Proofs.Ytpphnjmppkbpbaa.Ag Go.Proofs.YtpphnjmppkbpbaaW.PrintWords Go.Proofs.YtpphnjmppkbpbaaW.PrintLast Go.Proofs.YtpphnjmppkbpbaaW.PrintMore
attribute [local go_sem] Oper.semAt_some
set_option linter.unusedSimpArgs false
set_option linter.unusedVariables false
theorem wr {x : Int} (h : -9223372036854775808 ≤ x ∧ x ≤ 9223372036854775807) : IntKind.i64.wrap x = x := (i64_w _).trans (Pure.wrap_id h)
set_option maxHeartbeats 8000000 in
set_option maxRecDepth 100000 in
theorem turn_calls {base g : Nat} {P : Nat → Prop} {V : Nat → Int} {F : List Int} {A : List AK} (o : Int) (w : World) (h : OrgX w base P g V F A) (h0 : 0 ≤ o ∧ o < 16) (hv : 0 ≤ V o.toNat ∧ V o.toNat < 1000000) :
    Calls Try.prog 7 #[.pointer (some ⟨g, 0, none⟩), .int .i64 o] w fun e w' => e = .returned (.int .i64 0) ∧ OrgX w' base P g (putF V o.toNat (V o.toNat + 1)) F A ∧ KeepP w P w' := by
  obtain ⟨vf, va, h⟩ := h
  have HC := has_calls g o w
  rw [decide_eq_true h0] at HC
  replace HC := Aside0.mk HC
  obtain ⟨q, rfl⟩ : ∃ q : Nat, o = q := ⟨o.toNat, by omega⟩
  have hq : q < 16 := by omega
  rw [Int.toNat_natCast] at hv ⊢
  have hne : (V q == 1000000) = false := by simp; omega
  have hw : IntKind.i64.wrap (V q + 1) = V q + 1 := wr (by omega)
  replace h := Aside0.mk h
  replace hv := Aside0.mk hv
  go_enter Try.func7, Try.ntmps7
  go_wp2_with (go_at_call 17; refine HC.out.mono ?_; rintro e w1 ⟨rfl, hb1⟩; have hO1 := h.out.below hb1; have hc1 := hO1.cellI hq; replace hb1 := Aside0.mk hb1; replace hO1 := Aside0.mk hO1)
  rename_i Kz hKz
  replace hKz := Aside0.mk hKz
  clear hc1 hne
  have hX := Aside0.mk (KeepP.refl w1 P).drew
  have hOd := Aside0.mk (hO1.out.below (below_drew (Below.refl _ w1)))
  refine wp_region_noPanic ?_
  refine wp_region_held_drew (S := fun X => KeepP w1 P X) (by kernel_rfl) hX.out (fun hHeld => ?_)
  generalize w1.drew = wd at hX hOd hHeld ⊢
  refine wpAnyH_take (i := 0) (oi := { dst := some 22, op := Go.Op.move (Go.Operand.tmp 0), type := 24, pos := "origin.go:51", after := #[], guard := none }) (v := ?_) rfl (by kernel_rfl) (by kernel_rfl) (by kernel_rfl) (fun _ _ _ h => h) (Or.inl ⟨by kernel_rfl, ?_⟩) (by assumption) ?_
  rotate_left
  · intro W hSw; go_simp; first | done | with_reducible rfl
  try simp only [Act.put, List.setIfInBounds_toArray, List.set_cons_zero, List.set_cons_succ]
  refine wpAnyH_take (i := 1) (oi := { dst := some 23, op := Go.Op.move (Go.Operand.tmp 1), type := 3, pos := "origin.go:51", after := #[], guard := none }) (v := ?_) rfl (by kernel_rfl) (by kernel_rfl) (by kernel_rfl) (fun _ _ _ h => h) (Or.inl ⟨by kernel_rfl, ?_⟩) (by assumption) ?_
  rotate_left
  · intro W hSw; go_simp; first | done | with_reducible rfl
  try simp only [Act.put, List.setIfInBounds_toArray, List.set_cons_zero, List.set_cons_succ]
  refine wpAnyH_take (i := 2) (oi := { dst := some 24, op := Go.Op.nilCheck (Go.Operand.tmp 22), type := 0, pos := "origin.go:51", after := #[{ on := 0, ground := Go.Ground.data }], guard := none }) (v := ?_) rfl (by kernel_rfl) (by kernel_rfl) (by kernel_rfl) (fun _ _ _ h => h) (Or.inl ⟨by kernel_rfl, ?_⟩) (by assumption) ?_
  rotate_left
  · intro W hSw; go_simp; first | done | with_reducible rfl
  try simp only [Act.put, List.setIfInBounds_toArray, List.set_cons_zero, List.set_cons_succ]
  refine wpAnyH_take (i := 3) (oi := { dst := some 25, op := Go.Op.fieldAddr 51 (Go.Operand.tmp 24) 0, type := 0, pos := "origin.go:51", after := #[{ on := 2, ground := Go.Ground.data }], guard := none }) (v := ?_) rfl (by kernel_rfl) (by kernel_rfl) (by kernel_rfl) (fun _ _ _ h => h) (Or.inl ⟨by kernel_rfl, ?_⟩) (by assumption) ?_
  rotate_left
  · intro W hSw; go_simp; first | done | with_reducible rfl
  try simp only [Act.put, List.setIfInBounds_toArray, List.set_cons_zero, List.set_cons_succ]
  refine wpAnyH_take (i := 4) (oi := { dst := some 26, op := Go.Op.indexAddr 26 (Go.Operand.tmp 25) (Go.Operand.tmp 23), type := 0, pos := "origin.go:51", after := #[{ on := 3, ground := Go.Ground.data }, { on := 1, ground := Go.Ground.data }], guard := none }) (v := ?_) rfl (by kernel_rfl) (by kernel_rfl) (by kernel_rfl) (fun _ _ _ h => h) (Or.inl ⟨by kernel_rfl, ?_⟩) (by assumption) ?_
  rotate_left
  · intro W hSw; go_simp; first | done | with_reducible rfl
  try simp only [Act.put, List.setIfInBounds_toArray, List.set_cons_zero, List.set_cons_succ]
  refine wpAnyH_take (i := 7) (oi := { dst := some 29, op := Go.Op.nilCheck (Go.Operand.tmp 22), type := 0, pos := "origin.go:51", after := #[{ on := 0, ground := Go.Ground.data }], guard := none }) (v := ?_) rfl (by kernel_rfl) (by kernel_rfl) (by kernel_rfl) (fun _ _ _ h => h) (Or.inl ⟨by kernel_rfl, ?_⟩) (by assumption) ?_
  rotate_left
  · intro W hSw; go_simp; first | done | with_reducible rfl
  try simp only [Act.put, List.setIfInBounds_toArray, List.set_cons_zero, List.set_cons_succ]
  refine wpAnyH_take (i := 8) (oi := { dst := some 30, op := Go.Op.fieldAddr 51 (Go.Operand.tmp 29) 0, type := 0, pos := "origin.go:51", after := #[{ on := 7, ground := Go.Ground.data }], guard := none }) (v := ?_) rfl (by kernel_rfl) (by kernel_rfl) (by kernel_rfl) (fun _ _ _ h => h) (Or.inl ⟨by kernel_rfl, ?_⟩) (by assumption) ?_
  rotate_left
  · intro W hSw; go_simp; first | done | with_reducible rfl
  try simp only [Act.put, List.setIfInBounds_toArray, List.set_cons_zero, List.set_cons_succ]
  refine wpAnyH_ready (rs := [5]) (by kernel_rfl) (by simp) ?_
  refine AllReadyH.cons (o := { dst := some 27, op := Go.Op.load 3 (Go.Operand.tmp 26), type := 3, pos := "origin.go:51", after := #[{ on := 4, ground := Go.Ground.data }], guard := none }) rfl (fun K hK => ?_) AllReadyH.nil
  have hq_ := hOd.out.cellI hq
  go_simp
  clear hq_
  refine hK.out _ _ ?_ (fun hHeld => ?_)
  · exact hX.out
  clear hK K
  try simp only [Act.put, List.setIfInBounds_toArray, List.set_cons_zero, List.set_cons_succ]
  refine wpAnyH_take (i := 6) (oi := { dst := some 28, op := Go.Op.binOp Go.BinOp.add 3 (Go.Operand.tmp 27) (Go.Operand.const (Go.Value.int Go.IntKind.i64 1)) 3, type := 3, pos := "origin.go:51", after := #[{ on := 5, ground := Go.Ground.data }], guard := none }) (v := ?_) rfl (by kernel_rfl) (by kernel_rfl) (by kernel_rfl) (fun _ _ _ h => h) (Or.inl ⟨by kernel_rfl, ?_⟩) (by assumption) ?_
  rotate_left
  · intro W hSw; go_simp; first | done | with_reducible rfl
  try simp only [Act.put, List.setIfInBounds_toArray, List.set_cons_zero, List.set_cons_succ]
  refine wpAnyH_take (i := 9) (oi := { dst := some 31, op := Go.Op.indexAddr 26 (Go.Operand.tmp 30) (Go.Operand.tmp 23), type := 0, pos := "origin.go:51", after := #[{ on := 8, ground := Go.Ground.data }, { on := 1, ground := Go.Ground.data }, { on := 0, ground := Go.Ground.phase }, { on := 1, ground := Go.Ground.phase }, { on := 2, ground := Go.Ground.phase }, { on := 3, ground := Go.Ground.phase }, { on := 4, ground := Go.Ground.phase }, { on := 5, ground := Go.Ground.phase }, { on := 6, ground := Go.Ground.phase }], guard := none }) (v := ?_) rfl (by kernel_rfl) (by kernel_rfl) (by kernel_rfl) (fun _ _ _ h => h) (Or.inl ⟨by kernel_rfl, ?_⟩) (by assumption) ?_
  rotate_left
  · intro W hSw; go_simp; first | done | with_reducible rfl
  try simp only [Act.put, List.setIfInBounds_toArray, List.set_cons_zero, List.set_cons_succ]
  refine wpAnyH_ready (rs := [10]) (by kernel_rfl) (by simp) ?_
  refine AllReadyH.cons (o := { dst := none, op := Go.Op.store 3 (Go.Operand.tmp 31) (Go.Operand.tmp 28), type := 0, pos := "origin.go:51", after := #[{ on := 9, ground := Go.Ground.data }, { on := 6, ground := Go.Ground.data }, { on := 0, ground := Go.Ground.phase }, { on := 1, ground := Go.Ground.phase }, { on := 2, ground := Go.Ground.phase }, { on := 3, ground := Go.Ground.phase }, { on := 4, ground := Go.Ground.phase }, { on := 5, ground := Go.Ground.phase }, { on := 6, ground := Go.Ground.phase }], guard := none }) rfl (fun K hK => ?_) AllReadyH.nil
  have hq_ := hOd.out.cellI hq
  have hf_ := blk_frozen hOd.out.hb q
  go_simp
  clear hq_ hf_
  refine hK.out _ _ ?_ (fun hHeld => ?_)
  · exact hX.out.set (.inl hOd.out.hg) _ _
  clear hK K
  try simp only [Act.put, List.setIfInBounds_toArray, List.set_cons_zero, List.set_cons_succ]
  refine wpAnyH_done (by kernel_rfl) ?_ _
  try simp only [Act.put, List.setIfInBounds_toArray, List.set_cons_zero, List.set_cons_succ, List.getElem_toArray, List.getElem_cons_zero, List.getElem_cons_succ]
  refine NoPanic.normal ?_
  (try dsimp only [Exit.then])
  refine hKz.out _ _ ?_
  have hFin := Aside0.mk (hOd.out.turn hq (V q + 1))
  have hKe := Aside0.mk (((KeepP.of_below (P := P) hb1.out).trans hX.out (fun k hk => .inl hk)).set (.inl hOd.out.hg) q (.int .i64 (V q + 1)))
  clear hHeld
  go_wp2
  go_ret
  exact ⟨rfl, ⟨_, _, hFin.out⟩, hKe.out⟩
set_option maxHeartbeats 4000000 in
set_option maxRecDepth 100000 in
theorem turn_not {base g : Nat} {P : Nat → Prop} {V : Nat → Int} {F : List Int} {A : List AK} (o : Int) (w : World) (h : OrgX w base P g V F A) (h0 : ¬ (0 ≤ o ∧ o < 16)) :
    Calls Try.prog 7 #[.pointer (some ⟨g, 0, none⟩), .int .i64 o] w fun e w' => e = .returned (.int .i64 1) ∧ Below w.heap.size w w' := by
  have HC := has_calls g o w
  rw [decide_eq_false h0] at HC
  replace HC := Aside0.mk HC
  go_enter Try.func7, Try.ntmps7
  go_wp2_with (go_at_call 17; refine HC.out.mono ?_; rintro e w1 ⟨rfl, hb1⟩; replace hb1 := Aside0.mk hb1)
  go_ret
  exact ⟨rfl, hb1.out⟩
end Go.Proofs.Ytpphnjmppkbpbaa.Org
namespace Go.Proofs.Ytpphnjmppkbpbaa.Org
open Go Go.RowKit Go.Proofs Go.Proofs.Ytpphnjmppkbpbaa.Xw Go.Proofs.Ytpphnjmppkbpbaa.PAll Go.Proofs.Ytpphnjmppkbpbaa.Ag Go.Proofs.Ytpphnjmppkbpbaa.Pure Go.Proofs.YtpphnjmppkbpbaaW.PrintWords Go.Proofs.YtpphnjmppkbpbaaW.PrintLast Go.Proofs.YtpphnjmppkbpbaaW.PrintMore
attribute [local go_sem] Oper.semAt_some
set_option linter.unusedSimpArgs false
set_option linter.unusedVariables false
theorem one_C (w : World) (x : Int) : kI.C (w.alloc (.cells #[.int .i64 x] 3 (0, 0))) (some ⟨w.heap.size, 0, none⟩) 1 [x] := by
  refine ⟨rfl, by decide, fun _ => ⟨_, rfl, fun j p hj => ?_⟩⟩
  cases j with
  | zero =>
    obtain rfl : x = p := by simpa using hj
    refine ⟨[.int .i64 x], rfl, rfl, fun i u hu => ?_⟩
    cases i with
    | zero => rw [show (⟨w.heap.size, 0, none⟩ : Addr).add (0 * kI.sz + 0) = ⟨w.heap.size, 0, none⟩ from rfl]; exact (blk_cell (blk_new w _) 0).trans hu
    | succ i => simp at hu
  | succ j => simp at hj
theorem PX.lt {P : Nat → Prop} {w X : World} {k : Nat} (h : PX P w X k) : k < X.heap.size := h.2
set_option maxHeartbeats 4000000 in
set_option maxRecDepth 100000 in
/-- an origin that nobody made is down -/
theorem serve_nil (a : AK) (w : World) : Calls Try.prog 12 #[.pointer none, askV a] w fun e w' => ∃ s2 s3 s4 v5, e = .returned (.agg #[.int .i64 503, .string s2, .int .i64 s3, .string s4, v5]) ∧ Below w.heap.size w w' := by
  have e2 := blk_new ((w.alloc (Obj.cells #[.pointer none] 24 (0, 0))).alloc (Obj.cells #[.int .i64 a.f0, .bool a.f1, .string a.f2, .int .i64 a.f3.f0, .int .i64 a.f3.f1] 32 (0, 0))) (Obj.cells #[.int .i64 0, .string ⟨#[]⟩, .int .i64 0, .string ⟨#[]⟩, .slice none 0 0] 40 (0, 0))
  have hB3 := Aside0.mk (below_alloc (below_alloc (below_alloc (Below.refl w.heap.size w) (Obj.cells #[.pointer none] 24 (0, 0))) (Obj.cells #[.int .i64 a.f0, .bool a.f1, .string a.f2, .int .i64 a.f3.f0, .int .i64 a.f3.f1] 32 (0, 0))) (Obj.cells #[.int .i64 0, .string ⟨#[]⟩, .int .i64 0, .string ⟨#[]⟩, .slice none 0 0] 40 (0, 0)))
  rw [alloc_size, alloc_size] at e2
  replace e2 := Aside0.mk e2
  unfold askV
  go_enter Try.func12, Try.ntmps12
  go_wp2_with (first | (go_at_call 26; refine (reply_Down.calls _ _ _ _ _ _ rfl).mono ?_; rintro e w5 ⟨v, rfl, hR, hb⟩; obtain ⟨Ad, cd, rfl⟩ := Kd.R_slice hR; clear hR; replace hb := Aside0.mk hb) | ((with_reducible refine gate_store (t := 40) (p := 4) rfl ?_); refine list_store_row rfl 40 (.tmp 4) (.tmp 9) rfl rfl (w.heap.size + 1 + 1) rfl _ rfl _ 40 (blk_below e2.out hb.out) (by kernel_rfl) rfl (by simp [Value.oneCell']) ?_))
  have hRb := fun cs => setRow_heap _ (w.heap.size + 1 + 1) _ cs 40 (0, 0) (blk_below e2.out hb.out)
  refine bodyPost_ret (v := .agg _) (results_cell_row (p := 4) (ty := 40) Try.results12 _ _ (w.heap.size + 1 + 1) 40 _ (0, 0) _ rfl (hRb _) Try.underlying40 rfl (by kernel_rfl)) rfl ⟨_, _, _, _, rfl, ?_⟩
  exact below_setRow (below_step hB3.out hb.out) (by omega) _
def askO (a : AK) : Obj := .cells #[.int .i64 a.f0, .bool a.f1, .string a.f2, .int .i64 a.f3.f0, .int .i64 a.f3.f1] 32 (0, 0)
theorem ask_cells {X : World} {k : Nat} {a : AK} (h : X.heap[k]? = some (askO a)) : X.cell? ⟨k, 0, none⟩ = some (.int .i64 a.f0) ∧ X.cell? ⟨k, 1, none⟩ = some (.bool a.f1) ∧ X.cell? ⟨k, 2, none⟩ = some (.string a.f2) ∧ X.cell? ⟨k, 3, none⟩ = some (.int .i64 a.f3.f0) ∧ X.cell? ⟨k, 4, none⟩ = some (.int .i64 a.f3.f1) :=
  ⟨(blk_cell h 0).trans rfl, (blk_cell h 1).trans rfl, (blk_cell h 2).trans rfl, (blk_cell h 3).trans rfl, (blk_cell h 4).trans rfl⟩
theorem status_run (s : Int) (s2 : ByteArray) (s3 : Int) (s4 : ByteArray) (v5 : Value) (w : World) : (Instr.field 40 (.agg #[.int .i64 s, .string s2, .int .i64 s3, .string s4, v5]) 0).run Try.prog w = .ok (.int .i64 s) w := by kernel_rfl
attribute [local go_sem] status_run
def ask1 : AK := ⟨1, true, ⟨#[]⟩, ⟨0, 0⟩⟩
theorem st1 : (served (([] : List Int) ++ [1]) (ans ask1 (verP vz ask1.f0))).1 = 503 := by simp [served, flt, PureQ.faultyV]
theorem st2 : (served (([] : List Int) ++ [1]).tail (ans ask1 (verP vz ask1.f0))).1 = 200 := by
  have h : tagV 1 0 = [118, 49, 45, 48] := by
    have h1 : mayV 1 0 = true := by decide
    rw [tagV, if_pos h1, dig_small (by decide), dig_small (by decide)]; rfl
  show (replyV 1 true (bytesOf ⟨#[]⟩) 0 0 0).1 = 200
  unfold replyV
  rw [h]; rfl
set_option maxHeartbeats 8000000 in
set_option maxRecDepth 100000 in
theorem awake_calls (w : World) : Calls Try.prog 5 #[] w fun e w' => e = .returned (.bool true) ∧ Below w.heap.size w w' := by
  have hu40 := Try.underlying40
  have CN := Aside0.mk (new_calls w)
  have e1 := Aside0.mk st1
  have e2 := Aside0.mk st2
  go_enter Try.func5, Try.ntmps5
  go_wp2_with (first
    | (go_at_call 6; refine CN.out.mono ?_; rintro e w1 ⟨rfl, hO1, hb1⟩; replace hO1 := Aside0.mk hO1; replace hb1 := Aside0.mk hb1)
    | (go_at_call 8; refine (fault_calls _ 1 [1] _ (hO1.out.below (below_alloc (Below.refl _ _) _)) (one_C w1 1) (by simp)).mono ?_; rintro e w2 ⟨rfl, hO2, hK2⟩; have hA := Aside0.mk (blk_new w2 (askO ask1)); have hO3 := Aside0.mk (hO2.below (below_alloc (Below.refl _ w2) (askO ask1))); have hB3 := Aside0.mk (below_alloc (hK2.below (below_alloc hb1.out _) (below_alloc hb1.out (.cells #[.int .i64 1] 3 (0, 0))).size (fun k hk => Nat.le_of_eq hk.symm)) (askO ask1)); clear hO2 hK2 hO1 hb1)
    | (go_at_call 12; refine (serve_calls ask1 (w2.alloc (askO ask1)) hO3.out (by simp) (by simp)).mono ?_; rintro e w4 ⟨u, rfl, ⟨Au, cu, rfl, hlu, hCu⟩, hO, hK4⟩; rw [e1.out]; obtain ⟨q0, q1, q2, q3, q4⟩ := ask_cells (a := ask1) (hK4.cells hA.out (fun hk => absurd hk.2 (Nat.lt_irrefl _))); have hB4 := Aside0.mk (hK4.below hB3.out hB3.out.size (fun k hk => hO3.out.ge hk)); have hO4 := Aside0.mk hO; clear hlu hCu hK4 hO hO3 hB3 hA)
    | (go_at_call 12; refine (serve_calls ask1 w4 hO4.out (by simp) (by simp)).mono ?_; rintro e w5 ⟨u, rfl, ⟨Au, cu, rfl, hlu, hCu⟩, hO, hK⟩; rw [e2.out]; have hB5 := Aside0.mk (hK.below hB4.out hB4.out.size (fun k hk => hO4.out.ge hk)); clear hO hK hO4 hlu hCu))
  go_ret
  exact ⟨rfl, hB5.out⟩
end Go.Proofs.Ytpphnjmppkbpbaa.Org
