/- Go functions of this seat as plain functions, and proofs that the code comes to them: written by a program of this session's over the kit's print.py. -/
import Derived.Test.YtfcengffgkmacaaPAllx0
import Derived.Test.YtfcengffgkmacaaPAllx3
import Derived.Test.YtfcengffgkmacaaPAllx11
import Derived.Test.YtfcengffgkmacaaPAllx12
namespace Go.Proofs.Ytfcengffgkmacaa.PAll
open Go.RowKit Go.Proofs.Ytfcengffgkmacaa.Xw Go.Proofs.YtfcengffgkmacaaW.PrintWords Go.Proofs.YtfcengffgkmacaaW.PrintLast Go.Proofs.YtfcengffgkmacaaW.PrintMore
attribute [local go_sem] max2_int min2_int max_two min_two max_three min_three max_four min_four   -- for this text's walks alone
set_option linter.unusedVariables false
set_option linter.unusedSimpArgs false

/-! ### spencelaw31_ReplyParts: function 8 -/
mutual
def spencelaw31_ReplyParts.j0 : Nat → Int → Int → Int → Int → Int → Int → Bool → Option (Bool)
  | 0, _, _, _, _, _, _, _ => none
  | k + 1, x0, x1, x2, x3, x4, x11, x43 => if x43 = true then (some true) else ((spenceref24_Tag.f k x0 x1).bind fun t259 => ((reply_Of.f k x0 false t259 x2 x3 x1).bind fun bt260 => ((reply_Of.f k x0 false t259 x3 x4 x1).bind fun bt268 => ((reply_Of.f k x0 false t259 x2 x4 x1).bind fun bt276 => (if ([] : List Int).length + bt260.2.2.2.2.length < 140737488355328 then ((some (([] : List Int) ++ bt260.2.2.2.2 : List Int)).bind fun y284 => (if y284.length + bt268.2.2.2.2.length < 140737488355328 then ((some (y284 ++ bt268.2.2.2.2 : List Int)).bind fun y287 => (if bt260.1 = 206 then (if bt268.1 = 206 then (if bt276.1 = 206 then (spencelaw31_ReplyParts.j1 k x11 t259 y287 ((y287.length : Int) != (bt276.2.2.2.2.length : Int)) bt260.1 bt260.2.1 bt260.2.2.1 bt260.2.2.2.1 bt260.2.2.2.2 bt268.1 bt268.2.1 bt268.2.2.1 bt268.2.2.2.1 bt268.2.2.2.2 bt276.1 bt276.2.1 bt276.2.2.1 bt276.2.2.2.1 bt276.2.2.2.2) else (spencelaw31_ReplyParts.j1 k x11 t259 y287 true bt260.1 bt260.2.1 bt260.2.2.1 bt260.2.2.2.1 bt260.2.2.2.2 bt268.1 bt268.2.1 bt268.2.2.1 bt268.2.2.2.1 bt268.2.2.2.2 bt276.1 bt276.2.1 bt276.2.2.1 bt276.2.2.2.1 bt276.2.2.2.2)) else (spencelaw31_ReplyParts.j1 k x11 t259 y287 true bt260.1 bt260.2.1 bt260.2.2.1 bt260.2.2.2.1 bt260.2.2.2.2 bt268.1 bt268.2.1 bt268.2.2.1 bt268.2.2.2.1 bt268.2.2.2.2 bt276.1 bt276.2.1 bt276.2.2.1 bt276.2.2.2.1 bt276.2.2.2.2)) else (spencelaw31_ReplyParts.j1 k x11 t259 y287 true bt260.1 bt260.2.1 bt260.2.2.1 bt260.2.2.2.1 bt260.2.2.2.2 bt268.1 bt268.2.1 bt268.2.2.1 bt268.2.2.2.1 bt268.2.2.2.2 bt276.1 bt276.2.1 bt276.2.2.1 bt276.2.2.2.1 bt276.2.2.2.2))) else (none))) else (none))))))
def spencelaw31_ReplyParts.j1 : Nat → Int → ByteArray → List Int → Bool → Int → ByteArray → Int → ByteArray → List Int → Int → ByteArray → Int → ByteArray → List Int → Int → ByteArray → Int → ByteArray → List Int → Option (Bool)
  | 0, _, _, _, _, _, _, _, _, _, _, _, _, _, _, _, _, _, _, _ => none
  | k + 1, x11, x12, x16, x97, x268000, x268001, x268002, x268003, x268004, x276000, x276001, x276002, x276003, x276004, x284000, x284001, x284002, x284003, x284004 => if x97 = true then (some false) else (spencelaw31_ReplyParts.l0 k x11 x12 x16 (x16.length : Int) 0 x268000 x268001 x268002 x268003 x268004 x276000 x276001 x276002 x276003 x276004 x284000 x284001 x284002 x284003 x284004)
def spencelaw31_ReplyParts.l0 : Nat → Int → ByteArray → List Int → Int → Int → Int → ByteArray → Int → ByteArray → List Int → Int → ByteArray → Int → ByteArray → List Int → Int → ByteArray → Int → ByteArray → List Int → Option (Bool)
  | 0, _, _, _, _, _, _, _, _, _, _, _, _, _, _, _, _, _, _, _, _ => none
  | k + 1, x11, x12, x16, x99, x100, x268000, x268001, x268002, x268003, x268004, x276000, x276001, x276002, x276003, x276004, x284000, x284001, x284002, x284003, x284004 => if x100 < x99 then (if 0 ≤ x100 then (if x100 < (x16.length : Int) then (if x100 < (x284004.length : Int) then (if (rd x16 x100) = (rd x284004 x100) then (spencelaw31_ReplyParts.l0 k x11 x12 x16 x99 (wrap64 (x100 + 1)) x268000 x268001 x268002 x268003 x268004 x276000 x276001 x276002 x276003 x276004 x284000 x284001 x284002 x284003 x284004) else (some false)) else (none)) else (none)) else (none)) else (if x268002 = x11 then (if x276001.toList = x12.toList then (some (x284002 == x11)) else (some false)) else (some false))
end
def spencelaw31_ReplyParts.f (k : Nat) (a0 : Int) (a1 : Int) (a2 : Int) (a3 : Int) (a4 : Int) : Option (Bool) := (spencelaw31_awake.f k).bind fun t257 => (if t257 = true then ((spenceref24_Length.f a0 a1).bind fun t258 => (if t258 < 0 then (spencelaw31_ReplyParts.j0 k a0 a1 a2 a3 a4 t258 true) else (if a2 < 0 then (spencelaw31_ReplyParts.j0 k a0 a1 a2 a3 a4 t258 true) else (if a2 ≥ a3 then (spencelaw31_ReplyParts.j0 k a0 a1 a2 a3 a4 t258 true) else (if a3 ≥ a4 then (spencelaw31_ReplyParts.j0 k a0 a1 a2 a3 a4 t258 true) else (spencelaw31_ReplyParts.j0 k a0 a1 a2 a3 a4 t258 (decide (a4 > t258)))))))) else (some false))
theorem spencelaw31_ReplyParts.mono_l : ∀ k, (∀ y0 y1 y2 y3 y4 y5 y6, LeO (spencelaw31_ReplyParts.j0 k y0 y1 y2 y3 y4 y5 y6) (spencelaw31_ReplyParts.j0 (k + 1) y0 y1 y2 y3 y4 y5 y6)) ∧ (∀ y0 y1 y2 y3 y4 y5 y6 y7 y8 y9 y10 y11 y12 y13 y14 y15 y16 y17 y18, LeO (spencelaw31_ReplyParts.j1 k y0 y1 y2 y3 y4 y5 y6 y7 y8 y9 y10 y11 y12 y13 y14 y15 y16 y17 y18) (spencelaw31_ReplyParts.j1 (k + 1) y0 y1 y2 y3 y4 y5 y6 y7 y8 y9 y10 y11 y12 y13 y14 y15 y16 y17 y18)) ∧ (∀ y0 y1 y2 y3 y4 y5 y6 y7 y8 y9 y10 y11 y12 y13 y14 y15 y16 y17 y18 y19, LeO (spencelaw31_ReplyParts.l0 k y0 y1 y2 y3 y4 y5 y6 y7 y8 y9 y10 y11 y12 y13 y14 y15 y16 y17 y18 y19) (spencelaw31_ReplyParts.l0 (k + 1) y0 y1 y2 y3 y4 y5 y6 y7 y8 y9 y10 y11 y12 y13 y14 y15 y16 y17 y18 y19))
  | 0 => ⟨fun _ _ _ _ _ _ _ r h => by simp [spencelaw31_ReplyParts.j0] at h, fun _ _ _ _ _ _ _ _ _ _ _ _ _ _ _ _ _ _ _ r h => by simp [spencelaw31_ReplyParts.j1] at h, fun _ _ _ _ _ _ _ _ _ _ _ _ _ _ _ _ _ _ _ _ r h => by simp [spencelaw31_ReplyParts.l0] at h⟩
  | k + 1 => by
    obtain ⟨ih0, ih1, ih2⟩ := spencelaw31_ReplyParts.mono_l k
    refine ⟨?_, ?_, ?_⟩
    · intro y0 y1 y2 y3 y4 y5 y6
      unfold spencelaw31_ReplyParts.j0
      repeat' first
      | (with_reducible exact ih0 _ _ _ _ _ _ _)
      | (with_reducible exact ih1 _ _ _ _ _ _ _ _ _ _ _ _ _ _ _ _ _ _ _)
      | (with_reducible exact ih2 _ _ _ _ _ _ _ _ _ _ _ _ _ _ _ _ _ _ _ _)
      | (with_reducible exact reply_Of.mono _ _ _ _ _ _ _)
      | (with_reducible exact spencelaw31_awake.mono _)
      | (with_reducible exact spenceref24_Tag.mono _ _ _)
      | (with_reducible exact LeO.refl _)
      | (with_reducible exact LeO.none _)
      | (with_reducible refine LeO.ite ?_ ?_)
      | (with_reducible refine LeO.bind ?_ (fun _ => ?_))
      | exact ih0 _ _ _ _ _ _ _
      | exact ih1 _ _ _ _ _ _ _ _ _ _ _ _ _ _ _ _ _ _ _
      | exact ih2 _ _ _ _ _ _ _ _ _ _ _ _ _ _ _ _ _ _ _ _
      | exact reply_Of.mono _ _ _ _ _ _ _
      | exact spencelaw31_awake.mono _
      | exact spenceref24_Tag.mono _ _ _
      | exact LeO.none _
      | refine LeO.ite ?_ ?_
      | refine LeO.bind ?_ (fun _ => ?_)
    · intro y0 y1 y2 y3 y4 y5 y6 y7 y8 y9 y10 y11 y12 y13 y14 y15 y16 y17 y18
      unfold spencelaw31_ReplyParts.j1
      repeat' first
      | (with_reducible exact ih0 _ _ _ _ _ _ _)
      | (with_reducible exact ih1 _ _ _ _ _ _ _ _ _ _ _ _ _ _ _ _ _ _ _)
      | (with_reducible exact ih2 _ _ _ _ _ _ _ _ _ _ _ _ _ _ _ _ _ _ _ _)
      | (with_reducible exact reply_Of.mono _ _ _ _ _ _ _)
      | (with_reducible exact spencelaw31_awake.mono _)
      | (with_reducible exact spenceref24_Tag.mono _ _ _)
      | (with_reducible exact LeO.refl _)
      | (with_reducible exact LeO.none _)
      | (with_reducible refine LeO.ite ?_ ?_)
      | (with_reducible refine LeO.bind ?_ (fun _ => ?_))
      | exact ih0 _ _ _ _ _ _ _
      | exact ih1 _ _ _ _ _ _ _ _ _ _ _ _ _ _ _ _ _ _ _
      | exact ih2 _ _ _ _ _ _ _ _ _ _ _ _ _ _ _ _ _ _ _ _
      | exact reply_Of.mono _ _ _ _ _ _ _
      | exact spencelaw31_awake.mono _
      | exact spenceref24_Tag.mono _ _ _
      | exact LeO.none _
      | refine LeO.ite ?_ ?_
      | refine LeO.bind ?_ (fun _ => ?_)
    · intro y0 y1 y2 y3 y4 y5 y6 y7 y8 y9 y10 y11 y12 y13 y14 y15 y16 y17 y18 y19
      unfold spencelaw31_ReplyParts.l0
      repeat' first
      | (with_reducible exact ih0 _ _ _ _ _ _ _)
      | (with_reducible exact ih1 _ _ _ _ _ _ _ _ _ _ _ _ _ _ _ _ _ _ _)
      | (with_reducible exact ih2 _ _ _ _ _ _ _ _ _ _ _ _ _ _ _ _ _ _ _ _)
      | (with_reducible exact reply_Of.mono _ _ _ _ _ _ _)
      | (with_reducible exact spencelaw31_awake.mono _)
      | (with_reducible exact spenceref24_Tag.mono _ _ _)
      | (with_reducible exact LeO.refl _)
      | (with_reducible exact LeO.none _)
      | (with_reducible refine LeO.ite ?_ ?_)
      | (with_reducible refine LeO.bind ?_ (fun _ => ?_))
      | exact ih0 _ _ _ _ _ _ _
      | exact ih1 _ _ _ _ _ _ _ _ _ _ _ _ _ _ _ _ _ _ _
      | exact ih2 _ _ _ _ _ _ _ _ _ _ _ _ _ _ _ _ _ _ _ _
      | exact reply_Of.mono _ _ _ _ _ _ _
      | exact spencelaw31_awake.mono _
      | exact spenceref24_Tag.mono _ _ _
      | exact LeO.none _
      | refine LeO.ite ?_ ?_
      | refine LeO.bind ?_ (fun _ => ?_)
theorem spencelaw31_ReplyParts.mono : ∀ a0 a1 a2 a3 a4 k, LeO (spencelaw31_ReplyParts.f k a0 a1 a2 a3 a4) (spencelaw31_ReplyParts.f (k + 1) a0 a1 a2 a3 a4) := by
  intro a0 a1 a2 a3 a4 k
  obtain ⟨ih0, ih1, ih2⟩ := spencelaw31_ReplyParts.mono_l k
  unfold spencelaw31_ReplyParts.f
  repeat' first
      | (with_reducible exact ih0 _ _ _ _ _ _ _)
      | (with_reducible exact ih1 _ _ _ _ _ _ _ _ _ _ _ _ _ _ _ _ _ _ _)
      | (with_reducible exact ih2 _ _ _ _ _ _ _ _ _ _ _ _ _ _ _ _ _ _ _ _)
      | (with_reducible exact reply_Of.mono _ _ _ _ _ _ _)
      | (with_reducible exact spencelaw31_awake.mono _)
      | (with_reducible exact spenceref24_Tag.mono _ _ _)
      | (with_reducible exact LeO.refl _)
      | (with_reducible exact LeO.none _)
      | (with_reducible refine LeO.ite ?_ ?_)
      | (with_reducible refine LeO.bind ?_ (fun _ => ?_))
      | exact ih0 _ _ _ _ _ _ _
      | exact ih1 _ _ _ _ _ _ _ _ _ _ _ _ _ _ _ _ _ _ _
      | exact ih2 _ _ _ _ _ _ _ _ _ _ _ _ _ _ _ _ _ _ _ _
      | exact reply_Of.mono _ _ _ _ _ _ _
      | exact spencelaw31_awake.mono _
      | exact spenceref24_Tag.mono _ _ _
      | exact LeO.none _
      | refine LeO.ite ?_ ?_
      | refine LeO.bind ?_ (fun _ => ?_)
def spencelaw31_ReplyParts.T16 : Bool × List (List Nat × List Nat) := (true, [([], []), ([], []), ([0, 1], [0, 1]), ([2], [2]), ([], []), ([4], [4]), ([], []), ([5, 6], [5, 6]), ([7], [7]), ([3, 8], [3, 8])])
def spencelaw31_ReplyParts.B16 : List Nat := [0, 0, 3, 7, 0, 16, 0, 112, 240, 511]
theorem spencelaw31_ReplyParts.tab16 : rtab .any (opsOf Try.f8 16) = spencelaw31_ReplyParts.T16 := by kernel_rfl
theorem spencelaw31_ReplyParts.bits16 : waitsOk spencelaw31_ReplyParts.T16.2 spencelaw31_ReplyParts.B16 = true := by kernel_rfl
set_option maxHeartbeats 8000000 in
set_option maxRecDepth 100000 in
theorem spencelaw31_ReplyParts.calls (k : Nat) (a0 : Int) (a1 : Int) (a2 : Int) (a3 : Int) (a4 : Int) (r : Bool) (w : World) (h : spencelaw31_ReplyParts.f k a0 a1 a2 a3 a4 = some r) :
    Calls Try.prog 8 #[.int .i64 a0, .int .i64 a1, .int .i64 a2, .int .i64 a3, .int .i64 a4] w fun e w' => e = .returned (.bool r) ∧ Below w.heap.size w w' := by
  have hu28 := Try.underlying28
  have hu67 := Try.underlying67
  have hu64 := Try.underlying64
  have HB := Aside0.mk (Below.refl w.heap.size w)
  have H : ((spencelaw31_awake.f k).bind fun t257 => (if t257 = true then ((spenceref24_Length.f a0 a1).bind fun t258 => (if t258 < 0 then (spencelaw31_ReplyParts.j0 k a0 a1 a2 a3 a4 t258 true) else (if a2 < 0 then (spencelaw31_ReplyParts.j0 k a0 a1 a2 a3 a4 t258 true) else (if a2 ≥ a3 then (spencelaw31_ReplyParts.j0 k a0 a1 a2 a3 a4 t258 true) else (if a3 ≥ a4 then (spencelaw31_ReplyParts.j0 k a0 a1 a2 a3 a4 t258 true) else (spencelaw31_ReplyParts.j0 k a0 a1 a2 a3 a4 t258 (decide (a4 > t258)))))))) else (some false))) = some r := h
  clear h
  replace H := Option.bind_eq_some_iff.mp H
  obtain ⟨t257, A60, H⟩ := H
  replace H : (if t257 = true then ((spenceref24_Length.f a0 a1).bind fun t258 => (if t258 < 0 then (spencelaw31_ReplyParts.j0 k a0 a1 a2 a3 a4 t258 true) else (if a2 < 0 then (spencelaw31_ReplyParts.j0 k a0 a1 a2 a3 a4 t258 true) else (if a2 ≥ a3 then (spencelaw31_ReplyParts.j0 k a0 a1 a2 a3 a4 t258 true) else (if a3 ≥ a4 then (spencelaw31_ReplyParts.j0 k a0 a1 a2 a3 a4 t258 true) else (spencelaw31_ReplyParts.j0 k a0 a1 a2 a3 a4 t258 (decide (a4 > t258)))))))) else (some false)) = some r := H
  have A6 := Aside0.mk A60
  clear A60
  by_cases c7 : t257 = true
  · subst c7
    have H1 : ((spenceref24_Length.f a0 a1).bind fun t258 => (if t258 < 0 then (spencelaw31_ReplyParts.j0 k a0 a1 a2 a3 a4 t258 true) else (if a2 < 0 then (spencelaw31_ReplyParts.j0 k a0 a1 a2 a3 a4 t258 true) else (if a2 ≥ a3 then (spencelaw31_ReplyParts.j0 k a0 a1 a2 a3 a4 t258 true) else (if a3 ≥ a4 then (spencelaw31_ReplyParts.j0 k a0 a1 a2 a3 a4 t258 true) else (spencelaw31_ReplyParts.j0 k a0 a1 a2 a3 a4 t258 (decide (a4 > t258)))))))) = some r := by rw [if_pos rfl] at H; exact H
    clear H
    have H := H1
    clear H1
    replace H := Option.bind_eq_some_iff.mp H
    obtain ⟨t258, A80, H⟩ := H
    replace H : (if t258 < 0 then (spencelaw31_ReplyParts.j0 k a0 a1 a2 a3 a4 t258 true) else (if a2 < 0 then (spencelaw31_ReplyParts.j0 k a0 a1 a2 a3 a4 t258 true) else (if a2 ≥ a3 then (spencelaw31_ReplyParts.j0 k a0 a1 a2 a3 a4 t258 true) else (if a3 ≥ a4 then (spencelaw31_ReplyParts.j0 k a0 a1 a2 a3 a4 t258 true) else (spencelaw31_ReplyParts.j0 k a0 a1 a2 a3 a4 t258 (decide (a4 > t258))))))) = some r := H
    have A8 := Aside0.mk A80
    clear A80
    have HC9 := Aside0.mk H
    clear H
    go_enter Try.func8, Try.ntmps8
    go_upto_region 4 with (first | ((with_reducible refine gate_callee (f := 37) rfl ?_); refine goesL_ (some 18) rfl rfl Try.func37 (by kernel_rfl) rfl #[] rfl (by (try simp only [List.map_toArray, List.map_cons, List.map_nil]); first | done | rfl | (simp only [List.length_drop, List.length_take]; rfl)) ?_; (with_reducible refine (spencelaw31_awake.calls k  true _ A6.out).mono ?_); rintro e w10 ⟨rfl, hb⟩; refine ⟨_, rfl, ?_⟩; have n0_ := Aside0.mk (below_step (by repeat (first | (with_reducible first | exact HB.out | apply below_alloc | apply pw_below_drewN | apply below_drew1) | exact HB.out)) hb); clear HB; have HB := n0_; clear n0_; (try clear hb); (try clear hb2); (try clear hk); (try clear hi)) | ((with_reducible refine gate_callee (f := 15) rfl ?_); refine goesL_ (some 22) rfl rfl Try.func15 (by kernel_rfl) rfl #[.int .i64 a0, .int .i64 a1] rfl (by (try simp only [List.map_toArray, List.map_cons, List.map_nil]); first | done | rfl | (simp only [List.length_drop, List.length_take]; rfl)) ?_; (with_reducible refine (spenceref24_Length.calls a0 a1 t258 _ A8.out).mono ?_); rintro e w' ⟨rfl, ⟨nd, rfl⟩⟩; refine ⟨_, rfl, ?_⟩))
    (try simp only [Act.put, List.setIfInBounds_toArray, List.set_cons_zero, List.set_cons_succ])
    go_cut [43] (fun v43 wc => ∃ (kq : Nat) (x43_8 : Bool), v43 = .bool x43_8 ∧ Aside0 (spencelaw31_ReplyParts.j0 kq a0 a1 a2 a3 a4 t258 x43_8 = some r) ∧ Aside0 (kq ≤ k) ∧ Aside0 (Below w.heap.size w wc))
    case first =>
      have H := HC9.out
      clear HC9
      by_cases c11 : t258 < 0
      · rw [if_pos c11] at H
        have c11b0 : decide (t258 < 0) = true := decide_eq_true c11
        clear c11
        (first | rw [c11b0] | (simp only [i64_w, i32_w]; rw [c11b0]) | skip)
        have H' := Aside0.mk H
        clear H
        go_wp2
        go_meet
        case rel => exact ⟨_, (true), (by first | rfl | (simp; done) | (simp [*]; done)), H', ⟨by first | omega | exact Nat.le_refl _⟩, ⟨by repeat (first | (with_reducible first | exact HB.out | apply below_alloc | apply pw_below_drewN | apply below_drew1) | exact HB.out)⟩⟩
      · rw [if_neg c11] at H
        have c11b0 : decide (t258 < 0) = false := decide_eq_false c11
        clear c11
        (first | rw [c11b0] | (simp only [i64_w, i32_w]; rw [c11b0]) | skip)
        by_cases c12 : a2 < 0
        · rw [if_pos c12] at H
          have c12b0 : decide (a2 < 0) = true := decide_eq_true c12
          clear c12
          have H' := Aside0.mk H
          clear H
          go_wp2
          go_meet
          case rel => exact ⟨_, (true), (by first | rfl | (simp; done) | (simp [*]; done)), H', ⟨by first | omega | exact Nat.le_refl _⟩, ⟨by repeat (first | (with_reducible first | exact HB.out | apply below_alloc | apply pw_below_drewN | apply below_drew1) | exact HB.out)⟩⟩
        · rw [if_neg c12] at H
          have c12b0 : decide (a2 < 0) = false := decide_eq_false c12
          clear c12
          by_cases c13 : a2 ≥ a3
          · rw [if_pos c13] at H
            have c13b0 : decide (a3 ≤ a2) = true := decide_eq_true c13
            clear c13
            have H' := Aside0.mk H
            clear H
            go_wp2
            go_meet
            case rel => exact ⟨_, (true), (by first | rfl | (simp; done) | (simp [*]; done)), H', ⟨by first | omega | exact Nat.le_refl _⟩, ⟨by repeat (first | (with_reducible first | exact HB.out | apply below_alloc | apply pw_below_drewN | apply below_drew1) | exact HB.out)⟩⟩
          · rw [if_neg c13] at H
            have c13b0 : decide (a3 ≤ a2) = false := decide_eq_false c13
            clear c13
            by_cases c14 : a3 ≥ a4
            · rw [if_pos c14] at H
              have c14b0 : decide (a4 ≤ a3) = true := decide_eq_true c14
              clear c14
              have H' := Aside0.mk H
              clear H
              go_wp2
              go_meet
              case rel => exact ⟨_, (true), (by first | rfl | (simp; done) | (simp [*]; done)), H', ⟨by first | omega | exact Nat.le_refl _⟩, ⟨by repeat (first | (with_reducible first | exact HB.out | apply below_alloc | apply pw_below_drewN | apply below_drew1) | exact HB.out)⟩⟩
            · rw [if_neg c14] at H
              have c14b0 : decide (a4 ≤ a3) = false := decide_eq_false c14
              clear c14
              have H' := Aside0.mk H
              clear H
              go_wp2
              go_meet
              case rel => exact ⟨_, (decide (a4 > t258)), (by first | rfl | (simp; done) | (simp [*]; done)), H', ⟨by first | omega | exact Nat.le_refl _⟩, ⟨by repeat (first | (with_reducible first | exact HB.out | apply below_alloc | apply pw_below_drewN | apply below_drew1) | exact HB.out)⟩⟩
    case rest =>
      clear HC9
      try clear c1
      try clear p2
      try clear c3
      try clear c7
      try clear c8
      try clear c11
      try clear c11b0
      try clear c12
      try clear c12b0
      try clear c13
      try clear c13b0
      try clear c14
      try clear c14b0
      obtain ⟨kq, x43_8, rfl, HA, HJ8, HB⟩ := hcut
      cases kq with
      | zero => exact absurd HA.out (by simp [spencelaw31_ReplyParts.j0])
      | succ kj8 =>
        have H := HA.out
        clear HA
        simp only [spencelaw31_ReplyParts.j0] at H
        by_cases c15 : x43_8 = true
        · subst c15
          have H1 : (some true) = some r := by rw [if_pos rfl] at H; exact H
          clear H
          have H := H1
          clear H1
          obtain rfl := Option.some.inj H
          go_wp2
          go_ret
          exact ⟨by first | rfl | exact ne_empty _ | exact eq_empty _ | (simp [errW_none, errW_some] <;> rfl) | (simp [*, errW_none, errW_some] <;> rfl), by repeat (first | (with_reducible first | exact HB.out | apply below_alloc | apply pw_below_drewN | apply below_drew1) | exact HB.out)⟩
        · replace c15 := Bool.eq_false_iff.mpr c15
          subst c15
          have H1 : ((spenceref24_Tag.f kj8 a0 a1).bind fun t259 => ((reply_Of.f kj8 a0 false t259 a2 a3 a1).bind fun bt260 => ((reply_Of.f kj8 a0 false t259 a3 a4 a1).bind fun bt268 => ((reply_Of.f kj8 a0 false t259 a2 a4 a1).bind fun bt276 => (if ([] : List Int).length + bt260.2.2.2.2.length < 140737488355328 then ((some (([] : List Int) ++ bt260.2.2.2.2 : List Int)).bind fun y284 => (if y284.length + bt268.2.2.2.2.length < 140737488355328 then ((some (y284 ++ bt268.2.2.2.2 : List Int)).bind fun y287 => (if bt260.1 = 206 then (if bt268.1 = 206 then (if bt276.1 = 206 then (spencelaw31_ReplyParts.j1 kj8 t258 t259 y287 ((y287.length : Int) != (bt276.2.2.2.2.length : Int)) bt260.1 bt260.2.1 bt260.2.2.1 bt260.2.2.2.1 bt260.2.2.2.2 bt268.1 bt268.2.1 bt268.2.2.1 bt268.2.2.2.1 bt268.2.2.2.2 bt276.1 bt276.2.1 bt276.2.2.1 bt276.2.2.2.1 bt276.2.2.2.2) else (spencelaw31_ReplyParts.j1 kj8 t258 t259 y287 true bt260.1 bt260.2.1 bt260.2.2.1 bt260.2.2.2.1 bt260.2.2.2.2 bt268.1 bt268.2.1 bt268.2.2.1 bt268.2.2.2.1 bt268.2.2.2.2 bt276.1 bt276.2.1 bt276.2.2.1 bt276.2.2.2.1 bt276.2.2.2.2)) else (spencelaw31_ReplyParts.j1 kj8 t258 t259 y287 true bt260.1 bt260.2.1 bt260.2.2.1 bt260.2.2.2.1 bt260.2.2.2.2 bt268.1 bt268.2.1 bt268.2.2.1 bt268.2.2.2.1 bt268.2.2.2.2 bt276.1 bt276.2.1 bt276.2.2.1 bt276.2.2.2.1 bt276.2.2.2.2)) else (spencelaw31_ReplyParts.j1 kj8 t258 t259 y287 true bt260.1 bt260.2.1 bt260.2.2.1 bt260.2.2.2.1 bt260.2.2.2.2 bt268.1 bt268.2.1 bt268.2.2.1 bt268.2.2.2.1 bt268.2.2.2.2 bt276.1 bt276.2.1 bt276.2.2.1 bt276.2.2.2.1 bt276.2.2.2.2))) else (none))) else (none)))))) = some r := by rw [if_neg (show ¬ (false = true) by decide)] at H; exact H
          clear H
          have H := H1
          clear H1
          replace H := Option.bind_eq_some_iff.mp H
          obtain ⟨t259, A160, H⟩ := H
          replace H : ((reply_Of.f kj8 a0 false t259 a2 a3 a1).bind fun bt260 => ((reply_Of.f kj8 a0 false t259 a3 a4 a1).bind fun bt268 => ((reply_Of.f kj8 a0 false t259 a2 a4 a1).bind fun bt276 => (if ([] : List Int).length + bt260.2.2.2.2.length < 140737488355328 then ((some (([] : List Int) ++ bt260.2.2.2.2 : List Int)).bind fun y284 => (if y284.length + bt268.2.2.2.2.length < 140737488355328 then ((some (y284 ++ bt268.2.2.2.2 : List Int)).bind fun y287 => (if bt260.1 = 206 then (if bt268.1 = 206 then (if bt276.1 = 206 then (spencelaw31_ReplyParts.j1 kj8 t258 t259 y287 ((y287.length : Int) != (bt276.2.2.2.2.length : Int)) bt260.1 bt260.2.1 bt260.2.2.1 bt260.2.2.2.1 bt260.2.2.2.2 bt268.1 bt268.2.1 bt268.2.2.1 bt268.2.2.2.1 bt268.2.2.2.2 bt276.1 bt276.2.1 bt276.2.2.1 bt276.2.2.2.1 bt276.2.2.2.2) else (spencelaw31_ReplyParts.j1 kj8 t258 t259 y287 true bt260.1 bt260.2.1 bt260.2.2.1 bt260.2.2.2.1 bt260.2.2.2.2 bt268.1 bt268.2.1 bt268.2.2.1 bt268.2.2.2.1 bt268.2.2.2.2 bt276.1 bt276.2.1 bt276.2.2.1 bt276.2.2.2.1 bt276.2.2.2.2)) else (spencelaw31_ReplyParts.j1 kj8 t258 t259 y287 true bt260.1 bt260.2.1 bt260.2.2.1 bt260.2.2.2.1 bt260.2.2.2.2 bt268.1 bt268.2.1 bt268.2.2.1 bt268.2.2.2.1 bt268.2.2.2.2 bt276.1 bt276.2.1 bt276.2.2.1 bt276.2.2.2.1 bt276.2.2.2.2)) else (spencelaw31_ReplyParts.j1 kj8 t258 t259 y287 true bt260.1 bt260.2.1 bt260.2.2.1 bt260.2.2.2.1 bt260.2.2.2.2 bt268.1 bt268.2.1 bt268.2.2.1 bt268.2.2.2.1 bt268.2.2.2.2 bt276.1 bt276.2.1 bt276.2.2.1 bt276.2.2.2.1 bt276.2.2.2.2))) else (none))) else (none))))) = some r := H
          have A16 := Aside0.mk A160
          clear A160
          replace H := Option.bind_eq_some_iff.mp H
          obtain ⟨⟨t260, t261, t262, t263, t264⟩, A170, H⟩ := H
          replace H : ((reply_Of.f kj8 a0 false t259 a3 a4 a1).bind fun bt268 => ((reply_Of.f kj8 a0 false t259 a2 a4 a1).bind fun bt276 => (if ([] : List Int).length + t264.length < 140737488355328 then ((some (([] : List Int) ++ t264 : List Int)).bind fun y284 => (if y284.length + bt268.2.2.2.2.length < 140737488355328 then ((some (y284 ++ bt268.2.2.2.2 : List Int)).bind fun y287 => (if t260 = 206 then (if bt268.1 = 206 then (if bt276.1 = 206 then (spencelaw31_ReplyParts.j1 kj8 t258 t259 y287 ((y287.length : Int) != (bt276.2.2.2.2.length : Int)) t260 t261 t262 t263 t264 bt268.1 bt268.2.1 bt268.2.2.1 bt268.2.2.2.1 bt268.2.2.2.2 bt276.1 bt276.2.1 bt276.2.2.1 bt276.2.2.2.1 bt276.2.2.2.2) else (spencelaw31_ReplyParts.j1 kj8 t258 t259 y287 true t260 t261 t262 t263 t264 bt268.1 bt268.2.1 bt268.2.2.1 bt268.2.2.2.1 bt268.2.2.2.2 bt276.1 bt276.2.1 bt276.2.2.1 bt276.2.2.2.1 bt276.2.2.2.2)) else (spencelaw31_ReplyParts.j1 kj8 t258 t259 y287 true t260 t261 t262 t263 t264 bt268.1 bt268.2.1 bt268.2.2.1 bt268.2.2.2.1 bt268.2.2.2.2 bt276.1 bt276.2.1 bt276.2.2.1 bt276.2.2.2.1 bt276.2.2.2.2)) else (spencelaw31_ReplyParts.j1 kj8 t258 t259 y287 true t260 t261 t262 t263 t264 bt268.1 bt268.2.1 bt268.2.2.1 bt268.2.2.2.1 bt268.2.2.2.2 bt276.1 bt276.2.1 bt276.2.2.1 bt276.2.2.2.1 bt276.2.2.2.2))) else (none))) else (none)))) = some r := H
          have A17 := Aside0.mk A170
          clear A170
          replace H := Option.bind_eq_some_iff.mp H
          obtain ⟨⟨t268, t269, t270, t271, t272⟩, A180, H⟩ := H
          replace H : ((reply_Of.f kj8 a0 false t259 a2 a4 a1).bind fun bt276 => (if ([] : List Int).length + t264.length < 140737488355328 then ((some (([] : List Int) ++ t264 : List Int)).bind fun y284 => (if y284.length + t272.length < 140737488355328 then ((some (y284 ++ t272 : List Int)).bind fun y287 => (if t260 = 206 then (if t268 = 206 then (if bt276.1 = 206 then (spencelaw31_ReplyParts.j1 kj8 t258 t259 y287 ((y287.length : Int) != (bt276.2.2.2.2.length : Int)) t260 t261 t262 t263 t264 t268 t269 t270 t271 t272 bt276.1 bt276.2.1 bt276.2.2.1 bt276.2.2.2.1 bt276.2.2.2.2) else (spencelaw31_ReplyParts.j1 kj8 t258 t259 y287 true t260 t261 t262 t263 t264 t268 t269 t270 t271 t272 bt276.1 bt276.2.1 bt276.2.2.1 bt276.2.2.2.1 bt276.2.2.2.2)) else (spencelaw31_ReplyParts.j1 kj8 t258 t259 y287 true t260 t261 t262 t263 t264 t268 t269 t270 t271 t272 bt276.1 bt276.2.1 bt276.2.2.1 bt276.2.2.2.1 bt276.2.2.2.2)) else (spencelaw31_ReplyParts.j1 kj8 t258 t259 y287 true t260 t261 t262 t263 t264 t268 t269 t270 t271 t272 bt276.1 bt276.2.1 bt276.2.2.1 bt276.2.2.2.1 bt276.2.2.2.2))) else (none))) else (none))) = some r := H
          have A18 := Aside0.mk A180
          clear A180
          replace H := Option.bind_eq_some_iff.mp H
          obtain ⟨⟨t276, t277, t278, t279, t280⟩, A190, H⟩ := H
          replace H : (if ([] : List Int).length + t264.length < 140737488355328 then ((some (([] : List Int) ++ t264 : List Int)).bind fun y284 => (if y284.length + t272.length < 140737488355328 then ((some (y284 ++ t272 : List Int)).bind fun y287 => (if t260 = 206 then (if t268 = 206 then (if t276 = 206 then (spencelaw31_ReplyParts.j1 kj8 t258 t259 y287 ((y287.length : Int) != (t280.length : Int)) t260 t261 t262 t263 t264 t268 t269 t270 t271 t272 t276 t277 t278 t279 t280) else (spencelaw31_ReplyParts.j1 kj8 t258 t259 y287 true t260 t261 t262 t263 t264 t268 t269 t270 t271 t272 t276 t277 t278 t279 t280)) else (spencelaw31_ReplyParts.j1 kj8 t258 t259 y287 true t260 t261 t262 t263 t264 t268 t269 t270 t271 t272 t276 t277 t278 t279 t280)) else (spencelaw31_ReplyParts.j1 kj8 t258 t259 y287 true t260 t261 t262 t263 t264 t268 t269 t270 t271 t272 t276 t277 t278 t279 t280))) else (none))) else (none)) = some r := H
          have A19 := Aside0.mk A190
          clear A190
          by_cases c20 : ([] : List Int).length + t264.length < 140737488355328
          · rw [if_pos c20] at H
            have LMc20 := Aside0.mk c20
            clear c20
            obtain ⟨y284, hy284⟩ : ∃ y_ : List Int, y_ = (([] : List Int) ++ t264) := ⟨_, rfl⟩
            replace H : (if y284.length + t272.length < 140737488355328 then ((some (y284 ++ t272 : List Int)).bind fun y287 => (if t260 = 206 then (if t268 = 206 then (if t276 = 206 then (spencelaw31_ReplyParts.j1 kj8 t258 t259 y287 ((y287.length : Int) != (t280.length : Int)) t260 t261 t262 t263 t264 t268 t269 t270 t271 t272 t276 t277 t278 t279 t280) else (spencelaw31_ReplyParts.j1 kj8 t258 t259 y287 true t260 t261 t262 t263 t264 t268 t269 t270 t271 t272 t276 t277 t278 t279 t280)) else (spencelaw31_ReplyParts.j1 kj8 t258 t259 y287 true t260 t261 t262 t263 t264 t268 t269 t270 t271 t272 t276 t277 t278 t279 t280)) else (spencelaw31_ReplyParts.j1 kj8 t258 t259 y287 true t260 t261 t262 t263 t264 t268 t269 t270 t271 t272 t276 t277 t278 t279 t280))) else (none)) = some r := by first | (rw [hy284]; with_reducible exact H) | (have H2_ := (Option.bind_some _ _).symm.trans H; rw [hy284]; with_reducible exact H2_) | (have H2_ := (Option.bind_some _ _).symm.trans H; with_reducible exact H2_) | with_reducible exact H | (rw [hy284]; exact H) | exact H
            have Ny284 := Aside0.mk hy284
            clear hy284
            by_cases c21 : y284.length + t272.length < 140737488355328
            · rw [if_pos c21] at H
              have LMc21 := Aside0.mk c21
              clear c21
              obtain ⟨y287, hy287⟩ : ∃ y_ : List Int, y_ = (y284 ++ t272) := ⟨_, rfl⟩
              replace H : (if t260 = 206 then (if t268 = 206 then (if t276 = 206 then (spencelaw31_ReplyParts.j1 kj8 t258 t259 y287 ((y287.length : Int) != (t280.length : Int)) t260 t261 t262 t263 t264 t268 t269 t270 t271 t272 t276 t277 t278 t279 t280) else (spencelaw31_ReplyParts.j1 kj8 t258 t259 y287 true t260 t261 t262 t263 t264 t268 t269 t270 t271 t272 t276 t277 t278 t279 t280)) else (spencelaw31_ReplyParts.j1 kj8 t258 t259 y287 true t260 t261 t262 t263 t264 t268 t269 t270 t271 t272 t276 t277 t278 t279 t280)) else (spencelaw31_ReplyParts.j1 kj8 t258 t259 y287 true t260 t261 t262 t263 t264 t268 t269 t270 t271 t272 t276 t277 t278 t279 t280)) = some r := by first | (rw [hy287]; with_reducible exact H) | (have H2_ := (Option.bind_some _ _).symm.trans H; rw [hy287]; with_reducible exact H2_) | (have H2_ := (Option.bind_some _ _).symm.trans H; with_reducible exact H2_) | with_reducible exact H | (rw [hy287]; exact H) | exact H
              have Ny287 := Aside0.mk hy287
              clear hy287
              have HC22 := Aside0.mk H
              clear H
              try go_wp2_with (first | ((with_reducible refine gate_callee (f := 14) rfl ?_); refine goesL_ (some 46) rfl rfl Try.func14 (by kernel_rfl) rfl #[.int .i64 a0, .int .i64 a1] rfl (by (try simp only [List.map_toArray, List.map_cons, List.map_nil]); first | done | rfl | (simp only [List.length_drop, List.length_take]; rfl)) ?_; (with_reducible refine (spenceref24_Tag.calls kj8 a0 a1 t259 _ A16.out).mono ?_); rintro e w23 ⟨rfl, hb⟩; refine ⟨_, rfl, ?_⟩; have n0_ := Aside0.mk (below_step (by repeat (first | (with_reducible first | exact HB.out | apply below_alloc | apply pw_below_drewN | apply below_drew1) | exact HB.out)) hb); clear HB; have HB := n0_; clear n0_; (try clear hb); (try clear hb2); (try clear hk); (try clear hi)) | ((with_reducible refine gate_callee (f := 38) rfl ?_); refine goesL_ (some 54) rfl rfl Try.func38 (by kernel_rfl) rfl #[.agg #[.int .i64 a0, .bool false, .string t259, .int .i64 a2, .int .i64 a3], .int .i64 a1] rfl (by (try simp only [List.map_toArray, List.map_cons, List.map_nil]); first | done | rfl | (simp only [List.length_drop, List.length_take]; rfl)) ?_; (with_reducible refine (reply_Of.calls kj8 a0 false t259 a2 a3 a1 t260 t261 t262 t263 t264 _ A17.out).mono ?_); rintro e w24 ⟨v265, rfl, ho0, hb⟩; refine ⟨_, rfl, ?_⟩; have n0_ := Aside0.mk (Kd.R_lower ho0 (below_size (by repeat (first | (with_reducible first | exact HB.out | apply below_alloc | apply pw_below_drewN | apply below_drew1) | exact HB.out)))); have n1_ := Aside0.mk (below_step (by repeat (first | (with_reducible first | exact HB.out | apply below_alloc | apply pw_below_drewN | apply below_drew1) | exact HB.out)) hb); clear HB; have HO266 := n0_; have HB := n1_; clear n0_ n1_; (try clear hb); (try clear hb2); (try clear hk); (try clear hi); (try clear ho0)) | ((with_reducible refine gate_dst (N := 13) rfl ?_); (try (refine gate_guard (by rfl) ?_; dsimp only)); refine box_event ?hg (N := 13) ?hd (cs := #[.int .i64 0, .string (⟨#[]⟩ : ByteArray), .int .i64 0, .string (⟨#[]⟩ : ByteArray), .slice none 0 0]) (t := 64) ?hr ?_; (case hd => rfl); (case hg => rfl); (case hr => first | (go_simp; done) | (go_simp; rfl)); intro gb267 hg w25 hbox hb; have n0_ := Aside0.mk (Kd.R_below (by (with_reducible repeat (first | apply Kd.R_alloc | apply Kd.R_drewN | apply Kd.R_drew)); exact HO266.out) hb); have n1_ := Aside0.mk (below_step (by repeat (first | (with_reducible first | exact HB.out | apply below_alloc | apply pw_below_drewN | apply below_drew1) | exact HB.out)) hb); have n2_ := Aside0.mk (hbox); have n3_ := Aside0.mk ((by rw [hg]; exact (below_size (by repeat (first | (with_reducible first | exact HB.out | apply below_alloc | apply pw_below_drewN | apply below_drew1) | exact HB.out))) : w.heap.size ≤ gb267)); have n4_ := Aside0.mk ((by rw [hg]; exact (below_size (by repeat (first | (with_reducible first | exact HB.out | apply below_alloc | apply pw_below_drewN | apply below_drew1) | exact HB.out))) : w.heap.size ≤ gb267)); clear HO266; clear HB; have HO266 := n0_; have HB := n1_; have BK267 := n2_; have GW267 := n3_; have GE267 := n4_; clear n0_ n1_ n2_ n3_ n4_; clear hb hbox hg; have hcz26_0 : w25.cell? ⟨gb267, 0, none⟩ = some (.int .i64 0) := (blk_cell BK267.out 0).trans rfl; have hcz26_1 : w25.cell? ⟨gb267, 1, none⟩ = some (.string (⟨#[]⟩ : ByteArray)) := (blk_cell BK267.out 1).trans rfl; have hcz26_2 : w25.cell? ⟨gb267, 2, none⟩ = some (.int .i64 0) := (blk_cell BK267.out 2).trans rfl; have hcz26_3 : w25.cell? ⟨gb267, 3, none⟩ = some (.string (⟨#[]⟩ : ByteArray)) := (blk_cell BK267.out 3).trans rfl; have hcz26_4 : w25.cell? ⟨gb267, 4, none⟩ = some (.slice none 0 0) := (blk_cell BK267.out 4).trans rfl; have hfz26_0 := blk_frozen BK267.out 0; have hfz26_1 := blk_frozen BK267.out 1; have hfz26_2 := blk_frozen BK267.out 2; have hfz26_3 := blk_frozen BK267.out 3; have hfz26_4 := blk_frozen BK267.out 4; obtain ⟨Ao27, co27, eo27⟩ := Kd.R_slice HO266.out; subst eo27) | ((with_reducible refine gate_callee (f := 38) rfl ?_); refine goesL_ (some 62) rfl rfl Try.func38 (by kernel_rfl) rfl #[.agg #[.int .i64 a0, .bool false, .string t259, .int .i64 a3, .int .i64 a4], .int .i64 a1] rfl (by (try simp only [List.map_toArray, List.map_cons, List.map_nil]); first | done | rfl | (simp only [List.length_drop, List.length_take]; rfl)) ?_; (with_reducible refine (reply_Of.calls kj8 a0 false t259 a3 a4 a1 t268 t269 t270 t271 t272 _ A18.out).mono ?_); rintro e w28 ⟨v273, rfl, ho0, hb⟩; refine ⟨_, rfl, ?_⟩; have n0_ := Aside0.mk (Kd.R_elder' (by (with_reducible repeat (first | apply Kd.R_alloc | apply Kd.R_drewN | apply Kd.R_drew)); exact (Kd.R_mono (Kd.R_far (p := ⟨gb267, 4, none⟩) (Kd.R_far (p := ⟨gb267, 3, none⟩) (Kd.R_far (p := ⟨gb267, 2, none⟩) (Kd.R_far (p := ⟨gb267, 1, none⟩) (Kd.R_far (p := ⟨gb267, 0, none⟩) (Kd.R_types HO266.out BK267.out (by decide)) (fun _ hk => hk.2) (.int .i64 t260)) (fun _ hk => hk.2) (.string t261)) (fun _ hk => hk.2) (.int .i64 t262)) (fun _ hk => hk.2) (.string t263)) (fun _ hk => hk.2) (.slice Ao27 t264.length co27)) (fun _ h_ => h_.1))) (Kd.R_base ho0) hb); have n1_ := Aside0.mk (Kd.R_lower (Kd.R_new' ho0 (Kd.R_lt (by (with_reducible repeat (first | apply Kd.R_alloc | apply Kd.R_drewN | apply Kd.R_drew)); exact (Kd.R_mono (Kd.R_far (p := ⟨gb267, 4, none⟩) (Kd.R_far (p := ⟨gb267, 3, none⟩) (Kd.R_far (p := ⟨gb267, 2, none⟩) (Kd.R_far (p := ⟨gb267, 1, none⟩) (Kd.R_far (p := ⟨gb267, 0, none⟩) (Kd.R_types HO266.out BK267.out (by decide)) (fun _ hk => hk.2) (.int .i64 t260)) (fun _ hk => hk.2) (.string t261)) (fun _ hk => hk.2) (.int .i64 t262)) (fun _ hk => hk.2) (.string t263)) (fun _ hk => hk.2) (.slice Ao27 t264.length co27)) (fun _ h_ => h_.1))))) (below_size (by repeat (first | (with_reducible first | exact HB.out | apply below_alloc | apply pw_below_drewN | apply below_drew1 | refine below_set ?_ GE267.out) | exact HB.out)))); have n2_ := Aside0.mk (blk_below (g := gb267) (o := .cells #[.int .i64 t260, .string t261, .int .i64 t262, .string t263, .slice Ao27 t264.length co27] 64 (0, 0)) (by (with_reducible repeat (first | refine blk_drewN ?_ _ | refine blk_drew ?_ | refine blk_alloc ?_ _)); refine blk_put (cs := #[.int .i64 t260, .string t261, .int .i64 t262, .string t263, .slice none 0 0]) ?_ 4 _ rfl; (with_reducible repeat (first | refine blk_drewN ?_ _ | refine blk_drew ?_ | refine blk_alloc ?_ _)); refine blk_put (cs := #[.int .i64 t260, .string t261, .int .i64 t262, .string (⟨#[]⟩ : ByteArray), .slice none 0 0]) ?_ 3 _ rfl; (with_reducible repeat (first | refine blk_drewN ?_ _ | refine blk_drew ?_ | refine blk_alloc ?_ _)); refine blk_put (cs := #[.int .i64 t260, .string t261, .int .i64 0, .string (⟨#[]⟩ : ByteArray), .slice none 0 0]) ?_ 2 _ rfl; (with_reducible repeat (first | refine blk_drewN ?_ _ | refine blk_drew ?_ | refine blk_alloc ?_ _)); refine blk_put (cs := #[.int .i64 t260, .string (⟨#[]⟩ : ByteArray), .int .i64 0, .string (⟨#[]⟩ : ByteArray), .slice none 0 0]) ?_ 1 _ rfl; (with_reducible repeat (first | refine blk_drewN ?_ _ | refine blk_drew ?_ | refine blk_alloc ?_ _)); refine blk_put (cs := #[.int .i64 0, .string (⟨#[]⟩ : ByteArray), .int .i64 0, .string (⟨#[]⟩ : ByteArray), .slice none 0 0]) ?_ 0 _ rfl; (with_reducible repeat (first | refine blk_drewN ?_ _ | refine blk_drew ?_ | refine blk_alloc ?_ _)); exact BK267.out) hb); have n3_ := Aside0.mk (below_step (by repeat (first | (with_reducible first | exact HB.out | apply below_alloc | apply pw_below_drewN | apply below_drew1 | refine below_set ?_ GE267.out) | exact HB.out)) hb); clear HO266; clear BK267; clear HB; have HO266 := n0_; have HO274 := n1_; have BK267 := n2_; have HB := n3_; clear n0_ n1_ n2_ n3_; (try clear hb); (try clear hb2); (try clear hk); (try clear hi); (try clear ho0)) | ((with_reducible refine gate_dst (N := 14) rfl ?_); (try (refine gate_guard (by rfl) ?_; dsimp only)); refine box_event ?hg (N := 14) ?hd (cs := #[.int .i64 0, .string (⟨#[]⟩ : ByteArray), .int .i64 0, .string (⟨#[]⟩ : ByteArray), .slice none 0 0]) (t := 64) ?hr ?_; (case hd => rfl); (case hg => rfl); (case hr => first | (go_simp; done) | (go_simp; rfl)); intro gb275 hg w29 hbox hb; have n0_ := Aside0.mk (Kd.R_below (by (with_reducible repeat (first | apply Kd.R_alloc | apply Kd.R_drewN | apply Kd.R_drew)); exact HO266.out) hb); have n1_ := Aside0.mk (Kd.R_below (by (with_reducible repeat (first | apply Kd.R_alloc | apply Kd.R_drewN | apply Kd.R_drew)); exact HO274.out) hb); have n2_ := Aside0.mk (blk_below (g := gb267) (o := .cells #[.int .i64 t260, .string t261, .int .i64 t262, .string t263, .slice Ao27 t264.length co27] 64 (0, 0)) (by (with_reducible repeat (first | refine blk_drewN ?_ _ | refine blk_drew ?_ | refine blk_alloc ?_ _)); exact BK267.out) hb); have n3_ := Aside0.mk (below_step (by repeat (first | (with_reducible first | exact HB.out | apply below_alloc | apply pw_below_drewN | apply below_drew1 | refine below_set ?_ GE267.out) | exact HB.out)) hb); have n4_ := Aside0.mk (hbox); have n5_ := Aside0.mk ((by rw [hg]; exact (below_size (by repeat (first | (with_reducible first | exact HB.out | apply below_alloc | apply pw_below_drewN | apply below_drew1 | refine below_set ?_ GE267.out) | exact HB.out))) : w.heap.size ≤ gb275)); have n6_ := Aside0.mk ((by rw [hg]; exact (below_size (by repeat (first | (with_reducible first | exact HB.out | apply below_alloc | apply pw_below_drewN | apply below_drew1 | refine below_set ?_ GE267.out) | exact HB.out))) : w.heap.size ≤ gb275)); have n7_ := Aside0.mk ((by rw [hg]; exact Nat.ne_of_lt (blk_lt (g := gb267) (o := .cells #[.int .i64 t260, .string t261, .int .i64 t262, .string t263, .slice Ao27 t264.length co27] 64 (0, 0)) (by (with_reducible repeat (first | refine blk_drewN ?_ _ | refine blk_drew ?_ | refine blk_alloc ?_ _)); exact BK267.out)) : gb267 ≠ gb275)); have n8_ := Aside0.mk ((by rw [hg]; exact Nat.ne_of_gt (blk_lt (g := gb267) (o := .cells #[.int .i64 t260, .string t261, .int .i64 t262, .string t263, .slice Ao27 t264.length co27] 64 (0, 0)) (by (with_reducible repeat (first | refine blk_drewN ?_ _ | refine blk_drew ?_ | refine blk_alloc ?_ _)); exact BK267.out)) : gb275 ≠ gb267)); clear HO266; clear HO274; clear BK267; clear HB; have HO266 := n0_; have HO274 := n1_; have BK267 := n2_; have HB := n3_; have BK275 := n4_; have GW275 := n5_; have GE275 := n6_; have NB267_275 := n7_; have NB275_267 := n8_; clear n0_ n1_ n2_ n3_ n4_ n5_ n6_ n7_ n8_; clear hb hbox hg; have hnb30 := NB275_267.out; have hnc30 := NB267_275.out; have hcz31_0 : w29.cell? ⟨gb275, 0, none⟩ = some (.int .i64 0) := (blk_cell BK275.out 0).trans rfl; have hcz31_1 : w29.cell? ⟨gb275, 1, none⟩ = some (.string (⟨#[]⟩ : ByteArray)) := (blk_cell BK275.out 1).trans rfl; have hcz31_2 : w29.cell? ⟨gb275, 2, none⟩ = some (.int .i64 0) := (blk_cell BK275.out 2).trans rfl; have hcz31_3 : w29.cell? ⟨gb275, 3, none⟩ = some (.string (⟨#[]⟩ : ByteArray)) := (blk_cell BK275.out 3).trans rfl; have hcz31_4 : w29.cell? ⟨gb275, 4, none⟩ = some (.slice none 0 0) := (blk_cell BK275.out 4).trans rfl; have hfz31_0 := blk_frozen BK275.out 0; have hfz31_1 := blk_frozen BK275.out 1; have hfz31_2 := blk_frozen BK275.out 2; have hfz31_3 := blk_frozen BK275.out 3; have hfz31_4 := blk_frozen BK275.out 4; obtain ⟨Ao32, co32, eo32⟩ := Kd.R_slice HO274.out; subst eo32) | ((with_reducible refine gate_callee (f := 38) rfl ?_); refine goesL_ (some 70) rfl rfl Try.func38 (by kernel_rfl) rfl #[.agg #[.int .i64 a0, .bool false, .string t259, .int .i64 a2, .int .i64 a4], .int .i64 a1] rfl (by (try simp only [List.map_toArray, List.map_cons, List.map_nil]); first | done | rfl | (simp only [List.length_drop, List.length_take]; rfl)) ?_; (with_reducible refine (reply_Of.calls kj8 a0 false t259 a2 a4 a1 t276 t277 t278 t279 t280 _ A19.out).mono ?_); rintro e w33 ⟨v281, rfl, ho0, hb⟩; refine ⟨_, rfl, ?_⟩; have n0_ := Aside0.mk (Kd.R_elder' (by (with_reducible repeat (first | apply Kd.R_alloc | apply Kd.R_drewN | apply Kd.R_drew)); exact (Kd.R_mono (Kd.R_far (p := ⟨gb275, 4, none⟩) (Kd.R_far (p := ⟨gb275, 3, none⟩) (Kd.R_far (p := ⟨gb275, 2, none⟩) (Kd.R_far (p := ⟨gb275, 1, none⟩) (Kd.R_far (p := ⟨gb275, 0, none⟩) (Kd.R_types HO266.out BK275.out (by decide)) (fun _ hk => hk.2) (.int .i64 t268)) (fun _ hk => hk.2) (.string t269)) (fun _ hk => hk.2) (.int .i64 t270)) (fun _ hk => hk.2) (.string t271)) (fun _ hk => hk.2) (.slice Ao32 t272.length co32)) (fun _ h_ => h_.1))) (Kd.R_base ho0) hb); have n1_ := Aside0.mk (Kd.R_elder' (by (with_reducible repeat (first | apply Kd.R_alloc | apply Kd.R_drewN | apply Kd.R_drew)); exact (Kd.R_mono (Kd.R_far (p := ⟨gb275, 4, none⟩) (Kd.R_far (p := ⟨gb275, 3, none⟩) (Kd.R_far (p := ⟨gb275, 2, none⟩) (Kd.R_far (p := ⟨gb275, 1, none⟩) (Kd.R_far (p := ⟨gb275, 0, none⟩) (Kd.R_types HO274.out BK275.out (by decide)) (fun _ hk => hk.2) (.int .i64 t268)) (fun _ hk => hk.2) (.string t269)) (fun _ hk => hk.2) (.int .i64 t270)) (fun _ hk => hk.2) (.string t271)) (fun _ hk => hk.2) (.slice Ao32 t272.length co32)) (fun _ h_ => h_.1))) (Kd.R_base ho0) hb); have n2_ := Aside0.mk (Kd.R_lower (Kd.R_new' (Kd.R_new' ho0 (Kd.R_lt (by (with_reducible repeat (first | apply Kd.R_alloc | apply Kd.R_drewN | apply Kd.R_drew)); exact (Kd.R_mono (Kd.R_far (p := ⟨gb275, 4, none⟩) (Kd.R_far (p := ⟨gb275, 3, none⟩) (Kd.R_far (p := ⟨gb275, 2, none⟩) (Kd.R_far (p := ⟨gb275, 1, none⟩) (Kd.R_far (p := ⟨gb275, 0, none⟩) (Kd.R_types HO266.out BK275.out (by decide)) (fun _ hk => hk.2) (.int .i64 t268)) (fun _ hk => hk.2) (.string t269)) (fun _ hk => hk.2) (.int .i64 t270)) (fun _ hk => hk.2) (.string t271)) (fun _ hk => hk.2) (.slice Ao32 t272.length co32)) (fun _ h_ => h_.1))))) (Kd.R_lt (by (with_reducible repeat (first | apply Kd.R_alloc | apply Kd.R_drewN | apply Kd.R_drew)); exact (Kd.R_mono (Kd.R_far (p := ⟨gb275, 4, none⟩) (Kd.R_far (p := ⟨gb275, 3, none⟩) (Kd.R_far (p := ⟨gb275, 2, none⟩) (Kd.R_far (p := ⟨gb275, 1, none⟩) (Kd.R_far (p := ⟨gb275, 0, none⟩) (Kd.R_types HO274.out BK275.out (by decide)) (fun _ hk => hk.2) (.int .i64 t268)) (fun _ hk => hk.2) (.string t269)) (fun _ hk => hk.2) (.int .i64 t270)) (fun _ hk => hk.2) (.string t271)) (fun _ hk => hk.2) (.slice Ao32 t272.length co32)) (fun _ h_ => h_.1))))) (below_size (by repeat (first | (with_reducible first | exact HB.out | apply below_alloc | apply pw_below_drewN | apply below_drew1 | refine below_set ?_ GE267.out | refine below_set ?_ GE275.out) | exact HB.out)))); have n3_ := Aside0.mk (blk_below (g := gb267) (o := .cells #[.int .i64 t260, .string t261, .int .i64 t262, .string t263, .slice Ao27 t264.length co27] 64 (0, 0)) (by (with_reducible repeat (first | refine blk_drewN ?_ _ | refine blk_drew ?_ | refine blk_alloc ?_ _)); refine blk_far ?_ NB267_275.out _; (with_reducible repeat (first | refine blk_drewN ?_ _ | refine blk_drew ?_ | refine blk_alloc ?_ _)); refine blk_far ?_ NB267_275.out _; (with_reducible repeat (first | refine blk_drewN ?_ _ | refine blk_drew ?_ | refine blk_alloc ?_ _)); refine blk_far ?_ NB267_275.out _; (with_reducible repeat (first | refine blk_drewN ?_ _ | refine blk_drew ?_ | refine blk_alloc ?_ _)); refine blk_far ?_ NB267_275.out _; (with_reducible repeat (first | refine blk_drewN ?_ _ | refine blk_drew ?_ | refine blk_alloc ?_ _)); refine blk_far ?_ NB267_275.out _; (with_reducible repeat (first | refine blk_drewN ?_ _ | refine blk_drew ?_ | refine blk_alloc ?_ _)); exact BK267.out) hb); have n4_ := Aside0.mk (blk_below (g := gb275) (o := .cells #[.int .i64 t268, .string t269, .int .i64 t270, .string t271, .slice Ao32 t272.length co32] 64 (0, 0)) (by (with_reducible repeat (first | refine blk_drewN ?_ _ | refine blk_drew ?_ | refine blk_alloc ?_ _)); refine blk_put (cs := #[.int .i64 t268, .string t269, .int .i64 t270, .string t271, .slice none 0 0]) ?_ 4 _ rfl; (with_reducible repeat (first | refine blk_drewN ?_ _ | refine blk_drew ?_ | refine blk_alloc ?_ _)); refine blk_put (cs := #[.int .i64 t268, .string t269, .int .i64 t270, .string (⟨#[]⟩ : ByteArray), .slice none 0 0]) ?_ 3 _ rfl; (with_reducible repeat (first | refine blk_drewN ?_ _ | refine blk_drew ?_ | refine blk_alloc ?_ _)); refine blk_put (cs := #[.int .i64 t268, .string t269, .int .i64 0, .string (⟨#[]⟩ : ByteArray), .slice none 0 0]) ?_ 2 _ rfl; (with_reducible repeat (first | refine blk_drewN ?_ _ | refine blk_drew ?_ | refine blk_alloc ?_ _)); refine blk_put (cs := #[.int .i64 t268, .string (⟨#[]⟩ : ByteArray), .int .i64 0, .string (⟨#[]⟩ : ByteArray), .slice none 0 0]) ?_ 1 _ rfl; (with_reducible repeat (first | refine blk_drewN ?_ _ | refine blk_drew ?_ | refine blk_alloc ?_ _)); refine blk_put (cs := #[.int .i64 0, .string (⟨#[]⟩ : ByteArray), .int .i64 0, .string (⟨#[]⟩ : ByteArray), .slice none 0 0]) ?_ 0 _ rfl; (with_reducible repeat (first | refine blk_drewN ?_ _ | refine blk_drew ?_ | refine blk_alloc ?_ _)); exact BK275.out) hb); have n5_ := Aside0.mk (below_step (by repeat (first | (with_reducible first | exact HB.out | apply below_alloc | apply pw_below_drewN | apply below_drew1 | refine below_set ?_ GE267.out | refine below_set ?_ GE275.out) | exact HB.out)) hb); clear HO266; clear HO274; clear BK267; clear BK275; clear HB; have HO266 := n0_; have HO274 := n1_; have HO282 := n2_; have BK267 := n3_; have BK275 := n4_; have HB := n5_; clear n0_ n1_ n2_ n3_ n4_ n5_; (try clear hb); (try clear hb2); (try clear hk); (try clear hi); (try clear ho0)) | ((with_reducible refine gate_dst (N := 15) rfl ?_); (try (refine gate_guard (by rfl) ?_; dsimp only)); refine box_event ?hg (N := 15) ?hd (cs := #[.int .i64 0, .string (⟨#[]⟩ : ByteArray), .int .i64 0, .string (⟨#[]⟩ : ByteArray), .slice none 0 0]) (t := 64) ?hr ?_; (case hd => rfl); (case hg => rfl); (case hr => first | (go_simp; done) | (go_simp; rfl)); intro gb283 hg w34 hbox hb; have n0_ := Aside0.mk (Kd.R_below (by (with_reducible repeat (first | apply Kd.R_alloc | apply Kd.R_drewN | apply Kd.R_drew)); exact HO266.out) hb); have n1_ := Aside0.mk (Kd.R_below (by (with_reducible repeat (first | apply Kd.R_alloc | apply Kd.R_drewN | apply Kd.R_drew)); exact HO274.out) hb); have n2_ := Aside0.mk (Kd.R_below (by (with_reducible repeat (first | apply Kd.R_alloc | apply Kd.R_drewN | apply Kd.R_drew)); exact HO282.out) hb); have n3_ := Aside0.mk (blk_below (g := gb267) (o := .cells #[.int .i64 t260, .string t261, .int .i64 t262, .string t263, .slice Ao27 t264.length co27] 64 (0, 0)) (by (with_reducible repeat (first | refine blk_drewN ?_ _ | refine blk_drew ?_ | refine blk_alloc ?_ _)); exact BK267.out) hb); have n4_ := Aside0.mk (blk_below (g := gb275) (o := .cells #[.int .i64 t268, .string t269, .int .i64 t270, .string t271, .slice Ao32 t272.length co32] 64 (0, 0)) (by (with_reducible repeat (first | refine blk_drewN ?_ _ | refine blk_drew ?_ | refine blk_alloc ?_ _)); exact BK275.out) hb); have n5_ := Aside0.mk (below_step (by repeat (first | (with_reducible first | exact HB.out | apply below_alloc | apply pw_below_drewN | apply below_drew1 | refine below_set ?_ GE267.out | refine below_set ?_ GE275.out) | exact HB.out)) hb); have n6_ := Aside0.mk (hbox); have n7_ := Aside0.mk ((by rw [hg]; exact (below_size (by repeat (first | (with_reducible first | exact HB.out | apply below_alloc | apply pw_below_drewN | apply below_drew1 | refine below_set ?_ GE267.out | refine below_set ?_ GE275.out) | exact HB.out))) : w.heap.size ≤ gb283)); have n8_ := Aside0.mk ((by rw [hg]; exact (below_size (by repeat (first | (with_reducible first | exact HB.out | apply below_alloc | apply pw_below_drewN | apply below_drew1 | refine below_set ?_ GE267.out | refine below_set ?_ GE275.out) | exact HB.out))) : w.heap.size ≤ gb283)); have n9_ := Aside0.mk ((by rw [hg]; exact Nat.ne_of_lt (blk_lt (g := gb267) (o := .cells #[.int .i64 t260, .string t261, .int .i64 t262, .string t263, .slice Ao27 t264.length co27] 64 (0, 0)) (by (with_reducible repeat (first | refine blk_drewN ?_ _ | refine blk_drew ?_ | refine blk_alloc ?_ _)); exact BK267.out)) : gb267 ≠ gb283)); have n10_ := Aside0.mk ((by rw [hg]; exact Nat.ne_of_gt (blk_lt (g := gb267) (o := .cells #[.int .i64 t260, .string t261, .int .i64 t262, .string t263, .slice Ao27 t264.length co27] 64 (0, 0)) (by (with_reducible repeat (first | refine blk_drewN ?_ _ | refine blk_drew ?_ | refine blk_alloc ?_ _)); exact BK267.out)) : gb283 ≠ gb267)); have n11_ := Aside0.mk ((by rw [hg]; exact Nat.ne_of_lt (blk_lt (g := gb275) (o := .cells #[.int .i64 t268, .string t269, .int .i64 t270, .string t271, .slice Ao32 t272.length co32] 64 (0, 0)) (by (with_reducible repeat (first | refine blk_drewN ?_ _ | refine blk_drew ?_ | refine blk_alloc ?_ _)); exact BK275.out)) : gb275 ≠ gb283)); have n12_ := Aside0.mk ((by rw [hg]; exact Nat.ne_of_gt (blk_lt (g := gb275) (o := .cells #[.int .i64 t268, .string t269, .int .i64 t270, .string t271, .slice Ao32 t272.length co32] 64 (0, 0)) (by (with_reducible repeat (first | refine blk_drewN ?_ _ | refine blk_drew ?_ | refine blk_alloc ?_ _)); exact BK275.out)) : gb283 ≠ gb275)); clear HO266; clear HO274; clear HO282; clear BK267; clear BK275; clear HB; have HO266 := n0_; have HO274 := n1_; have HO282 := n2_; have BK267 := n3_; have BK275 := n4_; have HB := n5_; have BK283 := n6_; have GW283 := n7_; have GE283 := n8_; have NB267_283 := n9_; have NB283_267 := n10_; have NB275_283 := n11_; have NB283_275 := n12_; clear n0_ n1_ n2_ n3_ n4_ n5_ n6_ n7_ n8_ n9_ n10_ n11_ n12_; clear hb hbox hg; have hnb35 := NB283_267.out; have hnc35 := NB267_283.out; have hnb36 := NB283_275.out; have hnc36 := NB275_283.out; have hcz37_0 : w34.cell? ⟨gb283, 0, none⟩ = some (.int .i64 0) := (blk_cell BK283.out 0).trans rfl; have hcz37_1 : w34.cell? ⟨gb283, 1, none⟩ = some (.string (⟨#[]⟩ : ByteArray)) := (blk_cell BK283.out 1).trans rfl; have hcz37_2 : w34.cell? ⟨gb283, 2, none⟩ = some (.int .i64 0) := (blk_cell BK283.out 2).trans rfl; have hcz37_3 : w34.cell? ⟨gb283, 3, none⟩ = some (.string (⟨#[]⟩ : ByteArray)) := (blk_cell BK283.out 3).trans rfl; have hcz37_4 : w34.cell? ⟨gb283, 4, none⟩ = some (.slice none 0 0) := (blk_cell BK283.out 4).trans rfl; have hfz37_0 := blk_frozen BK283.out 0; have hfz37_1 := blk_frozen BK283.out 1; have hfz37_2 := blk_frozen BK283.out 2; have hfz37_3 := blk_frozen BK283.out 3; have hfz37_4 := blk_frozen BK283.out 4; obtain ⟨Ao38, co38, eo38⟩ := Kd.R_slice HO282.out; subst eo38))
              have n0_ : Aside0 (Kd.R (Kd.int .u8) 5 (((((w34.setCell ⟨gb283, 0, none⟩ (.int .i64 t276)).setCell ⟨gb283, 1, none⟩ (.string t277)).setCell ⟨gb283, 2, none⟩ (.int .i64 t278)).setCell ⟨gb283, 3, none⟩ (.string t279)).setCell ⟨gb283, 4, none⟩ (.slice Ao38 t280.length co38)) w.heap.size (fun k_ => some k_ ≠ (.slice Ao32 t272.length co32 : Value).ownBlock ∧ some k_ ≠ (.slice Ao38 t280.length co38 : Value).ownBlock) (.slice Ao27 t264.length co27) t264) := ⟨by (with_reducible repeat (first | apply Kd.R_alloc | apply Kd.R_drewN | apply Kd.R_drew)); exact Kd.R_mono (Kd.R_far (p := ⟨gb283, 4, none⟩) (Kd.R_far (p := ⟨gb283, 3, none⟩) (Kd.R_far (p := ⟨gb283, 2, none⟩) (Kd.R_far (p := ⟨gb283, 1, none⟩) (Kd.R_far (p := ⟨gb283, 0, none⟩) (Kd.R_types HO266.out BK283.out (by decide)) (fun _ hk => hk.2) (.int .i64 t276)) (fun _ hk => hk.2) (.string t277)) (fun _ hk => hk.2) (.int .i64 t278)) (fun _ hk => hk.2) (.string t279)) (fun _ hk => hk.2) (.slice Ao38 t280.length co38)) (fun _ hk => ⟨hk.1.1.2, hk.1.2⟩)⟩
              have n1_ : Aside0 (Kd.R (Kd.int .u8) 5 (((((w34.setCell ⟨gb283, 0, none⟩ (.int .i64 t276)).setCell ⟨gb283, 1, none⟩ (.string t277)).setCell ⟨gb283, 2, none⟩ (.int .i64 t278)).setCell ⟨gb283, 3, none⟩ (.string t279)).setCell ⟨gb283, 4, none⟩ (.slice Ao38 t280.length co38)) w.heap.size (fun k_ => some k_ ≠ (.slice Ao27 t264.length co27 : Value).ownBlock ∧ some k_ ≠ (.slice Ao38 t280.length co38 : Value).ownBlock) (.slice Ao32 t272.length co32) t272) := ⟨by (with_reducible repeat (first | apply Kd.R_alloc | apply Kd.R_drewN | apply Kd.R_drew)); exact Kd.R_mono (Kd.R_far (p := ⟨gb283, 4, none⟩) (Kd.R_far (p := ⟨gb283, 3, none⟩) (Kd.R_far (p := ⟨gb283, 2, none⟩) (Kd.R_far (p := ⟨gb283, 1, none⟩) (Kd.R_far (p := ⟨gb283, 0, none⟩) (Kd.R_types HO274.out BK283.out (by decide)) (fun _ hk => hk.2) (.int .i64 t276)) (fun _ hk => hk.2) (.string t277)) (fun _ hk => hk.2) (.int .i64 t278)) (fun _ hk => hk.2) (.string t279)) (fun _ hk => hk.2) (.slice Ao38 t280.length co38)) (fun _ hk => ⟨hk.1.1.2, hk.1.2⟩)⟩
              have n2_ : Aside0 (Kd.R (Kd.int .u8) 5 (((((w34.setCell ⟨gb283, 0, none⟩ (.int .i64 t276)).setCell ⟨gb283, 1, none⟩ (.string t277)).setCell ⟨gb283, 2, none⟩ (.int .i64 t278)).setCell ⟨gb283, 3, none⟩ (.string t279)).setCell ⟨gb283, 4, none⟩ (.slice Ao38 t280.length co38)) w.heap.size (fun k_ => some k_ ≠ (.slice Ao27 t264.length co27 : Value).ownBlock ∧ some k_ ≠ (.slice Ao32 t272.length co32 : Value).ownBlock) (.slice Ao38 t280.length co38) t280) := ⟨by (with_reducible repeat (first | apply Kd.R_alloc | apply Kd.R_drewN | apply Kd.R_drew)); exact Kd.R_mono (Kd.R_far (p := ⟨gb283, 4, none⟩) (Kd.R_far (p := ⟨gb283, 3, none⟩) (Kd.R_far (p := ⟨gb283, 2, none⟩) (Kd.R_far (p := ⟨gb283, 1, none⟩) (Kd.R_far (p := ⟨gb283, 0, none⟩) (Kd.R_types HO282.out BK283.out (by decide)) (fun _ hk => hk.2) (.int .i64 t276)) (fun _ hk => hk.2) (.string t277)) (fun _ hk => hk.2) (.int .i64 t278)) (fun _ hk => hk.2) (.string t279)) (fun _ hk => hk.2) (.slice Ao38 t280.length co38)) (fun _ hk => ⟨hk.1.1.2, hk.1.2⟩)⟩
              have n3_ : Aside0 ((((((w34.setCell ⟨gb283, 0, none⟩ (.int .i64 t276)).setCell ⟨gb283, 1, none⟩ (.string t277)).setCell ⟨gb283, 2, none⟩ (.int .i64 t278)).setCell ⟨gb283, 3, none⟩ (.string t279)).setCell ⟨gb283, 4, none⟩ (.slice Ao38 t280.length co38)).heap[gb267]? = some (.cells #[.int .i64 t260, .string t261, .int .i64 t262, .string t263, .slice Ao27 t264.length co27] 64 (0, 0))) := ⟨by (with_reducible repeat (first | refine blk_drewN ?_ _ | refine blk_drew ?_ | refine blk_alloc ?_ _)); refine blk_far ?_ NB267_283.out _; (with_reducible repeat (first | refine blk_drewN ?_ _ | refine blk_drew ?_ | refine blk_alloc ?_ _)); refine blk_far ?_ NB267_283.out _; (with_reducible repeat (first | refine blk_drewN ?_ _ | refine blk_drew ?_ | refine blk_alloc ?_ _)); refine blk_far ?_ NB267_283.out _; (with_reducible repeat (first | refine blk_drewN ?_ _ | refine blk_drew ?_ | refine blk_alloc ?_ _)); refine blk_far ?_ NB267_283.out _; (with_reducible repeat (first | refine blk_drewN ?_ _ | refine blk_drew ?_ | refine blk_alloc ?_ _)); refine blk_far ?_ NB267_283.out _; (with_reducible repeat (first | refine blk_drewN ?_ _ | refine blk_drew ?_ | refine blk_alloc ?_ _)); exact BK267.out⟩
              have n4_ : Aside0 ((((((w34.setCell ⟨gb283, 0, none⟩ (.int .i64 t276)).setCell ⟨gb283, 1, none⟩ (.string t277)).setCell ⟨gb283, 2, none⟩ (.int .i64 t278)).setCell ⟨gb283, 3, none⟩ (.string t279)).setCell ⟨gb283, 4, none⟩ (.slice Ao38 t280.length co38)).heap[gb275]? = some (.cells #[.int .i64 t268, .string t269, .int .i64 t270, .string t271, .slice Ao32 t272.length co32] 64 (0, 0))) := ⟨by (with_reducible repeat (first | refine blk_drewN ?_ _ | refine blk_drew ?_ | refine blk_alloc ?_ _)); refine blk_far ?_ NB275_283.out _; (with_reducible repeat (first | refine blk_drewN ?_ _ | refine blk_drew ?_ | refine blk_alloc ?_ _)); refine blk_far ?_ NB275_283.out _; (with_reducible repeat (first | refine blk_drewN ?_ _ | refine blk_drew ?_ | refine blk_alloc ?_ _)); refine blk_far ?_ NB275_283.out _; (with_reducible repeat (first | refine blk_drewN ?_ _ | refine blk_drew ?_ | refine blk_alloc ?_ _)); refine blk_far ?_ NB275_283.out _; (with_reducible repeat (first | refine blk_drewN ?_ _ | refine blk_drew ?_ | refine blk_alloc ?_ _)); refine blk_far ?_ NB275_283.out _; (with_reducible repeat (first | refine blk_drewN ?_ _ | refine blk_drew ?_ | refine blk_alloc ?_ _)); exact BK275.out⟩
              have n5_ : Aside0 ((((((w34.setCell ⟨gb283, 0, none⟩ (.int .i64 t276)).setCell ⟨gb283, 1, none⟩ (.string t277)).setCell ⟨gb283, 2, none⟩ (.int .i64 t278)).setCell ⟨gb283, 3, none⟩ (.string t279)).setCell ⟨gb283, 4, none⟩ (.slice Ao38 t280.length co38)).heap[gb283]? = some (.cells #[.int .i64 t276, .string t277, .int .i64 t278, .string t279, .slice Ao38 t280.length co38] 64 (0, 0))) := ⟨by (with_reducible repeat (first | refine blk_drewN ?_ _ | refine blk_drew ?_ | refine blk_alloc ?_ _)); refine blk_put (cs := #[.int .i64 t276, .string t277, .int .i64 t278, .string t279, .slice none 0 0]) ?_ 4 _ rfl; (with_reducible repeat (first | refine blk_drewN ?_ _ | refine blk_drew ?_ | refine blk_alloc ?_ _)); refine blk_put (cs := #[.int .i64 t276, .string t277, .int .i64 t278, .string (⟨#[]⟩ : ByteArray), .slice none 0 0]) ?_ 3 _ rfl; (with_reducible repeat (first | refine blk_drewN ?_ _ | refine blk_drew ?_ | refine blk_alloc ?_ _)); refine blk_put (cs := #[.int .i64 t276, .string t277, .int .i64 0, .string (⟨#[]⟩ : ByteArray), .slice none 0 0]) ?_ 2 _ rfl; (with_reducible repeat (first | refine blk_drewN ?_ _ | refine blk_drew ?_ | refine blk_alloc ?_ _)); refine blk_put (cs := #[.int .i64 t276, .string (⟨#[]⟩ : ByteArray), .int .i64 0, .string (⟨#[]⟩ : ByteArray), .slice none 0 0]) ?_ 1 _ rfl; (with_reducible repeat (first | refine blk_drewN ?_ _ | refine blk_drew ?_ | refine blk_alloc ?_ _)); refine blk_put (cs := #[.int .i64 0, .string (⟨#[]⟩ : ByteArray), .int .i64 0, .string (⟨#[]⟩ : ByteArray), .slice none 0 0]) ?_ 0 _ rfl; (with_reducible repeat (first | refine blk_drewN ?_ _ | refine blk_drew ?_ | refine blk_alloc ?_ _)); exact BK283.out⟩
              have n6_ : Aside0 (Below w.heap.size w (((((w34.setCell ⟨gb283, 0, none⟩ (.int .i64 t276)).setCell ⟨gb283, 1, none⟩ (.string t277)).setCell ⟨gb283, 2, none⟩ (.int .i64 t278)).setCell ⟨gb283, 3, none⟩ (.string t279)).setCell ⟨gb283, 4, none⟩ (.slice Ao38 t280.length co38))) := ⟨by repeat (first | (with_reducible first | exact HB.out | apply below_alloc | apply pw_below_drewN | apply below_drew1 | refine below_set ?_ GE267.out | refine below_set ?_ GE275.out | refine below_set ?_ GE283.out) | exact HB.out)⟩
              (try clear HO266)
              (try clear HO274)
              (try clear HO282)
              (try clear BK267)
              (try clear BK275)
              (try clear BK283)
              (try clear HB)
              generalize (((((w34.setCell ⟨gb283, 0, none⟩ (.int .i64 t276)).setCell ⟨gb283, 1, none⟩ (.string t277)).setCell ⟨gb283, 2, none⟩ (.int .i64 t278)).setCell ⟨gb283, 3, none⟩ (.string t279)).setCell ⟨gb283, 4, none⟩ (.slice Ao38 t280.length co38)) = w39 at n0_ n1_ n2_ n3_ n4_ n5_ n6_ ⊢
              have HO266 := n0_
              have HO274 := n1_
              have HO282 := n2_
              have BK267 := n3_
              have BK275 := n4_
              have BK283 := n5_
              have HB := n6_
              clear n0_ n1_ n2_ n3_ n4_ n5_ n6_
              have n0_ := Aside0.mk (Kd.R_drew HO266.out)
              have n1_ := Aside0.mk (Kd.R_drew HO274.out)
              have n2_ := Aside0.mk (Kd.R_drew HO282.out)
              have n3_ := Aside0.mk (blk_drew BK267.out)
              have n4_ := Aside0.mk (blk_drew BK275.out)
              have n5_ := Aside0.mk (blk_drew BK283.out)
              have n6_ := Aside0.mk (below_drew1 HB.out)
              clear HO266
              clear HO274
              clear HO282
              clear BK267
              clear BK275
              clear BK283
              clear HB
              have HO266 := n0_
              have HO274 := n1_
              have HO282 := n2_
              have BK267 := n3_
              have BK275 := n4_
              have BK283 := n5_
              have HB := n6_
              clear n0_ n1_ n2_ n3_ n4_ n5_ n6_
              refine start_ (n := 7) (S := fun w' => w'.cell? ⟨gb267, 0, none⟩ = some (.int .i64 t260) ∧ w'.cell? ⟨gb267, 1, none⟩ = some (.string t261) ∧ w'.cell? ⟨gb267, 2, none⟩ = some (.int .i64 t262) ∧ w'.cell? ⟨gb267, 3, none⟩ = some (.string t263) ∧ w'.cell? ⟨gb267, 4, none⟩ = some (.slice Ao27 t264.length co27) ∧ w'.cell? ⟨gb275, 0, none⟩ = some (.int .i64 t268) ∧ w'.cell? ⟨gb275, 1, none⟩ = some (.string t269) ∧ w'.cell? ⟨gb275, 2, none⟩ = some (.int .i64 t270) ∧ w'.cell? ⟨gb275, 3, none⟩ = some (.string t271) ∧ w'.cell? ⟨gb275, 4, none⟩ = some (.slice Ao32 t272.length co32)) (ds := []) #[false, false, false, false, false, false, false] (by kernel_rfl) rfl rfl ⟨(blk_cell BK267.out 0).trans rfl, (blk_cell BK267.out 1).trans rfl, (blk_cell BK267.out 2).trans rfl, (blk_cell BK267.out 3).trans rfl, (blk_cell BK267.out 4).trans rfl, (blk_cell BK275.out 0).trans rfl, (blk_cell BK275.out 1).trans rfl, (blk_cell BK275.out 2).trans rfl, (blk_cell BK275.out 3).trans rfl, (blk_cell BK275.out 4).trans rfl⟩ (fun hHeld => ?_)
              generalize w39.drew = w40 at HO266 HO274 HO282 BK267 BK275 BK283 HB hHeld ⊢
              refine pure_ (i := 0) (N := some 71) (v := ?_) (a' := ?_) #[true, false, false, false, false, false, false] rfl rfl (by kernel_rfl) (fun _ _ _ h => h) (Or.inl ⟨by rfl, ?_⟩) ?_ ?_
              rotate_left
              · intro w'
                go_simp
                with_reducible rfl
              rotate_left
              · simp only [Act.put, List.setIfInBounds_toArray, List.set_cons_zero, List.set_cons_succ, i64_w, i32_w]
                rfl
              refine pure_ (i := 3) (N := some 74) (v := ?_) (a' := ?_) #[true, false, false, true, false, false, false] rfl rfl (by kernel_rfl) (fun _ _ _ h => h) (Or.inl ⟨by rfl, ?_⟩) ?_ ?_
              rotate_left
              · intro w'
                go_simp
                with_reducible rfl
              rotate_left
              · simp only [Act.put, List.setIfInBounds_toArray, List.set_cons_zero, List.set_cons_succ, i64_w, i32_w]
                rfl
              refine take_ (i := 1) (N := some 72) (v := ?_) (a' := ?_) #[true, true, false, true, false, false, false] rfl rfl (by kernel_rfl) (fun _ _ _ h => h) (Or.inl ⟨by rfl, ?_⟩) hHeld ?_ ?_
              rotate_left
              · rintro w' ⟨s0, s1, s2, s3, s4, s5, s6, s7, s8, s9⟩
                go_simp
                with_reducible rfl
              rotate_left
              · simp only [Act.put, List.setIfInBounds_toArray, List.set_cons_zero, List.set_cons_succ, i64_w, i32_w]
                rfl
              refine take_ (i := 4) (N := some 75) (v := ?_) (a' := ?_) #[true, true, false, true, true, false, false] rfl rfl (by kernel_rfl) (fun _ _ _ h => h) (Or.inl ⟨by rfl, ?_⟩) hHeld ?_ ?_
              rotate_left
              · rintro w' ⟨s0, s1, s2, s3, s4, s5, s6, s7, s8, s9⟩
                go_simp
                with_reducible rfl
              rotate_left
              · simp only [Act.put, List.setIfInBounds_toArray, List.set_cons_zero, List.set_cons_succ, i64_w, i32_w]
                rfl
              refine one_ (i := 2) (N := some 73) #[true, true, true, true, true, false, false] rfl rfl (by kernel_rfl) (by decide) (fun K hK => ?_)
              refine Kd.R_append_rows_step (Kd.int .u8) (w0 := w) w.heap.size (by rfl) (.const (.slice none 0 0)) (.tmp 72) 32 5 (.int .u8 0) 1 rfl Try.underlying32 info5 rfl (by decide) (by omega) (.slice none 0 0) ([] : List Int) t264 _ _ _ (fun k_ => some k_ ≠ (.slice Ao27 t264.length co27 : Value).ownBlock ∧ some k_ ≠ (.slice Ao32 t272.length co32 : Value).ownBlock ∧ some k_ ≠ (.slice Ao38 t280.length co38 : Value).ownBlock) (fun _ => False) rfl rfl ?aO ?aR (fun _ _ h => h) (fun _ h => h.elim) ?aF ?aB ?aS ?aL ?_
              (case aR => repeat (first | exact (Kd.R_reads' HO266.out).2.2 | (with_reducible refine Kd.C_alloc ?_ _) | (with_reducible refine Kd.C_drewN ?_ _) | (with_reducible refine Kd.C_drew ?_)))
              (case aB => exact (by repeat (first | (with_reducible first | exact HB.out | apply below_alloc | apply pw_below_drewN | apply below_drew1 | refine below_set ?_ GE267.out | refine below_set ?_ GE275.out | refine below_set ?_ GE283.out) | exact HB.out)))
              (case aF => exact (fun k_ hk => ⟨Kd.fresh' (Kd.R_lt (by (with_reducible repeat (first | apply Kd.R_alloc | apply Kd.R_drewN | apply Kd.R_drew)); exact HO266.out)) k_ hk, Kd.fresh' (Kd.R_lt (by (with_reducible repeat (first | apply Kd.R_alloc | apply Kd.R_drewN | apply Kd.R_drew)); exact HO274.out)) k_ hk, Kd.fresh' (Kd.R_lt (by (with_reducible repeat (first | apply Kd.R_alloc | apply Kd.R_drewN | apply Kd.R_drew)); exact HO282.out)) k_ hk⟩))
              (case aO => exact ((Kd.R_nil _ _ _ _ (fun k_ => some k_ ≠ (.slice Ao27 t264.length co27 : Value).ownBlock ∧ some k_ ≠ (.slice Ao32 t272.length co32 : Value).ownBlock ∧ some k_ ≠ (.slice Ao38 t280.length co38 : Value).ownBlock))))
              (case aS => exact (below_size (by repeat (first | (with_reducible first | exact HB.out | apply below_alloc | apply pw_below_drewN | apply below_drew1 | refine below_set ?_ GE267.out | refine below_set ?_ GE275.out | refine below_set ?_ GE283.out) | exact HB.out))))
              (case aL => have := LMc20.out; omega)
              intro v285 w41 ho hb hg hat
              rw [← Ny284.out] at ho
              have n0_ := Aside0.mk (Kd.R_after (Kd.R_apart_nil (by (with_reducible repeat (first | apply Kd.R_alloc | apply Kd.R_drewN | apply Kd.R_drew)); exact HO266.out)) hg hat)
              have n1_ := Aside0.mk (blk_grown (g := gb267) (o := .cells #[.int .i64 t260, .string t261, .int .i64 t262, .string t263, .slice Ao27 t264.length co27] 64 (0, 0)) (by (with_reducible repeat (first | refine blk_drewN ?_ _ | refine blk_drew ?_ | refine blk_alloc ?_ _)); exact BK267.out) hg (by simp [Value.ownBlock]))
              have n2_ := Aside0.mk (Kd.R_after (Kd.R_apart_nil (by (with_reducible repeat (first | apply Kd.R_alloc | apply Kd.R_drewN | apply Kd.R_drew)); exact HO274.out)) hg hat)
              have n3_ := Aside0.mk (blk_grown (g := gb275) (o := .cells #[.int .i64 t268, .string t269, .int .i64 t270, .string t271, .slice Ao32 t272.length co32] 64 (0, 0)) (by (with_reducible repeat (first | refine blk_drewN ?_ _ | refine blk_drew ?_ | refine blk_alloc ?_ _)); exact BK275.out) hg (by simp [Value.ownBlock]))
              have n4_ := Aside0.mk (Kd.R_after (Kd.R_apart_nil (by (with_reducible repeat (first | apply Kd.R_alloc | apply Kd.R_drewN | apply Kd.R_drew)); exact HO282.out)) hg hat)
              have n5_ := Aside0.mk (blk_grown (g := gb283) (o := .cells #[.int .i64 t276, .string t277, .int .i64 t278, .string t279, .slice Ao38 t280.length co38] 64 (0, 0)) (by (with_reducible repeat (first | refine blk_drewN ?_ _ | refine blk_drew ?_ | refine blk_alloc ?_ _)); exact BK283.out) hg (by simp [Value.ownBlock]))
              have n6_ := Aside0.mk (hb)
              have n7_ := Aside0.mk (ho)
              clear HO266
              clear BK267
              clear HO274
              clear BK275
              clear HO282
              clear BK283
              clear HB
              have HO266 := n0_
              have BK267 := n1_
              have HO274 := n2_
              have BK275 := n3_
              have HO282 := n4_
              have BK283 := n5_
              have HB := n6_
              have HO286 := n7_
              clear n0_ n1_ n2_ n3_ n4_ n5_ n6_ n7_
              clear ho hb hg hat
              refine hK.out _ _ ⟨(blk_cell BK267.out 0).trans rfl, (blk_cell BK267.out 1).trans rfl, (blk_cell BK267.out 2).trans rfl, (blk_cell BK267.out 3).trans rfl, (blk_cell BK267.out 4).trans rfl, (blk_cell BK275.out 0).trans rfl, (blk_cell BK275.out 1).trans rfl, (blk_cell BK275.out 2).trans rfl, (blk_cell BK275.out 3).trans rfl, (blk_cell BK275.out 4).trans rfl⟩ (fun hHeld => ?_)
              clear hK K
              refine norm_ (a' := ?_) ?_ ?_
              rotate_left
              · show Act.put _ (some 73) _ = _
                simp only [Act.put, List.setIfInBounds_toArray, List.set_cons_zero, List.set_cons_succ, i64_w, i32_w]
                rfl
              refine one_ (i := 5) (N := some 76) #[true, true, true, true, true, true, false] rfl rfl (by kernel_rfl) (by decide) (fun K hK => ?_)
              refine Kd.R_append_rows_step (Kd.int .u8) (w0 := w) w.heap.size (by rfl) (.tmp 73) (.tmp 75) 32 5 (.int .u8 0) 1 rfl Try.underlying32 info5 rfl (by decide) (by omega) v285 y284 t272 _ _ _ (fun k_ => some k_ ≠ (.slice Ao27 t264.length co27 : Value).ownBlock ∧ some k_ ≠ (.slice Ao32 t272.length co32 : Value).ownBlock ∧ some k_ ≠ (.slice Ao38 t280.length co38 : Value).ownBlock) (fun _ => False) rfl rfl ?aO ?aR (fun _ _ h => h) (fun _ h => h.elim) ?aF ?aB ?aS ?aL ?_
              (case aR => repeat (first | exact (Kd.R_reads' HO274.out).2.2 | (with_reducible refine Kd.C_alloc ?_ _) | (with_reducible refine Kd.C_drewN ?_ _) | (with_reducible refine Kd.C_drew ?_)))
              (case aB => exact (by repeat (first | (with_reducible first | exact HB.out | apply below_alloc | apply pw_below_drewN | apply below_drew1 | refine below_set ?_ GE267.out | refine below_set ?_ GE275.out | refine below_set ?_ GE283.out) | exact HB.out)))
              (case aF => exact (fun k_ hk => ⟨Kd.fresh' (Kd.R_lt (by (with_reducible repeat (first | apply Kd.R_alloc | apply Kd.R_drewN | apply Kd.R_drew)); exact HO266.out)) k_ hk, Kd.fresh' (Kd.R_lt (by (with_reducible repeat (first | apply Kd.R_alloc | apply Kd.R_drewN | apply Kd.R_drew)); exact HO274.out)) k_ hk, Kd.fresh' (Kd.R_lt (by (with_reducible repeat (first | apply Kd.R_alloc | apply Kd.R_drewN | apply Kd.R_drew)); exact HO282.out)) k_ hk⟩))
              (case aO => exact (by (with_reducible repeat (first | apply Kd.R_alloc | apply Kd.R_drewN | apply Kd.R_drew)); exact HO286.out))
              (case aS => exact (below_size (by repeat (first | (with_reducible first | exact HB.out | apply below_alloc | apply pw_below_drewN | apply below_drew1 | refine below_set ?_ GE267.out | refine below_set ?_ GE275.out | refine below_set ?_ GE283.out) | exact HB.out))))
              (case aL => have := LMc21.out; omega)
              intro v288 w42 ho hb hg hat
              rw [← Ny287.out] at ho
              have n0_ := Aside0.mk (Kd.R_after (ok := (fun k_ => some k_ ≠ (.slice Ao32 t272.length co32 : Value).ownBlock ∧ some k_ ≠ (.slice Ao38 t280.length co38 : Value).ownBlock)) (by (with_reducible repeat (first | apply Kd.R_alloc | apply Kd.R_drewN | apply Kd.R_drew)); exact HO266.out) hg hat)
              have n1_ := Aside0.mk (blk_grown (g := gb267) (o := .cells #[.int .i64 t260, .string t261, .int .i64 t262, .string t263, .slice Ao27 t264.length co27] 64 (0, 0)) (by (with_reducible repeat (first | refine blk_drewN ?_ _ | refine blk_drew ?_ | refine blk_alloc ?_ _)); exact BK267.out) hg (Kd.R_ne HO286.out BK267.out (by decide)))
              have n2_ := Aside0.mk (Kd.R_after (ok := (fun k_ => some k_ ≠ (.slice Ao27 t264.length co27 : Value).ownBlock ∧ some k_ ≠ (.slice Ao38 t280.length co38 : Value).ownBlock)) (by (with_reducible repeat (first | apply Kd.R_alloc | apply Kd.R_drewN | apply Kd.R_drew)); exact HO274.out) hg hat)
              have n3_ := Aside0.mk (blk_grown (g := gb275) (o := .cells #[.int .i64 t268, .string t269, .int .i64 t270, .string t271, .slice Ao32 t272.length co32] 64 (0, 0)) (by (with_reducible repeat (first | refine blk_drewN ?_ _ | refine blk_drew ?_ | refine blk_alloc ?_ _)); exact BK275.out) hg (Kd.R_ne HO286.out BK275.out (by decide)))
              have n4_ := Aside0.mk (Kd.R_after (ok := (fun k_ => some k_ ≠ (.slice Ao27 t264.length co27 : Value).ownBlock ∧ some k_ ≠ (.slice Ao32 t272.length co32 : Value).ownBlock)) (by (with_reducible repeat (first | apply Kd.R_alloc | apply Kd.R_drewN | apply Kd.R_drew)); exact HO282.out) hg hat)
              have n5_ := Aside0.mk (blk_grown (g := gb283) (o := .cells #[.int .i64 t276, .string t277, .int .i64 t278, .string t279, .slice Ao38 t280.length co38] 64 (0, 0)) (by (with_reducible repeat (first | refine blk_drewN ?_ _ | refine blk_drew ?_ | refine blk_alloc ?_ _)); exact BK283.out) hg (Kd.R_ne HO286.out BK283.out (by decide)))
              have n6_ := Aside0.mk (hb)
              have n7_ := Aside0.mk (ho)
              clear HO266
              clear BK267
              clear HO274
              clear BK275
              clear HO282
              clear BK283
              clear HB
              clear HO286
              have HO266 := n0_
              have BK267 := n1_
              have HO274 := n2_
              have BK275 := n3_
              have HO282 := n4_
              have BK283 := n5_
              have HB := n6_
              have HO289 := n7_
              clear n0_ n1_ n2_ n3_ n4_ n5_ n6_ n7_
              clear ho hb hg hat
              refine hK.out _ _ ⟨(blk_cell BK267.out 0).trans rfl, (blk_cell BK267.out 1).trans rfl, (blk_cell BK267.out 2).trans rfl, (blk_cell BK267.out 3).trans rfl, (blk_cell BK267.out 4).trans rfl, (blk_cell BK275.out 0).trans rfl, (blk_cell BK275.out 1).trans rfl, (blk_cell BK275.out 2).trans rfl, (blk_cell BK275.out 3).trans rfl, (blk_cell BK275.out 4).trans rfl⟩ (fun hHeld => ?_)
              clear hK K
              refine norm_ (a' := ?_) ?_ ?_
              rotate_left
              · show Act.put _ (some 76) _ = _
                simp only [Act.put, List.setIfInBounds_toArray, List.set_cons_zero, List.set_cons_succ, i64_w, i32_w]
                rfl
              refine pure_ (i := 6) (N := some 16) (v := ?_) (a' := ?_) #[true, true, true, true, true, true, true] rfl rfl (by kernel_rfl) (fun _ _ _ h => h) (Or.inl ⟨by rfl, ?_⟩) ?_ ?_
              rotate_left
              · intro w'
                go_simp
                with_reducible rfl
              rotate_left
              · simp only [Act.put, List.setIfInBounds_toArray, List.set_cons_zero, List.set_cons_succ, i64_w, i32_w]
                rfl
              refine done_ (by kernel_rfl) ?_
              go_upto_region 11 with (fail)
              go_cut [97] (fun v97 wc => ∃ (kq : Nat) (x97_21 : Bool), v97 = .bool x97_21 ∧ Aside0 (spencelaw31_ReplyParts.j1 kq t258 t259 y287 x97_21 t260 t261 t262 t263 t264 t268 t269 t270 t271 t272 t276 t277 t278 t279 t280 = some r) ∧ Aside0 (kq ≤ kj8) ∧ Aside0 (Kd.R (Kd.int .u8) 5 wc w.heap.size (fun k_ => some k_ ≠ ((.slice Ao27 t264.length co27) : Value).ownBlock ∧ some k_ ≠ ((.slice Ao32 t272.length co32) : Value).ownBlock ∧ some k_ ≠ ((.slice Ao38 t280.length co38) : Value).ownBlock) v288 y287) ∧ Aside0 (Kd.R (Kd.int .u8) 5 wc w.heap.size (fun k_ => some k_ ≠ (v288 : Value).ownBlock ∧ some k_ ≠ ((.slice Ao32 t272.length co32) : Value).ownBlock ∧ some k_ ≠ ((.slice Ao38 t280.length co38) : Value).ownBlock) (.slice Ao27 t264.length co27) t264) ∧ Aside0 (Kd.R (Kd.int .u8) 5 wc w.heap.size (fun k_ => some k_ ≠ (v288 : Value).ownBlock ∧ some k_ ≠ ((.slice Ao27 t264.length co27) : Value).ownBlock ∧ some k_ ≠ ((.slice Ao38 t280.length co38) : Value).ownBlock) (.slice Ao32 t272.length co32) t272) ∧ Aside0 (Kd.R (Kd.int .u8) 5 wc w.heap.size (fun k_ => some k_ ≠ (v288 : Value).ownBlock ∧ some k_ ≠ ((.slice Ao27 t264.length co27) : Value).ownBlock ∧ some k_ ≠ ((.slice Ao32 t272.length co32) : Value).ownBlock) (.slice Ao38 t280.length co38) t280) ∧ Aside0 (wc.heap[gb267]? = some (.cells #[.int .i64 t260, .string t261, .int .i64 t262, .string t263, (.slice Ao27 t264.length co27)] 64 (0, 0))) ∧ Aside0 (wc.heap[gb275]? = some (.cells #[.int .i64 t268, .string t269, .int .i64 t270, .string t271, (.slice Ao32 t272.length co32)] 64 (0, 0))) ∧ Aside0 (wc.heap[gb283]? = some (.cells #[.int .i64 t276, .string t277, .int .i64 t278, .string t279, (.slice Ao38 t280.length co38)] 64 (0, 0))) ∧ Aside0 (Below w.heap.size w wc))
              case first =>
                have H := HC22.out
                clear HC22
                by_cases c43 : t260 = 206
                · rw [if_pos c43] at H
                  have c43b0 : (t260 == 206) = true := beq_iff_eq.mpr c43
                  have c43b1 : (t260 != 206) = false := bne_eq_false_iff_eq.mpr c43
                  clear c43
                  (first | rw [c43b0] | (simp only [i64_w, i32_w]; rw [c43b0]) | skip)
                  by_cases c44 : t268 = 206
                  · rw [if_pos c44] at H
                    have c44b0 : (t268 == 206) = true := beq_iff_eq.mpr c44
                    have c44b1 : (t268 != 206) = false := bne_eq_false_iff_eq.mpr c44
                    clear c44
                    by_cases c45 : t276 = 206
                    · rw [if_pos c45] at H
                      have c45b0 : (t276 == 206) = true := beq_iff_eq.mpr c45
                      have c45b1 : (t276 != 206) = false := bne_eq_false_iff_eq.mpr c45
                      clear c45
                      have H' := Aside0.mk H
                      clear H
                      have hnb46 := NB267_275.out
                      have hnc46 := NB275_267.out
                      have hnb47 := NB267_283.out
                      have hnc47 := NB283_267.out
                      have hcz48_0 : w42.cell? ⟨gb267, 0, none⟩ = some (.int .i64 t260) := (blk_cell BK267.out 0).trans rfl
                      have hcz48_1 : w42.cell? ⟨gb267, 1, none⟩ = some (.string t261) := (blk_cell BK267.out 1).trans rfl
                      have hcz48_2 : w42.cell? ⟨gb267, 2, none⟩ = some (.int .i64 t262) := (blk_cell BK267.out 2).trans rfl
                      have hcz48_3 : w42.cell? ⟨gb267, 3, none⟩ = some (.string t263) := (blk_cell BK267.out 3).trans rfl
                      have hcz48_4 : w42.cell? ⟨gb267, 4, none⟩ = some (.slice Ao27 t264.length co27) := (blk_cell BK267.out 4).trans rfl
                      have hfz48_0 := blk_frozen BK267.out 0
                      have hfz48_1 := blk_frozen BK267.out 1
                      have hfz48_2 := blk_frozen BK267.out 2
                      have hfz48_3 := blk_frozen BK267.out 3
                      have hfz48_4 := blk_frozen BK267.out 4
                      have hnb49 := NB275_283.out
                      have hnc49 := NB283_275.out
                      have hcz50_0 : w42.cell? ⟨gb275, 0, none⟩ = some (.int .i64 t268) := (blk_cell BK275.out 0).trans rfl
                      have hcz50_1 : w42.cell? ⟨gb275, 1, none⟩ = some (.string t269) := (blk_cell BK275.out 1).trans rfl
                      have hcz50_2 : w42.cell? ⟨gb275, 2, none⟩ = some (.int .i64 t270) := (blk_cell BK275.out 2).trans rfl
                      have hcz50_3 : w42.cell? ⟨gb275, 3, none⟩ = some (.string t271) := (blk_cell BK275.out 3).trans rfl
                      have hcz50_4 : w42.cell? ⟨gb275, 4, none⟩ = some (.slice Ao32 t272.length co32) := (blk_cell BK275.out 4).trans rfl
                      have hfz50_0 := blk_frozen BK275.out 0
                      have hfz50_1 := blk_frozen BK275.out 1
                      have hfz50_2 := blk_frozen BK275.out 2
                      have hfz50_3 := blk_frozen BK275.out 3
                      have hfz50_4 := blk_frozen BK275.out 4
                      have hcz51_0 : w42.cell? ⟨gb283, 0, none⟩ = some (.int .i64 t276) := (blk_cell BK283.out 0).trans rfl
                      have hcz51_1 : w42.cell? ⟨gb283, 1, none⟩ = some (.string t277) := (blk_cell BK283.out 1).trans rfl
                      have hcz51_2 : w42.cell? ⟨gb283, 2, none⟩ = some (.int .i64 t278) := (blk_cell BK283.out 2).trans rfl
                      have hcz51_3 : w42.cell? ⟨gb283, 3, none⟩ = some (.string t279) := (blk_cell BK283.out 3).trans rfl
                      have hcz51_4 : w42.cell? ⟨gb283, 4, none⟩ = some (.slice Ao38 t280.length co38) := (blk_cell BK283.out 4).trans rfl
                      have hfz51_0 := blk_frozen BK283.out 0
                      have hfz51_1 := blk_frozen BK283.out 1
                      have hfz51_2 := blk_frozen BK283.out 2
                      have hfz51_3 := blk_frozen BK283.out 3
                      have hfz51_4 := blk_frozen BK283.out 4
                      obtain ⟨Ao52, co52, eo52⟩ := Kd.R_slice HO289.out
                      subst eo52
                      go_wp2
                      go_meet
                      case rel => exact ⟨_, (((y287.length : Int) != (t280.length : Int))), (by first | rfl | (simp; done) | (simp [*]; done)), H', ⟨by have := HJ8.out; first | omega | exact Nat.le_refl _⟩, ⟨by (with_reducible repeat (first | apply Kd.R_alloc | apply Kd.R_drewN | apply Kd.R_drew)); exact HO289.out⟩, ⟨by (with_reducible repeat (first | apply Kd.R_alloc | apply Kd.R_drewN | apply Kd.R_drew)); exact Kd.R_mono HO266.out (fun _ hk => ⟨hk.2, ⟨hk.1.1, hk.1.2⟩⟩)⟩, ⟨by (with_reducible repeat (first | apply Kd.R_alloc | apply Kd.R_drewN | apply Kd.R_drew)); exact Kd.R_mono HO274.out (fun _ hk => ⟨hk.2, ⟨hk.1.1, hk.1.2⟩⟩)⟩, ⟨by (with_reducible repeat (first | apply Kd.R_alloc | apply Kd.R_drewN | apply Kd.R_drew)); exact Kd.R_mono HO282.out (fun _ hk => ⟨hk.2, ⟨hk.1.1, hk.1.2⟩⟩)⟩, ⟨by (with_reducible repeat (first | refine blk_drewN ?_ _ | refine blk_drew ?_ | refine blk_alloc ?_ _)); exact BK267.out⟩, ⟨by (with_reducible repeat (first | refine blk_drewN ?_ _ | refine blk_drew ?_ | refine blk_alloc ?_ _)); exact BK275.out⟩, ⟨by (with_reducible repeat (first | refine blk_drewN ?_ _ | refine blk_drew ?_ | refine blk_alloc ?_ _)); exact BK283.out⟩, ⟨by repeat (first | (with_reducible first | exact HB.out | apply below_alloc | apply pw_below_drewN | apply below_drew1 | refine below_set ?_ GE267.out | refine below_set ?_ GE275.out | refine below_set ?_ GE283.out) | exact HB.out)⟩⟩
                    · rw [if_neg c45] at H
                      have c45b0 : (t276 == 206) = false := beq_eq_false_iff_ne.mpr c45
                      have c45b1 : (t276 != 206) = true := bne_iff_ne.mpr c45
                      have H' := Aside0.mk H
                      clear H
                      have hnb53 := NB267_275.out
                      have hnc53 := NB275_267.out
                      have hnb54 := NB267_283.out
                      have hnc54 := NB283_267.out
                      have hcz55_0 : w42.cell? ⟨gb267, 0, none⟩ = some (.int .i64 t260) := (blk_cell BK267.out 0).trans rfl
                      have hcz55_1 : w42.cell? ⟨gb267, 1, none⟩ = some (.string t261) := (blk_cell BK267.out 1).trans rfl
                      have hcz55_2 : w42.cell? ⟨gb267, 2, none⟩ = some (.int .i64 t262) := (blk_cell BK267.out 2).trans rfl
                      have hcz55_3 : w42.cell? ⟨gb267, 3, none⟩ = some (.string t263) := (blk_cell BK267.out 3).trans rfl
                      have hcz55_4 : w42.cell? ⟨gb267, 4, none⟩ = some (.slice Ao27 t264.length co27) := (blk_cell BK267.out 4).trans rfl
                      have hfz55_0 := blk_frozen BK267.out 0
                      have hfz55_1 := blk_frozen BK267.out 1
                      have hfz55_2 := blk_frozen BK267.out 2
                      have hfz55_3 := blk_frozen BK267.out 3
                      have hfz55_4 := blk_frozen BK267.out 4
                      have hnb56 := NB275_283.out
                      have hnc56 := NB283_275.out
                      have hcz57_0 : w42.cell? ⟨gb275, 0, none⟩ = some (.int .i64 t268) := (blk_cell BK275.out 0).trans rfl
                      have hcz57_1 : w42.cell? ⟨gb275, 1, none⟩ = some (.string t269) := (blk_cell BK275.out 1).trans rfl
                      have hcz57_2 : w42.cell? ⟨gb275, 2, none⟩ = some (.int .i64 t270) := (blk_cell BK275.out 2).trans rfl
                      have hcz57_3 : w42.cell? ⟨gb275, 3, none⟩ = some (.string t271) := (blk_cell BK275.out 3).trans rfl
                      have hcz57_4 : w42.cell? ⟨gb275, 4, none⟩ = some (.slice Ao32 t272.length co32) := (blk_cell BK275.out 4).trans rfl
                      have hfz57_0 := blk_frozen BK275.out 0
                      have hfz57_1 := blk_frozen BK275.out 1
                      have hfz57_2 := blk_frozen BK275.out 2
                      have hfz57_3 := blk_frozen BK275.out 3
                      have hfz57_4 := blk_frozen BK275.out 4
                      have hcz58_0 : w42.cell? ⟨gb283, 0, none⟩ = some (.int .i64 t276) := (blk_cell BK283.out 0).trans rfl
                      have hcz58_1 : w42.cell? ⟨gb283, 1, none⟩ = some (.string t277) := (blk_cell BK283.out 1).trans rfl
                      have hcz58_2 : w42.cell? ⟨gb283, 2, none⟩ = some (.int .i64 t278) := (blk_cell BK283.out 2).trans rfl
                      have hcz58_3 : w42.cell? ⟨gb283, 3, none⟩ = some (.string t279) := (blk_cell BK283.out 3).trans rfl
                      have hcz58_4 : w42.cell? ⟨gb283, 4, none⟩ = some (.slice Ao38 t280.length co38) := (blk_cell BK283.out 4).trans rfl
                      have hfz58_0 := blk_frozen BK283.out 0
                      have hfz58_1 := blk_frozen BK283.out 1
                      have hfz58_2 := blk_frozen BK283.out 2
                      have hfz58_3 := blk_frozen BK283.out 3
                      have hfz58_4 := blk_frozen BK283.out 4
                      go_wp2
                      go_meet
                      case rel => exact ⟨_, (true), (by first | rfl | (simp; done) | (simp [*]; done)), H', ⟨by have := HJ8.out; first | omega | exact Nat.le_refl _⟩, ⟨by (with_reducible repeat (first | apply Kd.R_alloc | apply Kd.R_drewN | apply Kd.R_drew)); exact HO289.out⟩, ⟨by (with_reducible repeat (first | apply Kd.R_alloc | apply Kd.R_drewN | apply Kd.R_drew)); exact Kd.R_mono HO266.out (fun _ hk => ⟨hk.2, ⟨hk.1.1, hk.1.2⟩⟩)⟩, ⟨by (with_reducible repeat (first | apply Kd.R_alloc | apply Kd.R_drewN | apply Kd.R_drew)); exact Kd.R_mono HO274.out (fun _ hk => ⟨hk.2, ⟨hk.1.1, hk.1.2⟩⟩)⟩, ⟨by (with_reducible repeat (first | apply Kd.R_alloc | apply Kd.R_drewN | apply Kd.R_drew)); exact Kd.R_mono HO282.out (fun _ hk => ⟨hk.2, ⟨hk.1.1, hk.1.2⟩⟩)⟩, ⟨by (with_reducible repeat (first | refine blk_drewN ?_ _ | refine blk_drew ?_ | refine blk_alloc ?_ _)); exact BK267.out⟩, ⟨by (with_reducible repeat (first | refine blk_drewN ?_ _ | refine blk_drew ?_ | refine blk_alloc ?_ _)); exact BK275.out⟩, ⟨by (with_reducible repeat (first | refine blk_drewN ?_ _ | refine blk_drew ?_ | refine blk_alloc ?_ _)); exact BK283.out⟩, ⟨by repeat (first | (with_reducible first | exact HB.out | apply below_alloc | apply pw_below_drewN | apply below_drew1 | refine below_set ?_ GE267.out | refine below_set ?_ GE275.out | refine below_set ?_ GE283.out) | exact HB.out)⟩⟩
                  · rw [if_neg c44] at H
                    have c44b0 : (t268 == 206) = false := beq_eq_false_iff_ne.mpr c44
                    have c44b1 : (t268 != 206) = true := bne_iff_ne.mpr c44
                    have H' := Aside0.mk H
                    clear H
                    have hnb59 := NB267_275.out
                    have hnc59 := NB275_267.out
                    have hnb60 := NB267_283.out
                    have hnc60 := NB283_267.out
                    have hcz61_0 : w42.cell? ⟨gb267, 0, none⟩ = some (.int .i64 t260) := (blk_cell BK267.out 0).trans rfl
                    have hcz61_1 : w42.cell? ⟨gb267, 1, none⟩ = some (.string t261) := (blk_cell BK267.out 1).trans rfl
                    have hcz61_2 : w42.cell? ⟨gb267, 2, none⟩ = some (.int .i64 t262) := (blk_cell BK267.out 2).trans rfl
                    have hcz61_3 : w42.cell? ⟨gb267, 3, none⟩ = some (.string t263) := (blk_cell BK267.out 3).trans rfl
                    have hcz61_4 : w42.cell? ⟨gb267, 4, none⟩ = some (.slice Ao27 t264.length co27) := (blk_cell BK267.out 4).trans rfl
                    have hfz61_0 := blk_frozen BK267.out 0
                    have hfz61_1 := blk_frozen BK267.out 1
                    have hfz61_2 := blk_frozen BK267.out 2
                    have hfz61_3 := blk_frozen BK267.out 3
                    have hfz61_4 := blk_frozen BK267.out 4
                    have hnb62 := NB275_283.out
                    have hnc62 := NB283_275.out
                    have hcz63_0 : w42.cell? ⟨gb275, 0, none⟩ = some (.int .i64 t268) := (blk_cell BK275.out 0).trans rfl
                    have hcz63_1 : w42.cell? ⟨gb275, 1, none⟩ = some (.string t269) := (blk_cell BK275.out 1).trans rfl
                    have hcz63_2 : w42.cell? ⟨gb275, 2, none⟩ = some (.int .i64 t270) := (blk_cell BK275.out 2).trans rfl
                    have hcz63_3 : w42.cell? ⟨gb275, 3, none⟩ = some (.string t271) := (blk_cell BK275.out 3).trans rfl
                    have hcz63_4 : w42.cell? ⟨gb275, 4, none⟩ = some (.slice Ao32 t272.length co32) := (blk_cell BK275.out 4).trans rfl
                    have hfz63_0 := blk_frozen BK275.out 0
                    have hfz63_1 := blk_frozen BK275.out 1
                    have hfz63_2 := blk_frozen BK275.out 2
                    have hfz63_3 := blk_frozen BK275.out 3
                    have hfz63_4 := blk_frozen BK275.out 4
                    go_wp2
                    go_meet
                    case rel => exact ⟨_, (true), (by first | rfl | (simp; done) | (simp [*]; done)), H', ⟨by have := HJ8.out; first | omega | exact Nat.le_refl _⟩, ⟨by (with_reducible repeat (first | apply Kd.R_alloc | apply Kd.R_drewN | apply Kd.R_drew)); exact HO289.out⟩, ⟨by (with_reducible repeat (first | apply Kd.R_alloc | apply Kd.R_drewN | apply Kd.R_drew)); exact Kd.R_mono HO266.out (fun _ hk => ⟨hk.2, ⟨hk.1.1, hk.1.2⟩⟩)⟩, ⟨by (with_reducible repeat (first | apply Kd.R_alloc | apply Kd.R_drewN | apply Kd.R_drew)); exact Kd.R_mono HO274.out (fun _ hk => ⟨hk.2, ⟨hk.1.1, hk.1.2⟩⟩)⟩, ⟨by (with_reducible repeat (first | apply Kd.R_alloc | apply Kd.R_drewN | apply Kd.R_drew)); exact Kd.R_mono HO282.out (fun _ hk => ⟨hk.2, ⟨hk.1.1, hk.1.2⟩⟩)⟩, ⟨by (with_reducible repeat (first | refine blk_drewN ?_ _ | refine blk_drew ?_ | refine blk_alloc ?_ _)); exact BK267.out⟩, ⟨by (with_reducible repeat (first | refine blk_drewN ?_ _ | refine blk_drew ?_ | refine blk_alloc ?_ _)); exact BK275.out⟩, ⟨by (with_reducible repeat (first | refine blk_drewN ?_ _ | refine blk_drew ?_ | refine blk_alloc ?_ _)); exact BK283.out⟩, ⟨by repeat (first | (with_reducible first | exact HB.out | apply below_alloc | apply pw_below_drewN | apply below_drew1 | refine below_set ?_ GE267.out | refine below_set ?_ GE275.out | refine below_set ?_ GE283.out) | exact HB.out)⟩⟩
                · rw [if_neg c43] at H
                  have c43b0 : (t260 == 206) = false := beq_eq_false_iff_ne.mpr c43
                  have c43b1 : (t260 != 206) = true := bne_iff_ne.mpr c43
                  (first | rw [c43b0] | (simp only [i64_w, i32_w]; rw [c43b0]) | skip)
                  have H' := Aside0.mk H
                  clear H
                  have hnb64 := NB267_275.out
                  have hnc64 := NB275_267.out
                  have hnb65 := NB267_283.out
                  have hnc65 := NB283_267.out
                  have hcz66_0 : w42.cell? ⟨gb267, 0, none⟩ = some (.int .i64 t260) := (blk_cell BK267.out 0).trans rfl
                  have hcz66_1 : w42.cell? ⟨gb267, 1, none⟩ = some (.string t261) := (blk_cell BK267.out 1).trans rfl
                  have hcz66_2 : w42.cell? ⟨gb267, 2, none⟩ = some (.int .i64 t262) := (blk_cell BK267.out 2).trans rfl
                  have hcz66_3 : w42.cell? ⟨gb267, 3, none⟩ = some (.string t263) := (blk_cell BK267.out 3).trans rfl
                  have hcz66_4 : w42.cell? ⟨gb267, 4, none⟩ = some (.slice Ao27 t264.length co27) := (blk_cell BK267.out 4).trans rfl
                  have hfz66_0 := blk_frozen BK267.out 0
                  have hfz66_1 := blk_frozen BK267.out 1
                  have hfz66_2 := blk_frozen BK267.out 2
                  have hfz66_3 := blk_frozen BK267.out 3
                  have hfz66_4 := blk_frozen BK267.out 4
                  go_wp2
                  go_meet
                  case rel => exact ⟨_, (true), (by first | rfl | (simp; done) | (simp [*]; done)), H', ⟨by have := HJ8.out; first | omega | exact Nat.le_refl _⟩, ⟨by (with_reducible repeat (first | apply Kd.R_alloc | apply Kd.R_drewN | apply Kd.R_drew)); exact HO289.out⟩, ⟨by (with_reducible repeat (first | apply Kd.R_alloc | apply Kd.R_drewN | apply Kd.R_drew)); exact Kd.R_mono HO266.out (fun _ hk => ⟨hk.2, ⟨hk.1.1, hk.1.2⟩⟩)⟩, ⟨by (with_reducible repeat (first | apply Kd.R_alloc | apply Kd.R_drewN | apply Kd.R_drew)); exact Kd.R_mono HO274.out (fun _ hk => ⟨hk.2, ⟨hk.1.1, hk.1.2⟩⟩)⟩, ⟨by (with_reducible repeat (first | apply Kd.R_alloc | apply Kd.R_drewN | apply Kd.R_drew)); exact Kd.R_mono HO282.out (fun _ hk => ⟨hk.2, ⟨hk.1.1, hk.1.2⟩⟩)⟩, ⟨by (with_reducible repeat (first | refine blk_drewN ?_ _ | refine blk_drew ?_ | refine blk_alloc ?_ _)); exact BK267.out⟩, ⟨by (with_reducible repeat (first | refine blk_drewN ?_ _ | refine blk_drew ?_ | refine blk_alloc ?_ _)); exact BK275.out⟩, ⟨by (with_reducible repeat (first | refine blk_drewN ?_ _ | refine blk_drew ?_ | refine blk_alloc ?_ _)); exact BK283.out⟩, ⟨by repeat (first | (with_reducible first | exact HB.out | apply below_alloc | apply pw_below_drewN | apply below_drew1 | refine below_set ?_ GE267.out | refine below_set ?_ GE275.out | refine below_set ?_ GE283.out) | exact HB.out)⟩⟩
              case rest =>
                clear HC22
                try clear c1
                try clear c2
                try clear p2
                try clear c3
                try clear c4
                try clear c5
                try clear c6
                try clear c7
                try clear c8
                try clear c11
                try clear c11b0
                try clear c12
                try clear c12b0
                try clear c13
                try clear c13b0
                try clear c14
                try clear c14b0
                try clear c15
                try clear c20
                try clear c21
                try clear c30
                try clear c35
                try clear c36
                try clear c37
                try clear c38
                try clear c43
                try clear c43b0
                try clear c43b1
                try clear c44
                try clear c44b0
                try clear c44b1
                try clear c45
                try clear c45b0
                try clear c45b1
                try clear c46
                try clear c47
                try clear c49
                try clear c53
                try clear c54
                try clear c56
                try clear c59
                try clear c60
                try clear c62
                try clear c64
                try clear c65
                try clear hcz26_0
                try clear hcz26_1
                try clear hcz26_2
                try clear hcz26_3
                try clear hcz26_4
                try clear hcz31_0
                try clear hcz31_1
                try clear hcz31_2
                try clear hcz31_3
                try clear hcz31_4
                try clear hcz37_0
                try clear hcz37_1
                try clear hcz37_2
                try clear hcz37_3
                try clear hcz37_4
                try clear hcz48_0
                try clear hcz48_1
                try clear hcz48_2
                try clear hcz48_3
                try clear hcz48_4
                try clear hcz50_0
                try clear hcz50_1
                try clear hcz50_2
                try clear hcz50_3
                try clear hcz50_4
                try clear hcz51_0
                try clear hcz51_1
                try clear hcz51_2
                try clear hcz51_3
                try clear hcz51_4
                try clear hcz55_0
                try clear hcz55_1
                try clear hcz55_2
                try clear hcz55_3
                try clear hcz55_4
                try clear hcz57_0
                try clear hcz57_1
                try clear hcz57_2
                try clear hcz57_3
                try clear hcz57_4
                try clear hcz58_0
                try clear hcz58_1
                try clear hcz58_2
                try clear hcz58_3
                try clear hcz58_4
                try clear hcz61_0
                try clear hcz61_1
                try clear hcz61_2
                try clear hcz61_3
                try clear hcz61_4
                try clear hcz63_0
                try clear hcz63_1
                try clear hcz63_2
                try clear hcz63_3
                try clear hcz63_4
                try clear hcz66_0
                try clear hcz66_1
                try clear hcz66_2
                try clear hcz66_3
                try clear hcz66_4
                try clear hfz26_0
                try clear hfz26_1
                try clear hfz26_2
                try clear hfz26_3
                try clear hfz26_4
                try clear hfz31_0
                try clear hfz31_1
                try clear hfz31_2
                try clear hfz31_3
                try clear hfz31_4
                try clear hfz37_0
                try clear hfz37_1
                try clear hfz37_2
                try clear hfz37_3
                try clear hfz37_4
                try clear hfz48_0
                try clear hfz48_1
                try clear hfz48_2
                try clear hfz48_3
                try clear hfz48_4
                try clear hfz50_0
                try clear hfz50_1
                try clear hfz50_2
                try clear hfz50_3
                try clear hfz50_4
                try clear hfz51_0
                try clear hfz51_1
                try clear hfz51_2
                try clear hfz51_3
                try clear hfz51_4
                try clear hfz55_0
                try clear hfz55_1
                try clear hfz55_2
                try clear hfz55_3
                try clear hfz55_4
                try clear hfz57_0
                try clear hfz57_1
                try clear hfz57_2
                try clear hfz57_3
                try clear hfz57_4
                try clear hfz58_0
                try clear hfz58_1
                try clear hfz58_2
                try clear hfz58_3
                try clear hfz58_4
                try clear hfz61_0
                try clear hfz61_1
                try clear hfz61_2
                try clear hfz61_3
                try clear hfz61_4
                try clear hfz63_0
                try clear hfz63_1
                try clear hfz63_2
                try clear hfz63_3
                try clear hfz63_4
                try clear hfz66_0
                try clear hfz66_1
                try clear hfz66_2
                try clear hfz66_3
                try clear hfz66_4
                try clear p2
                obtain ⟨kq, x97_21, rfl, HA, HJ21, HO_16, HO_268004, HO_276004, HO_284004, BK267, BK275, BK283, HB⟩ := hcut
                cases kq with
                | zero => exact absurd HA.out (by simp [spencelaw31_ReplyParts.j1])
                | succ kj21 =>
                  have H := HA.out
                  clear HA
                  simp only [spencelaw31_ReplyParts.j1] at H
                  by_cases c67 : x97_21 = true
                  · subst c67
                    have H1 : (some false) = some r := by rw [if_pos rfl] at H; exact H
                    clear H
                    have H := H1
                    clear H1
                    obtain rfl := Option.some.inj H
                    go_wp2
                    go_ret
                    exact ⟨by first | rfl | exact ne_empty _ | exact eq_empty _ | (simp [errW_none, errW_some] <;> rfl) | (simp [*, errW_none, errW_some] <;> rfl), by repeat (first | (with_reducible first | exact HB.out | apply below_alloc | apply pw_below_drewN | apply below_drew1 | refine below_set ?_ GE267.out | refine below_set ?_ GE275.out | refine below_set ?_ GE283.out) | exact HB.out)⟩
                  · replace c67 := Bool.eq_false_iff.mpr c67
                    subst c67
                    have H1 : (spencelaw31_ReplyParts.l0 kj21 t258 t259 y287 (y287.length : Int) 0 t260 t261 t262 t263 t264 t268 t269 t270 t271 t272 t276 t277 t278 t279 t280) = some r := by rw [if_neg (show ¬ (false = true) by decide)] at H; exact H
                    clear H
                    have H := H1
                    clear H1
                    have H' := Aside0.mk H
                    clear H
                    obtain ⟨Ao68, co68, eo68⟩ := Kd.R_slice HO_16.out
                    subst eo68
                    go_wp2
                    go_loopg [100] kj21 (fun kq v100 w' => ∃ (x100_3 : Int), v100 = .int .i64 x100_3 ∧ Aside0 (spencelaw31_ReplyParts.l0 kq t258 t259 y287 (y287.length : Int) x100_3 t260 t261 t262 t263 t264 t268 t269 t270 t271 t272 t276 t277 t278 t279 t280 = some r) ∧ Aside0 (kq ≤ kj21) ∧ Aside0 (Kd.R (Kd.int .u8) 5 w' w.heap.size (fun k_ => some k_ ≠ ((.slice Ao27 t264.length co27) : Value).ownBlock ∧ some k_ ≠ ((.slice Ao32 t272.length co32) : Value).ownBlock ∧ some k_ ≠ ((.slice Ao38 t280.length co38) : Value).ownBlock) (.slice Ao68 y287.length co68) y287) ∧ Aside0 (Kd.R (Kd.int .u8) 5 w' w.heap.size (fun k_ => some k_ ≠ ((.slice Ao68 y287.length co68) : Value).ownBlock ∧ some k_ ≠ ((.slice Ao32 t272.length co32) : Value).ownBlock ∧ some k_ ≠ ((.slice Ao38 t280.length co38) : Value).ownBlock) (.slice Ao27 t264.length co27) t264) ∧ Aside0 (Kd.R (Kd.int .u8) 5 w' w.heap.size (fun k_ => some k_ ≠ ((.slice Ao68 y287.length co68) : Value).ownBlock ∧ some k_ ≠ ((.slice Ao27 t264.length co27) : Value).ownBlock ∧ some k_ ≠ ((.slice Ao38 t280.length co38) : Value).ownBlock) (.slice Ao32 t272.length co32) t272) ∧ Aside0 (Kd.R (Kd.int .u8) 5 w' w.heap.size (fun k_ => some k_ ≠ ((.slice Ao68 y287.length co68) : Value).ownBlock ∧ some k_ ≠ ((.slice Ao27 t264.length co27) : Value).ownBlock ∧ some k_ ≠ ((.slice Ao32 t272.length co32) : Value).ownBlock) (.slice Ao38 t280.length co38) t280) ∧ Aside0 (w'.heap[gb267]? = some (.cells #[.int .i64 t260, .string t261, .int .i64 t262, .string t263, (.slice Ao27 t264.length co27)] 64 (0, 0))) ∧ Aside0 (w'.heap[gb275]? = some (.cells #[.int .i64 t268, .string t269, .int .i64 t270, .string t271, (.slice Ao32 t272.length co32)] 64 (0, 0))) ∧ Aside0 (w'.heap[gb283]? = some (.cells #[.int .i64 t276, .string t277, .int .i64 t278, .string t279, (.slice Ao38 t280.length co38)] 64 (0, 0))) ∧ Aside0 (Below w.heap.size w w'))
                    case atStart => exact ⟨(0), (by first | rfl | (simp; done) | (simp [*]; done)), H', ⟨Nat.le_refl _⟩, ⟨by (with_reducible repeat (first | apply Kd.R_alloc | apply Kd.R_drewN | apply Kd.R_drew)); exact HO_16.out⟩, ⟨by (with_reducible repeat (first | apply Kd.R_alloc | apply Kd.R_drewN | apply Kd.R_drew)); exact HO_268004.out⟩, ⟨by (with_reducible repeat (first | apply Kd.R_alloc | apply Kd.R_drewN | apply Kd.R_drew)); exact HO_276004.out⟩, ⟨by (with_reducible repeat (first | apply Kd.R_alloc | apply Kd.R_drewN | apply Kd.R_drew)); exact HO_284004.out⟩, ⟨by (with_reducible repeat (first | refine blk_drewN ?_ _ | refine blk_drew ?_ | refine blk_alloc ?_ _)); exact BK267.out⟩, ⟨by (with_reducible repeat (first | refine blk_drewN ?_ _ | refine blk_drew ?_ | refine blk_alloc ?_ _)); exact BK275.out⟩, ⟨by (with_reducible repeat (first | refine blk_drewN ?_ _ | refine blk_drew ?_ | refine blk_alloc ?_ _)); exact BK283.out⟩, ⟨by repeat (first | (with_reducible first | exact HB.out | apply below_alloc | apply pw_below_drewN | apply below_drew1 | refine below_set ?_ GE267.out | refine below_set ?_ GE275.out | refine below_set ?_ GE283.out) | exact HB.out)⟩⟩
                    case round =>
                      clear H'
                      try clear c1
                      try clear c2
                      try clear p2
                      try clear c3
                      try clear c4
                      try clear c5
                      try clear c6
                      try clear c7
                      try clear c8
                      try clear c11
                      try clear c11b0
                      try clear c12
                      try clear c12b0
                      try clear c13
                      try clear c13b0
                      try clear c14
                      try clear c14b0
                      try clear c15
                      try clear c20
                      try clear c21
                      try clear c30
                      try clear c35
                      try clear c36
                      try clear c37
                      try clear c38
                      try clear c43
                      try clear c43b0
                      try clear c43b1
                      try clear c44
                      try clear c44b0
                      try clear c44b1
                      try clear c45
                      try clear c45b0
                      try clear c45b1
                      try clear c46
                      try clear c47
                      try clear c49
                      try clear c53
                      try clear c54
                      try clear c56
                      try clear c59
                      try clear c60
                      try clear c62
                      try clear c64
                      try clear c65
                      try clear c67
                      try clear hcz26_0
                      try clear hcz26_1
                      try clear hcz26_2
                      try clear hcz26_3
                      try clear hcz26_4
                      try clear hcz31_0
                      try clear hcz31_1
                      try clear hcz31_2
                      try clear hcz31_3
                      try clear hcz31_4
                      try clear hcz37_0
                      try clear hcz37_1
                      try clear hcz37_2
                      try clear hcz37_3
                      try clear hcz37_4
                      try clear hcz48_0
                      try clear hcz48_1
                      try clear hcz48_2
                      try clear hcz48_3
                      try clear hcz48_4
                      try clear hcz50_0
                      try clear hcz50_1
                      try clear hcz50_2
                      try clear hcz50_3
                      try clear hcz50_4
                      try clear hcz51_0
                      try clear hcz51_1
                      try clear hcz51_2
                      try clear hcz51_3
                      try clear hcz51_4
                      try clear hcz55_0
                      try clear hcz55_1
                      try clear hcz55_2
                      try clear hcz55_3
                      try clear hcz55_4
                      try clear hcz57_0
                      try clear hcz57_1
                      try clear hcz57_2
                      try clear hcz57_3
                      try clear hcz57_4
                      try clear hcz58_0
                      try clear hcz58_1
                      try clear hcz58_2
                      try clear hcz58_3
                      try clear hcz58_4
                      try clear hcz61_0
                      try clear hcz61_1
                      try clear hcz61_2
                      try clear hcz61_3
                      try clear hcz61_4
                      try clear hcz63_0
                      try clear hcz63_1
                      try clear hcz63_2
                      try clear hcz63_3
                      try clear hcz63_4
                      try clear hcz66_0
                      try clear hcz66_1
                      try clear hcz66_2
                      try clear hcz66_3
                      try clear hcz66_4
                      try clear hfz26_0
                      try clear hfz26_1
                      try clear hfz26_2
                      try clear hfz26_3
                      try clear hfz26_4
                      try clear hfz31_0
                      try clear hfz31_1
                      try clear hfz31_2
                      try clear hfz31_3
                      try clear hfz31_4
                      try clear hfz37_0
                      try clear hfz37_1
                      try clear hfz37_2
                      try clear hfz37_3
                      try clear hfz37_4
                      try clear hfz48_0
                      try clear hfz48_1
                      try clear hfz48_2
                      try clear hfz48_3
                      try clear hfz48_4
                      try clear hfz50_0
                      try clear hfz50_1
                      try clear hfz50_2
                      try clear hfz50_3
                      try clear hfz50_4
                      try clear hfz51_0
                      try clear hfz51_1
                      try clear hfz51_2
                      try clear hfz51_3
                      try clear hfz51_4
                      try clear hfz55_0
                      try clear hfz55_1
                      try clear hfz55_2
                      try clear hfz55_3
                      try clear hfz55_4
                      try clear hfz57_0
                      try clear hfz57_1
                      try clear hfz57_2
                      try clear hfz57_3
                      try clear hfz57_4
                      try clear hfz58_0
                      try clear hfz58_1
                      try clear hfz58_2
                      try clear hfz58_3
                      try clear hfz58_4
                      try clear hfz61_0
                      try clear hfz61_1
                      try clear hfz61_2
                      try clear hfz61_3
                      try clear hfz61_4
                      try clear hfz63_0
                      try clear hfz63_1
                      try clear hfz63_2
                      try clear hfz63_3
                      try clear hfz63_4
                      try clear hfz66_0
                      try clear hfz66_1
                      try clear hfz66_2
                      try clear hfz66_3
                      try clear hfz66_4
                      try clear p2
                      obtain ⟨x100_3, rfl, HA, HK3, HO_16, HO_268004, HO_276004, HO_284004, BK267, BK275, BK283, HB⟩ := hrel
                      cases gk with
                      | zero => exact absurd HA.out (by simp [spencelaw31_ReplyParts.l0])
                      | succ k3 =>
                        have H := HA.out
                        clear HA
                        simp only [spencelaw31_ReplyParts.l0] at H
                        by_cases c69 : x100_3 < (y287.length : Int)
                        · rw [if_pos c69] at H
                          have c69b0 : decide (x100_3 < (y287.length : Int)) = true := decide_eq_true c69
                          clear c69
                          by_cases c70 : 0 ≤ x100_3
                          · rw [if_pos c70] at H
                            have c70b0 : decide (0 ≤ x100_3) = true := decide_eq_true c70
                            clear c70
                            by_cases c71 : x100_3 < (y287.length : Int)
                            · rw [if_pos c71] at H
                              have c71b0 : decide (x100_3 < (y287.length : Int)) = true := decide_eq_true c71
                              clear c71
                              by_cases c72 : x100_3 < (t280.length : Int)
                              · rw [if_pos c72] at H
                                have c72b0 : decide (x100_3 < (t280.length : Int)) = true := decide_eq_true c72
                                clear c72
                                by_cases c73 : (rd y287 x100_3) = (rd t280 x100_3)
                                · rw [if_pos c73] at H
                                  have c73b0 : ((rd y287 x100_3) == (rd t280 x100_3)) = true := beq_iff_eq.mpr c73
                                  have c73b1 : ((rd y287 x100_3) != (rd t280 x100_3)) = false := bne_eq_false_iff_eq.mpr c73
                                  clear c73
                                  have H' := Aside0.mk H
                                  clear H
                                  try go_wp2
                                  have n0_ := Aside0.mk (Kd.R_drew HO_16.out)
                                  have n1_ := Aside0.mk (Kd.R_drew HO_268004.out)
                                  have n2_ := Aside0.mk (Kd.R_drew HO_276004.out)
                                  have n3_ := Aside0.mk (Kd.R_drew HO_284004.out)
                                  have n4_ := Aside0.mk (blk_drew BK267.out)
                                  have n5_ := Aside0.mk (blk_drew BK275.out)
                                  have n6_ := Aside0.mk (blk_drew BK283.out)
                                  have n7_ := Aside0.mk (below_drew1 HB.out)
                                  clear HO_16
                                  clear HO_268004
                                  clear HO_276004
                                  clear HO_284004
                                  clear BK267
                                  clear BK275
                                  clear BK283
                                  clear HB
                                  have HO_16 := n0_
                                  have HO_268004 := n1_
                                  have HO_276004 := n2_
                                  have HO_284004 := n3_
                                  have BK267 := n4_
                                  have BK275 := n5_
                                  have BK283 := n6_
                                  have HB := n7_
                                  clear n0_ n1_ n2_ n3_ n4_ n5_ n6_ n7_
                                  have p290 : 0 ≤ (x100_3 : Int) := of_decide_eq_true (by first | (with_reducible assumption) | assumption)
                                  have q290 : x100_3 < (y287.length : Int) := of_decide_eq_true (by first | (with_reducible assumption) | assumption)
                                  obtain ⟨ad290, e290, hx290_0⟩ := Kd.at_int (Kd.R_reads' HO_16.out).2.2 x100_3 p290 q290
                                  cases e290
                                  replace p290 := eq_true p290
                                  replace q290 := eq_true q290
                                  have p291 : 0 ≤ (x100_3 : Int) := of_decide_eq_true (by first | (with_reducible assumption) | assumption)
                                  have q291 : x100_3 < (t280.length : Int) := of_decide_eq_true (by first | (with_reducible assumption) | assumption)
                                  obtain ⟨ad291, e291, hx291_0⟩ := Kd.at_int (Kd.R_reads' HO_284004.out).2.2 x100_3 p291 q291
                                  cases e291
                                  replace p291 := eq_true p291
                                  replace q291 := eq_true q291
                                  refine start_ (n := 10) (S := fun w' => w'.cell? ⟨gb283, 0, none⟩ = some (.int .i64 t276) ∧ w'.cell? ⟨gb283, 1, none⟩ = some (.string t277) ∧ w'.cell? ⟨gb283, 2, none⟩ = some (.int .i64 t278) ∧ w'.cell? ⟨gb283, 3, none⟩ = some (.string t279) ∧ w'.cell? ⟨gb283, 4, none⟩ = some (.slice (some ad291) t280.length co38) ∧ w'.cell? (ad290.add (x100_3).toNat) = some (.int .u8 (rd y287 x100_3)) ∧ w'.cell? (ad291.add (x100_3).toNat) = some (.int .u8 (rd t280 x100_3))) (ds := []) #[false, false, false, false, false, false, false, false, false, false] (by kernel_rfl) rfl rfl ⟨(blk_cell BK283.out 0).trans rfl, (blk_cell BK283.out 1).trans rfl, (blk_cell BK283.out 2).trans rfl, (blk_cell BK283.out 3).trans rfl, (blk_cell BK283.out 4).trans rfl, hx290_0, hx291_0⟩ (fun hHeld => ?_); refine with_tabW spencelaw31_ReplyParts.tab16 spencelaw31_ReplyParts.bits16 (fun HT_ HW_ => ?_)
                                  generalize wr.drew = w74 at HO_16 HO_268004 HO_276004 HO_284004 BK267 BK275 BK283 HB hx290_0 hx291_0 hHeld ⊢
                                  refine pure_ (i := 0) (N := some 103) (v := ?_) (a' := ?_) #[true, false, false, false, false, false, false, false, false, false] rfl rfl (any_of HT_.out (by kernel_rfl)) (fun _ _ _ h => h) (Or.inl ⟨by rfl, ?_⟩) ?_ ?_
                                  rotate_left
                                  · intro w'
                                    go_simp
                                    with_reducible rfl
                                  rotate_left
                                  · simp only [Act.put, List.setIfInBounds_toArray, List.set_cons_zero, List.set_cons_succ, i64_w, i32_w]
                                    rfl
                                  refine pure_ (i := 1) (N := some 104) (v := ?_) (a' := ?_) #[true, true, false, false, false, false, false, false, false, false] rfl rfl (any_of HT_.out (by kernel_rfl)) (fun _ _ _ h => h) (Or.inl ⟨by rfl, ?_⟩) ?_ ?_
                                  rotate_left
                                  · intro w'
                                    go_simp
                                    with_reducible rfl
                                  rotate_left
                                  · simp only [Act.put, List.setIfInBounds_toArray, List.set_cons_zero, List.set_cons_succ, i64_w, i32_w]
                                    rfl
                                  refine pure_ (i := 2) (N := some 105) (v := ?_) (a' := ?_) #[true, true, true, false, false, false, false, false, false, false] rfl rfl (any_of HT_.out (by kernel_rfl)) (fun _ _ _ h => h) (Or.inl ⟨by rfl, ?_⟩) ?_ ?_
                                  rotate_left
                                  · intro w'
                                    go_simp
                                    with_reducible rfl
                                  rotate_left
                                  · simp only [Act.put, List.setIfInBounds_toArray, List.set_cons_zero, List.set_cons_succ, i64_w, i32_w]
                                    rfl
                                  refine pure_ (i := 4) (N := some 107) (v := ?_) (a' := ?_) #[true, true, true, false, true, false, false, false, false, false] rfl rfl (any_of HT_.out (by kernel_rfl)) (fun _ _ _ h => h) (Or.inl ⟨by rfl, ?_⟩) ?_ ?_
                                  rotate_left
                                  · intro w'
                                    go_simp
                                    with_reducible rfl
                                  rotate_left
                                  · simp only [Act.put, List.setIfInBounds_toArray, List.set_cons_zero, List.set_cons_succ, i64_w, i32_w]
                                    rfl
                                  refine pure_ (i := 6) (N := some 109) (v := ?_) (a' := ?_) #[true, true, true, false, true, false, true, false, false, false] rfl rfl (any_of HT_.out (by kernel_rfl)) (fun _ _ _ h => h) (Or.inl ⟨by rfl, ?_⟩) ?_ ?_
                                  rotate_left
                                  · intro w'
                                    go_simp
                                    with_reducible rfl
                                  rotate_left
                                  · simp only [Act.put, List.setIfInBounds_toArray, List.set_cons_zero, List.set_cons_succ, i64_w, i32_w]
                                    rfl
                                  refine take_ (i := 3) (N := some 106) (v := ?_) (a' := ?_) #[true, true, true, true, true, false, true, false, false, false] rfl rfl (take_ofW HT_.out HW_.out (by kernel_rfl)) (fun _ _ _ h => h) (Or.inl ⟨by rfl, ?_⟩) hHeld ?_ ?_
                                  rotate_left
                                  · rintro w' ⟨s0, s1, s2, s3, s4, s5, s6⟩
                                    go_simp
                                    with_reducible rfl
                                  rotate_left
                                  · simp only [Act.put, List.setIfInBounds_toArray, List.set_cons_zero, List.set_cons_succ, i64_w, i32_w]
                                    rfl
                                  refine take_ (i := 5) (N := some 108) (v := ?_) (a' := ?_) #[true, true, true, true, true, true, true, false, false, false] rfl rfl (take_ofW HT_.out HW_.out (by kernel_rfl)) (fun _ _ _ h => h) (Or.inl ⟨by rfl, ?_⟩) hHeld ?_ ?_
                                  rotate_left
                                  · rintro w' ⟨s0, s1, s2, s3, s4, s5, s6⟩
                                    go_simp
                                    with_reducible rfl
                                  rotate_left
                                  · simp only [Act.put, List.setIfInBounds_toArray, List.set_cons_zero, List.set_cons_succ, i64_w, i32_w]
                                    rfl
                                  refine pure_ (i := 7) (N := some 110) (v := ?_) (a' := ?_) #[true, true, true, true, true, true, true, true, false, false] rfl rfl (any_of HT_.out (by kernel_rfl)) (fun _ _ _ h => h) (Or.inl ⟨by rfl, ?_⟩) ?_ ?_
                                  rotate_left
                                  · intro w'
                                    go_simp
                                    with_reducible rfl
                                  rotate_left
                                  · simp only [Act.put, List.setIfInBounds_toArray, List.set_cons_zero, List.set_cons_succ, i64_w, i32_w]
                                    rfl
                                  refine take_ (i := 8) (N := some 111) (v := ?_) (a' := ?_) #[true, true, true, true, true, true, true, true, true, false] rfl rfl (take_ofW HT_.out HW_.out (by kernel_rfl)) (fun _ _ _ h => h) (Or.inl ⟨by rfl, ?_⟩) hHeld ?_ ?_
                                  rotate_left
                                  · rintro w' ⟨s0, s1, s2, s3, s4, s5, s6⟩
                                    go_simp
                                    with_reducible rfl
                                  rotate_left
                                  · simp only [Act.put, List.setIfInBounds_toArray, List.set_cons_zero, List.set_cons_succ, i64_w, i32_w]
                                    rfl
                                  refine pure_ (i := 9) (N := some 112) (v := ?_) (a' := ?_) #[true, true, true, true, true, true, true, true, true, true] rfl rfl (any_of HT_.out (by kernel_rfl)) (fun _ _ _ h => h) (Or.inl ⟨by rfl, ?_⟩) ?_ ?_
                                  rotate_left
                                  · intro w'
                                    go_simp
                                    with_reducible rfl
                                  rotate_left
                                  · simp only [Act.put, List.setIfInBounds_toArray, List.set_cons_zero, List.set_cons_succ, i64_w, i32_w]
                                    rfl
                                  refine done_ (done_of HT_.out (by kernel_rfl)) ?_
                                  try go_wp2
                                  go_roundg k3
                                  case measure => have := HJ8.out; have := HJ21.out; have := HK3.out; omega
                                  case rel => exact ⟨(wrap64 (x100_3 + 1)), (by first | rfl | (simp; done) | (simp [*]; done)), H', ⟨by have := HJ8.out; have := HJ21.out; have := HK3.out; omega⟩, ⟨by (with_reducible repeat (first | apply Kd.R_alloc | apply Kd.R_drewN | apply Kd.R_drew)); exact HO_16.out⟩, ⟨by (with_reducible repeat (first | apply Kd.R_alloc | apply Kd.R_drewN | apply Kd.R_drew)); exact HO_268004.out⟩, ⟨by (with_reducible repeat (first | apply Kd.R_alloc | apply Kd.R_drewN | apply Kd.R_drew)); exact HO_276004.out⟩, ⟨by (with_reducible repeat (first | apply Kd.R_alloc | apply Kd.R_drewN | apply Kd.R_drew)); exact HO_284004.out⟩, ⟨by (with_reducible repeat (first | refine blk_drewN ?_ _ | refine blk_drew ?_ | refine blk_alloc ?_ _)); exact BK267.out⟩, ⟨by (with_reducible repeat (first | refine blk_drewN ?_ _ | refine blk_drew ?_ | refine blk_alloc ?_ _)); exact BK275.out⟩, ⟨by (with_reducible repeat (first | refine blk_drewN ?_ _ | refine blk_drew ?_ | refine blk_alloc ?_ _)); exact BK283.out⟩, ⟨by repeat (first | (with_reducible first | exact HB.out | apply below_alloc | apply pw_below_drewN | apply below_drew1 | refine below_set ?_ GE267.out | refine below_set ?_ GE275.out | refine below_set ?_ GE283.out) | exact HB.out)⟩⟩
                                · rw [if_neg c73] at H
                                  have c73b0 : ((rd y287 x100_3) == (rd t280 x100_3)) = false := beq_eq_false_iff_ne.mpr c73
                                  have c73b1 : ((rd y287 x100_3) != (rd t280 x100_3)) = true := bne_iff_ne.mpr c73
                                  obtain rfl := Option.some.inj H
                                  try go_wp2
                                  have n0_ := Aside0.mk (Kd.R_drew HO_16.out)
                                  have n1_ := Aside0.mk (Kd.R_drew HO_268004.out)
                                  have n2_ := Aside0.mk (Kd.R_drew HO_276004.out)
                                  have n3_ := Aside0.mk (Kd.R_drew HO_284004.out)
                                  have n4_ := Aside0.mk (blk_drew BK267.out)
                                  have n5_ := Aside0.mk (blk_drew BK275.out)
                                  have n6_ := Aside0.mk (blk_drew BK283.out)
                                  have n7_ := Aside0.mk (below_drew1 HB.out)
                                  clear HO_16
                                  clear HO_268004
                                  clear HO_276004
                                  clear HO_284004
                                  clear BK267
                                  clear BK275
                                  clear BK283
                                  clear HB
                                  have HO_16 := n0_
                                  have HO_268004 := n1_
                                  have HO_276004 := n2_
                                  have HO_284004 := n3_
                                  have BK267 := n4_
                                  have BK275 := n5_
                                  have BK283 := n6_
                                  have HB := n7_
                                  clear n0_ n1_ n2_ n3_ n4_ n5_ n6_ n7_
                                  have p290 : 0 ≤ (x100_3 : Int) := of_decide_eq_true (by first | (with_reducible assumption) | assumption)
                                  have q290 : x100_3 < (y287.length : Int) := of_decide_eq_true (by first | (with_reducible assumption) | assumption)
                                  obtain ⟨ad290, e290, hx290_0⟩ := Kd.at_int (Kd.R_reads' HO_16.out).2.2 x100_3 p290 q290
                                  cases e290
                                  replace p290 := eq_true p290
                                  replace q290 := eq_true q290
                                  have p291 : 0 ≤ (x100_3 : Int) := of_decide_eq_true (by first | (with_reducible assumption) | assumption)
                                  have q291 : x100_3 < (t280.length : Int) := of_decide_eq_true (by first | (with_reducible assumption) | assumption)
                                  obtain ⟨ad291, e291, hx291_0⟩ := Kd.at_int (Kd.R_reads' HO_284004.out).2.2 x100_3 p291 q291
                                  cases e291
                                  replace p291 := eq_true p291
                                  replace q291 := eq_true q291
                                  refine start_ (n := 10) (S := fun w' => w'.cell? ⟨gb283, 0, none⟩ = some (.int .i64 t276) ∧ w'.cell? ⟨gb283, 1, none⟩ = some (.string t277) ∧ w'.cell? ⟨gb283, 2, none⟩ = some (.int .i64 t278) ∧ w'.cell? ⟨gb283, 3, none⟩ = some (.string t279) ∧ w'.cell? ⟨gb283, 4, none⟩ = some (.slice (some ad291) t280.length co38) ∧ w'.cell? (ad290.add (x100_3).toNat) = some (.int .u8 (rd y287 x100_3)) ∧ w'.cell? (ad291.add (x100_3).toNat) = some (.int .u8 (rd t280 x100_3))) (ds := []) #[false, false, false, false, false, false, false, false, false, false] (by kernel_rfl) rfl rfl ⟨(blk_cell BK283.out 0).trans rfl, (blk_cell BK283.out 1).trans rfl, (blk_cell BK283.out 2).trans rfl, (blk_cell BK283.out 3).trans rfl, (blk_cell BK283.out 4).trans rfl, hx290_0, hx291_0⟩ (fun hHeld => ?_); refine with_tabW spencelaw31_ReplyParts.tab16 spencelaw31_ReplyParts.bits16 (fun HT_ HW_ => ?_)
                                  generalize wr.drew = w75 at HO_16 HO_268004 HO_276004 HO_284004 BK267 BK275 BK283 HB hx290_0 hx291_0 hHeld ⊢
                                  refine pure_ (i := 0) (N := some 103) (v := ?_) (a' := ?_) #[true, false, false, false, false, false, false, false, false, false] rfl rfl (any_of HT_.out (by kernel_rfl)) (fun _ _ _ h => h) (Or.inl ⟨by rfl, ?_⟩) ?_ ?_
                                  rotate_left
                                  · intro w'
                                    go_simp
                                    with_reducible rfl
                                  rotate_left
                                  · simp only [Act.put, List.setIfInBounds_toArray, List.set_cons_zero, List.set_cons_succ, i64_w, i32_w]
                                    rfl
                                  refine pure_ (i := 1) (N := some 104) (v := ?_) (a' := ?_) #[true, true, false, false, false, false, false, false, false, false] rfl rfl (any_of HT_.out (by kernel_rfl)) (fun _ _ _ h => h) (Or.inl ⟨by rfl, ?_⟩) ?_ ?_
                                  rotate_left
                                  · intro w'
                                    go_simp
                                    with_reducible rfl
                                  rotate_left
                                  · simp only [Act.put, List.setIfInBounds_toArray, List.set_cons_zero, List.set_cons_succ, i64_w, i32_w]
                                    rfl
                                  refine pure_ (i := 2) (N := some 105) (v := ?_) (a' := ?_) #[true, true, true, false, false, false, false, false, false, false] rfl rfl (any_of HT_.out (by kernel_rfl)) (fun _ _ _ h => h) (Or.inl ⟨by rfl, ?_⟩) ?_ ?_
                                  rotate_left
                                  · intro w'
                                    go_simp
                                    with_reducible rfl
                                  rotate_left
                                  · simp only [Act.put, List.setIfInBounds_toArray, List.set_cons_zero, List.set_cons_succ, i64_w, i32_w]
                                    rfl
                                  refine pure_ (i := 4) (N := some 107) (v := ?_) (a' := ?_) #[true, true, true, false, true, false, false, false, false, false] rfl rfl (any_of HT_.out (by kernel_rfl)) (fun _ _ _ h => h) (Or.inl ⟨by rfl, ?_⟩) ?_ ?_
                                  rotate_left
                                  · intro w'
                                    go_simp
                                    with_reducible rfl
                                  rotate_left
                                  · simp only [Act.put, List.setIfInBounds_toArray, List.set_cons_zero, List.set_cons_succ, i64_w, i32_w]
                                    rfl
                                  refine pure_ (i := 6) (N := some 109) (v := ?_) (a' := ?_) #[true, true, true, false, true, false, true, false, false, false] rfl rfl (any_of HT_.out (by kernel_rfl)) (fun _ _ _ h => h) (Or.inl ⟨by rfl, ?_⟩) ?_ ?_
                                  rotate_left
                                  · intro w'
                                    go_simp
                                    with_reducible rfl
                                  rotate_left
                                  · simp only [Act.put, List.setIfInBounds_toArray, List.set_cons_zero, List.set_cons_succ, i64_w, i32_w]
                                    rfl
                                  refine take_ (i := 3) (N := some 106) (v := ?_) (a' := ?_) #[true, true, true, true, true, false, true, false, false, false] rfl rfl (take_ofW HT_.out HW_.out (by kernel_rfl)) (fun _ _ _ h => h) (Or.inl ⟨by rfl, ?_⟩) hHeld ?_ ?_
                                  rotate_left
                                  · rintro w' ⟨s0, s1, s2, s3, s4, s5, s6⟩
                                    go_simp
                                    with_reducible rfl
                                  rotate_left
                                  · simp only [Act.put, List.setIfInBounds_toArray, List.set_cons_zero, List.set_cons_succ, i64_w, i32_w]
                                    rfl
                                  refine take_ (i := 5) (N := some 108) (v := ?_) (a' := ?_) #[true, true, true, true, true, true, true, false, false, false] rfl rfl (take_ofW HT_.out HW_.out (by kernel_rfl)) (fun _ _ _ h => h) (Or.inl ⟨by rfl, ?_⟩) hHeld ?_ ?_
                                  rotate_left
                                  · rintro w' ⟨s0, s1, s2, s3, s4, s5, s6⟩
                                    go_simp
                                    with_reducible rfl
                                  rotate_left
                                  · simp only [Act.put, List.setIfInBounds_toArray, List.set_cons_zero, List.set_cons_succ, i64_w, i32_w]
                                    rfl
                                  refine pure_ (i := 7) (N := some 110) (v := ?_) (a' := ?_) #[true, true, true, true, true, true, true, true, false, false] rfl rfl (any_of HT_.out (by kernel_rfl)) (fun _ _ _ h => h) (Or.inl ⟨by rfl, ?_⟩) ?_ ?_
                                  rotate_left
                                  · intro w'
                                    go_simp
                                    with_reducible rfl
                                  rotate_left
                                  · simp only [Act.put, List.setIfInBounds_toArray, List.set_cons_zero, List.set_cons_succ, i64_w, i32_w]
                                    rfl
                                  refine take_ (i := 8) (N := some 111) (v := ?_) (a' := ?_) #[true, true, true, true, true, true, true, true, true, false] rfl rfl (take_ofW HT_.out HW_.out (by kernel_rfl)) (fun _ _ _ h => h) (Or.inl ⟨by rfl, ?_⟩) hHeld ?_ ?_
                                  rotate_left
                                  · rintro w' ⟨s0, s1, s2, s3, s4, s5, s6⟩
                                    go_simp
                                    with_reducible rfl
                                  rotate_left
                                  · simp only [Act.put, List.setIfInBounds_toArray, List.set_cons_zero, List.set_cons_succ, i64_w, i32_w]
                                    rfl
                                  refine pure_ (i := 9) (N := some 112) (v := ?_) (a' := ?_) #[true, true, true, true, true, true, true, true, true, true] rfl rfl (any_of HT_.out (by kernel_rfl)) (fun _ _ _ h => h) (Or.inl ⟨by rfl, ?_⟩) ?_ ?_
                                  rotate_left
                                  · intro w'
                                    go_simp
                                    with_reducible rfl
                                  rotate_left
                                  · simp only [Act.put, List.setIfInBounds_toArray, List.set_cons_zero, List.set_cons_succ, i64_w, i32_w]
                                    rfl
                                  refine done_ (done_of HT_.out (by kernel_rfl)) ?_
                                  try go_wp2
                                  go_ret
                                  exact ⟨by first | rfl | exact ne_empty _ | exact eq_empty _ | (simp [errW_none, errW_some] <;> rfl) | (simp [*, errW_none, errW_some] <;> rfl), by repeat (first | (with_reducible first | exact HB.out | apply below_alloc | apply pw_below_drewN | apply below_drew1 | refine below_set ?_ GE267.out | refine below_set ?_ GE275.out | refine below_set ?_ GE283.out) | exact HB.out)⟩
                              · rw [if_neg c72] at H
                                exact absurd H (by simp)
                            · rw [if_neg c71] at H
                              exact absurd H (by simp)
                          · rw [if_neg c70] at H
                            exact absurd H (by simp)
                        · rw [if_neg c69] at H
                          have c69b0 : decide (x100_3 < (y287.length : Int)) = false := decide_eq_false c69
                          clear c69
                          by_cases c76 : t262 = t258
                          · rw [if_pos c76] at H
                            have c76b0 : (t262 == t258) = true := beq_iff_eq.mpr c76
                            have c76b1 : (t262 != t258) = false := bne_eq_false_iff_eq.mpr c76
                            clear c76
                            by_cases c77 : t269.toList = t259.toList
                            · rw [if_pos c77] at H
                              have c77b0 : (t269.toList == t259.toList) = true := beq_iff_eq.mpr c77
                              have c77b1 : (t269.toList != t259.toList) = false := bne_eq_false_iff_eq.mpr c77
                              clear c77
                              obtain rfl := Option.some.inj H
                              have hnb78 := NB267_275.out
                              have hnc78 := NB275_267.out
                              have hnb79 := NB267_283.out
                              have hnc79 := NB283_267.out
                              have hcz80_0 : wr.cell? ⟨gb267, 0, none⟩ = some (.int .i64 t260) := (blk_cell BK267.out 0).trans rfl
                              have hcz80_1 : wr.cell? ⟨gb267, 1, none⟩ = some (.string t261) := (blk_cell BK267.out 1).trans rfl
                              have hcz80_2 : wr.cell? ⟨gb267, 2, none⟩ = some (.int .i64 t262) := (blk_cell BK267.out 2).trans rfl
                              have hcz80_3 : wr.cell? ⟨gb267, 3, none⟩ = some (.string t263) := (blk_cell BK267.out 3).trans rfl
                              have hcz80_4 : wr.cell? ⟨gb267, 4, none⟩ = some (.slice Ao27 t264.length co27) := (blk_cell BK267.out 4).trans rfl
                              have hfz80_0 := blk_frozen BK267.out 0
                              have hfz80_1 := blk_frozen BK267.out 1
                              have hfz80_2 := blk_frozen BK267.out 2
                              have hfz80_3 := blk_frozen BK267.out 3
                              have hfz80_4 := blk_frozen BK267.out 4
                              have hnb81 := NB275_283.out
                              have hnc81 := NB283_275.out
                              have hcz82_0 : wr.cell? ⟨gb275, 0, none⟩ = some (.int .i64 t268) := (blk_cell BK275.out 0).trans rfl
                              have hcz82_1 : wr.cell? ⟨gb275, 1, none⟩ = some (.string t269) := (blk_cell BK275.out 1).trans rfl
                              have hcz82_2 : wr.cell? ⟨gb275, 2, none⟩ = some (.int .i64 t270) := (blk_cell BK275.out 2).trans rfl
                              have hcz82_3 : wr.cell? ⟨gb275, 3, none⟩ = some (.string t271) := (blk_cell BK275.out 3).trans rfl
                              have hcz82_4 : wr.cell? ⟨gb275, 4, none⟩ = some (.slice Ao32 t272.length co32) := (blk_cell BK275.out 4).trans rfl
                              have hfz82_0 := blk_frozen BK275.out 0
                              have hfz82_1 := blk_frozen BK275.out 1
                              have hfz82_2 := blk_frozen BK275.out 2
                              have hfz82_3 := blk_frozen BK275.out 3
                              have hfz82_4 := blk_frozen BK275.out 4
                              have hcz83_0 : wr.cell? ⟨gb283, 0, none⟩ = some (.int .i64 t276) := (blk_cell BK283.out 0).trans rfl
                              have hcz83_1 : wr.cell? ⟨gb283, 1, none⟩ = some (.string t277) := (blk_cell BK283.out 1).trans rfl
                              have hcz83_2 : wr.cell? ⟨gb283, 2, none⟩ = some (.int .i64 t278) := (blk_cell BK283.out 2).trans rfl
                              have hcz83_3 : wr.cell? ⟨gb283, 3, none⟩ = some (.string t279) := (blk_cell BK283.out 3).trans rfl
                              have hcz83_4 : wr.cell? ⟨gb283, 4, none⟩ = some (.slice Ao38 t280.length co38) := (blk_cell BK283.out 4).trans rfl
                              have hfz83_0 := blk_frozen BK283.out 0
                              have hfz83_1 := blk_frozen BK283.out 1
                              have hfz83_2 := blk_frozen BK283.out 2
                              have hfz83_3 := blk_frozen BK283.out 3
                              have hfz83_4 := blk_frozen BK283.out 4
                              go_wp2
                              go_ret
                              exact ⟨by first | rfl | exact ne_empty _ | exact eq_empty _ | (simp [errW_none, errW_some] <;> rfl) | (simp [*, errW_none, errW_some] <;> rfl), by repeat (first | (with_reducible first | exact HB.out | apply below_alloc | apply pw_below_drewN | apply below_drew1 | refine below_set ?_ GE267.out | refine below_set ?_ GE275.out | refine below_set ?_ GE283.out) | exact HB.out)⟩
                            · rw [if_neg c77] at H
                              have c77b0 : (t269.toList == t259.toList) = false := beq_eq_false_iff_ne.mpr c77
                              have c77b1 : (t269.toList != t259.toList) = true := bne_iff_ne.mpr c77
                              obtain rfl := Option.some.inj H
                              have hnb84 := NB267_275.out
                              have hnc84 := NB275_267.out
                              have hnb85 := NB267_283.out
                              have hnc85 := NB283_267.out
                              have hcz86_0 : wr.cell? ⟨gb267, 0, none⟩ = some (.int .i64 t260) := (blk_cell BK267.out 0).trans rfl
                              have hcz86_1 : wr.cell? ⟨gb267, 1, none⟩ = some (.string t261) := (blk_cell BK267.out 1).trans rfl
                              have hcz86_2 : wr.cell? ⟨gb267, 2, none⟩ = some (.int .i64 t262) := (blk_cell BK267.out 2).trans rfl
                              have hcz86_3 : wr.cell? ⟨gb267, 3, none⟩ = some (.string t263) := (blk_cell BK267.out 3).trans rfl
                              have hcz86_4 : wr.cell? ⟨gb267, 4, none⟩ = some (.slice Ao27 t264.length co27) := (blk_cell BK267.out 4).trans rfl
                              have hfz86_0 := blk_frozen BK267.out 0
                              have hfz86_1 := blk_frozen BK267.out 1
                              have hfz86_2 := blk_frozen BK267.out 2
                              have hfz86_3 := blk_frozen BK267.out 3
                              have hfz86_4 := blk_frozen BK267.out 4
                              have hnb87 := NB275_283.out
                              have hnc87 := NB283_275.out
                              have hcz88_0 : wr.cell? ⟨gb275, 0, none⟩ = some (.int .i64 t268) := (blk_cell BK275.out 0).trans rfl
                              have hcz88_1 : wr.cell? ⟨gb275, 1, none⟩ = some (.string t269) := (blk_cell BK275.out 1).trans rfl
                              have hcz88_2 : wr.cell? ⟨gb275, 2, none⟩ = some (.int .i64 t270) := (blk_cell BK275.out 2).trans rfl
                              have hcz88_3 : wr.cell? ⟨gb275, 3, none⟩ = some (.string t271) := (blk_cell BK275.out 3).trans rfl
                              have hcz88_4 : wr.cell? ⟨gb275, 4, none⟩ = some (.slice Ao32 t272.length co32) := (blk_cell BK275.out 4).trans rfl
                              have hfz88_0 := blk_frozen BK275.out 0
                              have hfz88_1 := blk_frozen BK275.out 1
                              have hfz88_2 := blk_frozen BK275.out 2
                              have hfz88_3 := blk_frozen BK275.out 3
                              have hfz88_4 := blk_frozen BK275.out 4
                              go_wp2
                              go_ret
                              exact ⟨by first | rfl | exact ne_empty _ | exact eq_empty _ | (simp [errW_none, errW_some] <;> rfl) | (simp [*, errW_none, errW_some] <;> rfl), by repeat (first | (with_reducible first | exact HB.out | apply below_alloc | apply pw_below_drewN | apply below_drew1 | refine below_set ?_ GE267.out | refine below_set ?_ GE275.out | refine below_set ?_ GE283.out) | exact HB.out)⟩
                          · rw [if_neg c76] at H
                            have c76b0 : (t262 == t258) = false := beq_eq_false_iff_ne.mpr c76
                            have c76b1 : (t262 != t258) = true := bne_iff_ne.mpr c76
                            obtain rfl := Option.some.inj H
                            have hnb89 := NB267_275.out
                            have hnc89 := NB275_267.out
                            have hnb90 := NB267_283.out
                            have hnc90 := NB283_267.out
                            have hcz91_0 : wr.cell? ⟨gb267, 0, none⟩ = some (.int .i64 t260) := (blk_cell BK267.out 0).trans rfl
                            have hcz91_1 : wr.cell? ⟨gb267, 1, none⟩ = some (.string t261) := (blk_cell BK267.out 1).trans rfl
                            have hcz91_2 : wr.cell? ⟨gb267, 2, none⟩ = some (.int .i64 t262) := (blk_cell BK267.out 2).trans rfl
                            have hcz91_3 : wr.cell? ⟨gb267, 3, none⟩ = some (.string t263) := (blk_cell BK267.out 3).trans rfl
                            have hcz91_4 : wr.cell? ⟨gb267, 4, none⟩ = some (.slice Ao27 t264.length co27) := (blk_cell BK267.out 4).trans rfl
                            have hfz91_0 := blk_frozen BK267.out 0
                            have hfz91_1 := blk_frozen BK267.out 1
                            have hfz91_2 := blk_frozen BK267.out 2
                            have hfz91_3 := blk_frozen BK267.out 3
                            have hfz91_4 := blk_frozen BK267.out 4
                            go_wp2
                            go_ret
                            exact ⟨by first | rfl | exact ne_empty _ | exact eq_empty _ | (simp [errW_none, errW_some] <;> rfl) | (simp [*, errW_none, errW_some] <;> rfl), by repeat (first | (with_reducible first | exact HB.out | apply below_alloc | apply pw_below_drewN | apply below_drew1 | refine below_set ?_ GE267.out | refine below_set ?_ GE275.out | refine below_set ?_ GE283.out) | exact HB.out)⟩
            · rw [if_neg c21] at H
              exact absurd H (by simp)
          · rw [if_neg c20] at H
            exact absurd H (by simp)
  · replace c7 := Bool.eq_false_iff.mpr c7
    subst c7
    have H1 : (some false) = some r := by rw [if_neg (show ¬ (false = true) by decide)] at H; exact H
    clear H
    have H := H1
    clear H1
    obtain rfl := Option.some.inj H
    go_enter Try.func8, Try.ntmps8
    go_wp2_with (first | ((with_reducible refine gate_callee (f := 37) rfl ?_); refine goesL_ (some 18) rfl rfl Try.func37 (by kernel_rfl) rfl #[] rfl (by (try simp only [List.map_toArray, List.map_cons, List.map_nil]); first | done | rfl | (simp only [List.length_drop, List.length_take]; rfl)) ?_; (with_reducible refine (spencelaw31_awake.calls k  false _ A6.out).mono ?_); rintro e w92 ⟨rfl, hb⟩; refine ⟨_, rfl, ?_⟩; have n0_ := Aside0.mk (below_step (by repeat (first | (with_reducible first | exact HB.out | apply below_alloc | apply pw_below_drewN | apply below_drew1) | exact HB.out)) hb); clear HB; have HB := n0_; clear n0_; (try clear hb); (try clear hb2); (try clear hk); (try clear hi)))
    go_ret
    exact ⟨by first | rfl | exact ne_empty _ | exact eq_empty _ | (simp [errW_none, errW_some] <;> rfl) | (simp [*, errW_none, errW_some] <;> rfl), by repeat (first | (with_reducible first | exact HB.out | apply below_alloc | apply pw_below_drewN | apply below_drew1) | exact HB.out)⟩

/-- THE ONE PURE STATEMENT of spencelaw31_ReplyParts. -/
def spencelaw31_ReplyParts.Pure : Prop := ∀ (a0 : Int) (a1 : Int) (a2 : Int) (a3 : Int) (a4 : Int), (Lit.int .i64 a0).wf = true → (Lit.int .i64 a1).wf = true → (Lit.int .i64 a2).wf = true → (Lit.int .i64 a3).wf = true → (Lit.int .i64 a4).wf = true → ∃ k, spencelaw31_ReplyParts.f k a0 a1 a2 a3 a4 = some true

end Go.Proofs.Ytfcengffgkmacaa.PAll
