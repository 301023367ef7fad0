/- What the law ReplyFaults leans on (part 3 of 7): Go functions as plain functions, that the code comes to them, and what these answer. -/
import Derived.Test.YtfcengffgkmacaaKReplyFaults1
namespace Go.Proofs.Ytfcengffgkmacaa.PAll
open Go.RowKit Go.Proofs.Ytfcengffgkmacaa.Xw Go.Proofs.YtfcengffgkmacaaW.PrintWords Go.Proofs.YtfcengffgkmacaaW.PrintLast Go.Proofs.YtfcengffgkmacaaW.PrintMore
attribute [local go_sem] max2_int min2_int max_two min_two max_three min_three max_four min_four   -- for this text's walks alone
set_option linter.unusedVariables false
set_option linter.unusedSimpArgs false
def crange_Print.f (k : Nat) (a0_0 : Bool) (a0_1 : Int) (a0_2 : Int) (a0_3 : Int) : Option (ByteArray) := (crange_Right.f k a0_0 a0_1 a0_2 a0_3).bind fun t217 => (if t217 = true then (if a0_0 = true then ((nums_Print.f k a0_1).bind fun t218 => (if t218.size + 1 ≤ 9223372036854775807 then ((nums_Print.f k (wrap64 (a0_2 - 1))).bind fun t219 => (if t218.size + 1 + t219.size ≤ 9223372036854775807 then (if 6 + (t218.size + 1 + t219.size) ≤ 9223372036854775807 then (if a0_3 = (-1) then (if 6 + (t218.size + 1 + t219.size) + 2 ≤ 9223372036854775807 then (some (((⟨#[98, 121, 116, 101, 115, 32]⟩ : ByteArray) ++ ((t218 ++ (⟨#[45]⟩ : ByteArray)) ++ t219)) ++ (⟨#[47, 42]⟩ : ByteArray))) else (none)) else (if 6 + (t218.size + 1 + t219.size) + 1 ≤ 9223372036854775807 then ((nums_Print.f k a0_3).bind fun t220 => (if 6 + (t218.size + 1 + t219.size) + 1 + t220.size ≤ 9223372036854775807 then (some ((((⟨#[98, 121, 116, 101, 115, 32]⟩ : ByteArray) ++ ((t218 ++ (⟨#[45]⟩ : ByteArray)) ++ t219)) ++ (⟨#[47]⟩ : ByteArray)) ++ t220)) else (none))) else (none))) else (none)) else (none))) else (none))) else (if 6 + 1 ≤ 9223372036854775807 then (if a0_3 = (-1) then (if 7 + 2 ≤ 9223372036854775807 then (some (((⟨#[98, 121, 116, 101, 115, 32]⟩ : ByteArray) ++ (⟨#[42]⟩ : ByteArray)) ++ (⟨#[47, 42]⟩ : ByteArray))) else (none)) else (if 7 + 1 ≤ 9223372036854775807 then ((nums_Print.f k a0_3).bind fun t221 => (if 8 + t221.size ≤ 9223372036854775807 then (some ((((⟨#[98, 121, 116, 101, 115, 32]⟩ : ByteArray) ++ (⟨#[42]⟩ : ByteArray)) ++ (⟨#[47]⟩ : ByteArray)) ++ t221)) else (none))) else (none))) else (none))) else (some (⟨#[]⟩ : ByteArray)))
theorem crange_Print.mono : ∀ a0 a1 a2 a3 k, LeO (crange_Print.f k a0 a1 a2 a3) (crange_Print.f (k + 1) a0 a1 a2 a3) := by
  intro a0 a1 a2 a3 k
  unfold crange_Print.f
  repeat' first
      | (with_reducible exact crange_Right.mono _ _ _ _ _)
      | (with_reducible exact nums_Print.mono _ _)
      | (with_reducible exact LeO.refl _)
      | (with_reducible exact LeO.none _)
      | (with_reducible refine LeO.ite ?_ ?_)
      | (with_reducible refine LeO.bind ?_ (fun _ => ?_))
      | exact crange_Right.mono _ _ _ _ _
      | exact nums_Print.mono _ _
      | exact LeO.none _
      | refine LeO.ite ?_ ?_
      | refine LeO.bind ?_ (fun _ => ?_)
def crange_Print.T5 : Bool × List (List Nat × List Nat) := (true, [([], []), ([], []), ([1], [1]), ([2], [2]), ([3], [3]), ([4], [4]), ([], []), ([6], [6]), ([7], [7]), ([8], [8]), ([9, 4], [9]), ([5, 10], [5, 10]), ([0, 11], [0, 11]), ([12, 10, 0, 1, 2, 3, 4, 5, 6, 7, 8, 9, 10, 11, 12], [0, 12])])
def crange_Print.B5 : List Nat := [0, 0, 2, 6, 14, 30, 0, 64, 192, 448, 990, 2046, 4095, 8191]
theorem crange_Print.tab5 : rtab .any (opsOf Try.f66 5) = crange_Print.T5 := by kernel_rfl
theorem crange_Print.bits5 : waitsOk crange_Print.T5.2 crange_Print.B5 = true := by kernel_rfl
set_option maxHeartbeats 8000000 in
set_option maxRecDepth 100000 in
theorem crange_Print.calls (k : Nat) (a0_0 : Bool) (a0_1 : Int) (a0_2 : Int) (a0_3 : Int) (r : ByteArray) (w : World) (h : crange_Print.f k a0_0 a0_1 a0_2 a0_3 = some r) :
    Calls Try.prog 66 #[.agg #[.bool a0_0, .int .i64 a0_1, .int .i64 a0_2, .int .i64 a0_3]] w fun e w' => e = .returned (.string r) ∧ Below w.heap.size w w' := by
  have hu91 := Try.underlying91
  have HB := AsZ.mk (Below.refl w.heap.size w)
  have H : ((crange_Right.f k a0_0 a0_1 a0_2 a0_3).bind fun t217 => (if t217 = true then (if a0_0 = true then ((nums_Print.f k a0_1).bind fun t218 => (if t218.size + 1 ≤ 9223372036854775807 then ((nums_Print.f k (wrap64 (a0_2 - 1))).bind fun t219 => (if t218.size + 1 + t219.size ≤ 9223372036854775807 then (if 6 + (t218.size + 1 + t219.size) ≤ 9223372036854775807 then (if a0_3 = (-1) then (if 6 + (t218.size + 1 + t219.size) + 2 ≤ 9223372036854775807 then (some (((⟨#[98, 121, 116, 101, 115, 32]⟩ : ByteArray) ++ ((t218 ++ (⟨#[45]⟩ : ByteArray)) ++ t219)) ++ (⟨#[47, 42]⟩ : ByteArray))) else (none)) else (if 6 + (t218.size + 1 + t219.size) + 1 ≤ 9223372036854775807 then ((nums_Print.f k a0_3).bind fun t220 => (if 6 + (t218.size + 1 + t219.size) + 1 + t220.size ≤ 9223372036854775807 then (some ((((⟨#[98, 121, 116, 101, 115, 32]⟩ : ByteArray) ++ ((t218 ++ (⟨#[45]⟩ : ByteArray)) ++ t219)) ++ (⟨#[47]⟩ : ByteArray)) ++ t220)) else (none))) else (none))) else (none)) else (none))) else (none))) else (if 6 + 1 ≤ 9223372036854775807 then (if a0_3 = (-1) then (if 7 + 2 ≤ 9223372036854775807 then (some (((⟨#[98, 121, 116, 101, 115, 32]⟩ : ByteArray) ++ (⟨#[42]⟩ : ByteArray)) ++ (⟨#[47, 42]⟩ : ByteArray))) else (none)) else (if 7 + 1 ≤ 9223372036854775807 then ((nums_Print.f k a0_3).bind fun t221 => (if 8 + t221.size ≤ 9223372036854775807 then (some ((((⟨#[98, 121, 116, 101, 115, 32]⟩ : ByteArray) ++ (⟨#[42]⟩ : ByteArray)) ++ (⟨#[47]⟩ : ByteArray)) ++ t221)) else (none))) else (none))) else (none))) else (some (⟨#[]⟩ : ByteArray)))) = some r := h
  clear h
  replace H := Option.bind_eq_some_iff.mp H
  obtain ⟨t217, A20, H⟩ := H
  replace H : (if t217 = true then (if a0_0 = true then ((nums_Print.f k a0_1).bind fun t218 => (if t218.size + 1 ≤ 9223372036854775807 then ((nums_Print.f k (wrap64 (a0_2 - 1))).bind fun t219 => (if t218.size + 1 + t219.size ≤ 9223372036854775807 then (if 6 + (t218.size + 1 + t219.size) ≤ 9223372036854775807 then (if a0_3 = (-1) then (if 6 + (t218.size + 1 + t219.size) + 2 ≤ 9223372036854775807 then (some (((⟨#[98, 121, 116, 101, 115, 32]⟩ : ByteArray) ++ ((t218 ++ (⟨#[45]⟩ : ByteArray)) ++ t219)) ++ (⟨#[47, 42]⟩ : ByteArray))) else (none)) else (if 6 + (t218.size + 1 + t219.size) + 1 ≤ 9223372036854775807 then ((nums_Print.f k a0_3).bind fun t220 => (if 6 + (t218.size + 1 + t219.size) + 1 + t220.size ≤ 9223372036854775807 then (some ((((⟨#[98, 121, 116, 101, 115, 32]⟩ : ByteArray) ++ ((t218 ++ (⟨#[45]⟩ : ByteArray)) ++ t219)) ++ (⟨#[47]⟩ : ByteArray)) ++ t220)) else (none))) else (none))) else (none)) else (none))) else (none))) else (if 6 + 1 ≤ 9223372036854775807 then (if a0_3 = (-1) then (if 7 + 2 ≤ 9223372036854775807 then (some (((⟨#[98, 121, 116, 101, 115, 32]⟩ : ByteArray) ++ (⟨#[42]⟩ : ByteArray)) ++ (⟨#[47, 42]⟩ : ByteArray))) else (none)) else (if 7 + 1 ≤ 9223372036854775807 then ((nums_Print.f k a0_3).bind fun t221 => (if 8 + t221.size ≤ 9223372036854775807 then (some ((((⟨#[98, 121, 116, 101, 115, 32]⟩ : ByteArray) ++ (⟨#[42]⟩ : ByteArray)) ++ (⟨#[47]⟩ : ByteArray)) ++ t221)) else (none))) else (none))) else (none))) else (some (⟨#[]⟩ : ByteArray))) = some r := H
  have A2 := AsZ.mk A20
  clear A20
  by_cases c3 : t217 = true
  · subst c3
    have H1 : (if a0_0 = true then ((nums_Print.f k a0_1).bind fun t218 => (if t218.size + 1 ≤ 9223372036854775807 then ((nums_Print.f k (wrap64 (a0_2 - 1))).bind fun t219 => (if t218.size + 1 + t219.size ≤ 9223372036854775807 then (if 6 + (t218.size + 1 + t219.size) ≤ 9223372036854775807 then (if a0_3 = (-1) then (if 6 + (t218.size + 1 + t219.size) + 2 ≤ 9223372036854775807 then (some (((⟨#[98, 121, 116, 101, 115, 32]⟩ : ByteArray) ++ ((t218 ++ (⟨#[45]⟩ : ByteArray)) ++ t219)) ++ (⟨#[47, 42]⟩ : ByteArray))) else (none)) else (if 6 + (t218.size + 1 + t219.size) + 1 ≤ 9223372036854775807 then ((nums_Print.f k a0_3).bind fun t220 => (if 6 + (t218.size + 1 + t219.size) + 1 + t220.size ≤ 9223372036854775807 then (some ((((⟨#[98, 121, 116, 101, 115, 32]⟩ : ByteArray) ++ ((t218 ++ (⟨#[45]⟩ : ByteArray)) ++ t219)) ++ (⟨#[47]⟩ : ByteArray)) ++ t220)) else (none))) else (none))) else (none)) else (none))) else (none))) else (if 6 + 1 ≤ 9223372036854775807 then (if a0_3 = (-1) then (if 7 + 2 ≤ 9223372036854775807 then (some (((⟨#[98, 121, 116, 101, 115, 32]⟩ : ByteArray) ++ (⟨#[42]⟩ : ByteArray)) ++ (⟨#[47, 42]⟩ : ByteArray))) else (none)) else (if 7 + 1 ≤ 9223372036854775807 then ((nums_Print.f k a0_3).bind fun t221 => (if 8 + t221.size ≤ 9223372036854775807 then (some ((((⟨#[98, 121, 116, 101, 115, 32]⟩ : ByteArray) ++ (⟨#[42]⟩ : ByteArray)) ++ (⟨#[47]⟩ : ByteArray)) ++ t221)) else (none))) else (none))) else (none))) = some r := by rw [if_pos rfl] at H; exact H
    clear H
    have H := H1
    clear H1
    by_cases c4 : a0_0 = true
    · subst c4
      have H1 : ((nums_Print.f k a0_1).bind fun t218 => (if t218.size + 1 ≤ 9223372036854775807 then ((nums_Print.f k (wrap64 (a0_2 - 1))).bind fun t219 => (if t218.size + 1 + t219.size ≤ 9223372036854775807 then (if 6 + (t218.size + 1 + t219.size) ≤ 9223372036854775807 then (if a0_3 = (-1) then (if 6 + (t218.size + 1 + t219.size) + 2 ≤ 9223372036854775807 then (some (((⟨#[98, 121, 116, 101, 115, 32]⟩ : ByteArray) ++ ((t218 ++ (⟨#[45]⟩ : ByteArray)) ++ t219)) ++ (⟨#[47, 42]⟩ : ByteArray))) else (none)) else (if 6 + (t218.size + 1 + t219.size) + 1 ≤ 9223372036854775807 then ((nums_Print.f k a0_3).bind fun t220 => (if 6 + (t218.size + 1 + t219.size) + 1 + t220.size ≤ 9223372036854775807 then (some ((((⟨#[98, 121, 116, 101, 115, 32]⟩ : ByteArray) ++ ((t218 ++ (⟨#[45]⟩ : ByteArray)) ++ t219)) ++ (⟨#[47]⟩ : ByteArray)) ++ t220)) else (none))) else (none))) else (none)) else (none))) else (none))) = some r := by rw [if_pos rfl] at H; exact H
      clear H
      have H := H1
      clear H1
      replace H := Option.bind_eq_some_iff.mp H
      obtain ⟨t218, A50, H⟩ := H
      replace H : (if t218.size + 1 ≤ 9223372036854775807 then ((nums_Print.f k (wrap64 (a0_2 - 1))).bind fun t219 => (if t218.size + 1 + t219.size ≤ 9223372036854775807 then (if 6 + (t218.size + 1 + t219.size) ≤ 9223372036854775807 then (if a0_3 = (-1) then (if 6 + (t218.size + 1 + t219.size) + 2 ≤ 9223372036854775807 then (some (((⟨#[98, 121, 116, 101, 115, 32]⟩ : ByteArray) ++ ((t218 ++ (⟨#[45]⟩ : ByteArray)) ++ t219)) ++ (⟨#[47, 42]⟩ : ByteArray))) else (none)) else (if 6 + (t218.size + 1 + t219.size) + 1 ≤ 9223372036854775807 then ((nums_Print.f k a0_3).bind fun t220 => (if 6 + (t218.size + 1 + t219.size) + 1 + t220.size ≤ 9223372036854775807 then (some ((((⟨#[98, 121, 116, 101, 115, 32]⟩ : ByteArray) ++ ((t218 ++ (⟨#[45]⟩ : ByteArray)) ++ t219)) ++ (⟨#[47]⟩ : ByteArray)) ++ t220)) else (none))) else (none))) else (none)) else (none))) else (none)) = some r := H
      have A5 := AsZ.mk A50
      clear A50
      by_cases c6 : t218.size + 1 ≤ 9223372036854775807
      · rw [if_pos c6] at H
        have c6b0 := eq_true c6
        have c6b1 : decide (t218.size + 1 ≤ 9223372036854775807) = true := decide_eq_true c6
        try have c6b2 : (9223372036854775807 < t218.size + 1) = False := eq_false (Nat.not_lt.2 c6)
        replace H := Option.bind_eq_some_iff.mp H
        obtain ⟨t219, A70, H⟩ := H
        replace H : (if t218.size + 1 + t219.size ≤ 9223372036854775807 then (if 6 + (t218.size + 1 + t219.size) ≤ 9223372036854775807 then (if a0_3 = (-1) then (if 6 + (t218.size + 1 + t219.size) + 2 ≤ 9223372036854775807 then (some (((⟨#[98, 121, 116, 101, 115, 32]⟩ : ByteArray) ++ ((t218 ++ (⟨#[45]⟩ : ByteArray)) ++ t219)) ++ (⟨#[47, 42]⟩ : ByteArray))) else (none)) else (if 6 + (t218.size + 1 + t219.size) + 1 ≤ 9223372036854775807 then ((nums_Print.f k a0_3).bind fun t220 => (if 6 + (t218.size + 1 + t219.size) + 1 + t220.size ≤ 9223372036854775807 then (some ((((⟨#[98, 121, 116, 101, 115, 32]⟩ : ByteArray) ++ ((t218 ++ (⟨#[45]⟩ : ByteArray)) ++ t219)) ++ (⟨#[47]⟩ : ByteArray)) ++ t220)) else (none))) else (none))) else (none)) else (none)) = some r := H
        have A7 := AsZ.mk A70
        clear A70
        by_cases c8 : t218.size + 1 + t219.size ≤ 9223372036854775807
        · rw [if_pos c8] at H
          have c8b0 := eq_true c8
          have c8b1 : decide (t218.size + 1 + t219.size ≤ 9223372036854775807) = true := decide_eq_true c8
          try have c8b2 : (9223372036854775807 < t218.size + 1 + t219.size) = False := eq_false (Nat.not_lt.2 c8)
          by_cases c9 : 6 + (t218.size + 1 + t219.size) ≤ 9223372036854775807
          · rw [if_pos c9] at H
            have c9b0 := eq_true c9
            have c9b1 : decide (6 + (t218.size + 1 + t219.size) ≤ 9223372036854775807) = true := decide_eq_true c9
            try have c9b2 : (9223372036854775807 < 6 + (t218.size + 1 + t219.size)) = False := eq_false (Nat.not_lt.2 c9)
            by_cases c10 : a0_3 = (-1)
            · rw [if_pos c10] at H
              have c10b0 : (a0_3 == (-1)) = true := beq_iff_eq.mpr c10
              have c10b1 : (a0_3 != (-1)) = false := bne_eq_false_iff_eq.mpr c10
              clear c10
              by_cases c11 : 6 + (t218.size + 1 + t219.size) + 2 ≤ 9223372036854775807
              · rw [if_pos c11] at H
                have c11b0 := eq_true c11
                have c11b1 : decide (6 + (t218.size + 1 + t219.size) + 2 ≤ 9223372036854775807) = true := decide_eq_true c11
                try have c11b2 : (9223372036854775807 < 6 + (t218.size + 1 + t219.size) + 2) = False := eq_false (Nat.not_lt.2 c11)
                obtain rfl := Option.some.inj H
                go_enter Try.func66, Try.ntmps66
                try go_wp2_with (first | ((with_reducible refine gDs (N := 1) rfl ?_); refine bEv ?hg (N := 1) ?hd (cs := #[.bool true, .int .i64 a0_1, .int .i64 a0_2, .int .i64 a0_3]) (t := 91) ?hr ?_; (case hd => rfl); (case hg => rfl); (case hr => first | (go_simp; done) | (go_simp; rfl)); intro gb216 hg w12 hbox hb; have n0_ := AsZ.mk (tBl (by repeat (first | (with_reducible first | exact HB.out | apply aBl | apply pBd | apply dBl) | exact HB.out)) hb); have n1_ := AsZ.mk (hbox); have n2_ := AsZ.mk ((by rw [hg]; exact (zBl (by repeat (first | (with_reducible first | exact HB.out | apply aBl | apply pBd | apply dBl) | exact HB.out))) : w.heap.size ≤ gb216)); have n3_ := AsZ.mk ((by rw [hg]; exact (zBl (by repeat (first | (with_reducible first | exact HB.out | apply aBl | apply pBd | apply dBl) | exact HB.out))) : w.heap.size ≤ gb216)); clear HB; have HB := n0_; have BK216 := n1_; have GW216 := n2_; have GE216 := n3_; clear n0_ n1_ n2_ n3_; clear hb hbox hg; have hcz13_0 : w12.cell? ⟨gb216, 0, none⟩ = some (.bool true) := (bCe BK216.out 0).trans rfl; have hcz13_1 : w12.cell? ⟨gb216, 1, none⟩ = some (.int .i64 a0_1) := (bCe BK216.out 1).trans rfl; have hcz13_2 : w12.cell? ⟨gb216, 2, none⟩ = some (.int .i64 a0_2) := (bCe BK216.out 2).trans rfl; have hcz13_3 : w12.cell? ⟨gb216, 3, none⟩ = some (.int .i64 a0_3) := (bCe BK216.out 3).trans rfl; have hfz13_0 := bFz BK216.out 0; have hfz13_1 := bFz BK216.out 1; have hfz13_2 := bFz BK216.out 2; have hfz13_3 := bFz BK216.out 3) | ((with_reducible refine gCa (f := 73) rfl ?_); refine gLl (some 5) rfl rfl Try.func73 (by kernel_rfl) rfl #[.agg #[.bool true, .int .i64 a0_1, .int .i64 a0_2, .int .i64 a0_3]] rfl (by (try simp only [List.map_toArray, List.map_cons, List.map_nil]); first | done | rfl | (simp only [List.length_drop, List.length_take]; rfl)) ?_; (with_reducible refine (crange_Right.calls k true a0_1 a0_2 a0_3 true _ A2.out).mono ?_); rintro e w14 ⟨rfl, hb⟩; refine ⟨_, rfl, ?_⟩; have n0_ := AsZ.mk (bBl (g := gb216) (o := .cells #[.bool true, .int .i64 a0_1, .int .i64 a0_2, .int .i64 a0_3] 91 (0, 0)) (by (with_reducible repeat (first | refine bDn ?_ _ | refine bDr ?_ | refine bAl ?_ _)); exact BK216.out) hb); have n1_ := AsZ.mk (tBl (by repeat (first | (with_reducible first | exact HB.out | apply aBl | apply pBd | apply dBl | refine sBl ?_ GE216.out) | exact HB.out)) hb); clear BK216; clear HB; have BK216 := n0_; have HB := n1_; clear n0_ n1_; (try clear hb); (try clear hb2); (try clear hk); (try clear hi); have hcz15_0 : w14.cell? ⟨gb216, 0, none⟩ = some (.bool true) := (bCe BK216.out 0).trans rfl; have hcz15_1 : w14.cell? ⟨gb216, 1, none⟩ = some (.int .i64 a0_1) := (bCe BK216.out 1).trans rfl; have hcz15_2 : w14.cell? ⟨gb216, 2, none⟩ = some (.int .i64 a0_2) := (bCe BK216.out 2).trans rfl; have hcz15_3 : w14.cell? ⟨gb216, 3, none⟩ = some (.int .i64 a0_3) := (bCe BK216.out 3).trans rfl; have hfz15_0 := bFz BK216.out 0; have hfz15_1 := bFz BK216.out 1; have hfz15_2 := bFz BK216.out 2; have hfz15_3 := bFz BK216.out 3))
                have n0_ := AsZ.mk (bDr BK216.out)
                have n1_ := AsZ.mk (dBl HB.out)
                clear BK216
                clear HB
                have BK216 := n0_
                have HB := n1_
                clear n0_ n1_
                refine start_ (n := 14) (S := fun w' => w'.cell? ⟨gb216, 0, none⟩ = some (.bool true) ∧ w'.cell? ⟨gb216, 1, none⟩ = some (.int .i64 a0_1) ∧ w'.cell? ⟨gb216, 2, none⟩ = some (.int .i64 a0_2) ∧ w'.cell? ⟨gb216, 3, none⟩ = some (.int .i64 a0_3)) (ds := []) #[false, false, false, false, false, false, false, false, false, false, false, false, false, false] (by kernel_rfl) rfl rfl ⟨(bCe BK216.out 0).trans rfl, (bCe BK216.out 1).trans rfl, (bCe BK216.out 2).trans rfl, (bCe BK216.out 3).trans rfl⟩ (fun hHeld => ?_); refine with_tabW crange_Print.tab5 crange_Print.bits5 (fun HT_ HW_ => ?_)
                generalize w14.drew = w16 at BK216 HB hHeld ⊢
                refine pure_ (i := 0) (N := some 9) (v := ?_) (a' := ?_) #[true, false, false, false, false, false, false, false, false, false, false, false, false, false] rfl rfl (any_of HT_.out (by kernel_rfl)) (fun _ _ _ h => h) (Or.inl ⟨by rfl, ?_⟩) ?_ ?_
                rotate_left
                · intro w'
                  go_simp
                  with_reducible rfl
                rotate_left
                · simp only [Act.put, List.setIfInBounds_toArray, List.set_cons_zero, List.set_cons_succ, i64_w, i32_w]
                  rfl
                refine pure_ (i := 1) (N := some 10) (v := ?_) (a' := ?_) #[true, true, false, false, false, false, false, false, false, false, false, false, false, false] rfl rfl (any_of HT_.out (by kernel_rfl)) (fun _ _ _ h => h) (Or.inl ⟨by rfl, ?_⟩) ?_ ?_
                rotate_left
                · intro w'
                  go_simp
                  with_reducible rfl
                rotate_left
                · simp only [Act.put, List.setIfInBounds_toArray, List.set_cons_zero, List.set_cons_succ, i64_w, i32_w]
                  rfl
                refine pure_ (i := 2) (N := some 11) (v := ?_) (a' := ?_) #[true, true, true, false, false, false, false, false, false, false, false, false, false, false] rfl rfl (any_of HT_.out (by kernel_rfl)) (fun _ _ _ h => h) (Or.inl ⟨by rfl, ?_⟩) ?_ ?_
                rotate_left
                · intro w'
                  go_simp
                  with_reducible rfl
                rotate_left
                · simp only [Act.put, List.setIfInBounds_toArray, List.set_cons_zero, List.set_cons_succ, i64_w, i32_w]
                  rfl
                refine pure_ (i := 6) (N := some 15) (v := ?_) (a' := ?_) #[true, true, true, false, false, false, true, false, false, false, false, false, false, false] rfl rfl (any_of HT_.out (by kernel_rfl)) (fun _ _ _ h => h) (Or.inl ⟨by rfl, ?_⟩) ?_ ?_
                rotate_left
                · intro w'
                  go_simp
                  with_reducible rfl
                rotate_left
                · simp only [Act.put, List.setIfInBounds_toArray, List.set_cons_zero, List.set_cons_succ, i64_w, i32_w]
                  rfl
                refine pure_ (i := 7) (N := some 16) (v := ?_) (a' := ?_) #[true, true, true, false, false, false, true, true, false, false, false, false, false, false] rfl rfl (any_of HT_.out (by kernel_rfl)) (fun _ _ _ h => h) (Or.inl ⟨by rfl, ?_⟩) ?_ ?_
                rotate_left
                · intro w'
                  go_simp
                  with_reducible rfl
                rotate_left
                · simp only [Act.put, List.setIfInBounds_toArray, List.set_cons_zero, List.set_cons_succ, i64_w, i32_w]
                  rfl
                refine take_ (i := 3) (N := some 12) (v := ?_) (a' := ?_) #[true, true, true, true, false, false, true, true, false, false, false, false, false, false] rfl rfl (take_ofW HT_.out HW_.out (by kernel_rfl)) (fun _ _ _ h => h) (Or.inl ⟨by rfl, ?_⟩) hHeld ?_ ?_
                rotate_left
                · rintro w' ⟨s0, s1, s2, s3⟩
                  go_simp
                  with_reducible rfl
                rotate_left
                · simp only [Act.put, List.setIfInBounds_toArray, List.set_cons_zero, List.set_cons_succ, i64_w, i32_w]
                  rfl
                refine take_ (i := 8) (N := some 17) (v := ?_) (a' := ?_) #[true, true, true, true, false, false, true, true, true, false, false, false, false, false] rfl rfl (take_ofW HT_.out HW_.out (by kernel_rfl)) (fun _ _ _ h => h) (Or.inl ⟨by rfl, ?_⟩) hHeld ?_ ?_
                rotate_left
                · rintro w' ⟨s0, s1, s2, s3⟩
                  go_simp
                  with_reducible rfl
                rotate_left
                · simp only [Act.put, List.setIfInBounds_toArray, List.set_cons_zero, List.set_cons_succ, i64_w, i32_w]
                  rfl
                refine pure_ (i := 9) (N := some 18) (v := ?_) (a' := ?_) #[true, true, true, true, false, false, true, true, true, true, false, false, false, false] rfl rfl (any_of HT_.out (by kernel_rfl)) (fun _ _ _ h => h) (Or.inl ⟨by rfl, ?_⟩) ?_ ?_
                rotate_left
                · intro w'
                  go_simp
                  with_reducible rfl
                rotate_left
                · simp only [Act.put, List.setIfInBounds_toArray, List.set_cons_zero, List.set_cons_succ, i64_w, i32_w]
                  rfl
                refine one_ (i := 4) (N := some 13) #[true, true, true, true, true, false, true, true, true, true, false, false, false, false] rfl rfl (one_of HT_.out (by kernel_rfl)) (by decide) (fun K hK => ?_)
                refine goes_ Try.func47 (by kernel_rfl) rfl #[.int .i64 a0_1] (by rfl) rfl rfl (by (try simp only [List.map_toArray, List.map_cons, List.map_nil]); first | done | rfl | (simp only [List.length_drop, List.length_take]; rfl)) ?_
                with_reducible refine (nums_Print.calls k a0_1 t218 _ A5.out).mono ?_
                rintro e w17 ⟨rfl, hb⟩
                refine ⟨_, rfl, ?_⟩
                have n0_ := AsZ.mk (bBl (g := gb216) (o := .cells #[.bool true, .int .i64 a0_1, .int .i64 a0_2, .int .i64 a0_3] 91 (0, 0)) (by (with_reducible repeat (first | refine bDn ?_ _ | refine bDr ?_ | refine bAl ?_ _)); exact BK216.out) hb)
                have n1_ := AsZ.mk (tBl (by repeat (first | (with_reducible first | exact HB.out | apply aBl | apply pBd | apply dBl | refine sBl ?_ GE216.out) | exact HB.out)) hb)
                clear BK216
                clear HB
                have BK216 := n0_
                have HB := n1_
                clear n0_ n1_
                (try clear hb)
                (try clear hb2)
                (try clear hk)
                (try clear hi)
                refine hK.out _ _ ⟨(bCe BK216.out 0).trans rfl, (bCe BK216.out 1).trans rfl, (bCe BK216.out 2).trans rfl, (bCe BK216.out 3).trans rfl⟩ (fun hHeld => ?_)
                clear hK K
                refine norm_ (a' := ?_) ?_ ?_
                rotate_left
                · show Act.put _ (some 13) _ = _
                  simp only [Act.put, List.setIfInBounds_toArray, List.set_cons_zero, List.set_cons_succ, i64_w, i32_w]
                  rfl
                refine pure_ (i := 5) (N := some 14) (v := ?_) (a' := ?_) #[true, true, true, true, true, true, true, true, true, true, false, false, false, false] rfl rfl (any_of HT_.out (by kernel_rfl)) (fun _ _ _ h => h) (Or.inl ⟨by rfl, ?_⟩) ?_ ?_
                rotate_left
                · intro w'
                  go_simp
                  with_reducible rfl
                rotate_left
                · simp only [Act.put, List.setIfInBounds_toArray, List.set_cons_zero, List.set_cons_succ, i64_w, i32_w]
                  rfl
                refine one_ (i := 10) (N := some 19) #[true, true, true, true, true, true, true, true, true, true, true, false, false, false] rfl rfl (one_of HT_.out (by kernel_rfl)) (by decide) (fun K hK => ?_)
                refine goes_ Try.func47 (by kernel_rfl) rfl #[.int .i64 (wrap64 (a0_2 - 1))] (by rfl) rfl rfl (by (try simp only [List.map_toArray, List.map_cons, List.map_nil]); first | done | rfl | (simp only [List.length_drop, List.length_take]; rfl)) ?_
                with_reducible refine (nums_Print.calls k (wrap64 (a0_2 - 1)) t219 _ A7.out).mono ?_
                rintro e w18 ⟨rfl, hb⟩
                refine ⟨_, rfl, ?_⟩
                have n0_ := AsZ.mk (bBl (g := gb216) (o := .cells #[.bool true, .int .i64 a0_1, .int .i64 a0_2, .int .i64 a0_3] 91 (0, 0)) (by (with_reducible repeat (first | refine bDn ?_ _ | refine bDr ?_ | refine bAl ?_ _)); exact BK216.out) hb)
                have n1_ := AsZ.mk (tBl (by repeat (first | (with_reducible first | exact HB.out | apply aBl | apply pBd | apply dBl | refine sBl ?_ GE216.out) | exact HB.out)) hb)
                clear BK216
                clear HB
                have BK216 := n0_
                have HB := n1_
                clear n0_ n1_
                (try clear hb)
                (try clear hb2)
                (try clear hk)
                (try clear hi)
                refine hK.out _ _ ⟨(bCe BK216.out 0).trans rfl, (bCe BK216.out 1).trans rfl, (bCe BK216.out 2).trans rfl, (bCe BK216.out 3).trans rfl⟩ (fun hHeld => ?_)
                clear hK K
                refine norm_ (a' := ?_) ?_ ?_
                rotate_left
                · show Act.put _ (some 19) _ = _
                  simp only [Act.put, List.setIfInBounds_toArray, List.set_cons_zero, List.set_cons_succ, i64_w, i32_w]
                  rfl
                refine pure_ (i := 11) (N := some 20) (v := ?_) (a' := ?_) #[true, true, true, true, true, true, true, true, true, true, true, true, false, false] rfl rfl (any_of HT_.out (by kernel_rfl)) (fun _ _ _ h => h) (Or.inl ⟨by rfl, ?_⟩) ?_ ?_
                rotate_left
                · intro w'
                  go_simp
                  with_reducible rfl
                rotate_left
                · simp only [Act.put, List.setIfInBounds_toArray, List.set_cons_zero, List.set_cons_succ, i64_w, i32_w]
                  rfl
                refine pure_ (i := 12) (N := some 21) (v := ?_) (a' := ?_) #[true, true, true, true, true, true, true, true, true, true, true, true, true, false] rfl rfl (any_of HT_.out (by kernel_rfl)) (fun _ _ _ h => h) (Or.inl ⟨by rfl, ?_⟩) ?_ ?_
                rotate_left
                · intro w'
                  go_simp
                  with_reducible rfl
                rotate_left
                · simp only [Act.put, List.setIfInBounds_toArray, List.set_cons_zero, List.set_cons_succ, i64_w, i32_w]
                  rfl
                refine pure_ (i := 13) (N := some 3) (v := ?_) (a' := ?_) #[true, true, true, true, true, true, true, true, true, true, true, true, true, true] rfl rfl (any_of HT_.out (by kernel_rfl)) (fun _ _ _ h => h) (Or.inl ⟨by rfl, ?_⟩) ?_ ?_
                rotate_left
                · intro w'
                  go_simp
                  with_reducible rfl
                rotate_left
                · simp only [Act.put, List.setIfInBounds_toArray, List.set_cons_zero, List.set_cons_succ, i64_w, i32_w]
                  rfl
                refine done_ (done_of HT_.out (by kernel_rfl)) ?_
                have hcz19_0 : w18.cell? ⟨gb216, 0, none⟩ = some (.bool true) := (bCe BK216.out 0).trans rfl
                have hcz19_1 : w18.cell? ⟨gb216, 1, none⟩ = some (.int .i64 a0_1) := (bCe BK216.out 1).trans rfl
                have hcz19_2 : w18.cell? ⟨gb216, 2, none⟩ = some (.int .i64 a0_2) := (bCe BK216.out 2).trans rfl
                have hcz19_3 : w18.cell? ⟨gb216, 3, none⟩ = some (.int .i64 a0_3) := (bCe BK216.out 3).trans rfl
                have hfz19_0 := bFz BK216.out 0
                have hfz19_1 := bFz BK216.out 1
                have hfz19_2 := bFz BK216.out 2
                have hfz19_3 := bFz BK216.out 3
                try go_wp2
                go_ret
                exact ⟨by first | rfl | exact nEm _ | exact eEm _ | (simp [eWn, eWs] <;> rfl) | (simp [*, eWn, eWs] <;> rfl), by repeat (first | (with_reducible first | exact HB.out | apply aBl | apply pBd | apply dBl | refine sBl ?_ GE216.out) | exact HB.out)⟩
              · rw [if_neg c11] at H
                exact absurd H (by simp)
            · rw [if_neg c10] at H
              have c10b0 : (a0_3 == (-1)) = false := beq_eq_false_iff_ne.mpr c10
              have c10b1 : (a0_3 != (-1)) = true := bne_iff_ne.mpr c10
              by_cases c20 : 6 + (t218.size + 1 + t219.size) + 1 ≤ 9223372036854775807
              · rw [if_pos c20] at H
                have c20b0 := eq_true c20
                have c20b1 : decide (6 + (t218.size + 1 + t219.size) + 1 ≤ 9223372036854775807) = true := decide_eq_true c20
                try have c20b2 : (9223372036854775807 < 6 + (t218.size + 1 + t219.size) + 1) = False := eq_false (Nat.not_lt.2 c20)
                replace H := Option.bind_eq_some_iff.mp H
                obtain ⟨t220, A210, H⟩ := H
                replace H : (if 6 + (t218.size + 1 + t219.size) + 1 + t220.size ≤ 9223372036854775807 then (some ((((⟨#[98, 121, 116, 101, 115, 32]⟩ : ByteArray) ++ ((t218 ++ (⟨#[45]⟩ : ByteArray)) ++ t219)) ++ (⟨#[47]⟩ : ByteArray)) ++ t220)) else (none)) = some r := H
                have A21 := AsZ.mk A210
                clear A210
                by_cases c22 : 6 + (t218.size + 1 + t219.size) + 1 + t220.size ≤ 9223372036854775807
                · rw [if_pos c22] at H
                  have c22b0 := eq_true c22
                  have c22b1 : decide (6 + (t218.size + 1 + t219.size) + 1 + t220.size ≤ 9223372036854775807) = true := decide_eq_true c22
                  try have c22b2 : (9223372036854775807 < 6 + (t218.size + 1 + t219.size) + 1 + t220.size) = False := eq_false (Nat.not_lt.2 c22)
                  obtain rfl := Option.some.inj H
                  go_enter Try.func66, Try.ntmps66
                  try go_wp2_with (first | ((with_reducible refine gDs (N := 1) rfl ?_); refine bEv ?hg (N := 1) ?hd (cs := #[.bool true, .int .i64 a0_1, .int .i64 a0_2, .int .i64 a0_3]) (t := 91) ?hr ?_; (case hd => rfl); (case hg => rfl); (case hr => first | (go_simp; done) | (go_simp; rfl)); intro gb216 hg w23 hbox hb; have n0_ := AsZ.mk (tBl (by repeat (first | (with_reducible first | exact HB.out | apply aBl | apply pBd | apply dBl) | exact HB.out)) hb); have n1_ := AsZ.mk (hbox); have n2_ := AsZ.mk ((by rw [hg]; exact (zBl (by repeat (first | (with_reducible first | exact HB.out | apply aBl | apply pBd | apply dBl) | exact HB.out))) : w.heap.size ≤ gb216)); have n3_ := AsZ.mk ((by rw [hg]; exact (zBl (by repeat (first | (with_reducible first | exact HB.out | apply aBl | apply pBd | apply dBl) | exact HB.out))) : w.heap.size ≤ gb216)); clear HB; have HB := n0_; have BK216 := n1_; have GW216 := n2_; have GE216 := n3_; clear n0_ n1_ n2_ n3_; clear hb hbox hg; have hcz24_0 : w23.cell? ⟨gb216, 0, none⟩ = some (.bool true) := (bCe BK216.out 0).trans rfl; have hcz24_1 : w23.cell? ⟨gb216, 1, none⟩ = some (.int .i64 a0_1) := (bCe BK216.out 1).trans rfl; have hcz24_2 : w23.cell? ⟨gb216, 2, none⟩ = some (.int .i64 a0_2) := (bCe BK216.out 2).trans rfl; have hcz24_3 : w23.cell? ⟨gb216, 3, none⟩ = some (.int .i64 a0_3) := (bCe BK216.out 3).trans rfl; have hfz24_0 := bFz BK216.out 0; have hfz24_1 := bFz BK216.out 1; have hfz24_2 := bFz BK216.out 2; have hfz24_3 := bFz BK216.out 3) | ((with_reducible refine gCa (f := 73) rfl ?_); refine gLl (some 5) rfl rfl Try.func73 (by kernel_rfl) rfl #[.agg #[.bool true, .int .i64 a0_1, .int .i64 a0_2, .int .i64 a0_3]] rfl (by (try simp only [List.map_toArray, List.map_cons, List.map_nil]); first | done | rfl | (simp only [List.length_drop, List.length_take]; rfl)) ?_; (with_reducible refine (crange_Right.calls k true a0_1 a0_2 a0_3 true _ A2.out).mono ?_); rintro e w25 ⟨rfl, hb⟩; refine ⟨_, rfl, ?_⟩; have n0_ := AsZ.mk (bBl (g := gb216) (o := .cells #[.bool true, .int .i64 a0_1, .int .i64 a0_2, .int .i64 a0_3] 91 (0, 0)) (by (with_reducible repeat (first | refine bDn ?_ _ | refine bDr ?_ | refine bAl ?_ _)); exact BK216.out) hb); have n1_ := AsZ.mk (tBl (by repeat (first | (with_reducible first | exact HB.out | apply aBl | apply pBd | apply dBl | refine sBl ?_ GE216.out) | exact HB.out)) hb); clear BK216; clear HB; have BK216 := n0_; have HB := n1_; clear n0_ n1_; (try clear hb); (try clear hb2); (try clear hk); (try clear hi); have hcz26_0 : w25.cell? ⟨gb216, 0, none⟩ = some (.bool true) := (bCe BK216.out 0).trans rfl; have hcz26_1 : w25.cell? ⟨gb216, 1, none⟩ = some (.int .i64 a0_1) := (bCe BK216.out 1).trans rfl; have hcz26_2 : w25.cell? ⟨gb216, 2, none⟩ = some (.int .i64 a0_2) := (bCe BK216.out 2).trans rfl; have hcz26_3 : w25.cell? ⟨gb216, 3, none⟩ = some (.int .i64 a0_3) := (bCe BK216.out 3).trans rfl; have hfz26_0 := bFz BK216.out 0; have hfz26_1 := bFz BK216.out 1; have hfz26_2 := bFz BK216.out 2; have hfz26_3 := bFz BK216.out 3))
                  have n0_ := AsZ.mk (bDr BK216.out)
                  have n1_ := AsZ.mk (dBl HB.out)
                  clear BK216
                  clear HB
                  have BK216 := n0_
                  have HB := n1_
                  clear n0_ n1_
                  refine start_ (n := 14) (S := fun w' => w'.cell? ⟨gb216, 0, none⟩ = some (.bool true) ∧ w'.cell? ⟨gb216, 1, none⟩ = some (.int .i64 a0_1) ∧ w'.cell? ⟨gb216, 2, none⟩ = some (.int .i64 a0_2) ∧ w'.cell? ⟨gb216, 3, none⟩ = some (.int .i64 a0_3)) (ds := []) #[false, false, false, false, false, false, false, false, false, false, false, false, false, false] (by kernel_rfl) rfl rfl ⟨(bCe BK216.out 0).trans rfl, (bCe BK216.out 1).trans rfl, (bCe BK216.out 2).trans rfl, (bCe BK216.out 3).trans rfl⟩ (fun hHeld => ?_); refine with_tabW crange_Print.tab5 crange_Print.bits5 (fun HT_ HW_ => ?_)
                  generalize w25.drew = w27 at BK216 HB hHeld ⊢
                  refine pure_ (i := 0) (N := some 9) (v := ?_) (a' := ?_) #[true, false, false, false, false, false, false, false, false, false, false, false, false, false] rfl rfl (any_of HT_.out (by kernel_rfl)) (fun _ _ _ h => h) (Or.inl ⟨by rfl, ?_⟩) ?_ ?_
                  rotate_left
                  · intro w'
                    go_simp
                    with_reducible rfl
                  rotate_left
                  · simp only [Act.put, List.setIfInBounds_toArray, List.set_cons_zero, List.set_cons_succ, i64_w, i32_w]
                    rfl
                  refine pure_ (i := 1) (N := some 10) (v := ?_) (a' := ?_) #[true, true, false, false, false, false, false, false, false, false, false, false, false, false] rfl rfl (any_of HT_.out (by kernel_rfl)) (fun _ _ _ h => h) (Or.inl ⟨by rfl, ?_⟩) ?_ ?_
                  rotate_left
                  · intro w'
                    go_simp
                    with_reducible rfl
                  rotate_left
                  · simp only [Act.put, List.setIfInBounds_toArray, List.set_cons_zero, List.set_cons_succ, i64_w, i32_w]
                    rfl
                  refine pure_ (i := 2) (N := some 11) (v := ?_) (a' := ?_) #[true, true, true, false, false, false, false, false, false, false, false, false, false, false] rfl rfl (any_of HT_.out (by kernel_rfl)) (fun _ _ _ h => h) (Or.inl ⟨by rfl, ?_⟩) ?_ ?_
                  rotate_left
                  · intro w'
                    go_simp
                    with_reducible rfl
                  rotate_left
                  · simp only [Act.put, List.setIfInBounds_toArray, List.set_cons_zero, List.set_cons_succ, i64_w, i32_w]
                    rfl
                  refine pure_ (i := 6) (N := some 15) (v := ?_) (a' := ?_) #[true, true, true, false, false, false, true, false, false, false, false, false, false, false] rfl rfl (any_of HT_.out (by kernel_rfl)) (fun _ _ _ h => h) (Or.inl ⟨by rfl, ?_⟩) ?_ ?_
                  rotate_left
                  · intro w'
                    go_simp
                    with_reducible rfl
                  rotate_left
                  · simp only [Act.put, List.setIfInBounds_toArray, List.set_cons_zero, List.set_cons_succ, i64_w, i32_w]
                    rfl
                  refine pure_ (i := 7) (N := some 16) (v := ?_) (a' := ?_) #[true, true, true, false, false, false, true, true, false, false, false, false, false, false] rfl rfl (any_of HT_.out (by kernel_rfl)) (fun _ _ _ h => h) (Or.inl ⟨by rfl, ?_⟩) ?_ ?_
                  rotate_left
                  · intro w'
                    go_simp
                    with_reducible rfl
                  rotate_left
                  · simp only [Act.put, List.setIfInBounds_toArray, List.set_cons_zero, List.set_cons_succ, i64_w, i32_w]
                    rfl
                  refine take_ (i := 3) (N := some 12) (v := ?_) (a' := ?_) #[true, true, true, true, false, false, true, true, false, false, false, false, false, false] rfl rfl (take_ofW HT_.out HW_.out (by kernel_rfl)) (fun _ _ _ h => h) (Or.inl ⟨by rfl, ?_⟩) hHeld ?_ ?_
                  rotate_left
                  · rintro w' ⟨s0, s1, s2, s3⟩
                    go_simp
                    with_reducible rfl
                  rotate_left
                  · simp only [Act.put, List.setIfInBounds_toArray, List.set_cons_zero, List.set_cons_succ, i64_w, i32_w]
                    rfl
                  refine take_ (i := 8) (N := some 17) (v := ?_) (a' := ?_) #[true, true, true, true, false, false, true, true, true, false, false, false, false, false] rfl rfl (take_ofW HT_.out HW_.out (by kernel_rfl)) (fun _ _ _ h => h) (Or.inl ⟨by rfl, ?_⟩) hHeld ?_ ?_
                  rotate_left
                  · rintro w' ⟨s0, s1, s2, s3⟩
                    go_simp
                    with_reducible rfl
                  rotate_left
                  · simp only [Act.put, List.setIfInBounds_toArray, List.set_cons_zero, List.set_cons_succ, i64_w, i32_w]
                    rfl
                  refine pure_ (i := 9) (N := some 18) (v := ?_) (a' := ?_) #[true, true, true, true, false, false, true, true, true, true, false, false, false, false] rfl rfl (any_of HT_.out (by kernel_rfl)) (fun _ _ _ h => h) (Or.inl ⟨by rfl, ?_⟩) ?_ ?_
                  rotate_left
                  · intro w'
                    go_simp
                    with_reducible rfl
                  rotate_left
                  · simp only [Act.put, List.setIfInBounds_toArray, List.set_cons_zero, List.set_cons_succ, i64_w, i32_w]
                    rfl
                  refine one_ (i := 4) (N := some 13) #[true, true, true, true, true, false, true, true, true, true, false, false, false, false] rfl rfl (one_of HT_.out (by kernel_rfl)) (by decide) (fun K hK => ?_)
                  refine goes_ Try.func47 (by kernel_rfl) rfl #[.int .i64 a0_1] (by rfl) rfl rfl (by (try simp only [List.map_toArray, List.map_cons, List.map_nil]); first | done | rfl | (simp only [List.length_drop, List.length_take]; rfl)) ?_
                  with_reducible refine (nums_Print.calls k a0_1 t218 _ A5.out).mono ?_
                  rintro e w28 ⟨rfl, hb⟩
                  refine ⟨_, rfl, ?_⟩
                  have n0_ := AsZ.mk (bBl (g := gb216) (o := .cells #[.bool true, .int .i64 a0_1, .int .i64 a0_2, .int .i64 a0_3] 91 (0, 0)) (by (with_reducible repeat (first | refine bDn ?_ _ | refine bDr ?_ | refine bAl ?_ _)); exact BK216.out) hb)
                  have n1_ := AsZ.mk (tBl (by repeat (first | (with_reducible first | exact HB.out | apply aBl | apply pBd | apply dBl | refine sBl ?_ GE216.out) | exact HB.out)) hb)
                  clear BK216
                  clear HB
                  have BK216 := n0_
                  have HB := n1_
                  clear n0_ n1_
                  (try clear hb)
                  (try clear hb2)
                  (try clear hk)
                  (try clear hi)
                  refine hK.out _ _ ⟨(bCe BK216.out 0).trans rfl, (bCe BK216.out 1).trans rfl, (bCe BK216.out 2).trans rfl, (bCe BK216.out 3).trans rfl⟩ (fun hHeld => ?_)
                  clear hK K
                  refine norm_ (a' := ?_) ?_ ?_
                  rotate_left
                  · show Act.put _ (some 13) _ = _
                    simp only [Act.put, List.setIfInBounds_toArray, List.set_cons_zero, List.set_cons_succ, i64_w, i32_w]
                    rfl
                  refine pure_ (i := 5) (N := some 14) (v := ?_) (a' := ?_) #[true, true, true, true, true, true, true, true, true, true, false, false, false, false] rfl rfl (any_of HT_.out (by kernel_rfl)) (fun _ _ _ h => h) (Or.inl ⟨by rfl, ?_⟩) ?_ ?_
                  rotate_left
                  · intro w'
                    go_simp
                    with_reducible rfl
                  rotate_left
                  · simp only [Act.put, List.setIfInBounds_toArray, List.set_cons_zero, List.set_cons_succ, i64_w, i32_w]
                    rfl
                  refine one_ (i := 10) (N := some 19) #[true, true, true, true, true, true, true, true, true, true, true, false, false, false] rfl rfl (one_of HT_.out (by kernel_rfl)) (by decide) (fun K hK => ?_)
                  refine goes_ Try.func47 (by kernel_rfl) rfl #[.int .i64 (wrap64 (a0_2 - 1))] (by rfl) rfl rfl (by (try simp only [List.map_toArray, List.map_cons, List.map_nil]); first | done | rfl | (simp only [List.length_drop, List.length_take]; rfl)) ?_
                  with_reducible refine (nums_Print.calls k (wrap64 (a0_2 - 1)) t219 _ A7.out).mono ?_
                  rintro e w29 ⟨rfl, hb⟩
                  refine ⟨_, rfl, ?_⟩
                  have n0_ := AsZ.mk (bBl (g := gb216) (o := .cells #[.bool true, .int .i64 a0_1, .int .i64 a0_2, .int .i64 a0_3] 91 (0, 0)) (by (with_reducible repeat (first | refine bDn ?_ _ | refine bDr ?_ | refine bAl ?_ _)); exact BK216.out) hb)
                  have n1_ := AsZ.mk (tBl (by repeat (first | (with_reducible first | exact HB.out | apply aBl | apply pBd | apply dBl | refine sBl ?_ GE216.out) | exact HB.out)) hb)
                  clear BK216
                  clear HB
                  have BK216 := n0_
                  have HB := n1_
                  clear n0_ n1_
                  (try clear hb)
                  (try clear hb2)
                  (try clear hk)
                  (try clear hi)
                  refine hK.out _ _ ⟨(bCe BK216.out 0).trans rfl, (bCe BK216.out 1).trans rfl, (bCe BK216.out 2).trans rfl, (bCe BK216.out 3).trans rfl⟩ (fun hHeld => ?_)
                  clear hK K
                  refine norm_ (a' := ?_) ?_ ?_
                  rotate_left
                  · show Act.put _ (some 19) _ = _
                    simp only [Act.put, List.setIfInBounds_toArray, List.set_cons_zero, List.set_cons_succ, i64_w, i32_w]
                    rfl
                  refine pure_ (i := 11) (N := some 20) (v := ?_) (a' := ?_) #[true, true, true, true, true, true, true, true, true, true, true, true, false, false] rfl rfl (any_of HT_.out (by kernel_rfl)) (fun _ _ _ h => h) (Or.inl ⟨by rfl, ?_⟩) ?_ ?_
                  rotate_left
                  · intro w'
                    go_simp
                    with_reducible rfl
                  rotate_left
                  · simp only [Act.put, List.setIfInBounds_toArray, List.set_cons_zero, List.set_cons_succ, i64_w, i32_w]
                    rfl
                  refine pure_ (i := 12) (N := some 21) (v := ?_) (a' := ?_) #[true, true, true, true, true, true, true, true, true, true, true, true, true, false] rfl rfl (any_of HT_.out (by kernel_rfl)) (fun _ _ _ h => h) (Or.inl ⟨by rfl, ?_⟩) ?_ ?_
                  rotate_left
                  · intro w'
                    go_simp
                    with_reducible rfl
                  rotate_left
                  · simp only [Act.put, List.setIfInBounds_toArray, List.set_cons_zero, List.set_cons_succ, i64_w, i32_w]
                    rfl
                  refine pure_ (i := 13) (N := some 3) (v := ?_) (a' := ?_) #[true, true, true, true, true, true, true, true, true, true, true, true, true, true] rfl rfl (any_of HT_.out (by kernel_rfl)) (fun _ _ _ h => h) (Or.inl ⟨by rfl, ?_⟩) ?_ ?_
                  rotate_left
                  · intro w'
                    go_simp
                    with_reducible rfl
                  rotate_left
                  · simp only [Act.put, List.setIfInBounds_toArray, List.set_cons_zero, List.set_cons_succ, i64_w, i32_w]
                    rfl
                  refine done_ (done_of HT_.out (by kernel_rfl)) ?_
                  have hcz30_0 : w29.cell? ⟨gb216, 0, none⟩ = some (.bool true) := (bCe BK216.out 0).trans rfl
                  have hcz30_1 : w29.cell? ⟨gb216, 1, none⟩ = some (.int .i64 a0_1) := (bCe BK216.out 1).trans rfl
                  have hcz30_2 : w29.cell? ⟨gb216, 2, none⟩ = some (.int .i64 a0_2) := (bCe BK216.out 2).trans rfl
                  have hcz30_3 : w29.cell? ⟨gb216, 3, none⟩ = some (.int .i64 a0_3) := (bCe BK216.out 3).trans rfl
                  have hfz30_0 := bFz BK216.out 0
                  have hfz30_1 := bFz BK216.out 1
                  have hfz30_2 := bFz BK216.out 2
                  have hfz30_3 := bFz BK216.out 3
                  try go_wp2_with (first | ((with_reducible refine gCa (f := 47) rfl ?_); refine gLl (some 33) rfl rfl Try.func47 (by kernel_rfl) rfl #[.int .i64 a0_3] rfl (by (try simp only [List.map_toArray, List.map_cons, List.map_nil]); first | done | rfl | (simp only [List.length_drop, List.length_take]; rfl)) ?_; (with_reducible refine (nums_Print.calls k a0_3 t220 _ A21.out).mono ?_); rintro e w31 ⟨rfl, hb⟩; refine ⟨_, rfl, ?_⟩; have n0_ := AsZ.mk (bBl (g := gb216) (o := .cells #[.bool true, .int .i64 a0_1, .int .i64 a0_2, .int .i64 a0_3] 91 (0, 0)) (by (with_reducible repeat (first | refine bDn ?_ _ | refine bDr ?_ | refine bAl ?_ _)); exact BK216.out) hb); have n1_ := AsZ.mk (tBl (by repeat (first | (with_reducible first | exact HB.out | apply aBl | apply pBd | apply dBl | refine sBl ?_ GE216.out) | exact HB.out)) hb); clear BK216; clear HB; have BK216 := n0_; have HB := n1_; clear n0_ n1_; (try clear hb); (try clear hb2); (try clear hk); (try clear hi)))
                  go_ret
                  exact ⟨by first | rfl | exact nEm _ | exact eEm _ | (simp [eWn, eWs] <;> rfl) | (simp [*, eWn, eWs] <;> rfl), by repeat (first | (with_reducible first | exact HB.out | apply aBl | apply pBd | apply dBl | refine sBl ?_ GE216.out) | exact HB.out)⟩
                · rw [if_neg c22] at H
                  exact absurd H (by simp)
              · rw [if_neg c20] at H
                exact absurd H (by simp)
          · rw [if_neg c9] at H
            exact absurd H (by simp)
        · rw [if_neg c8] at H
          exact absurd H (by simp)
      · rw [if_neg c6] at H
        exact absurd H (by simp)
    · replace c4 := Bool.eq_false_iff.mpr c4
      subst c4
      have H1 : (if 6 + 1 ≤ 9223372036854775807 then (if a0_3 = (-1) then (if 7 + 2 ≤ 9223372036854775807 then (some (((⟨#[98, 121, 116, 101, 115, 32]⟩ : ByteArray) ++ (⟨#[42]⟩ : ByteArray)) ++ (⟨#[47, 42]⟩ : ByteArray))) else (none)) else (if 7 + 1 ≤ 9223372036854775807 then ((nums_Print.f k a0_3).bind fun t221 => (if 8 + t221.size ≤ 9223372036854775807 then (some ((((⟨#[98, 121, 116, 101, 115, 32]⟩ : ByteArray) ++ (⟨#[42]⟩ : ByteArray)) ++ (⟨#[47]⟩ : ByteArray)) ++ t221)) else (none))) else (none))) else (none)) = some r := by rw [if_neg (show ¬ (false = true) by decide)] at H; exact H
      clear H
      have H := H1
      clear H1
      by_cases c32 : 6 + 1 ≤ 9223372036854775807
      · rw [if_pos c32] at H
        have c32b0 := eq_true c32
        have c32b1 : decide (6 + 1 ≤ 9223372036854775807) = true := decide_eq_true c32
        try have c32b2 : (9223372036854775807 < 6 + 1) = False := eq_false (Nat.not_lt.2 c32)
        by_cases c33 : a0_3 = (-1)
        · rw [if_pos c33] at H
          have c33b0 : (a0_3 == (-1)) = true := beq_iff_eq.mpr c33
          have c33b1 : (a0_3 != (-1)) = false := bne_eq_false_iff_eq.mpr c33
          clear c33
          by_cases c34 : 7 + 2 ≤ 9223372036854775807
          · rw [if_pos c34] at H
            have c34b0 := eq_true c34
            have c34b1 : decide (7 + 2 ≤ 9223372036854775807) = true := decide_eq_true c34
            try have c34b2 : (9223372036854775807 < 7 + 2) = False := eq_false (Nat.not_lt.2 c34)
            obtain rfl := Option.some.inj H
            go_enter Try.func66, Try.ntmps66
            go_wp2_with (first | ((with_reducible refine gDs (N := 1) rfl ?_); refine bEv ?hg (N := 1) ?hd (cs := #[.bool false, .int .i64 a0_1, .int .i64 a0_2, .int .i64 a0_3]) (t := 91) ?hr ?_; (case hd => rfl); (case hg => rfl); (case hr => first | (go_simp; done) | (go_simp; rfl)); intro gb216 hg w35 hbox hb; have n0_ := AsZ.mk (tBl (by repeat (first | (with_reducible first | exact HB.out | apply aBl | apply pBd | apply dBl) | exact HB.out)) hb); have n1_ := AsZ.mk (hbox); have n2_ := AsZ.mk ((by rw [hg]; exact (zBl (by repeat (first | (with_reducible first | exact HB.out | apply aBl | apply pBd | apply dBl) | exact HB.out))) : w.heap.size ≤ gb216)); have n3_ := AsZ.mk ((by rw [hg]; exact (zBl (by repeat (first | (with_reducible first | exact HB.out | apply aBl | apply pBd | apply dBl) | exact HB.out))) : w.heap.size ≤ gb216)); clear HB; have HB := n0_; have BK216 := n1_; have GW216 := n2_; have GE216 := n3_; clear n0_ n1_ n2_ n3_; clear hb hbox hg; have hcz36_0 : w35.cell? ⟨gb216, 0, none⟩ = some (.bool false) := (bCe BK216.out 0).trans rfl; have hcz36_1 : w35.cell? ⟨gb216, 1, none⟩ = some (.int .i64 a0_1) := (bCe BK216.out 1).trans rfl; have hcz36_2 : w35.cell? ⟨gb216, 2, none⟩ = some (.int .i64 a0_2) := (bCe BK216.out 2).trans rfl; have hcz36_3 : w35.cell? ⟨gb216, 3, none⟩ = some (.int .i64 a0_3) := (bCe BK216.out 3).trans rfl; have hfz36_0 := bFz BK216.out 0; have hfz36_1 := bFz BK216.out 1; have hfz36_2 := bFz BK216.out 2; have hfz36_3 := bFz BK216.out 3) | ((with_reducible refine gCa (f := 73) rfl ?_); refine gLl (some 5) rfl rfl Try.func73 (by kernel_rfl) rfl #[.agg #[.bool false, .int .i64 a0_1, .int .i64 a0_2, .int .i64 a0_3]] rfl (by (try simp only [List.map_toArray, List.map_cons, List.map_nil]); first | done | rfl | (simp only [List.length_drop, List.length_take]; rfl)) ?_; (with_reducible refine (crange_Right.calls k false a0_1 a0_2 a0_3 true _ A2.out).mono ?_); rintro e w37 ⟨rfl, hb⟩; refine ⟨_, rfl, ?_⟩; have n0_ := AsZ.mk (bBl (g := gb216) (o := .cells #[.bool false, .int .i64 a0_1, .int .i64 a0_2, .int .i64 a0_3] 91 (0, 0)) (by (with_reducible repeat (first | refine bDn ?_ _ | refine bDr ?_ | refine bAl ?_ _)); exact BK216.out) hb); have n1_ := AsZ.mk (tBl (by repeat (first | (with_reducible first | exact HB.out | apply aBl | apply pBd | apply dBl | refine sBl ?_ GE216.out) | exact HB.out)) hb); clear BK216; clear HB; have BK216 := n0_; have HB := n1_; clear n0_ n1_; (try clear hb); (try clear hb2); (try clear hk); (try clear hi); have hcz38_0 : w37.cell? ⟨gb216, 0, none⟩ = some (.bool false) := (bCe BK216.out 0).trans rfl; have hcz38_1 : w37.cell? ⟨gb216, 1, none⟩ = some (.int .i64 a0_1) := (bCe BK216.out 1).trans rfl; have hcz38_2 : w37.cell? ⟨gb216, 2, none⟩ = some (.int .i64 a0_2) := (bCe BK216.out 2).trans rfl; have hcz38_3 : w37.cell? ⟨gb216, 3, none⟩ = some (.int .i64 a0_3) := (bCe BK216.out 3).trans rfl; have hfz38_0 := bFz BK216.out 0; have hfz38_1 := bFz BK216.out 1; have hfz38_2 := bFz BK216.out 2; have hfz38_3 := bFz BK216.out 3))
            go_ret
            exact ⟨by first | rfl | exact nEm _ | exact eEm _ | (simp [eWn, eWs] <;> rfl) | (simp [*, eWn, eWs] <;> rfl), by repeat (first | (with_reducible first | exact HB.out | apply aBl | apply pBd | apply dBl | refine sBl ?_ GE216.out) | exact HB.out)⟩
          · rw [if_neg c34] at H
            exact absurd H (by simp)
        · rw [if_neg c33] at H
          have c33b0 : (a0_3 == (-1)) = false := beq_eq_false_iff_ne.mpr c33
          have c33b1 : (a0_3 != (-1)) = true := bne_iff_ne.mpr c33
          by_cases c39 : 7 + 1 ≤ 9223372036854775807
          · rw [if_pos c39] at H
            have c39b0 := eq_true c39
            have c39b1 : decide (7 + 1 ≤ 9223372036854775807) = true := decide_eq_true c39
            try have c39b2 : (9223372036854775807 < 7 + 1) = False := eq_false (Nat.not_lt.2 c39)
            replace H := Option.bind_eq_some_iff.mp H
            obtain ⟨t221, A400, H⟩ := H
            replace H : (if 8 + t221.size ≤ 9223372036854775807 then (some ((((⟨#[98, 121, 116, 101, 115, 32]⟩ : ByteArray) ++ (⟨#[42]⟩ : ByteArray)) ++ (⟨#[47]⟩ : ByteArray)) ++ t221)) else (none)) = some r := H
            have A40 := AsZ.mk A400
            clear A400
            by_cases c41 : 8 + t221.size ≤ 9223372036854775807
            · rw [if_pos c41] at H
              have c41b0 := eq_true c41
              have c41b1 : decide (8 + t221.size ≤ 9223372036854775807) = true := decide_eq_true c41
              try have c41b2 : (9223372036854775807 < 8 + t221.size) = False := eq_false (Nat.not_lt.2 c41)
              obtain rfl := Option.some.inj H
              go_enter Try.func66, Try.ntmps66
              go_wp2_with (first | ((with_reducible refine gDs (N := 1) rfl ?_); refine bEv ?hg (N := 1) ?hd (cs := #[.bool false, .int .i64 a0_1, .int .i64 a0_2, .int .i64 a0_3]) (t := 91) ?hr ?_; (case hd => rfl); (case hg => rfl); (case hr => first | (go_simp; done) | (go_simp; rfl)); intro gb216 hg w42 hbox hb; have n0_ := AsZ.mk (tBl (by repeat (first | (with_reducible first | exact HB.out | apply aBl | apply pBd | apply dBl) | exact HB.out)) hb); have n1_ := AsZ.mk (hbox); have n2_ := AsZ.mk ((by rw [hg]; exact (zBl (by repeat (first | (with_reducible first | exact HB.out | apply aBl | apply pBd | apply dBl) | exact HB.out))) : w.heap.size ≤ gb216)); have n3_ := AsZ.mk ((by rw [hg]; exact (zBl (by repeat (first | (with_reducible first | exact HB.out | apply aBl | apply pBd | apply dBl) | exact HB.out))) : w.heap.size ≤ gb216)); clear HB; have HB := n0_; have BK216 := n1_; have GW216 := n2_; have GE216 := n3_; clear n0_ n1_ n2_ n3_; clear hb hbox hg; have hcz43_0 : w42.cell? ⟨gb216, 0, none⟩ = some (.bool false) := (bCe BK216.out 0).trans rfl; have hcz43_1 : w42.cell? ⟨gb216, 1, none⟩ = some (.int .i64 a0_1) := (bCe BK216.out 1).trans rfl; have hcz43_2 : w42.cell? ⟨gb216, 2, none⟩ = some (.int .i64 a0_2) := (bCe BK216.out 2).trans rfl; have hcz43_3 : w42.cell? ⟨gb216, 3, none⟩ = some (.int .i64 a0_3) := (bCe BK216.out 3).trans rfl; have hfz43_0 := bFz BK216.out 0; have hfz43_1 := bFz BK216.out 1; have hfz43_2 := bFz BK216.out 2; have hfz43_3 := bFz BK216.out 3) | ((with_reducible refine gCa (f := 73) rfl ?_); refine gLl (some 5) rfl rfl Try.func73 (by kernel_rfl) rfl #[.agg #[.bool false, .int .i64 a0_1, .int .i64 a0_2, .int .i64 a0_3]] rfl (by (try simp only [List.map_toArray, List.map_cons, List.map_nil]); first | done | rfl | (simp only [List.length_drop, List.length_take]; rfl)) ?_; (with_reducible refine (crange_Right.calls k false a0_1 a0_2 a0_3 true _ A2.out).mono ?_); rintro e w44 ⟨rfl, hb⟩; refine ⟨_, rfl, ?_⟩; have n0_ := AsZ.mk (bBl (g := gb216) (o := .cells #[.bool false, .int .i64 a0_1, .int .i64 a0_2, .int .i64 a0_3] 91 (0, 0)) (by (with_reducible repeat (first | refine bDn ?_ _ | refine bDr ?_ | refine bAl ?_ _)); exact BK216.out) hb); have n1_ := AsZ.mk (tBl (by repeat (first | (with_reducible first | exact HB.out | apply aBl | apply pBd | apply dBl | refine sBl ?_ GE216.out) | exact HB.out)) hb); clear BK216; clear HB; have BK216 := n0_; have HB := n1_; clear n0_ n1_; (try clear hb); (try clear hb2); (try clear hk); (try clear hi); have hcz45_0 : w44.cell? ⟨gb216, 0, none⟩ = some (.bool false) := (bCe BK216.out 0).trans rfl; have hcz45_1 : w44.cell? ⟨gb216, 1, none⟩ = some (.int .i64 a0_1) := (bCe BK216.out 1).trans rfl; have hcz45_2 : w44.cell? ⟨gb216, 2, none⟩ = some (.int .i64 a0_2) := (bCe BK216.out 2).trans rfl; have hcz45_3 : w44.cell? ⟨gb216, 3, none⟩ = some (.int .i64 a0_3) := (bCe BK216.out 3).trans rfl; have hfz45_0 := bFz BK216.out 0; have hfz45_1 := bFz BK216.out 1; have hfz45_2 := bFz BK216.out 2; have hfz45_3 := bFz BK216.out 3) | ((with_reducible refine gCa (f := 47) rfl ?_); refine gLl (some 33) rfl rfl Try.func47 (by kernel_rfl) rfl #[.int .i64 a0_3] rfl (by (try simp only [List.map_toArray, List.map_cons, List.map_nil]); first | done | rfl | (simp only [List.length_drop, List.length_take]; rfl)) ?_; (with_reducible refine (nums_Print.calls k a0_3 t221 _ A40.out).mono ?_); rintro e w46 ⟨rfl, hb⟩; refine ⟨_, rfl, ?_⟩; have n0_ := AsZ.mk (bBl (g := gb216) (o := .cells #[.bool false, .int .i64 a0_1, .int .i64 a0_2, .int .i64 a0_3] 91 (0, 0)) (by (with_reducible repeat (first | refine bDn ?_ _ | refine bDr ?_ | refine bAl ?_ _)); exact BK216.out) hb); have n1_ := AsZ.mk (tBl (by repeat (first | (with_reducible first | exact HB.out | apply aBl | apply pBd | apply dBl | refine sBl ?_ GE216.out) | exact HB.out)) hb); clear BK216; clear HB; have BK216 := n0_; have HB := n1_; clear n0_ n1_; (try clear hb); (try clear hb2); (try clear hk); (try clear hi)))
              go_ret
              exact ⟨by first | rfl | exact nEm _ | exact eEm _ | (simp [eWn, eWs] <;> rfl) | (simp [*, eWn, eWs] <;> rfl), by repeat (first | (with_reducible first | exact HB.out | apply aBl | apply pBd | apply dBl | refine sBl ?_ GE216.out) | exact HB.out)⟩
            · rw [if_neg c41] at H
              exact absurd H (by simp)
          · rw [if_neg c39] at H
            exact absurd H (by simp)
      · rw [if_neg c32] at H
        exact absurd H (by simp)
  · replace c3 := Bool.eq_false_iff.mpr c3
    subst c3
    have H1 : (some (⟨#[]⟩ : ByteArray)) = some r := by rw [if_neg (show ¬ (false = true) by decide)] at H; exact H
    clear H
    have H := H1
    clear H1
    obtain rfl := Option.some.inj H
    go_enter Try.func66, Try.ntmps66
    go_wp2_with (first | ((with_reducible refine gDs (N := 1) rfl ?_); refine bEv ?hg (N := 1) ?hd (cs := #[.bool a0_0, .int .i64 a0_1, .int .i64 a0_2, .int .i64 a0_3]) (t := 91) ?hr ?_; (case hd => rfl); (case hg => rfl); (case hr => first | (go_simp; done) | (go_simp; rfl)); intro gb216 hg w47 hbox hb; have n0_ := AsZ.mk (tBl (by repeat (first | (with_reducible first | exact HB.out | apply aBl | apply pBd | apply dBl) | exact HB.out)) hb); have n1_ := AsZ.mk (hbox); have n2_ := AsZ.mk ((by rw [hg]; exact (zBl (by repeat (first | (with_reducible first | exact HB.out | apply aBl | apply pBd | apply dBl) | exact HB.out))) : w.heap.size ≤ gb216)); have n3_ := AsZ.mk ((by rw [hg]; exact (zBl (by repeat (first | (with_reducible first | exact HB.out | apply aBl | apply pBd | apply dBl) | exact HB.out))) : w.heap.size ≤ gb216)); clear HB; have HB := n0_; have BK216 := n1_; have GW216 := n2_; have GE216 := n3_; clear n0_ n1_ n2_ n3_; clear hb hbox hg; have hcz48_0 : w47.cell? ⟨gb216, 0, none⟩ = some (.bool a0_0) := (bCe BK216.out 0).trans rfl; have hcz48_1 : w47.cell? ⟨gb216, 1, none⟩ = some (.int .i64 a0_1) := (bCe BK216.out 1).trans rfl; have hcz48_2 : w47.cell? ⟨gb216, 2, none⟩ = some (.int .i64 a0_2) := (bCe BK216.out 2).trans rfl; have hcz48_3 : w47.cell? ⟨gb216, 3, none⟩ = some (.int .i64 a0_3) := (bCe BK216.out 3).trans rfl; have hfz48_0 := bFz BK216.out 0; have hfz48_1 := bFz BK216.out 1; have hfz48_2 := bFz BK216.out 2; have hfz48_3 := bFz BK216.out 3) | ((with_reducible refine gCa (f := 73) rfl ?_); refine gLl (some 5) rfl rfl Try.func73 (by kernel_rfl) rfl #[.agg #[.bool a0_0, .int .i64 a0_1, .int .i64 a0_2, .int .i64 a0_3]] rfl (by (try simp only [List.map_toArray, List.map_cons, List.map_nil]); first | done | rfl | (simp only [List.length_drop, List.length_take]; rfl)) ?_; (with_reducible refine (crange_Right.calls k a0_0 a0_1 a0_2 a0_3 false _ A2.out).mono ?_); rintro e w49 ⟨rfl, hb⟩; refine ⟨_, rfl, ?_⟩; have n0_ := AsZ.mk (bBl (g := gb216) (o := .cells #[.bool a0_0, .int .i64 a0_1, .int .i64 a0_2, .int .i64 a0_3] 91 (0, 0)) (by (with_reducible repeat (first | refine bDn ?_ _ | refine bDr ?_ | refine bAl ?_ _)); exact BK216.out) hb); have n1_ := AsZ.mk (tBl (by repeat (first | (with_reducible first | exact HB.out | apply aBl | apply pBd | apply dBl | refine sBl ?_ GE216.out) | exact HB.out)) hb); clear BK216; clear HB; have BK216 := n0_; have HB := n1_; clear n0_ n1_; (try clear hb); (try clear hb2); (try clear hk); (try clear hi)))
    go_ret
    exact ⟨by first | rfl | exact nEm _ | exact eEm _ | (simp [eWn, eWs] <;> rfl) | (simp [*, eWn, eWs] <;> rfl), by repeat (first | (with_reducible first | exact HB.out | apply aBl | apply pBd | apply dBl | refine sBl ?_ GE216.out) | exact HB.out)⟩
def crange_Of.f (k : Nat) (a0_0 : Int) (a0_1 : Int) (a1 : Int) : Option (ByteArray) := (crange_Print.f k true a0_0 a0_1 a1).bind fun t223 => (some t223)
theorem crange_Of.mono : ∀ a0 a1 a2 k, LeO (crange_Of.f k a0 a1 a2) (crange_Of.f (k + 1) a0 a1 a2) := by
  intro a0 a1 a2 k
  unfold crange_Of.f
  repeat' first
      | (with_reducible exact crange_Print.mono _ _ _ _ _)
      | (with_reducible exact LeO.refl _)
      | (with_reducible exact LeO.none _)
      | (with_reducible refine LeO.ite ?_ ?_)
      | (with_reducible refine LeO.bind ?_ (fun _ => ?_))
      | exact crange_Print.mono _ _ _ _ _
      | exact LeO.none _
      | refine LeO.ite ?_ ?_
      | refine LeO.bind ?_ (fun _ => ?_)
set_option maxHeartbeats 8000000 in
set_option maxRecDepth 100000 in
theorem crange_Of.calls (k : Nat) (a0_0 : Int) (a0_1 : Int) (a1 : Int) (r : ByteArray) (w : World) (h : crange_Of.f k a0_0 a0_1 a1 = some r) :
    Calls Try.prog 67 #[.agg #[.int .i64 a0_0, .int .i64 a0_1], .int .i64 a1] w fun e w' => e = .returned (.string r) ∧ Below w.heap.size w w' := by
  have hu28 := Try.underlying28
  have hu91 := Try.underlying91
  have HB := AsZ.mk (Below.refl w.heap.size w)
  have H : ((crange_Print.f k true a0_0 a0_1 a1).bind fun t223 => (some t223)) = some r := h
  clear h
  replace H := Option.bind_eq_some_iff.mp H
  obtain ⟨t223, A30, H⟩ := H
  replace H : (some t223) = some r := H
  have A3 := AsZ.mk A30
  clear A30
  obtain rfl := Option.some.inj H
  go_enter Try.func67, Try.ntmps67
  go_wp2_with (first | ((with_reducible refine gDs (N := 2) rfl ?_); refine bEv ?hg (N := 2) ?hd (cs := #[.int .i64 a0_0, .int .i64 a0_1]) (t := 28) ?hr ?_; (case hd => rfl); (case hg => rfl); (case hr => first | (go_simp; done) | (go_simp; rfl)); intro gb222 hg w4 hbox hb; have n0_ := AsZ.mk (tBl (by repeat (first | (with_reducible first | exact HB.out | apply aBl | apply pBd | apply dBl) | exact HB.out)) hb); have n1_ := AsZ.mk (hbox); have n2_ := AsZ.mk ((by rw [hg]; exact (zBl (by repeat (first | (with_reducible first | exact HB.out | apply aBl | apply pBd | apply dBl) | exact HB.out))) : w.heap.size ≤ gb222)); have n3_ := AsZ.mk ((by rw [hg]; exact (zBl (by repeat (first | (with_reducible first | exact HB.out | apply aBl | apply pBd | apply dBl) | exact HB.out))) : w.heap.size ≤ gb222)); clear HB; have HB := n0_; have BK222 := n1_; have GW222 := n2_; have GE222 := n3_; clear n0_ n1_ n2_ n3_; clear hb hbox hg; have hcz5_0 : w4.cell? ⟨gb222, 0, none⟩ = some (.int .i64 a0_0) := (bCe BK222.out 0).trans rfl; have hcz5_1 : w4.cell? ⟨gb222, 1, none⟩ = some (.int .i64 a0_1) := (bCe BK222.out 1).trans rfl; have hfz5_0 := bFz BK222.out 0; have hfz5_1 := bFz BK222.out 1) | ((with_reducible refine gCa (f := 66) rfl ?_); refine gLl (some 8) rfl rfl Try.func66 (by kernel_rfl) rfl #[.agg #[.bool true, .int .i64 a0_0, .int .i64 a0_1, .int .i64 a1]] rfl (by (try simp only [List.map_toArray, List.map_cons, List.map_nil]); first | done | rfl | (simp only [List.length_drop, List.length_take]; rfl)) ?_; (with_reducible refine (crange_Print.calls k true a0_0 a0_1 a1 t223 _ A3.out).mono ?_); rintro e w6 ⟨rfl, hb⟩; refine ⟨_, rfl, ?_⟩; have n0_ := AsZ.mk (bBl (g := gb222) (o := .cells #[.int .i64 a0_0, .int .i64 a0_1] 28 (0, 0)) (by (with_reducible repeat (first | refine bDn ?_ _ | refine bDr ?_ | refine bAl ?_ _)); exact BK222.out) hb); have n1_ := AsZ.mk (tBl (by repeat (first | (with_reducible first | exact HB.out | apply aBl | apply pBd | apply dBl | refine sBl ?_ GE222.out) | exact HB.out)) hb); clear BK222; clear HB; have BK222 := n0_; have HB := n1_; clear n0_ n1_; (try clear hb); (try clear hb2); (try clear hk); (try clear hi)))
  go_ret
  exact ⟨by first | rfl | exact nEm _ | exact eEm _ | (simp [eWn, eWs] <;> rfl) | (simp [*, eWn, eWs] <;> rfl), by repeat (first | (with_reducible first | exact HB.out | apply aBl | apply pBd | apply dBl | refine sBl ?_ GE222.out) | exact HB.out)⟩
end Go.Proofs.Ytfcengffgkmacaa.PAll
namespace Go.Proofs.Ytfcengffgkmacaa.PAll
open Go.RowKit Go.Proofs.Ytfcengffgkmacaa.Xw Go.Proofs.YtfcengffgkmacaaW.PrintWords Go.Proofs.YtfcengffgkmacaaW.PrintLast Go.Proofs.YtfcengffgkmacaaW.PrintMore
attribute [local go_sem] max2_int min2_int max_two min_two max_three min_three max_four min_four   -- for this text's walks alone
set_option linter.unusedVariables false
set_option linter.unusedSimpArgs false
def reply_Of.j0 : Nat → Int → ByteArray → Int → Bool → Int → Bool → ByteArray → Int → Int → Option (Int × ByteArray × Int × ByteArray × List Int)
  | 0, _, _, _, _, _, _, _, _, _ => none
  | k + 1, x1, x5, x6, x33, x225000, x225001, x225002, x225003, x225004 => if x33 = true then ((crange_Print.f k false 0 0 x6).bind fun t243 => (some (416, x5, 0, t243, ([] : List Int)))) else ((crange_Of.f k x225003 x225004 x6).bind fun t244 => ((version_Body.f k x225000 x1 x225003 x225004).bind fun t245 => (some (206, x5, x6, t244, t245))))
def reply_Of.f (k : Nat) (a0_0 : Int) (a0_1 : Bool) (a0_2 : ByteArray) (a0_3 : Int) (a0_4 : Int) (a1 : Int) : Option (Int × ByteArray × Int × ByteArray × List Int) := (version_Tag.f k a0_0 a1).bind fun t226 => ((version_Length.f a0_0 a1).bind fun t227 => (if t226.toList = ([] : List UInt8) then ((reply_Gone.f).bind fun bt228 => (some (bt228.1, bt228.2.1, bt228.2.2.1, bt228.2.2.2.1, bt228.2.2.2.2))) else (if a0_1 = true then ((reply_head.f a0_0 a0_1 a0_2 a0_3 a0_4 t226 t227).bind fun bt235 => (some (bt235.1, bt235.2.1, bt235.2.2.1, bt235.2.2.2.1, bt235.2.2.2.2))) else (if a0_2.toList = t226.toList then ((span_Right.f a0_3 a0_4).bind fun t242 => (if t242 = true then (reply_Of.j0 k a1 t226 t227 (decide (a0_4 > t227)) a0_0 a0_1 a0_2 a0_3 a0_4) else (reply_Of.j0 k a1 t226 t227 true a0_0 a0_1 a0_2 a0_3 a0_4))) else (some (412, t226, 0, (⟨#[]⟩ : ByteArray), ([] : List Int)))))))
theorem reply_Of.mono_l : ∀ k, (∀ y0 y1 y2 y3 y4 y5 y6 y7 y8, LeO (reply_Of.j0 k y0 y1 y2 y3 y4 y5 y6 y7 y8) (reply_Of.j0 (k + 1) y0 y1 y2 y3 y4 y5 y6 y7 y8))
  | 0 => fun _ _ _ _ _ _ _ _ _ r h => by simp [reply_Of.j0] at h
  | k + 1 => by
    have ih0 := reply_Of.mono_l k
    · intro y0 y1 y2 y3 y4 y5 y6 y7 y8
      unfold reply_Of.j0
      repeat' first
      | (with_reducible exact ih0 _ _ _ _ _ _ _ _ _)
      | (with_reducible exact crange_Of.mono _ _ _ _)
      | (with_reducible exact crange_Print.mono _ _ _ _ _)
      | (with_reducible exact version_Body.mono _ _ _ _ _)
      | (with_reducible exact version_Tag.mono _ _ _)
      | (with_reducible exact LeO.refl _)
      | (with_reducible exact LeO.none _)
      | (with_reducible refine LeO.ite ?_ ?_)
      | (with_reducible refine LeO.bind ?_ (fun _ => ?_))
      | exact ih0 _ _ _ _ _ _ _ _ _
      | exact crange_Of.mono _ _ _ _
      | exact crange_Print.mono _ _ _ _ _
      | exact version_Body.mono _ _ _ _ _
      | exact version_Tag.mono _ _ _
      | exact LeO.none _
      | refine LeO.ite ?_ ?_
      | refine LeO.bind ?_ (fun _ => ?_)
theorem reply_Of.mono : ∀ a0 a1 a2 a3 a4 a5 k, LeO (reply_Of.f k a0 a1 a2 a3 a4 a5) (reply_Of.f (k + 1) a0 a1 a2 a3 a4 a5) := by
  intro a0 a1 a2 a3 a4 a5 k
  have ih0 := reply_Of.mono_l k
  unfold reply_Of.f
  repeat' first
      | (with_reducible exact ih0 _ _ _ _ _ _ _ _ _)
      | (with_reducible exact crange_Of.mono _ _ _ _)
      | (with_reducible exact crange_Print.mono _ _ _ _ _)
      | (with_reducible exact version_Body.mono _ _ _ _ _)
      | (with_reducible exact version_Tag.mono _ _ _)
      | (with_reducible exact LeO.refl _)
      | (with_reducible exact LeO.none _)
      | (with_reducible refine LeO.ite ?_ ?_)
      | (with_reducible refine LeO.bind ?_ (fun _ => ?_))
      | exact ih0 _ _ _ _ _ _ _ _ _
      | exact crange_Of.mono _ _ _ _
      | exact crange_Print.mono _ _ _ _ _
      | exact version_Body.mono _ _ _ _ _
      | exact version_Tag.mono _ _ _
      | exact LeO.none _
      | refine LeO.ite ?_ ?_
      | refine LeO.bind ?_ (fun _ => ?_)
def reply_Of.T1 : Bool × List (List Nat × List Nat) := (true, [([], []), ([0], [0]), ([], []), ([1, 2], [1, 2]), ([], []), ([4], [4]), ([], []), ([5, 6, 3], [5, 6]), ([3, 7, 0, 1, 2, 3], [3]), ([7, 8, 0, 1, 2, 3, 4, 5, 6, 7, 8], [7])])
def reply_Of.B1 : List Nat := [0, 1, 0, 7, 0, 16, 0, 127, 255, 511]
theorem reply_Of.tab1 : rtab .any (opsOf Try.f38 1) = reply_Of.T1 := by kernel_rfl
theorem reply_Of.bits1 : waitsOk reply_Of.T1.2 reply_Of.B1 = true := by kernel_rfl
def reply_Of.T10 : Bool × List (List Nat × List Nat) := (true, [([], []), ([], []), ([], []), ([2], [2]), ([], []), ([3, 4], [3, 4]), ([], []), ([6], [6]), ([], []), ([], []), ([9], [9]), ([7, 8, 10, 5], [7, 8, 10]), ([0, 1, 5, 11], [0, 1, 5, 11]), ([12, 11, 0, 1, 2, 3, 4, 5, 6, 7, 8, 9, 10, 11, 12], [12])])
def reply_Of.B10 : List Nat := [0, 0, 0, 4, 0, 28, 0, 64, 0, 0, 512, 2044, 4095, 8191]
theorem reply_Of.tab10 : rtab .any (opsOf Try.f38 10) = reply_Of.T10 := by kernel_rfl
theorem reply_Of.bits10 : waitsOk reply_Of.T10.2 reply_Of.B10 = true := by kernel_rfl
set_option maxHeartbeats 8000000 in
set_option maxRecDepth 100000 in
theorem reply_Of.calls (k : Nat) (a0_0 : Int) (a0_1 : Bool) (a0_2 : ByteArray) (a0_3 : Int) (a0_4 : Int) (a1 : Int) (r1 : Int) (r2 : ByteArray) (r3 : Int) (r4 : ByteArray) (r5 : List Int) (w : World) (h : reply_Of.f k a0_0 a0_1 a0_2 a0_3 a0_4 a1 = some (r1, r2, r3, r4, r5)) :
    Calls Try.prog 38 #[.agg #[.int .i64 a0_0, .bool a0_1, .string a0_2, .int .i64 a0_3, .int .i64 a0_4], .int .i64 a1] w fun e w' => ∃ v4_ : Value, e = .returned (.agg #[.int .i64 r1, .string r2, .int .i64 r3, .string r4, v4_]) ∧ Kd.R (Kd.int .u8) 5 w' w.heap.size (fun _ => True) v4_ r5 ∧ Below w.heap.size w w' := by
  have hu67 := Try.underlying67
  have hu64 := Try.underlying64
  have hu28 := Try.underlying28
  have hu91 := Try.underlying91
  have HB := AsZ.mk (Below.refl w.heap.size w)
  have H : ((version_Tag.f k a0_0 a1).bind fun t226 => ((version_Length.f a0_0 a1).bind fun t227 => (if t226.toList = ([] : List UInt8) then ((reply_Gone.f).bind fun bt228 => (some (bt228.1, bt228.2.1, bt228.2.2.1, bt228.2.2.2.1, bt228.2.2.2.2))) else (if a0_1 = true then ((reply_head.f a0_0 a0_1 a0_2 a0_3 a0_4 t226 t227).bind fun bt235 => (some (bt235.1, bt235.2.1, bt235.2.2.1, bt235.2.2.2.1, bt235.2.2.2.2))) else (if a0_2.toList = t226.toList then ((span_Right.f a0_3 a0_4).bind fun t242 => (if t242 = true then (reply_Of.j0 k a1 t226 t227 (decide (a0_4 > t227)) a0_0 a0_1 a0_2 a0_3 a0_4) else (reply_Of.j0 k a1 t226 t227 true a0_0 a0_1 a0_2 a0_3 a0_4))) else (some (412, t226, 0, (⟨#[]⟩ : ByteArray), ([] : List Int)))))))) = some (r1, r2, r3, r4, r5) := h
  clear h
  replace H := Option.bind_eq_some_iff.mp H
  obtain ⟨t226, A30, H⟩ := H
  replace H : ((version_Length.f a0_0 a1).bind fun t227 => (if t226.toList = ([] : List UInt8) then ((reply_Gone.f).bind fun bt228 => (some (bt228.1, bt228.2.1, bt228.2.2.1, bt228.2.2.2.1, bt228.2.2.2.2))) else (if a0_1 = true then ((reply_head.f a0_0 a0_1 a0_2 a0_3 a0_4 t226 t227).bind fun bt235 => (some (bt235.1, bt235.2.1, bt235.2.2.1, bt235.2.2.2.1, bt235.2.2.2.2))) else (if a0_2.toList = t226.toList then ((span_Right.f a0_3 a0_4).bind fun t242 => (if t242 = true then (reply_Of.j0 k a1 t226 t227 (decide (a0_4 > t227)) a0_0 a0_1 a0_2 a0_3 a0_4) else (reply_Of.j0 k a1 t226 t227 true a0_0 a0_1 a0_2 a0_3 a0_4))) else (some (412, t226, 0, (⟨#[]⟩ : ByteArray), ([] : List Int))))))) = some (r1, r2, r3, r4, r5) := H
  have A3 := AsZ.mk A30
  clear A30
  replace H := Option.bind_eq_some_iff.mp H
  obtain ⟨t227, A40, H⟩ := H
  replace H : (if t226.toList = ([] : List UInt8) then ((reply_Gone.f).bind fun bt228 => (some (bt228.1, bt228.2.1, bt228.2.2.1, bt228.2.2.2.1, bt228.2.2.2.2))) else (if a0_1 = true then ((reply_head.f a0_0 a0_1 a0_2 a0_3 a0_4 t226 t227).bind fun bt235 => (some (bt235.1, bt235.2.1, bt235.2.2.1, bt235.2.2.2.1, bt235.2.2.2.2))) else (if a0_2.toList = t226.toList then ((span_Right.f a0_3 a0_4).bind fun t242 => (if t242 = true then (reply_Of.j0 k a1 t226 t227 (decide (a0_4 > t227)) a0_0 a0_1 a0_2 a0_3 a0_4) else (reply_Of.j0 k a1 t226 t227 true a0_0 a0_1 a0_2 a0_3 a0_4))) else (some (412, t226, 0, (⟨#[]⟩ : ByteArray), ([] : List Int)))))) = some (r1, r2, r3, r4, r5) := H
  have A4 := AsZ.mk A40
  clear A40
  by_cases c5 : t226.toList = ([] : List UInt8)
  · rw [if_pos c5] at H
    have c5b0 : (t226.toList == ([] : List UInt8)) = true := beq_iff_eq.mpr c5
    have c5b1 : (t226.toList != ([] : List UInt8)) = false := bne_eq_false_iff_eq.mpr c5
    clear c5
    replace H := Option.bind_eq_some_iff.mp H
    obtain ⟨⟨t228, t229, t230, t231, t232⟩, A60, H⟩ := H
    replace H : (some (t228, t229, t230, t231, t232)) = some (r1, r2, r3, r4, r5) := H
    have A6 := AsZ.mk A60
    clear A60
    simp only [Option.some.injEq, Prod.mk.injEq] at H
    obtain ⟨rfl, rfl, rfl, rfl, rfl⟩ := H
    go_enter Try.func38, Try.ntmps38
    try go_wp2_with (first | ((with_reducible refine gDs (N := 2) rfl ?_); refine bEv ?hg (N := 2) ?hd (cs := #[.int .i64 a0_0, .bool a0_1, .string a0_2, .int .i64 a0_3, .int .i64 a0_4]) (t := 67) ?hr ?_; (case hd => rfl); (case hg => rfl); (case hr => first | (go_simp; done) | (go_simp; rfl)); intro gb224 hg w7 hbox hb; have n0_ := AsZ.mk (tBl (by repeat (first | (with_reducible first | exact HB.out | apply aBl | apply pBd | apply dBl) | exact HB.out)) hb); have n1_ := AsZ.mk (hbox); have n2_ := AsZ.mk ((by rw [hg]; exact (zBl (by repeat (first | (with_reducible first | exact HB.out | apply aBl | apply pBd | apply dBl) | exact HB.out))) : w.heap.size ≤ gb224)); have n3_ := AsZ.mk ((by rw [hg]; exact (zBl (by repeat (first | (with_reducible first | exact HB.out | apply aBl | apply pBd | apply dBl) | exact HB.out))) : w.heap.size ≤ gb224)); clear HB; have HB := n0_; have BK224 := n1_; have GW224 := n2_; have GE224 := n3_; clear n0_ n1_ n2_ n3_; clear hb hbox hg) | ((with_reducible refine gDs (N := 4) rfl ?_); refine bEv ?hg (N := 4) ?hd (cs := #[.int .i64 0, .string (⟨#[]⟩ : ByteArray), .int .i64 0, .string (⟨#[]⟩ : ByteArray), .slice none 0 0]) (t := 64) ?hr ?_; (case hd => rfl); (case hg => rfl); (case hr => first | (go_simp; done) | (go_simp; rfl)); intro gb225 hg w8 hbox hb; have n0_ := AsZ.mk (bBl (g := gb224) (o := .cells #[.int .i64 a0_0, .bool a0_1, .string a0_2, .int .i64 a0_3, .int .i64 a0_4] 67 (0, 0)) (by (with_reducible repeat (first | refine bDn ?_ _ | refine bDr ?_ | refine bAl ?_ _)); exact BK224.out) hb); have n1_ := AsZ.mk (tBl (by repeat (first | (with_reducible first | exact HB.out | apply aBl | apply pBd | apply dBl | refine sBl ?_ GE224.out) | exact HB.out)) hb); have n2_ := AsZ.mk (hbox); have n3_ := AsZ.mk ((by rw [hg]; exact (zBl (by repeat (first | (with_reducible first | exact HB.out | apply aBl | apply pBd | apply dBl | refine sBl ?_ GE224.out) | exact HB.out))) : w.heap.size ≤ gb225)); have n4_ := AsZ.mk ((by rw [hg]; exact (zBl (by repeat (first | (with_reducible first | exact HB.out | apply aBl | apply pBd | apply dBl | refine sBl ?_ GE224.out) | exact HB.out))) : w.heap.size ≤ gb225)); have n5_ := AsZ.mk ((by rw [hg]; exact Nat.ne_of_lt (bLt (g := gb224) (o := .cells #[.int .i64 a0_0, .bool a0_1, .string a0_2, .int .i64 a0_3, .int .i64 a0_4] 67 (0, 0)) (by (with_reducible repeat (first | refine bDn ?_ _ | refine bDr ?_ | refine bAl ?_ _)); exact BK224.out)) : gb224 ≠ gb225)); have n6_ := AsZ.mk ((by rw [hg]; exact Nat.ne_of_gt (bLt (g := gb224) (o := .cells #[.int .i64 a0_0, .bool a0_1, .string a0_2, .int .i64 a0_3, .int .i64 a0_4] 67 (0, 0)) (by (with_reducible repeat (first | refine bDn ?_ _ | refine bDr ?_ | refine bAl ?_ _)); exact BK224.out)) : gb225 ≠ gb224)); clear BK224; clear HB; have BK224 := n0_; have HB := n1_; have BK225 := n2_; have GW225 := n3_; have GE225 := n4_; have NB224_225 := n5_; have NB225_224 := n6_; clear n0_ n1_ n2_ n3_ n4_ n5_ n6_; clear hb hbox hg))
    have n0_ := AsZ.mk (bDr BK224.out)
    have n1_ := AsZ.mk (bDr BK225.out)
    have n2_ := AsZ.mk (dBl HB.out)
    clear BK224
    clear BK225
    clear HB
    have BK224 := n0_
    have BK225 := n1_
    have HB := n2_
    clear n0_ n1_ n2_
    refine start_ (n := 10) (S := fun w' => w'.cell? ⟨gb224, 0, none⟩ = some (.int .i64 a0_0) ∧ w'.cell? ⟨gb224, 1, none⟩ = some (.bool a0_1) ∧ w'.cell? ⟨gb224, 2, none⟩ = some (.string a0_2) ∧ w'.cell? ⟨gb224, 3, none⟩ = some (.int .i64 a0_3) ∧ w'.cell? ⟨gb224, 4, none⟩ = some (.int .i64 a0_4)) (ds := []) #[false, false, false, false, false, false, false, false, false, false] (by kernel_rfl) rfl rfl ⟨(bCe BK224.out 0).trans rfl, (bCe BK224.out 1).trans rfl, (bCe BK224.out 2).trans rfl, (bCe BK224.out 3).trans rfl, (bCe BK224.out 4).trans rfl⟩ (fun hHeld => ?_); refine with_tabW reply_Of.tab1 reply_Of.bits1 (fun HT_ HW_ => ?_)
    generalize w8.drew = w9 at BK224 BK225 HB hHeld ⊢
    refine pure_ (i := 0) (N := some 7) (v := ?_) (a' := ?_) #[true, false, false, false, false, false, false, false, false, false] rfl rfl (any_of HT_.out (by kernel_rfl)) (fun _ _ _ h => h) (Or.inl ⟨by rfl, ?_⟩) ?_ ?_
    rotate_left
    · intro w'
      go_simp
      with_reducible rfl
    rotate_left
    · simp only [Act.put, List.setIfInBounds_toArray, List.set_cons_zero, List.set_cons_succ, i64_w, i32_w]
      rfl
    refine pure_ (i := 2) (N := some 9) (v := ?_) (a' := ?_) #[true, false, true, false, false, false, false, false, false, false] rfl rfl (any_of HT_.out (by kernel_rfl)) (fun _ _ _ h => h) (Or.inl ⟨by rfl, ?_⟩) ?_ ?_
    rotate_left
    · intro w'
      go_simp
      with_reducible rfl
    rotate_left
    · simp only [Act.put, List.setIfInBounds_toArray, List.set_cons_zero, List.set_cons_succ, i64_w, i32_w]
      rfl
    refine pure_ (i := 4) (N := some 11) (v := ?_) (a' := ?_) #[true, false, true, false, true, false, false, false, false, false] rfl rfl (any_of HT_.out (by kernel_rfl)) (fun _ _ _ h => h) (Or.inl ⟨by rfl, ?_⟩) ?_ ?_
    rotate_left
    · intro w'
      go_simp
      with_reducible rfl
    rotate_left
    · simp only [Act.put, List.setIfInBounds_toArray, List.set_cons_zero, List.set_cons_succ, i64_w, i32_w]
      rfl
    refine pure_ (i := 6) (N := some 13) (v := ?_) (a' := ?_) #[true, false, true, false, true, false, true, false, false, false] rfl rfl (any_of HT_.out (by kernel_rfl)) (fun _ _ _ h => h) (Or.inl ⟨by rfl, ?_⟩) ?_ ?_
    rotate_left
    · intro w'
      go_simp
      with_reducible rfl
    rotate_left
    · simp only [Act.put, List.setIfInBounds_toArray, List.set_cons_zero, List.set_cons_succ, i64_w, i32_w]
      rfl
    refine take_ (i := 1) (N := some 8) (v := ?_) (a' := ?_) #[true, true, true, false, true, false, true, false, false, false] rfl rfl (take_ofW HT_.out HW_.out (by kernel_rfl)) (fun _ _ _ h => h) (Or.inl ⟨by rfl, ?_⟩) hHeld ?_ ?_
    rotate_left
    · rintro w' ⟨s0, s1, s2, s3, s4⟩
      go_simp
      with_reducible rfl
    rotate_left
    · simp only [Act.put, List.setIfInBounds_toArray, List.set_cons_zero, List.set_cons_succ, i64_w, i32_w]
      rfl
    refine take_ (i := 5) (N := some 12) (v := ?_) (a' := ?_) #[true, true, true, false, true, true, true, false, false, false] rfl rfl (take_ofW HT_.out HW_.out (by kernel_rfl)) (fun _ _ _ h => h) (Or.inl ⟨by rfl, ?_⟩) hHeld ?_ ?_
    rotate_left
    · rintro w' ⟨s0, s1, s2, s3, s4⟩
      go_simp
      with_reducible rfl
    rotate_left
    · simp only [Act.put, List.setIfInBounds_toArray, List.set_cons_zero, List.set_cons_succ, i64_w, i32_w]
      rfl
    refine one_ (i := 3) (N := some 10) #[true, true, true, true, true, true, true, false, false, false] rfl rfl (one_of HT_.out (by kernel_rfl)) (by decide) (fun K hK => ?_)
    refine goes_ Try.func12 (by kernel_rfl) rfl #[.int .i64 a0_0, .int .i64 a1] (by rfl) rfl rfl (by (try simp only [List.map_toArray, List.map_cons, List.map_nil]); first | done | rfl | (simp only [List.length_drop, List.length_take]; rfl)) ?_
    with_reducible refine (version_Tag.calls k a0_0 a1 t226 _ A3.out).mono ?_
    rintro e w10 ⟨rfl, hb⟩
    refine ⟨_, rfl, ?_⟩
    have n0_ := AsZ.mk (bBl (g := gb224) (o := .cells #[.int .i64 a0_0, .bool a0_1, .string a0_2, .int .i64 a0_3, .int .i64 a0_4] 67 (0, 0)) (by (with_reducible repeat (first | refine bDn ?_ _ | refine bDr ?_ | refine bAl ?_ _)); exact BK224.out) hb)
    have n1_ := AsZ.mk (bBl (g := gb225) (o := .cells #[.int .i64 0, .string (⟨#[]⟩ : ByteArray), .int .i64 0, .string (⟨#[]⟩ : ByteArray), .slice none 0 0] 64 (0, 0)) (by (with_reducible repeat (first | refine bDn ?_ _ | refine bDr ?_ | refine bAl ?_ _)); exact BK225.out) hb)
    have n2_ := AsZ.mk (tBl (by repeat (first | (with_reducible first | exact HB.out | apply aBl | apply pBd | apply dBl | refine sBl ?_ GE224.out | refine sBl ?_ GE225.out) | exact HB.out)) hb)
    clear BK224
    clear BK225
    clear HB
    have BK224 := n0_
    have BK225 := n1_
    have HB := n2_
    clear n0_ n1_ n2_
    (try clear hb)
    (try clear hb2)
    (try clear hk)
    (try clear hi)
    refine hK.out _ _ ⟨(bCe BK224.out 0).trans rfl, (bCe BK224.out 1).trans rfl, (bCe BK224.out 2).trans rfl, (bCe BK224.out 3).trans rfl, (bCe BK224.out 4).trans rfl⟩ (fun hHeld => ?_)
    clear hK K
    refine norm_ (a' := ?_) ?_ ?_
    rotate_left
    · show Act.put _ (some 10) _ = _
      simp only [Act.put, List.setIfInBounds_toArray, List.set_cons_zero, List.set_cons_succ, i64_w, i32_w]
      rfl
    refine one_ (i := 7) (N := some 14) #[true, true, true, true, true, true, true, true, false, false] rfl rfl (one_of HT_.out (by kernel_rfl)) (by decide) (fun K hK => ?_)
    refine goes_ Try.func16 (by kernel_rfl) rfl #[.int .i64 a0_0, .int .i64 a1] (by rfl) rfl rfl (by (try simp only [List.map_toArray, List.map_cons, List.map_nil]); first | done | rfl | (simp only [List.length_drop, List.length_take]; rfl)) ?_
    with_reducible refine (version_Length.calls a0_0 a1 t227 _ A4.out).mono ?_
    rintro e w' ⟨rfl, ⟨nd, rfl⟩⟩
    refine ⟨_, rfl, ?_⟩
    refine hK.out _ _ ⟨(bCe BK224.out 0).trans rfl, (bCe BK224.out 1).trans rfl, (bCe BK224.out 2).trans rfl, (bCe BK224.out 3).trans rfl, (bCe BK224.out 4).trans rfl⟩ (fun hHeld => ?_)
    clear hK K
    refine norm_ (a' := ?_) ?_ ?_
    rotate_left
    · show Act.put _ (some 14) _ = _
      simp only [Act.put, List.setIfInBounds_toArray, List.set_cons_zero, List.set_cons_succ, i64_w, i32_w]
      rfl
    refine pure_ (i := 8) (N := some 5) (v := ?_) (a' := ?_) #[true, true, true, true, true, true, true, true, true, false] rfl rfl (any_of HT_.out (by kernel_rfl)) (fun _ _ _ h => h) (Or.inl ⟨by rfl, ?_⟩) ?_ ?_
    rotate_left
    · intro w'
      go_simp
      with_reducible rfl
    rotate_left
    · simp only [Act.put, List.setIfInBounds_toArray, List.set_cons_zero, List.set_cons_succ, i64_w, i32_w]
      rfl
    refine pure_ (i := 9) (N := some 6) (v := ?_) (a' := ?_) #[true, true, true, true, true, true, true, true, true, true] rfl rfl (any_of HT_.out (by kernel_rfl)) (fun _ _ _ h => h) (Or.inl ⟨by rfl, ?_⟩) ?_ ?_
    rotate_left
    · intro w'
      go_simp
      with_reducible rfl
    rotate_left
    · simp only [Act.put, List.setIfInBounds_toArray, List.set_cons_zero, List.set_cons_succ, i64_w, i32_w]
      rfl
    refine done_ (done_of HT_.out (by kernel_rfl)) ?_
    try go_wp2_with (first | ((with_reducible refine gCa (f := 41) rfl ?_); refine gLl (some 18) rfl rfl Try.func41 (by kernel_rfl) rfl #[] rfl (by (try simp only [List.map_toArray, List.map_cons, List.map_nil]); first | done | rfl | (simp only [List.length_drop, List.length_take]; rfl)) ?_; (with_reducible refine (reply_Gone.calls  t228 t229 t230 t231 t232 _ A6.out).mono ?_); rintro e w11 ⟨v233, rfl, ho0, hb⟩; refine ⟨_, rfl, ?_⟩; have n0_ := AsZ.mk (Kd.R_lower ho0 (zBl (by repeat (first | (with_reducible first | exact HB.out | apply aBl | apply pBd | apply dBl | refine sBl ?_ GE224.out | refine sBl ?_ GE225.out) | exact HB.out)))); have n1_ := AsZ.mk (bBl (g := gb224) (o := .cells #[.int .i64 a0_0, .bool a0_1, .string a0_2, .int .i64 a0_3, .int .i64 a0_4] 67 (0, 0)) (by (with_reducible repeat (first | refine bDn ?_ _ | refine bDr ?_ | refine bAl ?_ _)); exact BK224.out) hb); have n2_ := AsZ.mk (bBl (g := gb225) (o := .cells #[.int .i64 0, .string (⟨#[]⟩ : ByteArray), .int .i64 0, .string (⟨#[]⟩ : ByteArray), .slice none 0 0] 64 (0, 0)) (by (with_reducible repeat (first | refine bDn ?_ _ | refine bDr ?_ | refine bAl ?_ _)); exact BK225.out) hb); have n3_ := AsZ.mk (tBl (by repeat (first | (with_reducible first | exact HB.out | apply aBl | apply pBd | apply dBl | refine sBl ?_ GE224.out | refine sBl ?_ GE225.out) | exact HB.out)) hb); clear BK224; clear BK225; clear HB; have HO234 := n0_; have BK224 := n1_; have BK225 := n2_; have HB := n3_; clear n0_ n1_ n2_ n3_; (try clear hb); (try clear hb2); (try clear hk); (try clear hi); (try clear ho0); have hnb12 := NB225_224.out; have hnc12 := NB224_225.out; have hcz13_0 : w11.cell? ⟨gb225, 0, none⟩ = some (.int .i64 0) := (bCe BK225.out 0).trans rfl; have hcz13_1 : w11.cell? ⟨gb225, 1, none⟩ = some (.string (⟨#[]⟩ : ByteArray)) := (bCe BK225.out 1).trans rfl; have hcz13_2 : w11.cell? ⟨gb225, 2, none⟩ = some (.int .i64 0) := (bCe BK225.out 2).trans rfl; have hcz13_3 : w11.cell? ⟨gb225, 3, none⟩ = some (.string (⟨#[]⟩ : ByteArray)) := (bCe BK225.out 3).trans rfl; have hcz13_4 : w11.cell? ⟨gb225, 4, none⟩ = some (.slice none 0 0) := (bCe BK225.out 4).trans rfl; have hfz13_0 := bFz BK225.out 0; have hfz13_1 := bFz BK225.out 1; have hfz13_2 := bFz BK225.out 2; have hfz13_3 := bFz BK225.out 3; have hfz13_4 := bFz BK225.out 4; obtain ⟨Ao14, co14, eo14⟩ := Kd.R_slice HO234.out; subst eo14))
    refine bodyPost_ret (results_cell_row rfl _ _ gb225 64 #[.int .i64 t228, .string t229, .int .i64 t230, .string t231, .slice Ao14 t232.length co14] (0, 0) _ rfl (by (with_reducible repeat (first | refine bDn ?_ _ | refine bDr ?_ | refine bAl ?_ _)); refine bPu (cs := #[.int .i64 t228, .string t229, .int .i64 t230, .string t231, .slice none 0 0]) ?_ 4 _ rfl; (with_reducible repeat (first | refine bDn ?_ _ | refine bDr ?_ | refine bAl ?_ _)); refine bPu (cs := #[.int .i64 t228, .string t229, .int .i64 t230, .string (⟨#[]⟩ : ByteArray), .slice none 0 0]) ?_ 3 _ rfl; (with_reducible repeat (first | refine bDn ?_ _ | refine bDr ?_ | refine bAl ?_ _)); refine bPu (cs := #[.int .i64 t228, .string t229, .int .i64 0, .string (⟨#[]⟩ : ByteArray), .slice none 0 0]) ?_ 2 _ rfl; (with_reducible repeat (first | refine bDn ?_ _ | refine bDr ?_ | refine bAl ?_ _)); refine bPu (cs := #[.int .i64 t228, .string (⟨#[]⟩ : ByteArray), .int .i64 0, .string (⟨#[]⟩ : ByteArray), .slice none 0 0]) ?_ 1 _ rfl; (with_reducible repeat (first | refine bDn ?_ _ | refine bDr ?_ | refine bAl ?_ _)); refine bPu (cs := #[.int .i64 0, .string (⟨#[]⟩ : ByteArray), .int .i64 0, .string (⟨#[]⟩ : ByteArray), .slice none 0 0]) ?_ 0 _ rfl; (with_reducible repeat (first | refine bDn ?_ _ | refine bDr ?_ | refine bAl ?_ _)); exact BK225.out) Try.underlying64 rfl (by kernel_rfl)) rfl ?_
    exact ⟨_, by first | rfl | (simp [eWn, eWs] <;> rfl) | (simp [*, eWn, eWs] <;> rfl), by (with_reducible repeat (first | apply Kd.R_alloc | apply Kd.R_drewN | apply Kd.R_drew)); exact Kd.R_mono (Kd.R_far (p := ⟨gb225, 4, none⟩) (Kd.R_far (p := ⟨gb225, 3, none⟩) (Kd.R_far (p := ⟨gb225, 2, none⟩) (Kd.R_far (p := ⟨gb225, 1, none⟩) (Kd.R_far (p := ⟨gb225, 0, none⟩) (Kd.R_types HO234.out BK225.out (by decide)) (fun _ hk => hk.2) (.int .i64 t228)) (fun _ hk => hk.2) (.string t229)) (fun _ hk => hk.2) (.int .i64 t230)) (fun _ hk => hk.2) (.string t231)) (fun _ hk => hk.2) (.slice Ao14 t232.length co14)) (fun _ hk => trivial), by repeat (first | (with_reducible first | exact HB.out | apply aBl | apply pBd | apply dBl | refine sBl ?_ GE224.out | refine sBl ?_ GE225.out) | exact HB.out)⟩
  · rw [if_neg c5] at H
    have c5b0 : (t226.toList == ([] : List UInt8)) = false := beq_eq_false_iff_ne.mpr c5
    have c5b1 : (t226.toList != ([] : List UInt8)) = true := bne_iff_ne.mpr c5
    by_cases c15 : a0_1 = true
    · subst c15
      have H1 : ((reply_head.f a0_0 true a0_2 a0_3 a0_4 t226 t227).bind fun bt235 => (some (bt235.1, bt235.2.1, bt235.2.2.1, bt235.2.2.2.1, bt235.2.2.2.2))) = some (r1, r2, r3, r4, r5) := by rw [if_pos rfl] at H; exact H
      clear H
      have H := H1
      clear H1
      replace H := Option.bind_eq_some_iff.mp H
      obtain ⟨⟨t235, t236, t237, t238, t239⟩, A160, H⟩ := H
      replace H : (some (t235, t236, t237, t238, t239)) = some (r1, r2, r3, r4, r5) := H
      have A16 := AsZ.mk A160
      clear A160
      simp only [Option.some.injEq, Prod.mk.injEq] at H
      obtain ⟨rfl, rfl, rfl, rfl, rfl⟩ := H
      go_enter Try.func38, Try.ntmps38
      try go_wp2_with (first | ((with_reducible refine gDs (N := 2) rfl ?_); refine bEv ?hg (N := 2) ?hd (cs := #[.int .i64 a0_0, .bool true, .string a0_2, .int .i64 a0_3, .int .i64 a0_4]) (t := 67) ?hr ?_; (case hd => rfl); (case hg => rfl); (case hr => first | (go_simp; done) | (go_simp; rfl)); intro gb224 hg w17 hbox hb; have n0_ := AsZ.mk (tBl (by repeat (first | (with_reducible first | exact HB.out | apply aBl | apply pBd | apply dBl) | exact HB.out)) hb); have n1_ := AsZ.mk (hbox); have n2_ := AsZ.mk ((by rw [hg]; exact (zBl (by repeat (first | (with_reducible first | exact HB.out | apply aBl | apply pBd | apply dBl) | exact HB.out))) : w.heap.size ≤ gb224)); have n3_ := AsZ.mk ((by rw [hg]; exact (zBl (by repeat (first | (with_reducible first | exact HB.out | apply aBl | apply pBd | apply dBl) | exact HB.out))) : w.heap.size ≤ gb224)); clear HB; have HB := n0_; have BK224 := n1_; have GW224 := n2_; have GE224 := n3_; clear n0_ n1_ n2_ n3_; clear hb hbox hg) | ((with_reducible refine gDs (N := 4) rfl ?_); refine bEv ?hg (N := 4) ?hd (cs := #[.int .i64 0, .string (⟨#[]⟩ : ByteArray), .int .i64 0, .string (⟨#[]⟩ : ByteArray), .slice none 0 0]) (t := 64) ?hr ?_; (case hd => rfl); (case hg => rfl); (case hr => first | (go_simp; done) | (go_simp; rfl)); intro gb225 hg w18 hbox hb; have n0_ := AsZ.mk (bBl (g := gb224) (o := .cells #[.int .i64 a0_0, .bool true, .string a0_2, .int .i64 a0_3, .int .i64 a0_4] 67 (0, 0)) (by (with_reducible repeat (first | refine bDn ?_ _ | refine bDr ?_ | refine bAl ?_ _)); exact BK224.out) hb); have n1_ := AsZ.mk (tBl (by repeat (first | (with_reducible first | exact HB.out | apply aBl | apply pBd | apply dBl | refine sBl ?_ GE224.out) | exact HB.out)) hb); have n2_ := AsZ.mk (hbox); have n3_ := AsZ.mk ((by rw [hg]; exact (zBl (by repeat (first | (with_reducible first | exact HB.out | apply aBl | apply pBd | apply dBl | refine sBl ?_ GE224.out) | exact HB.out))) : w.heap.size ≤ gb225)); have n4_ := AsZ.mk ((by rw [hg]; exact (zBl (by repeat (first | (with_reducible first | exact HB.out | apply aBl | apply pBd | apply dBl | refine sBl ?_ GE224.out) | exact HB.out))) : w.heap.size ≤ gb225)); have n5_ := AsZ.mk ((by rw [hg]; exact Nat.ne_of_lt (bLt (g := gb224) (o := .cells #[.int .i64 a0_0, .bool true, .string a0_2, .int .i64 a0_3, .int .i64 a0_4] 67 (0, 0)) (by (with_reducible repeat (first | refine bDn ?_ _ | refine bDr ?_ | refine bAl ?_ _)); exact BK224.out)) : gb224 ≠ gb225)); have n6_ := AsZ.mk ((by rw [hg]; exact Nat.ne_of_gt (bLt (g := gb224) (o := .cells #[.int .i64 a0_0, .bool true, .string a0_2, .int .i64 a0_3, .int .i64 a0_4] 67 (0, 0)) (by (with_reducible repeat (first | refine bDn ?_ _ | refine bDr ?_ | refine bAl ?_ _)); exact BK224.out)) : gb225 ≠ gb224)); clear BK224; clear HB; have BK224 := n0_; have HB := n1_; have BK225 := n2_; have GW225 := n3_; have GE225 := n4_; have NB224_225 := n5_; have NB225_224 := n6_; clear n0_ n1_ n2_ n3_ n4_ n5_ n6_; clear hb hbox hg))
      have n0_ := AsZ.mk (bDr BK224.out)
      have n1_ := AsZ.mk (bDr BK225.out)
      have n2_ := AsZ.mk (dBl HB.out)
      clear BK224
      clear BK225
      clear HB
      have BK224 := n0_
      have BK225 := n1_
      have HB := n2_
      clear n0_ n1_ n2_
      refine start_ (n := 10) (S := fun w' => w'.cell? ⟨gb224, 0, none⟩ = some (.int .i64 a0_0) ∧ w'.cell? ⟨gb224, 1, none⟩ = some (.bool true) ∧ w'.cell? ⟨gb224, 2, none⟩ = some (.string a0_2) ∧ w'.cell? ⟨gb224, 3, none⟩ = some (.int .i64 a0_3) ∧ w'.cell? ⟨gb224, 4, none⟩ = some (.int .i64 a0_4)) (ds := []) #[false, false, false, false, false, false, false, false, false, false] (by kernel_rfl) rfl rfl ⟨(bCe BK224.out 0).trans rfl, (bCe BK224.out 1).trans rfl, (bCe BK224.out 2).trans rfl, (bCe BK224.out 3).trans rfl, (bCe BK224.out 4).trans rfl⟩ (fun hHeld => ?_); refine with_tabW reply_Of.tab1 reply_Of.bits1 (fun HT_ HW_ => ?_)
      generalize w18.drew = w19 at BK224 BK225 HB hHeld ⊢
      refine pure_ (i := 0) (N := some 7) (v := ?_) (a' := ?_) #[true, false, false, false, false, false, false, false, false, false] rfl rfl (any_of HT_.out (by kernel_rfl)) (fun _ _ _ h => h) (Or.inl ⟨by rfl, ?_⟩) ?_ ?_
      rotate_left
      · intro w'
        go_simp
        with_reducible rfl
      rotate_left
      · simp only [Act.put, List.setIfInBounds_toArray, List.set_cons_zero, List.set_cons_succ, i64_w, i32_w]
        rfl
      refine pure_ (i := 2) (N := some 9) (v := ?_) (a' := ?_) #[true, false, true, false, false, false, false, false, false, false] rfl rfl (any_of HT_.out (by kernel_rfl)) (fun _ _ _ h => h) (Or.inl ⟨by rfl, ?_⟩) ?_ ?_
      rotate_left
      · intro w'
        go_simp
        with_reducible rfl
      rotate_left
      · simp only [Act.put, List.setIfInBounds_toArray, List.set_cons_zero, List.set_cons_succ, i64_w, i32_w]
        rfl
      refine pure_ (i := 4) (N := some 11) (v := ?_) (a' := ?_) #[true, false, true, false, true, false, false, false, false, false] rfl rfl (any_of HT_.out (by kernel_rfl)) (fun _ _ _ h => h) (Or.inl ⟨by rfl, ?_⟩) ?_ ?_
      rotate_left
      · intro w'
        go_simp
        with_reducible rfl
      rotate_left
      · simp only [Act.put, List.setIfInBounds_toArray, List.set_cons_zero, List.set_cons_succ, i64_w, i32_w]
        rfl
      refine pure_ (i := 6) (N := some 13) (v := ?_) (a' := ?_) #[true, false, true, false, true, false, true, false, false, false] rfl rfl (any_of HT_.out (by kernel_rfl)) (fun _ _ _ h => h) (Or.inl ⟨by rfl, ?_⟩) ?_ ?_
      rotate_left
      · intro w'
        go_simp
        with_reducible rfl
      rotate_left
      · simp only [Act.put, List.setIfInBounds_toArray, List.set_cons_zero, List.set_cons_succ, i64_w, i32_w]
        rfl
      refine take_ (i := 1) (N := some 8) (v := ?_) (a' := ?_) #[true, true, true, false, true, false, true, false, false, false] rfl rfl (take_ofW HT_.out HW_.out (by kernel_rfl)) (fun _ _ _ h => h) (Or.inl ⟨by rfl, ?_⟩) hHeld ?_ ?_
      rotate_left
      · rintro w' ⟨s0, s1, s2, s3, s4⟩
        go_simp
        with_reducible rfl
      rotate_left
      · simp only [Act.put, List.setIfInBounds_toArray, List.set_cons_zero, List.set_cons_succ, i64_w, i32_w]
        rfl
      refine take_ (i := 5) (N := some 12) (v := ?_) (a' := ?_) #[true, true, true, false, true, true, true, false, false, false] rfl rfl (take_ofW HT_.out HW_.out (by kernel_rfl)) (fun _ _ _ h => h) (Or.inl ⟨by rfl, ?_⟩) hHeld ?_ ?_
      rotate_left
      · rintro w' ⟨s0, s1, s2, s3, s4⟩
        go_simp
        with_reducible rfl
      rotate_left
      · simp only [Act.put, List.setIfInBounds_toArray, List.set_cons_zero, List.set_cons_succ, i64_w, i32_w]
        rfl
      refine one_ (i := 3) (N := some 10) #[true, true, true, true, true, true, true, false, false, false] rfl rfl (one_of HT_.out (by kernel_rfl)) (by decide) (fun K hK => ?_)
      refine goes_ Try.func12 (by kernel_rfl) rfl #[.int .i64 a0_0, .int .i64 a1] (by rfl) rfl rfl (by (try simp only [List.map_toArray, List.map_cons, List.map_nil]); first | done | rfl | (simp only [List.length_drop, List.length_take]; rfl)) ?_
      with_reducible refine (version_Tag.calls k a0_0 a1 t226 _ A3.out).mono ?_
      rintro e w20 ⟨rfl, hb⟩
      refine ⟨_, rfl, ?_⟩
      have n0_ := AsZ.mk (bBl (g := gb224) (o := .cells #[.int .i64 a0_0, .bool true, .string a0_2, .int .i64 a0_3, .int .i64 a0_4] 67 (0, 0)) (by (with_reducible repeat (first | refine bDn ?_ _ | refine bDr ?_ | refine bAl ?_ _)); exact BK224.out) hb)
      have n1_ := AsZ.mk (bBl (g := gb225) (o := .cells #[.int .i64 0, .string (⟨#[]⟩ : ByteArray), .int .i64 0, .string (⟨#[]⟩ : ByteArray), .slice none 0 0] 64 (0, 0)) (by (with_reducible repeat (first | refine bDn ?_ _ | refine bDr ?_ | refine bAl ?_ _)); exact BK225.out) hb)
      have n2_ := AsZ.mk (tBl (by repeat (first | (with_reducible first | exact HB.out | apply aBl | apply pBd | apply dBl | refine sBl ?_ GE224.out | refine sBl ?_ GE225.out) | exact HB.out)) hb)
      clear BK224
      clear BK225
      clear HB
      have BK224 := n0_
      have BK225 := n1_
      have HB := n2_
      clear n0_ n1_ n2_
      (try clear hb)
      (try clear hb2)
      (try clear hk)
      (try clear hi)
      refine hK.out _ _ ⟨(bCe BK224.out 0).trans rfl, (bCe BK224.out 1).trans rfl, (bCe BK224.out 2).trans rfl, (bCe BK224.out 3).trans rfl, (bCe BK224.out 4).trans rfl⟩ (fun hHeld => ?_)
      clear hK K
      refine norm_ (a' := ?_) ?_ ?_
      rotate_left
      · show Act.put _ (some 10) _ = _
        simp only [Act.put, List.setIfInBounds_toArray, List.set_cons_zero, List.set_cons_succ, i64_w, i32_w]
        rfl
      refine one_ (i := 7) (N := some 14) #[true, true, true, true, true, true, true, true, false, false] rfl rfl (one_of HT_.out (by kernel_rfl)) (by decide) (fun K hK => ?_)
      refine goes_ Try.func16 (by kernel_rfl) rfl #[.int .i64 a0_0, .int .i64 a1] (by rfl) rfl rfl (by (try simp only [List.map_toArray, List.map_cons, List.map_nil]); first | done | rfl | (simp only [List.length_drop, List.length_take]; rfl)) ?_
      with_reducible refine (version_Length.calls a0_0 a1 t227 _ A4.out).mono ?_
      rintro e w' ⟨rfl, ⟨nd, rfl⟩⟩
      refine ⟨_, rfl, ?_⟩
      refine hK.out _ _ ⟨(bCe BK224.out 0).trans rfl, (bCe BK224.out 1).trans rfl, (bCe BK224.out 2).trans rfl, (bCe BK224.out 3).trans rfl, (bCe BK224.out 4).trans rfl⟩ (fun hHeld => ?_)
      clear hK K
      refine norm_ (a' := ?_) ?_ ?_
      rotate_left
      · show Act.put _ (some 14) _ = _
        simp only [Act.put, List.setIfInBounds_toArray, List.set_cons_zero, List.set_cons_succ, i64_w, i32_w]
        rfl
      refine pure_ (i := 8) (N := some 5) (v := ?_) (a' := ?_) #[true, true, true, true, true, true, true, true, true, false] rfl rfl (any_of HT_.out (by kernel_rfl)) (fun _ _ _ h => h) (Or.inl ⟨by rfl, ?_⟩) ?_ ?_
      rotate_left
      · intro w'
        go_simp
        with_reducible rfl
      rotate_left
      · simp only [Act.put, List.setIfInBounds_toArray, List.set_cons_zero, List.set_cons_succ, i64_w, i32_w]
        rfl
      refine pure_ (i := 9) (N := some 6) (v := ?_) (a' := ?_) #[true, true, true, true, true, true, true, true, true, true] rfl rfl (any_of HT_.out (by kernel_rfl)) (fun _ _ _ h => h) (Or.inl ⟨by rfl, ?_⟩) ?_ ?_
      rotate_left
      · intro w'
        go_simp
        with_reducible rfl
      rotate_left
      · simp only [Act.put, List.setIfInBounds_toArray, List.set_cons_zero, List.set_cons_succ, i64_w, i32_w]
        rfl
      refine done_ (done_of HT_.out (by kernel_rfl)) ?_
      have hnb21 := NB224_225.out
      have hnc21 := NB225_224.out
      have hcz22_0 : w20.cell? ⟨gb224, 0, none⟩ = some (.int .i64 a0_0) := (bCe BK224.out 0).trans rfl
      have hcz22_1 : w20.cell? ⟨gb224, 1, none⟩ = some (.bool true) := (bCe BK224.out 1).trans rfl
      have hcz22_2 : w20.cell? ⟨gb224, 2, none⟩ = some (.string a0_2) := (bCe BK224.out 2).trans rfl
      have hcz22_3 : w20.cell? ⟨gb224, 3, none⟩ = some (.int .i64 a0_3) := (bCe BK224.out 3).trans rfl
      have hcz22_4 : w20.cell? ⟨gb224, 4, none⟩ = some (.int .i64 a0_4) := (bCe BK224.out 4).trans rfl
      have hfz22_0 := bFz BK224.out 0
      have hfz22_1 := bFz BK224.out 1
      have hfz22_2 := bFz BK224.out 2
      have hfz22_3 := bFz BK224.out 3
      have hfz22_4 := bFz BK224.out 4
      try go_wp2_with (first | ((with_reducible refine gCa (f := 65) rfl ?_); refine gLl (some 25) rfl rfl Try.func65 (by kernel_rfl) rfl #[.agg #[.int .i64 a0_0, .bool true, .string a0_2, .int .i64 a0_3, .int .i64 a0_4], .string t226, .int .i64 t227] rfl (by (try simp only [List.map_toArray, List.map_cons, List.map_nil]); first | done | rfl | (simp only [List.length_drop, List.length_take]; rfl)) ?_; (with_reducible refine (reply_head.calls a0_0 true a0_2 a0_3 a0_4 t226 t227 t235 t236 t237 t238 t239 _ A16.out).mono ?_); rintro e w23 ⟨v240, rfl, ho0, hb⟩; refine ⟨_, rfl, ?_⟩; have n0_ := AsZ.mk (Kd.R_lower ho0 (zBl (by repeat (first | (with_reducible first | exact HB.out | apply aBl | apply pBd | apply dBl | refine sBl ?_ GE224.out | refine sBl ?_ GE225.out) | exact HB.out)))); have n1_ := AsZ.mk (bBl (g := gb224) (o := .cells #[.int .i64 a0_0, .bool true, .string a0_2, .int .i64 a0_3, .int .i64 a0_4] 67 (0, 0)) (by (with_reducible repeat (first | refine bDn ?_ _ | refine bDr ?_ | refine bAl ?_ _)); exact BK224.out) hb); have n2_ := AsZ.mk (bBl (g := gb225) (o := .cells #[.int .i64 0, .string (⟨#[]⟩ : ByteArray), .int .i64 0, .string (⟨#[]⟩ : ByteArray), .slice none 0 0] 64 (0, 0)) (by (with_reducible repeat (first | refine bDn ?_ _ | refine bDr ?_ | refine bAl ?_ _)); exact BK225.out) hb); have n3_ := AsZ.mk (tBl (by repeat (first | (with_reducible first | exact HB.out | apply aBl | apply pBd | apply dBl | refine sBl ?_ GE224.out | refine sBl ?_ GE225.out) | exact HB.out)) hb); clear BK224; clear BK225; clear HB; have HO241 := n0_; have BK224 := n1_; have BK225 := n2_; have HB := n3_; clear n0_ n1_ n2_ n3_; (try clear hb); (try clear hb2); (try clear hk); (try clear hi); (try clear ho0); have hcz24_0 : w23.cell? ⟨gb225, 0, none⟩ = some (.int .i64 0) := (bCe BK225.out 0).trans rfl; have hcz24_1 : w23.cell? ⟨gb225, 1, none⟩ = some (.string (⟨#[]⟩ : ByteArray)) := (bCe BK225.out 1).trans rfl; have hcz24_2 : w23.cell? ⟨gb225, 2, none⟩ = some (.int .i64 0) := (bCe BK225.out 2).trans rfl; have hcz24_3 : w23.cell? ⟨gb225, 3, none⟩ = some (.string (⟨#[]⟩ : ByteArray)) := (bCe BK225.out 3).trans rfl; have hcz24_4 : w23.cell? ⟨gb225, 4, none⟩ = some (.slice none 0 0) := (bCe BK225.out 4).trans rfl; have hfz24_0 := bFz BK225.out 0; have hfz24_1 := bFz BK225.out 1; have hfz24_2 := bFz BK225.out 2; have hfz24_3 := bFz BK225.out 3; have hfz24_4 := bFz BK225.out 4; obtain ⟨Ao25, co25, eo25⟩ := Kd.R_slice HO241.out; subst eo25))
      refine bodyPost_ret (results_cell_row rfl _ _ gb225 64 #[.int .i64 t235, .string t236, .int .i64 t237, .string t238, .slice Ao25 t239.length co25] (0, 0) _ rfl (by (with_reducible repeat (first | refine bDn ?_ _ | refine bDr ?_ | refine bAl ?_ _)); refine bPu (cs := #[.int .i64 t235, .string t236, .int .i64 t237, .string t238, .slice none 0 0]) ?_ 4 _ rfl; (with_reducible repeat (first | refine bDn ?_ _ | refine bDr ?_ | refine bAl ?_ _)); refine bPu (cs := #[.int .i64 t235, .string t236, .int .i64 t237, .string (⟨#[]⟩ : ByteArray), .slice none 0 0]) ?_ 3 _ rfl; (with_reducible repeat (first | refine bDn ?_ _ | refine bDr ?_ | refine bAl ?_ _)); refine bPu (cs := #[.int .i64 t235, .string t236, .int .i64 0, .string (⟨#[]⟩ : ByteArray), .slice none 0 0]) ?_ 2 _ rfl; (with_reducible repeat (first | refine bDn ?_ _ | refine bDr ?_ | refine bAl ?_ _)); refine bPu (cs := #[.int .i64 t235, .string (⟨#[]⟩ : ByteArray), .int .i64 0, .string (⟨#[]⟩ : ByteArray), .slice none 0 0]) ?_ 1 _ rfl; (with_reducible repeat (first | refine bDn ?_ _ | refine bDr ?_ | refine bAl ?_ _)); refine bPu (cs := #[.int .i64 0, .string (⟨#[]⟩ : ByteArray), .int .i64 0, .string (⟨#[]⟩ : ByteArray), .slice none 0 0]) ?_ 0 _ rfl; (with_reducible repeat (first | refine bDn ?_ _ | refine bDr ?_ | refine bAl ?_ _)); exact BK225.out) Try.underlying64 rfl (by kernel_rfl)) rfl ?_
      exact ⟨_, by first | rfl | (simp [eWn, eWs] <;> rfl) | (simp [*, eWn, eWs] <;> rfl), by (with_reducible repeat (first | apply Kd.R_alloc | apply Kd.R_drewN | apply Kd.R_drew)); exact Kd.R_mono (Kd.R_far (p := ⟨gb225, 4, none⟩) (Kd.R_far (p := ⟨gb225, 3, none⟩) (Kd.R_far (p := ⟨gb225, 2, none⟩) (Kd.R_far (p := ⟨gb225, 1, none⟩) (Kd.R_far (p := ⟨gb225, 0, none⟩) (Kd.R_types HO241.out BK225.out (by decide)) (fun _ hk => hk.2) (.int .i64 t235)) (fun _ hk => hk.2) (.string t236)) (fun _ hk => hk.2) (.int .i64 t237)) (fun _ hk => hk.2) (.string t238)) (fun _ hk => hk.2) (.slice Ao25 t239.length co25)) (fun _ hk => trivial), by repeat (first | (with_reducible first | exact HB.out | apply aBl | apply pBd | apply dBl | refine sBl ?_ GE224.out | refine sBl ?_ GE225.out) | exact HB.out)⟩
    · replace c15 := Bool.eq_false_iff.mpr c15
      subst c15
      have H1 : (if a0_2.toList = t226.toList then ((span_Right.f a0_3 a0_4).bind fun t242 => (if t242 = true then (reply_Of.j0 k a1 t226 t227 (decide (a0_4 > t227)) a0_0 false a0_2 a0_3 a0_4) else (reply_Of.j0 k a1 t226 t227 true a0_0 false a0_2 a0_3 a0_4))) else (some (412, t226, 0, (⟨#[]⟩ : ByteArray), ([] : List Int)))) = some (r1, r2, r3, r4, r5) := by rw [if_neg (show ¬ (false = true) by decide)] at H; exact H
      clear H
      have H := H1
      clear H1
      by_cases c26 : a0_2.toList = t226.toList
      · rw [if_pos c26] at H
        have c26b0 : (a0_2.toList == t226.toList) = true := beq_iff_eq.mpr c26
        have c26b1 : (a0_2.toList != t226.toList) = false := bne_eq_false_iff_eq.mpr c26
        clear c26
        have HC27 := AsZ.mk H
        clear H
        go_enter Try.func38, Try.ntmps38
        try go_wp2_with (first | ((with_reducible refine gDs (N := 2) rfl ?_); refine bEv ?hg (N := 2) ?hd (cs := #[.int .i64 a0_0, .bool false, .string a0_2, .int .i64 a0_3, .int .i64 a0_4]) (t := 67) ?hr ?_; (case hd => rfl); (case hg => rfl); (case hr => first | (go_simp; done) | (go_simp; rfl)); intro gb224 hg w28 hbox hb; have n0_ := AsZ.mk (tBl (by repeat (first | (with_reducible first | exact HB.out | apply aBl | apply pBd | apply dBl) | exact HB.out)) hb); have n1_ := AsZ.mk (hbox); have n2_ := AsZ.mk ((by rw [hg]; exact (zBl (by repeat (first | (with_reducible first | exact HB.out | apply aBl | apply pBd | apply dBl) | exact HB.out))) : w.heap.size ≤ gb224)); have n3_ := AsZ.mk ((by rw [hg]; exact (zBl (by repeat (first | (with_reducible first | exact HB.out | apply aBl | apply pBd | apply dBl) | exact HB.out))) : w.heap.size ≤ gb224)); clear HB; have HB := n0_; have BK224 := n1_; have GW224 := n2_; have GE224 := n3_; clear n0_ n1_ n2_ n3_; clear hb hbox hg) | ((with_reducible refine gDs (N := 4) rfl ?_); refine bEv ?hg (N := 4) ?hd (cs := #[.int .i64 0, .string (⟨#[]⟩ : ByteArray), .int .i64 0, .string (⟨#[]⟩ : ByteArray), .slice none 0 0]) (t := 64) ?hr ?_; (case hd => rfl); (case hg => rfl); (case hr => first | (go_simp; done) | (go_simp; rfl)); intro gb225 hg w29 hbox hb; have n0_ := AsZ.mk (bBl (g := gb224) (o := .cells #[.int .i64 a0_0, .bool false, .string a0_2, .int .i64 a0_3, .int .i64 a0_4] 67 (0, 0)) (by (with_reducible repeat (first | refine bDn ?_ _ | refine bDr ?_ | refine bAl ?_ _)); exact BK224.out) hb); have n1_ := AsZ.mk (tBl (by repeat (first | (with_reducible first | exact HB.out | apply aBl | apply pBd | apply dBl | refine sBl ?_ GE224.out) | exact HB.out)) hb); have n2_ := AsZ.mk (hbox); have n3_ := AsZ.mk ((by rw [hg]; exact (zBl (by repeat (first | (with_reducible first | exact HB.out | apply aBl | apply pBd | apply dBl | refine sBl ?_ GE224.out) | exact HB.out))) : w.heap.size ≤ gb225)); have n4_ := AsZ.mk ((by rw [hg]; exact (zBl (by repeat (first | (with_reducible first | exact HB.out | apply aBl | apply pBd | apply dBl | refine sBl ?_ GE224.out) | exact HB.out))) : w.heap.size ≤ gb225)); have n5_ := AsZ.mk ((by rw [hg]; exact Nat.ne_of_lt (bLt (g := gb224) (o := .cells #[.int .i64 a0_0, .bool false, .string a0_2, .int .i64 a0_3, .int .i64 a0_4] 67 (0, 0)) (by (with_reducible repeat (first | refine bDn ?_ _ | refine bDr ?_ | refine bAl ?_ _)); exact BK224.out)) : gb224 ≠ gb225)); have n6_ := AsZ.mk ((by rw [hg]; exact Nat.ne_of_gt (bLt (g := gb224) (o := .cells #[.int .i64 a0_0, .bool false, .string a0_2, .int .i64 a0_3, .int .i64 a0_4] 67 (0, 0)) (by (with_reducible repeat (first | refine bDn ?_ _ | refine bDr ?_ | refine bAl ?_ _)); exact BK224.out)) : gb225 ≠ gb224)); clear BK224; clear HB; have BK224 := n0_; have HB := n1_; have BK225 := n2_; have GW225 := n3_; have GE225 := n4_; have NB224_225 := n5_; have NB225_224 := n6_; clear n0_ n1_ n2_ n3_ n4_ n5_ n6_; clear hb hbox hg))
        have n0_ := AsZ.mk (bDr BK224.out)
        have n1_ := AsZ.mk (bDr BK225.out)
        have n2_ := AsZ.mk (dBl HB.out)
        clear BK224
        clear BK225
        clear HB
        have BK224 := n0_
        have BK225 := n1_
        have HB := n2_
        clear n0_ n1_ n2_
        refine start_ (n := 10) (S := fun w' => w'.cell? ⟨gb224, 0, none⟩ = some (.int .i64 a0_0) ∧ w'.cell? ⟨gb224, 1, none⟩ = some (.bool false) ∧ w'.cell? ⟨gb224, 2, none⟩ = some (.string a0_2) ∧ w'.cell? ⟨gb224, 3, none⟩ = some (.int .i64 a0_3) ∧ w'.cell? ⟨gb224, 4, none⟩ = some (.int .i64 a0_4)) (ds := []) #[false, false, false, false, false, false, false, false, false, false] (by kernel_rfl) rfl rfl ⟨(bCe BK224.out 0).trans rfl, (bCe BK224.out 1).trans rfl, (bCe BK224.out 2).trans rfl, (bCe BK224.out 3).trans rfl, (bCe BK224.out 4).trans rfl⟩ (fun hHeld => ?_); refine with_tabW reply_Of.tab1 reply_Of.bits1 (fun HT_ HW_ => ?_)
        generalize w29.drew = w30 at BK224 BK225 HB hHeld ⊢
        refine pure_ (i := 0) (N := some 7) (v := ?_) (a' := ?_) #[true, false, false, false, false, false, false, false, false, false] rfl rfl (any_of HT_.out (by kernel_rfl)) (fun _ _ _ h => h) (Or.inl ⟨by rfl, ?_⟩) ?_ ?_
        rotate_left
        · intro w'
          go_simp
          with_reducible rfl
        rotate_left
        · simp only [Act.put, List.setIfInBounds_toArray, List.set_cons_zero, List.set_cons_succ, i64_w, i32_w]
          rfl
        refine pure_ (i := 2) (N := some 9) (v := ?_) (a' := ?_) #[true, false, true, false, false, false, false, false, false, false] rfl rfl (any_of HT_.out (by kernel_rfl)) (fun _ _ _ h => h) (Or.inl ⟨by rfl, ?_⟩) ?_ ?_
        rotate_left
        · intro w'
          go_simp
          with_reducible rfl
        rotate_left
        · simp only [Act.put, List.setIfInBounds_toArray, List.set_cons_zero, List.set_cons_succ, i64_w, i32_w]
          rfl
        refine pure_ (i := 4) (N := some 11) (v := ?_) (a' := ?_) #[true, false, true, false, true, false, false, false, false, false] rfl rfl (any_of HT_.out (by kernel_rfl)) (fun _ _ _ h => h) (Or.inl ⟨by rfl, ?_⟩) ?_ ?_
        rotate_left
        · intro w'
          go_simp
          with_reducible rfl
        rotate_left
        · simp only [Act.put, List.setIfInBounds_toArray, List.set_cons_zero, List.set_cons_succ, i64_w, i32_w]
          rfl
        refine pure_ (i := 6) (N := some 13) (v := ?_) (a' := ?_) #[true, false, true, false, true, false, true, false, false, false] rfl rfl (any_of HT_.out (by kernel_rfl)) (fun _ _ _ h => h) (Or.inl ⟨by rfl, ?_⟩) ?_ ?_
        rotate_left
        · intro w'
          go_simp
          with_reducible rfl
        rotate_left
        · simp only [Act.put, List.setIfInBounds_toArray, List.set_cons_zero, List.set_cons_succ, i64_w, i32_w]
          rfl
        refine take_ (i := 1) (N := some 8) (v := ?_) (a' := ?_) #[true, true, true, false, true, false, true, false, false, false] rfl rfl (take_ofW HT_.out HW_.out (by kernel_rfl)) (fun _ _ _ h => h) (Or.inl ⟨by rfl, ?_⟩) hHeld ?_ ?_
        rotate_left
        · rintro w' ⟨s0, s1, s2, s3, s4⟩
          go_simp
          with_reducible rfl
        rotate_left
        · simp only [Act.put, List.setIfInBounds_toArray, List.set_cons_zero, List.set_cons_succ, i64_w, i32_w]
          rfl
        refine take_ (i := 5) (N := some 12) (v := ?_) (a' := ?_) #[true, true, true, false, true, true, true, false, false, false] rfl rfl (take_ofW HT_.out HW_.out (by kernel_rfl)) (fun _ _ _ h => h) (Or.inl ⟨by rfl, ?_⟩) hHeld ?_ ?_
        rotate_left
        · rintro w' ⟨s0, s1, s2, s3, s4⟩
          go_simp
          with_reducible rfl
        rotate_left
        · simp only [Act.put, List.setIfInBounds_toArray, List.set_cons_zero, List.set_cons_succ, i64_w, i32_w]
          rfl
        refine one_ (i := 3) (N := some 10) #[true, true, true, true, true, true, true, false, false, false] rfl rfl (one_of HT_.out (by kernel_rfl)) (by decide) (fun K hK => ?_)
        refine goes_ Try.func12 (by kernel_rfl) rfl #[.int .i64 a0_0, .int .i64 a1] (by rfl) rfl rfl (by (try simp only [List.map_toArray, List.map_cons, List.map_nil]); first | done | rfl | (simp only [List.length_drop, List.length_take]; rfl)) ?_
        with_reducible refine (version_Tag.calls k a0_0 a1 t226 _ A3.out).mono ?_
        rintro e w31 ⟨rfl, hb⟩
        refine ⟨_, rfl, ?_⟩
        have n0_ := AsZ.mk (bBl (g := gb224) (o := .cells #[.int .i64 a0_0, .bool false, .string a0_2, .int .i64 a0_3, .int .i64 a0_4] 67 (0, 0)) (by (with_reducible repeat (first | refine bDn ?_ _ | refine bDr ?_ | refine bAl ?_ _)); exact BK224.out) hb)
        have n1_ := AsZ.mk (bBl (g := gb225) (o := .cells #[.int .i64 0, .string (⟨#[]⟩ : ByteArray), .int .i64 0, .string (⟨#[]⟩ : ByteArray), .slice none 0 0] 64 (0, 0)) (by (with_reducible repeat (first | refine bDn ?_ _ | refine bDr ?_ | refine bAl ?_ _)); exact BK225.out) hb)
        have n2_ := AsZ.mk (tBl (by repeat (first | (with_reducible first | exact HB.out | apply aBl | apply pBd | apply dBl | refine sBl ?_ GE224.out | refine sBl ?_ GE225.out) | exact HB.out)) hb)
        clear BK224
        clear BK225
        clear HB
        have BK224 := n0_
        have BK225 := n1_
        have HB := n2_
        clear n0_ n1_ n2_
        (try clear hb)
        (try clear hb2)
        (try clear hk)
        (try clear hi)
        refine hK.out _ _ ⟨(bCe BK224.out 0).trans rfl, (bCe BK224.out 1).trans rfl, (bCe BK224.out 2).trans rfl, (bCe BK224.out 3).trans rfl, (bCe BK224.out 4).trans rfl⟩ (fun hHeld => ?_)
        clear hK K
        refine norm_ (a' := ?_) ?_ ?_
        rotate_left
        · show Act.put _ (some 10) _ = _
          simp only [Act.put, List.setIfInBounds_toArray, List.set_cons_zero, List.set_cons_succ, i64_w, i32_w]
          rfl
        refine one_ (i := 7) (N := some 14) #[true, true, true, true, true, true, true, true, false, false] rfl rfl (one_of HT_.out (by kernel_rfl)) (by decide) (fun K hK => ?_)
        refine goes_ Try.func16 (by kernel_rfl) rfl #[.int .i64 a0_0, .int .i64 a1] (by rfl) rfl rfl (by (try simp only [List.map_toArray, List.map_cons, List.map_nil]); first | done | rfl | (simp only [List.length_drop, List.length_take]; rfl)) ?_
        with_reducible refine (version_Length.calls a0_0 a1 t227 _ A4.out).mono ?_
        rintro e w' ⟨rfl, ⟨nd, rfl⟩⟩
        refine ⟨_, rfl, ?_⟩
        refine hK.out _ _ ⟨(bCe BK224.out 0).trans rfl, (bCe BK224.out 1).trans rfl, (bCe BK224.out 2).trans rfl, (bCe BK224.out 3).trans rfl, (bCe BK224.out 4).trans rfl⟩ (fun hHeld => ?_)
        clear hK K
        refine norm_ (a' := ?_) ?_ ?_
        rotate_left
        · show Act.put _ (some 14) _ = _
          simp only [Act.put, List.setIfInBounds_toArray, List.set_cons_zero, List.set_cons_succ, i64_w, i32_w]
          rfl
        refine pure_ (i := 8) (N := some 5) (v := ?_) (a' := ?_) #[true, true, true, true, true, true, true, true, true, false] rfl rfl (any_of HT_.out (by kernel_rfl)) (fun _ _ _ h => h) (Or.inl ⟨by rfl, ?_⟩) ?_ ?_
        rotate_left
        · intro w'
          go_simp
          with_reducible rfl
        rotate_left
        · simp only [Act.put, List.setIfInBounds_toArray, List.set_cons_zero, List.set_cons_succ, i64_w, i32_w]
          rfl
        refine pure_ (i := 9) (N := some 6) (v := ?_) (a' := ?_) #[true, true, true, true, true, true, true, true, true, true] rfl rfl (any_of HT_.out (by kernel_rfl)) (fun _ _ _ h => h) (Or.inl ⟨by rfl, ?_⟩) ?_ ?_
        rotate_left
        · intro w'
          go_simp
          with_reducible rfl
        rotate_left
        · simp only [Act.put, List.setIfInBounds_toArray, List.set_cons_zero, List.set_cons_succ, i64_w, i32_w]
          rfl
        refine done_ (done_of HT_.out (by kernel_rfl)) ?_
        have hnb32 := NB224_225.out
        have hnc32 := NB225_224.out
        have hcz33_0 : w31.cell? ⟨gb224, 0, none⟩ = some (.int .i64 a0_0) := (bCe BK224.out 0).trans rfl
        have hcz33_1 : w31.cell? ⟨gb224, 1, none⟩ = some (.bool false) := (bCe BK224.out 1).trans rfl
        have hcz33_2 : w31.cell? ⟨gb224, 2, none⟩ = some (.string a0_2) := (bCe BK224.out 2).trans rfl
        have hcz33_3 : w31.cell? ⟨gb224, 3, none⟩ = some (.int .i64 a0_3) := (bCe BK224.out 3).trans rfl
        have hcz33_4 : w31.cell? ⟨gb224, 4, none⟩ = some (.int .i64 a0_4) := (bCe BK224.out 4).trans rfl
        have hfz33_0 := bFz BK224.out 0
        have hfz33_1 := bFz BK224.out 1
        have hfz33_2 := bFz BK224.out 2
        have hfz33_3 := bFz BK224.out 3
        have hfz33_4 := bFz BK224.out 4
        go_upto_region 8 with (fail)
        go_cut [33] (fun v33 wc => ∃ (kq : Nat) (x33_26 : Bool), v33 = .bool x33_26 ∧ AsZ (reply_Of.j0 kq a1 t226 t227 x33_26 a0_0 false a0_2 a0_3 a0_4 = some (r1, r2, r3, r4, r5)) ∧ AsZ (kq ≤ k) ∧ AsZ (wc.heap[gb224]? = some (.cells #[.int .i64 a0_0, .bool false, .string a0_2, .int .i64 a0_3, .int .i64 a0_4] 67 (0, 0))) ∧ AsZ (wc.heap[gb225]? = some (.cells #[.int .i64 0, .string (⟨#[]⟩ : ByteArray), .int .i64 0, .string (⟨#[]⟩ : ByteArray), (.slice none 0 0)] 64 (0, 0))) ∧ AsZ (Below w.heap.size w wc))
        case first =>
          have H := HC27.out
          clear HC27
          replace H := Option.bind_eq_some_iff.mp H
          obtain ⟨t242, A340, H⟩ := H
          replace H : (if t242 = true then (reply_Of.j0 k a1 t226 t227 (decide (a0_4 > t227)) a0_0 false a0_2 a0_3 a0_4) else (reply_Of.j0 k a1 t226 t227 true a0_0 false a0_2 a0_3 a0_4)) = some (r1, r2, r3, r4, r5) := H
          have A34 := AsZ.mk A340
          clear A340
          by_cases c35 : t242 = true
          · subst c35
            have H1 : (reply_Of.j0 k a1 t226 t227 (decide (a0_4 > t227)) a0_0 false a0_2 a0_3 a0_4) = some (r1, r2, r3, r4, r5) := by rw [if_pos rfl] at H; exact H
            clear H
            have H := H1
            clear H1
            have H' := AsZ.mk H
            clear H
            have hnb36 := NB224_225.out
            have hnc36 := NB225_224.out
            have hcz37_0 : w31.cell? ⟨gb224, 0, none⟩ = some (.int .i64 a0_0) := (bCe BK224.out 0).trans rfl
            have hcz37_1 : w31.cell? ⟨gb224, 1, none⟩ = some (.bool false) := (bCe BK224.out 1).trans rfl
            have hcz37_2 : w31.cell? ⟨gb224, 2, none⟩ = some (.string a0_2) := (bCe BK224.out 2).trans rfl
            have hcz37_3 : w31.cell? ⟨gb224, 3, none⟩ = some (.int .i64 a0_3) := (bCe BK224.out 3).trans rfl
            have hcz37_4 : w31.cell? ⟨gb224, 4, none⟩ = some (.int .i64 a0_4) := (bCe BK224.out 4).trans rfl
            have hfz37_0 := bFz BK224.out 0
            have hfz37_1 := bFz BK224.out 1
            have hfz37_2 := bFz BK224.out 2
            have hfz37_3 := bFz BK224.out 3
            have hfz37_4 := bFz BK224.out 4
            go_wp2_with (first | ((with_reducible refine gCa (f := 55) rfl ?_); refine gLl (some 36) rfl rfl Try.func55 (by kernel_rfl) rfl #[.agg #[.int .i64 a0_3, .int .i64 a0_4]] rfl (by (try simp only [List.map_toArray, List.map_cons, List.map_nil]); first | done | rfl | (simp only [List.length_drop, List.length_take]; rfl)) ?_; (with_reducible refine (span_Right.calls a0_3 a0_4 true _ A34.out).mono ?_); rintro e w38 ⟨rfl, hb⟩; refine ⟨_, rfl, ?_⟩; have n0_ := AsZ.mk (bBl (g := gb224) (o := .cells #[.int .i64 a0_0, .bool false, .string a0_2, .int .i64 a0_3, .int .i64 a0_4] 67 (0, 0)) (by (with_reducible repeat (first | refine bDn ?_ _ | refine bDr ?_ | refine bAl ?_ _)); exact BK224.out) hb); have n1_ := AsZ.mk (bBl (g := gb225) (o := .cells #[.int .i64 0, .string (⟨#[]⟩ : ByteArray), .int .i64 0, .string (⟨#[]⟩ : ByteArray), .slice none 0 0] 64 (0, 0)) (by (with_reducible repeat (first | refine bDn ?_ _ | refine bDr ?_ | refine bAl ?_ _)); exact BK225.out) hb); have n2_ := AsZ.mk (tBl (by repeat (first | (with_reducible first | exact HB.out | apply aBl | apply pBd | apply dBl | refine sBl ?_ GE224.out | refine sBl ?_ GE225.out) | exact HB.out)) hb); clear BK224; clear BK225; clear HB; have BK224 := n0_; have BK225 := n1_; have HB := n2_; clear n0_ n1_ n2_; (try clear hb); (try clear hb2); (try clear hk); (try clear hi); have hcz39_0 : w38.cell? ⟨gb224, 0, none⟩ = some (.int .i64 a0_0) := (bCe BK224.out 0).trans rfl; have hcz39_1 : w38.cell? ⟨gb224, 1, none⟩ = some (.bool false) := (bCe BK224.out 1).trans rfl; have hcz39_2 : w38.cell? ⟨gb224, 2, none⟩ = some (.string a0_2) := (bCe BK224.out 2).trans rfl; have hcz39_3 : w38.cell? ⟨gb224, 3, none⟩ = some (.int .i64 a0_3) := (bCe BK224.out 3).trans rfl; have hcz39_4 : w38.cell? ⟨gb224, 4, none⟩ = some (.int .i64 a0_4) := (bCe BK224.out 4).trans rfl; have hfz39_0 := bFz BK224.out 0; have hfz39_1 := bFz BK224.out 1; have hfz39_2 := bFz BK224.out 2; have hfz39_3 := bFz BK224.out 3; have hfz39_4 := bFz BK224.out 4))
            go_meet
            case rel => exact ⟨_, (decide (a0_4 > t227)), (by first | rfl | (simp; done) | (simp [*]; done)), H', ⟨by first | omega | exact Nat.le_refl _⟩, ⟨by (with_reducible repeat (first | refine bDn ?_ _ | refine bDr ?_ | refine bAl ?_ _)); exact BK224.out⟩, ⟨by (with_reducible repeat (first | refine bDn ?_ _ | refine bDr ?_ | refine bAl ?_ _)); exact BK225.out⟩, ⟨by repeat (first | (with_reducible first | exact HB.out | apply aBl | apply pBd | apply dBl | refine sBl ?_ GE224.out | refine sBl ?_ GE225.out) | exact HB.out)⟩⟩
          · replace c35 := Bool.eq_false_iff.mpr c35
            subst c35
            have H1 : (reply_Of.j0 k a1 t226 t227 true a0_0 false a0_2 a0_3 a0_4) = some (r1, r2, r3, r4, r5) := by rw [if_neg (show ¬ (false = true) by decide)] at H; exact H
            clear H
            have H := H1
            clear H1
            have H' := AsZ.mk H
            clear H
            have hnb40 := NB224_225.out
            have hnc40 := NB225_224.out
            have hcz41_0 : w31.cell? ⟨gb224, 0, none⟩ = some (.int .i64 a0_0) := (bCe BK224.out 0).trans rfl
            have hcz41_1 : w31.cell? ⟨gb224, 1, none⟩ = some (.bool false) := (bCe BK224.out 1).trans rfl
            have hcz41_2 : w31.cell? ⟨gb224, 2, none⟩ = some (.string a0_2) := (bCe BK224.out 2).trans rfl
            have hcz41_3 : w31.cell? ⟨gb224, 3, none⟩ = some (.int .i64 a0_3) := (bCe BK224.out 3).trans rfl
            have hcz41_4 : w31.cell? ⟨gb224, 4, none⟩ = some (.int .i64 a0_4) := (bCe BK224.out 4).trans rfl
            have hfz41_0 := bFz BK224.out 0
            have hfz41_1 := bFz BK224.out 1
            have hfz41_2 := bFz BK224.out 2
            have hfz41_3 := bFz BK224.out 3
            have hfz41_4 := bFz BK224.out 4
            go_wp2_with (first | ((with_reducible refine gCa (f := 55) rfl ?_); refine gLl (some 36) rfl rfl Try.func55 (by kernel_rfl) rfl #[.agg #[.int .i64 a0_3, .int .i64 a0_4]] rfl (by (try simp only [List.map_toArray, List.map_cons, List.map_nil]); first | done | rfl | (simp only [List.length_drop, List.length_take]; rfl)) ?_; (with_reducible refine (span_Right.calls a0_3 a0_4 false _ A34.out).mono ?_); rintro e w42 ⟨rfl, hb⟩; refine ⟨_, rfl, ?_⟩; have n0_ := AsZ.mk (bBl (g := gb224) (o := .cells #[.int .i64 a0_0, .bool false, .string a0_2, .int .i64 a0_3, .int .i64 a0_4] 67 (0, 0)) (by (with_reducible repeat (first | refine bDn ?_ _ | refine bDr ?_ | refine bAl ?_ _)); exact BK224.out) hb); have n1_ := AsZ.mk (bBl (g := gb225) (o := .cells #[.int .i64 0, .string (⟨#[]⟩ : ByteArray), .int .i64 0, .string (⟨#[]⟩ : ByteArray), .slice none 0 0] 64 (0, 0)) (by (with_reducible repeat (first | refine bDn ?_ _ | refine bDr ?_ | refine bAl ?_ _)); exact BK225.out) hb); have n2_ := AsZ.mk (tBl (by repeat (first | (with_reducible first | exact HB.out | apply aBl | apply pBd | apply dBl | refine sBl ?_ GE224.out | refine sBl ?_ GE225.out) | exact HB.out)) hb); clear BK224; clear BK225; clear HB; have BK224 := n0_; have BK225 := n1_; have HB := n2_; clear n0_ n1_ n2_; (try clear hb); (try clear hb2); (try clear hk); (try clear hi)))
            go_meet
            case rel => exact ⟨_, (true), (by first | rfl | (simp; done) | (simp [*]; done)), H', ⟨by first | omega | exact Nat.le_refl _⟩, ⟨by (with_reducible repeat (first | refine bDn ?_ _ | refine bDr ?_ | refine bAl ?_ _)); exact BK224.out⟩, ⟨by (with_reducible repeat (first | refine bDn ?_ _ | refine bDr ?_ | refine bAl ?_ _)); exact BK225.out⟩, ⟨by repeat (first | (with_reducible first | exact HB.out | apply aBl | apply pBd | apply dBl | refine sBl ?_ GE224.out | refine sBl ?_ GE225.out) | exact HB.out)⟩⟩
        case rest =>
          clear HC27
          try clear c1
          try clear c2
          try clear p2
          try clear c3
          try clear c4
          try clear c5
          try clear c5b0
          try clear c5b1
          try clear c6
          try clear c12
          try clear c15
          try clear c16
          try clear c21
          try clear c26
          try clear c26b0
          try clear c26b1
          try clear c32
          try clear c35
          try clear c36
          try clear c38
          try clear c40
          try clear c41
          try clear hcz13_0
          try clear hcz13_1
          try clear hcz13_2
          try clear hcz13_3
          try clear hcz13_4
          try clear hcz22_0
          try clear hcz22_1
          try clear hcz22_2
          try clear hcz22_3
          try clear hcz22_4
          try clear hcz24_0
          try clear hcz24_1
          try clear hcz24_2
          try clear hcz24_3
          try clear hcz24_4
          try clear hcz33_0
          try clear hcz33_1
          try clear hcz33_2
          try clear hcz33_3
          try clear hcz33_4
          try clear hcz37_0
          try clear hcz37_1
          try clear hcz37_2
          try clear hcz37_3
          try clear hcz37_4
          try clear hcz39_0
          try clear hcz39_1
          try clear hcz39_2
          try clear hcz39_3
          try clear hcz39_4
          try clear hcz41_0
          try clear hcz41_1
          try clear hcz41_2
          try clear hcz41_3
          try clear hcz41_4
          try clear hfz13_0
          try clear hfz13_1
          try clear hfz13_2
          try clear hfz13_3
          try clear hfz13_4
          try clear hfz22_0
          try clear hfz22_1
          try clear hfz22_2
          try clear hfz22_3
          try clear hfz22_4
          try clear hfz24_0
          try clear hfz24_1
          try clear hfz24_2
          try clear hfz24_3
          try clear hfz24_4
          try clear hfz33_0
          try clear hfz33_1
          try clear hfz33_2
          try clear hfz33_3
          try clear hfz33_4
          try clear hfz37_0
          try clear hfz37_1
          try clear hfz37_2
          try clear hfz37_3
          try clear hfz37_4
          try clear hfz39_0
          try clear hfz39_1
          try clear hfz39_2
          try clear hfz39_3
          try clear hfz39_4
          try clear hfz41_0
          try clear hfz41_1
          try clear hfz41_2
          try clear hfz41_3
          try clear hfz41_4
          obtain ⟨kq, x33_26, rfl, HA, HJ26, BK224, BK225, HB⟩ := hcut
          cases kq with
          | zero => exact absurd HA.out (by simp [reply_Of.j0])
          | succ kj26 =>
            have H := HA.out
            clear HA
            simp only [reply_Of.j0] at H
            by_cases c43 : x33_26 = true
            · subst c43
              have H1 : ((crange_Print.f kj26 false 0 0 t227).bind fun t243 => (some (416, t226, 0, t243, ([] : List Int)))) = some (r1, r2, r3, r4, r5) := by rw [if_pos rfl] at H; exact H
              clear H
              have H := H1
              clear H1
              replace H := Option.bind_eq_some_iff.mp H
              obtain ⟨t243, A440, H⟩ := H
              replace H : (some (416, t226, 0, t243, ([] : List Int))) = some (r1, r2, r3, r4, r5) := H
              have A44 := AsZ.mk A440
              clear A440
              simp only [Option.some.injEq, Prod.mk.injEq] at H
              obtain ⟨rfl, rfl, rfl, rfl, rfl⟩ := H
              go_wp2_with (first | ((with_reducible refine gCa (f := 66) rfl ?_); refine gLl (some 48) rfl rfl Try.func66 (by kernel_rfl) rfl #[.agg #[.bool false, .int .i64 0, .int .i64 0, .int .i64 t227]] rfl (by (try simp only [List.map_toArray, List.map_cons, List.map_nil]); first | done | rfl | (simp only [List.length_drop, List.length_take]; rfl)) ?_; (with_reducible refine (crange_Print.calls kj26 false 0 0 t227 t243 _ A44.out).mono ?_); rintro e w45 ⟨rfl, hb⟩; refine ⟨_, rfl, ?_⟩; have n0_ := AsZ.mk (bBl (g := gb224) (o := .cells #[.int .i64 a0_0, .bool false, .string a0_2, .int .i64 a0_3, .int .i64 a0_4] 67 (0, 0)) (by (with_reducible repeat (first | refine bDn ?_ _ | refine bDr ?_ | refine bAl ?_ _)); exact BK224.out) hb); have n1_ := AsZ.mk (bBl (g := gb225) (o := .cells #[.int .i64 0, .string (⟨#[]⟩ : ByteArray), .int .i64 0, .string (⟨#[]⟩ : ByteArray), .slice none 0 0] 64 (0, 0)) (by (with_reducible repeat (first | refine bDn ?_ _ | refine bDr ?_ | refine bAl ?_ _)); exact BK225.out) hb); have n2_ := AsZ.mk (tBl (by repeat (first | (with_reducible first | exact HB.out | apply aBl | apply pBd | apply dBl | refine sBl ?_ GE224.out | refine sBl ?_ GE225.out) | exact HB.out)) hb); clear BK224; clear BK225; clear HB; have BK224 := n0_; have BK225 := n1_; have HB := n2_; clear n0_ n1_ n2_; (try clear hb); (try clear hb2); (try clear hk); (try clear hi); have hnb46 := NB225_224.out; have hnc46 := NB224_225.out; have hcz47_0 : w45.cell? ⟨gb225, 0, none⟩ = some (.int .i64 0) := (bCe BK225.out 0).trans rfl; have hcz47_1 : w45.cell? ⟨gb225, 1, none⟩ = some (.string (⟨#[]⟩ : ByteArray)) := (bCe BK225.out 1).trans rfl; have hcz47_2 : w45.cell? ⟨gb225, 2, none⟩ = some (.int .i64 0) := (bCe BK225.out 2).trans rfl; have hcz47_3 : w45.cell? ⟨gb225, 3, none⟩ = some (.string (⟨#[]⟩ : ByteArray)) := (bCe BK225.out 3).trans rfl; have hcz47_4 : w45.cell? ⟨gb225, 4, none⟩ = some (.slice none 0 0) := (bCe BK225.out 4).trans rfl; have hfz47_0 := bFz BK225.out 0; have hfz47_1 := bFz BK225.out 1; have hfz47_2 := bFz BK225.out 2; have hfz47_3 := bFz BK225.out 3; have hfz47_4 := bFz BK225.out 4))
              refine bodyPost_ret (results_cell_row rfl _ _ gb225 64 #[.int .i64 416, .string t226, .int .i64 0, .string t243, .slice none 0 0] (0, 0) _ rfl (by (with_reducible repeat (first | refine bDn ?_ _ | refine bDr ?_ | refine bAl ?_ _)); refine bPu (cs := #[.int .i64 416, .string t226, .int .i64 0, .string t243, .slice none 0 0]) ?_ 4 _ rfl; (with_reducible repeat (first | refine bDn ?_ _ | refine bDr ?_ | refine bAl ?_ _)); refine bPu (cs := #[.int .i64 416, .string t226, .int .i64 0, .string (⟨#[]⟩ : ByteArray), .slice none 0 0]) ?_ 3 _ rfl; (with_reducible repeat (first | refine bDn ?_ _ | refine bDr ?_ | refine bAl ?_ _)); refine bPu (cs := #[.int .i64 416, .string t226, .int .i64 0, .string (⟨#[]⟩ : ByteArray), .slice none 0 0]) ?_ 2 _ rfl; (with_reducible repeat (first | refine bDn ?_ _ | refine bDr ?_ | refine bAl ?_ _)); refine bPu (cs := #[.int .i64 416, .string (⟨#[]⟩ : ByteArray), .int .i64 0, .string (⟨#[]⟩ : ByteArray), .slice none 0 0]) ?_ 1 _ rfl; (with_reducible repeat (first | refine bDn ?_ _ | refine bDr ?_ | refine bAl ?_ _)); refine bPu (cs := #[.int .i64 0, .string (⟨#[]⟩ : ByteArray), .int .i64 0, .string (⟨#[]⟩ : ByteArray), .slice none 0 0]) ?_ 0 _ rfl; (with_reducible repeat (first | refine bDn ?_ _ | refine bDr ?_ | refine bAl ?_ _)); exact BK225.out) Try.underlying64 rfl (by kernel_rfl)) rfl ?_
              exact ⟨_, by first | rfl | (simp [eWn, eWs] <;> rfl) | (simp [*, eWn, eWs] <;> rfl), by first | exact Kd.R_nil _ _ _ _ _ | exact Kd.N_nil _ _ _ _ _ | exact Kd.V_nil _ _ _ _ _ | exact Kd.Q_nil _ _ _ _ _ | exact Kd.S_nil _ _ _ _ _, by repeat (first | (with_reducible first | exact HB.out | apply aBl | apply pBd | apply dBl | refine sBl ?_ GE224.out | refine sBl ?_ GE225.out) | exact HB.out)⟩
            · replace c43 := Bool.eq_false_iff.mpr c43
              subst c43
              have H1 : ((crange_Of.f kj26 a0_3 a0_4 t227).bind fun t244 => ((version_Body.f kj26 a0_0 a1 a0_3 a0_4).bind fun t245 => (some (206, t226, t227, t244, t245)))) = some (r1, r2, r3, r4, r5) := by rw [if_neg (show ¬ (false = true) by decide)] at H; exact H
              clear H
              have H := H1
              clear H1
              replace H := Option.bind_eq_some_iff.mp H
              obtain ⟨t244, A480, H⟩ := H
              replace H : ((version_Body.f kj26 a0_0 a1 a0_3 a0_4).bind fun t245 => (some (206, t226, t227, t244, t245))) = some (r1, r2, r3, r4, r5) := H
              have A48 := AsZ.mk A480
              clear A480
              replace H := Option.bind_eq_some_iff.mp H
              obtain ⟨t245, A490, H⟩ := H
              replace H : (some (206, t226, t227, t244, t245)) = some (r1, r2, r3, r4, r5) := H
              have A49 := AsZ.mk A490
              clear A490
              simp only [Option.some.injEq, Prod.mk.injEq] at H
              obtain ⟨rfl, rfl, rfl, rfl, rfl⟩ := H
              try go_wp2
              have n0_ := AsZ.mk (bDr BK224.out)
              have n1_ := AsZ.mk (bDr BK225.out)
              have n2_ := AsZ.mk (dBl HB.out)
              clear BK224
              clear BK225
              clear HB
              have BK224 := n0_
              have BK225 := n1_
              have HB := n2_
              clear n0_ n1_ n2_
              refine start_ (n := 14) (S := fun w' => w'.cell? ⟨gb224, 0, none⟩ = some (.int .i64 a0_0) ∧ w'.cell? ⟨gb224, 1, none⟩ = some (.bool false) ∧ w'.cell? ⟨gb224, 2, none⟩ = some (.string a0_2) ∧ w'.cell? ⟨gb224, 3, none⟩ = some (.int .i64 a0_3) ∧ w'.cell? ⟨gb224, 4, none⟩ = some (.int .i64 a0_4)) (ds := []) #[false, false, false, false, false, false, false, false, false, false, false, false, false, false] (by kernel_rfl) rfl rfl ⟨(bCe BK224.out 0).trans rfl, (bCe BK224.out 1).trans rfl, (bCe BK224.out 2).trans rfl, (bCe BK224.out 3).trans rfl, (bCe BK224.out 4).trans rfl⟩ (fun hHeld => ?_); refine with_tabW reply_Of.tab10 reply_Of.bits10 (fun HT_ HW_ => ?_)
              generalize wc.drew = w50 at BK224 BK225 HB hHeld ⊢
              refine pure_ (i := 0) (N := some 50) (v := ?_) (a' := ?_) #[true, false, false, false, false, false, false, false, false, false, false, false, false, false] rfl rfl (any_of HT_.out (by kernel_rfl)) (fun _ _ _ h => h) (Or.inl ⟨by rfl, ?_⟩) ?_ ?_
              rotate_left
              · intro w'
                go_simp
                with_reducible rfl
              rotate_left
              · simp only [Act.put, List.setIfInBounds_toArray, List.set_cons_zero, List.set_cons_succ, i64_w, i32_w]
                rfl
              refine pure_ (i := 1) (N := some 51) (v := ?_) (a' := ?_) #[true, true, false, false, false, false, false, false, false, false, false, false, false, false] rfl rfl (any_of HT_.out (by kernel_rfl)) (fun _ _ _ h => h) (Or.inl ⟨by rfl, ?_⟩) ?_ ?_
              rotate_left
              · intro w'
                go_simp
                with_reducible rfl
              rotate_left
              · simp only [Act.put, List.setIfInBounds_toArray, List.set_cons_zero, List.set_cons_succ, i64_w, i32_w]
                rfl
              refine pure_ (i := 2) (N := some 52) (v := ?_) (a' := ?_) #[true, true, true, false, false, false, false, false, false, false, false, false, false, false] rfl rfl (any_of HT_.out (by kernel_rfl)) (fun _ _ _ h => h) (Or.inl ⟨by rfl, ?_⟩) ?_ ?_
              rotate_left
              · intro w'
                go_simp
                with_reducible rfl
              rotate_left
              · simp only [Act.put, List.setIfInBounds_toArray, List.set_cons_zero, List.set_cons_succ, i64_w, i32_w]
                rfl
              refine pure_ (i := 4) (N := some 54) (v := ?_) (a' := ?_) #[true, true, true, false, true, false, false, false, false, false, false, false, false, false] rfl rfl (any_of HT_.out (by kernel_rfl)) (fun _ _ _ h => h) (Or.inl ⟨by rfl, ?_⟩) ?_ ?_
              rotate_left
              · intro w'
                go_simp
                with_reducible rfl
              rotate_left
              · simp only [Act.put, List.setIfInBounds_toArray, List.set_cons_zero, List.set_cons_succ, i64_w, i32_w]
                rfl
              refine pure_ (i := 6) (N := some 56) (v := ?_) (a' := ?_) #[true, true, true, false, true, false, true, false, false, false, false, false, false, false] rfl rfl (any_of HT_.out (by kernel_rfl)) (fun _ _ _ h => h) (Or.inl ⟨by rfl, ?_⟩) ?_ ?_
              rotate_left
              · intro w'
                go_simp
                with_reducible rfl
              rotate_left
              · simp only [Act.put, List.setIfInBounds_toArray, List.set_cons_zero, List.set_cons_succ, i64_w, i32_w]
                rfl
              refine pure_ (i := 8) (N := some 58) (v := ?_) (a' := ?_) #[true, true, true, false, true, false, true, false, true, false, false, false, false, false] rfl rfl (any_of HT_.out (by kernel_rfl)) (fun _ _ _ h => h) (Or.inl ⟨by rfl, ?_⟩) ?_ ?_
              rotate_left
              · intro w'
                go_simp
                with_reducible rfl
              rotate_left
              · simp only [Act.put, List.setIfInBounds_toArray, List.set_cons_zero, List.set_cons_succ, i64_w, i32_w]
                rfl
              refine pure_ (i := 9) (N := some 59) (v := ?_) (a' := ?_) #[true, true, true, false, true, false, true, false, true, true, false, false, false, false] rfl rfl (any_of HT_.out (by kernel_rfl)) (fun _ _ _ h => h) (Or.inl ⟨by rfl, ?_⟩) ?_ ?_
              rotate_left
              · intro w'
                go_simp
                with_reducible rfl
              rotate_left
              · simp only [Act.put, List.setIfInBounds_toArray, List.set_cons_zero, List.set_cons_succ, i64_w, i32_w]
                rfl
              refine take_ (i := 3) (N := some 53) (v := ?_) (a' := ?_) #[true, true, true, true, true, false, true, false, true, true, false, false, false, false] rfl rfl (take_ofW HT_.out HW_.out (by kernel_rfl)) (fun _ _ _ h => h) (Or.inl ⟨by rfl, ?_⟩) hHeld ?_ ?_
              rotate_left
              · rintro w' ⟨s0, s1, s2, s3, s4⟩
                go_simp
                with_reducible rfl
              rotate_left
              · simp only [Act.put, List.setIfInBounds_toArray, List.set_cons_zero, List.set_cons_succ, i64_w, i32_w]
                rfl
              refine take_ (i := 7) (N := some 57) (v := ?_) (a' := ?_) #[true, true, true, true, true, false, true, true, true, true, false, false, false, false] rfl rfl (take_ofW HT_.out HW_.out (by kernel_rfl)) (fun _ _ _ h => h) (Or.inl ⟨by rfl, ?_⟩) hHeld ?_ ?_
              rotate_left
              · rintro w' ⟨s0, s1, s2, s3, s4⟩
                go_simp
                with_reducible rfl
              rotate_left
              · simp only [Act.put, List.setIfInBounds_toArray, List.set_cons_zero, List.set_cons_succ, i64_w, i32_w]
                rfl
              refine take_ (i := 10) (N := some 60) (v := ?_) (a' := ?_) #[true, true, true, true, true, false, true, true, true, true, true, false, false, false] rfl rfl (take_ofW HT_.out HW_.out (by kernel_rfl)) (fun _ _ _ h => h) (Or.inl ⟨by rfl, ?_⟩) hHeld ?_ ?_
              rotate_left
              · rintro w' ⟨s0, s1, s2, s3, s4⟩
                go_simp
                with_reducible rfl
              rotate_left
              · simp only [Act.put, List.setIfInBounds_toArray, List.set_cons_zero, List.set_cons_succ, i64_w, i32_w]
                rfl
              refine one_ (i := 5) (N := some 55) #[true, true, true, true, true, true, true, true, true, true, true, false, false, false] rfl rfl (one_of HT_.out (by kernel_rfl)) (by decide) (fun K hK => ?_)
              refine goes_ Try.func67 (by kernel_rfl) rfl #[.agg #[.int .i64 a0_3, .int .i64 a0_4], .int .i64 t227] (by rfl) rfl rfl (by (try simp only [List.map_toArray, List.map_cons, List.map_nil]); first | done | rfl | (simp only [List.length_drop, List.length_take]; rfl)) ?_
              with_reducible refine (crange_Of.calls kj26 a0_3 a0_4 t227 t244 _ A48.out).mono ?_
              rintro e w51 ⟨rfl, hb⟩
              refine ⟨_, rfl, ?_⟩
              have n0_ := AsZ.mk (bBl (g := gb224) (o := .cells #[.int .i64 a0_0, .bool false, .string a0_2, .int .i64 a0_3, .int .i64 a0_4] 67 (0, 0)) (by (with_reducible repeat (first | refine bDn ?_ _ | refine bDr ?_ | refine bAl ?_ _)); exact BK224.out) hb)
              have n1_ := AsZ.mk (bBl (g := gb225) (o := .cells #[.int .i64 0, .string (⟨#[]⟩ : ByteArray), .int .i64 0, .string (⟨#[]⟩ : ByteArray), .slice none 0 0] 64 (0, 0)) (by (with_reducible repeat (first | refine bDn ?_ _ | refine bDr ?_ | refine bAl ?_ _)); exact BK225.out) hb)
              have n2_ := AsZ.mk (tBl (by repeat (first | (with_reducible first | exact HB.out | apply aBl | apply pBd | apply dBl | refine sBl ?_ GE224.out | refine sBl ?_ GE225.out) | exact HB.out)) hb)
              clear BK224
              clear BK225
              clear HB
              have BK224 := n0_
              have BK225 := n1_
              have HB := n2_
              clear n0_ n1_ n2_
              (try clear hb)
              (try clear hb2)
              (try clear hk)
              (try clear hi)
              refine hK.out _ _ ⟨(bCe BK224.out 0).trans rfl, (bCe BK224.out 1).trans rfl, (bCe BK224.out 2).trans rfl, (bCe BK224.out 3).trans rfl, (bCe BK224.out 4).trans rfl⟩ (fun hHeld => ?_)
              clear hK K
              refine norm_ (a' := ?_) ?_ ?_
              rotate_left
              · show Act.put _ (some 55) _ = _
                simp only [Act.put, List.setIfInBounds_toArray, List.set_cons_zero, List.set_cons_succ, i64_w, i32_w]
                rfl
              refine one_ (i := 11) (N := some 61) #[true, true, true, true, true, true, true, true, true, true, true, true, false, false] rfl rfl (one_of HT_.out (by kernel_rfl)) (by decide) (fun K hK => ?_)
              refine goes_ Try.func20 (by kernel_rfl) rfl #[.int .i64 a0_0, .int .i64 a1, .agg #[.int .i64 a0_3, .int .i64 a0_4]] (by rfl) rfl rfl (by (try simp only [List.map_toArray, List.map_cons, List.map_nil]); first | done | rfl | (simp only [List.length_drop, List.length_take]; rfl)) ?_
              with_reducible refine (version_Body.calls kj26 a0_0 a1 a0_3 a0_4 t245 _ A49.out).mono ?_
              rintro e w52 ⟨v246, rfl, ho0, hb⟩
              refine ⟨_, rfl, ?_⟩
              have n0_ := AsZ.mk (Kd.R_lower ho0 (zBl (by repeat (first | (with_reducible first | exact HB.out | apply aBl | apply pBd | apply dBl | refine sBl ?_ GE224.out | refine sBl ?_ GE225.out) | exact HB.out))))
              have n1_ := AsZ.mk (bBl (g := gb224) (o := .cells #[.int .i64 a0_0, .bool false, .string a0_2, .int .i64 a0_3, .int .i64 a0_4] 67 (0, 0)) (by (with_reducible repeat (first | refine bDn ?_ _ | refine bDr ?_ | refine bAl ?_ _)); exact BK224.out) hb)
              have n2_ := AsZ.mk (bBl (g := gb225) (o := .cells #[.int .i64 0, .string (⟨#[]⟩ : ByteArray), .int .i64 0, .string (⟨#[]⟩ : ByteArray), .slice none 0 0] 64 (0, 0)) (by (with_reducible repeat (first | refine bDn ?_ _ | refine bDr ?_ | refine bAl ?_ _)); exact BK225.out) hb)
              have n3_ := AsZ.mk (tBl (by repeat (first | (with_reducible first | exact HB.out | apply aBl | apply pBd | apply dBl | refine sBl ?_ GE224.out | refine sBl ?_ GE225.out) | exact HB.out)) hb)
              clear BK224
              clear BK225
              clear HB
              have HO247 := n0_
              have BK224 := n1_
              have BK225 := n2_
              have HB := n3_
              clear n0_ n1_ n2_ n3_
              (try clear hb)
              (try clear hb2)
              (try clear hk)
              (try clear hi)
              (try clear ho0)
              obtain ⟨Ao53, co53, eo53⟩ := Kd.R_slice HO247.out
              (first | subst eo53 | (injection eo53 with f1_ f2_ f3_; have f4_ := f1_.symm; have f5_ := f3_.symm; clear f1_ f2_ f3_; subst f4_; subst f5_))
              refine hK.out _ _ ⟨(bCe BK224.out 0).trans rfl, (bCe BK224.out 1).trans rfl, (bCe BK224.out 2).trans rfl, (bCe BK224.out 3).trans rfl, (bCe BK224.out 4).trans rfl⟩ (fun hHeld => ?_)
              clear hK K
              refine norm_ (a' := ?_) ?_ ?_
              rotate_left
              · show Act.put _ (some 61) _ = _
                simp only [Act.put, List.setIfInBounds_toArray, List.set_cons_zero, List.set_cons_succ, i64_w, i32_w]
                rfl
              refine pure_ (i := 12) (N := some 62) (v := ?_) (a' := ?_) #[true, true, true, true, true, true, true, true, true, true, true, true, true, false] rfl rfl (any_of HT_.out (by kernel_rfl)) (fun _ _ _ h => h) (Or.inl ⟨by rfl, ?_⟩) ?_ ?_
              rotate_left
              · intro w'
                go_simp
                with_reducible rfl
              rotate_left
              · simp only [Act.put, List.setIfInBounds_toArray, List.set_cons_zero, List.set_cons_succ, i64_w, i32_w]
                rfl
              refine one_ (i := 13) (N := none) #[true, true, true, true, true, true, true, true, true, true, true, true, true, true] rfl rfl (one_of HT_.out (by kernel_rfl)) (by decide) (fun K hK => ?_)
              have hs54 : w52.cell? ⟨gb225, 0, none⟩ = some (.int .i64 0) := (bCe BK225.out 0).trans rfl
              have hfs54 := bFz BK225.out 0
              have hns54_0 := NB224_225.out
              have hms54_0 := NB225_224.out
              have hs55 : w52.cell? ⟨gb225, 1, none⟩ = some (.string (⟨#[]⟩ : ByteArray)) := (bCe BK225.out 1).trans rfl
              have hfs55 := bFz BK225.out 1
              have hns55_0 := NB224_225.out
              have hms55_0 := NB225_224.out
              have hs56 : w52.cell? ⟨gb225, 2, none⟩ = some (.int .i64 0) := (bCe BK225.out 2).trans rfl
              have hfs56 := bFz BK225.out 2
              have hns56_0 := NB224_225.out
              have hms56_0 := NB225_224.out
              have hs57 : w52.cell? ⟨gb225, 3, none⟩ = some (.string (⟨#[]⟩ : ByteArray)) := (bCe BK225.out 3).trans rfl
              have hfs57 := bFz BK225.out 3
              have hns57_0 := NB224_225.out
              have hms57_0 := NB225_224.out
              have hs58 : w52.cell? ⟨gb225, 4, none⟩ = some (.slice none 0 0) := (bCe BK225.out 4).trans rfl
              have hfs58 := bFz BK225.out 4
              have hns58_0 := NB224_225.out
              have hms58_0 := NB225_224.out
              refine skip_ (w1 := ?_) (by rfl) rfl ?_ ?_
              rotate_left
              · go_simp
                rfl
              refine hK.out _ _ ⟨((cell_far (p := ⟨gb225, _, none⟩) NB224_225.out _).trans (((cell_far (p := ⟨gb225, _, none⟩) NB224_225.out _).trans (((cell_far (p := ⟨gb225, _, none⟩) NB224_225.out _).trans (((cell_far (p := ⟨gb225, _, none⟩) NB224_225.out _).trans (((cell_far (p := ⟨gb225, _, none⟩) NB224_225.out _).trans (hHeld.1)))))))))), ((cell_far (p := ⟨gb225, _, none⟩) NB224_225.out _).trans (((cell_far (p := ⟨gb225, _, none⟩) NB224_225.out _).trans (((cell_far (p := ⟨gb225, _, none⟩) NB224_225.out _).trans (((cell_far (p := ⟨gb225, _, none⟩) NB224_225.out _).trans (((cell_far (p := ⟨gb225, _, none⟩) NB224_225.out _).trans (hHeld.2.1)))))))))), ((cell_far (p := ⟨gb225, _, none⟩) NB224_225.out _).trans (((cell_far (p := ⟨gb225, _, none⟩) NB224_225.out _).trans (((cell_far (p := ⟨gb225, _, none⟩) NB224_225.out _).trans (((cell_far (p := ⟨gb225, _, none⟩) NB224_225.out _).trans (((cell_far (p := ⟨gb225, _, none⟩) NB224_225.out _).trans (hHeld.2.2.1)))))))))), ((cell_far (p := ⟨gb225, _, none⟩) NB224_225.out _).trans (((cell_far (p := ⟨gb225, _, none⟩) NB224_225.out _).trans (((cell_far (p := ⟨gb225, _, none⟩) NB224_225.out _).trans (((cell_far (p := ⟨gb225, _, none⟩) NB224_225.out _).trans (((cell_far (p := ⟨gb225, _, none⟩) NB224_225.out _).trans (hHeld.2.2.2.1)))))))))), ((cell_far (p := ⟨gb225, _, none⟩) NB224_225.out _).trans (((cell_far (p := ⟨gb225, _, none⟩) NB224_225.out _).trans (((cell_far (p := ⟨gb225, _, none⟩) NB224_225.out _).trans (((cell_far (p := ⟨gb225, _, none⟩) NB224_225.out _).trans (((cell_far (p := ⟨gb225, _, none⟩) NB224_225.out _).trans (hHeld.2.2.2.2))))))))))⟩ (fun hHeld => ?_)
              clear hK K
              refine done_ (done_of HT_.out (by kernel_rfl)) ?_
              try go_wp2
              refine bodyPost_ret (results_cell_row rfl _ _ gb225 64 #[.int .i64 206, .string t226, .int .i64 t227, .string t244, .slice Ao53 t245.length co53] (0, 0) _ rfl (by (with_reducible repeat (first | refine bDn ?_ _ | refine bDr ?_ | refine bAl ?_ _)); refine bPu (cs := #[.int .i64 206, .string t226, .int .i64 t227, .string t244, .slice none 0 0]) ?_ 4 _ rfl; (with_reducible repeat (first | refine bDn ?_ _ | refine bDr ?_ | refine bAl ?_ _)); refine bPu (cs := #[.int .i64 206, .string t226, .int .i64 t227, .string (⟨#[]⟩ : ByteArray), .slice none 0 0]) ?_ 3 _ rfl; (with_reducible repeat (first | refine bDn ?_ _ | refine bDr ?_ | refine bAl ?_ _)); refine bPu (cs := #[.int .i64 206, .string t226, .int .i64 0, .string (⟨#[]⟩ : ByteArray), .slice none 0 0]) ?_ 2 _ rfl; (with_reducible repeat (first | refine bDn ?_ _ | refine bDr ?_ | refine bAl ?_ _)); refine bPu (cs := #[.int .i64 206, .string (⟨#[]⟩ : ByteArray), .int .i64 0, .string (⟨#[]⟩ : ByteArray), .slice none 0 0]) ?_ 1 _ rfl; (with_reducible repeat (first | refine bDn ?_ _ | refine bDr ?_ | refine bAl ?_ _)); refine bPu (cs := #[.int .i64 0, .string (⟨#[]⟩ : ByteArray), .int .i64 0, .string (⟨#[]⟩ : ByteArray), .slice none 0 0]) ?_ 0 _ rfl; (with_reducible repeat (first | refine bDn ?_ _ | refine bDr ?_ | refine bAl ?_ _)); exact BK225.out) Try.underlying64 rfl (by kernel_rfl)) rfl ?_
              exact ⟨_, by first | rfl | (simp [eWn, eWs] <;> rfl) | (simp [*, eWn, eWs] <;> rfl), by (with_reducible repeat (first | apply Kd.R_alloc | apply Kd.R_drewN | apply Kd.R_drew)); exact Kd.R_mono (Kd.R_far (p := ⟨gb225, 4, none⟩) (Kd.R_far (p := ⟨gb225, 3, none⟩) (Kd.R_far (p := ⟨gb225, 2, none⟩) (Kd.R_far (p := ⟨gb225, 1, none⟩) (Kd.R_far (p := ⟨gb225, 0, none⟩) (Kd.R_types HO247.out BK225.out (by decide)) (fun _ hk => hk.2) (.int .i64 206)) (fun _ hk => hk.2) (.string t226)) (fun _ hk => hk.2) (.int .i64 t227)) (fun _ hk => hk.2) (.string t244)) (fun _ hk => hk.2) (.slice Ao53 t245.length co53)) (fun _ hk => trivial), by repeat (first | (with_reducible first | exact HB.out | apply aBl | apply pBd | apply dBl | refine sBl ?_ GE224.out | refine sBl ?_ GE225.out) | exact HB.out)⟩
      · rw [if_neg c26] at H
        have c26b0 : (a0_2.toList == t226.toList) = false := beq_eq_false_iff_ne.mpr c26
        have c26b1 : (a0_2.toList != t226.toList) = true := bne_iff_ne.mpr c26
        simp only [Option.some.injEq, Prod.mk.injEq] at H
        obtain ⟨rfl, rfl, rfl, rfl, rfl⟩ := H
        go_enter Try.func38, Try.ntmps38
        try go_wp2_with (first | ((with_reducible refine gDs (N := 2) rfl ?_); refine bEv ?hg (N := 2) ?hd (cs := #[.int .i64 a0_0, .bool false, .string a0_2, .int .i64 a0_3, .int .i64 a0_4]) (t := 67) ?hr ?_; (case hd => rfl); (case hg => rfl); (case hr => first | (go_simp; done) | (go_simp; rfl)); intro gb224 hg w59 hbox hb; have n0_ := AsZ.mk (tBl (by repeat (first | (with_reducible first | exact HB.out | apply aBl | apply pBd | apply dBl) | exact HB.out)) hb); have n1_ := AsZ.mk (hbox); have n2_ := AsZ.mk ((by rw [hg]; exact (zBl (by repeat (first | (with_reducible first | exact HB.out | apply aBl | apply pBd | apply dBl) | exact HB.out))) : w.heap.size ≤ gb224)); have n3_ := AsZ.mk ((by rw [hg]; exact (zBl (by repeat (first | (with_reducible first | exact HB.out | apply aBl | apply pBd | apply dBl) | exact HB.out))) : w.heap.size ≤ gb224)); clear HB; have HB := n0_; have BK224 := n1_; have GW224 := n2_; have GE224 := n3_; clear n0_ n1_ n2_ n3_; clear hb hbox hg) | ((with_reducible refine gDs (N := 4) rfl ?_); refine bEv ?hg (N := 4) ?hd (cs := #[.int .i64 0, .string (⟨#[]⟩ : ByteArray), .int .i64 0, .string (⟨#[]⟩ : ByteArray), .slice none 0 0]) (t := 64) ?hr ?_; (case hd => rfl); (case hg => rfl); (case hr => first | (go_simp; done) | (go_simp; rfl)); intro gb225 hg w60 hbox hb; have n0_ := AsZ.mk (bBl (g := gb224) (o := .cells #[.int .i64 a0_0, .bool false, .string a0_2, .int .i64 a0_3, .int .i64 a0_4] 67 (0, 0)) (by (with_reducible repeat (first | refine bDn ?_ _ | refine bDr ?_ | refine bAl ?_ _)); exact BK224.out) hb); have n1_ := AsZ.mk (tBl (by repeat (first | (with_reducible first | exact HB.out | apply aBl | apply pBd | apply dBl | refine sBl ?_ GE224.out) | exact HB.out)) hb); have n2_ := AsZ.mk (hbox); have n3_ := AsZ.mk ((by rw [hg]; exact (zBl (by repeat (first | (with_reducible first | exact HB.out | apply aBl | apply pBd | apply dBl | refine sBl ?_ GE224.out) | exact HB.out))) : w.heap.size ≤ gb225)); have n4_ := AsZ.mk ((by rw [hg]; exact (zBl (by repeat (first | (with_reducible first | exact HB.out | apply aBl | apply pBd | apply dBl | refine sBl ?_ GE224.out) | exact HB.out))) : w.heap.size ≤ gb225)); have n5_ := AsZ.mk ((by rw [hg]; exact Nat.ne_of_lt (bLt (g := gb224) (o := .cells #[.int .i64 a0_0, .bool false, .string a0_2, .int .i64 a0_3, .int .i64 a0_4] 67 (0, 0)) (by (with_reducible repeat (first | refine bDn ?_ _ | refine bDr ?_ | refine bAl ?_ _)); exact BK224.out)) : gb224 ≠ gb225)); have n6_ := AsZ.mk ((by rw [hg]; exact Nat.ne_of_gt (bLt (g := gb224) (o := .cells #[.int .i64 a0_0, .bool false, .string a0_2, .int .i64 a0_3, .int .i64 a0_4] 67 (0, 0)) (by (with_reducible repeat (first | refine bDn ?_ _ | refine bDr ?_ | refine bAl ?_ _)); exact BK224.out)) : gb225 ≠ gb224)); clear BK224; clear HB; have BK224 := n0_; have HB := n1_; have BK225 := n2_; have GW225 := n3_; have GE225 := n4_; have NB224_225 := n5_; have NB225_224 := n6_; clear n0_ n1_ n2_ n3_ n4_ n5_ n6_; clear hb hbox hg))
        have n0_ := AsZ.mk (bDr BK224.out)
        have n1_ := AsZ.mk (bDr BK225.out)
        have n2_ := AsZ.mk (dBl HB.out)
        clear BK224
        clear BK225
        clear HB
        have BK224 := n0_
        have BK225 := n1_
        have HB := n2_
        clear n0_ n1_ n2_
        refine start_ (n := 10) (S := fun w' => w'.cell? ⟨gb224, 0, none⟩ = some (.int .i64 a0_0) ∧ w'.cell? ⟨gb224, 1, none⟩ = some (.bool false) ∧ w'.cell? ⟨gb224, 2, none⟩ = some (.string a0_2) ∧ w'.cell? ⟨gb224, 3, none⟩ = some (.int .i64 a0_3) ∧ w'.cell? ⟨gb224, 4, none⟩ = some (.int .i64 a0_4)) (ds := []) #[false, false, false, false, false, false, false, false, false, false] (by kernel_rfl) rfl rfl ⟨(bCe BK224.out 0).trans rfl, (bCe BK224.out 1).trans rfl, (bCe BK224.out 2).trans rfl, (bCe BK224.out 3).trans rfl, (bCe BK224.out 4).trans rfl⟩ (fun hHeld => ?_); refine with_tabW reply_Of.tab1 reply_Of.bits1 (fun HT_ HW_ => ?_)
        generalize w60.drew = w61 at BK224 BK225 HB hHeld ⊢
        refine pure_ (i := 0) (N := some 7) (v := ?_) (a' := ?_) #[true, false, false, false, false, false, false, false, false, false] rfl rfl (any_of HT_.out (by kernel_rfl)) (fun _ _ _ h => h) (Or.inl ⟨by rfl, ?_⟩) ?_ ?_
        rotate_left
        · intro w'
          go_simp
          with_reducible rfl
        rotate_left
        · simp only [Act.put, List.setIfInBounds_toArray, List.set_cons_zero, List.set_cons_succ, i64_w, i32_w]
          rfl
        refine pure_ (i := 2) (N := some 9) (v := ?_) (a' := ?_) #[true, false, true, false, false, false, false, false, false, false] rfl rfl (any_of HT_.out (by kernel_rfl)) (fun _ _ _ h => h) (Or.inl ⟨by rfl, ?_⟩) ?_ ?_
        rotate_left
        · intro w'
          go_simp
          with_reducible rfl
        rotate_left
        · simp only [Act.put, List.setIfInBounds_toArray, List.set_cons_zero, List.set_cons_succ, i64_w, i32_w]
          rfl
        refine pure_ (i := 4) (N := some 11) (v := ?_) (a' := ?_) #[true, false, true, false, true, false, false, false, false, false] rfl rfl (any_of HT_.out (by kernel_rfl)) (fun _ _ _ h => h) (Or.inl ⟨by rfl, ?_⟩) ?_ ?_
        rotate_left
        · intro w'
          go_simp
          with_reducible rfl
        rotate_left
        · simp only [Act.put, List.setIfInBounds_toArray, List.set_cons_zero, List.set_cons_succ, i64_w, i32_w]
          rfl
        refine pure_ (i := 6) (N := some 13) (v := ?_) (a' := ?_) #[true, false, true, false, true, false, true, false, false, false] rfl rfl (any_of HT_.out (by kernel_rfl)) (fun _ _ _ h => h) (Or.inl ⟨by rfl, ?_⟩) ?_ ?_
        rotate_left
        · intro w'
          go_simp
          with_reducible rfl
        rotate_left
        · simp only [Act.put, List.setIfInBounds_toArray, List.set_cons_zero, List.set_cons_succ, i64_w, i32_w]
          rfl
        refine take_ (i := 1) (N := some 8) (v := ?_) (a' := ?_) #[true, true, true, false, true, false, true, false, false, false] rfl rfl (take_ofW HT_.out HW_.out (by kernel_rfl)) (fun _ _ _ h => h) (Or.inl ⟨by rfl, ?_⟩) hHeld ?_ ?_
        rotate_left
        · rintro w' ⟨s0, s1, s2, s3, s4⟩
          go_simp
          with_reducible rfl
        rotate_left
        · simp only [Act.put, List.setIfInBounds_toArray, List.set_cons_zero, List.set_cons_succ, i64_w, i32_w]
          rfl
        refine take_ (i := 5) (N := some 12) (v := ?_) (a' := ?_) #[true, true, true, false, true, true, true, false, false, false] rfl rfl (take_ofW HT_.out HW_.out (by kernel_rfl)) (fun _ _ _ h => h) (Or.inl ⟨by rfl, ?_⟩) hHeld ?_ ?_
        rotate_left
        · rintro w' ⟨s0, s1, s2, s3, s4⟩
          go_simp
          with_reducible rfl
        rotate_left
        · simp only [Act.put, List.setIfInBounds_toArray, List.set_cons_zero, List.set_cons_succ, i64_w, i32_w]
          rfl
        refine one_ (i := 3) (N := some 10) #[true, true, true, true, true, true, true, false, false, false] rfl rfl (one_of HT_.out (by kernel_rfl)) (by decide) (fun K hK => ?_)
        refine goes_ Try.func12 (by kernel_rfl) rfl #[.int .i64 a0_0, .int .i64 a1] (by rfl) rfl rfl (by (try simp only [List.map_toArray, List.map_cons, List.map_nil]); first | done | rfl | (simp only [List.length_drop, List.length_take]; rfl)) ?_
        with_reducible refine (version_Tag.calls k a0_0 a1 t226 _ A3.out).mono ?_
        rintro e w62 ⟨rfl, hb⟩
        refine ⟨_, rfl, ?_⟩
        have n0_ := AsZ.mk (bBl (g := gb224) (o := .cells #[.int .i64 a0_0, .bool false, .string a0_2, .int .i64 a0_3, .int .i64 a0_4] 67 (0, 0)) (by (with_reducible repeat (first | refine bDn ?_ _ | refine bDr ?_ | refine bAl ?_ _)); exact BK224.out) hb)
        have n1_ := AsZ.mk (bBl (g := gb225) (o := .cells #[.int .i64 0, .string (⟨#[]⟩ : ByteArray), .int .i64 0, .string (⟨#[]⟩ : ByteArray), .slice none 0 0] 64 (0, 0)) (by (with_reducible repeat (first | refine bDn ?_ _ | refine bDr ?_ | refine bAl ?_ _)); exact BK225.out) hb)
        have n2_ := AsZ.mk (tBl (by repeat (first | (with_reducible first | exact HB.out | apply aBl | apply pBd | apply dBl | refine sBl ?_ GE224.out | refine sBl ?_ GE225.out) | exact HB.out)) hb)
        clear BK224
        clear BK225
        clear HB
        have BK224 := n0_
        have BK225 := n1_
        have HB := n2_
        clear n0_ n1_ n2_
        (try clear hb)
        (try clear hb2)
        (try clear hk)
        (try clear hi)
        refine hK.out _ _ ⟨(bCe BK224.out 0).trans rfl, (bCe BK224.out 1).trans rfl, (bCe BK224.out 2).trans rfl, (bCe BK224.out 3).trans rfl, (bCe BK224.out 4).trans rfl⟩ (fun hHeld => ?_)
        clear hK K
        refine norm_ (a' := ?_) ?_ ?_
        rotate_left
        · show Act.put _ (some 10) _ = _
          simp only [Act.put, List.setIfInBounds_toArray, List.set_cons_zero, List.set_cons_succ, i64_w, i32_w]
          rfl
        refine one_ (i := 7) (N := some 14) #[true, true, true, true, true, true, true, true, false, false] rfl rfl (one_of HT_.out (by kernel_rfl)) (by decide) (fun K hK => ?_)
        refine goes_ Try.func16 (by kernel_rfl) rfl #[.int .i64 a0_0, .int .i64 a1] (by rfl) rfl rfl (by (try simp only [List.map_toArray, List.map_cons, List.map_nil]); first | done | rfl | (simp only [List.length_drop, List.length_take]; rfl)) ?_
        with_reducible refine (version_Length.calls a0_0 a1 t227 _ A4.out).mono ?_
        rintro e w' ⟨rfl, ⟨nd, rfl⟩⟩
        refine ⟨_, rfl, ?_⟩
        refine hK.out _ _ ⟨(bCe BK224.out 0).trans rfl, (bCe BK224.out 1).trans rfl, (bCe BK224.out 2).trans rfl, (bCe BK224.out 3).trans rfl, (bCe BK224.out 4).trans rfl⟩ (fun hHeld => ?_)
        clear hK K
        refine norm_ (a' := ?_) ?_ ?_
        rotate_left
        · show Act.put _ (some 14) _ = _
          simp only [Act.put, List.setIfInBounds_toArray, List.set_cons_zero, List.set_cons_succ, i64_w, i32_w]
          rfl
        refine pure_ (i := 8) (N := some 5) (v := ?_) (a' := ?_) #[true, true, true, true, true, true, true, true, true, false] rfl rfl (any_of HT_.out (by kernel_rfl)) (fun _ _ _ h => h) (Or.inl ⟨by rfl, ?_⟩) ?_ ?_
        rotate_left
        · intro w'
          go_simp
          with_reducible rfl
        rotate_left
        · simp only [Act.put, List.setIfInBounds_toArray, List.set_cons_zero, List.set_cons_succ, i64_w, i32_w]
          rfl
        refine pure_ (i := 9) (N := some 6) (v := ?_) (a' := ?_) #[true, true, true, true, true, true, true, true, true, true] rfl rfl (any_of HT_.out (by kernel_rfl)) (fun _ _ _ h => h) (Or.inl ⟨by rfl, ?_⟩) ?_ ?_
        rotate_left
        · intro w'
          go_simp
          with_reducible rfl
        rotate_left
        · simp only [Act.put, List.setIfInBounds_toArray, List.set_cons_zero, List.set_cons_succ, i64_w, i32_w]
          rfl
        refine done_ (done_of HT_.out (by kernel_rfl)) ?_
        have hnb63 := NB224_225.out
        have hnc63 := NB225_224.out
        have hcz64_0 : w62.cell? ⟨gb224, 0, none⟩ = some (.int .i64 a0_0) := (bCe BK224.out 0).trans rfl
        have hcz64_1 : w62.cell? ⟨gb224, 1, none⟩ = some (.bool false) := (bCe BK224.out 1).trans rfl
        have hcz64_2 : w62.cell? ⟨gb224, 2, none⟩ = some (.string a0_2) := (bCe BK224.out 2).trans rfl
        have hcz64_3 : w62.cell? ⟨gb224, 3, none⟩ = some (.int .i64 a0_3) := (bCe BK224.out 3).trans rfl
        have hcz64_4 : w62.cell? ⟨gb224, 4, none⟩ = some (.int .i64 a0_4) := (bCe BK224.out 4).trans rfl
        have hfz64_0 := bFz BK224.out 0
        have hfz64_1 := bFz BK224.out 1
        have hfz64_2 := bFz BK224.out 2
        have hfz64_3 := bFz BK224.out 3
        have hfz64_4 := bFz BK224.out 4
        have hcz65_0 : w62.cell? ⟨gb225, 0, none⟩ = some (.int .i64 0) := (bCe BK225.out 0).trans rfl
        have hcz65_1 : w62.cell? ⟨gb225, 1, none⟩ = some (.string (⟨#[]⟩ : ByteArray)) := (bCe BK225.out 1).trans rfl
        have hcz65_2 : w62.cell? ⟨gb225, 2, none⟩ = some (.int .i64 0) := (bCe BK225.out 2).trans rfl
        have hcz65_3 : w62.cell? ⟨gb225, 3, none⟩ = some (.string (⟨#[]⟩ : ByteArray)) := (bCe BK225.out 3).trans rfl
        have hcz65_4 : w62.cell? ⟨gb225, 4, none⟩ = some (.slice none 0 0) := (bCe BK225.out 4).trans rfl
        have hfz65_0 := bFz BK225.out 0
        have hfz65_1 := bFz BK225.out 1
        have hfz65_2 := bFz BK225.out 2
        have hfz65_3 := bFz BK225.out 3
        have hfz65_4 := bFz BK225.out 4
        try go_wp2
        refine bodyPost_ret (results_cell_row rfl _ _ gb225 64 #[.int .i64 412, .string t226, .int .i64 0, .string (⟨#[]⟩ : ByteArray), .slice none 0 0] (0, 0) _ rfl (by (with_reducible repeat (first | refine bDn ?_ _ | refine bDr ?_ | refine bAl ?_ _)); refine bPu (cs := #[.int .i64 412, .string t226, .int .i64 0, .string (⟨#[]⟩ : ByteArray), .slice none 0 0]) ?_ 4 _ rfl; (with_reducible repeat (first | refine bDn ?_ _ | refine bDr ?_ | refine bAl ?_ _)); refine bPu (cs := #[.int .i64 412, .string t226, .int .i64 0, .string (⟨#[]⟩ : ByteArray), .slice none 0 0]) ?_ 3 _ rfl; (with_reducible repeat (first | refine bDn ?_ _ | refine bDr ?_ | refine bAl ?_ _)); refine bPu (cs := #[.int .i64 412, .string t226, .int .i64 0, .string (⟨#[]⟩ : ByteArray), .slice none 0 0]) ?_ 2 _ rfl; (with_reducible repeat (first | refine bDn ?_ _ | refine bDr ?_ | refine bAl ?_ _)); refine bPu (cs := #[.int .i64 412, .string (⟨#[]⟩ : ByteArray), .int .i64 0, .string (⟨#[]⟩ : ByteArray), .slice none 0 0]) ?_ 1 _ rfl; (with_reducible repeat (first | refine bDn ?_ _ | refine bDr ?_ | refine bAl ?_ _)); refine bPu (cs := #[.int .i64 0, .string (⟨#[]⟩ : ByteArray), .int .i64 0, .string (⟨#[]⟩ : ByteArray), .slice none 0 0]) ?_ 0 _ rfl; (with_reducible repeat (first | refine bDn ?_ _ | refine bDr ?_ | refine bAl ?_ _)); exact BK225.out) Try.underlying64 rfl (by kernel_rfl)) rfl ?_
        exact ⟨_, by first | rfl | (simp [eWn, eWs] <;> rfl) | (simp [*, eWn, eWs] <;> rfl), by first | exact Kd.R_nil _ _ _ _ _ | exact Kd.N_nil _ _ _ _ _ | exact Kd.V_nil _ _ _ _ _ | exact Kd.Q_nil _ _ _ _ _ | exact Kd.S_nil _ _ _ _ _, by repeat (first | (with_reducible first | exact HB.out | apply aBl | apply pBd | apply dBl | refine sBl ?_ GE224.out | refine sBl ?_ GE225.out) | exact HB.out)⟩
end Go.Proofs.Ytfcengffgkmacaa.PAll
namespace Go.Proofs.Ytfcengffgkmacaa.PAll
open Go.RowKit Go.Proofs.Ytfcengffgkmacaa.Xw Go.Proofs.YtfcengffgkmacaaW.PrintWords Go.Proofs.YtfcengffgkmacaaW.PrintLast Go.Proofs.YtfcengffgkmacaaW.PrintMore
attribute [local go_sem] max2_int min2_int max_two min_two max_three min_three max_four min_four   -- for this text's walks alone
set_option linter.unusedVariables false
set_option linter.unusedSimpArgs false
def reply_Down.f  : Option (Int × ByteArray × Int × ByteArray × List Int) := some (503, (⟨#[]⟩ : ByteArray), 0, (⟨#[]⟩ : ByteArray), ([] : List Int))
set_option maxHeartbeats 8000000 in
set_option maxRecDepth 100000 in
theorem reply_Down.calls  (r1 : Int) (r2 : ByteArray) (r3 : Int) (r4 : ByteArray) (r5 : List Int) (w : World) (h : reply_Down.f  = some (r1, r2, r3, r4, r5)) :
    Calls Try.prog 42 #[] w fun e w' => ∃ v4_ : Value, e = .returned (.agg #[.int .i64 r1, .string r2, .int .i64 r3, .string r4, v4_]) ∧ Kd.R (Kd.int .u8) 5 w' w.heap.size (fun _ => True) v4_ r5 ∧ Below w.heap.size w w' := by
  have hu64 := Try.underlying64
  have HB := AsZ.mk (Below.refl w.heap.size w)
  have H : (some (503, (⟨#[]⟩ : ByteArray), 0, (⟨#[]⟩ : ByteArray), ([] : List Int))) = some (r1, r2, r3, r4, r5) := h
  clear h
  simp only [Option.some.injEq, Prod.mk.injEq] at H
  obtain ⟨rfl, rfl, rfl, rfl, rfl⟩ := H
  go_enter Try.func42, Try.ntmps42
  go_wp2_with (first | ((with_reducible refine gDs (N := 0) rfl ?_); refine bEv ?hg (N := 0) ?hd (cs := #[.int .i64 0, .string (⟨#[]⟩ : ByteArray), .int .i64 0, .string (⟨#[]⟩ : ByteArray), .slice none 0 0]) (t := 64) ?hr ?_; (case hd => rfl); (case hg => rfl); (case hr => first | (go_simp; done) | (go_simp; rfl)); intro gb248 hg w1 hbox hb; have n0_ := AsZ.mk (tBl (by repeat (first | (with_reducible first | exact HB.out | apply aBl | apply pBd | apply dBl) | exact HB.out)) hb); have n1_ := AsZ.mk (hbox); have n2_ := AsZ.mk ((by rw [hg]; exact (zBl (by repeat (first | (with_reducible first | exact HB.out | apply aBl | apply pBd | apply dBl) | exact HB.out))) : w.heap.size ≤ gb248)); have n3_ := AsZ.mk ((by rw [hg]; exact (zBl (by repeat (first | (with_reducible first | exact HB.out | apply aBl | apply pBd | apply dBl) | exact HB.out))) : w.heap.size ≤ gb248)); clear HB; have HB := n0_; have BK248 := n1_; have GW248 := n2_; have GE248 := n3_; clear n0_ n1_ n2_ n3_; clear hb hbox hg; have hcz2_0 : w1.cell? ⟨gb248, 0, none⟩ = some (.int .i64 0) := (bCe BK248.out 0).trans rfl; have hcz2_1 : w1.cell? ⟨gb248, 1, none⟩ = some (.string (⟨#[]⟩ : ByteArray)) := (bCe BK248.out 1).trans rfl; have hcz2_2 : w1.cell? ⟨gb248, 2, none⟩ = some (.int .i64 0) := (bCe BK248.out 2).trans rfl; have hcz2_3 : w1.cell? ⟨gb248, 3, none⟩ = some (.string (⟨#[]⟩ : ByteArray)) := (bCe BK248.out 3).trans rfl; have hcz2_4 : w1.cell? ⟨gb248, 4, none⟩ = some (.slice none 0 0) := (bCe BK248.out 4).trans rfl; have hfz2_0 := bFz BK248.out 0; have hfz2_1 := bFz BK248.out 1; have hfz2_2 := bFz BK248.out 2; have hfz2_3 := bFz BK248.out 3; have hfz2_4 := bFz BK248.out 4))
  refine bodyPost_ret (results_cell_row rfl _ _ gb248 64 #[.int .i64 503, .string (⟨#[]⟩ : ByteArray), .int .i64 0, .string (⟨#[]⟩ : ByteArray), .slice none 0 0] (0, 0) _ rfl (by (with_reducible repeat (first | refine bDn ?_ _ | refine bDr ?_ | refine bAl ?_ _)); refine bPu (cs := #[.int .i64 503, .string (⟨#[]⟩ : ByteArray), .int .i64 0, .string (⟨#[]⟩ : ByteArray), .slice none 0 0]) ?_ 4 _ rfl; (with_reducible repeat (first | refine bDn ?_ _ | refine bDr ?_ | refine bAl ?_ _)); refine bPu (cs := #[.int .i64 503, .string (⟨#[]⟩ : ByteArray), .int .i64 0, .string (⟨#[]⟩ : ByteArray), .slice none 0 0]) ?_ 3 _ rfl; (with_reducible repeat (first | refine bDn ?_ _ | refine bDr ?_ | refine bAl ?_ _)); refine bPu (cs := #[.int .i64 503, .string (⟨#[]⟩ : ByteArray), .int .i64 0, .string (⟨#[]⟩ : ByteArray), .slice none 0 0]) ?_ 2 _ rfl; (with_reducible repeat (first | refine bDn ?_ _ | refine bDr ?_ | refine bAl ?_ _)); refine bPu (cs := #[.int .i64 503, .string (⟨#[]⟩ : ByteArray), .int .i64 0, .string (⟨#[]⟩ : ByteArray), .slice none 0 0]) ?_ 1 _ rfl; (with_reducible repeat (first | refine bDn ?_ _ | refine bDr ?_ | refine bAl ?_ _)); refine bPu (cs := #[.int .i64 0, .string (⟨#[]⟩ : ByteArray), .int .i64 0, .string (⟨#[]⟩ : ByteArray), .slice none 0 0]) ?_ 0 _ rfl; (with_reducible repeat (first | refine bDn ?_ _ | refine bDr ?_ | refine bAl ?_ _)); exact BK248.out) Try.underlying64 rfl (by kernel_rfl)) rfl ?_
  exact ⟨_, by first | rfl | (simp [eWn, eWs] <;> rfl) | (simp [*, eWn, eWs] <;> rfl), by first | exact Kd.R_nil _ _ _ _ _ | exact Kd.N_nil _ _ _ _ _ | exact Kd.V_nil _ _ _ _ _ | exact Kd.Q_nil _ _ _ _ _ | exact Kd.S_nil _ _ _ _ _, by repeat (first | (with_reducible first | exact HB.out | apply aBl | apply pBd | apply dBl | refine sBl ?_ GE248.out) | exact HB.out)⟩
def spencelaw31_awake.f (k : Nat)  : Option (Bool) := (reply_Of.f k 1 true (⟨#[118, 49, 45, 48]⟩ : ByteArray) 0 0 0).bind fun bt249 => (if bt249.1 = 304 then ((reply_Down.f).bind fun bt256 => (some (bt256.1 == 503))) else (some false))
theorem spencelaw31_awake.mono : ∀ k, LeO (spencelaw31_awake.f k ) (spencelaw31_awake.f (k + 1) ) := by
  intro  k
  unfold spencelaw31_awake.f
  repeat' first
      | (with_reducible exact reply_Of.mono _ _ _ _ _ _ _)
      | (with_reducible exact LeO.refl _)
      | (with_reducible exact LeO.none _)
      | (with_reducible refine LeO.ite ?_ ?_)
      | (with_reducible refine LeO.bind ?_ (fun _ => ?_))
      | exact reply_Of.mono _ _ _ _ _ _ _
      | exact LeO.none _
      | refine LeO.ite ?_ ?_
      | refine LeO.bind ?_ (fun _ => ?_)
set_option maxHeartbeats 8000000 in
set_option maxRecDepth 100000 in
theorem spencelaw31_awake.calls (k : Nat)  (r : Bool) (w : World) (h : spencelaw31_awake.f k  = some r) :
    Calls Try.prog 37 #[] w fun e w' => e = .returned (.bool r) ∧ Below w.heap.size w w' := by
  have hu67 := Try.underlying67
  have HB := AsZ.mk (Below.refl w.heap.size w)
  have H : ((reply_Of.f k 1 true (⟨#[118, 49, 45, 48]⟩ : ByteArray) 0 0 0).bind fun bt249 => (if bt249.1 = 304 then ((reply_Down.f).bind fun bt256 => (some (bt256.1 == 503))) else (some false))) = some r := h
  clear h
  replace H := Option.bind_eq_some_iff.mp H
  obtain ⟨⟨t249, t250, t251, t252, t253⟩, A10, H⟩ := H
  replace H : (if t249 = 304 then ((reply_Down.f).bind fun bt256 => (some (bt256.1 == 503))) else (some false)) = some r := H
  have A1 := AsZ.mk A10
  clear A10
  by_cases c2 : t249 = 304
  · rw [if_pos c2] at H
    have c2b0 : (t249 == 304) = true := beq_iff_eq.mpr c2
    have c2b1 : (t249 != 304) = false := bne_eq_false_iff_eq.mpr c2
    clear c2
    replace H := Option.bind_eq_some_iff.mp H
    obtain ⟨⟨t256, t257, t258, t259, t260⟩, A30, H⟩ := H
    replace H : (some (t256 == 503)) = some r := H
    have A3 := AsZ.mk A30
    clear A30
    obtain rfl := Option.some.inj H
    go_enter Try.func37, Try.ntmps37
    go_wp2_with (first | ((with_reducible refine gCa (f := 38) rfl ?_); refine gLl (some 2) rfl rfl Try.func38 (by kernel_rfl) rfl #[.agg #[.int .i64 1, .bool true, .string (⟨#[118, 49, 45, 48]⟩ : ByteArray), .int .i64 0, .int .i64 0], .int .i64 0] rfl (by (try simp only [List.map_toArray, List.map_cons, List.map_nil]); first | done | rfl | (simp only [List.length_drop, List.length_take]; rfl)) ?_; (with_reducible refine (reply_Of.calls k 1 true (⟨#[118, 49, 45, 48]⟩ : ByteArray) 0 0 0 t249 t250 t251 t252 t253 _ A1.out).mono ?_); rintro e w4 ⟨v254, rfl, ho0, hb⟩; refine ⟨_, rfl, ?_⟩; have n0_ := AsZ.mk (Kd.R_lower ho0 (zBl (by repeat (first | (with_reducible first | exact HB.out | apply aBl | apply pBd | apply dBl) | exact HB.out)))); have n1_ := AsZ.mk (tBl (by repeat (first | (with_reducible first | exact HB.out | apply aBl | apply pBd | apply dBl) | exact HB.out)) hb); clear HB; have HO255 := n0_; have HB := n1_; clear n0_ n1_; (try clear hb); (try clear hb2); (try clear hk); (try clear hi); (try clear ho0)) | (go_at_call 42; (with_reducible refine (reply_Down.calls  t256 t257 t258 t259 t260 _ A3.out).mono ?_); rintro e w5 ⟨v261, rfl, ho0, hb⟩; have n0_ := AsZ.mk (Kd.R_elder' (by (with_reducible repeat (first | apply Kd.R_alloc | apply Kd.R_drewN | apply Kd.R_drew)); exact HO255.out) (Kd.R_base ho0) hb); have n1_ := AsZ.mk (Kd.R_lower (Kd.R_new' ho0 (Kd.R_lt (by (with_reducible repeat (first | apply Kd.R_alloc | apply Kd.R_drewN | apply Kd.R_drew)); exact HO255.out))) (zBl (by repeat (first | (with_reducible first | exact HB.out | apply aBl | apply pBd | apply dBl) | exact HB.out)))); have n2_ := AsZ.mk (tBl (by repeat (first | (with_reducible first | exact HB.out | apply aBl | apply pBd | apply dBl) | exact HB.out)) hb); clear HO255; clear HB; have HO255 := n0_; have HO262 := n1_; have HB := n2_; clear n0_ n1_ n2_; (try clear hb); (try clear hb2); (try clear hk); (try clear hi); (try clear ho0)))
    go_ret
    exact ⟨by first | rfl | exact nEm _ | exact eEm _ | (simp [eWn, eWs] <;> rfl) | (simp [*, eWn, eWs] <;> rfl), by repeat (first | (with_reducible first | exact HB.out | apply aBl | apply pBd | apply dBl) | exact HB.out)⟩
  · rw [if_neg c2] at H
    have c2b0 : (t249 == 304) = false := beq_eq_false_iff_ne.mpr c2
    have c2b1 : (t249 != 304) = true := bne_iff_ne.mpr c2
    obtain rfl := Option.some.inj H
    go_enter Try.func37, Try.ntmps37
    go_wp2_with (first | ((with_reducible refine gCa (f := 38) rfl ?_); refine gLl (some 2) rfl rfl Try.func38 (by kernel_rfl) rfl #[.agg #[.int .i64 1, .bool true, .string (⟨#[118, 49, 45, 48]⟩ : ByteArray), .int .i64 0, .int .i64 0], .int .i64 0] rfl (by (try simp only [List.map_toArray, List.map_cons, List.map_nil]); first | done | rfl | (simp only [List.length_drop, List.length_take]; rfl)) ?_; (with_reducible refine (reply_Of.calls k 1 true (⟨#[118, 49, 45, 48]⟩ : ByteArray) 0 0 0 t249 t250 t251 t252 t253 _ A1.out).mono ?_); rintro e w6 ⟨v254, rfl, ho0, hb⟩; refine ⟨_, rfl, ?_⟩; have n0_ := AsZ.mk (Kd.R_lower ho0 (zBl (by repeat (first | (with_reducible first | exact HB.out | apply aBl | apply pBd | apply dBl) | exact HB.out)))); have n1_ := AsZ.mk (tBl (by repeat (first | (with_reducible first | exact HB.out | apply aBl | apply pBd | apply dBl) | exact HB.out)) hb); clear HB; have HO255 := n0_; have HB := n1_; clear n0_ n1_; (try clear hb); (try clear hb2); (try clear hk); (try clear hi); (try clear ho0)))
    go_ret
    exact ⟨by first | rfl | exact nEm _ | exact eEm _ | (simp [eWn, eWs] <;> rfl) | (simp [*, eWn, eWs] <;> rfl), by repeat (first | (with_reducible first | exact HB.out | apply aBl | apply pBd | apply dBl) | exact HB.out)⟩
end Go.Proofs.Ytfcengffgkmacaa.PAll
namespace Go.Proofs.Ytfcengffgkmacaa.PAll
open Go.RowKit Go.Proofs.Ytfcengffgkmacaa.Xw Go.Proofs.YtfcengffgkmacaaW.PrintWords Go.Proofs.YtfcengffgkmacaaW.PrintLast Go.Proofs.YtfcengffgkmacaaW.PrintMore
attribute [local go_sem] max2_int min2_int max_two min_two max_three min_three max_four min_four   -- for this text's walks alone
set_option linter.unusedVariables false
set_option linter.unusedSimpArgs false
def spenceref04_Right.f (a0_0 : Int) (a0_1 : Int) : Option (Bool) := if a0_0 ≥ 0 then (if a0_1 > a0_0 then (some (decide (a0_1 ≤ 4611686018427387903))) else (some false)) else (some false)
set_option maxHeartbeats 8000000 in
set_option maxRecDepth 100000 in
theorem spenceref04_Right.calls (a0_0 : Int) (a0_1 : Int) (r : Bool) (w : World) (h : spenceref04_Right.f a0_0 a0_1 = some r) :
    Calls Try.prog 28 #[.agg #[.int .i64 a0_0, .int .i64 a0_1]] w fun e w' => e = .returned (.bool r) ∧ Below w.heap.size w w' := by
  have hu28 := Try.underlying28
  have HB := AsZ.mk (Below.refl w.heap.size w)
  have H : (if a0_0 ≥ 0 then (if a0_1 > a0_0 then (some (decide (a0_1 ≤ 4611686018427387903))) else (some false)) else (some false)) = some r := h
  clear h
  by_cases c2 : a0_0 ≥ 0
  · rw [if_pos c2] at H
    have c2b0 : decide (0 ≤ a0_0) = true := decide_eq_true c2
    clear c2
    by_cases c3 : a0_1 > a0_0
    · rw [if_pos c3] at H
      have c3b0 : decide (a0_0 < a0_1) = true := decide_eq_true c3
      clear c3
      obtain rfl := Option.some.inj H
      go_enter Try.func28, Try.ntmps28
      go_wp2_with (first | ((with_reducible refine gDs (N := 1) rfl ?_); refine bEv ?hg (N := 1) ?hd (cs := #[.int .i64 a0_0, .int .i64 a0_1]) (t := 28) ?hr ?_; (case hd => rfl); (case hg => rfl); (case hr => first | (go_simp; done) | (go_simp; rfl)); intro gb161 hg w4 hbox hb; have n0_ := AsZ.mk (tBl (by repeat (first | (with_reducible first | exact HB.out | apply aBl | apply pBd | apply dBl) | exact HB.out)) hb); have n1_ := AsZ.mk (hbox); have n2_ := AsZ.mk ((by rw [hg]; exact (zBl (by repeat (first | (with_reducible first | exact HB.out | apply aBl | apply pBd | apply dBl) | exact HB.out))) : w.heap.size ≤ gb161)); have n3_ := AsZ.mk ((by rw [hg]; exact (zBl (by repeat (first | (with_reducible first | exact HB.out | apply aBl | apply pBd | apply dBl) | exact HB.out))) : w.heap.size ≤ gb161)); clear HB; have HB := n0_; have BK161 := n1_; have GW161 := n2_; have GE161 := n3_; clear n0_ n1_ n2_ n3_; clear hb hbox hg; have hcz5_0 : w4.cell? ⟨gb161, 0, none⟩ = some (.int .i64 a0_0) := (bCe BK161.out 0).trans rfl; have hcz5_1 : w4.cell? ⟨gb161, 1, none⟩ = some (.int .i64 a0_1) := (bCe BK161.out 1).trans rfl; have hfz5_0 := bFz BK161.out 0; have hfz5_1 := bFz BK161.out 1))
      go_ret
      exact ⟨by first | rfl | exact nEm _ | exact eEm _ | (simp [eWn, eWs] <;> rfl) | (simp [*, eWn, eWs] <;> rfl), by repeat (first | (with_reducible first | exact HB.out | apply aBl | apply pBd | apply dBl | refine sBl ?_ GE161.out) | exact HB.out)⟩
    · rw [if_neg c3] at H
      have c3b0 : decide (a0_0 < a0_1) = false := decide_eq_false c3
      clear c3
      obtain rfl := Option.some.inj H
      go_enter Try.func28, Try.ntmps28
      go_wp2_with (first | ((with_reducible refine gDs (N := 1) rfl ?_); refine bEv ?hg (N := 1) ?hd (cs := #[.int .i64 a0_0, .int .i64 a0_1]) (t := 28) ?hr ?_; (case hd => rfl); (case hg => rfl); (case hr => first | (go_simp; done) | (go_simp; rfl)); intro gb161 hg w6 hbox hb; have n0_ := AsZ.mk (tBl (by repeat (first | (with_reducible first | exact HB.out | apply aBl | apply pBd | apply dBl) | exact HB.out)) hb); have n1_ := AsZ.mk (hbox); have n2_ := AsZ.mk ((by rw [hg]; exact (zBl (by repeat (first | (with_reducible first | exact HB.out | apply aBl | apply pBd | apply dBl) | exact HB.out))) : w.heap.size ≤ gb161)); have n3_ := AsZ.mk ((by rw [hg]; exact (zBl (by repeat (first | (with_reducible first | exact HB.out | apply aBl | apply pBd | apply dBl) | exact HB.out))) : w.heap.size ≤ gb161)); clear HB; have HB := n0_; have BK161 := n1_; have GW161 := n2_; have GE161 := n3_; clear n0_ n1_ n2_ n3_; clear hb hbox hg; have hcz7_0 : w6.cell? ⟨gb161, 0, none⟩ = some (.int .i64 a0_0) := (bCe BK161.out 0).trans rfl; have hcz7_1 : w6.cell? ⟨gb161, 1, none⟩ = some (.int .i64 a0_1) := (bCe BK161.out 1).trans rfl; have hfz7_0 := bFz BK161.out 0; have hfz7_1 := bFz BK161.out 1))
      go_ret
      exact ⟨by first | rfl | exact nEm _ | exact eEm _ | (simp [eWn, eWs] <;> rfl) | (simp [*, eWn, eWs] <;> rfl), by repeat (first | (with_reducible first | exact HB.out | apply aBl | apply pBd | apply dBl | refine sBl ?_ GE161.out) | exact HB.out)⟩
  · rw [if_neg c2] at H
    have c2b0 : decide (0 ≤ a0_0) = false := decide_eq_false c2
    clear c2
    obtain rfl := Option.some.inj H
    go_enter Try.func28, Try.ntmps28
    go_wp2_with (first | ((with_reducible refine gDs (N := 1) rfl ?_); refine bEv ?hg (N := 1) ?hd (cs := #[.int .i64 a0_0, .int .i64 a0_1]) (t := 28) ?hr ?_; (case hd => rfl); (case hg => rfl); (case hr => first | (go_simp; done) | (go_simp; rfl)); intro gb161 hg w8 hbox hb; have n0_ := AsZ.mk (tBl (by repeat (first | (with_reducible first | exact HB.out | apply aBl | apply pBd | apply dBl) | exact HB.out)) hb); have n1_ := AsZ.mk (hbox); have n2_ := AsZ.mk ((by rw [hg]; exact (zBl (by repeat (first | (with_reducible first | exact HB.out | apply aBl | apply pBd | apply dBl) | exact HB.out))) : w.heap.size ≤ gb161)); have n3_ := AsZ.mk ((by rw [hg]; exact (zBl (by repeat (first | (with_reducible first | exact HB.out | apply aBl | apply pBd | apply dBl) | exact HB.out))) : w.heap.size ≤ gb161)); clear HB; have HB := n0_; have BK161 := n1_; have GW161 := n2_; have GE161 := n3_; clear n0_ n1_ n2_ n3_; clear hb hbox hg; have hcz9_0 : w8.cell? ⟨gb161, 0, none⟩ = some (.int .i64 a0_0) := (bCe BK161.out 0).trans rfl; have hcz9_1 : w8.cell? ⟨gb161, 1, none⟩ = some (.int .i64 a0_1) := (bCe BK161.out 1).trans rfl; have hfz9_0 := bFz BK161.out 0; have hfz9_1 := bFz BK161.out 1))
    go_ret
    exact ⟨by first | rfl | exact nEm _ | exact eEm _ | (simp [eWn, eWs] <;> rfl) | (simp [*, eWn, eWs] <;> rfl), by repeat (first | (with_reducible first | exact HB.out | apply aBl | apply pBd | apply dBl | refine sBl ?_ GE161.out) | exact HB.out)⟩
def spenceref24_Body.l0 : Nat → Int → Int → List Int → Int → Int → Int → Option (List Int)
  | 0, _, _, _, _, _, _ => none
  | k + 1, x0, x1, x7, x8, x163000, x163001 => (spenceref24_Length.f x0 x1).bind fun t163 => (if x8 < t163 then ((spenceref04_Right.f x163000 x163001).bind fun t164 => (if t164 = true then (if x8 ≥ x163000 then (if x8 < x163001 then ((spenceref24_Byte.f x0 x1 x8).bind fun t165 => (if x7.length < 140737488355328 then (spenceref24_Body.l0 k x0 x1 (x7 ++ [t165]) (wrap64 (x8 + 1)) x163000 x163001) else (none))) else (spenceref24_Body.l0 k x0 x1 x7 (wrap64 (x8 + 1)) x163000 x163001)) else (spenceref24_Body.l0 k x0 x1 x7 (wrap64 (x8 + 1)) x163000 x163001)) else (spenceref24_Body.l0 k x0 x1 x7 (wrap64 (x8 + 1)) x163000 x163001))) else (some x7))
def spenceref24_Body.f (k : Nat) (a0 : Int) (a1 : Int) (a2_0 : Int) (a2_1 : Int) : Option (List Int) := spenceref24_Body.l0 k a0 a1 ([] : List Int) 0 a2_0 a2_1
theorem spenceref24_Body.mono_l : ∀ k, (∀ y0 y1 y2 y3 y4 y5, LeO (spenceref24_Body.l0 k y0 y1 y2 y3 y4 y5) (spenceref24_Body.l0 (k + 1) y0 y1 y2 y3 y4 y5))
  | 0 => fun _ _ _ _ _ _ r h => by simp [spenceref24_Body.l0] at h
  | k + 1 => by
    have ih0 := spenceref24_Body.mono_l k
    · intro y0 y1 y2 y3 y4 y5
      unfold spenceref24_Body.l0
      repeat' first
      | (with_reducible exact ih0 _ _ _ _ _ _)
      | (with_reducible exact LeO.refl _)
      | (with_reducible exact LeO.none _)
      | (with_reducible refine LeO.ite ?_ ?_)
      | (with_reducible refine LeO.bind ?_ (fun _ => ?_))
      | exact ih0 _ _ _ _ _ _
      | exact LeO.none _
      | refine LeO.ite ?_ ?_
      | refine LeO.bind ?_ (fun _ => ?_)
theorem spenceref24_Body.mono : ∀ a0 a1 a2 a3 k, LeO (spenceref24_Body.f k a0 a1 a2 a3) (spenceref24_Body.f (k + 1) a0 a1 a2 a3) := by
  intro a0 a1 a2 a3 k
  have ih0 := spenceref24_Body.mono_l k
  unfold spenceref24_Body.f
  repeat' first
      | (with_reducible exact ih0 _ _ _ _ _ _)
      | (with_reducible exact LeO.refl _)
      | (with_reducible exact LeO.none _)
      | (with_reducible refine LeO.ite ?_ ?_)
      | (with_reducible refine LeO.bind ?_ (fun _ => ?_))
      | exact ih0 _ _ _ _ _ _
      | exact LeO.none _
      | refine LeO.ite ?_ ?_
      | refine LeO.bind ?_ (fun _ => ?_)
def version_Whole.f (k : Nat) (a0 : Int) (a1 : Int) : Option (List Int) := (version_Body.f k a0 a1 0 4096).bind fun t169 => (some t169)
theorem version_Whole.mono : ∀ a0 a1 k, LeO (version_Whole.f k a0 a1) (version_Whole.f (k + 1) a0 a1) := by
  intro a0 a1 k
  unfold version_Whole.f
  repeat' first
      | (with_reducible exact version_Body.mono _ _ _ _ _)
      | (with_reducible exact LeO.refl _)
      | (with_reducible exact LeO.none _)
      | (with_reducible refine LeO.ite ?_ ?_)
      | (with_reducible refine LeO.bind ?_ (fun _ => ?_))
      | exact version_Body.mono _ _ _ _ _
      | exact LeO.none _
      | refine LeO.ite ?_ ?_
      | refine LeO.bind ?_ (fun _ => ?_)
end Go.Proofs.Ytfcengffgkmacaa.PAll
namespace Go.Proofs.Ytfcengffgkmacaa.PAll
open Go.RowKit Go.Proofs.Ytfcengffgkmacaa.Xw Go.Proofs.YtfcengffgkmacaaW.PrintWords Go.Proofs.YtfcengffgkmacaaW.PrintLast Go.Proofs.YtfcengffgkmacaaW.PrintMore
attribute [local go_sem] max2_int min2_int max_two min_two max_three min_three max_four min_four   -- for this text's walks alone
set_option linter.unusedVariables false
set_option linter.unusedSimpArgs false
attribute [local go_sem high] eqA28
def spenceref24_SameReply.f (k : Nat) (a0_0 : Int) (a0_1 : ByteArray) (a0_2 : Int) (a0_3 : ByteArray) (l0_4 : List Int) (a1_0 : Int) (a1_1 : ByteArray) (a1_2 : Int) (a1_3 : ByteArray) (l1_4 : List Int) : Option (Bool) := if a0_0 = a1_0 then (if a0_1.toList = a1_1.toList then (if a0_2 = a1_2 then (if a0_3.toList = a1_3.toList then ((spenceref01_Bytes.f k l0_4 l1_4).bind fun t300 => (some t300)) else (some false)) else (some false)) else (some false)) else (some false)
theorem spenceref24_SameReply.mono : ∀ a0 a1 a2 a3 a4 a5 a6 a7 a8 a9 k, LeO (spenceref24_SameReply.f k a0 a1 a2 a3 a4 a5 a6 a7 a8 a9) (spenceref24_SameReply.f (k + 1) a0 a1 a2 a3 a4 a5 a6 a7 a8 a9) := by
  intro a0 a1 a2 a3 a4 a5 a6 a7 a8 a9 k
  unfold spenceref24_SameReply.f
  repeat' first
      | (with_reducible exact spenceref01_Bytes.mono _ _ _)
      | (with_reducible exact LeO.refl _)
      | (with_reducible exact LeO.none _)
      | (with_reducible refine LeO.ite ?_ ?_)
      | (with_reducible refine LeO.bind ?_ (fun _ => ?_))
      | exact spenceref01_Bytes.mono _ _ _
      | exact LeO.none _
      | refine LeO.ite ?_ ?_
      | refine LeO.bind ?_ (fun _ => ?_)
set_option maxHeartbeats 8000000 in
set_option maxRecDepth 100000 in
theorem spenceref24_SameReply.calls (k : Nat) (a0_0 : Int) (a0_1 : ByteArray) (a0_2 : Int) (a0_3 : ByteArray) (A0_4 : Option Addr) (c0_4 : Nat) (l0_4 : List Int) (a1_0 : Int) (a1_1 : ByteArray) (a1_2 : Int) (a1_3 : ByteArray) (A1_4 : Option Addr) (c1_4 : Nat) (l1_4 : List Int) (r : Bool) (w : World) (hr0_4 : Kd.C (Kd.int .u8) w A0_4 l0_4.length l0_4) (hc0_4 : l0_4.length ≤ c0_4) (hr1_4 : Kd.C (Kd.int .u8) w A1_4 l1_4.length l1_4) (hc1_4 : l1_4.length ≤ c1_4) (h : spenceref24_SameReply.f k a0_0 a0_1 a0_2 a0_3 l0_4 a1_0 a1_1 a1_2 a1_3 l1_4 = some r) :
    Calls Try.prog 39 #[.agg #[.int .i64 a0_0, .string a0_1, .int .i64 a0_2, .string a0_3, .slice A0_4 l0_4.length c0_4], .agg #[.int .i64 a1_0, .string a1_1, .int .i64 a1_2, .string a1_3, .slice A1_4 l1_4.length c1_4]] w fun e w' => e = .returned (.bool r) ∧ Below w.heap.size w w' := by
  have hu64 := Try.underlying64
  have HR0_4 := AsZ.mk hr0_4
  have HC0_4 := AsZ.mk hc0_4
  clear hr0_4 hc0_4
  have HR1_4 := AsZ.mk hr1_4
  have HC1_4 := AsZ.mk hc1_4
  clear hr1_4 hc1_4
  have HB := AsZ.mk (Below.refl w.heap.size w)
  have H : (if a0_0 = a1_0 then (if a0_1.toList = a1_1.toList then (if a0_2 = a1_2 then (if a0_3.toList = a1_3.toList then ((spenceref01_Bytes.f k l0_4 l1_4).bind fun t300 => (some t300)) else (some false)) else (some false)) else (some false)) else (some false)) = some r := h
  clear h
  by_cases c3 : a0_0 = a1_0
  · rw [if_pos c3] at H
    have c3b0 : (a0_0 == a1_0) = true := beq_iff_eq.mpr c3
    have c3b1 : (a0_0 != a1_0) = false := bne_eq_false_iff_eq.mpr c3
    clear c3
    by_cases c4 : a0_1.toList = a1_1.toList
    · rw [if_pos c4] at H
      have c4b0 : (a0_1.toList == a1_1.toList) = true := beq_iff_eq.mpr c4
      have c4b1 : (a0_1.toList != a1_1.toList) = false := bne_eq_false_iff_eq.mpr c4
      clear c4
      by_cases c5 : a0_2 = a1_2
      · rw [if_pos c5] at H
        have c5b0 : (a0_2 == a1_2) = true := beq_iff_eq.mpr c5
        have c5b1 : (a0_2 != a1_2) = false := bne_eq_false_iff_eq.mpr c5
        clear c5
        by_cases c6 : a0_3.toList = a1_3.toList
        · rw [if_pos c6] at H
          have c6b0 : (a0_3.toList == a1_3.toList) = true := beq_iff_eq.mpr c6
          have c6b1 : (a0_3.toList != a1_3.toList) = false := bne_eq_false_iff_eq.mpr c6
          clear c6
          replace H := Option.bind_eq_some_iff.mp H
          obtain ⟨t300, A70, H⟩ := H
          replace H : (some t300) = some r := H
          have A7 := AsZ.mk A70
          clear A70
          obtain rfl := Option.some.inj H
          go_enter Try.func39, Try.ntmps39
          go_wp2_with (first | ((with_reducible refine gDs (N := 2) rfl ?_); refine bEv ?hg (N := 2) ?hd (cs := #[.int .i64 a0_0, .string a0_1, .int .i64 a0_2, .string a0_3, .slice A0_4 l0_4.length c0_4]) (t := 64) ?hr ?_; (case hd => rfl); (case hg => rfl); (case hr => first | (go_simp; done) | (go_simp; rfl)); intro gb298 hg w8 hbox hb; have n0_ := AsZ.mk (tBl (by repeat (first | (with_reducible first | exact HB.out | apply aBl | apply pBd | apply dBl) | exact HB.out)) hb); have n1_ := AsZ.mk (hbox); have n2_ := AsZ.mk ((by rw [hg]; exact (zBl (by repeat (first | (with_reducible first | exact HB.out | apply aBl | apply pBd | apply dBl) | exact HB.out))) : w.heap.size ≤ gb298)); have n3_ := AsZ.mk ((by rw [hg]; exact (zBl (by repeat (first | (with_reducible first | exact HB.out | apply aBl | apply pBd | apply dBl) | exact HB.out))) : w.heap.size ≤ gb298)); clear HB; have HB := n0_; have BK298 := n1_; have GW298 := n2_; have GE298 := n3_; clear n0_ n1_ n2_ n3_; clear hb hbox hg) | ((with_reducible refine gDs (N := 3) rfl ?_); refine bEv ?hg (N := 3) ?hd (cs := #[.int .i64 a1_0, .string a1_1, .int .i64 a1_2, .string a1_3, .slice A1_4 l1_4.length c1_4]) (t := 64) ?hr ?_; (case hd => rfl); (case hg => rfl); (case hr => first | (go_simp; done) | (go_simp; rfl)); intro gb299 hg w9 hbox hb; have n0_ := AsZ.mk (bBl (g := gb298) (o := .cells #[.int .i64 a0_0, .string a0_1, .int .i64 a0_2, .string a0_3, .slice A0_4 l0_4.length c0_4] 64 (0, 0)) (by (with_reducible repeat (first | refine bDn ?_ _ | refine bDr ?_ | refine bAl ?_ _)); exact BK298.out) hb); have n1_ := AsZ.mk (tBl (by repeat (first | (with_reducible first | exact HB.out | apply aBl | apply pBd | apply dBl | refine sBl ?_ GE298.out) | exact HB.out)) hb); have n2_ := AsZ.mk (hbox); have n3_ := AsZ.mk ((by rw [hg]; exact (zBl (by repeat (first | (with_reducible first | exact HB.out | apply aBl | apply pBd | apply dBl | refine sBl ?_ GE298.out) | exact HB.out))) : w.heap.size ≤ gb299)); have n4_ := AsZ.mk ((by rw [hg]; exact (zBl (by repeat (first | (with_reducible first | exact HB.out | apply aBl | apply pBd | apply dBl | refine sBl ?_ GE298.out) | exact HB.out))) : w.heap.size ≤ gb299)); have n5_ := AsZ.mk ((by rw [hg]; exact Nat.ne_of_lt (bLt (g := gb298) (o := .cells #[.int .i64 a0_0, .string a0_1, .int .i64 a0_2, .string a0_3, .slice A0_4 l0_4.length c0_4] 64 (0, 0)) (by (with_reducible repeat (first | refine bDn ?_ _ | refine bDr ?_ | refine bAl ?_ _)); exact BK298.out)) : gb298 ≠ gb299)); have n6_ := AsZ.mk ((by rw [hg]; exact Nat.ne_of_gt (bLt (g := gb298) (o := .cells #[.int .i64 a0_0, .string a0_1, .int .i64 a0_2, .string a0_3, .slice A0_4 l0_4.length c0_4] 64 (0, 0)) (by (with_reducible repeat (first | refine bDn ?_ _ | refine bDr ?_ | refine bAl ?_ _)); exact BK298.out)) : gb299 ≠ gb298)); clear BK298; clear HB; have BK298 := n0_; have HB := n1_; have BK299 := n2_; have GW299 := n3_; have GE299 := n4_; have NB298_299 := n5_; have NB299_298 := n6_; clear n0_ n1_ n2_ n3_ n4_ n5_ n6_; clear hb hbox hg; have hnb10 := NB298_299.out; have hnc10 := NB299_298.out; have hcz11_0 : w9.cell? ⟨gb298, 0, none⟩ = some (.int .i64 a0_0) := (bCe BK298.out 0).trans rfl; have hcz11_1 : w9.cell? ⟨gb298, 1, none⟩ = some (.string a0_1) := (bCe BK298.out 1).trans rfl; have hcz11_2 : w9.cell? ⟨gb298, 2, none⟩ = some (.int .i64 a0_2) := (bCe BK298.out 2).trans rfl; have hcz11_3 : w9.cell? ⟨gb298, 3, none⟩ = some (.string a0_3) := (bCe BK298.out 3).trans rfl; have hcz11_4 : w9.cell? ⟨gb298, 4, none⟩ = some (.slice A0_4 l0_4.length c0_4) := (bCe BK298.out 4).trans rfl; have hfz11_0 := bFz BK298.out 0; have hfz11_1 := bFz BK298.out 1; have hfz11_2 := bFz BK298.out 2; have hfz11_3 := bFz BK298.out 3; have hfz11_4 := bFz BK298.out 4; have hcz12_0 : w9.cell? ⟨gb299, 0, none⟩ = some (.int .i64 a1_0) := (bCe BK299.out 0).trans rfl; have hcz12_1 : w9.cell? ⟨gb299, 1, none⟩ = some (.string a1_1) := (bCe BK299.out 1).trans rfl; have hcz12_2 : w9.cell? ⟨gb299, 2, none⟩ = some (.int .i64 a1_2) := (bCe BK299.out 2).trans rfl; have hcz12_3 : w9.cell? ⟨gb299, 3, none⟩ = some (.string a1_3) := (bCe BK299.out 3).trans rfl; have hcz12_4 : w9.cell? ⟨gb299, 4, none⟩ = some (.slice A1_4 l1_4.length c1_4) := (bCe BK299.out 4).trans rfl; have hfz12_0 := bFz BK299.out 0; have hfz12_1 := bFz BK299.out 1; have hfz12_2 := bFz BK299.out 2; have hfz12_3 := bFz BK299.out 3; have hfz12_4 := bFz BK299.out 4) | (go_at_call 19; (with_reducible refine (spenceref01_Bytes.calls k _ _ l0_4 _ _ l1_4 t300 _ ?side1 ?side2 ?side3 ?side4 A7.out).mono ?_); (case side1 => repeat (first | exact (Kd.C_below HR0_4.out HB.out) | (with_reducible refine Kd.C_alloc ?_ _) | (with_reducible refine Kd.C_drewN ?_ _) | (with_reducible refine Kd.C_drew ?_))); (case side2 => exact HC0_4.out); (case side3 => repeat (first | exact (Kd.C_below HR1_4.out HB.out) | (with_reducible refine Kd.C_alloc ?_ _) | (with_reducible refine Kd.C_drewN ?_ _) | (with_reducible refine Kd.C_drew ?_))); (case side4 => exact HC1_4.out); rintro e w' ⟨rfl, ⟨nd, rfl⟩⟩))
          go_ret
          exact ⟨by first | rfl | exact nEm _ | exact eEm _ | (simp [eWn, eWs] <;> rfl) | (simp [*, eWn, eWs] <;> rfl), by repeat (first | (with_reducible first | exact HB.out | apply aBl | apply pBd | apply dBl | refine sBl ?_ GE298.out | refine sBl ?_ GE299.out) | exact HB.out)⟩
        · rw [if_neg c6] at H
          have c6b0 : (a0_3.toList == a1_3.toList) = false := beq_eq_false_iff_ne.mpr c6
          have c6b1 : (a0_3.toList != a1_3.toList) = true := bne_iff_ne.mpr c6
          obtain rfl := Option.some.inj H
          go_enter Try.func39, Try.ntmps39
          go_wp2_with (first | ((with_reducible refine gDs (N := 2) rfl ?_); refine bEv ?hg (N := 2) ?hd (cs := #[.int .i64 a0_0, .string a0_1, .int .i64 a0_2, .string a0_3, .slice A0_4 l0_4.length c0_4]) (t := 64) ?hr ?_; (case hd => rfl); (case hg => rfl); (case hr => first | (go_simp; done) | (go_simp; rfl)); intro gb298 hg w13 hbox hb; have n0_ := AsZ.mk (tBl (by repeat (first | (with_reducible first | exact HB.out | apply aBl | apply pBd | apply dBl) | exact HB.out)) hb); have n1_ := AsZ.mk (hbox); have n2_ := AsZ.mk ((by rw [hg]; exact (zBl (by repeat (first | (with_reducible first | exact HB.out | apply aBl | apply pBd | apply dBl) | exact HB.out))) : w.heap.size ≤ gb298)); have n3_ := AsZ.mk ((by rw [hg]; exact (zBl (by repeat (first | (with_reducible first | exact HB.out | apply aBl | apply pBd | apply dBl) | exact HB.out))) : w.heap.size ≤ gb298)); clear HB; have HB := n0_; have BK298 := n1_; have GW298 := n2_; have GE298 := n3_; clear n0_ n1_ n2_ n3_; clear hb hbox hg) | ((with_reducible refine gDs (N := 3) rfl ?_); refine bEv ?hg (N := 3) ?hd (cs := #[.int .i64 a1_0, .string a1_1, .int .i64 a1_2, .string a1_3, .slice A1_4 l1_4.length c1_4]) (t := 64) ?hr ?_; (case hd => rfl); (case hg => rfl); (case hr => first | (go_simp; done) | (go_simp; rfl)); intro gb299 hg w14 hbox hb; have n0_ := AsZ.mk (bBl (g := gb298) (o := .cells #[.int .i64 a0_0, .string a0_1, .int .i64 a0_2, .string a0_3, .slice A0_4 l0_4.length c0_4] 64 (0, 0)) (by (with_reducible repeat (first | refine bDn ?_ _ | refine bDr ?_ | refine bAl ?_ _)); exact BK298.out) hb); have n1_ := AsZ.mk (tBl (by repeat (first | (with_reducible first | exact HB.out | apply aBl | apply pBd | apply dBl | refine sBl ?_ GE298.out) | exact HB.out)) hb); have n2_ := AsZ.mk (hbox); have n3_ := AsZ.mk ((by rw [hg]; exact (zBl (by repeat (first | (with_reducible first | exact HB.out | apply aBl | apply pBd | apply dBl | refine sBl ?_ GE298.out) | exact HB.out))) : w.heap.size ≤ gb299)); have n4_ := AsZ.mk ((by rw [hg]; exact (zBl (by repeat (first | (with_reducible first | exact HB.out | apply aBl | apply pBd | apply dBl | refine sBl ?_ GE298.out) | exact HB.out))) : w.heap.size ≤ gb299)); have n5_ := AsZ.mk ((by rw [hg]; exact Nat.ne_of_lt (bLt (g := gb298) (o := .cells #[.int .i64 a0_0, .string a0_1, .int .i64 a0_2, .string a0_3, .slice A0_4 l0_4.length c0_4] 64 (0, 0)) (by (with_reducible repeat (first | refine bDn ?_ _ | refine bDr ?_ | refine bAl ?_ _)); exact BK298.out)) : gb298 ≠ gb299)); have n6_ := AsZ.mk ((by rw [hg]; exact Nat.ne_of_gt (bLt (g := gb298) (o := .cells #[.int .i64 a0_0, .string a0_1, .int .i64 a0_2, .string a0_3, .slice A0_4 l0_4.length c0_4] 64 (0, 0)) (by (with_reducible repeat (first | refine bDn ?_ _ | refine bDr ?_ | refine bAl ?_ _)); exact BK298.out)) : gb299 ≠ gb298)); clear BK298; clear HB; have BK298 := n0_; have HB := n1_; have BK299 := n2_; have GW299 := n3_; have GE299 := n4_; have NB298_299 := n5_; have NB299_298 := n6_; clear n0_ n1_ n2_ n3_ n4_ n5_ n6_; clear hb hbox hg; have hnb15 := NB298_299.out; have hnc15 := NB299_298.out; have hcz16_0 : w14.cell? ⟨gb298, 0, none⟩ = some (.int .i64 a0_0) := (bCe BK298.out 0).trans rfl; have hcz16_1 : w14.cell? ⟨gb298, 1, none⟩ = some (.string a0_1) := (bCe BK298.out 1).trans rfl; have hcz16_2 : w14.cell? ⟨gb298, 2, none⟩ = some (.int .i64 a0_2) := (bCe BK298.out 2).trans rfl; have hcz16_3 : w14.cell? ⟨gb298, 3, none⟩ = some (.string a0_3) := (bCe BK298.out 3).trans rfl; have hcz16_4 : w14.cell? ⟨gb298, 4, none⟩ = some (.slice A0_4 l0_4.length c0_4) := (bCe BK298.out 4).trans rfl; have hfz16_0 := bFz BK298.out 0; have hfz16_1 := bFz BK298.out 1; have hfz16_2 := bFz BK298.out 2; have hfz16_3 := bFz BK298.out 3; have hfz16_4 := bFz BK298.out 4; have hcz17_0 : w14.cell? ⟨gb299, 0, none⟩ = some (.int .i64 a1_0) := (bCe BK299.out 0).trans rfl; have hcz17_1 : w14.cell? ⟨gb299, 1, none⟩ = some (.string a1_1) := (bCe BK299.out 1).trans rfl; have hcz17_2 : w14.cell? ⟨gb299, 2, none⟩ = some (.int .i64 a1_2) := (bCe BK299.out 2).trans rfl; have hcz17_3 : w14.cell? ⟨gb299, 3, none⟩ = some (.string a1_3) := (bCe BK299.out 3).trans rfl; have hcz17_4 : w14.cell? ⟨gb299, 4, none⟩ = some (.slice A1_4 l1_4.length c1_4) := (bCe BK299.out 4).trans rfl; have hfz17_0 := bFz BK299.out 0; have hfz17_1 := bFz BK299.out 1; have hfz17_2 := bFz BK299.out 2; have hfz17_3 := bFz BK299.out 3; have hfz17_4 := bFz BK299.out 4))
          go_ret
          exact ⟨by first | rfl | exact nEm _ | exact eEm _ | (simp [eWn, eWs] <;> rfl) | (simp [*, eWn, eWs] <;> rfl), by repeat (first | (with_reducible first | exact HB.out | apply aBl | apply pBd | apply dBl | refine sBl ?_ GE298.out | refine sBl ?_ GE299.out) | exact HB.out)⟩
      · rw [if_neg c5] at H
        have c5b0 : (a0_2 == a1_2) = false := beq_eq_false_iff_ne.mpr c5
        have c5b1 : (a0_2 != a1_2) = true := bne_iff_ne.mpr c5
        obtain rfl := Option.some.inj H
        go_enter Try.func39, Try.ntmps39
        go_wp2_with (first | ((with_reducible refine gDs (N := 2) rfl ?_); refine bEv ?hg (N := 2) ?hd (cs := #[.int .i64 a0_0, .string a0_1, .int .i64 a0_2, .string a0_3, .slice A0_4 l0_4.length c0_4]) (t := 64) ?hr ?_; (case hd => rfl); (case hg => rfl); (case hr => first | (go_simp; done) | (go_simp; rfl)); intro gb298 hg w18 hbox hb; have n0_ := AsZ.mk (tBl (by repeat (first | (with_reducible first | exact HB.out | apply aBl | apply pBd | apply dBl) | exact HB.out)) hb); have n1_ := AsZ.mk (hbox); have n2_ := AsZ.mk ((by rw [hg]; exact (zBl (by repeat (first | (with_reducible first | exact HB.out | apply aBl | apply pBd | apply dBl) | exact HB.out))) : w.heap.size ≤ gb298)); have n3_ := AsZ.mk ((by rw [hg]; exact (zBl (by repeat (first | (with_reducible first | exact HB.out | apply aBl | apply pBd | apply dBl) | exact HB.out))) : w.heap.size ≤ gb298)); clear HB; have HB := n0_; have BK298 := n1_; have GW298 := n2_; have GE298 := n3_; clear n0_ n1_ n2_ n3_; clear hb hbox hg) | ((with_reducible refine gDs (N := 3) rfl ?_); refine bEv ?hg (N := 3) ?hd (cs := #[.int .i64 a1_0, .string a1_1, .int .i64 a1_2, .string a1_3, .slice A1_4 l1_4.length c1_4]) (t := 64) ?hr ?_; (case hd => rfl); (case hg => rfl); (case hr => first | (go_simp; done) | (go_simp; rfl)); intro gb299 hg w19 hbox hb; have n0_ := AsZ.mk (bBl (g := gb298) (o := .cells #[.int .i64 a0_0, .string a0_1, .int .i64 a0_2, .string a0_3, .slice A0_4 l0_4.length c0_4] 64 (0, 0)) (by (with_reducible repeat (first | refine bDn ?_ _ | refine bDr ?_ | refine bAl ?_ _)); exact BK298.out) hb); have n1_ := AsZ.mk (tBl (by repeat (first | (with_reducible first | exact HB.out | apply aBl | apply pBd | apply dBl | refine sBl ?_ GE298.out) | exact HB.out)) hb); have n2_ := AsZ.mk (hbox); have n3_ := AsZ.mk ((by rw [hg]; exact (zBl (by repeat (first | (with_reducible first | exact HB.out | apply aBl | apply pBd | apply dBl | refine sBl ?_ GE298.out) | exact HB.out))) : w.heap.size ≤ gb299)); have n4_ := AsZ.mk ((by rw [hg]; exact (zBl (by repeat (first | (with_reducible first | exact HB.out | apply aBl | apply pBd | apply dBl | refine sBl ?_ GE298.out) | exact HB.out))) : w.heap.size ≤ gb299)); have n5_ := AsZ.mk ((by rw [hg]; exact Nat.ne_of_lt (bLt (g := gb298) (o := .cells #[.int .i64 a0_0, .string a0_1, .int .i64 a0_2, .string a0_3, .slice A0_4 l0_4.length c0_4] 64 (0, 0)) (by (with_reducible repeat (first | refine bDn ?_ _ | refine bDr ?_ | refine bAl ?_ _)); exact BK298.out)) : gb298 ≠ gb299)); have n6_ := AsZ.mk ((by rw [hg]; exact Nat.ne_of_gt (bLt (g := gb298) (o := .cells #[.int .i64 a0_0, .string a0_1, .int .i64 a0_2, .string a0_3, .slice A0_4 l0_4.length c0_4] 64 (0, 0)) (by (with_reducible repeat (first | refine bDn ?_ _ | refine bDr ?_ | refine bAl ?_ _)); exact BK298.out)) : gb299 ≠ gb298)); clear BK298; clear HB; have BK298 := n0_; have HB := n1_; have BK299 := n2_; have GW299 := n3_; have GE299 := n4_; have NB298_299 := n5_; have NB299_298 := n6_; clear n0_ n1_ n2_ n3_ n4_ n5_ n6_; clear hb hbox hg; have hnb20 := NB298_299.out; have hnc20 := NB299_298.out; have hcz21_0 : w19.cell? ⟨gb298, 0, none⟩ = some (.int .i64 a0_0) := (bCe BK298.out 0).trans rfl; have hcz21_1 : w19.cell? ⟨gb298, 1, none⟩ = some (.string a0_1) := (bCe BK298.out 1).trans rfl; have hcz21_2 : w19.cell? ⟨gb298, 2, none⟩ = some (.int .i64 a0_2) := (bCe BK298.out 2).trans rfl; have hcz21_3 : w19.cell? ⟨gb298, 3, none⟩ = some (.string a0_3) := (bCe BK298.out 3).trans rfl; have hcz21_4 : w19.cell? ⟨gb298, 4, none⟩ = some (.slice A0_4 l0_4.length c0_4) := (bCe BK298.out 4).trans rfl; have hfz21_0 := bFz BK298.out 0; have hfz21_1 := bFz BK298.out 1; have hfz21_2 := bFz BK298.out 2; have hfz21_3 := bFz BK298.out 3; have hfz21_4 := bFz BK298.out 4; have hcz22_0 : w19.cell? ⟨gb299, 0, none⟩ = some (.int .i64 a1_0) := (bCe BK299.out 0).trans rfl; have hcz22_1 : w19.cell? ⟨gb299, 1, none⟩ = some (.string a1_1) := (bCe BK299.out 1).trans rfl; have hcz22_2 : w19.cell? ⟨gb299, 2, none⟩ = some (.int .i64 a1_2) := (bCe BK299.out 2).trans rfl; have hcz22_3 : w19.cell? ⟨gb299, 3, none⟩ = some (.string a1_3) := (bCe BK299.out 3).trans rfl; have hcz22_4 : w19.cell? ⟨gb299, 4, none⟩ = some (.slice A1_4 l1_4.length c1_4) := (bCe BK299.out 4).trans rfl; have hfz22_0 := bFz BK299.out 0; have hfz22_1 := bFz BK299.out 1; have hfz22_2 := bFz BK299.out 2; have hfz22_3 := bFz BK299.out 3; have hfz22_4 := bFz BK299.out 4))
        go_ret
        exact ⟨by first | rfl | exact nEm _ | exact eEm _ | (simp [eWn, eWs] <;> rfl) | (simp [*, eWn, eWs] <;> rfl), by repeat (first | (with_reducible first | exact HB.out | apply aBl | apply pBd | apply dBl | refine sBl ?_ GE298.out | refine sBl ?_ GE299.out) | exact HB.out)⟩
    · rw [if_neg c4] at H
      have c4b0 : (a0_1.toList == a1_1.toList) = false := beq_eq_false_iff_ne.mpr c4
      have c4b1 : (a0_1.toList != a1_1.toList) = true := bne_iff_ne.mpr c4
      obtain rfl := Option.some.inj H
      go_enter Try.func39, Try.ntmps39
      go_wp2_with (first | ((with_reducible refine gDs (N := 2) rfl ?_); refine bEv ?hg (N := 2) ?hd (cs := #[.int .i64 a0_0, .string a0_1, .int .i64 a0_2, .string a0_3, .slice A0_4 l0_4.length c0_4]) (t := 64) ?hr ?_; (case hd => rfl); (case hg => rfl); (case hr => first | (go_simp; done) | (go_simp; rfl)); intro gb298 hg w23 hbox hb; have n0_ := AsZ.mk (tBl (by repeat (first | (with_reducible first | exact HB.out | apply aBl | apply pBd | apply dBl) | exact HB.out)) hb); have n1_ := AsZ.mk (hbox); have n2_ := AsZ.mk ((by rw [hg]; exact (zBl (by repeat (first | (with_reducible first | exact HB.out | apply aBl | apply pBd | apply dBl) | exact HB.out))) : w.heap.size ≤ gb298)); have n3_ := AsZ.mk ((by rw [hg]; exact (zBl (by repeat (first | (with_reducible first | exact HB.out | apply aBl | apply pBd | apply dBl) | exact HB.out))) : w.heap.size ≤ gb298)); clear HB; have HB := n0_; have BK298 := n1_; have GW298 := n2_; have GE298 := n3_; clear n0_ n1_ n2_ n3_; clear hb hbox hg) | ((with_reducible refine gDs (N := 3) rfl ?_); refine bEv ?hg (N := 3) ?hd (cs := #[.int .i64 a1_0, .string a1_1, .int .i64 a1_2, .string a1_3, .slice A1_4 l1_4.length c1_4]) (t := 64) ?hr ?_; (case hd => rfl); (case hg => rfl); (case hr => first | (go_simp; done) | (go_simp; rfl)); intro gb299 hg w24 hbox hb; have n0_ := AsZ.mk (bBl (g := gb298) (o := .cells #[.int .i64 a0_0, .string a0_1, .int .i64 a0_2, .string a0_3, .slice A0_4 l0_4.length c0_4] 64 (0, 0)) (by (with_reducible repeat (first | refine bDn ?_ _ | refine bDr ?_ | refine bAl ?_ _)); exact BK298.out) hb); have n1_ := AsZ.mk (tBl (by repeat (first | (with_reducible first | exact HB.out | apply aBl | apply pBd | apply dBl | refine sBl ?_ GE298.out) | exact HB.out)) hb); have n2_ := AsZ.mk (hbox); have n3_ := AsZ.mk ((by rw [hg]; exact (zBl (by repeat (first | (with_reducible first | exact HB.out | apply aBl | apply pBd | apply dBl | refine sBl ?_ GE298.out) | exact HB.out))) : w.heap.size ≤ gb299)); have n4_ := AsZ.mk ((by rw [hg]; exact (zBl (by repeat (first | (with_reducible first | exact HB.out | apply aBl | apply pBd | apply dBl | refine sBl ?_ GE298.out) | exact HB.out))) : w.heap.size ≤ gb299)); have n5_ := AsZ.mk ((by rw [hg]; exact Nat.ne_of_lt (bLt (g := gb298) (o := .cells #[.int .i64 a0_0, .string a0_1, .int .i64 a0_2, .string a0_3, .slice A0_4 l0_4.length c0_4] 64 (0, 0)) (by (with_reducible repeat (first | refine bDn ?_ _ | refine bDr ?_ | refine bAl ?_ _)); exact BK298.out)) : gb298 ≠ gb299)); have n6_ := AsZ.mk ((by rw [hg]; exact Nat.ne_of_gt (bLt (g := gb298) (o := .cells #[.int .i64 a0_0, .string a0_1, .int .i64 a0_2, .string a0_3, .slice A0_4 l0_4.length c0_4] 64 (0, 0)) (by (with_reducible repeat (first | refine bDn ?_ _ | refine bDr ?_ | refine bAl ?_ _)); exact BK298.out)) : gb299 ≠ gb298)); clear BK298; clear HB; have BK298 := n0_; have HB := n1_; have BK299 := n2_; have GW299 := n3_; have GE299 := n4_; have NB298_299 := n5_; have NB299_298 := n6_; clear n0_ n1_ n2_ n3_ n4_ n5_ n6_; clear hb hbox hg; have hnb25 := NB298_299.out; have hnc25 := NB299_298.out; have hcz26_0 : w24.cell? ⟨gb298, 0, none⟩ = some (.int .i64 a0_0) := (bCe BK298.out 0).trans rfl; have hcz26_1 : w24.cell? ⟨gb298, 1, none⟩ = some (.string a0_1) := (bCe BK298.out 1).trans rfl; have hcz26_2 : w24.cell? ⟨gb298, 2, none⟩ = some (.int .i64 a0_2) := (bCe BK298.out 2).trans rfl; have hcz26_3 : w24.cell? ⟨gb298, 3, none⟩ = some (.string a0_3) := (bCe BK298.out 3).trans rfl; have hcz26_4 : w24.cell? ⟨gb298, 4, none⟩ = some (.slice A0_4 l0_4.length c0_4) := (bCe BK298.out 4).trans rfl; have hfz26_0 := bFz BK298.out 0; have hfz26_1 := bFz BK298.out 1; have hfz26_2 := bFz BK298.out 2; have hfz26_3 := bFz BK298.out 3; have hfz26_4 := bFz BK298.out 4; have hcz27_0 : w24.cell? ⟨gb299, 0, none⟩ = some (.int .i64 a1_0) := (bCe BK299.out 0).trans rfl; have hcz27_1 : w24.cell? ⟨gb299, 1, none⟩ = some (.string a1_1) := (bCe BK299.out 1).trans rfl; have hcz27_2 : w24.cell? ⟨gb299, 2, none⟩ = some (.int .i64 a1_2) := (bCe BK299.out 2).trans rfl; have hcz27_3 : w24.cell? ⟨gb299, 3, none⟩ = some (.string a1_3) := (bCe BK299.out 3).trans rfl; have hcz27_4 : w24.cell? ⟨gb299, 4, none⟩ = some (.slice A1_4 l1_4.length c1_4) := (bCe BK299.out 4).trans rfl; have hfz27_0 := bFz BK299.out 0; have hfz27_1 := bFz BK299.out 1; have hfz27_2 := bFz BK299.out 2; have hfz27_3 := bFz BK299.out 3; have hfz27_4 := bFz BK299.out 4))
      go_ret
      exact ⟨by first | rfl | exact nEm _ | exact eEm _ | (simp [eWn, eWs] <;> rfl) | (simp [*, eWn, eWs] <;> rfl), by repeat (first | (with_reducible first | exact HB.out | apply aBl | apply pBd | apply dBl | refine sBl ?_ GE298.out | refine sBl ?_ GE299.out) | exact HB.out)⟩
  · rw [if_neg c3] at H
    have c3b0 : (a0_0 == a1_0) = false := beq_eq_false_iff_ne.mpr c3
    have c3b1 : (a0_0 != a1_0) = true := bne_iff_ne.mpr c3
    obtain rfl := Option.some.inj H
    go_enter Try.func39, Try.ntmps39
    go_wp2_with (first | ((with_reducible refine gDs (N := 2) rfl ?_); refine bEv ?hg (N := 2) ?hd (cs := #[.int .i64 a0_0, .string a0_1, .int .i64 a0_2, .string a0_3, .slice A0_4 l0_4.length c0_4]) (t := 64) ?hr ?_; (case hd => rfl); (case hg => rfl); (case hr => first | (go_simp; done) | (go_simp; rfl)); intro gb298 hg w28 hbox hb; have n0_ := AsZ.mk (tBl (by repeat (first | (with_reducible first | exact HB.out | apply aBl | apply pBd | apply dBl) | exact HB.out)) hb); have n1_ := AsZ.mk (hbox); have n2_ := AsZ.mk ((by rw [hg]; exact (zBl (by repeat (first | (with_reducible first | exact HB.out | apply aBl | apply pBd | apply dBl) | exact HB.out))) : w.heap.size ≤ gb298)); have n3_ := AsZ.mk ((by rw [hg]; exact (zBl (by repeat (first | (with_reducible first | exact HB.out | apply aBl | apply pBd | apply dBl) | exact HB.out))) : w.heap.size ≤ gb298)); clear HB; have HB := n0_; have BK298 := n1_; have GW298 := n2_; have GE298 := n3_; clear n0_ n1_ n2_ n3_; clear hb hbox hg) | ((with_reducible refine gDs (N := 3) rfl ?_); refine bEv ?hg (N := 3) ?hd (cs := #[.int .i64 a1_0, .string a1_1, .int .i64 a1_2, .string a1_3, .slice A1_4 l1_4.length c1_4]) (t := 64) ?hr ?_; (case hd => rfl); (case hg => rfl); (case hr => first | (go_simp; done) | (go_simp; rfl)); intro gb299 hg w29 hbox hb; have n0_ := AsZ.mk (bBl (g := gb298) (o := .cells #[.int .i64 a0_0, .string a0_1, .int .i64 a0_2, .string a0_3, .slice A0_4 l0_4.length c0_4] 64 (0, 0)) (by (with_reducible repeat (first | refine bDn ?_ _ | refine bDr ?_ | refine bAl ?_ _)); exact BK298.out) hb); have n1_ := AsZ.mk (tBl (by repeat (first | (with_reducible first | exact HB.out | apply aBl | apply pBd | apply dBl | refine sBl ?_ GE298.out) | exact HB.out)) hb); have n2_ := AsZ.mk (hbox); have n3_ := AsZ.mk ((by rw [hg]; exact (zBl (by repeat (first | (with_reducible first | exact HB.out | apply aBl | apply pBd | apply dBl | refine sBl ?_ GE298.out) | exact HB.out))) : w.heap.size ≤ gb299)); have n4_ := AsZ.mk ((by rw [hg]; exact (zBl (by repeat (first | (with_reducible first | exact HB.out | apply aBl | apply pBd | apply dBl | refine sBl ?_ GE298.out) | exact HB.out))) : w.heap.size ≤ gb299)); have n5_ := AsZ.mk ((by rw [hg]; exact Nat.ne_of_lt (bLt (g := gb298) (o := .cells #[.int .i64 a0_0, .string a0_1, .int .i64 a0_2, .string a0_3, .slice A0_4 l0_4.length c0_4] 64 (0, 0)) (by (with_reducible repeat (first | refine bDn ?_ _ | refine bDr ?_ | refine bAl ?_ _)); exact BK298.out)) : gb298 ≠ gb299)); have n6_ := AsZ.mk ((by rw [hg]; exact Nat.ne_of_gt (bLt (g := gb298) (o := .cells #[.int .i64 a0_0, .string a0_1, .int .i64 a0_2, .string a0_3, .slice A0_4 l0_4.length c0_4] 64 (0, 0)) (by (with_reducible repeat (first | refine bDn ?_ _ | refine bDr ?_ | refine bAl ?_ _)); exact BK298.out)) : gb299 ≠ gb298)); clear BK298; clear HB; have BK298 := n0_; have HB := n1_; have BK299 := n2_; have GW299 := n3_; have GE299 := n4_; have NB298_299 := n5_; have NB299_298 := n6_; clear n0_ n1_ n2_ n3_ n4_ n5_ n6_; clear hb hbox hg; have hnb30 := NB298_299.out; have hnc30 := NB299_298.out; have hcz31_0 : w29.cell? ⟨gb298, 0, none⟩ = some (.int .i64 a0_0) := (bCe BK298.out 0).trans rfl; have hcz31_1 : w29.cell? ⟨gb298, 1, none⟩ = some (.string a0_1) := (bCe BK298.out 1).trans rfl; have hcz31_2 : w29.cell? ⟨gb298, 2, none⟩ = some (.int .i64 a0_2) := (bCe BK298.out 2).trans rfl; have hcz31_3 : w29.cell? ⟨gb298, 3, none⟩ = some (.string a0_3) := (bCe BK298.out 3).trans rfl; have hcz31_4 : w29.cell? ⟨gb298, 4, none⟩ = some (.slice A0_4 l0_4.length c0_4) := (bCe BK298.out 4).trans rfl; have hfz31_0 := bFz BK298.out 0; have hfz31_1 := bFz BK298.out 1; have hfz31_2 := bFz BK298.out 2; have hfz31_3 := bFz BK298.out 3; have hfz31_4 := bFz BK298.out 4; have hcz32_0 : w29.cell? ⟨gb299, 0, none⟩ = some (.int .i64 a1_0) := (bCe BK299.out 0).trans rfl; have hcz32_1 : w29.cell? ⟨gb299, 1, none⟩ = some (.string a1_1) := (bCe BK299.out 1).trans rfl; have hcz32_2 : w29.cell? ⟨gb299, 2, none⟩ = some (.int .i64 a1_2) := (bCe BK299.out 2).trans rfl; have hcz32_3 : w29.cell? ⟨gb299, 3, none⟩ = some (.string a1_3) := (bCe BK299.out 3).trans rfl; have hcz32_4 : w29.cell? ⟨gb299, 4, none⟩ = some (.slice A1_4 l1_4.length c1_4) := (bCe BK299.out 4).trans rfl; have hfz32_0 := bFz BK299.out 0; have hfz32_1 := bFz BK299.out 1; have hfz32_2 := bFz BK299.out 2; have hfz32_3 := bFz BK299.out 3; have hfz32_4 := bFz BK299.out 4))
    go_ret
    exact ⟨by first | rfl | exact nEm _ | exact eEm _ | (simp [eWn, eWs] <;> rfl) | (simp [*, eWn, eWs] <;> rfl), by repeat (first | (with_reducible first | exact HB.out | apply aBl | apply pBd | apply dBl | refine sBl ?_ GE298.out | refine sBl ?_ GE299.out) | exact HB.out)⟩
def r4RC.j0 : Nat → Bool → Bool → Int → Int → Int → Option (Bool)
  | 0, _, _, _, _, _ => none
  | k + 1, x10, x302000, x302001, x302002, x302003 => if x10 = true then (some false) else (if x302000 = true then ((spenceref04_Right.f x302001 x302002).bind fun t302 => (if t302 = true then (if x302003 = (-1) then (some true) else (some (decide (x302002 ≤ x302003)))) else (some false))) else (if (x302001 == 0 && (x302002 == 0)) = true then (some (decide (x302003 ≥ 0))) else (some false)))
def r4RC.f (k : Nat) (a0_0 : Bool) (a0_1 : Int) (a0_2 : Int) (a0_3 : Int) : Option (Bool) := if a0_3 < (-1) then (r4RC.j0 k true a0_0 a0_1 a0_2 a0_3) else (r4RC.j0 k (decide (a0_3 > 4611686018427387903)) a0_0 a0_1 a0_2 a0_3)
theorem r4RC.mono_l : ∀ k, (∀ y0 y1 y2 y3 y4, LeO (r4RC.j0 k y0 y1 y2 y3 y4) (r4RC.j0 (k + 1) y0 y1 y2 y3 y4))
  | 0 => fun _ _ _ _ _ r h => by simp [r4RC.j0] at h
  | k + 1 => by
    have ih0 := r4RC.mono_l k
    · intro y0 y1 y2 y3 y4
      unfold r4RC.j0
      repeat' first
      | (with_reducible exact ih0 _ _ _ _ _)
      | (with_reducible exact LeO.refl _)
      | (with_reducible exact LeO.none _)
      | (with_reducible refine LeO.ite ?_ ?_)
      | (with_reducible refine LeO.bind ?_ (fun _ => ?_))
      | exact ih0 _ _ _ _ _
      | exact LeO.none _
      | refine LeO.ite ?_ ?_
      | refine LeO.bind ?_ (fun _ => ?_)
theorem r4RC.mono : ∀ a0 a1 a2 a3 k, LeO (r4RC.f k a0 a1 a2 a3) (r4RC.f (k + 1) a0 a1 a2 a3) := by
  intro a0 a1 a2 a3 k
  have ih0 := r4RC.mono_l k
  unfold r4RC.f
  repeat' first
      | (with_reducible exact ih0 _ _ _ _ _)
      | (with_reducible exact LeO.refl _)
      | (with_reducible exact LeO.none _)
      | (with_reducible refine LeO.ite ?_ ?_)
      | (with_reducible refine LeO.bind ?_ (fun _ => ?_))
      | exact ih0 _ _ _ _ _
      | exact LeO.none _
      | refine LeO.ite ?_ ?_
      | refine LeO.bind ?_ (fun _ => ?_)
set_option maxHeartbeats 8000000 in
set_option maxRecDepth 100000 in
theorem r4RC.calls (k : Nat) (a0_0 : Bool) (a0_1 : Int) (a0_2 : Int) (a0_3 : Int) (r : Bool) (w : World) (h : r4RC.f k a0_0 a0_1 a0_2 a0_3 = some r) :
    Calls Try.prog 74 #[.agg #[.bool a0_0, .int .i64 a0_1, .int .i64 a0_2, .int .i64 a0_3]] w fun e w' => e = .returned (.bool r) ∧ Below w.heap.size w w' := by
  have hu91 := Try.underlying91
  have hu28 := Try.underlying28
  have HB := AsZ.mk (Below.refl w.heap.size w)
  have H : (if a0_3 < (-1) then (r4RC.j0 k true a0_0 a0_1 a0_2 a0_3) else (r4RC.j0 k (decide (a0_3 > 4611686018427387903)) a0_0 a0_1 a0_2 a0_3)) = some r := h
  clear h
  have HC2 := AsZ.mk H
  clear H
  go_enter Try.func74, Try.ntmps74
  go_upto_region 1 with (first | ((with_reducible refine gDs (N := 1) rfl ?_); refine bEv ?hg (N := 1) ?hd (cs := #[.bool a0_0, .int .i64 a0_1, .int .i64 a0_2, .int .i64 a0_3]) (t := 91) ?hr ?_; (case hd => rfl); (case hg => rfl); (case hr => first | (go_simp; done) | (go_simp; rfl)); intro gb301 hg w3 hbox hb; have n0_ := AsZ.mk (tBl (by repeat (first | (with_reducible first | exact HB.out | apply aBl | apply pBd | apply dBl) | exact HB.out)) hb); have n1_ := AsZ.mk (hbox); have n2_ := AsZ.mk ((by rw [hg]; exact (zBl (by repeat (first | (with_reducible first | exact HB.out | apply aBl | apply pBd | apply dBl) | exact HB.out))) : w.heap.size ≤ gb301)); have n3_ := AsZ.mk ((by rw [hg]; exact (zBl (by repeat (first | (with_reducible first | exact HB.out | apply aBl | apply pBd | apply dBl) | exact HB.out))) : w.heap.size ≤ gb301)); clear HB; have HB := n0_; have BK301 := n1_; have GW301 := n2_; have GE301 := n3_; clear n0_ n1_ n2_ n3_; clear hb hbox hg))
  (try simp only [Act.put, List.setIfInBounds_toArray, List.set_cons_zero, List.set_cons_succ])
  go_cut [10] (fun v10 wc => ∃ (kq : Nat) (x10_1 : Bool), v10 = .bool x10_1 ∧ AsZ (r4RC.j0 kq x10_1 a0_0 a0_1 a0_2 a0_3 = some r) ∧ AsZ (kq ≤ k) ∧ AsZ (wc.heap[gb301]? = some (.cells #[.bool a0_0, .int .i64 a0_1, .int .i64 a0_2, .int .i64 a0_3] 91 (0, 0))) ∧ AsZ (Below w.heap.size w wc))
  case first =>
    have H := HC2.out
    clear HC2
    by_cases c4 : a0_3 < (-1)
    · rw [if_pos c4] at H
      have c4b0 : decide (a0_3 < (-1)) = true := decide_eq_true c4
      clear c4
      (first | rw [c4b0] | (simp only [i64_w, i32_w]; rw [c4b0]) | skip)
      have H' := AsZ.mk H
      clear H
      have hcz5_0 : w3.cell? ⟨gb301, 0, none⟩ = some (.bool a0_0) := (bCe BK301.out 0).trans rfl
      have hcz5_1 : w3.cell? ⟨gb301, 1, none⟩ = some (.int .i64 a0_1) := (bCe BK301.out 1).trans rfl
      have hcz5_2 : w3.cell? ⟨gb301, 2, none⟩ = some (.int .i64 a0_2) := (bCe BK301.out 2).trans rfl
      have hcz5_3 : w3.cell? ⟨gb301, 3, none⟩ = some (.int .i64 a0_3) := (bCe BK301.out 3).trans rfl
      have hfz5_0 := bFz BK301.out 0
      have hfz5_1 := bFz BK301.out 1
      have hfz5_2 := bFz BK301.out 2
      have hfz5_3 := bFz BK301.out 3
      go_wp2
      go_meet
      case rel => exact ⟨_, (true), (by first | rfl | (simp; done) | (simp [*]; done)), H', ⟨by first | omega | exact Nat.le_refl _⟩, ⟨by (with_reducible repeat (first | refine bDn ?_ _ | refine bDr ?_ | refine bAl ?_ _)); exact BK301.out⟩, ⟨by repeat (first | (with_reducible first | exact HB.out | apply aBl | apply pBd | apply dBl | refine sBl ?_ GE301.out) | exact HB.out)⟩⟩
    · rw [if_neg c4] at H
      have c4b0 : decide (a0_3 < (-1)) = false := decide_eq_false c4
      clear c4
      (first | rw [c4b0] | (simp only [i64_w, i32_w]; rw [c4b0]) | skip)
      have H' := AsZ.mk H
      clear H
      have hcz6_0 : w3.cell? ⟨gb301, 0, none⟩ = some (.bool a0_0) := (bCe BK301.out 0).trans rfl
      have hcz6_1 : w3.cell? ⟨gb301, 1, none⟩ = some (.int .i64 a0_1) := (bCe BK301.out 1).trans rfl
      have hcz6_2 : w3.cell? ⟨gb301, 2, none⟩ = some (.int .i64 a0_2) := (bCe BK301.out 2).trans rfl
      have hcz6_3 : w3.cell? ⟨gb301, 3, none⟩ = some (.int .i64 a0_3) := (bCe BK301.out 3).trans rfl
      have hfz6_0 := bFz BK301.out 0
      have hfz6_1 := bFz BK301.out 1
      have hfz6_2 := bFz BK301.out 2
      have hfz6_3 := bFz BK301.out 3
      go_wp2
      go_meet
      case rel => exact ⟨_, (decide (a0_3 > 4611686018427387903)), (by first | rfl | (simp; done) | (simp [*]; done)), H', ⟨by first | omega | exact Nat.le_refl _⟩, ⟨by (with_reducible repeat (first | refine bDn ?_ _ | refine bDr ?_ | refine bAl ?_ _)); exact BK301.out⟩, ⟨by repeat (first | (with_reducible first | exact HB.out | apply aBl | apply pBd | apply dBl | refine sBl ?_ GE301.out) | exact HB.out)⟩⟩
  case rest =>
    clear HC2
    try clear p2
    try clear c4
    try clear c4b0
    try clear hcz5_0
    try clear hcz5_1
    try clear hcz5_2
    try clear hcz5_3
    try clear hcz6_0
    try clear hcz6_1
    try clear hcz6_2
    try clear hcz6_3
    try clear hfz5_0
    try clear hfz5_1
    try clear hfz5_2
    try clear hfz5_3
    try clear hfz6_0
    try clear hfz6_1
    try clear hfz6_2
    try clear hfz6_3
    obtain ⟨kq, x10_1, rfl, HA, HJ1, BK301, HB⟩ := hcut
    cases kq with
    | zero => exact absurd HA.out (by simp [r4RC.j0])
    | succ kj1 =>
      have H := HA.out
      clear HA
      simp only [r4RC.j0] at H
      by_cases c7 : x10_1 = true
      · subst c7
        have H1 : (some false) = some r := by rw [if_pos rfl] at H; exact H
        clear H
        have H := H1
        clear H1
        obtain rfl := Option.some.inj H
        go_wp2
        go_ret
        exact ⟨by first | rfl | exact nEm _ | exact eEm _ | (simp [eWn, eWs] <;> rfl) | (simp [*, eWn, eWs] <;> rfl), by repeat (first | (with_reducible first | exact HB.out | apply aBl | apply pBd | apply dBl | refine sBl ?_ GE301.out) | exact HB.out)⟩
      · replace c7 := Bool.eq_false_iff.mpr c7
        subst c7
        have H1 : (if a0_0 = true then ((spenceref04_Right.f a0_1 a0_2).bind fun t302 => (if t302 = true then (if a0_3 = (-1) then (some true) else (some (decide (a0_2 ≤ a0_3)))) else (some false))) else (if (a0_1 == 0 && (a0_2 == 0)) = true then (some (decide (a0_3 ≥ 0))) else (some false))) = some r := by rw [if_neg (show ¬ (false = true) by decide)] at H; exact H
        clear H
        have H := H1
        clear H1
        by_cases c8 : a0_0 = true
        · subst c8
          have H1 : ((spenceref04_Right.f a0_1 a0_2).bind fun t302 => (if t302 = true then (if a0_3 = (-1) then (some true) else (some (decide (a0_2 ≤ a0_3)))) else (some false))) = some r := by rw [if_pos rfl] at H; exact H
          clear H
          have H := H1
          clear H1
          replace H := Option.bind_eq_some_iff.mp H
          obtain ⟨t302, A90, H⟩ := H
          replace H : (if t302 = true then (if a0_3 = (-1) then (some true) else (some (decide (a0_2 ≤ a0_3)))) else (some false)) = some r := H
          have A9 := AsZ.mk A90
          clear A90
          by_cases c10 : t302 = true
          · subst c10
            have H1 : (if a0_3 = (-1) then (some true) else (some (decide (a0_2 ≤ a0_3)))) = some r := by rw [if_pos rfl] at H; exact H
            clear H
            have H := H1
            clear H1
            by_cases c11 : a0_3 = (-1)
            · rw [if_pos c11] at H
              have c11b0 : (a0_3 == (-1)) = true := beq_iff_eq.mpr c11
              have c11b1 : (a0_3 != (-1)) = false := bne_eq_false_iff_eq.mpr c11
              clear c11
              obtain rfl := Option.some.inj H
              have hcz12_0 : wc.cell? ⟨gb301, 0, none⟩ = some (.bool true) := (bCe BK301.out 0).trans rfl
              have hcz12_1 : wc.cell? ⟨gb301, 1, none⟩ = some (.int .i64 a0_1) := (bCe BK301.out 1).trans rfl
              have hcz12_2 : wc.cell? ⟨gb301, 2, none⟩ = some (.int .i64 a0_2) := (bCe BK301.out 2).trans rfl
              have hcz12_3 : wc.cell? ⟨gb301, 3, none⟩ = some (.int .i64 a0_3) := (bCe BK301.out 3).trans rfl
              have hfz12_0 := bFz BK301.out 0
              have hfz12_1 := bFz BK301.out 1
              have hfz12_2 := bFz BK301.out 2
              have hfz12_3 := bFz BK301.out 3
              go_wp2_with (first | ((with_reducible refine gCa (f := 28) rfl ?_); refine gLl (some 25) rfl rfl Try.func28 (by kernel_rfl) rfl #[.agg #[.int .i64 a0_1, .int .i64 a0_2]] rfl (by (try simp only [List.map_toArray, List.map_cons, List.map_nil]); first | done | rfl | (simp only [List.length_drop, List.length_take]; rfl)) ?_; (with_reducible refine (spenceref04_Right.calls a0_1 a0_2 true _ A9.out).mono ?_); rintro e w13 ⟨rfl, hb⟩; refine ⟨_, rfl, ?_⟩; have n0_ := AsZ.mk (bBl (g := gb301) (o := .cells #[.bool true, .int .i64 a0_1, .int .i64 a0_2, .int .i64 a0_3] 91 (0, 0)) (by (with_reducible repeat (first | refine bDn ?_ _ | refine bDr ?_ | refine bAl ?_ _)); exact BK301.out) hb); have n1_ := AsZ.mk (tBl (by repeat (first | (with_reducible first | exact HB.out | apply aBl | apply pBd | apply dBl | refine sBl ?_ GE301.out) | exact HB.out)) hb); clear BK301; clear HB; have BK301 := n0_; have HB := n1_; clear n0_ n1_; (try clear hb); (try clear hb2); (try clear hk); (try clear hi); have hcz14_0 : w13.cell? ⟨gb301, 0, none⟩ = some (.bool true) := (bCe BK301.out 0).trans rfl; have hcz14_1 : w13.cell? ⟨gb301, 1, none⟩ = some (.int .i64 a0_1) := (bCe BK301.out 1).trans rfl; have hcz14_2 : w13.cell? ⟨gb301, 2, none⟩ = some (.int .i64 a0_2) := (bCe BK301.out 2).trans rfl; have hcz14_3 : w13.cell? ⟨gb301, 3, none⟩ = some (.int .i64 a0_3) := (bCe BK301.out 3).trans rfl; have hfz14_0 := bFz BK301.out 0; have hfz14_1 := bFz BK301.out 1; have hfz14_2 := bFz BK301.out 2; have hfz14_3 := bFz BK301.out 3))
              go_ret
              exact ⟨by first | rfl | exact nEm _ | exact eEm _ | (simp [eWn, eWs] <;> rfl) | (simp [*, eWn, eWs] <;> rfl), by repeat (first | (with_reducible first | exact HB.out | apply aBl | apply pBd | apply dBl | refine sBl ?_ GE301.out) | exact HB.out)⟩
            · rw [if_neg c11] at H
              have c11b0 : (a0_3 == (-1)) = false := beq_eq_false_iff_ne.mpr c11
              have c11b1 : (a0_3 != (-1)) = true := bne_iff_ne.mpr c11
              obtain rfl := Option.some.inj H
              have hcz15_0 : wc.cell? ⟨gb301, 0, none⟩ = some (.bool true) := (bCe BK301.out 0).trans rfl
              have hcz15_1 : wc.cell? ⟨gb301, 1, none⟩ = some (.int .i64 a0_1) := (bCe BK301.out 1).trans rfl
              have hcz15_2 : wc.cell? ⟨gb301, 2, none⟩ = some (.int .i64 a0_2) := (bCe BK301.out 2).trans rfl
              have hcz15_3 : wc.cell? ⟨gb301, 3, none⟩ = some (.int .i64 a0_3) := (bCe BK301.out 3).trans rfl
              have hfz15_0 := bFz BK301.out 0
              have hfz15_1 := bFz BK301.out 1
              have hfz15_2 := bFz BK301.out 2
              have hfz15_3 := bFz BK301.out 3
              go_wp2_with (first | ((with_reducible refine gCa (f := 28) rfl ?_); refine gLl (some 25) rfl rfl Try.func28 (by kernel_rfl) rfl #[.agg #[.int .i64 a0_1, .int .i64 a0_2]] rfl (by (try simp only [List.map_toArray, List.map_cons, List.map_nil]); first | done | rfl | (simp only [List.length_drop, List.length_take]; rfl)) ?_; (with_reducible refine (spenceref04_Right.calls a0_1 a0_2 true _ A9.out).mono ?_); rintro e w16 ⟨rfl, hb⟩; refine ⟨_, rfl, ?_⟩; have n0_ := AsZ.mk (bBl (g := gb301) (o := .cells #[.bool true, .int .i64 a0_1, .int .i64 a0_2, .int .i64 a0_3] 91 (0, 0)) (by (with_reducible repeat (first | refine bDn ?_ _ | refine bDr ?_ | refine bAl ?_ _)); exact BK301.out) hb); have n1_ := AsZ.mk (tBl (by repeat (first | (with_reducible first | exact HB.out | apply aBl | apply pBd | apply dBl | refine sBl ?_ GE301.out) | exact HB.out)) hb); clear BK301; clear HB; have BK301 := n0_; have HB := n1_; clear n0_ n1_; (try clear hb); (try clear hb2); (try clear hk); (try clear hi); have hcz17_0 : w16.cell? ⟨gb301, 0, none⟩ = some (.bool true) := (bCe BK301.out 0).trans rfl; have hcz17_1 : w16.cell? ⟨gb301, 1, none⟩ = some (.int .i64 a0_1) := (bCe BK301.out 1).trans rfl; have hcz17_2 : w16.cell? ⟨gb301, 2, none⟩ = some (.int .i64 a0_2) := (bCe BK301.out 2).trans rfl; have hcz17_3 : w16.cell? ⟨gb301, 3, none⟩ = some (.int .i64 a0_3) := (bCe BK301.out 3).trans rfl; have hfz17_0 := bFz BK301.out 0; have hfz17_1 := bFz BK301.out 1; have hfz17_2 := bFz BK301.out 2; have hfz17_3 := bFz BK301.out 3))
              go_ret
              exact ⟨by first | rfl | exact nEm _ | exact eEm _ | (simp [eWn, eWs] <;> rfl) | (simp [*, eWn, eWs] <;> rfl), by repeat (first | (with_reducible first | exact HB.out | apply aBl | apply pBd | apply dBl | refine sBl ?_ GE301.out) | exact HB.out)⟩
          · replace c10 := Bool.eq_false_iff.mpr c10
            subst c10
            have H1 : (some false) = some r := by rw [if_neg (show ¬ (false = true) by decide)] at H; exact H
            clear H
            have H := H1
            clear H1
            obtain rfl := Option.some.inj H
            have hcz18_0 : wc.cell? ⟨gb301, 0, none⟩ = some (.bool true) := (bCe BK301.out 0).trans rfl
            have hcz18_1 : wc.cell? ⟨gb301, 1, none⟩ = some (.int .i64 a0_1) := (bCe BK301.out 1).trans rfl
            have hcz18_2 : wc.cell? ⟨gb301, 2, none⟩ = some (.int .i64 a0_2) := (bCe BK301.out 2).trans rfl
            have hcz18_3 : wc.cell? ⟨gb301, 3, none⟩ = some (.int .i64 a0_3) := (bCe BK301.out 3).trans rfl
            have hfz18_0 := bFz BK301.out 0
            have hfz18_1 := bFz BK301.out 1
            have hfz18_2 := bFz BK301.out 2
            have hfz18_3 := bFz BK301.out 3
            go_wp2_with (first | ((with_reducible refine gCa (f := 28) rfl ?_); refine gLl (some 25) rfl rfl Try.func28 (by kernel_rfl) rfl #[.agg #[.int .i64 a0_1, .int .i64 a0_2]] rfl (by (try simp only [List.map_toArray, List.map_cons, List.map_nil]); first | done | rfl | (simp only [List.length_drop, List.length_take]; rfl)) ?_; (with_reducible refine (spenceref04_Right.calls a0_1 a0_2 false _ A9.out).mono ?_); rintro e w19 ⟨rfl, hb⟩; refine ⟨_, rfl, ?_⟩; have n0_ := AsZ.mk (bBl (g := gb301) (o := .cells #[.bool true, .int .i64 a0_1, .int .i64 a0_2, .int .i64 a0_3] 91 (0, 0)) (by (with_reducible repeat (first | refine bDn ?_ _ | refine bDr ?_ | refine bAl ?_ _)); exact BK301.out) hb); have n1_ := AsZ.mk (tBl (by repeat (first | (with_reducible first | exact HB.out | apply aBl | apply pBd | apply dBl | refine sBl ?_ GE301.out) | exact HB.out)) hb); clear BK301; clear HB; have BK301 := n0_; have HB := n1_; clear n0_ n1_; (try clear hb); (try clear hb2); (try clear hk); (try clear hi)))
            go_ret
            exact ⟨by first | rfl | exact nEm _ | exact eEm _ | (simp [eWn, eWs] <;> rfl) | (simp [*, eWn, eWs] <;> rfl), by repeat (first | (with_reducible first | exact HB.out | apply aBl | apply pBd | apply dBl | refine sBl ?_ GE301.out) | exact HB.out)⟩
        · replace c8 := Bool.eq_false_iff.mpr c8
          subst c8
          have H1 : (if (a0_1 == 0 && (a0_2 == 0)) = true then (some (decide (a0_3 ≥ 0))) else (some false)) = some r := by rw [if_neg (show ¬ (false = true) by decide)] at H; exact H
          clear H
          have H := H1
          clear H1
          by_cases c20 : (a0_1 == 0 && (a0_2 == 0)) = true
          · rw [if_pos c20] at H
            have c20b0 : (a0_1 == 0 && (a0_2 == 0)) = true := c20
            (try (have c20b1 : decide (a0_1 = 0 && (a0_2 == 0)) = true := by simpa using c20))
            (try (have c20b2 : (a0_1 == 0 && (a0_2 == 0)) = true := by simpa using c20))
            clear c20
            obtain rfl := Option.some.inj H
            have hcz21_0 : wc.cell? ⟨gb301, 0, none⟩ = some (.bool false) := (bCe BK301.out 0).trans rfl
            have hcz21_1 : wc.cell? ⟨gb301, 1, none⟩ = some (.int .i64 a0_1) := (bCe BK301.out 1).trans rfl
            have hcz21_2 : wc.cell? ⟨gb301, 2, none⟩ = some (.int .i64 a0_2) := (bCe BK301.out 2).trans rfl
            have hcz21_3 : wc.cell? ⟨gb301, 3, none⟩ = some (.int .i64 a0_3) := (bCe BK301.out 3).trans rfl
            have hfz21_0 := bFz BK301.out 0
            have hfz21_1 := bFz BK301.out 1
            have hfz21_2 := bFz BK301.out 2
            have hfz21_3 := bFz BK301.out 3
            go_wp2
            go_ret
            exact ⟨by first | rfl | exact nEm _ | exact eEm _ | (simp [eWn, eWs] <;> rfl) | (simp [*, eWn, eWs] <;> rfl), by repeat (first | (with_reducible first | exact HB.out | apply aBl | apply pBd | apply dBl | refine sBl ?_ GE301.out) | exact HB.out)⟩
          · rw [if_neg c20] at H
            have c20b0 : (a0_1 == 0 && (a0_2 == 0)) = false := by simpa using c20
            (try (have c20b1 : decide (a0_1 = 0 && (a0_2 == 0)) = false := by simpa using c20))
            (try (have c20b2 : (a0_1 == 0 && (a0_2 == 0)) = false := by simpa using c20))
            (try (have c20b3 : ¬ (a0_1 = 0 && (a0_2 == 0)) := by simpa using c20))
            clear c20
            obtain rfl := Option.some.inj H
            have hcz22_0 : wc.cell? ⟨gb301, 0, none⟩ = some (.bool false) := (bCe BK301.out 0).trans rfl
            have hcz22_1 : wc.cell? ⟨gb301, 1, none⟩ = some (.int .i64 a0_1) := (bCe BK301.out 1).trans rfl
            have hcz22_2 : wc.cell? ⟨gb301, 2, none⟩ = some (.int .i64 a0_2) := (bCe BK301.out 2).trans rfl
            have hcz22_3 : wc.cell? ⟨gb301, 3, none⟩ = some (.int .i64 a0_3) := (bCe BK301.out 3).trans rfl
            have hfz22_0 := bFz BK301.out 0
            have hfz22_1 := bFz BK301.out 1
            have hfz22_2 := bFz BK301.out 2
            have hfz22_3 := bFz BK301.out 3
            go_wp2
            go_ret
            exact ⟨by first | rfl | exact nEm _ | exact eEm _ | (simp [eWn, eWs] <;> rfl) | (simp [*, eWn, eWs] <;> rfl), by repeat (first | (with_reducible first | exact HB.out | apply aBl | apply pBd | apply dBl | refine sBl ?_ GE301.out) | exact HB.out)⟩
end Go.Proofs.Ytfcengffgkmacaa.PAll
