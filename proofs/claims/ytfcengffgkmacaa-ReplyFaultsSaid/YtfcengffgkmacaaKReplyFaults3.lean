/- What the law ReplyFaults leans on (part 4 of 7): Go functions as plain functions, that the code comes to them, and what these answer. -/
import Derived.Test.YtfcengffgkmacaaKReplyFaults1
import Derived.Test.YtfcengffgkmacaaKReplyFaults2
namespace Go.Proofs.Ytfcengffgkmacaa.PAll
open Go.RowKit Go.Proofs.Ytfcengffgkmacaa.Xw Go.Proofs.YtfcengffgkmacaaW.PrintWords Go.Proofs.YtfcengffgkmacaaW.PrintLast Go.Proofs.YtfcengffgkmacaaW.PrintMore
attribute [local go_sem] max2_int min2_int max_two min_two max_three min_three max_four min_four   -- for this text's walks alone
set_option linter.unusedVariables false
set_option linter.unusedSimpArgs false
def r4PC.f (k : Nat) (a0_0 : Bool) (a0_1 : Int) (a0_2 : Int) (a0_3 : Int) : Option (ByteArray) := (r4RC.f k a0_0 a0_1 a0_2 a0_3).bind fun t304 => (if t304 = true then (if a0_0 = true then ((r1Prt.f k a0_1).bind fun t305 => (if 6 + t305.size ≤ 9223372036854775807 then (if 6 + t305.size + 1 ≤ 9223372036854775807 then ((r1Prt.f k (wrap64 (a0_2 - 1))).bind fun t306 => (if 6 + t305.size + 1 + t306.size ≤ 9223372036854775807 then (if a0_3 < 0 then (if 6 + t305.size + 1 + t306.size + 2 ≤ 9223372036854775807 then (some (((((⟨#[98, 121, 116, 101, 115, 32]⟩ : ByteArray) ++ t305) ++ (⟨#[45]⟩ : ByteArray)) ++ t306) ++ (⟨#[47, 42]⟩ : ByteArray))) else (none)) else (if 6 + t305.size + 1 + t306.size + 1 ≤ 9223372036854775807 then ((r1Prt.f k a0_3).bind fun t307 => (if 6 + t305.size + 1 + t306.size + 1 + t307.size ≤ 9223372036854775807 then (some ((((((⟨#[98, 121, 116, 101, 115, 32]⟩ : ByteArray) ++ t305) ++ (⟨#[45]⟩ : ByteArray)) ++ t306) ++ (⟨#[47]⟩ : ByteArray)) ++ t307)) else (none))) else (none))) else (none))) else (none)) else (none))) else (if a0_3 < 0 then (if 7 + 2 ≤ 9223372036854775807 then (some ((⟨#[98, 121, 116, 101, 115, 32, 42]⟩ : ByteArray) ++ (⟨#[47, 42]⟩ : ByteArray))) else (none)) else (if 7 + 1 ≤ 9223372036854775807 then ((r1Prt.f k a0_3).bind fun t308 => (if 8 + t308.size ≤ 9223372036854775807 then (some (((⟨#[98, 121, 116, 101, 115, 32, 42]⟩ : ByteArray) ++ (⟨#[47]⟩ : ByteArray)) ++ t308)) else (none))) else (none)))) else (some (⟨#[]⟩ : ByteArray)))
theorem r4PC.mono : ∀ a0 a1 a2 a3 k, LeO (r4PC.f k a0 a1 a2 a3) (r4PC.f (k + 1) a0 a1 a2 a3) := by
  intro a0 a1 a2 a3 k
  unfold r4PC.f
  repeat' first
      | (with_reducible exact r1Prt.mono _ _)
      | (with_reducible exact r4RC.mono _ _ _ _ _)
      | (with_reducible exact LeO.refl _)
      | (with_reducible exact LeO.none _)
      | (with_reducible refine LeO.ite ?_ ?_)
      | (with_reducible refine LeO.bind ?_ (fun _ => ?_))
      | exact r1Prt.mono _ _
      | exact r4RC.mono _ _ _ _ _
      | exact LeO.none _
      | refine LeO.ite ?_ ?_
      | refine LeO.bind ?_ (fun _ => ?_)
def r4PC.T5 : Bool × List (List Nat × List Nat) := (true, [([], []), ([0], [0]), ([1], [1]), ([2], [2]), ([3], [3]), ([4], [4]), ([], []), ([6], [6]), ([7], [7]), ([8], [8]), ([9, 3], [9]), ([5, 10], [5, 10]), ([11, 10, 0, 1, 2, 3, 4, 5, 6, 7, 8, 9, 10, 11], [11])])
def r4PC.B5 : List Nat := [0, 1, 3, 7, 15, 31, 0, 64, 192, 448, 975, 2047, 4095]
theorem r4PC.tab5 : rtab .any (opsOf Try.f68 5) = r4PC.T5 := by kernel_rfl
theorem r4PC.bits5 : waitsOk r4PC.T5.2 r4PC.B5 = true := by kernel_rfl
set_option maxHeartbeats 8000000 in
set_option maxRecDepth 100000 in
theorem r4PC.calls (k : Nat) (a0_0 : Bool) (a0_1 : Int) (a0_2 : Int) (a0_3 : Int) (r : ByteArray) (w : World) (h : r4PC.f k a0_0 a0_1 a0_2 a0_3 = some r) :
    Calls Try.prog 68 #[.agg #[.bool a0_0, .int .i64 a0_1, .int .i64 a0_2, .int .i64 a0_3]] w fun e w' => e = .returned (.string r) ∧ Below w.heap.size w w' := by
  have hu91 := Try.underlying91
  have HB := AsZ.mk (Below.refl w.heap.size w)
  have H : ((r4RC.f k a0_0 a0_1 a0_2 a0_3).bind fun t304 => (if t304 = true then (if a0_0 = true then ((r1Prt.f k a0_1).bind fun t305 => (if 6 + t305.size ≤ 9223372036854775807 then (if 6 + t305.size + 1 ≤ 9223372036854775807 then ((r1Prt.f k (wrap64 (a0_2 - 1))).bind fun t306 => (if 6 + t305.size + 1 + t306.size ≤ 9223372036854775807 then (if a0_3 < 0 then (if 6 + t305.size + 1 + t306.size + 2 ≤ 9223372036854775807 then (some (((((⟨#[98, 121, 116, 101, 115, 32]⟩ : ByteArray) ++ t305) ++ (⟨#[45]⟩ : ByteArray)) ++ t306) ++ (⟨#[47, 42]⟩ : ByteArray))) else (none)) else (if 6 + t305.size + 1 + t306.size + 1 ≤ 9223372036854775807 then ((r1Prt.f k a0_3).bind fun t307 => (if 6 + t305.size + 1 + t306.size + 1 + t307.size ≤ 9223372036854775807 then (some ((((((⟨#[98, 121, 116, 101, 115, 32]⟩ : ByteArray) ++ t305) ++ (⟨#[45]⟩ : ByteArray)) ++ t306) ++ (⟨#[47]⟩ : ByteArray)) ++ t307)) else (none))) else (none))) else (none))) else (none)) else (none))) else (if a0_3 < 0 then (if 7 + 2 ≤ 9223372036854775807 then (some ((⟨#[98, 121, 116, 101, 115, 32, 42]⟩ : ByteArray) ++ (⟨#[47, 42]⟩ : ByteArray))) else (none)) else (if 7 + 1 ≤ 9223372036854775807 then ((r1Prt.f k a0_3).bind fun t308 => (if 8 + t308.size ≤ 9223372036854775807 then (some (((⟨#[98, 121, 116, 101, 115, 32, 42]⟩ : ByteArray) ++ (⟨#[47]⟩ : ByteArray)) ++ t308)) else (none))) else (none)))) else (some (⟨#[]⟩ : ByteArray)))) = some r := h
  clear h
  replace H := Option.bind_eq_some_iff.mp H
  obtain ⟨t304, A20, H⟩ := H
  replace H : (if t304 = true then (if a0_0 = true then ((r1Prt.f k a0_1).bind fun t305 => (if 6 + t305.size ≤ 9223372036854775807 then (if 6 + t305.size + 1 ≤ 9223372036854775807 then ((r1Prt.f k (wrap64 (a0_2 - 1))).bind fun t306 => (if 6 + t305.size + 1 + t306.size ≤ 9223372036854775807 then (if a0_3 < 0 then (if 6 + t305.size + 1 + t306.size + 2 ≤ 9223372036854775807 then (some (((((⟨#[98, 121, 116, 101, 115, 32]⟩ : ByteArray) ++ t305) ++ (⟨#[45]⟩ : ByteArray)) ++ t306) ++ (⟨#[47, 42]⟩ : ByteArray))) else (none)) else (if 6 + t305.size + 1 + t306.size + 1 ≤ 9223372036854775807 then ((r1Prt.f k a0_3).bind fun t307 => (if 6 + t305.size + 1 + t306.size + 1 + t307.size ≤ 9223372036854775807 then (some ((((((⟨#[98, 121, 116, 101, 115, 32]⟩ : ByteArray) ++ t305) ++ (⟨#[45]⟩ : ByteArray)) ++ t306) ++ (⟨#[47]⟩ : ByteArray)) ++ t307)) else (none))) else (none))) else (none))) else (none)) else (none))) else (if a0_3 < 0 then (if 7 + 2 ≤ 9223372036854775807 then (some ((⟨#[98, 121, 116, 101, 115, 32, 42]⟩ : ByteArray) ++ (⟨#[47, 42]⟩ : ByteArray))) else (none)) else (if 7 + 1 ≤ 9223372036854775807 then ((r1Prt.f k a0_3).bind fun t308 => (if 8 + t308.size ≤ 9223372036854775807 then (some (((⟨#[98, 121, 116, 101, 115, 32, 42]⟩ : ByteArray) ++ (⟨#[47]⟩ : ByteArray)) ++ t308)) else (none))) else (none)))) else (some (⟨#[]⟩ : ByteArray))) = some r := H
  have A2 := AsZ.mk A20
  clear A20
  by_cases c3 : t304 = true
  · subst c3
    have H1 : (if a0_0 = true then ((r1Prt.f k a0_1).bind fun t305 => (if 6 + t305.size ≤ 9223372036854775807 then (if 6 + t305.size + 1 ≤ 9223372036854775807 then ((r1Prt.f k (wrap64 (a0_2 - 1))).bind fun t306 => (if 6 + t305.size + 1 + t306.size ≤ 9223372036854775807 then (if a0_3 < 0 then (if 6 + t305.size + 1 + t306.size + 2 ≤ 9223372036854775807 then (some (((((⟨#[98, 121, 116, 101, 115, 32]⟩ : ByteArray) ++ t305) ++ (⟨#[45]⟩ : ByteArray)) ++ t306) ++ (⟨#[47, 42]⟩ : ByteArray))) else (none)) else (if 6 + t305.size + 1 + t306.size + 1 ≤ 9223372036854775807 then ((r1Prt.f k a0_3).bind fun t307 => (if 6 + t305.size + 1 + t306.size + 1 + t307.size ≤ 9223372036854775807 then (some ((((((⟨#[98, 121, 116, 101, 115, 32]⟩ : ByteArray) ++ t305) ++ (⟨#[45]⟩ : ByteArray)) ++ t306) ++ (⟨#[47]⟩ : ByteArray)) ++ t307)) else (none))) else (none))) else (none))) else (none)) else (none))) else (if a0_3 < 0 then (if 7 + 2 ≤ 9223372036854775807 then (some ((⟨#[98, 121, 116, 101, 115, 32, 42]⟩ : ByteArray) ++ (⟨#[47, 42]⟩ : ByteArray))) else (none)) else (if 7 + 1 ≤ 9223372036854775807 then ((r1Prt.f k a0_3).bind fun t308 => (if 8 + t308.size ≤ 9223372036854775807 then (some (((⟨#[98, 121, 116, 101, 115, 32, 42]⟩ : ByteArray) ++ (⟨#[47]⟩ : ByteArray)) ++ t308)) else (none))) else (none)))) = some r := by rw [if_pos rfl] at H; exact H
    clear H
    have H := H1
    clear H1
    by_cases c4 : a0_0 = true
    · subst c4
      have H1 : ((r1Prt.f k a0_1).bind fun t305 => (if 6 + t305.size ≤ 9223372036854775807 then (if 6 + t305.size + 1 ≤ 9223372036854775807 then ((r1Prt.f k (wrap64 (a0_2 - 1))).bind fun t306 => (if 6 + t305.size + 1 + t306.size ≤ 9223372036854775807 then (if a0_3 < 0 then (if 6 + t305.size + 1 + t306.size + 2 ≤ 9223372036854775807 then (some (((((⟨#[98, 121, 116, 101, 115, 32]⟩ : ByteArray) ++ t305) ++ (⟨#[45]⟩ : ByteArray)) ++ t306) ++ (⟨#[47, 42]⟩ : ByteArray))) else (none)) else (if 6 + t305.size + 1 + t306.size + 1 ≤ 9223372036854775807 then ((r1Prt.f k a0_3).bind fun t307 => (if 6 + t305.size + 1 + t306.size + 1 + t307.size ≤ 9223372036854775807 then (some ((((((⟨#[98, 121, 116, 101, 115, 32]⟩ : ByteArray) ++ t305) ++ (⟨#[45]⟩ : ByteArray)) ++ t306) ++ (⟨#[47]⟩ : ByteArray)) ++ t307)) else (none))) else (none))) else (none))) else (none)) else (none))) = some r := by rw [if_pos rfl] at H; exact H
      clear H
      have H := H1
      clear H1
      replace H := Option.bind_eq_some_iff.mp H
      obtain ⟨t305, A50, H⟩ := H
      replace H : (if 6 + t305.size ≤ 9223372036854775807 then (if 6 + t305.size + 1 ≤ 9223372036854775807 then ((r1Prt.f k (wrap64 (a0_2 - 1))).bind fun t306 => (if 6 + t305.size + 1 + t306.size ≤ 9223372036854775807 then (if a0_3 < 0 then (if 6 + t305.size + 1 + t306.size + 2 ≤ 9223372036854775807 then (some (((((⟨#[98, 121, 116, 101, 115, 32]⟩ : ByteArray) ++ t305) ++ (⟨#[45]⟩ : ByteArray)) ++ t306) ++ (⟨#[47, 42]⟩ : ByteArray))) else (none)) else (if 6 + t305.size + 1 + t306.size + 1 ≤ 9223372036854775807 then ((r1Prt.f k a0_3).bind fun t307 => (if 6 + t305.size + 1 + t306.size + 1 + t307.size ≤ 9223372036854775807 then (some ((((((⟨#[98, 121, 116, 101, 115, 32]⟩ : ByteArray) ++ t305) ++ (⟨#[45]⟩ : ByteArray)) ++ t306) ++ (⟨#[47]⟩ : ByteArray)) ++ t307)) else (none))) else (none))) else (none))) else (none)) else (none)) = some r := H
      have A5 := AsZ.mk A50
      clear A50
      by_cases c6 : 6 + t305.size ≤ 9223372036854775807
      · rw [if_pos c6] at H
        have c6b0 := eq_true c6
        have c6b1 : decide (6 + t305.size ≤ 9223372036854775807) = true := decide_eq_true c6
        try have c6b2 : (9223372036854775807 < 6 + t305.size) = False := eq_false (Nat.not_lt.2 c6)
        by_cases c7 : 6 + t305.size + 1 ≤ 9223372036854775807
        · rw [if_pos c7] at H
          have c7b0 := eq_true c7
          have c7b1 : decide (6 + t305.size + 1 ≤ 9223372036854775807) = true := decide_eq_true c7
          try have c7b2 : (9223372036854775807 < 6 + t305.size + 1) = False := eq_false (Nat.not_lt.2 c7)
          replace H := Option.bind_eq_some_iff.mp H
          obtain ⟨t306, A80, H⟩ := H
          replace H : (if 6 + t305.size + 1 + t306.size ≤ 9223372036854775807 then (if a0_3 < 0 then (if 6 + t305.size + 1 + t306.size + 2 ≤ 9223372036854775807 then (some (((((⟨#[98, 121, 116, 101, 115, 32]⟩ : ByteArray) ++ t305) ++ (⟨#[45]⟩ : ByteArray)) ++ t306) ++ (⟨#[47, 42]⟩ : ByteArray))) else (none)) else (if 6 + t305.size + 1 + t306.size + 1 ≤ 9223372036854775807 then ((r1Prt.f k a0_3).bind fun t307 => (if 6 + t305.size + 1 + t306.size + 1 + t307.size ≤ 9223372036854775807 then (some ((((((⟨#[98, 121, 116, 101, 115, 32]⟩ : ByteArray) ++ t305) ++ (⟨#[45]⟩ : ByteArray)) ++ t306) ++ (⟨#[47]⟩ : ByteArray)) ++ t307)) else (none))) else (none))) else (none)) = some r := H
          have A8 := AsZ.mk A80
          clear A80
          by_cases c9 : 6 + t305.size + 1 + t306.size ≤ 9223372036854775807
          · rw [if_pos c9] at H
            have c9b0 := eq_true c9
            have c9b1 : decide (6 + t305.size + 1 + t306.size ≤ 9223372036854775807) = true := decide_eq_true c9
            try have c9b2 : (9223372036854775807 < 6 + t305.size + 1 + t306.size) = False := eq_false (Nat.not_lt.2 c9)
            by_cases c10 : a0_3 < 0
            · rw [if_pos c10] at H
              have c10b0 : decide (a0_3 < 0) = true := decide_eq_true c10
              clear c10
              by_cases c11 : 6 + t305.size + 1 + t306.size + 2 ≤ 9223372036854775807
              · rw [if_pos c11] at H
                have c11b0 := eq_true c11
                have c11b1 : decide (6 + t305.size + 1 + t306.size + 2 ≤ 9223372036854775807) = true := decide_eq_true c11
                try have c11b2 : (9223372036854775807 < 6 + t305.size + 1 + t306.size + 2) = False := eq_false (Nat.not_lt.2 c11)
                obtain rfl := Option.some.inj H
                go_enter Try.func68, Try.ntmps68
                try go_wp2_with (first | ((with_reducible refine gDs (N := 1) rfl ?_); refine bEv ?hg (N := 1) ?hd (cs := #[.bool true, .int .i64 a0_1, .int .i64 a0_2, .int .i64 a0_3]) (t := 91) ?hr ?_; (case hd => rfl); (case hg => rfl); (case hr => first | (go_simp; done) | (go_simp; rfl)); intro gb303 hg w12 hbox hb; have n0_ := AsZ.mk (tBl (by repeat (first | (with_reducible first | exact HB.out | apply aBl | apply pBd | apply dBl) | exact HB.out)) hb); have n1_ := AsZ.mk (hbox); have n2_ := AsZ.mk ((by rw [hg]; exact (zBl (by repeat (first | (with_reducible first | exact HB.out | apply aBl | apply pBd | apply dBl) | exact HB.out))) : w.heap.size ≤ gb303)); have n3_ := AsZ.mk ((by rw [hg]; exact (zBl (by repeat (first | (with_reducible first | exact HB.out | apply aBl | apply pBd | apply dBl) | exact HB.out))) : w.heap.size ≤ gb303)); clear HB; have HB := n0_; have BK303 := n1_; have GW303 := n2_; have GE303 := n3_; clear n0_ n1_ n2_ n3_; clear hb hbox hg; have hcz13_0 : w12.cell? ⟨gb303, 0, none⟩ = some (.bool true) := (bCe BK303.out 0).trans rfl; have hcz13_1 : w12.cell? ⟨gb303, 1, none⟩ = some (.int .i64 a0_1) := (bCe BK303.out 1).trans rfl; have hcz13_2 : w12.cell? ⟨gb303, 2, none⟩ = some (.int .i64 a0_2) := (bCe BK303.out 2).trans rfl; have hcz13_3 : w12.cell? ⟨gb303, 3, none⟩ = some (.int .i64 a0_3) := (bCe BK303.out 3).trans rfl; have hfz13_0 := bFz BK303.out 0; have hfz13_1 := bFz BK303.out 1; have hfz13_2 := bFz BK303.out 2; have hfz13_3 := bFz BK303.out 3) | ((with_reducible refine gCa (f := 74) rfl ?_); refine gLl (some 5) rfl rfl Try.func74 (by kernel_rfl) rfl #[.agg #[.bool true, .int .i64 a0_1, .int .i64 a0_2, .int .i64 a0_3]] rfl (by (try simp only [List.map_toArray, List.map_cons, List.map_nil]); first | done | rfl | (simp only [List.length_drop, List.length_take]; rfl)) ?_; (with_reducible refine (r4RC.calls k true a0_1 a0_2 a0_3 true _ A2.out).mono ?_); rintro e w14 ⟨rfl, hb⟩; refine ⟨_, rfl, ?_⟩; have n0_ := AsZ.mk (bBl (g := gb303) (o := .cells #[.bool true, .int .i64 a0_1, .int .i64 a0_2, .int .i64 a0_3] 91 (0, 0)) (by (with_reducible repeat (first | refine bDn ?_ _ | refine bDr ?_ | refine bAl ?_ _)); exact BK303.out) hb); have n1_ := AsZ.mk (tBl (by repeat (first | (with_reducible first | exact HB.out | apply aBl | apply pBd | apply dBl | refine sBl ?_ GE303.out) | exact HB.out)) hb); clear BK303; clear HB; have BK303 := n0_; have HB := n1_; clear n0_ n1_; (try clear hb); (try clear hb2); (try clear hk); (try clear hi); have hcz15_0 : w14.cell? ⟨gb303, 0, none⟩ = some (.bool true) := (bCe BK303.out 0).trans rfl; have hcz15_1 : w14.cell? ⟨gb303, 1, none⟩ = some (.int .i64 a0_1) := (bCe BK303.out 1).trans rfl; have hcz15_2 : w14.cell? ⟨gb303, 2, none⟩ = some (.int .i64 a0_2) := (bCe BK303.out 2).trans rfl; have hcz15_3 : w14.cell? ⟨gb303, 3, none⟩ = some (.int .i64 a0_3) := (bCe BK303.out 3).trans rfl; have hfz15_0 := bFz BK303.out 0; have hfz15_1 := bFz BK303.out 1; have hfz15_2 := bFz BK303.out 2; have hfz15_3 := bFz BK303.out 3))
                have n0_ := AsZ.mk (bDr BK303.out)
                have n1_ := AsZ.mk (dBl HB.out)
                clear BK303
                clear HB
                have BK303 := n0_
                have HB := n1_
                clear n0_ n1_
                refine start_ (n := 13) (S := fun w' => w'.cell? ⟨gb303, 0, none⟩ = some (.bool true) ∧ w'.cell? ⟨gb303, 1, none⟩ = some (.int .i64 a0_1) ∧ w'.cell? ⟨gb303, 2, none⟩ = some (.int .i64 a0_2) ∧ w'.cell? ⟨gb303, 3, none⟩ = some (.int .i64 a0_3)) (ds := []) #[false, false, false, false, false, false, false, false, false, false, false, false, false] (by kernel_rfl) rfl rfl ⟨(bCe BK303.out 0).trans rfl, (bCe BK303.out 1).trans rfl, (bCe BK303.out 2).trans rfl, (bCe BK303.out 3).trans rfl⟩ (fun hHeld => ?_); refine with_tabW r4PC.tab5 r4PC.bits5 (fun HT_ HW_ => ?_)
                generalize w14.drew = w16 at BK303 HB hHeld ⊢
                refine pure_ (i := 0) (N := some 9) (v := ?_) (a' := ?_) #[true, false, false, false, false, false, false, false, false, false, false, false, false] rfl rfl (any_of HT_.out (by kernel_rfl)) (fun _ _ _ h => h) (Or.inl ⟨by rfl, ?_⟩) ?_ ?_
                rotate_left
                · intro w'
                  go_simp
                  with_reducible rfl
                rotate_left
                · simp only [Act.put, List.setIfInBounds_toArray, List.set_cons_zero, List.set_cons_succ, i64_w, i32_w]
                  rfl
                refine pure_ (i := 1) (N := some 10) (v := ?_) (a' := ?_) #[true, true, false, false, false, false, false, false, false, false, false, false, false] rfl rfl (any_of HT_.out (by kernel_rfl)) (fun _ _ _ h => h) (Or.inl ⟨by rfl, ?_⟩) ?_ ?_
                rotate_left
                · intro w'
                  go_simp
                  with_reducible rfl
                rotate_left
                · simp only [Act.put, List.setIfInBounds_toArray, List.set_cons_zero, List.set_cons_succ, i64_w, i32_w]
                  rfl
                refine pure_ (i := 6) (N := some 15) (v := ?_) (a' := ?_) #[true, true, false, false, false, false, true, false, false, false, false, false, false] rfl rfl (any_of HT_.out (by kernel_rfl)) (fun _ _ _ h => h) (Or.inl ⟨by rfl, ?_⟩) ?_ ?_
                rotate_left
                · intro w'
                  go_simp
                  with_reducible rfl
                rotate_left
                · simp only [Act.put, List.setIfInBounds_toArray, List.set_cons_zero, List.set_cons_succ, i64_w, i32_w]
                  rfl
                refine pure_ (i := 7) (N := some 16) (v := ?_) (a' := ?_) #[true, true, false, false, false, false, true, true, false, false, false, false, false] rfl rfl (any_of HT_.out (by kernel_rfl)) (fun _ _ _ h => h) (Or.inl ⟨by rfl, ?_⟩) ?_ ?_
                rotate_left
                · intro w'
                  go_simp
                  with_reducible rfl
                rotate_left
                · simp only [Act.put, List.setIfInBounds_toArray, List.set_cons_zero, List.set_cons_succ, i64_w, i32_w]
                  rfl
                refine take_ (i := 2) (N := some 11) (v := ?_) (a' := ?_) #[true, true, true, false, false, false, true, true, false, false, false, false, false] rfl rfl (take_ofW HT_.out HW_.out (by kernel_rfl)) (fun _ _ _ h => h) (Or.inl ⟨by rfl, ?_⟩) hHeld ?_ ?_
                rotate_left
                · rintro w' ⟨s0, s1, s2, s3⟩
                  go_simp
                  with_reducible rfl
                rotate_left
                · simp only [Act.put, List.setIfInBounds_toArray, List.set_cons_zero, List.set_cons_succ, i64_w, i32_w]
                  rfl
                refine take_ (i := 8) (N := some 17) (v := ?_) (a' := ?_) #[true, true, true, false, false, false, true, true, true, false, false, false, false] rfl rfl (take_ofW HT_.out HW_.out (by kernel_rfl)) (fun _ _ _ h => h) (Or.inl ⟨by rfl, ?_⟩) hHeld ?_ ?_
                rotate_left
                · rintro w' ⟨s0, s1, s2, s3⟩
                  go_simp
                  with_reducible rfl
                rotate_left
                · simp only [Act.put, List.setIfInBounds_toArray, List.set_cons_zero, List.set_cons_succ, i64_w, i32_w]
                  rfl
                refine pure_ (i := 9) (N := some 18) (v := ?_) (a' := ?_) #[true, true, true, false, false, false, true, true, true, true, false, false, false] rfl rfl (any_of HT_.out (by kernel_rfl)) (fun _ _ _ h => h) (Or.inl ⟨by rfl, ?_⟩) ?_ ?_
                rotate_left
                · intro w'
                  go_simp
                  with_reducible rfl
                rotate_left
                · simp only [Act.put, List.setIfInBounds_toArray, List.set_cons_zero, List.set_cons_succ, i64_w, i32_w]
                  rfl
                refine one_ (i := 3) (N := some 12) #[true, true, true, true, false, false, true, true, true, true, false, false, false] rfl rfl (one_of HT_.out (by kernel_rfl)) (by decide) (fun K hK => ?_)
                refine goes_ Try.func48 (by kernel_rfl) rfl #[.int .i64 a0_1] (by rfl) rfl rfl (by (try simp only [List.map_toArray, List.map_cons, List.map_nil]); first | done | rfl | (simp only [List.length_drop, List.length_take]; rfl)) ?_
                with_reducible refine (r1Prt.calls k a0_1 t305 _ A5.out).mono ?_
                rintro e w17 ⟨rfl, hb⟩
                refine ⟨_, rfl, ?_⟩
                have n0_ := AsZ.mk (bBl (g := gb303) (o := .cells #[.bool true, .int .i64 a0_1, .int .i64 a0_2, .int .i64 a0_3] 91 (0, 0)) (by (with_reducible repeat (first | refine bDn ?_ _ | refine bDr ?_ | refine bAl ?_ _)); exact BK303.out) hb)
                have n1_ := AsZ.mk (tBl (by repeat (first | (with_reducible first | exact HB.out | apply aBl | apply pBd | apply dBl | refine sBl ?_ GE303.out) | exact HB.out)) hb)
                clear BK303
                clear HB
                have BK303 := n0_
                have HB := n1_
                clear n0_ n1_
                (try clear hb)
                (try clear hb2)
                (try clear hk)
                (try clear hi)
                refine hK.out _ _ ⟨(bCe BK303.out 0).trans rfl, (bCe BK303.out 1).trans rfl, (bCe BK303.out 2).trans rfl, (bCe BK303.out 3).trans rfl⟩ (fun hHeld => ?_)
                clear hK K
                refine norm_ (a' := ?_) ?_ ?_
                rotate_left
                · show Act.put _ (some 12) _ = _
                  simp only [Act.put, List.setIfInBounds_toArray, List.set_cons_zero, List.set_cons_succ, i64_w, i32_w]
                  rfl
                refine pure_ (i := 4) (N := some 13) (v := ?_) (a' := ?_) #[true, true, true, true, true, false, true, true, true, true, false, false, false] rfl rfl (any_of HT_.out (by kernel_rfl)) (fun _ _ _ h => h) (Or.inl ⟨by rfl, ?_⟩) ?_ ?_
                rotate_left
                · intro w'
                  go_simp
                  with_reducible rfl
                rotate_left
                · simp only [Act.put, List.setIfInBounds_toArray, List.set_cons_zero, List.set_cons_succ, i64_w, i32_w]
                  rfl
                refine pure_ (i := 5) (N := some 14) (v := ?_) (a' := ?_) #[true, true, true, true, true, true, true, true, true, true, false, false, false] rfl rfl (any_of HT_.out (by kernel_rfl)) (fun _ _ _ h => h) (Or.inl ⟨by rfl, ?_⟩) ?_ ?_
                rotate_left
                · intro w'
                  go_simp
                  with_reducible rfl
                rotate_left
                · simp only [Act.put, List.setIfInBounds_toArray, List.set_cons_zero, List.set_cons_succ, i64_w, i32_w]
                  rfl
                refine one_ (i := 10) (N := some 19) #[true, true, true, true, true, true, true, true, true, true, true, false, false] rfl rfl (one_of HT_.out (by kernel_rfl)) (by decide) (fun K hK => ?_)
                refine goes_ Try.func48 (by kernel_rfl) rfl #[.int .i64 (wrap64 (a0_2 - 1))] (by rfl) rfl rfl (by (try simp only [List.map_toArray, List.map_cons, List.map_nil]); first | done | rfl | (simp only [List.length_drop, List.length_take]; rfl)) ?_
                with_reducible refine (r1Prt.calls k (wrap64 (a0_2 - 1)) t306 _ A8.out).mono ?_
                rintro e w18 ⟨rfl, hb⟩
                refine ⟨_, rfl, ?_⟩
                have n0_ := AsZ.mk (bBl (g := gb303) (o := .cells #[.bool true, .int .i64 a0_1, .int .i64 a0_2, .int .i64 a0_3] 91 (0, 0)) (by (with_reducible repeat (first | refine bDn ?_ _ | refine bDr ?_ | refine bAl ?_ _)); exact BK303.out) hb)
                have n1_ := AsZ.mk (tBl (by repeat (first | (with_reducible first | exact HB.out | apply aBl | apply pBd | apply dBl | refine sBl ?_ GE303.out) | exact HB.out)) hb)
                clear BK303
                clear HB
                have BK303 := n0_
                have HB := n1_
                clear n0_ n1_
                (try clear hb)
                (try clear hb2)
                (try clear hk)
                (try clear hi)
                refine hK.out _ _ ⟨(bCe BK303.out 0).trans rfl, (bCe BK303.out 1).trans rfl, (bCe BK303.out 2).trans rfl, (bCe BK303.out 3).trans rfl⟩ (fun hHeld => ?_)
                clear hK K
                refine norm_ (a' := ?_) ?_ ?_
                rotate_left
                · show Act.put _ (some 19) _ = _
                  simp only [Act.put, List.setIfInBounds_toArray, List.set_cons_zero, List.set_cons_succ, i64_w, i32_w]
                  rfl
                refine pure_ (i := 11) (N := some 20) (v := ?_) (a' := ?_) #[true, true, true, true, true, true, true, true, true, true, true, true, false] rfl rfl (any_of HT_.out (by kernel_rfl)) (fun _ _ _ h => h) (Or.inl ⟨by rfl, ?_⟩) ?_ ?_
                rotate_left
                · intro w'
                  go_simp
                  with_reducible rfl
                rotate_left
                · simp only [Act.put, List.setIfInBounds_toArray, List.set_cons_zero, List.set_cons_succ, i64_w, i32_w]
                  rfl
                refine pure_ (i := 12) (N := some 3) (v := ?_) (a' := ?_) #[true, true, true, true, true, true, true, true, true, true, true, true, true] rfl rfl (any_of HT_.out (by kernel_rfl)) (fun _ _ _ h => h) (Or.inl ⟨by rfl, ?_⟩) ?_ ?_
                rotate_left
                · intro w'
                  go_simp
                  with_reducible rfl
                rotate_left
                · simp only [Act.put, List.setIfInBounds_toArray, List.set_cons_zero, List.set_cons_succ, i64_w, i32_w]
                  rfl
                refine done_ (done_of HT_.out (by kernel_rfl)) ?_
                have hcz19_0 : w18.cell? ⟨gb303, 0, none⟩ = some (.bool true) := (bCe BK303.out 0).trans rfl
                have hcz19_1 : w18.cell? ⟨gb303, 1, none⟩ = some (.int .i64 a0_1) := (bCe BK303.out 1).trans rfl
                have hcz19_2 : w18.cell? ⟨gb303, 2, none⟩ = some (.int .i64 a0_2) := (bCe BK303.out 2).trans rfl
                have hcz19_3 : w18.cell? ⟨gb303, 3, none⟩ = some (.int .i64 a0_3) := (bCe BK303.out 3).trans rfl
                have hfz19_0 := bFz BK303.out 0
                have hfz19_1 := bFz BK303.out 1
                have hfz19_2 := bFz BK303.out 2
                have hfz19_3 := bFz BK303.out 3
                try go_wp2
                go_ret
                exact ⟨by first | rfl | exact nEm _ | exact eEm _ | (simp [eWn, eWs] <;> rfl) | (simp [*, eWn, eWs] <;> rfl), by repeat (first | (with_reducible first | exact HB.out | apply aBl | apply pBd | apply dBl | refine sBl ?_ GE303.out) | exact HB.out)⟩
              · rw [if_neg c11] at H
                exact absurd H (by simp)
            · rw [if_neg c10] at H
              have c10b0 : decide (a0_3 < 0) = false := decide_eq_false c10
              clear c10
              by_cases c20 : 6 + t305.size + 1 + t306.size + 1 ≤ 9223372036854775807
              · rw [if_pos c20] at H
                have c20b0 := eq_true c20
                have c20b1 : decide (6 + t305.size + 1 + t306.size + 1 ≤ 9223372036854775807) = true := decide_eq_true c20
                try have c20b2 : (9223372036854775807 < 6 + t305.size + 1 + t306.size + 1) = False := eq_false (Nat.not_lt.2 c20)
                replace H := Option.bind_eq_some_iff.mp H
                obtain ⟨t307, A210, H⟩ := H
                replace H : (if 6 + t305.size + 1 + t306.size + 1 + t307.size ≤ 9223372036854775807 then (some ((((((⟨#[98, 121, 116, 101, 115, 32]⟩ : ByteArray) ++ t305) ++ (⟨#[45]⟩ : ByteArray)) ++ t306) ++ (⟨#[47]⟩ : ByteArray)) ++ t307)) else (none)) = some r := H
                have A21 := AsZ.mk A210
                clear A210
                by_cases c22 : 6 + t305.size + 1 + t306.size + 1 + t307.size ≤ 9223372036854775807
                · rw [if_pos c22] at H
                  have c22b0 := eq_true c22
                  have c22b1 : decide (6 + t305.size + 1 + t306.size + 1 + t307.size ≤ 9223372036854775807) = true := decide_eq_true c22
                  try have c22b2 : (9223372036854775807 < 6 + t305.size + 1 + t306.size + 1 + t307.size) = False := eq_false (Nat.not_lt.2 c22)
                  obtain rfl := Option.some.inj H
                  go_enter Try.func68, Try.ntmps68
                  try go_wp2_with (first | ((with_reducible refine gDs (N := 1) rfl ?_); refine bEv ?hg (N := 1) ?hd (cs := #[.bool true, .int .i64 a0_1, .int .i64 a0_2, .int .i64 a0_3]) (t := 91) ?hr ?_; (case hd => rfl); (case hg => rfl); (case hr => first | (go_simp; done) | (go_simp; rfl)); intro gb303 hg w23 hbox hb; have n0_ := AsZ.mk (tBl (by repeat (first | (with_reducible first | exact HB.out | apply aBl | apply pBd | apply dBl) | exact HB.out)) hb); have n1_ := AsZ.mk (hbox); have n2_ := AsZ.mk ((by rw [hg]; exact (zBl (by repeat (first | (with_reducible first | exact HB.out | apply aBl | apply pBd | apply dBl) | exact HB.out))) : w.heap.size ≤ gb303)); have n3_ := AsZ.mk ((by rw [hg]; exact (zBl (by repeat (first | (with_reducible first | exact HB.out | apply aBl | apply pBd | apply dBl) | exact HB.out))) : w.heap.size ≤ gb303)); clear HB; have HB := n0_; have BK303 := n1_; have GW303 := n2_; have GE303 := n3_; clear n0_ n1_ n2_ n3_; clear hb hbox hg; have hcz24_0 : w23.cell? ⟨gb303, 0, none⟩ = some (.bool true) := (bCe BK303.out 0).trans rfl; have hcz24_1 : w23.cell? ⟨gb303, 1, none⟩ = some (.int .i64 a0_1) := (bCe BK303.out 1).trans rfl; have hcz24_2 : w23.cell? ⟨gb303, 2, none⟩ = some (.int .i64 a0_2) := (bCe BK303.out 2).trans rfl; have hcz24_3 : w23.cell? ⟨gb303, 3, none⟩ = some (.int .i64 a0_3) := (bCe BK303.out 3).trans rfl; have hfz24_0 := bFz BK303.out 0; have hfz24_1 := bFz BK303.out 1; have hfz24_2 := bFz BK303.out 2; have hfz24_3 := bFz BK303.out 3) | ((with_reducible refine gCa (f := 74) rfl ?_); refine gLl (some 5) rfl rfl Try.func74 (by kernel_rfl) rfl #[.agg #[.bool true, .int .i64 a0_1, .int .i64 a0_2, .int .i64 a0_3]] rfl (by (try simp only [List.map_toArray, List.map_cons, List.map_nil]); first | done | rfl | (simp only [List.length_drop, List.length_take]; rfl)) ?_; (with_reducible refine (r4RC.calls k true a0_1 a0_2 a0_3 true _ A2.out).mono ?_); rintro e w25 ⟨rfl, hb⟩; refine ⟨_, rfl, ?_⟩; have n0_ := AsZ.mk (bBl (g := gb303) (o := .cells #[.bool true, .int .i64 a0_1, .int .i64 a0_2, .int .i64 a0_3] 91 (0, 0)) (by (with_reducible repeat (first | refine bDn ?_ _ | refine bDr ?_ | refine bAl ?_ _)); exact BK303.out) hb); have n1_ := AsZ.mk (tBl (by repeat (first | (with_reducible first | exact HB.out | apply aBl | apply pBd | apply dBl | refine sBl ?_ GE303.out) | exact HB.out)) hb); clear BK303; clear HB; have BK303 := n0_; have HB := n1_; clear n0_ n1_; (try clear hb); (try clear hb2); (try clear hk); (try clear hi); have hcz26_0 : w25.cell? ⟨gb303, 0, none⟩ = some (.bool true) := (bCe BK303.out 0).trans rfl; have hcz26_1 : w25.cell? ⟨gb303, 1, none⟩ = some (.int .i64 a0_1) := (bCe BK303.out 1).trans rfl; have hcz26_2 : w25.cell? ⟨gb303, 2, none⟩ = some (.int .i64 a0_2) := (bCe BK303.out 2).trans rfl; have hcz26_3 : w25.cell? ⟨gb303, 3, none⟩ = some (.int .i64 a0_3) := (bCe BK303.out 3).trans rfl; have hfz26_0 := bFz BK303.out 0; have hfz26_1 := bFz BK303.out 1; have hfz26_2 := bFz BK303.out 2; have hfz26_3 := bFz BK303.out 3))
                  have n0_ := AsZ.mk (bDr BK303.out)
                  have n1_ := AsZ.mk (dBl HB.out)
                  clear BK303
                  clear HB
                  have BK303 := n0_
                  have HB := n1_
                  clear n0_ n1_
                  refine start_ (n := 13) (S := fun w' => w'.cell? ⟨gb303, 0, none⟩ = some (.bool true) ∧ w'.cell? ⟨gb303, 1, none⟩ = some (.int .i64 a0_1) ∧ w'.cell? ⟨gb303, 2, none⟩ = some (.int .i64 a0_2) ∧ w'.cell? ⟨gb303, 3, none⟩ = some (.int .i64 a0_3)) (ds := []) #[false, false, false, false, false, false, false, false, false, false, false, false, false] (by kernel_rfl) rfl rfl ⟨(bCe BK303.out 0).trans rfl, (bCe BK303.out 1).trans rfl, (bCe BK303.out 2).trans rfl, (bCe BK303.out 3).trans rfl⟩ (fun hHeld => ?_); refine with_tabW r4PC.tab5 r4PC.bits5 (fun HT_ HW_ => ?_)
                  generalize w25.drew = w27 at BK303 HB hHeld ⊢
                  refine pure_ (i := 0) (N := some 9) (v := ?_) (a' := ?_) #[true, false, false, false, false, false, false, false, false, false, false, false, false] rfl rfl (any_of HT_.out (by kernel_rfl)) (fun _ _ _ h => h) (Or.inl ⟨by rfl, ?_⟩) ?_ ?_
                  rotate_left
                  · intro w'
                    go_simp
                    with_reducible rfl
                  rotate_left
                  · simp only [Act.put, List.setIfInBounds_toArray, List.set_cons_zero, List.set_cons_succ, i64_w, i32_w]
                    rfl
                  refine pure_ (i := 1) (N := some 10) (v := ?_) (a' := ?_) #[true, true, false, false, false, false, false, false, false, false, false, false, false] rfl rfl (any_of HT_.out (by kernel_rfl)) (fun _ _ _ h => h) (Or.inl ⟨by rfl, ?_⟩) ?_ ?_
                  rotate_left
                  · intro w'
                    go_simp
                    with_reducible rfl
                  rotate_left
                  · simp only [Act.put, List.setIfInBounds_toArray, List.set_cons_zero, List.set_cons_succ, i64_w, i32_w]
                    rfl
                  refine pure_ (i := 6) (N := some 15) (v := ?_) (a' := ?_) #[true, true, false, false, false, false, true, false, false, false, false, false, false] rfl rfl (any_of HT_.out (by kernel_rfl)) (fun _ _ _ h => h) (Or.inl ⟨by rfl, ?_⟩) ?_ ?_
                  rotate_left
                  · intro w'
                    go_simp
                    with_reducible rfl
                  rotate_left
                  · simp only [Act.put, List.setIfInBounds_toArray, List.set_cons_zero, List.set_cons_succ, i64_w, i32_w]
                    rfl
                  refine pure_ (i := 7) (N := some 16) (v := ?_) (a' := ?_) #[true, true, false, false, false, false, true, true, false, false, false, false, false] rfl rfl (any_of HT_.out (by kernel_rfl)) (fun _ _ _ h => h) (Or.inl ⟨by rfl, ?_⟩) ?_ ?_
                  rotate_left
                  · intro w'
                    go_simp
                    with_reducible rfl
                  rotate_left
                  · simp only [Act.put, List.setIfInBounds_toArray, List.set_cons_zero, List.set_cons_succ, i64_w, i32_w]
                    rfl
                  refine take_ (i := 2) (N := some 11) (v := ?_) (a' := ?_) #[true, true, true, false, false, false, true, true, false, false, false, false, false] rfl rfl (take_ofW HT_.out HW_.out (by kernel_rfl)) (fun _ _ _ h => h) (Or.inl ⟨by rfl, ?_⟩) hHeld ?_ ?_
                  rotate_left
                  · rintro w' ⟨s0, s1, s2, s3⟩
                    go_simp
                    with_reducible rfl
                  rotate_left
                  · simp only [Act.put, List.setIfInBounds_toArray, List.set_cons_zero, List.set_cons_succ, i64_w, i32_w]
                    rfl
                  refine take_ (i := 8) (N := some 17) (v := ?_) (a' := ?_) #[true, true, true, false, false, false, true, true, true, false, false, false, false] rfl rfl (take_ofW HT_.out HW_.out (by kernel_rfl)) (fun _ _ _ h => h) (Or.inl ⟨by rfl, ?_⟩) hHeld ?_ ?_
                  rotate_left
                  · rintro w' ⟨s0, s1, s2, s3⟩
                    go_simp
                    with_reducible rfl
                  rotate_left
                  · simp only [Act.put, List.setIfInBounds_toArray, List.set_cons_zero, List.set_cons_succ, i64_w, i32_w]
                    rfl
                  refine pure_ (i := 9) (N := some 18) (v := ?_) (a' := ?_) #[true, true, true, false, false, false, true, true, true, true, false, false, false] rfl rfl (any_of HT_.out (by kernel_rfl)) (fun _ _ _ h => h) (Or.inl ⟨by rfl, ?_⟩) ?_ ?_
                  rotate_left
                  · intro w'
                    go_simp
                    with_reducible rfl
                  rotate_left
                  · simp only [Act.put, List.setIfInBounds_toArray, List.set_cons_zero, List.set_cons_succ, i64_w, i32_w]
                    rfl
                  refine one_ (i := 3) (N := some 12) #[true, true, true, true, false, false, true, true, true, true, false, false, false] rfl rfl (one_of HT_.out (by kernel_rfl)) (by decide) (fun K hK => ?_)
                  refine goes_ Try.func48 (by kernel_rfl) rfl #[.int .i64 a0_1] (by rfl) rfl rfl (by (try simp only [List.map_toArray, List.map_cons, List.map_nil]); first | done | rfl | (simp only [List.length_drop, List.length_take]; rfl)) ?_
                  with_reducible refine (r1Prt.calls k a0_1 t305 _ A5.out).mono ?_
                  rintro e w28 ⟨rfl, hb⟩
                  refine ⟨_, rfl, ?_⟩
                  have n0_ := AsZ.mk (bBl (g := gb303) (o := .cells #[.bool true, .int .i64 a0_1, .int .i64 a0_2, .int .i64 a0_3] 91 (0, 0)) (by (with_reducible repeat (first | refine bDn ?_ _ | refine bDr ?_ | refine bAl ?_ _)); exact BK303.out) hb)
                  have n1_ := AsZ.mk (tBl (by repeat (first | (with_reducible first | exact HB.out | apply aBl | apply pBd | apply dBl | refine sBl ?_ GE303.out) | exact HB.out)) hb)
                  clear BK303
                  clear HB
                  have BK303 := n0_
                  have HB := n1_
                  clear n0_ n1_
                  (try clear hb)
                  (try clear hb2)
                  (try clear hk)
                  (try clear hi)
                  refine hK.out _ _ ⟨(bCe BK303.out 0).trans rfl, (bCe BK303.out 1).trans rfl, (bCe BK303.out 2).trans rfl, (bCe BK303.out 3).trans rfl⟩ (fun hHeld => ?_)
                  clear hK K
                  refine norm_ (a' := ?_) ?_ ?_
                  rotate_left
                  · show Act.put _ (some 12) _ = _
                    simp only [Act.put, List.setIfInBounds_toArray, List.set_cons_zero, List.set_cons_succ, i64_w, i32_w]
                    rfl
                  refine pure_ (i := 4) (N := some 13) (v := ?_) (a' := ?_) #[true, true, true, true, true, false, true, true, true, true, false, false, false] rfl rfl (any_of HT_.out (by kernel_rfl)) (fun _ _ _ h => h) (Or.inl ⟨by rfl, ?_⟩) ?_ ?_
                  rotate_left
                  · intro w'
                    go_simp
                    with_reducible rfl
                  rotate_left
                  · simp only [Act.put, List.setIfInBounds_toArray, List.set_cons_zero, List.set_cons_succ, i64_w, i32_w]
                    rfl
                  refine pure_ (i := 5) (N := some 14) (v := ?_) (a' := ?_) #[true, true, true, true, true, true, true, true, true, true, false, false, false] rfl rfl (any_of HT_.out (by kernel_rfl)) (fun _ _ _ h => h) (Or.inl ⟨by rfl, ?_⟩) ?_ ?_
                  rotate_left
                  · intro w'
                    go_simp
                    with_reducible rfl
                  rotate_left
                  · simp only [Act.put, List.setIfInBounds_toArray, List.set_cons_zero, List.set_cons_succ, i64_w, i32_w]
                    rfl
                  refine one_ (i := 10) (N := some 19) #[true, true, true, true, true, true, true, true, true, true, true, false, false] rfl rfl (one_of HT_.out (by kernel_rfl)) (by decide) (fun K hK => ?_)
                  refine goes_ Try.func48 (by kernel_rfl) rfl #[.int .i64 (wrap64 (a0_2 - 1))] (by rfl) rfl rfl (by (try simp only [List.map_toArray, List.map_cons, List.map_nil]); first | done | rfl | (simp only [List.length_drop, List.length_take]; rfl)) ?_
                  with_reducible refine (r1Prt.calls k (wrap64 (a0_2 - 1)) t306 _ A8.out).mono ?_
                  rintro e w29 ⟨rfl, hb⟩
                  refine ⟨_, rfl, ?_⟩
                  have n0_ := AsZ.mk (bBl (g := gb303) (o := .cells #[.bool true, .int .i64 a0_1, .int .i64 a0_2, .int .i64 a0_3] 91 (0, 0)) (by (with_reducible repeat (first | refine bDn ?_ _ | refine bDr ?_ | refine bAl ?_ _)); exact BK303.out) hb)
                  have n1_ := AsZ.mk (tBl (by repeat (first | (with_reducible first | exact HB.out | apply aBl | apply pBd | apply dBl | refine sBl ?_ GE303.out) | exact HB.out)) hb)
                  clear BK303
                  clear HB
                  have BK303 := n0_
                  have HB := n1_
                  clear n0_ n1_
                  (try clear hb)
                  (try clear hb2)
                  (try clear hk)
                  (try clear hi)
                  refine hK.out _ _ ⟨(bCe BK303.out 0).trans rfl, (bCe BK303.out 1).trans rfl, (bCe BK303.out 2).trans rfl, (bCe BK303.out 3).trans rfl⟩ (fun hHeld => ?_)
                  clear hK K
                  refine norm_ (a' := ?_) ?_ ?_
                  rotate_left
                  · show Act.put _ (some 19) _ = _
                    simp only [Act.put, List.setIfInBounds_toArray, List.set_cons_zero, List.set_cons_succ, i64_w, i32_w]
                    rfl
                  refine pure_ (i := 11) (N := some 20) (v := ?_) (a' := ?_) #[true, true, true, true, true, true, true, true, true, true, true, true, false] rfl rfl (any_of HT_.out (by kernel_rfl)) (fun _ _ _ h => h) (Or.inl ⟨by rfl, ?_⟩) ?_ ?_
                  rotate_left
                  · intro w'
                    go_simp
                    with_reducible rfl
                  rotate_left
                  · simp only [Act.put, List.setIfInBounds_toArray, List.set_cons_zero, List.set_cons_succ, i64_w, i32_w]
                    rfl
                  refine pure_ (i := 12) (N := some 3) (v := ?_) (a' := ?_) #[true, true, true, true, true, true, true, true, true, true, true, true, true] rfl rfl (any_of HT_.out (by kernel_rfl)) (fun _ _ _ h => h) (Or.inl ⟨by rfl, ?_⟩) ?_ ?_
                  rotate_left
                  · intro w'
                    go_simp
                    with_reducible rfl
                  rotate_left
                  · simp only [Act.put, List.setIfInBounds_toArray, List.set_cons_zero, List.set_cons_succ, i64_w, i32_w]
                    rfl
                  refine done_ (done_of HT_.out (by kernel_rfl)) ?_
                  have hcz30_0 : w29.cell? ⟨gb303, 0, none⟩ = some (.bool true) := (bCe BK303.out 0).trans rfl
                  have hcz30_1 : w29.cell? ⟨gb303, 1, none⟩ = some (.int .i64 a0_1) := (bCe BK303.out 1).trans rfl
                  have hcz30_2 : w29.cell? ⟨gb303, 2, none⟩ = some (.int .i64 a0_2) := (bCe BK303.out 2).trans rfl
                  have hcz30_3 : w29.cell? ⟨gb303, 3, none⟩ = some (.int .i64 a0_3) := (bCe BK303.out 3).trans rfl
                  have hfz30_0 := bFz BK303.out 0
                  have hfz30_1 := bFz BK303.out 1
                  have hfz30_2 := bFz BK303.out 2
                  have hfz30_3 := bFz BK303.out 3
                  try go_wp2_with (first | ((with_reducible refine gCa (f := 48) rfl ?_); refine gLl (some 30) rfl rfl Try.func48 (by kernel_rfl) rfl #[.int .i64 a0_3] rfl (by (try simp only [List.map_toArray, List.map_cons, List.map_nil]); first | done | rfl | (simp only [List.length_drop, List.length_take]; rfl)) ?_; (with_reducible refine (r1Prt.calls k a0_3 t307 _ A21.out).mono ?_); rintro e w31 ⟨rfl, hb⟩; refine ⟨_, rfl, ?_⟩; have n0_ := AsZ.mk (bBl (g := gb303) (o := .cells #[.bool true, .int .i64 a0_1, .int .i64 a0_2, .int .i64 a0_3] 91 (0, 0)) (by (with_reducible repeat (first | refine bDn ?_ _ | refine bDr ?_ | refine bAl ?_ _)); exact BK303.out) hb); have n1_ := AsZ.mk (tBl (by repeat (first | (with_reducible first | exact HB.out | apply aBl | apply pBd | apply dBl | refine sBl ?_ GE303.out) | exact HB.out)) hb); clear BK303; clear HB; have BK303 := n0_; have HB := n1_; clear n0_ n1_; (try clear hb); (try clear hb2); (try clear hk); (try clear hi)))
                  go_ret
                  exact ⟨by first | rfl | exact nEm _ | exact eEm _ | (simp [eWn, eWs] <;> rfl) | (simp [*, eWn, eWs] <;> rfl), by repeat (first | (with_reducible first | exact HB.out | apply aBl | apply pBd | apply dBl | refine sBl ?_ GE303.out) | exact HB.out)⟩
                · rw [if_neg c22] at H
                  exact absurd H (by simp)
              · rw [if_neg c20] at H
                exact absurd H (by simp)
          · rw [if_neg c9] at H
            exact absurd H (by simp)
        · rw [if_neg c7] at H
          exact absurd H (by simp)
      · rw [if_neg c6] at H
        exact absurd H (by simp)
    · replace c4 := Bool.eq_false_iff.mpr c4
      subst c4
      have H1 : (if a0_3 < 0 then (if 7 + 2 ≤ 9223372036854775807 then (some ((⟨#[98, 121, 116, 101, 115, 32, 42]⟩ : ByteArray) ++ (⟨#[47, 42]⟩ : ByteArray))) else (none)) else (if 7 + 1 ≤ 9223372036854775807 then ((r1Prt.f k a0_3).bind fun t308 => (if 8 + t308.size ≤ 9223372036854775807 then (some (((⟨#[98, 121, 116, 101, 115, 32, 42]⟩ : ByteArray) ++ (⟨#[47]⟩ : ByteArray)) ++ t308)) else (none))) else (none))) = some r := by rw [if_neg (show ¬ (false = true) by decide)] at H; exact H
      clear H
      have H := H1
      clear H1
      by_cases c32 : a0_3 < 0
      · rw [if_pos c32] at H
        have c32b0 : decide (a0_3 < 0) = true := decide_eq_true c32
        clear c32
        by_cases c33 : 7 + 2 ≤ 9223372036854775807
        · rw [if_pos c33] at H
          have c33b0 := eq_true c33
          have c33b1 : decide (7 + 2 ≤ 9223372036854775807) = true := decide_eq_true c33
          try have c33b2 : (9223372036854775807 < 7 + 2) = False := eq_false (Nat.not_lt.2 c33)
          obtain rfl := Option.some.inj H
          go_enter Try.func68, Try.ntmps68
          go_wp2_with (first | ((with_reducible refine gDs (N := 1) rfl ?_); refine bEv ?hg (N := 1) ?hd (cs := #[.bool false, .int .i64 a0_1, .int .i64 a0_2, .int .i64 a0_3]) (t := 91) ?hr ?_; (case hd => rfl); (case hg => rfl); (case hr => first | (go_simp; done) | (go_simp; rfl)); intro gb303 hg w34 hbox hb; have n0_ := AsZ.mk (tBl (by repeat (first | (with_reducible first | exact HB.out | apply aBl | apply pBd | apply dBl) | exact HB.out)) hb); have n1_ := AsZ.mk (hbox); have n2_ := AsZ.mk ((by rw [hg]; exact (zBl (by repeat (first | (with_reducible first | exact HB.out | apply aBl | apply pBd | apply dBl) | exact HB.out))) : w.heap.size ≤ gb303)); have n3_ := AsZ.mk ((by rw [hg]; exact (zBl (by repeat (first | (with_reducible first | exact HB.out | apply aBl | apply pBd | apply dBl) | exact HB.out))) : w.heap.size ≤ gb303)); clear HB; have HB := n0_; have BK303 := n1_; have GW303 := n2_; have GE303 := n3_; clear n0_ n1_ n2_ n3_; clear hb hbox hg; have hcz35_0 : w34.cell? ⟨gb303, 0, none⟩ = some (.bool false) := (bCe BK303.out 0).trans rfl; have hcz35_1 : w34.cell? ⟨gb303, 1, none⟩ = some (.int .i64 a0_1) := (bCe BK303.out 1).trans rfl; have hcz35_2 : w34.cell? ⟨gb303, 2, none⟩ = some (.int .i64 a0_2) := (bCe BK303.out 2).trans rfl; have hcz35_3 : w34.cell? ⟨gb303, 3, none⟩ = some (.int .i64 a0_3) := (bCe BK303.out 3).trans rfl; have hfz35_0 := bFz BK303.out 0; have hfz35_1 := bFz BK303.out 1; have hfz35_2 := bFz BK303.out 2; have hfz35_3 := bFz BK303.out 3) | ((with_reducible refine gCa (f := 74) rfl ?_); refine gLl (some 5) rfl rfl Try.func74 (by kernel_rfl) rfl #[.agg #[.bool false, .int .i64 a0_1, .int .i64 a0_2, .int .i64 a0_3]] rfl (by (try simp only [List.map_toArray, List.map_cons, List.map_nil]); first | done | rfl | (simp only [List.length_drop, List.length_take]; rfl)) ?_; (with_reducible refine (r4RC.calls k false a0_1 a0_2 a0_3 true _ A2.out).mono ?_); rintro e w36 ⟨rfl, hb⟩; refine ⟨_, rfl, ?_⟩; have n0_ := AsZ.mk (bBl (g := gb303) (o := .cells #[.bool false, .int .i64 a0_1, .int .i64 a0_2, .int .i64 a0_3] 91 (0, 0)) (by (with_reducible repeat (first | refine bDn ?_ _ | refine bDr ?_ | refine bAl ?_ _)); exact BK303.out) hb); have n1_ := AsZ.mk (tBl (by repeat (first | (with_reducible first | exact HB.out | apply aBl | apply pBd | apply dBl | refine sBl ?_ GE303.out) | exact HB.out)) hb); clear BK303; clear HB; have BK303 := n0_; have HB := n1_; clear n0_ n1_; (try clear hb); (try clear hb2); (try clear hk); (try clear hi); have hcz37_0 : w36.cell? ⟨gb303, 0, none⟩ = some (.bool false) := (bCe BK303.out 0).trans rfl; have hcz37_1 : w36.cell? ⟨gb303, 1, none⟩ = some (.int .i64 a0_1) := (bCe BK303.out 1).trans rfl; have hcz37_2 : w36.cell? ⟨gb303, 2, none⟩ = some (.int .i64 a0_2) := (bCe BK303.out 2).trans rfl; have hcz37_3 : w36.cell? ⟨gb303, 3, none⟩ = some (.int .i64 a0_3) := (bCe BK303.out 3).trans rfl; have hfz37_0 := bFz BK303.out 0; have hfz37_1 := bFz BK303.out 1; have hfz37_2 := bFz BK303.out 2; have hfz37_3 := bFz BK303.out 3))
          go_ret
          exact ⟨by first | rfl | exact nEm _ | exact eEm _ | (simp [eWn, eWs] <;> rfl) | (simp [*, eWn, eWs] <;> rfl), by repeat (first | (with_reducible first | exact HB.out | apply aBl | apply pBd | apply dBl | refine sBl ?_ GE303.out) | exact HB.out)⟩
        · rw [if_neg c33] at H
          exact absurd H (by simp)
      · rw [if_neg c32] at H
        have c32b0 : decide (a0_3 < 0) = false := decide_eq_false c32
        clear c32
        by_cases c38 : 7 + 1 ≤ 9223372036854775807
        · rw [if_pos c38] at H
          have c38b0 := eq_true c38
          have c38b1 : decide (7 + 1 ≤ 9223372036854775807) = true := decide_eq_true c38
          try have c38b2 : (9223372036854775807 < 7 + 1) = False := eq_false (Nat.not_lt.2 c38)
          replace H := Option.bind_eq_some_iff.mp H
          obtain ⟨t308, A390, H⟩ := H
          replace H : (if 8 + t308.size ≤ 9223372036854775807 then (some (((⟨#[98, 121, 116, 101, 115, 32, 42]⟩ : ByteArray) ++ (⟨#[47]⟩ : ByteArray)) ++ t308)) else (none)) = some r := H
          have A39 := AsZ.mk A390
          clear A390
          by_cases c40 : 8 + t308.size ≤ 9223372036854775807
          · rw [if_pos c40] at H
            have c40b0 := eq_true c40
            have c40b1 : decide (8 + t308.size ≤ 9223372036854775807) = true := decide_eq_true c40
            try have c40b2 : (9223372036854775807 < 8 + t308.size) = False := eq_false (Nat.not_lt.2 c40)
            obtain rfl := Option.some.inj H
            go_enter Try.func68, Try.ntmps68
            go_wp2_with (first | ((with_reducible refine gDs (N := 1) rfl ?_); refine bEv ?hg (N := 1) ?hd (cs := #[.bool false, .int .i64 a0_1, .int .i64 a0_2, .int .i64 a0_3]) (t := 91) ?hr ?_; (case hd => rfl); (case hg => rfl); (case hr => first | (go_simp; done) | (go_simp; rfl)); intro gb303 hg w41 hbox hb; have n0_ := AsZ.mk (tBl (by repeat (first | (with_reducible first | exact HB.out | apply aBl | apply pBd | apply dBl) | exact HB.out)) hb); have n1_ := AsZ.mk (hbox); have n2_ := AsZ.mk ((by rw [hg]; exact (zBl (by repeat (first | (with_reducible first | exact HB.out | apply aBl | apply pBd | apply dBl) | exact HB.out))) : w.heap.size ≤ gb303)); have n3_ := AsZ.mk ((by rw [hg]; exact (zBl (by repeat (first | (with_reducible first | exact HB.out | apply aBl | apply pBd | apply dBl) | exact HB.out))) : w.heap.size ≤ gb303)); clear HB; have HB := n0_; have BK303 := n1_; have GW303 := n2_; have GE303 := n3_; clear n0_ n1_ n2_ n3_; clear hb hbox hg; have hcz42_0 : w41.cell? ⟨gb303, 0, none⟩ = some (.bool false) := (bCe BK303.out 0).trans rfl; have hcz42_1 : w41.cell? ⟨gb303, 1, none⟩ = some (.int .i64 a0_1) := (bCe BK303.out 1).trans rfl; have hcz42_2 : w41.cell? ⟨gb303, 2, none⟩ = some (.int .i64 a0_2) := (bCe BK303.out 2).trans rfl; have hcz42_3 : w41.cell? ⟨gb303, 3, none⟩ = some (.int .i64 a0_3) := (bCe BK303.out 3).trans rfl; have hfz42_0 := bFz BK303.out 0; have hfz42_1 := bFz BK303.out 1; have hfz42_2 := bFz BK303.out 2; have hfz42_3 := bFz BK303.out 3) | ((with_reducible refine gCa (f := 74) rfl ?_); refine gLl (some 5) rfl rfl Try.func74 (by kernel_rfl) rfl #[.agg #[.bool false, .int .i64 a0_1, .int .i64 a0_2, .int .i64 a0_3]] rfl (by (try simp only [List.map_toArray, List.map_cons, List.map_nil]); first | done | rfl | (simp only [List.length_drop, List.length_take]; rfl)) ?_; (with_reducible refine (r4RC.calls k false a0_1 a0_2 a0_3 true _ A2.out).mono ?_); rintro e w43 ⟨rfl, hb⟩; refine ⟨_, rfl, ?_⟩; have n0_ := AsZ.mk (bBl (g := gb303) (o := .cells #[.bool false, .int .i64 a0_1, .int .i64 a0_2, .int .i64 a0_3] 91 (0, 0)) (by (with_reducible repeat (first | refine bDn ?_ _ | refine bDr ?_ | refine bAl ?_ _)); exact BK303.out) hb); have n1_ := AsZ.mk (tBl (by repeat (first | (with_reducible first | exact HB.out | apply aBl | apply pBd | apply dBl | refine sBl ?_ GE303.out) | exact HB.out)) hb); clear BK303; clear HB; have BK303 := n0_; have HB := n1_; clear n0_ n1_; (try clear hb); (try clear hb2); (try clear hk); (try clear hi); have hcz44_0 : w43.cell? ⟨gb303, 0, none⟩ = some (.bool false) := (bCe BK303.out 0).trans rfl; have hcz44_1 : w43.cell? ⟨gb303, 1, none⟩ = some (.int .i64 a0_1) := (bCe BK303.out 1).trans rfl; have hcz44_2 : w43.cell? ⟨gb303, 2, none⟩ = some (.int .i64 a0_2) := (bCe BK303.out 2).trans rfl; have hcz44_3 : w43.cell? ⟨gb303, 3, none⟩ = some (.int .i64 a0_3) := (bCe BK303.out 3).trans rfl; have hfz44_0 := bFz BK303.out 0; have hfz44_1 := bFz BK303.out 1; have hfz44_2 := bFz BK303.out 2; have hfz44_3 := bFz BK303.out 3) | ((with_reducible refine gCa (f := 48) rfl ?_); refine gLl (some 30) rfl rfl Try.func48 (by kernel_rfl) rfl #[.int .i64 a0_3] rfl (by (try simp only [List.map_toArray, List.map_cons, List.map_nil]); first | done | rfl | (simp only [List.length_drop, List.length_take]; rfl)) ?_; (with_reducible refine (r1Prt.calls k a0_3 t308 _ A39.out).mono ?_); rintro e w45 ⟨rfl, hb⟩; refine ⟨_, rfl, ?_⟩; have n0_ := AsZ.mk (bBl (g := gb303) (o := .cells #[.bool false, .int .i64 a0_1, .int .i64 a0_2, .int .i64 a0_3] 91 (0, 0)) (by (with_reducible repeat (first | refine bDn ?_ _ | refine bDr ?_ | refine bAl ?_ _)); exact BK303.out) hb); have n1_ := AsZ.mk (tBl (by repeat (first | (with_reducible first | exact HB.out | apply aBl | apply pBd | apply dBl | refine sBl ?_ GE303.out) | exact HB.out)) hb); clear BK303; clear HB; have BK303 := n0_; have HB := n1_; clear n0_ n1_; (try clear hb); (try clear hb2); (try clear hk); (try clear hi)))
            go_ret
            exact ⟨by first | rfl | exact nEm _ | exact eEm _ | (simp [eWn, eWs] <;> rfl) | (simp [*, eWn, eWs] <;> rfl), by repeat (first | (with_reducible first | exact HB.out | apply aBl | apply pBd | apply dBl | refine sBl ?_ GE303.out) | exact HB.out)⟩
          · rw [if_neg c40] at H
            exact absurd H (by simp)
        · rw [if_neg c38] at H
          exact absurd H (by simp)
  · replace c3 := Bool.eq_false_iff.mpr c3
    subst c3
    have H1 : (some (⟨#[]⟩ : ByteArray)) = some r := by rw [if_neg (show ¬ (false = true) by decide)] at H; exact H
    clear H
    have H := H1
    clear H1
    obtain rfl := Option.some.inj H
    go_enter Try.func68, Try.ntmps68
    go_wp2_with (first | ((with_reducible refine gDs (N := 1) rfl ?_); refine bEv ?hg (N := 1) ?hd (cs := #[.bool a0_0, .int .i64 a0_1, .int .i64 a0_2, .int .i64 a0_3]) (t := 91) ?hr ?_; (case hd => rfl); (case hg => rfl); (case hr => first | (go_simp; done) | (go_simp; rfl)); intro gb303 hg w46 hbox hb; have n0_ := AsZ.mk (tBl (by repeat (first | (with_reducible first | exact HB.out | apply aBl | apply pBd | apply dBl) | exact HB.out)) hb); have n1_ := AsZ.mk (hbox); have n2_ := AsZ.mk ((by rw [hg]; exact (zBl (by repeat (first | (with_reducible first | exact HB.out | apply aBl | apply pBd | apply dBl) | exact HB.out))) : w.heap.size ≤ gb303)); have n3_ := AsZ.mk ((by rw [hg]; exact (zBl (by repeat (first | (with_reducible first | exact HB.out | apply aBl | apply pBd | apply dBl) | exact HB.out))) : w.heap.size ≤ gb303)); clear HB; have HB := n0_; have BK303 := n1_; have GW303 := n2_; have GE303 := n3_; clear n0_ n1_ n2_ n3_; clear hb hbox hg; have hcz47_0 : w46.cell? ⟨gb303, 0, none⟩ = some (.bool a0_0) := (bCe BK303.out 0).trans rfl; have hcz47_1 : w46.cell? ⟨gb303, 1, none⟩ = some (.int .i64 a0_1) := (bCe BK303.out 1).trans rfl; have hcz47_2 : w46.cell? ⟨gb303, 2, none⟩ = some (.int .i64 a0_2) := (bCe BK303.out 2).trans rfl; have hcz47_3 : w46.cell? ⟨gb303, 3, none⟩ = some (.int .i64 a0_3) := (bCe BK303.out 3).trans rfl; have hfz47_0 := bFz BK303.out 0; have hfz47_1 := bFz BK303.out 1; have hfz47_2 := bFz BK303.out 2; have hfz47_3 := bFz BK303.out 3) | ((with_reducible refine gCa (f := 74) rfl ?_); refine gLl (some 5) rfl rfl Try.func74 (by kernel_rfl) rfl #[.agg #[.bool a0_0, .int .i64 a0_1, .int .i64 a0_2, .int .i64 a0_3]] rfl (by (try simp only [List.map_toArray, List.map_cons, List.map_nil]); first | done | rfl | (simp only [List.length_drop, List.length_take]; rfl)) ?_; (with_reducible refine (r4RC.calls k a0_0 a0_1 a0_2 a0_3 false _ A2.out).mono ?_); rintro e w48 ⟨rfl, hb⟩; refine ⟨_, rfl, ?_⟩; have n0_ := AsZ.mk (bBl (g := gb303) (o := .cells #[.bool a0_0, .int .i64 a0_1, .int .i64 a0_2, .int .i64 a0_3] 91 (0, 0)) (by (with_reducible repeat (first | refine bDn ?_ _ | refine bDr ?_ | refine bAl ?_ _)); exact BK303.out) hb); have n1_ := AsZ.mk (tBl (by repeat (first | (with_reducible first | exact HB.out | apply aBl | apply pBd | apply dBl | refine sBl ?_ GE303.out) | exact HB.out)) hb); clear BK303; clear HB; have BK303 := n0_; have HB := n1_; clear n0_ n1_; (try clear hb); (try clear hb2); (try clear hk); (try clear hi)))
    go_ret
    exact ⟨by first | rfl | exact nEm _ | exact eEm _ | (simp [eWn, eWs] <;> rfl) | (simp [*, eWn, eWs] <;> rfl), by repeat (first | (with_reducible first | exact HB.out | apply aBl | apply pBd | apply dBl | refine sBl ?_ GE303.out) | exact HB.out)⟩
end Go.Proofs.Ytfcengffgkmacaa.PAll
namespace Go.Proofs.Ytfcengffgkmacaa.PAll
open Go.RowKit Go.Proofs.Ytfcengffgkmacaa.Xw Go.Proofs.YtfcengffgkmacaaW.PrintWords Go.Proofs.YtfcengffgkmacaaW.PrintLast Go.Proofs.YtfcengffgkmacaaW.PrintMore
attribute [local go_sem] max2_int min2_int max_two min_two max_three min_three max_four min_four   -- for this text's walks alone
set_option linter.unusedVariables false
set_option linter.unusedSimpArgs false
def cuts_Right.f (a0 : Int) (a1 : Int) : Option (Bool) := if a0 ≥ 0 then (if a0 ≤ 4096 then (if a1 ≥ 1 then (some (decide (a1 ≤ 64))) else (some false)) else (some false)) else (some false)
def cuts_Of.f (a0_0 : Int) (a0_1 : Int) (a1 : Int) : Option (Int × Int) := (span_Right.f a0_0 a0_1).bind fun t195 => (if t195 = true then ((cuts_Right.f 0 a1).bind fun t196 => (if t196 = true then (if a1 = 0 then (none) else (some (wrap64 (Int.tdiv a0_0 a1), wrap64 ((wrap64 (Int.tdiv (wrap64 (a0_1 - 1)) a1)) + 1)))) else (some (0, 0)))) else (some (0, 0)))
def spenceref04_Cuts.f (a0 : Int) (a1 : Int) : Option (Bool) := if a0 ≥ 0 then (if a0 ≤ 4096 then (if a1 ≥ 1 then (some (decide (a1 ≤ 64))) else (some false)) else (some false)) else (some false)
def spenceref04_Bounds.j0 : Nat → Int → Int → Int → Bool → Option (Int × Int)
  | 0, _, _, _, _ => none
  | k + 1, x0, x1, x2, x26 => if x26 = true then (some (0, 0)) else (if (wrap64 ((wrap64 (x0 * x2)) + x2)) > x1 then (some (wrap64 (x0 * x2), x1)) else (some (wrap64 (x0 * x2), wrap64 ((wrap64 (x0 * x2)) + x2))))
def spenceref04_Bounds.f (k : Nat) (a0 : Int) (a1 : Int) (a2 : Int) : Option (Int × Int) := (spenceref04_Cuts.f a1 a2).bind fun t198 => (if t198 = true then (if a0 < 0 then (spenceref04_Bounds.j0 k a0 a1 a2 true) else (if a0 > 4096 then (spenceref04_Bounds.j0 k a0 a1 a2 true) else (spenceref04_Bounds.j0 k a0 a1 a2 (decide ((wrap64 (a0 * a2)) ≥ a1))))) else (spenceref04_Bounds.j0 k a0 a1 a2 true))
theorem spenceref04_Bounds.mono_l : ∀ k, (∀ y0 y1 y2 y3, LeO (spenceref04_Bounds.j0 k y0 y1 y2 y3) (spenceref04_Bounds.j0 (k + 1) y0 y1 y2 y3))
  | 0 => fun _ _ _ _ r h => by simp [spenceref04_Bounds.j0] at h
  | k + 1 => by
    have ih0 := spenceref04_Bounds.mono_l k
    · intro y0 y1 y2 y3
      unfold spenceref04_Bounds.j0
      repeat' first
      | (with_reducible exact ih0 _ _ _ _)
      | (with_reducible exact LeO.refl _)
      | (with_reducible exact LeO.none _)
      | (with_reducible refine LeO.ite ?_ ?_)
      | (with_reducible refine LeO.bind ?_ (fun _ => ?_))
      | exact ih0 _ _ _ _
      | exact LeO.none _
      | refine LeO.ite ?_ ?_
      | refine LeO.bind ?_ (fun _ => ?_)
theorem spenceref04_Bounds.mono : ∀ a0 a1 a2 k, LeO (spenceref04_Bounds.f k a0 a1 a2) (spenceref04_Bounds.f (k + 1) a0 a1 a2) := by
  intro a0 a1 a2 k
  have ih0 := spenceref04_Bounds.mono_l k
  unfold spenceref04_Bounds.f
  repeat' first
      | (with_reducible exact ih0 _ _ _ _)
      | (with_reducible exact LeO.refl _)
      | (with_reducible exact LeO.none _)
      | (with_reducible refine LeO.ite ?_ ?_)
      | (with_reducible refine LeO.bind ?_ (fun _ => ?_))
      | exact ih0 _ _ _ _
      | exact LeO.none _
      | refine LeO.ite ?_ ?_
      | refine LeO.bind ?_ (fun _ => ?_)
def spenceref01_In.l0 : Nat → Int → List Int → Int → Int → Option (Bool)
  | 0, _, _, _, _ => none
  | k + 1, x1, x7, x8, x9 => if x9 < x8 then (if 0 ≤ x9 then (if x9 < (x7.length : Int) then (if (rd x7 x9) = x1 then (some true) else (spenceref01_In.l0 k x1 x7 x8 (wrap64 (x9 + 1)))) else (none)) else (none)) else (some false)
def spenceref01_In.f (k : Nat) (l0 : List Int) (a1 : Int) : Option (Bool) := spenceref01_In.l0 k a1 l0 (l0.length : Int) 0
theorem spenceref01_In.mono_l : ∀ k, (∀ y0 y1 y2 y3, LeO (spenceref01_In.l0 k y0 y1 y2 y3) (spenceref01_In.l0 (k + 1) y0 y1 y2 y3))
  | 0 => fun _ _ _ _ r h => by simp [spenceref01_In.l0] at h
  | k + 1 => by
    have ih0 := spenceref01_In.mono_l k
    · intro y0 y1 y2 y3
      unfold spenceref01_In.l0
      repeat' first
      | (with_reducible exact ih0 _ _ _ _)
      | (with_reducible exact LeO.refl _)
      | (with_reducible exact LeO.none _)
      | (with_reducible refine LeO.ite ?_ ?_)
      | (with_reducible refine LeO.bind ?_ (fun _ => ?_))
      | exact ih0 _ _ _ _
      | exact LeO.none _
      | refine LeO.ite ?_ ?_
      | refine LeO.bind ?_ (fun _ => ?_)
theorem spenceref01_In.mono : ∀ a0 a1 k, LeO (spenceref01_In.f k a0 a1) (spenceref01_In.f (k + 1) a0 a1) := by
  intro a0 a1 k
  have ih0 := spenceref01_In.mono_l k
  unfold spenceref01_In.f
  repeat' first
      | (with_reducible exact ih0 _ _ _ _)
      | (with_reducible exact LeO.refl _)
      | (with_reducible exact LeO.none _)
      | (with_reducible refine LeO.ite ?_ ?_)
      | (with_reducible refine LeO.bind ?_ (fun _ => ?_))
      | exact ih0 _ _ _ _
      | exact LeO.none _
      | refine LeO.ite ?_ ?_
      | refine LeO.bind ?_ (fun _ => ?_)
def bytes_Clone.f (l0 : List Int) : Option (List Int) := (some (([] : List Int) : List Int)).bind fun y201 => (if y201.length + l0.length < 140737488355328 then (some (y201 ++ l0)) else (none))
set_option maxHeartbeats 8000000 in
set_option maxRecDepth 100000 in
theorem bytes_Clone.calls (A0 : Option Addr) (c0 : Nat) (l0 : List Int) (r : List Int) (w : World) (hr0 : Kd.C (Kd.int .u8) w A0 l0.length l0) (hc0 : l0.length ≤ c0) (h : bytes_Clone.f l0 = some r) :
    Calls Try.prog 61 #[.slice A0 l0.length c0] w fun e w' => ∃ v0_ : Value, e = .returned (v0_) ∧ Kd.R (Kd.int .u8) 5 w' w.heap.size (fun _ => True) v0_ r ∧ Below w.heap.size w w' := by
  have HR0 := AsZ.mk hr0
  have HC0 := AsZ.mk hc0
  clear hr0 hc0
  have HB := AsZ.mk (Below.refl w.heap.size w)
  have H : ((some (([] : List Int) : List Int)).bind fun y201 => (if y201.length + l0.length < 140737488355328 then (some (y201 ++ l0)) else (none))) = some r := h
  clear h
  obtain ⟨y201, hy201⟩ : ∃ y_ : List Int, y_ = (([] : List Int)) := ⟨_, rfl⟩
  replace H : (if y201.length + l0.length < 140737488355328 then (some (y201 ++ l0)) else (none)) = some r := by first | (rw [hy201]; with_reducible exact H) | (have H2_ := (Option.bind_some _ _).symm.trans H; rw [hy201]; with_reducible exact H2_) | (have H2_ := (Option.bind_some _ _).symm.trans H; with_reducible exact H2_) | with_reducible exact H | (rw [hy201]; exact H) | exact H
  have Ny201 := AsZ.mk hy201
  clear hy201
  by_cases c2 : y201.length + l0.length < 140737488355328
  · rw [if_pos c2] at H
    have LMc2 := AsZ.mk c2
    clear c2
    obtain ⟨y204, hy204⟩ : ∃ y_ : List Int, y_ = (y201 ++ l0) := ⟨_, rfl⟩
    replace H : (some y204) = some r := by first | (rw [hy204]; with_reducible exact H) | (have H2_ := (Option.bind_some _ _).symm.trans H; rw [hy204]; with_reducible exact H2_) | (have H2_ := (Option.bind_some _ _).symm.trans H; with_reducible exact H2_) | with_reducible exact H | (rw [hy204]; exact H) | exact H
    have Ny204 := AsZ.mk hy204
    clear hy204
    obtain rfl := Option.some.inj H
    have qT := fun (w : World) (a : Option Addr) (n c n' c' : Nat) => Lib.run_eql_slice_nil (P := Try.prog) w 32 _ a n c n' c' Try.underlying32
    cases A0 with
    | none =>
      have e0 : l0 = [] := by
        have h_ := HR0.out.2.2
        rcases Nat.eq_zero_or_pos l0.length with h0_ | h0_
        · exact List.eq_nil_of_length_eq_zero h0_
        · obtain ⟨a_, ha_, _⟩ := h_ h0_; cases ha_
      have e1 : y204 = [] := by rw [Ny204.out, Ny201.out, e0]; rfl
      rw [e1]
      clear e1 HR0 Ny204
      subst e0
      go_enter Try.func61, Try.ntmps61
      go_wp2_with (fail)
      go_ret
      exact ⟨_, rfl, Kd.R_nil _ _ _ _ _, HB.out⟩
    | some A0 =>
      go_enter Try.func61, Try.ntmps61
      go_wp2_with (first | ((with_reducible refine gDs (N := 5) rfl ?_); refine Kd.R_lit (Kd.int .u8) _ 5 ?hg (N := 5) ?hd (xs := ([] : List Int)) (inner := []) (ok := fun _ => True) (okp := fun _ => True) ?hr ?hp (fun _ hk => hk) trivial (Below.refl _ _) (Nat.le_refl _) (by simp) ?_; (case hd => rfl); (case hg => rfl); (case hr => first | (go_simp; done) | (go_simp; rfl)); (case hp => exact (Reps.none _ _)); intro v202 w3 ho4 hb hg_ hnew_; clear hg_ hnew_; (first | rw [← Ny201.out] at ho4 | (simp only [Int.reduceToNat] at ho4; rw [← Ny201.out] at ho4)); have n0_ := AsZ.mk (Kd.R_lower ho4 (zBl (by repeat (first | (with_reducible first | exact HB.out | apply aBl | apply pBd | apply dBl) | exact HB.out)))); have n1_ := AsZ.mk (tBl (by repeat (first | (with_reducible first | exact HB.out | apply aBl | apply pBd | apply dBl) | exact HB.out)) hb); clear HB; have HO203 := n0_; have HB := n1_; clear n0_ n1_; clear hb ho4) | ((with_reducible refine gate_builtin (b := .append) (xs := #[.tmp 5, .tmp 6]) rfl ?_); at_builtin; refine Kd.R_append_rows (Kd.int .u8) (w0 := w) w.heap.size rfl (.tmp 5) (.tmp 6) 32 5 (.int .u8 0) 1 rfl Try.underlying32 info5 rfl (by decide) (by omega) v202 y201 l0 _ _ _ (fun _ => True) (fun _ => False) rfl rfl ?aO ?aR (fun _ _ h => h) (fun _ h => h.elim) ?aF ?aB ?aS ?aL ?_; (case aR => repeat (first | exact (Kd.C_below HR0.out HB.out) | (with_reducible refine Kd.C_alloc ?_ _) | (with_reducible refine Kd.C_drewN ?_ _) | (with_reducible refine Kd.C_drew ?_))); (case aB => exact (by repeat (first | (with_reducible first | exact HB.out | apply aBl | apply pBd | apply dBl) | exact HB.out))); (case aF => exact (fun _ _ => trivial)); (case aO => exact (by (with_reducible repeat (first | apply Kd.R_alloc | apply Kd.R_drewN | apply Kd.R_drew)); exact HO203.out)); (case aS => exact (zBl (by repeat (first | (with_reducible first | exact HB.out | apply aBl | apply pBd | apply dBl) | exact HB.out)))); (case aL => have := LMc2.out; omega); intro v205 w5 ho hb hg hat; rw [← Ny204.out] at ho; have n0_ := AsZ.mk (hb); have n1_ := AsZ.mk (ho); clear HB; clear HO203; have HB := n0_; have HO206 := n1_; clear n0_ n1_; clear ho hb hg hat))
      go_ret
      exact ⟨_, by first | rfl | (simp [eWn, eWs] <;> rfl) | (simp [*, eWn, eWs] <;> rfl), by (with_reducible repeat (first | apply Kd.R_alloc | apply Kd.R_drewN | apply Kd.R_drew)); exact HO206.out, by repeat (first | (with_reducible first | exact HB.out | apply aBl | apply pBd | apply dBl) | exact HB.out)⟩
  · rw [if_neg c2] at H
    exact absurd H (by simp)
def bytes_Equal.f (l0 : List Int) (l1 : List Int) : Option (Bool) := some ((strOfNums l0).toList == (strOfNums l1).toList)
def cuts_Count.f (a0 : Int) (a1 : Int) : Option (Int) := (cuts_Right.f a0 a1).bind fun t207 => (if t207 = true then (if a1 = 0 then (none) else (some (wrap64 (Int.tdiv (wrap64 ((wrap64 (a0 + a1)) - 1)) a1)))) else (some 0))
def cuts_Bounds.f (a0 : Int) (a1 : Int) (a2 : Int) : Option (Int × Int × Bool) := if a0 < 0 then (some (0, 0, false)) else ((cuts_Count.f a1 a2).bind fun t209 => (if a0 ≥ t209 then (some (0, 0, false)) else (some (wrap64 (a0 * a2), mn (wrap64 ((wrap64 (a0 + 1)) * a2)) a1, true))))
end Go.Proofs.Ytfcengffgkmacaa.PAll
namespace Go.Proofs.Ytfcengffgkmacaa.PAll
open Go.RowKit Go.Proofs.Ytfcengffgkmacaa.Xw Go.Proofs.YtfcengffgkmacaaW.PrintWords Go.Proofs.YtfcengffgkmacaaW.PrintLast Go.Proofs.YtfcengffgkmacaaW.PrintMore
attribute [local go_sem] max2_int min2_int max_two min_two max_three min_three max_four min_four   -- for this text's walks alone
set_option linter.unusedVariables false
set_option linter.unusedSimpArgs false
def strings_IndexByte.f (a0 : ByteArray) (a1 : Int) : Option Int := some (idxb a0 a1)
theorem strings_IndexByte.calls (a0 : ByteArray) (a1 : Int) (r : Int) (w : World) (h : strings_IndexByte.f a0 a1 = some r) :
    Calls Try.prog 83 #[.string a0, .int .u8 a1] w fun e w' => e = .returned (.int .i64 r) ∧ Drawn0 w w' := by
  obtain rfl := Option.some.inj h
  have hext : ∀ (s : ByteArray) (c : Int) (w : World), (callFunc 88 #[.string s, .int .u8 c]).run Try.prog w = .ok (.value (.int .i64 (idxb s c))) w := fun s c w => by
    rw [run_callFunc_indexByte Try.func88 (by kernel_rfl) (by kernel_rfl) (by kernel_rfl) (by kernel_rfl), Lib.run_indexByteString]; rfl
  go_enter Try.func83, Try.ntmps83
  go_wp2
  go_ret
  exact ⟨rfl, Drawn0.refl _⟩
def text_Cut.f (a0 : ByteArray) (a1 : Int) : Option (ByteArray × ByteArray × Bool) := (strings_IndexByte.f a0 a1).bind fun t359 => (if t359 < 0 then (some (a0, (⟨#[]⟩ : ByteArray), false)) else (if 0 ≤ t359 then (if t359 ≤ (a0.size : Int) then (if 0 ≤ (wrap64 (t359 + 1)) then (if (wrap64 (t359 + 1)) ≤ (a0.size : Int) then (some (a0.extract 0 (t359 : Int).toNat, a0.extract ((wrap64 (t359 + 1)) : Int).toNat a0.size, true)) else (none)) else (none)) else (none)) else (none)))
set_option maxHeartbeats 8000000 in
set_option maxRecDepth 100000 in
theorem text_Cut.calls (a0 : ByteArray) (a1 : Int) (r1 : ByteArray) (r2 : ByteArray) (r3 : Bool) (w : World) (h : text_Cut.f a0 a1 = some (r1, r2, r3)) :
    Calls Try.prog 79 #[.string a0, .int .u8 a1] w fun e w' => e = .returned (.tuple #[.string r1, .string r2, .bool r3]) ∧ Drawn0 w w' := by
  have H : ((strings_IndexByte.f a0 a1).bind fun t359 => (if t359 < 0 then (some (a0, (⟨#[]⟩ : ByteArray), false)) else (if 0 ≤ t359 then (if t359 ≤ (a0.size : Int) then (if 0 ≤ (wrap64 (t359 + 1)) then (if (wrap64 (t359 + 1)) ≤ (a0.size : Int) then (some (a0.extract 0 (t359 : Int).toNat, a0.extract ((wrap64 (t359 + 1)) : Int).toNat a0.size, true)) else (none)) else (none)) else (none)) else (none)))) = some (r1, r2, r3) := h
  clear h
  replace H := Option.bind_eq_some_iff.mp H
  obtain ⟨t359, A30, H⟩ := H
  replace H : (if t359 < 0 then (some (a0, (⟨#[]⟩ : ByteArray), false)) else (if 0 ≤ t359 then (if t359 ≤ (a0.size : Int) then (if 0 ≤ (wrap64 (t359 + 1)) then (if (wrap64 (t359 + 1)) ≤ (a0.size : Int) then (some (a0.extract 0 (t359 : Int).toNat, a0.extract ((wrap64 (t359 + 1)) : Int).toNat a0.size, true)) else (none)) else (none)) else (none)) else (none))) = some (r1, r2, r3) := H
  have A3 := AsZ.mk A30
  clear A30
  by_cases c4 : t359 < 0
  · rw [if_pos c4] at H
    have c4b0 : decide (t359 < 0) = true := decide_eq_true c4
    clear c4
    simp only [Option.some.injEq, Prod.mk.injEq] at H
    obtain ⟨rfl, rfl, rfl⟩ := H
    go_enter Try.func79, Try.ntmps79
    go_wp2_with (first | (go_at_call 83; (with_reducible refine (strings_IndexByte.calls a0 a1 t359 _ A3.out).mono ?_); rintro e w' ⟨rfl, ⟨nd, rfl⟩⟩; (try first | exact ⟨rfl, _, World.drewN_drewN _ _ _⟩ | exact ⟨rfl, _, Eq.trans (World.drewN_drewN _ _ _) (congrArg (World.drewN _) (Nat.add_assoc _ _ _))⟩)))
    repeat (go_quiet (first | (go_at_call 83; (with_reducible refine (strings_IndexByte.calls a0 a1 t359 _ A3.out).mono ?_); rintro e w' ⟨rfl, ⟨nd, rfl⟩⟩; (try first | exact ⟨rfl, _, World.drewN_drewN _ _ _⟩ | exact ⟨rfl, _, Eq.trans (World.drewN_drewN _ _ _) (congrArg (World.drewN _) (Nat.add_assoc _ _ _))⟩))); try go_wp2_with (first | (go_at_call 83; (with_reducible refine (strings_IndexByte.calls a0 a1 t359 _ A3.out).mono ?_); rintro e w' ⟨rfl, ⟨nd, rfl⟩⟩; (try first | exact ⟨rfl, _, World.drewN_drewN _ _ _⟩ | exact ⟨rfl, _, Eq.trans (World.drewN_drewN _ _ _) (congrArg (World.drewN _) (Nat.add_assoc _ _ _))⟩))))
    go_ret3
    exact ⟨by first | rfl | (simp; done) | (simp [*]; done) | exact nEm _ | exact eEm _, by repeat (first | exact Drawn0.refl _ | apply Drawn0.step)⟩
  · rw [if_neg c4] at H
    have c4b0 : decide (t359 < 0) = false := decide_eq_false c4
    clear c4
    by_cases c5 : 0 ≤ t359
    · rw [if_pos c5] at H
      have c5b0 := eq_true c5
      have c5b1 : decide (0 ≤ t359) = true := decide_eq_true c5
      clear c5
      by_cases c6 : t359 ≤ (a0.size : Int)
      · rw [if_pos c6] at H
        have c6b0 := eq_true c6
        have c6b1 : decide (t359 ≤ (a0.size : Int)) = true := decide_eq_true c6
        clear c6
        obtain ⟨ji7, hji7⟩ : ∃ j_ : Int, (wrap64 (t359 + 1)) = j_ := ⟨_, rfl⟩
        replace H : (if 0 ≤ (ji7) then (if (ji7) ≤ (a0.size : Int) then (some (a0.extract 0 (t359 : Int).toNat, a0.extract ((ji7) : Int).toNat a0.size, true)) else (none)) else (none)) = some (r1, r2, r3) := by first | (rw [hji7] at H; exact H) | (simp only [hji7] at H ⊢; exact H)
        (try rw [hji7] at A3)
        have hji7w : (IntKind.i64.wrap (t359 + 1)) = ji7 := (i64_w _).trans hji7
        by_cases c8 : 0 ≤ (ji7)
        · rw [if_pos c8] at H
          have c8b0 := eq_true c8
          have c8b1 : decide (0 ≤ (ji7)) = true := decide_eq_true c8
          clear c8
          by_cases c9 : (ji7) ≤ (a0.size : Int)
          · rw [if_pos c9] at H
            have c9b0 := eq_true c9
            have c9b1 : decide ((ji7) ≤ (a0.size : Int)) = true := decide_eq_true c9
            clear c9
            simp only [Option.some.injEq, Prod.mk.injEq] at H
            obtain ⟨rfl, rfl, rfl⟩ := H
            go_enter Try.func79, Try.ntmps79
            go_wp2_with (first | (go_at_call 83; (with_reducible refine (strings_IndexByte.calls a0 a1 t359 _ A3.out).mono ?_); rintro e w' ⟨rfl, ⟨nd, rfl⟩⟩; (try first | exact ⟨rfl, _, World.drewN_drewN _ _ _⟩ | exact ⟨rfl, _, Eq.trans (World.drewN_drewN _ _ _) (congrArg (World.drewN _) (Nat.add_assoc _ _ _))⟩)))
            repeat (go_quiet (first | (go_at_call 83; (with_reducible refine (strings_IndexByte.calls a0 a1 t359 _ A3.out).mono ?_); rintro e w' ⟨rfl, ⟨nd, rfl⟩⟩; (try first | exact ⟨rfl, _, World.drewN_drewN _ _ _⟩ | exact ⟨rfl, _, Eq.trans (World.drewN_drewN _ _ _) (congrArg (World.drewN _) (Nat.add_assoc _ _ _))⟩))); try go_wp2_with (first | (go_at_call 83; (with_reducible refine (strings_IndexByte.calls a0 a1 t359 _ A3.out).mono ?_); rintro e w' ⟨rfl, ⟨nd, rfl⟩⟩; (try first | exact ⟨rfl, _, World.drewN_drewN _ _ _⟩ | exact ⟨rfl, _, Eq.trans (World.drewN_drewN _ _ _) (congrArg (World.drewN _) (Nat.add_assoc _ _ _))⟩))))
            go_ret3
            exact ⟨by first | rfl | (simp; done) | (simp only [← hji7] <;> (first | rfl | simp)) | (simp [*]; done), by repeat (first | exact Drawn0.refl _ | apply Drawn0.step)⟩
          · rw [if_neg c9] at H
            exact absurd H (by simp)
        · rw [if_neg c8] at H
          exact absurd H (by simp)
      · rw [if_neg c6] at H
        exact absurd H (by simp)
    · rw [if_neg c5] at H
      exact absurd H (by simp)
def text_Lower.f (a0 : ByteArray) : Option ByteArray := if a0.size ≤ 9223372036854775807 then some (strOfNums ((bytesOf a0).map lowI)) else none
set_option maxHeartbeats 2000000 in
theorem text_Lower.calls (a0 : ByteArray) (r : ByteArray) (w : World) (h : text_Lower.f a0 = some r) :
    Calls Try.prog 84 #[.string a0] w fun e w' => e = .returned (.string r) ∧ Below w.heap.size w w' := by
  have hs : a0.size ≤ 9223372036854775807 := by
    by_cases hs : a0.size ≤ 9223372036854775807
    · exact hs
    · unfold text_Lower.f at h; rw [if_neg hs] at h; cases h
  have hr0 : r = strOfNums ((bytesOf a0).map lowI) := by unfold text_Lower.f at h; rw [if_pos hs] at h; exact (Option.some.inj h).symm
  subst hr0
  clear h
  have kb := fun (s : ByteArray) W => print_bytes (P := Try.prog) 9 32 5 Try.underlying9 Try.underlying32 Try.underlying5 s W
  have hfin : ∀ (W : World) (cap : Nat), (∀ j, j < a0.size → W.cell? ⟨w.heap.size, j, none⟩ = some (.int .u8 (lowAt a0 a0.size j))) →
      (convert 32 9 (.slice (some ⟨w.heap.size, 0, none⟩) a0.size cap)).run Try.prog W = .ok (.string (strOfNums ((bytesOf a0).map lowI))) W := fun W cap hc =>
    run_convert_bytes_arg W 32 5 Try.underlying32 Try.underlying5 w.heap.size 0 a0.size cap _ (low_end a0).1 (fun i hi => by rw [Nat.zero_add, hc i hi, (low_end a0).2 i hi]) 9 Try.underlying9
  have L0 : LowIn a0 w.heap.size 0 w (Lib.bytesWorld w 5 a0) := ⟨fun j hj => low_cell w 5 a0 j hj, fun j hj => low_frozen w 5 a0 j hj, bytes_below (Below.refl _ _) (Nat.le_refl _) 5 a0⟩
  have hfinH := Lib.hid hfin
  clear hfin
  go_enter Try.func84, Try.ntmps84
  go_wp2
  go_loopw [10] (fun i wr => ∃ k : Nat, k ≤ a0.size ∧ i = .int .i64 k ∧ LowIn a0 w.heap.size k w wr) (fun i _ => a0.size - (intOf i).toNat)
  case atStart => exact ⟨0, Nat.zero_le _, rfl, L0⟩
  case round =>
    clear L0
    obtain ⟨k, hk, rfl, L⟩ := hrel
    by_cases hlt : k < a0.size
    · have hc : wr.cell? ⟨w.heap.size, k, none⟩ = some (.int .u8 (bt a0 k)) := by have := L.cells k hlt; unfold lowAt at this; rwa [if_neg (by omega)] at this
      have hf := L.free k hlt
      have hr := bt_range a0 k
      by_cases hA : 65 ≤ bt a0 k
      · by_cases hZ : bt a0 k ≤ 90
        · go_wp2
          go_roundw
          case rel => exact ⟨k + 1, by omega, by go_num, ⟨low_next a0 k wr w.heap.size _ (by unfold lowI; rw [if_pos ⟨hA, hZ⟩]) hlt L.cells, fun j hj => by rw [World.frozen?_setCell]; exact L.free j hj, L.below.setCell (p := ⟨w.heap.size, k, none⟩) (Nat.le_refl _) _⟩⟩
          case measure => simp [intOf]; omega
        · go_wp2
          go_roundw
          case rel => exact ⟨k + 1, by omega, by go_num, ⟨low_stay a0 k wr w.heap.size (by unfold lowI; rw [if_neg (by omega)]) L.cells, L.free, L.below⟩⟩
          case measure => simp [intOf]; omega
      · go_wp2
        go_roundw
        case rel => exact ⟨k + 1, by omega, by go_num, ⟨low_stay a0 k wr w.heap.size (by unfold lowI; rw [if_neg (by omega)]) L.cells, L.free, L.below⟩⟩
        case measure => simp [intOf]; omega
    · obtain rfl : k = a0.size := by omega
      have hcv := fun cap => hfinH.out wr cap L.cells
      go_wp2
      go_ret
      exact ⟨rfl, L.below⟩
def text_Fold.f (a0 : ByteArray) (a1 : ByteArray) : Option (Bool) := (text_Lower.f a0).bind fun t360 => ((text_Lower.f a1).bind fun t361 => (some (t360.toList == t361.toList)))
set_option maxHeartbeats 8000000 in
set_option maxRecDepth 100000 in
theorem text_Fold.calls (a0 : ByteArray) (a1 : ByteArray) (r : Bool) (w : World) (h : text_Fold.f a0 a1 = some r) :
    Calls Try.prog 80 #[.string a0, .string a1] w fun e w' => e = .returned (.bool r) ∧ Below w.heap.size w w' := by
  have HB := AsZ.mk (Below.refl w.heap.size w)
  have H : ((text_Lower.f a0).bind fun t360 => ((text_Lower.f a1).bind fun t361 => (some (t360.toList == t361.toList)))) = some r := h
  clear h
  replace H := Option.bind_eq_some_iff.mp H
  obtain ⟨t360, A30, H⟩ := H
  replace H : ((text_Lower.f a1).bind fun t361 => (some (t360.toList == t361.toList))) = some r := H
  have A3 := AsZ.mk A30
  clear A30
  replace H := Option.bind_eq_some_iff.mp H
  obtain ⟨t361, A40, H⟩ := H
  replace H : (some (t360.toList == t361.toList)) = some r := H
  have A4 := AsZ.mk A40
  clear A40
  obtain rfl := Option.some.inj H
  go_enter Try.func80, Try.ntmps80
  go_wp2_with (first | ((with_reducible refine gCa (f := 84) rfl ?_); refine gLl (some 6) rfl rfl Try.func84 (by kernel_rfl) rfl #[.string a0] rfl (by (try simp only [List.map_toArray, List.map_cons, List.map_nil]); first | done | rfl | (simp only [List.length_drop, List.length_take]; rfl)) ?_; (with_reducible refine (text_Lower.calls a0 t360 _ A3.out).mono ?_); rintro e w5 ⟨rfl, hb⟩; refine ⟨_, rfl, ?_⟩; have n0_ := AsZ.mk (tBl (by repeat (first | (with_reducible first | exact HB.out | apply aBl | apply pBd | apply dBl) | exact HB.out)) hb); clear HB; have HB := n0_; clear n0_; (try clear hb); (try clear hb2); (try clear hk); (try clear hi)) | ((with_reducible refine gCa (f := 84) rfl ?_); refine gLl (some 8) rfl rfl Try.func84 (by kernel_rfl) rfl #[.string a1] rfl (by (try simp only [List.map_toArray, List.map_cons, List.map_nil]); first | done | rfl | (simp only [List.length_drop, List.length_take]; rfl)) ?_; (with_reducible refine (text_Lower.calls a1 t361 _ A4.out).mono ?_); rintro e w6 ⟨rfl, hb⟩; refine ⟨_, rfl, ?_⟩; have n0_ := AsZ.mk (tBl (by repeat (first | (with_reducible first | exact HB.out | apply aBl | apply pBd | apply dBl) | exact HB.out)) hb); clear HB; have HB := n0_; clear n0_; (try clear hb); (try clear hb2); (try clear hk); (try clear hi)))
  go_ret
  exact ⟨by first | rfl | exact nEm _ | exact eEm _ | (simp [eWn, eWs] <;> rfl) | (simp [*, eWn, eWs] <;> rfl), by repeat (first | (with_reducible first | exact HB.out | apply aBl | apply pBd | apply dBl) | exact HB.out)⟩
def nums_digit.f (a0 : Int) : Option (Int × Bool) := if a0 < 48 then (some (0, false)) else (if a0 > 57 then (some (0, false)) else (some ((a0 - 48) % 256, true)))
set_option maxHeartbeats 8000000 in
set_option maxRecDepth 100000 in
theorem nums_digit.calls (a0 : Int) (r1 : Int) (r2 : Bool) (w : World) (h : nums_digit.f a0 = some (r1, r2)) :
    Calls Try.prog 87 #[.int .u8 a0] w fun e w' => e = .returned (.tuple #[.int .i64 r1, .bool r2]) ∧ Drawn0 w w' := by
  have H : (if a0 < 48 then (some (0, false)) else (if a0 > 57 then (some (0, false)) else (some ((a0 - 48) % 256, true)))) = some (r1, r2) := h
  clear h
  by_cases c2 : a0 < 48
  · rw [if_pos c2] at H
    have c2b0 : decide (a0 < 48) = true := decide_eq_true c2
    clear c2
    simp only [Option.some.injEq, Prod.mk.injEq] at H
    obtain ⟨rfl, rfl⟩ := H
    go_enter Try.func87, Try.ntmps87
    go_wp2
    go_ret2
    exact ⟨by first | rfl | (simp; done) | (simp [*]; done) | exact nEm _ | exact eEm _, by repeat (first | exact Drawn0.refl _ | apply Drawn0.step)⟩
  · rw [if_neg c2] at H
    have c2b0 : decide (a0 < 48) = false := decide_eq_false c2
    clear c2
    by_cases c3 : a0 > 57
    · rw [if_pos c3] at H
      have c3b0 : decide (57 < a0) = true := decide_eq_true c3
      clear c3
      simp only [Option.some.injEq, Prod.mk.injEq] at H
      obtain ⟨rfl, rfl⟩ := H
      go_enter Try.func87, Try.ntmps87
      go_wp2
      go_ret2
      exact ⟨by first | rfl | (simp; done) | (simp [*]; done) | exact nEm _ | exact eEm _, by repeat (first | exact Drawn0.refl _ | apply Drawn0.step)⟩
    · rw [if_neg c3] at H
      have c3b0 : decide (57 < a0) = false := decide_eq_false c3
      clear c3
      simp only [Option.some.injEq, Prod.mk.injEq] at H
      obtain ⟨rfl, rfl⟩ := H
      go_enter Try.func87, Try.ntmps87
      go_wp2
      go_ret2
      exact ⟨by first | rfl | (simp; done) | (simp [*]; done) | exact nEm _ | exact eEm _, by repeat (first | exact Drawn0.refl _ | apply Drawn0.step)⟩
def nums_Parse.l0 : Nat → ByteArray → Int → Bool → Int → Int → Option (Int × Int)
  | 0, _, _, _, _, _ => none
  | k + 1, x0, x4, x5, x10, x11 => if x11 < x10 then (if 0 ≤ x11 then (if x11 < (x0.size : Int) then ((nums_digit.f (bt x0 x11)).bind fun bt362 => (if bt362.2 = true then (if x5 = true then (nums_Parse.l0 k x0 x4 x5 x10 (wrap64 (x11 + 1))) else (if x4 > (wrap64 (Int.tdiv (wrap64 (4611686018427387903 - bt362.1)) 10)) then (nums_Parse.l0 k x0 x4 true x10 (wrap64 (x11 + 1))) else (nums_Parse.l0 k x0 (wrap64 ((wrap64 (10 * x4)) + bt362.1)) x5 x10 (wrap64 (x11 + 1))))) else (some (0, 3)))) else (none)) else (none)) else (if x0.toList = ([] : List UInt8) then (some (0, 3)) else (if x5 = true then (some (0, 9)) else (some (x4, 0))))
def nums_Parse.f (k : Nat) (a0 : ByteArray) : Option (Int × Int) := nums_Parse.l0 k a0 0 false (a0.size : Int) 0
theorem nums_Parse.mono_l : ∀ k, (∀ y0 y1 y2 y3 y4, LeO (nums_Parse.l0 k y0 y1 y2 y3 y4) (nums_Parse.l0 (k + 1) y0 y1 y2 y3 y4))
  | 0 => fun _ _ _ _ _ r h => by simp [nums_Parse.l0] at h
  | k + 1 => by
    have ih0 := nums_Parse.mono_l k
    · intro y0 y1 y2 y3 y4
      unfold nums_Parse.l0
      repeat' first
      | (with_reducible exact ih0 _ _ _ _ _)
      | (with_reducible exact LeO.refl _)
      | (with_reducible exact LeO.none _)
      | (with_reducible refine LeO.ite ?_ ?_)
      | (with_reducible refine LeO.bind ?_ (fun _ => ?_))
      | exact ih0 _ _ _ _ _
      | exact LeO.none _
      | refine LeO.ite ?_ ?_
      | refine LeO.bind ?_ (fun _ => ?_)
theorem nums_Parse.mono : ∀ a0 k, LeO (nums_Parse.f k a0) (nums_Parse.f (k + 1) a0) := by
  intro a0 k
  have ih0 := nums_Parse.mono_l k
  unfold nums_Parse.f
  repeat' first
      | (with_reducible exact ih0 _ _ _ _ _)
      | (with_reducible exact LeO.refl _)
      | (with_reducible exact LeO.none _)
      | (with_reducible refine LeO.ite ?_ ?_)
      | (with_reducible refine LeO.bind ?_ (fun _ => ?_))
      | exact ih0 _ _ _ _ _
      | exact LeO.none _
      | refine LeO.ite ?_ ?_
      | refine LeO.bind ?_ (fun _ => ?_)
set_option maxHeartbeats 8000000 in
set_option maxRecDepth 100000 in
theorem nums_Parse.calls (k : Nat) (a0 : ByteArray) (r1 : Int) (r2 : Int) (w : World) (h : nums_Parse.f k a0 = some (r1, r2)) :
    Calls Try.prog 85 #[.string a0] w fun e w' => e = .returned (.tuple #[.int .i64 r1, .int .i64 r2]) ∧ Drawn0 w w' := by
  have H : (nums_Parse.l0 k a0 0 false (a0.size : Int) 0) = some (r1, r2) := h
  clear h
  have H' := AsZ.mk H
  clear H
  go_enter Try.func85, Try.ntmps85
  go_wp2
  try (with_reducible apply wp_scope_straight; go_wp2)
  try (with_reducible apply wp_label; go_wp2)
  go_loopg [4, 5, 11] k (fun kq v4 v5 v11 w' => ∃ (x4_1 : Int) (x5_1 : Bool) (x11_1 : Int), v4 = .int .i64 x4_1 ∧ v5 = .bool x5_1 ∧ v11 = .int .i64 x11_1 ∧ AsZ (nums_Parse.l0 kq a0 x4_1 x5_1 (a0.size : Int) x11_1 = some (r1, r2)) ∧ AsZ (kq ≤ k) ∧ Drawn0 w w')
  case atStart => exact ⟨(0), (false), (0), (by first | rfl | (simp; done) | (simp [*]; done)), (by first | rfl | (simp; done) | (simp [*]; done)), (by first | rfl | (simp; done) | (simp [*]; done)), H', ⟨Nat.le_refl _⟩, by repeat (first | exact Drawn0.refl _ | apply Drawn0.step)⟩
  case round =>
    clear H'
    obtain ⟨x4_1, x5_1, x11_1, rfl, rfl, rfl, HA, HK1, ⟨m1, rfl⟩⟩ := hrel
    cases gk with
    | zero => exact absurd HA.out (by simp [nums_Parse.l0])
    | succ k1 =>
      have H := HA.out
      clear HA
      simp only [nums_Parse.l0] at H
      by_cases c2 : x11_1 < (a0.size : Int)
      · rw [if_pos c2] at H
        have c2b0 : decide (x11_1 < (a0.size : Int)) = true := decide_eq_true c2
        clear c2
        by_cases c3 : 0 ≤ x11_1
        · rw [if_pos c3] at H
          have c3b0 : decide (0 ≤ x11_1) = true := decide_eq_true c3
          clear c3
          by_cases c4 : x11_1 < (a0.size : Int)
          · rw [if_pos c4] at H
            have c4b0 : decide (x11_1 < (a0.size : Int)) = true := decide_eq_true c4
            clear c4
            replace H := Option.bind_eq_some_iff.mp H
            obtain ⟨⟨t362, t363⟩, A60, H⟩ := H
            replace H : (if t363 = true then (if x5_1 = true then (nums_Parse.l0 k1 a0 x4_1 x5_1 (a0.size : Int) (wrap64 (x11_1 + 1))) else (if x4_1 > (wrap64 (Int.tdiv (wrap64 (4611686018427387903 - t362)) 10)) then (nums_Parse.l0 k1 a0 x4_1 true (a0.size : Int) (wrap64 (x11_1 + 1))) else (nums_Parse.l0 k1 a0 (wrap64 ((wrap64 (10 * x4_1)) + t362)) x5_1 (a0.size : Int) (wrap64 (x11_1 + 1))))) else (some (0, 3))) = some (r1, r2) := H
            have A6 := AsZ.mk A60
            clear A60
            by_cases c7 : t363 = true
            · subst c7
              have H1 : (if x5_1 = true then (nums_Parse.l0 k1 a0 x4_1 x5_1 (a0.size : Int) (wrap64 (x11_1 + 1))) else (if x4_1 > (wrap64 (Int.tdiv (wrap64 (4611686018427387903 - t362)) 10)) then (nums_Parse.l0 k1 a0 x4_1 true (a0.size : Int) (wrap64 (x11_1 + 1))) else (nums_Parse.l0 k1 a0 (wrap64 ((wrap64 (10 * x4_1)) + t362)) x5_1 (a0.size : Int) (wrap64 (x11_1 + 1))))) = some (r1, r2) := by rw [if_pos rfl] at H; exact H
              clear H
              have H := H1
              clear H1
              by_cases c8 : x5_1 = true
              · subst c8
                have H1 : (nums_Parse.l0 k1 a0 x4_1 true (a0.size : Int) (wrap64 (x11_1 + 1))) = some (r1, r2) := by rw [if_pos rfl] at H; exact H
                clear H
                have H := H1
                clear H1
                have H' := AsZ.mk H
                clear H
                have p5 : 0 ≤ (x11_1 : Int) := of_decide_eq_true (by first | (with_reducible assumption) | assumption)
                have q5 : x11_1 < (a0.size : Int) := of_decide_eq_true (by first | (with_reducible assumption) | assumption)
                have hx5 := bt_at a0 x11_1
                replace p5 := eq_true p5
                replace q5 := eq_true q5
                go_wp2_with (first | ((with_reducible refine gCa (f := 87) rfl ?_); refine gLl (some 18) rfl rfl Try.func87 (by kernel_rfl) rfl #[.int .u8 (bt a0 x11_1)] rfl (by (try simp only [List.map_toArray, List.map_cons, List.map_nil]); first | done | rfl | (simp only [List.length_drop, List.length_take]; rfl)) ?_; (with_reducible refine (nums_digit.calls (bt a0 x11_1) t362 true _ A6.out).mono ?_); rintro e w' ⟨rfl, ⟨nd, rfl⟩⟩; refine ⟨_, rfl, ?_⟩))
                try (with_reducible apply wp_scope_straight; go_wp2_with (first | ((with_reducible refine gCa (f := 87) rfl ?_); refine gLl (some 18) rfl rfl Try.func87 (by kernel_rfl) rfl #[.int .u8 (bt a0 x11_1)] rfl (by (try simp only [List.map_toArray, List.map_cons, List.map_nil]); first | done | rfl | (simp only [List.length_drop, List.length_take]; rfl)) ?_; (with_reducible refine (nums_digit.calls (bt a0 x11_1) t362 true _ A6.out).mono ?_); rintro e w' ⟨rfl, ⟨nd, rfl⟩⟩; refine ⟨_, rfl, ?_⟩)))
                try (with_reducible apply wp_label; go_wp2_with (first | ((with_reducible refine gCa (f := 87) rfl ?_); refine gLl (some 18) rfl rfl Try.func87 (by kernel_rfl) rfl #[.int .u8 (bt a0 x11_1)] rfl (by (try simp only [List.map_toArray, List.map_cons, List.map_nil]); first | done | rfl | (simp only [List.length_drop, List.length_take]; rfl)) ?_; (with_reducible refine (nums_digit.calls (bt a0 x11_1) t362 true _ A6.out).mono ?_); rintro e w' ⟨rfl, ⟨nd, rfl⟩⟩; refine ⟨_, rfl, ?_⟩)))
                go_roundg k1
                case measure => have := HK1.out; omega
                case rel => exact ⟨(x4_1), (true), (wrap64 (x11_1 + 1)), (by first | rfl | (simp; done) | (simp [*]; done)), (by first | rfl | (simp; done) | (simp [*]; done)), (by first | rfl | (simp; done) | (simp [*]; done)), H', ⟨by have := HK1.out; omega⟩, by repeat (first | exact Drawn0.refl _ | apply Drawn0.step)⟩
              · replace c8 := Bool.eq_false_iff.mpr c8
                subst c8
                have H1 : (if x4_1 > (wrap64 (Int.tdiv (wrap64 (4611686018427387903 - t362)) 10)) then (nums_Parse.l0 k1 a0 x4_1 true (a0.size : Int) (wrap64 (x11_1 + 1))) else (nums_Parse.l0 k1 a0 (wrap64 ((wrap64 (10 * x4_1)) + t362)) false (a0.size : Int) (wrap64 (x11_1 + 1)))) = some (r1, r2) := by rw [if_neg (show ¬ (false = true) by decide)] at H; exact H
                clear H
                have H := H1
                clear H1
                by_cases c9 : x4_1 > (wrap64 (Int.tdiv (wrap64 (4611686018427387903 - t362)) 10))
                · rw [if_pos c9] at H
                  have c9b0 : decide ((wrap64 (Int.tdiv (wrap64 (4611686018427387903 - t362)) 10)) < x4_1) = true := decide_eq_true c9
                  clear c9
                  have H' := AsZ.mk H
                  clear H
                  have p5 : 0 ≤ (x11_1 : Int) := of_decide_eq_true (by first | (with_reducible assumption) | assumption)
                  have q5 : x11_1 < (a0.size : Int) := of_decide_eq_true (by first | (with_reducible assumption) | assumption)
                  have hx5 := bt_at a0 x11_1
                  replace p5 := eq_true p5
                  replace q5 := eq_true q5
                  go_wp2_with (first | ((with_reducible refine gCa (f := 87) rfl ?_); refine gLl (some 18) rfl rfl Try.func87 (by kernel_rfl) rfl #[.int .u8 (bt a0 x11_1)] rfl (by (try simp only [List.map_toArray, List.map_cons, List.map_nil]); first | done | rfl | (simp only [List.length_drop, List.length_take]; rfl)) ?_; (with_reducible refine (nums_digit.calls (bt a0 x11_1) t362 true _ A6.out).mono ?_); rintro e w' ⟨rfl, ⟨nd, rfl⟩⟩; refine ⟨_, rfl, ?_⟩))
                  try (with_reducible apply wp_scope_straight; go_wp2_with (first | ((with_reducible refine gCa (f := 87) rfl ?_); refine gLl (some 18) rfl rfl Try.func87 (by kernel_rfl) rfl #[.int .u8 (bt a0 x11_1)] rfl (by (try simp only [List.map_toArray, List.map_cons, List.map_nil]); first | done | rfl | (simp only [List.length_drop, List.length_take]; rfl)) ?_; (with_reducible refine (nums_digit.calls (bt a0 x11_1) t362 true _ A6.out).mono ?_); rintro e w' ⟨rfl, ⟨nd, rfl⟩⟩; refine ⟨_, rfl, ?_⟩)))
                  try (with_reducible apply wp_label; go_wp2_with (first | ((with_reducible refine gCa (f := 87) rfl ?_); refine gLl (some 18) rfl rfl Try.func87 (by kernel_rfl) rfl #[.int .u8 (bt a0 x11_1)] rfl (by (try simp only [List.map_toArray, List.map_cons, List.map_nil]); first | done | rfl | (simp only [List.length_drop, List.length_take]; rfl)) ?_; (with_reducible refine (nums_digit.calls (bt a0 x11_1) t362 true _ A6.out).mono ?_); rintro e w' ⟨rfl, ⟨nd, rfl⟩⟩; refine ⟨_, rfl, ?_⟩)))
                  go_roundg k1
                  case measure => have := HK1.out; omega
                  case rel => exact ⟨(x4_1), (true), (wrap64 (x11_1 + 1)), (by first | rfl | (simp; done) | (simp [*]; done)), (by first | rfl | (simp; done) | (simp [*]; done)), (by first | rfl | (simp; done) | (simp [*]; done)), H', ⟨by have := HK1.out; omega⟩, by repeat (first | exact Drawn0.refl _ | apply Drawn0.step)⟩
                · rw [if_neg c9] at H
                  have c9b0 : decide ((wrap64 (Int.tdiv (wrap64 (4611686018427387903 - t362)) 10)) < x4_1) = false := decide_eq_false c9
                  clear c9
                  have H' := AsZ.mk H
                  clear H
                  have p5 : 0 ≤ (x11_1 : Int) := of_decide_eq_true (by first | (with_reducible assumption) | assumption)
                  have q5 : x11_1 < (a0.size : Int) := of_decide_eq_true (by first | (with_reducible assumption) | assumption)
                  have hx5 := bt_at a0 x11_1
                  replace p5 := eq_true p5
                  replace q5 := eq_true q5
                  go_wp2_with (first | ((with_reducible refine gCa (f := 87) rfl ?_); refine gLl (some 18) rfl rfl Try.func87 (by kernel_rfl) rfl #[.int .u8 (bt a0 x11_1)] rfl (by (try simp only [List.map_toArray, List.map_cons, List.map_nil]); first | done | rfl | (simp only [List.length_drop, List.length_take]; rfl)) ?_; (with_reducible refine (nums_digit.calls (bt a0 x11_1) t362 true _ A6.out).mono ?_); rintro e w' ⟨rfl, ⟨nd, rfl⟩⟩; refine ⟨_, rfl, ?_⟩))
                  try (with_reducible apply wp_scope_straight; go_wp2_with (first | ((with_reducible refine gCa (f := 87) rfl ?_); refine gLl (some 18) rfl rfl Try.func87 (by kernel_rfl) rfl #[.int .u8 (bt a0 x11_1)] rfl (by (try simp only [List.map_toArray, List.map_cons, List.map_nil]); first | done | rfl | (simp only [List.length_drop, List.length_take]; rfl)) ?_; (with_reducible refine (nums_digit.calls (bt a0 x11_1) t362 true _ A6.out).mono ?_); rintro e w' ⟨rfl, ⟨nd, rfl⟩⟩; refine ⟨_, rfl, ?_⟩)))
                  try (with_reducible apply wp_label; go_wp2_with (first | ((with_reducible refine gCa (f := 87) rfl ?_); refine gLl (some 18) rfl rfl Try.func87 (by kernel_rfl) rfl #[.int .u8 (bt a0 x11_1)] rfl (by (try simp only [List.map_toArray, List.map_cons, List.map_nil]); first | done | rfl | (simp only [List.length_drop, List.length_take]; rfl)) ?_; (with_reducible refine (nums_digit.calls (bt a0 x11_1) t362 true _ A6.out).mono ?_); rintro e w' ⟨rfl, ⟨nd, rfl⟩⟩; refine ⟨_, rfl, ?_⟩)))
                  go_roundg k1
                  case measure => have := HK1.out; omega
                  case rel => exact ⟨(wrap64 ((wrap64 (10 * x4_1)) + t362)), (false), (wrap64 (x11_1 + 1)), (by first | rfl | (simp; done) | (simp [*]; done)), (by first | rfl | (simp; done) | (simp [*]; done)), (by first | rfl | (simp; done) | (simp [*]; done)), H', ⟨by have := HK1.out; omega⟩, by repeat (first | exact Drawn0.refl _ | apply Drawn0.step)⟩
            · replace c7 := Bool.eq_false_iff.mpr c7
              subst c7
              have H1 : (some (0, 3)) = some (r1, r2) := by rw [if_neg (show ¬ (false = true) by decide)] at H; exact H
              clear H
              have H := H1
              clear H1
              simp only [Option.some.injEq, Prod.mk.injEq] at H
              obtain ⟨rfl, rfl⟩ := H
              have p5 : 0 ≤ (x11_1 : Int) := of_decide_eq_true (by first | (with_reducible assumption) | assumption)
              have q5 : x11_1 < (a0.size : Int) := of_decide_eq_true (by first | (with_reducible assumption) | assumption)
              have hx5 := bt_at a0 x11_1
              replace p5 := eq_true p5
              replace q5 := eq_true q5
              go_wp2_with (first | ((with_reducible refine gCa (f := 87) rfl ?_); refine gLl (some 18) rfl rfl Try.func87 (by kernel_rfl) rfl #[.int .u8 (bt a0 x11_1)] rfl (by (try simp only [List.map_toArray, List.map_cons, List.map_nil]); first | done | rfl | (simp only [List.length_drop, List.length_take]; rfl)) ?_; (with_reducible refine (nums_digit.calls (bt a0 x11_1) t362 false _ A6.out).mono ?_); rintro e w' ⟨rfl, ⟨nd, rfl⟩⟩; refine ⟨_, rfl, ?_⟩))
              try (with_reducible apply wp_scope_straight; go_wp2_with (first | ((with_reducible refine gCa (f := 87) rfl ?_); refine gLl (some 18) rfl rfl Try.func87 (by kernel_rfl) rfl #[.int .u8 (bt a0 x11_1)] rfl (by (try simp only [List.map_toArray, List.map_cons, List.map_nil]); first | done | rfl | (simp only [List.length_drop, List.length_take]; rfl)) ?_; (with_reducible refine (nums_digit.calls (bt a0 x11_1) t362 false _ A6.out).mono ?_); rintro e w' ⟨rfl, ⟨nd, rfl⟩⟩; refine ⟨_, rfl, ?_⟩)))
              try (with_reducible apply wp_label; go_wp2_with (first | ((with_reducible refine gCa (f := 87) rfl ?_); refine gLl (some 18) rfl rfl Try.func87 (by kernel_rfl) rfl #[.int .u8 (bt a0 x11_1)] rfl (by (try simp only [List.map_toArray, List.map_cons, List.map_nil]); first | done | rfl | (simp only [List.length_drop, List.length_take]; rfl)) ?_; (with_reducible refine (nums_digit.calls (bt a0 x11_1) t362 false _ A6.out).mono ?_); rintro e w' ⟨rfl, ⟨nd, rfl⟩⟩; refine ⟨_, rfl, ?_⟩)))
              try rw [Exit.noGoto_ret]
              go_ret2
              exact ⟨by first | rfl | (simp; done) | (simp [*]; done) | exact nEm _ | exact eEm _, by repeat (first | exact Drawn0.refl _ | apply Drawn0.step)⟩
          · rw [if_neg c4] at H
            exact absurd H (by simp)
        · rw [if_neg c3] at H
          exact absurd H (by simp)
      · rw [if_neg c2] at H
        have c2b0 : decide (x11_1 < (a0.size : Int)) = false := decide_eq_false c2
        clear c2
        by_cases c10 : a0.toList = ([] : List UInt8)
        · rw [if_pos c10] at H
          have c10b0 : (a0.toList == ([] : List UInt8)) = true := beq_iff_eq.mpr c10
          have c10b1 : (a0.toList != ([] : List UInt8)) = false := bne_eq_false_iff_eq.mpr c10
          clear c10
          simp only [Option.some.injEq, Prod.mk.injEq] at H
          obtain ⟨rfl, rfl⟩ := H
          go_wp2
          try (with_reducible apply wp_scope_straight; go_wp2)
          try (with_reducible apply wp_label; go_wp2)
          try rw [Exit.noGoto_ret]
          go_ret2
          exact ⟨by first | rfl | (simp; done) | (simp [*]; done) | exact nEm _ | exact eEm _, by repeat (first | exact Drawn0.refl _ | apply Drawn0.step)⟩
        · rw [if_neg c10] at H
          have c10b0 : (a0.toList == ([] : List UInt8)) = false := beq_eq_false_iff_ne.mpr c10
          have c10b1 : (a0.toList != ([] : List UInt8)) = true := bne_iff_ne.mpr c10
          by_cases c11 : x5_1 = true
          · subst c11
            have H1 : (some (0, 9)) = some (r1, r2) := by rw [if_pos rfl] at H; exact H
            clear H
            have H := H1
            clear H1
            simp only [Option.some.injEq, Prod.mk.injEq] at H
            obtain ⟨rfl, rfl⟩ := H
            go_wp2
            try (with_reducible apply wp_scope_straight; go_wp2)
            try (with_reducible apply wp_label; go_wp2)
            try rw [Exit.noGoto_ret]
            go_ret2
            exact ⟨by first | rfl | (simp; done) | (simp [*]; done) | exact nEm _ | exact eEm _, by repeat (first | exact Drawn0.refl _ | apply Drawn0.step)⟩
          · replace c11 := Bool.eq_false_iff.mpr c11
            subst c11
            have H1 : (some (x4_1, 0)) = some (r1, r2) := by rw [if_neg (show ¬ (false = true) by decide)] at H; exact H
            clear H
            have H := H1
            clear H1
            simp only [Option.some.injEq, Prod.mk.injEq] at H
            obtain ⟨rfl, rfl⟩ := H
            go_wp2
            try (with_reducible apply wp_scope_straight; go_wp2)
            try (with_reducible apply wp_label; go_wp2)
            try rw [Exit.noGoto_ret]
            go_ret2
            exact ⟨by first | rfl | (simp; done) | (simp [*]; done) | exact nEm _ | exact eEm _, by repeat (first | exact Drawn0.refl _ | apply Drawn0.step)⟩
/-- A state of type 109 at block g of W; what its slices lead to came in by w0. -/
def IsS109 (w0 W : World) (g : Nat) (f0 : Int) : Prop := W.heap[g]? = some (.cells #[.int .i64 f0] 109 (0, 0)) ∧ w0.heap.size ≤ g
theorem IsS109.grown {w0 W : World} {g : Nat} {f0 : Int} {W1 : World} {row : Option Nat} (h : IsS109 w0 W g f0) (hw : W.grownBy W1 row) (hne : some g ≠ row) : IsS109 w0 W1 g f0 := by
  obtain ⟨hb, hg⟩ := h
  exact ⟨blk_grown hb hw hne, hg⟩
theorem IsS109.kept {w0 W : World} {g : Nat} {f0 : Int} {W1 : World} {S : Nat → Prop} (h : IsS109 w0 W g f0) (hk : Kept W W1 S) (hne : ¬ S g) : IsS109 w0 W1 g f0 := by
  obtain ⟨hb, hg⟩ := h
  exact ⟨blk_kept hb hk hne, hg⟩
theorem IsS109.below {w0 W : World} {g : Nat} {f0 : Int} {W1 : World} (h : IsS109 w0 W g f0) (hw : Below W.heap.size W W1) : IsS109 w0 W1 g f0 := h.grown (grown_of_below hw none) (by simp)
theorem IsS109.alloc {w0 W : World} {g : Nat} {f0 : Int} (h : IsS109 w0 W g f0) (o : Obj) : IsS109 w0 (W.alloc o) g f0 := h.below (aBl (Below.refl _ _) o)
theorem IsS109.drewN {w0 W : World} {g : Nat} {f0 : Int} (h : IsS109 w0 W g f0) (m : Nat) : IsS109 w0 (W.drewN m) g f0 := h
theorem IsS109.drew {w0 W : World} {g : Nat} {f0 : Int} (h : IsS109 w0 W g f0) : IsS109 w0 W.drew g f0 := h
theorem IsS109.apart {w0 W : World} {g : Nat} {f0 : Int} {α : Type} {d : Kd α} {e : Nat} {base : Nat} {ok : Nat → Prop} {v : Value} {xs : List α} (h : IsS109 w0 W g f0) (ho : d.R e W base ok v xs) (ht : ∀ q, q ∈ e :: d.E → q ≠ 109) : d.R e W base (fun k => ok k ∧ k ≠ g) v xs := by
  obtain ⟨hb, hg⟩ := h
  exact Kd.R_types ho hb ht
theorem IsS109.own_ne {w0 W : World} {g : Nat} {f0 : Int} {α : Type} {d : Kd α} {e : Nat} {base : Nat} {ok : Nat → Prop} {v : Value} {xs : List α} (h : IsS109 w0 W g f0) (ho : d.R e W base ok v xs) (ht : e ≠ 109) : some g ≠ v.ownBlock := by
  obtain ⟨hb, hg⟩ := h
  exact Kd.R_ne ho hb ht
theorem IsS109.ge {w0 W : World} {g : Nat} {f0 : Int} (h : IsS109 w0 W g f0) : w0.heap.size ≤ g := by
  obtain ⟨hb, hg⟩ := h
  exact hg
theorem cellS109_0 {W : World} {g : Nat} {f0 : Int} (h : W.heap[g]? = some (.cells #[.int .i64 f0] 109 (0, 0))) : W.cell? ⟨g, 0, none⟩ = some (.int .i64 f0) := (bCe h 0).trans rfl
theorem IsS109.set_0 {w0 W : World} {g : Nat} {f0 : Int} (h : IsS109 w0 W g f0) (x : Int) : IsS109 w0 (W.setCell ⟨g, 0, none⟩ (.int .i64 x)) g x := by
  obtain ⟨hb, hg⟩ := h
  exact ⟨by simpa using blk_set hb 0 (.int .i64 x), hg⟩
def crNum.f (k : Nat) (s0_0 : Int) (a1 : ByteArray) : Option (Int × Int) := (nums_Parse.f k a1).bind fun bt364 => (if bt364.2 = 3 then (some (bt364.1, bt364.2)) else (if s0_0 = 0 then (some (bt364.1, bt364.2)) else (some (bt364.1, s0_0))))
theorem crNum.mono : ∀ a0 a1 k, LeO (crNum.f k a0 a1) (crNum.f (k + 1) a0 a1) := by
  intro a0 a1 k
  unfold crNum.f
  repeat' first
      | (with_reducible exact nums_Parse.mono _ _)
      | (with_reducible exact LeO.refl _)
      | (with_reducible exact LeO.none _)
      | (with_reducible refine LeO.ite ?_ ?_)
      | (with_reducible refine LeO.bind ?_ (fun _ => ?_))
      | exact nums_Parse.mono _ _
      | exact LeO.none _
      | refine LeO.ite ?_ ?_
      | refine LeO.bind ?_ (fun _ => ?_)
set_option maxHeartbeats 8000000 in
set_option maxRecDepth 100000 in
theorem crNum.calls (k : Nat) (g : Nat) (s0_0 : Int) (a1 : ByteArray) (r1 : Int) (r2 : Int) (w0 w : World) (hI : IsS109 w0 w g s0_0) (hB : Below w0.heap.size w0 w) (h : crNum.f k s0_0 a1 = some (r1, r2)) :
    Calls Try.prog 81 #[.pointer (some ⟨g, 0, none⟩), .string a1] w fun e w' => e = .returned (.int .i64 r1) ∧ IsS109 w0 w' g r2 ∧ Below w0.heap.size w0 w' ∧ KeepBut w w' g none := by
  have HI0 := AsZ.mk hI
  have HK := AsZ.mk (KeepBut.refl w g none)
  have HL := AsZ.mk hB.size
  clear hI
  have HW0 := AsZ.mk hB.size
  have HB := AsZ.mk hB
  clear hB
  have H : ((nums_Parse.f k a1).bind fun bt364 => (if bt364.2 = 3 then (some (bt364.1, bt364.2)) else (if s0_0 = 0 then (some (bt364.1, bt364.2)) else (some (bt364.1, s0_0))))) = some (r1, r2) := h
  clear h
  replace H := Option.bind_eq_some_iff.mp H
  obtain ⟨⟨t364, t365⟩, A30, H⟩ := H
  replace H : (if t365 = 3 then (some (t364, t365)) else (if s0_0 = 0 then (some (t364, t365)) else (some (t364, s0_0)))) = some (r1, r2) := H
  have A3 := AsZ.mk A30
  clear A30
  by_cases c4 : t365 = 3
  · rw [if_pos c4] at H
    have c4b0 : (t365 == 3) = true := beq_iff_eq.mpr c4
    have c4b1 : (t365 != 3) = false := bne_eq_false_iff_eq.mpr c4
    clear c4
    simp only [Option.some.injEq, Prod.mk.injEq] at H
    obtain ⟨rfl, rfl⟩ := H
    go_enter Try.func81, Try.ntmps81
    go_wp2_with (first | ((with_reducible refine gCa (f := 85) rfl ?_); refine gLl (some 9) rfl rfl Try.func85 (by kernel_rfl) rfl #[.string a1] rfl (by (try simp only [List.map_toArray, List.map_cons, List.map_nil]); first | done | rfl | (simp only [List.length_drop, List.length_take]; rfl)) ?_; (with_reducible refine (nums_Parse.calls k a1 t364 t365 _ A3.out).mono ?_); rintro e w' ⟨rfl, ⟨nd, rfl⟩⟩; refine ⟨_, rfl, ?_⟩; (try (rw [drewN_self w]; generalize hq_ : World.drewN w _ = wq_; have n0_ : AsZ (IsS109 w0 wq_ g s0_0) := ⟨by rw [← hq_]; exact (by repeat (first | (with_reducible first | exact HI0.out | apply IsS109.alloc | apply IsS109.drewN | apply IsS109.drew | apply IsS109.set_0) | exact HI0.out))⟩; have n1_ : AsZ (KeepBut w wq_ g none) := ⟨by rw [← hq_]; exact (by repeat (first | (with_reducible first | exact HK.out | apply KeepBut.set_ | apply keep_drewN | apply keep_drew | apply keep_alloc) | exact HK.out))⟩; have n2_ : AsZ (Below w0.heap.size w0 wq_) := ⟨by rw [← hq_]; exact (by repeat (first | (with_reducible first | exact HB.out | apply aBl | apply pBd | apply dBl | refine sBl ?_ (IsS109.ge HI0.out)) | exact HB.out))⟩; clear HI0 HK HB hq_; have HI0 := n0_; have HK := n1_; have HB := n2_; clear n0_ n1_ n2_)); obtain ⟨HGz5, hgz5⟩ := HI0.out; have hcz5_0 := cellS109_0 HGz5; have hfz5_0 := bFz HGz5 0; clear HGz5 hgz5))
    go_ret
    exact ⟨by first | rfl | exact nEm _ | exact eEm _ | (simp [eWn, eWs] <;> rfl) | (simp [*, eWn, eWs] <;> rfl), by repeat (first | (with_reducible first | exact HI0.out | apply IsS109.alloc | apply IsS109.drewN | apply IsS109.drew | apply IsS109.set_0) | exact HI0.out), by repeat (first | (with_reducible first | exact HB.out | apply aBl | apply pBd | apply dBl | refine sBl ?_ (IsS109.ge HI0.out)) | exact HB.out), by repeat (first | (with_reducible first | exact HK.out | apply KeepBut.set_ | apply keep_drewN | apply keep_drew | apply keep_alloc) | exact HK.out)⟩
  · rw [if_neg c4] at H
    have c4b0 : (t365 == 3) = false := beq_eq_false_iff_ne.mpr c4
    have c4b1 : (t365 != 3) = true := bne_iff_ne.mpr c4
    by_cases c6 : s0_0 = 0
    · rw [if_pos c6] at H
      have c6b0 : (s0_0 == 0) = true := beq_iff_eq.mpr c6
      have c6b1 : (s0_0 != 0) = false := bne_eq_false_iff_eq.mpr c6
      clear c6
      simp only [Option.some.injEq, Prod.mk.injEq] at H
      obtain ⟨rfl, rfl⟩ := H
      go_enter Try.func81, Try.ntmps81
      go_wp2_with (first | ((with_reducible refine gCa (f := 85) rfl ?_); refine gLl (some 9) rfl rfl Try.func85 (by kernel_rfl) rfl #[.string a1] rfl (by (try simp only [List.map_toArray, List.map_cons, List.map_nil]); first | done | rfl | (simp only [List.length_drop, List.length_take]; rfl)) ?_; (with_reducible refine (nums_Parse.calls k a1 t364 t365 _ A3.out).mono ?_); rintro e w' ⟨rfl, ⟨nd, rfl⟩⟩; refine ⟨_, rfl, ?_⟩; (try (rw [drewN_self w]; generalize hq_ : World.drewN w _ = wq_; have n0_ : AsZ (IsS109 w0 wq_ g s0_0) := ⟨by rw [← hq_]; exact (by repeat (first | (with_reducible first | exact HI0.out | apply IsS109.alloc | apply IsS109.drewN | apply IsS109.drew | apply IsS109.set_0) | exact HI0.out))⟩; have n1_ : AsZ (KeepBut w wq_ g none) := ⟨by rw [← hq_]; exact (by repeat (first | (with_reducible first | exact HK.out | apply KeepBut.set_ | apply keep_drewN | apply keep_drew | apply keep_alloc) | exact HK.out))⟩; have n2_ : AsZ (Below w0.heap.size w0 wq_) := ⟨by rw [← hq_]; exact (by repeat (first | (with_reducible first | exact HB.out | apply aBl | apply pBd | apply dBl | refine sBl ?_ (IsS109.ge HI0.out)) | exact HB.out))⟩; clear HI0 HK HB hq_; have HI0 := n0_; have HK := n1_; have HB := n2_; clear n0_ n1_ n2_)); obtain ⟨HGz7, hgz7⟩ := HI0.out; have hcz7_0 := cellS109_0 HGz7; have hfz7_0 := bFz HGz7 0; clear HGz7 hgz7))
      go_ret
      exact ⟨by first | rfl | exact nEm _ | exact eEm _ | (simp [eWn, eWs] <;> rfl) | (simp [*, eWn, eWs] <;> rfl), by repeat (first | (with_reducible first | exact HI0.out | apply IsS109.alloc | apply IsS109.drewN | apply IsS109.drew | apply IsS109.set_0) | exact HI0.out), by repeat (first | (with_reducible first | exact HB.out | apply aBl | apply pBd | apply dBl | refine sBl ?_ (IsS109.ge HI0.out)) | exact HB.out), by repeat (first | (with_reducible first | exact HK.out | apply KeepBut.set_ | apply keep_drewN | apply keep_drew | apply keep_alloc) | exact HK.out)⟩
    · rw [if_neg c6] at H
      have c6b0 : (s0_0 == 0) = false := beq_eq_false_iff_ne.mpr c6
      have c6b1 : (s0_0 != 0) = true := bne_iff_ne.mpr c6
      simp only [Option.some.injEq, Prod.mk.injEq] at H
      obtain ⟨rfl, rfl⟩ := H
      go_enter Try.func81, Try.ntmps81
      go_wp2_with (first | ((with_reducible refine gCa (f := 85) rfl ?_); refine gLl (some 9) rfl rfl Try.func85 (by kernel_rfl) rfl #[.string a1] rfl (by (try simp only [List.map_toArray, List.map_cons, List.map_nil]); first | done | rfl | (simp only [List.length_drop, List.length_take]; rfl)) ?_; (with_reducible refine (nums_Parse.calls k a1 t364 t365 _ A3.out).mono ?_); rintro e w' ⟨rfl, ⟨nd, rfl⟩⟩; refine ⟨_, rfl, ?_⟩; obtain ⟨HGz8, hgz8⟩ := HI0.out; have hcz8_0 := cellS109_0 HGz8; have hfz8_0 := bFz HGz8 0; clear HGz8 hgz8))
      go_ret
      exact ⟨by first | rfl | exact nEm _ | exact eEm _ | (simp [eWn, eWs] <;> rfl) | (simp [*, eWn, eWs] <;> rfl), by repeat (first | (with_reducible first | exact HI0.out | apply IsS109.alloc | apply IsS109.drewN | apply IsS109.drew | apply IsS109.set_0) | exact HI0.out), by repeat (first | (with_reducible first | exact HB.out | apply aBl | apply pBd | apply dBl | refine sBl ?_ (IsS109.ge HI0.out)) | exact HB.out), by repeat (first | (with_reducible first | exact HK.out | apply KeepBut.set_ | apply keep_drewN | apply keep_drew | apply keep_alloc) | exact HK.out)⟩
end Go.Proofs.Ytfcengffgkmacaa.PAll
