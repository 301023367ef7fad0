/- Go functions of this seat as plain functions, and proofs that the code comes to them: written by a program of this session's over the kit's print.py. -/
import Derived.Test.YtahoibanpplhbaaPAllx0
import Derived.Test.YtahoibanpplhbaaPAllx9
namespace Go.Proofs.Ytahoibanpplhbaa.PAll
open Go.RowKit Go.Proofs.Ytahoibanpplhbaa.Xw Go.Proofs.YtahoibanpplhbaaW.PrintWords Go.Proofs.YtahoibanpplhbaaW.PrintLast Go.Proofs.YtahoibanpplhbaaW.PrintMore
attribute [local go_sem] max2_int min2_int max_two min_two max_three min_three max_four min_four   -- for this text's walks alone
set_option linter.unusedVariables false
set_option linter.unusedSimpArgs false

/-! ### spenceref01_Parse: function 34 -/
mutual
def spenceref01_Parse.l0 : Nat → ByteArray → Int → Option (Int × Int)
  | 0, _, _ => none
  | k + 1, x0, x4 => if x4 < (x0.size : Int) then (if 0 ≤ x4 then ((spenceref01_Digit.f (bt x0 x4)).bind fun t141 => (if t141 = true then (spenceref01_Parse.l0 k x0 (wrap64 (x4 + 1))) else (some (0, 3)))) else (none)) else (spenceref01_Parse.l1 k x0 0)
def spenceref01_Parse.j2 : Nat → ByteArray → Int → Option (Int × Int)
  | 0, _, _ => none
  | k + 1, x0, x5 => if 0 ≤ x5 then (if x5 ≤ (x0.size : Int) then (if ((x0.extract (x5 : Int).toNat x0.size).size : Int) > 19 then (spenceref01_Parse.j3 k (x0.extract (x5 : Int).toNat x0.size) true) else (if ((x0.extract (x5 : Int).toNat x0.size).size : Int) = 19 then (spenceref01_Parse.j3 k (x0.extract (x5 : Int).toNat x0.size) (!(Op.bytesLess ((x0.extract (x5 : Int).toNat x0.size).toList) ([52, 54, 49, 49, 54, 56, 54, 48, 49, 56, 52, 50, 55, 51, 56, 55, 57, 48, 51] : List UInt8) || ((x0.extract (x5 : Int).toNat x0.size).toList) == ([52, 54, 49, 49, 54, 56, 54, 48, 49, 56, 52, 50, 55, 51, 56, 55, 57, 48, 51] : List UInt8)))) else (spenceref01_Parse.j3 k (x0.extract (x5 : Int).toNat x0.size) false))) else (none)) else (none)
def spenceref01_Parse.j3 : Nat → ByteArray → Bool → Option (Int × Int)
  | 0, _, _ => none
  | k + 1, x6, x50 => if x50 = true then (some (0, 9)) else (spenceref01_Parse.l2 k x6 0 0)
def spenceref01_Parse.l2 : Nat → ByteArray → Int → Int → Option (Int × Int)
  | 0, _, _, _ => none
  | k + 1, x6, x7, x8 => if x8 < (x6.size : Int) then (if 0 ≤ x8 then (spenceref01_Parse.l2 k x6 (wrap64 ((wrap64 ((wrap64 (10 * x7)) + (wrap64 (bt x6 x8)))) - 48)) (wrap64 (x8 + 1))) else (none)) else (some (x7, 0))
def spenceref01_Parse.l1 : Nat → ByteArray → Int → Option (Int × Int)
  | 0, _, _ => none
  | k + 1, x0, x5 => if x5 < (wrap64 ((x0.size : Int) - 1)) then (if 0 ≤ x5 then (if x5 < (x0.size : Int) then (if (bt x0 x5) = 48 then (spenceref01_Parse.l1 k x0 (wrap64 (x5 + 1))) else (spenceref01_Parse.j2 k x0 x5)) else (none)) else (none)) else (spenceref01_Parse.j2 k x0 x5)
end
def spenceref01_Parse.f (k : Nat) (a0 : ByteArray) : Option (Int × Int) := if (a0.size : Int) = 0 then (some (0, 3)) else (spenceref01_Parse.l0 k a0 0)
theorem spenceref01_Parse.mono_l : ∀ k, (∀ y0 y1, LeO (spenceref01_Parse.l0 k y0 y1) (spenceref01_Parse.l0 (k + 1) y0 y1)) ∧ (∀ y0 y1, LeO (spenceref01_Parse.j2 k y0 y1) (spenceref01_Parse.j2 (k + 1) y0 y1)) ∧ (∀ y0 y1, LeO (spenceref01_Parse.j3 k y0 y1) (spenceref01_Parse.j3 (k + 1) y0 y1)) ∧ (∀ y0 y1 y2, LeO (spenceref01_Parse.l2 k y0 y1 y2) (spenceref01_Parse.l2 (k + 1) y0 y1 y2)) ∧ (∀ y0 y1, LeO (spenceref01_Parse.l1 k y0 y1) (spenceref01_Parse.l1 (k + 1) y0 y1))
  | 0 => ⟨fun _ _ r h => by simp [spenceref01_Parse.l0] at h, fun _ _ r h => by simp [spenceref01_Parse.j2] at h, fun _ _ r h => by simp [spenceref01_Parse.j3] at h, fun _ _ _ r h => by simp [spenceref01_Parse.l2] at h, fun _ _ r h => by simp [spenceref01_Parse.l1] at h⟩
  | k + 1 => by
    obtain ⟨ih0, ih1, ih2, ih3, ih4⟩ := spenceref01_Parse.mono_l k
    refine ⟨?_, ?_, ?_, ?_, ?_⟩
    · intro y0 y1
      unfold spenceref01_Parse.l0
      repeat' first
      | (with_reducible exact ih0 _ _)
      | (with_reducible exact ih1 _ _)
      | (with_reducible exact ih2 _ _)
      | (with_reducible exact ih3 _ _ _)
      | (with_reducible exact ih4 _ _)
      | (with_reducible exact LeO.refl _)
      | (with_reducible exact LeO.none _)
      | (with_reducible refine LeO.ite ?_ ?_)
      | (with_reducible refine LeO.bind ?_ (fun _ => ?_))
      | exact ih0 _ _
      | exact ih1 _ _
      | exact ih2 _ _
      | exact ih3 _ _ _
      | exact ih4 _ _
      | exact LeO.none _
      | refine LeO.ite ?_ ?_
      | refine LeO.bind ?_ (fun _ => ?_)
    · intro y0 y1
      unfold spenceref01_Parse.j2
      repeat' first
      | (with_reducible exact ih0 _ _)
      | (with_reducible exact ih1 _ _)
      | (with_reducible exact ih2 _ _)
      | (with_reducible exact ih3 _ _ _)
      | (with_reducible exact ih4 _ _)
      | (with_reducible exact LeO.refl _)
      | (with_reducible exact LeO.none _)
      | (with_reducible refine LeO.ite ?_ ?_)
      | (with_reducible refine LeO.bind ?_ (fun _ => ?_))
      | exact ih0 _ _
      | exact ih1 _ _
      | exact ih2 _ _
      | exact ih3 _ _ _
      | exact ih4 _ _
      | exact LeO.none _
      | refine LeO.ite ?_ ?_
      | refine LeO.bind ?_ (fun _ => ?_)
    · intro y0 y1
      unfold spenceref01_Parse.j3
      repeat' first
      | (with_reducible exact ih0 _ _)
      | (with_reducible exact ih1 _ _)
      | (with_reducible exact ih2 _ _)
      | (with_reducible exact ih3 _ _ _)
      | (with_reducible exact ih4 _ _)
      | (with_reducible exact LeO.refl _)
      | (with_reducible exact LeO.none _)
      | (with_reducible refine LeO.ite ?_ ?_)
      | (with_reducible refine LeO.bind ?_ (fun _ => ?_))
      | exact ih0 _ _
      | exact ih1 _ _
      | exact ih2 _ _
      | exact ih3 _ _ _
      | exact ih4 _ _
      | exact LeO.none _
      | refine LeO.ite ?_ ?_
      | refine LeO.bind ?_ (fun _ => ?_)
    · intro y0 y1 y2
      unfold spenceref01_Parse.l2
      repeat' first
      | (with_reducible exact ih0 _ _)
      | (with_reducible exact ih1 _ _)
      | (with_reducible exact ih2 _ _)
      | (with_reducible exact ih3 _ _ _)
      | (with_reducible exact ih4 _ _)
      | (with_reducible exact LeO.refl _)
      | (with_reducible exact LeO.none _)
      | (with_reducible refine LeO.ite ?_ ?_)
      | (with_reducible refine LeO.bind ?_ (fun _ => ?_))
      | exact ih0 _ _
      | exact ih1 _ _
      | exact ih2 _ _
      | exact ih3 _ _ _
      | exact ih4 _ _
      | exact LeO.none _
      | refine LeO.ite ?_ ?_
      | refine LeO.bind ?_ (fun _ => ?_)
    · intro y0 y1
      unfold spenceref01_Parse.l1
      repeat' first
      | (with_reducible exact ih0 _ _)
      | (with_reducible exact ih1 _ _)
      | (with_reducible exact ih2 _ _)
      | (with_reducible exact ih3 _ _ _)
      | (with_reducible exact ih4 _ _)
      | (with_reducible exact LeO.refl _)
      | (with_reducible exact LeO.none _)
      | (with_reducible refine LeO.ite ?_ ?_)
      | (with_reducible refine LeO.bind ?_ (fun _ => ?_))
      | exact ih0 _ _
      | exact ih1 _ _
      | exact ih2 _ _
      | exact ih3 _ _ _
      | exact ih4 _ _
      | exact LeO.none _
      | refine LeO.ite ?_ ?_
      | refine LeO.bind ?_ (fun _ => ?_)
theorem spenceref01_Parse.mono : ∀ a0 k, LeO (spenceref01_Parse.f k a0) (spenceref01_Parse.f (k + 1) a0) := by
  intro a0 k
  obtain ⟨ih0, ih1, ih2, ih3, ih4⟩ := spenceref01_Parse.mono_l k
  unfold spenceref01_Parse.f
  repeat' first
      | (with_reducible exact ih0 _ _)
      | (with_reducible exact ih1 _ _)
      | (with_reducible exact ih2 _ _)
      | (with_reducible exact ih3 _ _ _)
      | (with_reducible exact ih4 _ _)
      | (with_reducible exact LeO.refl _)
      | (with_reducible exact LeO.none _)
      | (with_reducible refine LeO.ite ?_ ?_)
      | (with_reducible refine LeO.bind ?_ (fun _ => ?_))
      | exact ih0 _ _
      | exact ih1 _ _
      | exact ih2 _ _
      | exact ih3 _ _ _
      | exact ih4 _ _
      | exact LeO.none _
      | refine LeO.ite ?_ ?_
      | refine LeO.bind ?_ (fun _ => ?_)
set_option maxHeartbeats 8000000 in
set_option maxRecDepth 100000 in
theorem spenceref01_Parse.calls (k : Nat) (a0 : ByteArray) (r1 : Int) (r2 : Int) (w : World) (h : spenceref01_Parse.f k a0 = some (r1, r2)) :
    Calls Try.prog 34 #[.string a0] w fun e w' => e = .returned (.tuple #[.int .i64 r1, .int .i64 r2]) ∧ Drawn0 w w' := by
  have H : (if (a0.size : Int) = 0 then (some (0, 3)) else (spenceref01_Parse.l0 k a0 0)) = some (r1, r2) := h
  clear h
  by_cases c2 : (a0.size : Int) = 0
  · rw [if_pos c2] at H
    have c2b0 : ((a0.size : Int) == 0) = true := beq_iff_eq.mpr c2
    have c2b1 : ((a0.size : Int) != 0) = false := bne_eq_false_iff_eq.mpr c2
    clear c2
    simp only [Option.some.injEq, Prod.mk.injEq] at H
    obtain ⟨rfl, rfl⟩ := H
    go_enter Try.func34, Try.ntmps34
    go_wp2
    go_ret2
    exact ⟨by first | rfl | (simp; done) | (simp [*]; done) | exact ne_empty _ | exact eq_empty _, by repeat (first | exact Drawn0.refl _ | apply Drawn0.step)⟩
  · rw [if_neg c2] at H
    have c2b0 : ((a0.size : Int) == 0) = false := beq_eq_false_iff_ne.mpr c2
    have c2b1 : ((a0.size : Int) != 0) = true := bne_iff_ne.mpr c2
    have H' := Aside0.mk H
    clear H
    go_enter Try.func34, Try.ntmps34
    go_wp2
    go_loopg [4] k (fun kq v4 w' => ∃ (x4_1 : Int), v4 = .int .i64 x4_1 ∧ Aside0 (spenceref01_Parse.l0 kq a0 x4_1 = some (r1, r2)) ∧ Aside0 (kq ≤ k) ∧ Drawn0 w w')
    case atStart => exact ⟨(0), (by first | rfl | (simp; done) | (simp [*]; done)), H', ⟨Nat.le_refl _⟩, by repeat (first | exact Drawn0.refl _ | apply Drawn0.step)⟩
    case round =>
      clear H'
      try clear c2
      try clear c2b0
      try clear c2b1
      try clear p2
      obtain ⟨x4_1, rfl, HA, HK1, ⟨m1, rfl⟩⟩ := hrel
      cases gk with
      | zero => exact absurd HA.out (by simp [spenceref01_Parse.l0])
      | succ k1 =>
        have H := HA.out
        clear HA
        simp only [spenceref01_Parse.l0] at H
        by_cases c3 : x4_1 < (a0.size : Int)
        · rw [if_pos c3] at H
          have c3b0 : decide (x4_1 < (a0.size : Int)) = true := decide_eq_true c3
          clear c3
          by_cases c4 : 0 ≤ x4_1
          · rw [if_pos c4] at H
            have c4b0 : decide (0 ≤ x4_1) = true := decide_eq_true c4
            clear c4
            replace H := Option.bind_eq_some_iff.mp H
            obtain ⟨t141, A60, H⟩ := H
            replace H : (if t141 = true then (spenceref01_Parse.l0 k1 a0 (wrap64 (x4_1 + 1))) else (some (0, 3))) = some (r1, r2) := H
            have A6 := Aside0.mk A60
            clear A60
            by_cases c7 : t141 = true
            · subst c7
              have H1 : (spenceref01_Parse.l0 k1 a0 (wrap64 (x4_1 + 1))) = some (r1, r2) := by rw [if_pos rfl] at H; exact H
              clear H
              have H := H1
              clear H1
              have H' := Aside0.mk H
              clear H
              have p5 : 0 ≤ (x4_1 : Int) := of_decide_eq_true (by first | (with_reducible assumption) | assumption)
              have q5 : x4_1 < (a0.size : Int) := of_decide_eq_true (by first | (with_reducible assumption) | assumption)
              have hx5 := bt_at a0 x4_1
              replace p5 := eq_true p5
              replace q5 := eq_true q5
              go_wp2_with (first | ((with_reducible refine gate_callee (f := 59) rfl ?_); refine goesL_ (some 21) rfl rfl Try.func59 (by kernel_rfl) rfl #[.int .u8 (bt a0 x4_1)] rfl (by (try simp only [List.map_toArray, List.map_cons, List.map_nil]); first | done | rfl | (simp only [List.length_drop, List.length_take]; rfl)) ?_; (with_reducible refine (spenceref01_Digit.calls (bt a0 x4_1) true _ A6.out).mono ?_); rintro e w' ⟨rfl, ⟨nd, rfl⟩⟩; refine ⟨_, rfl, ?_⟩))
              go_roundg k1
              case measure => have := HK1.out; omega
              case rel => exact ⟨(wrap64 (x4_1 + 1)), (by first | rfl | (simp; done) | (simp [*]; done)), H', ⟨by have := HK1.out; omega⟩, by repeat (first | exact Drawn0.refl _ | apply Drawn0.step)⟩
            · replace c7 := Bool.eq_false_iff.mpr c7
              subst c7
              have H1 : (some (0, 3)) = some (r1, r2) := by rw [if_neg (show ¬ (false = true) by decide)] at H; exact H
              clear H
              have H := H1
              clear H1
              simp only [Option.some.injEq, Prod.mk.injEq] at H
              obtain ⟨rfl, rfl⟩ := H
              have p5 : 0 ≤ (x4_1 : Int) := of_decide_eq_true (by first | (with_reducible assumption) | assumption)
              have q5 : x4_1 < (a0.size : Int) := of_decide_eq_true (by first | (with_reducible assumption) | assumption)
              have hx5 := bt_at a0 x4_1
              replace p5 := eq_true p5
              replace q5 := eq_true q5
              go_wp2_with (first | ((with_reducible refine gate_callee (f := 59) rfl ?_); refine goesL_ (some 21) rfl rfl Try.func59 (by kernel_rfl) rfl #[.int .u8 (bt a0 x4_1)] rfl (by (try simp only [List.map_toArray, List.map_cons, List.map_nil]); first | done | rfl | (simp only [List.length_drop, List.length_take]; rfl)) ?_; (with_reducible refine (spenceref01_Digit.calls (bt a0 x4_1) false _ A6.out).mono ?_); rintro e w' ⟨rfl, ⟨nd, rfl⟩⟩; refine ⟨_, rfl, ?_⟩))
              go_ret2
              exact ⟨by first | rfl | (simp; done) | (simp [*]; done) | exact ne_empty _ | exact eq_empty _, by repeat (first | exact Drawn0.refl _ | apply Drawn0.step)⟩
          · rw [if_neg c4] at H
            exact absurd H (by simp)
        · rw [if_neg c3] at H
          have c3b0 : decide (x4_1 < (a0.size : Int)) = false := decide_eq_false c3
          clear c3
          have HC8 := Aside0.mk H
          clear H
          go_upto_block 2 with (fail)
          go_cut [5] (fun v5 wc => ∃ (kq : Nat) (x5_7 : Int), v5 = .int .i64 x5_7 ∧ Aside0 (spenceref01_Parse.j2 kq a0 x5_7 = some (r1, r2)) ∧ Aside0 (kq ≤ k1) ∧ Drawn0 w wc)
          case first =>
            have H := HC8.out
            clear HC8
            have H' := Aside0.mk H
            clear H
            go_wp2
            go_loopg [5] k1 (fun kq v5 w' => ∃ (x5_2 : Int), v5 = .int .i64 x5_2 ∧ Aside0 (spenceref01_Parse.l1 kq a0 x5_2 = some (r1, r2)) ∧ Aside0 (kq ≤ k1) ∧ Drawn0 w w')
            case atStart => exact ⟨(0), (by first | rfl | (simp; done) | (simp [*]; done)), H', ⟨Nat.le_refl _⟩, by repeat (first | exact Drawn0.refl _ | apply Drawn0.step)⟩
            case round =>
              clear H'
              try clear c2
              try clear c2b0
              try clear c2b1
              try clear p2
              try clear c3
              try clear c3b0
              try clear c4
              try clear c4b0
              try clear c5
              try clear p5
              try clear q5
              try clear hx5
              try clear p6
              try clear c7
              try clear p2
              try clear p5
              try clear q5
              obtain ⟨x5_2, rfl, HA, HK2, ⟨m2, rfl⟩⟩ := hrel
              cases gk with
              | zero => exact absurd HA.out (by simp [spenceref01_Parse.l1])
              | succ k2 =>
                have H := HA.out
                clear HA
                simp only [spenceref01_Parse.l1] at H
                by_cases c9 : x5_2 < (wrap64 ((a0.size : Int) - 1))
                · rw [if_pos c9] at H
                  have c9b0 : decide (x5_2 < (wrap64 ((a0.size : Int) - 1))) = true := decide_eq_true c9
                  clear c9
                  (first | rw [c9b0] | (simp only [i64_w, i32_w]; rw [c9b0]) | skip)
                  by_cases c10 : 0 ≤ x5_2
                  · rw [if_pos c10] at H
                    have c10b0 : decide (0 ≤ x5_2) = true := decide_eq_true c10
                    clear c10
                    by_cases c11 : x5_2 < (a0.size : Int)
                    · rw [if_pos c11] at H
                      have c11b0 : decide (x5_2 < (a0.size : Int)) = true := decide_eq_true c11
                      clear c11
                      by_cases c13 : (bt a0 x5_2) = 48
                      · rw [if_pos c13] at H
                        have c13b0 : ((bt a0 x5_2) == 48) = true := beq_iff_eq.mpr c13
                        have c13b1 : ((bt a0 x5_2) != 48) = false := bne_eq_false_iff_eq.mpr c13
                        clear c13
                        have H' := Aside0.mk H
                        clear H
                        have p12 : 0 ≤ (x5_2 : Int) := of_decide_eq_true (by first | (with_reducible assumption) | assumption)
                        have q12 : x5_2 < (a0.size : Int) := of_decide_eq_true (by first | (with_reducible assumption) | assumption)
                        have hx12 := bt_at a0 x5_2
                        replace p12 := eq_true p12
                        replace q12 := eq_true q12
                        go_wp2
                        go_roundg k2
                        case measure => have := HK1.out; have := HK2.out; omega
                        case rel => exact ⟨(wrap64 (x5_2 + 1)), (by first | rfl | (simp; done) | (simp [*]; done)), H', ⟨by have := HK1.out; have := HK2.out; omega⟩, by repeat (first | exact Drawn0.refl _ | apply Drawn0.step)⟩
                      · rw [if_neg c13] at H
                        have c13b0 : ((bt a0 x5_2) == 48) = false := beq_eq_false_iff_ne.mpr c13
                        have c13b1 : ((bt a0 x5_2) != 48) = true := bne_iff_ne.mpr c13
                        have H' := Aside0.mk H
                        clear H
                        have p12 : 0 ≤ (x5_2 : Int) := of_decide_eq_true (by first | (with_reducible assumption) | assumption)
                        have q12 : x5_2 < (a0.size : Int) := of_decide_eq_true (by first | (with_reducible assumption) | assumption)
                        have hx12 := bt_at a0 x5_2
                        replace p12 := eq_true p12
                        replace q12 := eq_true q12
                        go_wp2
                        go_meet
                        case rel => exact ⟨_, (x5_2), (by first | rfl | (simp; done) | (simp [*]; done)), H', ⟨by have := HK1.out; have := HK2.out; first | omega | exact Nat.le_refl _⟩, by repeat (first | exact Drawn0.refl _ | apply Drawn0.step)⟩
                    · rw [if_neg c11] at H
                      exact absurd H (by simp)
                  · rw [if_neg c10] at H
                    exact absurd H (by simp)
                · rw [if_neg c9] at H
                  have c9b0 : decide (x5_2 < (wrap64 ((a0.size : Int) - 1))) = false := decide_eq_false c9
                  clear c9
                  (first | rw [c9b0] | (simp only [i64_w, i32_w]; rw [c9b0]) | skip)
                  have H' := Aside0.mk H
                  clear H
                  go_wp2
                  go_meet
                  case rel => exact ⟨_, (x5_2), (by first | rfl | (simp; done) | (simp [*]; done)), H', ⟨by have := HK1.out; have := HK2.out; first | omega | exact Nat.le_refl _⟩, by repeat (first | exact Drawn0.refl _ | apply Drawn0.step)⟩
          case rest =>
            clear HC8
            try clear c1
            try clear p1
            try clear q1
            try clear hx1
            try clear c2
            try clear c2b0
            try clear c2b1
            try clear p2
            try clear c3
            try clear c3b0
            try clear c4
            try clear c4b0
            try clear c5
            try clear p5
            try clear q5
            try clear hx5
            try clear p6
            try clear c7
            try clear c9
            try clear c9b0
            try clear c10
            try clear c10b0
            try clear c11
            try clear c11b0
            try clear p12
            try clear q12
            try clear hx12
            try clear c13
            try clear c13b0
            try clear c13b1
            try clear p12
            try clear p2
            try clear p5
            try clear p6
            try clear q12
            try clear q5
            obtain ⟨kq, x5_7, rfl, HA, HJ7, ⟨mc7, rfl⟩⟩ := hcut
            cases kq with
            | zero => exact absurd HA.out (by simp [spenceref01_Parse.j2])
            | succ kj7 =>
              have H := HA.out
              clear HA
              simp only [spenceref01_Parse.j2] at H
              by_cases c14 : 0 ≤ x5_7
              · rw [if_pos c14] at H
                have c14b0 := eq_true c14
                have c14b1 : decide (0 ≤ x5_7) = true := decide_eq_true c14
                clear c14
                by_cases c15 : x5_7 ≤ (a0.size : Int)
                · rw [if_pos c15] at H
                  have c15b0 := eq_true c15
                  have c15b1 : decide (x5_7 ≤ (a0.size : Int)) = true := decide_eq_true c15
                  clear c15
                  have HC16 := Aside0.mk H
                  clear H
                  go_upto_region 12 with (fail)
                  go_cut [50] (fun v50 wc => ∃ (kq : Nat) (x50_15 : Bool), v50 = .bool x50_15 ∧ Aside0 (spenceref01_Parse.j3 kq (a0.extract (x5_7 : Int).toNat a0.size) x50_15 = some (r1, r2)) ∧ Aside0 (kq ≤ kj7) ∧ Drawn0 w wc)
                  case first =>
                    have H := HC16.out
                    clear HC16
                    by_cases c17 : ((a0.extract (x5_7 : Int).toNat a0.size).size : Int) > 19
                    · rw [if_pos c17] at H
                      have c17b0 : decide (19 < ((a0.extract (x5_7 : Int).toNat a0.size).size : Int)) = true := decide_eq_true c17
                      have c17b1 : decide (19 < (a0.extract (x5_7 : Int).toNat a0.size).size) = true := decide_eq_true (by omega)
                      (try (have c17b2 : decide (19 < ((a0.size - (x5_7 : Int).toNat : Nat) : Int)) = true := by have h_ : decide (19 < ((a0.extract (x5_7 : Int).toNat a0.size).size : Int)) = true := decide_eq_true c17; first | (simpa using h_) | (simp at h_ ⊢; omega)))
                      (try (have c17b3 : 19 < ((a0.size - (x5_7 : Int).toNat : Nat) : Int) := by have h_ : decide (19 < ((a0.extract (x5_7 : Int).toNat a0.size).size : Int)) = true := decide_eq_true c17; first | (simpa using h_) | (simp at h_ ⊢; omega)))
                      (try (have c17b4 : decide (19 < (a0.size - (x5_7 : Int).toNat : Nat)) = true := by have h_ : decide (19 < (a0.extract (x5_7 : Int).toNat a0.size).size) = true := decide_eq_true (by omega); first | (simpa using h_) | (simp at h_ ⊢; omega)))
                      (try (have c17b5 : 19 < (a0.size - (x5_7 : Int).toNat : Nat) := by have h_ : decide (19 < (a0.extract (x5_7 : Int).toNat a0.size).size) = true := decide_eq_true (by omega); first | (simpa using h_) | (simp at h_ ⊢; omega)))
                      clear c17
                      (first | rw [c17b0] | (simp only [i64_w, i32_w]; rw [c17b0]) | skip)
                      have H' := Aside0.mk H
                      clear H
                      go_wp2
                      go_meet
                      case rel => exact ⟨_, (true), (by first | rfl | (simp; done) | (simp [*]; done)), H', ⟨by have := HK1.out; have := HJ7.out; first | omega | exact Nat.le_refl _⟩, by repeat (first | exact Drawn0.refl _ | apply Drawn0.step)⟩
                    · rw [if_neg c17] at H
                      have c17b0 : decide (19 < ((a0.extract (x5_7 : Int).toNat a0.size).size : Int)) = false := decide_eq_false c17
                      have c17b1 : decide (19 < (a0.extract (x5_7 : Int).toNat a0.size).size) = false := decide_eq_false (by omega)
                      (try (have c17b2 : decide (19 < ((a0.size - (x5_7 : Int).toNat : Nat) : Int)) = false := by have h_ : decide (19 < ((a0.extract (x5_7 : Int).toNat a0.size).size : Int)) = false := decide_eq_false c17; first | (simpa using h_) | (simp at h_ ⊢; omega)))
                      (try (have c17b3 : ¬ (19 < ((a0.size - (x5_7 : Int).toNat : Nat) : Int)) := by have h_ : decide (19 < ((a0.extract (x5_7 : Int).toNat a0.size).size : Int)) = false := decide_eq_false c17; first | (simpa using h_) | (simp at h_ ⊢; omega)))
                      (try (have c17b4 : decide (19 < (a0.size - (x5_7 : Int).toNat : Nat)) = false := by have h_ : decide (19 < (a0.extract (x5_7 : Int).toNat a0.size).size) = false := decide_eq_false (by omega); first | (simpa using h_) | (simp at h_ ⊢; omega)))
                      (try (have c17b5 : ¬ (19 < (a0.size - (x5_7 : Int).toNat : Nat)) := by have h_ : decide (19 < (a0.extract (x5_7 : Int).toNat a0.size).size) = false := decide_eq_false (by omega); first | (simpa using h_) | (simp at h_ ⊢; omega)))
                      clear c17
                      (first | rw [c17b0] | (simp only [i64_w, i32_w]; rw [c17b0]) | skip)
                      by_cases c18 : ((a0.extract (x5_7 : Int).toNat a0.size).size : Int) = 19
                      · rw [if_pos c18] at H
                        have c18b0 : (((a0.extract (x5_7 : Int).toNat a0.size).size : Int) == 19) = true := beq_iff_eq.mpr c18
                        have c18b1 : (((a0.extract (x5_7 : Int).toNat a0.size).size : Int) != 19) = false := bne_eq_false_iff_eq.mpr c18
                        (try (have c18b2 : (((a0.size - (x5_7 : Int).toNat : Nat) : Int) == 19) = true := by have h_ : (((a0.extract (x5_7 : Int).toNat a0.size).size : Int) == 19) = true := beq_iff_eq.mpr c18; first | (simpa using h_) | (simp at h_ ⊢; omega)))
                        (try (have c18b3 : (((a0.size - (x5_7 : Int).toNat : Nat) : Int) != 19) = false := by have h_ : (((a0.extract (x5_7 : Int).toNat a0.size).size : Int) != 19) = false := bne_eq_false_iff_eq.mpr c18; first | (simpa using h_) | (simp at h_ ⊢; omega)))
                        clear c18
                        have H' := Aside0.mk H
                        clear H
                        go_wp2
                        go_meet
                        case rel => exact ⟨_, (!(Op.bytesLess ((a0.extract (x5_7 : Int).toNat a0.size).toList) ([52, 54, 49, 49, 54, 56, 54, 48, 49, 56, 52, 50, 55, 51, 56, 55, 57, 48, 51] : List UInt8) || ((a0.extract (x5_7 : Int).toNat a0.size).toList) == ([52, 54, 49, 49, 54, 56, 54, 48, 49, 56, 52, 50, 55, 51, 56, 55, 57, 48, 51] : List UInt8))), (by first | rfl | (simp; done) | (simp [*]; done)), H', ⟨by have := HK1.out; have := HJ7.out; first | omega | exact Nat.le_refl _⟩, by repeat (first | exact Drawn0.refl _ | apply Drawn0.step)⟩
                      · rw [if_neg c18] at H
                        have c18b0 : (((a0.extract (x5_7 : Int).toNat a0.size).size : Int) == 19) = false := beq_eq_false_iff_ne.mpr c18
                        have c18b1 : (((a0.extract (x5_7 : Int).toNat a0.size).size : Int) != 19) = true := bne_iff_ne.mpr c18
                        (try (have c18b2 : (((a0.size - (x5_7 : Int).toNat : Nat) : Int) == 19) = false := by have h_ : (((a0.extract (x5_7 : Int).toNat a0.size).size : Int) == 19) = false := beq_eq_false_iff_ne.mpr c18; first | (simpa using h_) | (simp at h_ ⊢; omega)))
                        (try (have c18b3 : (((a0.size - (x5_7 : Int).toNat : Nat) : Int) != 19) = true := by have h_ : (((a0.extract (x5_7 : Int).toNat a0.size).size : Int) != 19) = true := bne_iff_ne.mpr c18; first | (simpa using h_) | (simp at h_ ⊢; omega)))
                        have H' := Aside0.mk H
                        clear H
                        go_wp2
                        go_meet
                        case rel => exact ⟨_, (false), (by first | rfl | (simp; done) | (simp [*]; done)), H', ⟨by have := HK1.out; have := HJ7.out; first | omega | exact Nat.le_refl _⟩, by repeat (first | exact Drawn0.refl _ | apply Drawn0.step)⟩
                  case rest =>
                    clear HC16
                    try clear c1
                    try clear p1
                    try clear q1
                    try clear hx1
                    try clear c2
                    try clear c2b0
                    try clear c2b1
                    try clear p2
                    try clear c3
                    try clear c3b0
                    try clear c4
                    try clear c4b0
                    try clear c5
                    try clear p5
                    try clear q5
                    try clear hx5
                    try clear p6
                    try clear c7
                    try clear c9
                    try clear c9b0
                    try clear c10
                    try clear c10b0
                    try clear c11
                    try clear c11b0
                    try clear p12
                    try clear q12
                    try clear hx12
                    try clear c13
                    try clear c13b0
                    try clear c13b1
                    try clear c14
                    try clear c14b0
                    try clear c14b1
                    try clear c15
                    try clear c15b0
                    try clear c15b1
                    try clear c17
                    try clear c17b0
                    try clear c17b1
                    try clear c17b2
                    try clear c18
                    try clear c18b0
                    try clear c18b1
                    try clear c18b2
                    try clear p1
                    try clear p12
                    try clear p2
                    try clear p5
                    try clear p6
                    try clear q1
                    try clear q12
                    try clear q5
                    obtain ⟨kq, x50_15, rfl, HA, HJ15, ⟨mc15, rfl⟩⟩ := hcut
                    cases kq with
                    | zero => exact absurd HA.out (by simp [spenceref01_Parse.j3])
                    | succ kj15 =>
                      have H := HA.out
                      clear HA
                      simp only [spenceref01_Parse.j3] at H
                      by_cases c19 : x50_15 = true
                      · subst c19
                        have H1 : (some (0, 9)) = some (r1, r2) := by rw [if_pos rfl] at H; exact H
                        clear H
                        have H := H1
                        clear H1
                        simp only [Option.some.injEq, Prod.mk.injEq] at H
                        obtain ⟨rfl, rfl⟩ := H
                        go_wp2
                        go_ret2
                        exact ⟨by first | rfl | (simp; done) | (simp [*]; done) | exact ne_empty _ | exact eq_empty _, by repeat (first | exact Drawn0.refl _ | apply Drawn0.step)⟩
                      · replace c19 := Bool.eq_false_iff.mpr c19
                        subst c19
                        have H1 : (spenceref01_Parse.l2 kj15 (a0.extract (x5_7 : Int).toNat a0.size) 0 0) = some (r1, r2) := by rw [if_neg (show ¬ (false = true) by decide)] at H; exact H
                        clear H
                        have H := H1
                        clear H1
                        have H' := Aside0.mk H
                        clear H
                        go_wp2
                        go_loopg [7, 8] kj15 (fun kq v7 v8 w' => ∃ (x7_4 : Int) (x8_4 : Int), v7 = .int .i64 x7_4 ∧ v8 = .int .i64 x8_4 ∧ Aside0 (spenceref01_Parse.l2 kq (a0.extract (x5_7 : Int).toNat a0.size) x7_4 x8_4 = some (r1, r2)) ∧ Aside0 (kq ≤ kj15) ∧ Drawn0 w w')
                        case atStart => exact ⟨(0), (0), (by first | rfl | (simp; done) | (simp [*]; done)), (by first | rfl | (simp; done) | (simp [*]; done)), H', ⟨Nat.le_refl _⟩, by repeat (first | exact Drawn0.refl _ | apply Drawn0.step)⟩
                        case round =>
                          clear H'
                          try clear c1
                          try clear p1
                          try clear q1
                          try clear hx1
                          try clear c2
                          try clear c2b0
                          try clear c2b1
                          try clear p2
                          try clear c3
                          try clear c3b0
                          try clear c4
                          try clear c4b0
                          try clear c5
                          try clear p5
                          try clear q5
                          try clear hx5
                          try clear p6
                          try clear c7
                          try clear c9
                          try clear c9b0
                          try clear c10
                          try clear c10b0
                          try clear c11
                          try clear c11b0
                          try clear p12
                          try clear q12
                          try clear hx12
                          try clear c13
                          try clear c13b0
                          try clear c13b1
                          try clear c14
                          try clear c14b0
                          try clear c14b1
                          try clear c15
                          try clear c15b0
                          try clear c15b1
                          try clear c17
                          try clear c17b0
                          try clear c17b1
                          try clear c17b2
                          try clear c18
                          try clear c18b0
                          try clear c18b1
                          try clear c18b2
                          try clear c19
                          try clear p1
                          try clear p12
                          try clear p2
                          try clear p5
                          try clear p6
                          try clear q1
                          try clear q12
                          try clear q5
                          obtain ⟨x7_4, x8_4, rfl, rfl, HA, HK4, ⟨m4, rfl⟩⟩ := hrel
                          cases gk with
                          | zero => exact absurd HA.out (by simp [spenceref01_Parse.l2])
                          | succ k4 =>
                            have H := HA.out
                            clear HA
                            simp only [spenceref01_Parse.l2] at H
                            by_cases c20 : x8_4 < ((a0.extract (x5_7 : Int).toNat a0.size).size : Int)
                            · rw [if_pos c20] at H
                              have c20b0 : decide (x8_4 < ((a0.extract (x5_7 : Int).toNat a0.size).size : Int)) = true := decide_eq_true c20
                              (try (have c20b1 : decide (x8_4 < ((a0.size - (x5_7 : Int).toNat : Nat) : Int)) = true := by have h_ : decide (x8_4 < ((a0.extract (x5_7 : Int).toNat a0.size).size : Int)) = true := decide_eq_true c20; first | (simpa using h_) | (simp at h_ ⊢; omega)))
                              (try (have c20b2 : x8_4 < ((a0.size - (x5_7 : Int).toNat : Nat) : Int) := by have h_ : decide (x8_4 < ((a0.extract (x5_7 : Int).toNat a0.size).size : Int)) = true := decide_eq_true c20; first | (simpa using h_) | (simp at h_ ⊢; omega)))
                              clear c20
                              by_cases c21 : 0 ≤ x8_4
                              · rw [if_pos c21] at H
                                have c21b0 : decide (0 ≤ x8_4) = true := decide_eq_true c21
                                clear c21
                                have H' := Aside0.mk H
                                clear H
                                have p22 : 0 ≤ (x8_4 : Int) := of_decide_eq_true (by first | (with_reducible assumption) | assumption)
                                have q22 : x8_4 < ((a0.extract (x5_7 : Int).toNat a0.size).size : Int) := of_decide_eq_true (by first | (with_reducible assumption) | assumption)
                                have hx22 := bt_at (a0.extract (x5_7 : Int).toNat a0.size) x8_4
                                replace p22 := eq_true p22
                                replace q22 := eq_true q22
                                go_wp2
                                go_roundg k4
                                case measure => have := HK1.out; have := HJ7.out; have := HJ15.out; have := HK4.out; omega
                                case rel => exact ⟨(wrap64 ((wrap64 ((wrap64 (10 * x7_4)) + (wrap64 (bt (a0.extract (x5_7 : Int).toNat a0.size) x8_4)))) - 48)), (wrap64 (x8_4 + 1)), (by first | rfl | (simp; done) | (simp [*]; done)), (by first | rfl | (simp; done) | (simp [*]; done)), H', ⟨by have := HK1.out; have := HJ7.out; have := HJ15.out; have := HK4.out; omega⟩, by repeat (first | exact Drawn0.refl _ | apply Drawn0.step)⟩
                              · rw [if_neg c21] at H
                                exact absurd H (by simp)
                            · rw [if_neg c20] at H
                              have c20b0 : decide (x8_4 < ((a0.extract (x5_7 : Int).toNat a0.size).size : Int)) = false := decide_eq_false c20
                              (try (have c20b1 : decide (x8_4 < ((a0.size - (x5_7 : Int).toNat : Nat) : Int)) = false := by have h_ : decide (x8_4 < ((a0.extract (x5_7 : Int).toNat a0.size).size : Int)) = false := decide_eq_false c20; first | (simpa using h_) | (simp at h_ ⊢; omega)))
                              (try (have c20b2 : ¬ (x8_4 < ((a0.size - (x5_7 : Int).toNat : Nat) : Int)) := by have h_ : decide (x8_4 < ((a0.extract (x5_7 : Int).toNat a0.size).size : Int)) = false := decide_eq_false c20; first | (simpa using h_) | (simp at h_ ⊢; omega)))
                              clear c20
                              simp only [Option.some.injEq, Prod.mk.injEq] at H
                              obtain ⟨rfl, rfl⟩ := H
                              go_wp2
                              go_ret2
                              exact ⟨by first | rfl | (simp; done) | (simp [*]; done) | exact ne_empty _ | exact eq_empty _, by repeat (first | exact Drawn0.refl _ | apply Drawn0.step)⟩
                · rw [if_neg c15] at H
                  exact absurd H (by simp)
              · rw [if_neg c14] at H
                exact absurd H (by simp)

end Go.Proofs.Ytahoibanpplhbaa.PAll
