/- Go functions of this seat as plain functions, and proofs that the code comes to them: written by a program of this session's over the kit's print.py. -/
import Derived.Test.YtbihggkkaoacpaaPAllx0
import Derived.Test.YtbihggkkaoacpaaPAllx3
import Derived.Test.YtbihggkkaoacpaaPAllx4
import Derived.Test.YtbihggkkaoacpaaPAllx5
import Derived.Test.YtbihggkkaoacpaaPAllx6
import Derived.Test.YtbihggkkaoacpaaPAllx7
import Derived.Test.YtbihggkkaoacpaaPAllx20
import Derived.Test.YtbihggkkaoacpaaPAllx21
import Derived.Test.YtbihggkkaoacpaaPAllx22
namespace Go.Proofs.Ytbihggkkaoacpaa.PAll
open Go.RowKit Go.Proofs.Ytbihggkkaoacpaa.Xw Go.Proofs.YtbihggkkaoacpaaW.PrintWords Go.Proofs.YtbihggkkaoacpaaW.PrintLast Go.Proofs.YtbihggkkaoacpaaW.PrintMore
attribute [local go_sem] max2_int min2_int max_two min_two max_three min_three max_four min_four   -- for this text's walks alone
set_option linter.unusedVariables false
set_option linter.unusedSimpArgs false

/-! ### spencelaw03_TextTells: function 11 -/
def spencelaw03_TextTells.j0 : Nat → ByteArray → ByteArray → Int → Bool → Option (Bool)
  | 0, _, _, _, _ => none
  | k + 1, x0, x1, x2, x23 => if x23 = true then (some true) else ((text_Cut.f x0 x2).bind fun bt336 => ((spenceref01_Cut.f k x0 x2).bind fun bt339 => ((spenceref01_Trim.f k x0 false).bind fun t342 => ((text_Trim.f k x0).bind fun t343 => (if t343.toList = t342.toList then ((text_Right.f k x0).bind fun t344 => ((spenceref01_Trim.f k x0 true).bind fun t345 => (if t344.toList = t345.toList then ((text_Blank.f k x0).bind fun t346 => (if (t346 == (t342.toList == ([] : List UInt8))) = true then ((text_Lower.f x0).bind fun t347 => ((spenceref01_Lower.f k x0).bind fun t348 => (if t347.toList = t348.toList then ((text_Token.f k x0).bind fun t349 => ((spenceref01_Token.f k x0).bind fun t350 => (if (t349 == t350) = true then ((text_Fold.f x0 x1).bind fun t351 => ((spenceref01_Lower.f k x0).bind fun t352 => ((spenceref01_Lower.f k x1).bind fun t353 => (if (t351 == (t352.toList == t353.toList)) = true then (if bt336.1.toList = bt339.1.toList then (if bt336.2.1.toList = bt339.2.1.toList then (some (bt336.2.2 == bt339.2.2)) else (some false)) else (some false)) else (some false))))) else (some false)))) else (some false)))) else (some false))) else (some false)))) else (some false))))))
def spencelaw03_TextTells.f (k : Nat) (a0 : ByteArray) (a1 : ByteArray) (a2 : Int) : Option (Bool) := (spencelaw03_awake.f k).bind fun t335 => (if t335 = true then (if (a0.size : Int) > 500 then (spencelaw03_TextTells.j0 k a0 a1 a2 true) else (spencelaw03_TextTells.j0 k a0 a1 a2 (decide ((a1.size : Int) > 500)))) else (some false))
theorem spencelaw03_TextTells.mono_l : ∀ k, (∀ y0 y1 y2 y3, LeO (spencelaw03_TextTells.j0 k y0 y1 y2 y3) (spencelaw03_TextTells.j0 (k + 1) y0 y1 y2 y3))
  | 0 => fun _ _ _ _ r h => by simp [spencelaw03_TextTells.j0] at h
  | k + 1 => by
    have ih0 := spencelaw03_TextTells.mono_l k
    · intro y0 y1 y2 y3
      unfold spencelaw03_TextTells.j0
      repeat' first
      | (with_reducible exact ih0 _ _ _ _)
      | (with_reducible exact spencelaw03_awake.mono _)
      | (with_reducible exact spenceref01_Cut.mono _ _ _)
      | (with_reducible exact spenceref01_Lower.mono _ _)
      | (with_reducible exact spenceref01_Token.mono _ _)
      | (with_reducible exact spenceref01_Trim.mono _ _ _)
      | (with_reducible exact text_Blank.mono _ _)
      | (with_reducible exact text_Right.mono _ _)
      | (with_reducible exact text_Token.mono _ _)
      | (with_reducible exact text_Trim.mono _ _)
      | (with_reducible exact LeO.refl _)
      | (with_reducible exact LeO.none _)
      | (with_reducible refine LeO.ite ?_ ?_)
      | (with_reducible refine LeO.bind ?_ (fun _ => ?_))
      | exact ih0 _ _ _ _
      | exact spencelaw03_awake.mono _
      | exact spenceref01_Cut.mono _ _ _
      | exact spenceref01_Lower.mono _ _
      | exact spenceref01_Token.mono _ _
      | exact spenceref01_Trim.mono _ _ _
      | exact text_Blank.mono _ _
      | exact text_Right.mono _ _
      | exact text_Token.mono _ _
      | exact text_Trim.mono _ _
      | exact LeO.none _
      | refine LeO.ite ?_ ?_
      | refine LeO.bind ?_ (fun _ => ?_)
theorem spencelaw03_TextTells.mono : ∀ a0 a1 a2 k, LeO (spencelaw03_TextTells.f k a0 a1 a2) (spencelaw03_TextTells.f (k + 1) a0 a1 a2) := by
  intro a0 a1 a2 k
  have ih0 := spencelaw03_TextTells.mono_l k
  unfold spencelaw03_TextTells.f
  repeat' first
      | (with_reducible exact ih0 _ _ _ _)
      | (with_reducible exact spencelaw03_awake.mono _)
      | (with_reducible exact spenceref01_Cut.mono _ _ _)
      | (with_reducible exact spenceref01_Lower.mono _ _)
      | (with_reducible exact spenceref01_Token.mono _ _)
      | (with_reducible exact spenceref01_Trim.mono _ _ _)
      | (with_reducible exact text_Blank.mono _ _)
      | (with_reducible exact text_Right.mono _ _)
      | (with_reducible exact text_Token.mono _ _)
      | (with_reducible exact text_Trim.mono _ _)
      | (with_reducible exact LeO.refl _)
      | (with_reducible exact LeO.none _)
      | (with_reducible refine LeO.ite ?_ ?_)
      | (with_reducible refine LeO.bind ?_ (fun _ => ?_))
      | exact ih0 _ _ _ _
      | exact spencelaw03_awake.mono _
      | exact spenceref01_Cut.mono _ _ _
      | exact spenceref01_Lower.mono _ _
      | exact spenceref01_Token.mono _ _
      | exact spenceref01_Trim.mono _ _ _
      | exact text_Blank.mono _ _
      | exact text_Right.mono _ _
      | exact text_Token.mono _ _
      | exact text_Trim.mono _ _
      | exact LeO.none _
      | refine LeO.ite ?_ ?_
      | refine LeO.bind ?_ (fun _ => ?_)
set_option maxHeartbeats 8000000 in
set_option maxRecDepth 100000 in
theorem spencelaw03_TextTells.calls (k : Nat) (a0 : ByteArray) (a1 : ByteArray) (a2 : Int) (r : Bool) (w : World) (h : spencelaw03_TextTells.f k a0 a1 a2 = some r) :
    Calls Try.prog 11 #[.string a0, .string a1, .int .u8 a2] w fun e w' => e = .returned (.bool r) ∧ Below w.heap.size w w' := by
  have HB := Aside0.mk (Below.refl w.heap.size w)
  have H : ((spencelaw03_awake.f k).bind fun t335 => (if t335 = true then (if (a0.size : Int) > 500 then (spencelaw03_TextTells.j0 k a0 a1 a2 true) else (spencelaw03_TextTells.j0 k a0 a1 a2 (decide ((a1.size : Int) > 500)))) else (some false))) = some r := h
  clear h
  replace H := Option.bind_eq_some_iff.mp H
  obtain ⟨t335, A40, H⟩ := H
  replace H : (if t335 = true then (if (a0.size : Int) > 500 then (spencelaw03_TextTells.j0 k a0 a1 a2 true) else (spencelaw03_TextTells.j0 k a0 a1 a2 (decide ((a1.size : Int) > 500)))) else (some false)) = some r := H
  have A4 := Aside0.mk A40
  clear A40
  by_cases c5 : t335 = true
  · subst c5
    have H1 : (if (a0.size : Int) > 500 then (spencelaw03_TextTells.j0 k a0 a1 a2 true) else (spencelaw03_TextTells.j0 k a0 a1 a2 (decide ((a1.size : Int) > 500)))) = some r := by rw [if_pos rfl] at H; exact H
    clear H
    have H := H1
    clear H1
    have HC6 := Aside0.mk H
    clear H
    go_enter Try.func11, Try.ntmps11
    go_upto_region 3 with (first | ((with_reducible refine gate_callee (f := 15) rfl ?_); refine goesL_ (some 14) rfl rfl Try.func15 (by kernel_rfl) rfl #[] rfl (by (try simp only [List.map_toArray, List.map_cons, List.map_nil]); first | done | rfl | (simp only [List.length_drop, List.length_take]; rfl)) ?_; (with_reducible refine (spencelaw03_awake.calls k  true _ A4.out).mono ?_); rintro e w7 ⟨rfl, hb⟩; refine ⟨_, rfl, ?_⟩; have n0_ := Aside0.mk (below_step (by repeat (first | (with_reducible first | exact HB.out | apply below_alloc | apply pw_below_drewN | apply below_drew1) | exact HB.out)) hb); clear HB; have HB := n0_; clear n0_; (try clear hb); (try clear hb2); (try clear hk); (try clear hi)))
    (try simp only [Act.put, List.setIfInBounds_toArray, List.set_cons_zero, List.set_cons_succ])
    go_cut [23] (fun v23 wc => ∃ (kq : Nat) (x23_5 : Bool), v23 = .bool x23_5 ∧ Aside0 (spencelaw03_TextTells.j0 kq a0 a1 a2 x23_5 = some r) ∧ Aside0 (kq ≤ k) ∧ Aside0 (Below w.heap.size w wc))
    case first =>
      have H := HC6.out
      clear HC6
      by_cases c8 : (a0.size : Int) > 500
      · rw [if_pos c8] at H
        have c8b0 : decide (500 < (a0.size : Int)) = true := decide_eq_true c8
        have c8b1 : decide (500 < a0.size) = true := decide_eq_true (by omega)
        clear c8
        (first | rw [c8b0] | (simp only [i64_w, i32_w]; rw [c8b0]) | skip)
        have H' := Aside0.mk H
        clear H
        go_wp2
        go_meet
        case rel => exact ⟨_, (true), (by first | rfl | (simp; done) | (simp [*]; done)), H', ⟨by first | omega | exact Nat.le_refl _⟩, ⟨by repeat (first | (with_reducible first | exact HB.out | apply below_alloc | apply pw_below_drewN | apply below_drew1) | exact HB.out)⟩⟩
      · rw [if_neg c8] at H
        have c8b0 : decide (500 < (a0.size : Int)) = false := decide_eq_false c8
        have c8b1 : decide (500 < a0.size) = false := decide_eq_false (by omega)
        clear c8
        (first | rw [c8b0] | (simp only [i64_w, i32_w]; rw [c8b0]) | skip)
        have H' := Aside0.mk H
        clear H
        go_wp2
        go_meet
        case rel => exact ⟨_, (decide ((a1.size : Int) > 500)), (by first | rfl | (simp; done) | (simp [*]; done)), H', ⟨by first | omega | exact Nat.le_refl _⟩, ⟨by repeat (first | (with_reducible first | exact HB.out | apply below_alloc | apply pw_below_drewN | apply below_drew1) | exact HB.out)⟩⟩
    case rest =>
      clear HC6
      try clear c1
      try clear p2
      try clear c5
      try clear c8
      try clear c8b0
      try clear c8b1
      obtain ⟨kq, x23_5, rfl, HA, HJ5, HB⟩ := hcut
      cases kq with
      | zero => exact absurd HA.out (by simp [spencelaw03_TextTells.j0])
      | succ kj5 =>
        have H := HA.out
        clear HA
        simp only [spencelaw03_TextTells.j0] at H
        by_cases c9 : x23_5 = true
        · subst c9
          have H1 : (some true) = some r := by rw [if_pos rfl] at H; exact H
          clear H
          have H := H1
          clear H1
          obtain rfl := Option.some.inj H
          go_wp2
          go_ret
          exact ⟨by first | rfl | exact ne_empty _ | exact eq_empty _ | (simp [errW_none, errW_some] <;> rfl) | (simp [*, errW_none, errW_some] <;> rfl), by repeat (first | (with_reducible first | exact HB.out | apply below_alloc | apply pw_below_drewN | apply below_drew1) | exact HB.out)⟩
        · replace c9 := Bool.eq_false_iff.mpr c9
          subst c9
          have H1 : ((text_Cut.f a0 a2).bind fun bt336 => ((spenceref01_Cut.f kj5 a0 a2).bind fun bt339 => ((spenceref01_Trim.f kj5 a0 false).bind fun t342 => ((text_Trim.f kj5 a0).bind fun t343 => (if t343.toList = t342.toList then ((text_Right.f kj5 a0).bind fun t344 => ((spenceref01_Trim.f kj5 a0 true).bind fun t345 => (if t344.toList = t345.toList then ((text_Blank.f kj5 a0).bind fun t346 => (if (t346 == (t342.toList == ([] : List UInt8))) = true then ((text_Lower.f a0).bind fun t347 => ((spenceref01_Lower.f kj5 a0).bind fun t348 => (if t347.toList = t348.toList then ((text_Token.f kj5 a0).bind fun t349 => ((spenceref01_Token.f kj5 a0).bind fun t350 => (if (t349 == t350) = true then ((text_Fold.f a0 a1).bind fun t351 => ((spenceref01_Lower.f kj5 a0).bind fun t352 => ((spenceref01_Lower.f kj5 a1).bind fun t353 => (if (t351 == (t352.toList == t353.toList)) = true then (if bt336.1.toList = bt339.1.toList then (if bt336.2.1.toList = bt339.2.1.toList then (some (bt336.2.2 == bt339.2.2)) else (some false)) else (some false)) else (some false))))) else (some false)))) else (some false)))) else (some false))) else (some false)))) else (some false)))))) = some r := by rw [if_neg (show ¬ (false = true) by decide)] at H; exact H
          clear H
          have H := H1
          clear H1
          replace H := Option.bind_eq_some_iff.mp H
          obtain ⟨⟨t336, t337, t338⟩, A100, H⟩ := H
          replace H : ((spenceref01_Cut.f kj5 a0 a2).bind fun bt339 => ((spenceref01_Trim.f kj5 a0 false).bind fun t342 => ((text_Trim.f kj5 a0).bind fun t343 => (if t343.toList = t342.toList then ((text_Right.f kj5 a0).bind fun t344 => ((spenceref01_Trim.f kj5 a0 true).bind fun t345 => (if t344.toList = t345.toList then ((text_Blank.f kj5 a0).bind fun t346 => (if (t346 == (t342.toList == ([] : List UInt8))) = true then ((text_Lower.f a0).bind fun t347 => ((spenceref01_Lower.f kj5 a0).bind fun t348 => (if t347.toList = t348.toList then ((text_Token.f kj5 a0).bind fun t349 => ((spenceref01_Token.f kj5 a0).bind fun t350 => (if (t349 == t350) = true then ((text_Fold.f a0 a1).bind fun t351 => ((spenceref01_Lower.f kj5 a0).bind fun t352 => ((spenceref01_Lower.f kj5 a1).bind fun t353 => (if (t351 == (t352.toList == t353.toList)) = true then (if t336.toList = bt339.1.toList then (if t337.toList = bt339.2.1.toList then (some (t338 == bt339.2.2)) else (some false)) else (some false)) else (some false))))) else (some false)))) else (some false)))) else (some false))) else (some false)))) else (some false))))) = some r := H
          have A10 := Aside0.mk A100
          clear A100
          replace H := Option.bind_eq_some_iff.mp H
          obtain ⟨⟨t339, t340, t341⟩, A110, H⟩ := H
          replace H : ((spenceref01_Trim.f kj5 a0 false).bind fun t342 => ((text_Trim.f kj5 a0).bind fun t343 => (if t343.toList = t342.toList then ((text_Right.f kj5 a0).bind fun t344 => ((spenceref01_Trim.f kj5 a0 true).bind fun t345 => (if t344.toList = t345.toList then ((text_Blank.f kj5 a0).bind fun t346 => (if (t346 == (t342.toList == ([] : List UInt8))) = true then ((text_Lower.f a0).bind fun t347 => ((spenceref01_Lower.f kj5 a0).bind fun t348 => (if t347.toList = t348.toList then ((text_Token.f kj5 a0).bind fun t349 => ((spenceref01_Token.f kj5 a0).bind fun t350 => (if (t349 == t350) = true then ((text_Fold.f a0 a1).bind fun t351 => ((spenceref01_Lower.f kj5 a0).bind fun t352 => ((spenceref01_Lower.f kj5 a1).bind fun t353 => (if (t351 == (t352.toList == t353.toList)) = true then (if t336.toList = t339.toList then (if t337.toList = t340.toList then (some (t338 == t341)) else (some false)) else (some false)) else (some false))))) else (some false)))) else (some false)))) else (some false))) else (some false)))) else (some false)))) = some r := H
          have A11 := Aside0.mk A110
          clear A110
          replace H := Option.bind_eq_some_iff.mp H
          obtain ⟨t342, A120, H⟩ := H
          replace H : ((text_Trim.f kj5 a0).bind fun t343 => (if t343.toList = t342.toList then ((text_Right.f kj5 a0).bind fun t344 => ((spenceref01_Trim.f kj5 a0 true).bind fun t345 => (if t344.toList = t345.toList then ((text_Blank.f kj5 a0).bind fun t346 => (if (t346 == (t342.toList == ([] : List UInt8))) = true then ((text_Lower.f a0).bind fun t347 => ((spenceref01_Lower.f kj5 a0).bind fun t348 => (if t347.toList = t348.toList then ((text_Token.f kj5 a0).bind fun t349 => ((spenceref01_Token.f kj5 a0).bind fun t350 => (if (t349 == t350) = true then ((text_Fold.f a0 a1).bind fun t351 => ((spenceref01_Lower.f kj5 a0).bind fun t352 => ((spenceref01_Lower.f kj5 a1).bind fun t353 => (if (t351 == (t352.toList == t353.toList)) = true then (if t336.toList = t339.toList then (if t337.toList = t340.toList then (some (t338 == t341)) else (some false)) else (some false)) else (some false))))) else (some false)))) else (some false)))) else (some false))) else (some false)))) else (some false))) = some r := H
          have A12 := Aside0.mk A120
          clear A120
          replace H := Option.bind_eq_some_iff.mp H
          obtain ⟨t343, A130, H⟩ := H
          replace H : (if t343.toList = t342.toList then ((text_Right.f kj5 a0).bind fun t344 => ((spenceref01_Trim.f kj5 a0 true).bind fun t345 => (if t344.toList = t345.toList then ((text_Blank.f kj5 a0).bind fun t346 => (if (t346 == (t342.toList == ([] : List UInt8))) = true then ((text_Lower.f a0).bind fun t347 => ((spenceref01_Lower.f kj5 a0).bind fun t348 => (if t347.toList = t348.toList then ((text_Token.f kj5 a0).bind fun t349 => ((spenceref01_Token.f kj5 a0).bind fun t350 => (if (t349 == t350) = true then ((text_Fold.f a0 a1).bind fun t351 => ((spenceref01_Lower.f kj5 a0).bind fun t352 => ((spenceref01_Lower.f kj5 a1).bind fun t353 => (if (t351 == (t352.toList == t353.toList)) = true then (if t336.toList = t339.toList then (if t337.toList = t340.toList then (some (t338 == t341)) else (some false)) else (some false)) else (some false))))) else (some false)))) else (some false)))) else (some false))) else (some false)))) else (some false)) = some r := H
          have A13 := Aside0.mk A130
          clear A130
          by_cases c14 : t343.toList = t342.toList
          · rw [if_pos c14] at H
            have c14b0 : (t343.toList == t342.toList) = true := beq_iff_eq.mpr c14
            have c14b1 : (t343.toList != t342.toList) = false := bne_eq_false_iff_eq.mpr c14
            clear c14
            replace H := Option.bind_eq_some_iff.mp H
            obtain ⟨t344, A150, H⟩ := H
            replace H : ((spenceref01_Trim.f kj5 a0 true).bind fun t345 => (if t344.toList = t345.toList then ((text_Blank.f kj5 a0).bind fun t346 => (if (t346 == (t342.toList == ([] : List UInt8))) = true then ((text_Lower.f a0).bind fun t347 => ((spenceref01_Lower.f kj5 a0).bind fun t348 => (if t347.toList = t348.toList then ((text_Token.f kj5 a0).bind fun t349 => ((spenceref01_Token.f kj5 a0).bind fun t350 => (if (t349 == t350) = true then ((text_Fold.f a0 a1).bind fun t351 => ((spenceref01_Lower.f kj5 a0).bind fun t352 => ((spenceref01_Lower.f kj5 a1).bind fun t353 => (if (t351 == (t352.toList == t353.toList)) = true then (if t336.toList = t339.toList then (if t337.toList = t340.toList then (some (t338 == t341)) else (some false)) else (some false)) else (some false))))) else (some false)))) else (some false)))) else (some false))) else (some false))) = some r := H
            have A15 := Aside0.mk A150
            clear A150
            replace H := Option.bind_eq_some_iff.mp H
            obtain ⟨t345, A160, H⟩ := H
            replace H : (if t344.toList = t345.toList then ((text_Blank.f kj5 a0).bind fun t346 => (if (t346 == (t342.toList == ([] : List UInt8))) = true then ((text_Lower.f a0).bind fun t347 => ((spenceref01_Lower.f kj5 a0).bind fun t348 => (if t347.toList = t348.toList then ((text_Token.f kj5 a0).bind fun t349 => ((spenceref01_Token.f kj5 a0).bind fun t350 => (if (t349 == t350) = true then ((text_Fold.f a0 a1).bind fun t351 => ((spenceref01_Lower.f kj5 a0).bind fun t352 => ((spenceref01_Lower.f kj5 a1).bind fun t353 => (if (t351 == (t352.toList == t353.toList)) = true then (if t336.toList = t339.toList then (if t337.toList = t340.toList then (some (t338 == t341)) else (some false)) else (some false)) else (some false))))) else (some false)))) else (some false)))) else (some false))) else (some false)) = some r := H
            have A16 := Aside0.mk A160
            clear A160
            by_cases c17 : t344.toList = t345.toList
            · rw [if_pos c17] at H
              have c17b0 : (t344.toList == t345.toList) = true := beq_iff_eq.mpr c17
              have c17b1 : (t344.toList != t345.toList) = false := bne_eq_false_iff_eq.mpr c17
              clear c17
              replace H := Option.bind_eq_some_iff.mp H
              obtain ⟨t346, A180, H⟩ := H
              replace H : (if (t346 == (t342.toList == ([] : List UInt8))) = true then ((text_Lower.f a0).bind fun t347 => ((spenceref01_Lower.f kj5 a0).bind fun t348 => (if t347.toList = t348.toList then ((text_Token.f kj5 a0).bind fun t349 => ((spenceref01_Token.f kj5 a0).bind fun t350 => (if (t349 == t350) = true then ((text_Fold.f a0 a1).bind fun t351 => ((spenceref01_Lower.f kj5 a0).bind fun t352 => ((spenceref01_Lower.f kj5 a1).bind fun t353 => (if (t351 == (t352.toList == t353.toList)) = true then (if t336.toList = t339.toList then (if t337.toList = t340.toList then (some (t338 == t341)) else (some false)) else (some false)) else (some false))))) else (some false)))) else (some false)))) else (some false)) = some r := H
              have A18 := Aside0.mk A180
              clear A180
              by_cases c19 : (t346 == (t342.toList == ([] : List UInt8))) = true
              · rw [if_pos c19] at H
                have c19b0 : (t346 == (t342.toList == ([] : List UInt8))) = true := c19
                (try (have c19b0e : (t346 == t342.toList.isEmpty) = true := by simpa using c19b0))
                (try (have c19b1 : decide (t346 = (t342.toList == ([] : List UInt8))) = true := by simpa using c19))
                (try (have c19b1e : decide (t346 = t342.toList.isEmpty) = true := by simpa using c19b1))
                (try (have c19b2 : (t346 == (t342.toList == ([] : List UInt8))) = true := by simpa using c19))
                (try (have c19b2e : (t346 == t342.toList.isEmpty) = true := by simpa using c19b2))
                clear c19
                replace H := Option.bind_eq_some_iff.mp H
                obtain ⟨t347, A200, H⟩ := H
                replace H : ((spenceref01_Lower.f kj5 a0).bind fun t348 => (if t347.toList = t348.toList then ((text_Token.f kj5 a0).bind fun t349 => ((spenceref01_Token.f kj5 a0).bind fun t350 => (if (t349 == t350) = true then ((text_Fold.f a0 a1).bind fun t351 => ((spenceref01_Lower.f kj5 a0).bind fun t352 => ((spenceref01_Lower.f kj5 a1).bind fun t353 => (if (t351 == (t352.toList == t353.toList)) = true then (if t336.toList = t339.toList then (if t337.toList = t340.toList then (some (t338 == t341)) else (some false)) else (some false)) else (some false))))) else (some false)))) else (some false))) = some r := H
                have A20 := Aside0.mk A200
                clear A200
                replace H := Option.bind_eq_some_iff.mp H
                obtain ⟨t348, A210, H⟩ := H
                replace H : (if t347.toList = t348.toList then ((text_Token.f kj5 a0).bind fun t349 => ((spenceref01_Token.f kj5 a0).bind fun t350 => (if (t349 == t350) = true then ((text_Fold.f a0 a1).bind fun t351 => ((spenceref01_Lower.f kj5 a0).bind fun t352 => ((spenceref01_Lower.f kj5 a1).bind fun t353 => (if (t351 == (t352.toList == t353.toList)) = true then (if t336.toList = t339.toList then (if t337.toList = t340.toList then (some (t338 == t341)) else (some false)) else (some false)) else (some false))))) else (some false)))) else (some false)) = some r := H
                have A21 := Aside0.mk A210
                clear A210
                by_cases c22 : t347.toList = t348.toList
                · rw [if_pos c22] at H
                  have c22b0 : (t347.toList == t348.toList) = true := beq_iff_eq.mpr c22
                  have c22b1 : (t347.toList != t348.toList) = false := bne_eq_false_iff_eq.mpr c22
                  clear c22
                  replace H := Option.bind_eq_some_iff.mp H
                  obtain ⟨t349, A230, H⟩ := H
                  replace H : ((spenceref01_Token.f kj5 a0).bind fun t350 => (if (t349 == t350) = true then ((text_Fold.f a0 a1).bind fun t351 => ((spenceref01_Lower.f kj5 a0).bind fun t352 => ((spenceref01_Lower.f kj5 a1).bind fun t353 => (if (t351 == (t352.toList == t353.toList)) = true then (if t336.toList = t339.toList then (if t337.toList = t340.toList then (some (t338 == t341)) else (some false)) else (some false)) else (some false))))) else (some false))) = some r := H
                  have A23 := Aside0.mk A230
                  clear A230
                  replace H := Option.bind_eq_some_iff.mp H
                  obtain ⟨t350, A240, H⟩ := H
                  replace H : (if (t349 == t350) = true then ((text_Fold.f a0 a1).bind fun t351 => ((spenceref01_Lower.f kj5 a0).bind fun t352 => ((spenceref01_Lower.f kj5 a1).bind fun t353 => (if (t351 == (t352.toList == t353.toList)) = true then (if t336.toList = t339.toList then (if t337.toList = t340.toList then (some (t338 == t341)) else (some false)) else (some false)) else (some false))))) else (some false)) = some r := H
                  have A24 := Aside0.mk A240
                  clear A240
                  by_cases c25 : (t349 == t350) = true
                  · rw [if_pos c25] at H
                    have c25b0 : (t349 == t350) = true := c25
                    (try (have c25b1 : decide (t349 = t350) = true := by simpa using c25))
                    (try (have c25b2 : (t349 == t350) = true := by simpa using c25))
                    clear c25
                    replace H := Option.bind_eq_some_iff.mp H
                    obtain ⟨t351, A260, H⟩ := H
                    replace H : ((spenceref01_Lower.f kj5 a0).bind fun t352 => ((spenceref01_Lower.f kj5 a1).bind fun t353 => (if (t351 == (t352.toList == t353.toList)) = true then (if t336.toList = t339.toList then (if t337.toList = t340.toList then (some (t338 == t341)) else (some false)) else (some false)) else (some false)))) = some r := H
                    have A26 := Aside0.mk A260
                    clear A260
                    replace H := Option.bind_eq_some_iff.mp H
                    obtain ⟨t352, A270, H⟩ := H
                    replace H : ((spenceref01_Lower.f kj5 a1).bind fun t353 => (if (t351 == (t352.toList == t353.toList)) = true then (if t336.toList = t339.toList then (if t337.toList = t340.toList then (some (t338 == t341)) else (some false)) else (some false)) else (some false))) = some r := H
                    have A27 := Aside0.mk A270
                    have dup_t352 : t348 = t352 := Option.some.inj (A21.out.symm.trans A27.out)
                    (try (have c22b0x : (t347.toList == t352.toList) = true := by rw [← dup_t352]; exact c22b0))
                    (try (have c22b1x : (t347.toList != t352.toList) = false := by rw [← dup_t352]; exact c22b1))
                    clear A270
                    replace H := Option.bind_eq_some_iff.mp H
                    obtain ⟨t353, A280, H⟩ := H
                    replace H : (if (t351 == (t352.toList == t353.toList)) = true then (if t336.toList = t339.toList then (if t337.toList = t340.toList then (some (t338 == t341)) else (some false)) else (some false)) else (some false)) = some r := H
                    have A28 := Aside0.mk A280
                    clear A280
                    by_cases c29 : (t351 == (t352.toList == t353.toList)) = true
                    · rw [if_pos c29] at H
                      have c29b0 : (t351 == (t352.toList == t353.toList)) = true := c29
                      (try (have c29b0d : (t351 == (t348.toList == t353.toList)) = true := by rw [dup_t352]; exact c29b0))
                      (try (have c29b1 : decide (t351 = (t352.toList == t353.toList)) = true := by simpa using c29))
                      (try (have c29b1d : decide (t351 = (t348.toList == t353.toList)) = true := by rw [dup_t352]; exact c29b1))
                      (try (have c29b2 : (t351 == (t352.toList == t353.toList)) = true := by simpa using c29))
                      (try (have c29b2d : (t351 == (t348.toList == t353.toList)) = true := by rw [dup_t352]; exact c29b2))
                      clear c29
                      by_cases c30 : t336.toList = t339.toList
                      · rw [if_pos c30] at H
                        have c30b0 : (t336.toList == t339.toList) = true := beq_iff_eq.mpr c30
                        have c30b1 : (t336.toList != t339.toList) = false := bne_eq_false_iff_eq.mpr c30
                        clear c30
                        by_cases c31 : t337.toList = t340.toList
                        · rw [if_pos c31] at H
                          have c31b0 : (t337.toList == t340.toList) = true := beq_iff_eq.mpr c31
                          have c31b1 : (t337.toList != t340.toList) = false := bne_eq_false_iff_eq.mpr c31
                          clear c31
                          obtain rfl := Option.some.inj H
                          go_wp2_with (first | ((with_reducible refine gate_callee (f := 37) rfl ?_); refine goesL_ (some 27) rfl rfl Try.func37 (by kernel_rfl) rfl #[.string a0, .int .u8 a2] rfl (by (try simp only [List.map_toArray, List.map_cons, List.map_nil]); first | done | rfl | (simp only [List.length_drop, List.length_take]; rfl)) ?_; (with_reducible refine (text_Cut.calls a0 a2 t336 t337 t338 _ A10.out).mono ?_); rintro e w' ⟨rfl, ⟨nd, rfl⟩⟩; refine ⟨_, rfl, ?_⟩) | ((with_reducible refine gate_callee (f := 20) rfl ?_); refine goesL_ (some 34) rfl rfl Try.func20 (by kernel_rfl) rfl #[.string a0, .int .u8 a2] rfl (by (try simp only [List.map_toArray, List.map_cons, List.map_nil]); first | done | rfl | (simp only [List.length_drop, List.length_take]; rfl)) ?_; (with_reducible refine (spenceref01_Cut.calls kj5 a0 a2 t339 t340 t341 _ A11.out).mono ?_); rintro e w' ⟨rfl, ⟨nd, rfl⟩⟩; refine ⟨_, rfl, ?_⟩) | ((with_reducible refine gate_callee (f := 21) rfl ?_); refine goesL_ (some 39) rfl rfl Try.func21 (by kernel_rfl) rfl #[.string a0, .bool false] rfl (by (try simp only [List.map_toArray, List.map_cons, List.map_nil]); first | done | rfl | (simp only [List.length_drop, List.length_take]; rfl)) ?_; (with_reducible refine (spenceref01_Trim.calls kj5 a0 false t342 _ A12.out).mono ?_); rintro e w' ⟨rfl, ⟨nd, rfl⟩⟩; refine ⟨_, rfl, ?_⟩) | ((with_reducible refine gate_callee (f := 38) rfl ?_); refine goesL_ (some 41) rfl rfl Try.func38 (by kernel_rfl) rfl #[.string a0] rfl (by (try simp only [List.map_toArray, List.map_cons, List.map_nil]); first | done | rfl | (simp only [List.length_drop, List.length_take]; rfl)) ?_; (with_reducible refine (text_Trim.calls kj5 a0 t343 _ A13.out).mono ?_); rintro e w' ⟨rfl, ⟨nd, rfl⟩⟩; refine ⟨_, rfl, ?_⟩) | (go_at_call 39; (with_reducible refine (text_Right.calls kj5 a0 t344 _ A15.out).mono ?_); rintro e w' ⟨rfl, ⟨nd, rfl⟩⟩) | (go_at_call 21; (with_reducible refine (spenceref01_Trim.calls kj5 a0 true t345 _ A16.out).mono ?_); rintro e w' ⟨rfl, ⟨nd, rfl⟩⟩) | (go_at_call 40; (with_reducible refine (text_Blank.calls kj5 a0 t346 _ A18.out).mono ?_); rintro e w' ⟨rfl, ⟨nd, rfl⟩⟩) | (go_at_call 41; (with_reducible refine (text_Lower.calls a0 t347 _ A20.out).mono ?_); rintro e w32 ⟨rfl, hb⟩; have n0_ := Aside0.mk (below_step (by repeat (first | (with_reducible first | exact HB.out | apply below_alloc | apply pw_below_drewN | apply below_drew1) | exact HB.out)) hb); clear HB; have HB := n0_; clear n0_; (try clear hb); (try clear hb2); (try clear hk); (try clear hi)) | (go_at_call 42; (with_reducible refine (spenceref01_Lower.calls kj5 a0 t348 _ A21.out).mono ?_); rintro e w33 ⟨rfl, hb⟩; have n0_ := Aside0.mk (below_step (by repeat (first | (with_reducible first | exact HB.out | apply below_alloc | apply pw_below_drewN | apply below_drew1) | exact HB.out)) hb); clear HB; have HB := n0_; clear n0_; (try clear hb); (try clear hb2); (try clear hk); (try clear hi)) | (go_at_call 43; (with_reducible refine (text_Token.calls kj5 a0 t349 _ A23.out).mono ?_); rintro e w' ⟨rfl, ⟨nd, rfl⟩⟩) | (go_at_call 44; (with_reducible refine (spenceref01_Token.calls kj5 a0 t350 _ A24.out).mono ?_); rintro e w' ⟨rfl, ⟨nd, rfl⟩⟩) | (go_at_call 45; (with_reducible refine (text_Fold.calls a0 a1 t351 _ A26.out).mono ?_); rintro e w34 ⟨rfl, hb⟩; have n0_ := Aside0.mk (below_step (by repeat (first | (with_reducible first | exact HB.out | apply below_alloc | apply pw_below_drewN | apply below_drew1) | exact HB.out)) hb); clear HB; have HB := n0_; clear n0_; (try clear hb); (try clear hb2); (try clear hk); (try clear hi)) | (go_at_call 42; (with_reducible refine (spenceref01_Lower.calls kj5 a0 t352 _ A27.out).mono ?_); rintro e w35 ⟨rfl, hb⟩; have n0_ := Aside0.mk (below_step (by repeat (first | (with_reducible first | exact HB.out | apply below_alloc | apply pw_below_drewN | apply below_drew1) | exact HB.out)) hb); clear HB; have HB := n0_; clear n0_; (try clear hb); (try clear hb2); (try clear hk); (try clear hi)) | (go_at_call 42; (with_reducible refine (spenceref01_Lower.calls kj5 a1 t353 _ A28.out).mono ?_); rintro e w36 ⟨rfl, hb⟩; have n0_ := Aside0.mk (below_step (by repeat (first | (with_reducible first | exact HB.out | apply below_alloc | apply pw_below_drewN | apply below_drew1) | exact HB.out)) hb); clear HB; have HB := n0_; clear n0_; (try clear hb); (try clear hb2); (try clear hk); (try clear hi)))
                          go_ret
                          exact ⟨by first | rfl | exact ne_empty _ | exact eq_empty _ | (simp [errW_none, errW_some] <;> rfl) | (simp [*, errW_none, errW_some] <;> rfl), by repeat (first | (with_reducible first | exact HB.out | apply below_alloc | apply pw_below_drewN | apply below_drew1) | exact HB.out)⟩
                        · rw [if_neg c31] at H
                          have c31b0 : (t337.toList == t340.toList) = false := beq_eq_false_iff_ne.mpr c31
                          have c31b1 : (t337.toList != t340.toList) = true := bne_iff_ne.mpr c31
                          obtain rfl := Option.some.inj H
                          go_wp2_with (first | ((with_reducible refine gate_callee (f := 37) rfl ?_); refine goesL_ (some 27) rfl rfl Try.func37 (by kernel_rfl) rfl #[.string a0, .int .u8 a2] rfl (by (try simp only [List.map_toArray, List.map_cons, List.map_nil]); first | done | rfl | (simp only [List.length_drop, List.length_take]; rfl)) ?_; (with_reducible refine (text_Cut.calls a0 a2 t336 t337 t338 _ A10.out).mono ?_); rintro e w' ⟨rfl, ⟨nd, rfl⟩⟩; refine ⟨_, rfl, ?_⟩) | ((with_reducible refine gate_callee (f := 20) rfl ?_); refine goesL_ (some 34) rfl rfl Try.func20 (by kernel_rfl) rfl #[.string a0, .int .u8 a2] rfl (by (try simp only [List.map_toArray, List.map_cons, List.map_nil]); first | done | rfl | (simp only [List.length_drop, List.length_take]; rfl)) ?_; (with_reducible refine (spenceref01_Cut.calls kj5 a0 a2 t339 t340 t341 _ A11.out).mono ?_); rintro e w' ⟨rfl, ⟨nd, rfl⟩⟩; refine ⟨_, rfl, ?_⟩) | ((with_reducible refine gate_callee (f := 21) rfl ?_); refine goesL_ (some 39) rfl rfl Try.func21 (by kernel_rfl) rfl #[.string a0, .bool false] rfl (by (try simp only [List.map_toArray, List.map_cons, List.map_nil]); first | done | rfl | (simp only [List.length_drop, List.length_take]; rfl)) ?_; (with_reducible refine (spenceref01_Trim.calls kj5 a0 false t342 _ A12.out).mono ?_); rintro e w' ⟨rfl, ⟨nd, rfl⟩⟩; refine ⟨_, rfl, ?_⟩) | ((with_reducible refine gate_callee (f := 38) rfl ?_); refine goesL_ (some 41) rfl rfl Try.func38 (by kernel_rfl) rfl #[.string a0] rfl (by (try simp only [List.map_toArray, List.map_cons, List.map_nil]); first | done | rfl | (simp only [List.length_drop, List.length_take]; rfl)) ?_; (with_reducible refine (text_Trim.calls kj5 a0 t343 _ A13.out).mono ?_); rintro e w' ⟨rfl, ⟨nd, rfl⟩⟩; refine ⟨_, rfl, ?_⟩) | (go_at_call 39; (with_reducible refine (text_Right.calls kj5 a0 t344 _ A15.out).mono ?_); rintro e w' ⟨rfl, ⟨nd, rfl⟩⟩) | (go_at_call 21; (with_reducible refine (spenceref01_Trim.calls kj5 a0 true t345 _ A16.out).mono ?_); rintro e w' ⟨rfl, ⟨nd, rfl⟩⟩) | (go_at_call 40; (with_reducible refine (text_Blank.calls kj5 a0 t346 _ A18.out).mono ?_); rintro e w' ⟨rfl, ⟨nd, rfl⟩⟩) | (go_at_call 41; (with_reducible refine (text_Lower.calls a0 t347 _ A20.out).mono ?_); rintro e w37 ⟨rfl, hb⟩; have n0_ := Aside0.mk (below_step (by repeat (first | (with_reducible first | exact HB.out | apply below_alloc | apply pw_below_drewN | apply below_drew1) | exact HB.out)) hb); clear HB; have HB := n0_; clear n0_; (try clear hb); (try clear hb2); (try clear hk); (try clear hi)) | (go_at_call 42; (with_reducible refine (spenceref01_Lower.calls kj5 a0 t348 _ A21.out).mono ?_); rintro e w38 ⟨rfl, hb⟩; have n0_ := Aside0.mk (below_step (by repeat (first | (with_reducible first | exact HB.out | apply below_alloc | apply pw_below_drewN | apply below_drew1) | exact HB.out)) hb); clear HB; have HB := n0_; clear n0_; (try clear hb); (try clear hb2); (try clear hk); (try clear hi)) | (go_at_call 43; (with_reducible refine (text_Token.calls kj5 a0 t349 _ A23.out).mono ?_); rintro e w' ⟨rfl, ⟨nd, rfl⟩⟩) | (go_at_call 44; (with_reducible refine (spenceref01_Token.calls kj5 a0 t350 _ A24.out).mono ?_); rintro e w' ⟨rfl, ⟨nd, rfl⟩⟩) | (go_at_call 45; (with_reducible refine (text_Fold.calls a0 a1 t351 _ A26.out).mono ?_); rintro e w39 ⟨rfl, hb⟩; have n0_ := Aside0.mk (below_step (by repeat (first | (with_reducible first | exact HB.out | apply below_alloc | apply pw_below_drewN | apply below_drew1) | exact HB.out)) hb); clear HB; have HB := n0_; clear n0_; (try clear hb); (try clear hb2); (try clear hk); (try clear hi)) | (go_at_call 42; (with_reducible refine (spenceref01_Lower.calls kj5 a0 t352 _ A27.out).mono ?_); rintro e w40 ⟨rfl, hb⟩; have n0_ := Aside0.mk (below_step (by repeat (first | (with_reducible first | exact HB.out | apply below_alloc | apply pw_below_drewN | apply below_drew1) | exact HB.out)) hb); clear HB; have HB := n0_; clear n0_; (try clear hb); (try clear hb2); (try clear hk); (try clear hi)) | (go_at_call 42; (with_reducible refine (spenceref01_Lower.calls kj5 a1 t353 _ A28.out).mono ?_); rintro e w41 ⟨rfl, hb⟩; have n0_ := Aside0.mk (below_step (by repeat (first | (with_reducible first | exact HB.out | apply below_alloc | apply pw_below_drewN | apply below_drew1) | exact HB.out)) hb); clear HB; have HB := n0_; clear n0_; (try clear hb); (try clear hb2); (try clear hk); (try clear hi)))
                          go_ret
                          exact ⟨by first | rfl | exact ne_empty _ | exact eq_empty _ | (simp [errW_none, errW_some] <;> rfl) | (simp [*, errW_none, errW_some] <;> rfl), by repeat (first | (with_reducible first | exact HB.out | apply below_alloc | apply pw_below_drewN | apply below_drew1) | exact HB.out)⟩
                      · rw [if_neg c30] at H
                        have c30b0 : (t336.toList == t339.toList) = false := beq_eq_false_iff_ne.mpr c30
                        have c30b1 : (t336.toList != t339.toList) = true := bne_iff_ne.mpr c30
                        obtain rfl := Option.some.inj H
                        go_wp2_with (first | ((with_reducible refine gate_callee (f := 37) rfl ?_); refine goesL_ (some 27) rfl rfl Try.func37 (by kernel_rfl) rfl #[.string a0, .int .u8 a2] rfl (by (try simp only [List.map_toArray, List.map_cons, List.map_nil]); first | done | rfl | (simp only [List.length_drop, List.length_take]; rfl)) ?_; (with_reducible refine (text_Cut.calls a0 a2 t336 t337 t338 _ A10.out).mono ?_); rintro e w' ⟨rfl, ⟨nd, rfl⟩⟩; refine ⟨_, rfl, ?_⟩) | ((with_reducible refine gate_callee (f := 20) rfl ?_); refine goesL_ (some 34) rfl rfl Try.func20 (by kernel_rfl) rfl #[.string a0, .int .u8 a2] rfl (by (try simp only [List.map_toArray, List.map_cons, List.map_nil]); first | done | rfl | (simp only [List.length_drop, List.length_take]; rfl)) ?_; (with_reducible refine (spenceref01_Cut.calls kj5 a0 a2 t339 t340 t341 _ A11.out).mono ?_); rintro e w' ⟨rfl, ⟨nd, rfl⟩⟩; refine ⟨_, rfl, ?_⟩) | ((with_reducible refine gate_callee (f := 21) rfl ?_); refine goesL_ (some 39) rfl rfl Try.func21 (by kernel_rfl) rfl #[.string a0, .bool false] rfl (by (try simp only [List.map_toArray, List.map_cons, List.map_nil]); first | done | rfl | (simp only [List.length_drop, List.length_take]; rfl)) ?_; (with_reducible refine (spenceref01_Trim.calls kj5 a0 false t342 _ A12.out).mono ?_); rintro e w' ⟨rfl, ⟨nd, rfl⟩⟩; refine ⟨_, rfl, ?_⟩) | ((with_reducible refine gate_callee (f := 38) rfl ?_); refine goesL_ (some 41) rfl rfl Try.func38 (by kernel_rfl) rfl #[.string a0] rfl (by (try simp only [List.map_toArray, List.map_cons, List.map_nil]); first | done | rfl | (simp only [List.length_drop, List.length_take]; rfl)) ?_; (with_reducible refine (text_Trim.calls kj5 a0 t343 _ A13.out).mono ?_); rintro e w' ⟨rfl, ⟨nd, rfl⟩⟩; refine ⟨_, rfl, ?_⟩) | (go_at_call 39; (with_reducible refine (text_Right.calls kj5 a0 t344 _ A15.out).mono ?_); rintro e w' ⟨rfl, ⟨nd, rfl⟩⟩) | (go_at_call 21; (with_reducible refine (spenceref01_Trim.calls kj5 a0 true t345 _ A16.out).mono ?_); rintro e w' ⟨rfl, ⟨nd, rfl⟩⟩) | (go_at_call 40; (with_reducible refine (text_Blank.calls kj5 a0 t346 _ A18.out).mono ?_); rintro e w' ⟨rfl, ⟨nd, rfl⟩⟩) | (go_at_call 41; (with_reducible refine (text_Lower.calls a0 t347 _ A20.out).mono ?_); rintro e w42 ⟨rfl, hb⟩; have n0_ := Aside0.mk (below_step (by repeat (first | (with_reducible first | exact HB.out | apply below_alloc | apply pw_below_drewN | apply below_drew1) | exact HB.out)) hb); clear HB; have HB := n0_; clear n0_; (try clear hb); (try clear hb2); (try clear hk); (try clear hi)) | (go_at_call 42; (with_reducible refine (spenceref01_Lower.calls kj5 a0 t348 _ A21.out).mono ?_); rintro e w43 ⟨rfl, hb⟩; have n0_ := Aside0.mk (below_step (by repeat (first | (with_reducible first | exact HB.out | apply below_alloc | apply pw_below_drewN | apply below_drew1) | exact HB.out)) hb); clear HB; have HB := n0_; clear n0_; (try clear hb); (try clear hb2); (try clear hk); (try clear hi)) | (go_at_call 43; (with_reducible refine (text_Token.calls kj5 a0 t349 _ A23.out).mono ?_); rintro e w' ⟨rfl, ⟨nd, rfl⟩⟩) | (go_at_call 44; (with_reducible refine (spenceref01_Token.calls kj5 a0 t350 _ A24.out).mono ?_); rintro e w' ⟨rfl, ⟨nd, rfl⟩⟩) | (go_at_call 45; (with_reducible refine (text_Fold.calls a0 a1 t351 _ A26.out).mono ?_); rintro e w44 ⟨rfl, hb⟩; have n0_ := Aside0.mk (below_step (by repeat (first | (with_reducible first | exact HB.out | apply below_alloc | apply pw_below_drewN | apply below_drew1) | exact HB.out)) hb); clear HB; have HB := n0_; clear n0_; (try clear hb); (try clear hb2); (try clear hk); (try clear hi)) | (go_at_call 42; (with_reducible refine (spenceref01_Lower.calls kj5 a0 t352 _ A27.out).mono ?_); rintro e w45 ⟨rfl, hb⟩; have n0_ := Aside0.mk (below_step (by repeat (first | (with_reducible first | exact HB.out | apply below_alloc | apply pw_below_drewN | apply below_drew1) | exact HB.out)) hb); clear HB; have HB := n0_; clear n0_; (try clear hb); (try clear hb2); (try clear hk); (try clear hi)) | (go_at_call 42; (with_reducible refine (spenceref01_Lower.calls kj5 a1 t353 _ A28.out).mono ?_); rintro e w46 ⟨rfl, hb⟩; have n0_ := Aside0.mk (below_step (by repeat (first | (with_reducible first | exact HB.out | apply below_alloc | apply pw_below_drewN | apply below_drew1) | exact HB.out)) hb); clear HB; have HB := n0_; clear n0_; (try clear hb); (try clear hb2); (try clear hk); (try clear hi)))
                        go_ret
                        exact ⟨by first | rfl | exact ne_empty _ | exact eq_empty _ | (simp [errW_none, errW_some] <;> rfl) | (simp [*, errW_none, errW_some] <;> rfl), by repeat (first | (with_reducible first | exact HB.out | apply below_alloc | apply pw_below_drewN | apply below_drew1) | exact HB.out)⟩
                    · rw [if_neg c29] at H
                      have c29b0 : (t351 == (t352.toList == t353.toList)) = false := by simpa using c29
                      (try (have c29b0d : (t351 == (t348.toList == t353.toList)) = false := by rw [dup_t352]; exact c29b0))
                      (try (have c29b1 : decide (t351 = (t352.toList == t353.toList)) = false := by simpa using c29))
                      (try (have c29b1d : decide (t351 = (t348.toList == t353.toList)) = false := by rw [dup_t352]; exact c29b1))
                      (try (have c29b2 : (t351 == (t352.toList == t353.toList)) = false := by simpa using c29))
                      (try (have c29b2d : (t351 == (t348.toList == t353.toList)) = false := by rw [dup_t352]; exact c29b2))
                      (try (have c29b3 : ¬ (t351 = (t352.toList == t353.toList)) := by simpa using c29))
                      (try (have c29b3d : ¬ (t351 = (t348.toList == t353.toList)) := by rw [dup_t352]; exact c29b3))
                      clear c29
                      obtain rfl := Option.some.inj H
                      go_wp2_with (first | ((with_reducible refine gate_callee (f := 37) rfl ?_); refine goesL_ (some 27) rfl rfl Try.func37 (by kernel_rfl) rfl #[.string a0, .int .u8 a2] rfl (by (try simp only [List.map_toArray, List.map_cons, List.map_nil]); first | done | rfl | (simp only [List.length_drop, List.length_take]; rfl)) ?_; (with_reducible refine (text_Cut.calls a0 a2 t336 t337 t338 _ A10.out).mono ?_); rintro e w' ⟨rfl, ⟨nd, rfl⟩⟩; refine ⟨_, rfl, ?_⟩) | ((with_reducible refine gate_callee (f := 20) rfl ?_); refine goesL_ (some 34) rfl rfl Try.func20 (by kernel_rfl) rfl #[.string a0, .int .u8 a2] rfl (by (try simp only [List.map_toArray, List.map_cons, List.map_nil]); first | done | rfl | (simp only [List.length_drop, List.length_take]; rfl)) ?_; (with_reducible refine (spenceref01_Cut.calls kj5 a0 a2 t339 t340 t341 _ A11.out).mono ?_); rintro e w' ⟨rfl, ⟨nd, rfl⟩⟩; refine ⟨_, rfl, ?_⟩) | ((with_reducible refine gate_callee (f := 21) rfl ?_); refine goesL_ (some 39) rfl rfl Try.func21 (by kernel_rfl) rfl #[.string a0, .bool false] rfl (by (try simp only [List.map_toArray, List.map_cons, List.map_nil]); first | done | rfl | (simp only [List.length_drop, List.length_take]; rfl)) ?_; (with_reducible refine (spenceref01_Trim.calls kj5 a0 false t342 _ A12.out).mono ?_); rintro e w' ⟨rfl, ⟨nd, rfl⟩⟩; refine ⟨_, rfl, ?_⟩) | ((with_reducible refine gate_callee (f := 38) rfl ?_); refine goesL_ (some 41) rfl rfl Try.func38 (by kernel_rfl) rfl #[.string a0] rfl (by (try simp only [List.map_toArray, List.map_cons, List.map_nil]); first | done | rfl | (simp only [List.length_drop, List.length_take]; rfl)) ?_; (with_reducible refine (text_Trim.calls kj5 a0 t343 _ A13.out).mono ?_); rintro e w' ⟨rfl, ⟨nd, rfl⟩⟩; refine ⟨_, rfl, ?_⟩) | (go_at_call 39; (with_reducible refine (text_Right.calls kj5 a0 t344 _ A15.out).mono ?_); rintro e w' ⟨rfl, ⟨nd, rfl⟩⟩) | (go_at_call 21; (with_reducible refine (spenceref01_Trim.calls kj5 a0 true t345 _ A16.out).mono ?_); rintro e w' ⟨rfl, ⟨nd, rfl⟩⟩) | (go_at_call 40; (with_reducible refine (text_Blank.calls kj5 a0 t346 _ A18.out).mono ?_); rintro e w' ⟨rfl, ⟨nd, rfl⟩⟩) | (go_at_call 41; (with_reducible refine (text_Lower.calls a0 t347 _ A20.out).mono ?_); rintro e w47 ⟨rfl, hb⟩; have n0_ := Aside0.mk (below_step (by repeat (first | (with_reducible first | exact HB.out | apply below_alloc | apply pw_below_drewN | apply below_drew1) | exact HB.out)) hb); clear HB; have HB := n0_; clear n0_; (try clear hb); (try clear hb2); (try clear hk); (try clear hi)) | (go_at_call 42; (with_reducible refine (spenceref01_Lower.calls kj5 a0 t348 _ A21.out).mono ?_); rintro e w48 ⟨rfl, hb⟩; have n0_ := Aside0.mk (below_step (by repeat (first | (with_reducible first | exact HB.out | apply below_alloc | apply pw_below_drewN | apply below_drew1) | exact HB.out)) hb); clear HB; have HB := n0_; clear n0_; (try clear hb); (try clear hb2); (try clear hk); (try clear hi)) | (go_at_call 43; (with_reducible refine (text_Token.calls kj5 a0 t349 _ A23.out).mono ?_); rintro e w' ⟨rfl, ⟨nd, rfl⟩⟩) | (go_at_call 44; (with_reducible refine (spenceref01_Token.calls kj5 a0 t350 _ A24.out).mono ?_); rintro e w' ⟨rfl, ⟨nd, rfl⟩⟩) | (go_at_call 45; (with_reducible refine (text_Fold.calls a0 a1 t351 _ A26.out).mono ?_); rintro e w49 ⟨rfl, hb⟩; have n0_ := Aside0.mk (below_step (by repeat (first | (with_reducible first | exact HB.out | apply below_alloc | apply pw_below_drewN | apply below_drew1) | exact HB.out)) hb); clear HB; have HB := n0_; clear n0_; (try clear hb); (try clear hb2); (try clear hk); (try clear hi)) | (go_at_call 42; (with_reducible refine (spenceref01_Lower.calls kj5 a0 t352 _ A27.out).mono ?_); rintro e w50 ⟨rfl, hb⟩; have n0_ := Aside0.mk (below_step (by repeat (first | (with_reducible first | exact HB.out | apply below_alloc | apply pw_below_drewN | apply below_drew1) | exact HB.out)) hb); clear HB; have HB := n0_; clear n0_; (try clear hb); (try clear hb2); (try clear hk); (try clear hi)) | (go_at_call 42; (with_reducible refine (spenceref01_Lower.calls kj5 a1 t353 _ A28.out).mono ?_); rintro e w51 ⟨rfl, hb⟩; have n0_ := Aside0.mk (below_step (by repeat (first | (with_reducible first | exact HB.out | apply below_alloc | apply pw_below_drewN | apply below_drew1) | exact HB.out)) hb); clear HB; have HB := n0_; clear n0_; (try clear hb); (try clear hb2); (try clear hk); (try clear hi)))
                      go_ret
                      exact ⟨by first | rfl | exact ne_empty _ | exact eq_empty _ | (simp [errW_none, errW_some] <;> rfl) | (simp [*, errW_none, errW_some] <;> rfl), by repeat (first | (with_reducible first | exact HB.out | apply below_alloc | apply pw_below_drewN | apply below_drew1) | exact HB.out)⟩
                  · rw [if_neg c25] at H
                    have c25b0 : (t349 == t350) = false := by simpa using c25
                    (try (have c25b1 : decide (t349 = t350) = false := by simpa using c25))
                    (try (have c25b2 : (t349 == t350) = false := by simpa using c25))
                    (try (have c25b3 : ¬ (t349 = t350) := by simpa using c25))
                    clear c25
                    obtain rfl := Option.some.inj H
                    go_wp2_with (first | ((with_reducible refine gate_callee (f := 37) rfl ?_); refine goesL_ (some 27) rfl rfl Try.func37 (by kernel_rfl) rfl #[.string a0, .int .u8 a2] rfl (by (try simp only [List.map_toArray, List.map_cons, List.map_nil]); first | done | rfl | (simp only [List.length_drop, List.length_take]; rfl)) ?_; (with_reducible refine (text_Cut.calls a0 a2 t336 t337 t338 _ A10.out).mono ?_); rintro e w' ⟨rfl, ⟨nd, rfl⟩⟩; refine ⟨_, rfl, ?_⟩) | ((with_reducible refine gate_callee (f := 20) rfl ?_); refine goesL_ (some 34) rfl rfl Try.func20 (by kernel_rfl) rfl #[.string a0, .int .u8 a2] rfl (by (try simp only [List.map_toArray, List.map_cons, List.map_nil]); first | done | rfl | (simp only [List.length_drop, List.length_take]; rfl)) ?_; (with_reducible refine (spenceref01_Cut.calls kj5 a0 a2 t339 t340 t341 _ A11.out).mono ?_); rintro e w' ⟨rfl, ⟨nd, rfl⟩⟩; refine ⟨_, rfl, ?_⟩) | ((with_reducible refine gate_callee (f := 21) rfl ?_); refine goesL_ (some 39) rfl rfl Try.func21 (by kernel_rfl) rfl #[.string a0, .bool false] rfl (by (try simp only [List.map_toArray, List.map_cons, List.map_nil]); first | done | rfl | (simp only [List.length_drop, List.length_take]; rfl)) ?_; (with_reducible refine (spenceref01_Trim.calls kj5 a0 false t342 _ A12.out).mono ?_); rintro e w' ⟨rfl, ⟨nd, rfl⟩⟩; refine ⟨_, rfl, ?_⟩) | ((with_reducible refine gate_callee (f := 38) rfl ?_); refine goesL_ (some 41) rfl rfl Try.func38 (by kernel_rfl) rfl #[.string a0] rfl (by (try simp only [List.map_toArray, List.map_cons, List.map_nil]); first | done | rfl | (simp only [List.length_drop, List.length_take]; rfl)) ?_; (with_reducible refine (text_Trim.calls kj5 a0 t343 _ A13.out).mono ?_); rintro e w' ⟨rfl, ⟨nd, rfl⟩⟩; refine ⟨_, rfl, ?_⟩) | (go_at_call 39; (with_reducible refine (text_Right.calls kj5 a0 t344 _ A15.out).mono ?_); rintro e w' ⟨rfl, ⟨nd, rfl⟩⟩) | (go_at_call 21; (with_reducible refine (spenceref01_Trim.calls kj5 a0 true t345 _ A16.out).mono ?_); rintro e w' ⟨rfl, ⟨nd, rfl⟩⟩) | (go_at_call 40; (with_reducible refine (text_Blank.calls kj5 a0 t346 _ A18.out).mono ?_); rintro e w' ⟨rfl, ⟨nd, rfl⟩⟩) | (go_at_call 41; (with_reducible refine (text_Lower.calls a0 t347 _ A20.out).mono ?_); rintro e w52 ⟨rfl, hb⟩; have n0_ := Aside0.mk (below_step (by repeat (first | (with_reducible first | exact HB.out | apply below_alloc | apply pw_below_drewN | apply below_drew1) | exact HB.out)) hb); clear HB; have HB := n0_; clear n0_; (try clear hb); (try clear hb2); (try clear hk); (try clear hi)) | (go_at_call 42; (with_reducible refine (spenceref01_Lower.calls kj5 a0 t348 _ A21.out).mono ?_); rintro e w53 ⟨rfl, hb⟩; have n0_ := Aside0.mk (below_step (by repeat (first | (with_reducible first | exact HB.out | apply below_alloc | apply pw_below_drewN | apply below_drew1) | exact HB.out)) hb); clear HB; have HB := n0_; clear n0_; (try clear hb); (try clear hb2); (try clear hk); (try clear hi)) | (go_at_call 43; (with_reducible refine (text_Token.calls kj5 a0 t349 _ A23.out).mono ?_); rintro e w' ⟨rfl, ⟨nd, rfl⟩⟩) | (go_at_call 44; (with_reducible refine (spenceref01_Token.calls kj5 a0 t350 _ A24.out).mono ?_); rintro e w' ⟨rfl, ⟨nd, rfl⟩⟩))
                    go_ret
                    exact ⟨by first | rfl | exact ne_empty _ | exact eq_empty _ | (simp [errW_none, errW_some] <;> rfl) | (simp [*, errW_none, errW_some] <;> rfl), by repeat (first | (with_reducible first | exact HB.out | apply below_alloc | apply pw_below_drewN | apply below_drew1) | exact HB.out)⟩
                · rw [if_neg c22] at H
                  have c22b0 : (t347.toList == t348.toList) = false := beq_eq_false_iff_ne.mpr c22
                  have c22b1 : (t347.toList != t348.toList) = true := bne_iff_ne.mpr c22
                  obtain rfl := Option.some.inj H
                  go_wp2_with (first | ((with_reducible refine gate_callee (f := 37) rfl ?_); refine goesL_ (some 27) rfl rfl Try.func37 (by kernel_rfl) rfl #[.string a0, .int .u8 a2] rfl (by (try simp only [List.map_toArray, List.map_cons, List.map_nil]); first | done | rfl | (simp only [List.length_drop, List.length_take]; rfl)) ?_; (with_reducible refine (text_Cut.calls a0 a2 t336 t337 t338 _ A10.out).mono ?_); rintro e w' ⟨rfl, ⟨nd, rfl⟩⟩; refine ⟨_, rfl, ?_⟩) | ((with_reducible refine gate_callee (f := 20) rfl ?_); refine goesL_ (some 34) rfl rfl Try.func20 (by kernel_rfl) rfl #[.string a0, .int .u8 a2] rfl (by (try simp only [List.map_toArray, List.map_cons, List.map_nil]); first | done | rfl | (simp only [List.length_drop, List.length_take]; rfl)) ?_; (with_reducible refine (spenceref01_Cut.calls kj5 a0 a2 t339 t340 t341 _ A11.out).mono ?_); rintro e w' ⟨rfl, ⟨nd, rfl⟩⟩; refine ⟨_, rfl, ?_⟩) | ((with_reducible refine gate_callee (f := 21) rfl ?_); refine goesL_ (some 39) rfl rfl Try.func21 (by kernel_rfl) rfl #[.string a0, .bool false] rfl (by (try simp only [List.map_toArray, List.map_cons, List.map_nil]); first | done | rfl | (simp only [List.length_drop, List.length_take]; rfl)) ?_; (with_reducible refine (spenceref01_Trim.calls kj5 a0 false t342 _ A12.out).mono ?_); rintro e w' ⟨rfl, ⟨nd, rfl⟩⟩; refine ⟨_, rfl, ?_⟩) | ((with_reducible refine gate_callee (f := 38) rfl ?_); refine goesL_ (some 41) rfl rfl Try.func38 (by kernel_rfl) rfl #[.string a0] rfl (by (try simp only [List.map_toArray, List.map_cons, List.map_nil]); first | done | rfl | (simp only [List.length_drop, List.length_take]; rfl)) ?_; (with_reducible refine (text_Trim.calls kj5 a0 t343 _ A13.out).mono ?_); rintro e w' ⟨rfl, ⟨nd, rfl⟩⟩; refine ⟨_, rfl, ?_⟩) | (go_at_call 39; (with_reducible refine (text_Right.calls kj5 a0 t344 _ A15.out).mono ?_); rintro e w' ⟨rfl, ⟨nd, rfl⟩⟩) | (go_at_call 21; (with_reducible refine (spenceref01_Trim.calls kj5 a0 true t345 _ A16.out).mono ?_); rintro e w' ⟨rfl, ⟨nd, rfl⟩⟩) | (go_at_call 40; (with_reducible refine (text_Blank.calls kj5 a0 t346 _ A18.out).mono ?_); rintro e w' ⟨rfl, ⟨nd, rfl⟩⟩) | (go_at_call 41; (with_reducible refine (text_Lower.calls a0 t347 _ A20.out).mono ?_); rintro e w54 ⟨rfl, hb⟩; have n0_ := Aside0.mk (below_step (by repeat (first | (with_reducible first | exact HB.out | apply below_alloc | apply pw_below_drewN | apply below_drew1) | exact HB.out)) hb); clear HB; have HB := n0_; clear n0_; (try clear hb); (try clear hb2); (try clear hk); (try clear hi)) | (go_at_call 42; (with_reducible refine (spenceref01_Lower.calls kj5 a0 t348 _ A21.out).mono ?_); rintro e w55 ⟨rfl, hb⟩; have n0_ := Aside0.mk (below_step (by repeat (first | (with_reducible first | exact HB.out | apply below_alloc | apply pw_below_drewN | apply below_drew1) | exact HB.out)) hb); clear HB; have HB := n0_; clear n0_; (try clear hb); (try clear hb2); (try clear hk); (try clear hi)))
                  go_ret
                  exact ⟨by first | rfl | exact ne_empty _ | exact eq_empty _ | (simp [errW_none, errW_some] <;> rfl) | (simp [*, errW_none, errW_some] <;> rfl), by repeat (first | (with_reducible first | exact HB.out | apply below_alloc | apply pw_below_drewN | apply below_drew1) | exact HB.out)⟩
              · rw [if_neg c19] at H
                have c19b0 : (t346 == (t342.toList == ([] : List UInt8))) = false := by simpa using c19
                (try (have c19b0e : (t346 == t342.toList.isEmpty) = false := by simpa using c19b0))
                (try (have c19b1 : decide (t346 = (t342.toList == ([] : List UInt8))) = false := by simpa using c19))
                (try (have c19b1e : decide (t346 = t342.toList.isEmpty) = false := by simpa using c19b1))
                (try (have c19b2 : (t346 == (t342.toList == ([] : List UInt8))) = false := by simpa using c19))
                (try (have c19b2e : (t346 == t342.toList.isEmpty) = false := by simpa using c19b2))
                (try (have c19b3 : ¬ (t346 = (t342.toList == ([] : List UInt8))) := by simpa using c19))
                (try (have c19b3e : ¬ (t346 = t342.toList.isEmpty) := by simpa using c19b3))
                clear c19
                obtain rfl := Option.some.inj H
                go_wp2_with (first | ((with_reducible refine gate_callee (f := 37) rfl ?_); refine goesL_ (some 27) rfl rfl Try.func37 (by kernel_rfl) rfl #[.string a0, .int .u8 a2] rfl (by (try simp only [List.map_toArray, List.map_cons, List.map_nil]); first | done | rfl | (simp only [List.length_drop, List.length_take]; rfl)) ?_; (with_reducible refine (text_Cut.calls a0 a2 t336 t337 t338 _ A10.out).mono ?_); rintro e w' ⟨rfl, ⟨nd, rfl⟩⟩; refine ⟨_, rfl, ?_⟩) | ((with_reducible refine gate_callee (f := 20) rfl ?_); refine goesL_ (some 34) rfl rfl Try.func20 (by kernel_rfl) rfl #[.string a0, .int .u8 a2] rfl (by (try simp only [List.map_toArray, List.map_cons, List.map_nil]); first | done | rfl | (simp only [List.length_drop, List.length_take]; rfl)) ?_; (with_reducible refine (spenceref01_Cut.calls kj5 a0 a2 t339 t340 t341 _ A11.out).mono ?_); rintro e w' ⟨rfl, ⟨nd, rfl⟩⟩; refine ⟨_, rfl, ?_⟩) | ((with_reducible refine gate_callee (f := 21) rfl ?_); refine goesL_ (some 39) rfl rfl Try.func21 (by kernel_rfl) rfl #[.string a0, .bool false] rfl (by (try simp only [List.map_toArray, List.map_cons, List.map_nil]); first | done | rfl | (simp only [List.length_drop, List.length_take]; rfl)) ?_; (with_reducible refine (spenceref01_Trim.calls kj5 a0 false t342 _ A12.out).mono ?_); rintro e w' ⟨rfl, ⟨nd, rfl⟩⟩; refine ⟨_, rfl, ?_⟩) | ((with_reducible refine gate_callee (f := 38) rfl ?_); refine goesL_ (some 41) rfl rfl Try.func38 (by kernel_rfl) rfl #[.string a0] rfl (by (try simp only [List.map_toArray, List.map_cons, List.map_nil]); first | done | rfl | (simp only [List.length_drop, List.length_take]; rfl)) ?_; (with_reducible refine (text_Trim.calls kj5 a0 t343 _ A13.out).mono ?_); rintro e w' ⟨rfl, ⟨nd, rfl⟩⟩; refine ⟨_, rfl, ?_⟩) | (go_at_call 39; (with_reducible refine (text_Right.calls kj5 a0 t344 _ A15.out).mono ?_); rintro e w' ⟨rfl, ⟨nd, rfl⟩⟩) | (go_at_call 21; (with_reducible refine (spenceref01_Trim.calls kj5 a0 true t345 _ A16.out).mono ?_); rintro e w' ⟨rfl, ⟨nd, rfl⟩⟩) | (go_at_call 40; (with_reducible refine (text_Blank.calls kj5 a0 t346 _ A18.out).mono ?_); rintro e w' ⟨rfl, ⟨nd, rfl⟩⟩))
                go_ret
                exact ⟨by first | rfl | exact ne_empty _ | exact eq_empty _ | (simp [errW_none, errW_some] <;> rfl) | (simp [*, errW_none, errW_some] <;> rfl), by repeat (first | (with_reducible first | exact HB.out | apply below_alloc | apply pw_below_drewN | apply below_drew1) | exact HB.out)⟩
            · rw [if_neg c17] at H
              have c17b0 : (t344.toList == t345.toList) = false := beq_eq_false_iff_ne.mpr c17
              have c17b1 : (t344.toList != t345.toList) = true := bne_iff_ne.mpr c17
              obtain rfl := Option.some.inj H
              go_wp2_with (first | ((with_reducible refine gate_callee (f := 37) rfl ?_); refine goesL_ (some 27) rfl rfl Try.func37 (by kernel_rfl) rfl #[.string a0, .int .u8 a2] rfl (by (try simp only [List.map_toArray, List.map_cons, List.map_nil]); first | done | rfl | (simp only [List.length_drop, List.length_take]; rfl)) ?_; (with_reducible refine (text_Cut.calls a0 a2 t336 t337 t338 _ A10.out).mono ?_); rintro e w' ⟨rfl, ⟨nd, rfl⟩⟩; refine ⟨_, rfl, ?_⟩) | ((with_reducible refine gate_callee (f := 20) rfl ?_); refine goesL_ (some 34) rfl rfl Try.func20 (by kernel_rfl) rfl #[.string a0, .int .u8 a2] rfl (by (try simp only [List.map_toArray, List.map_cons, List.map_nil]); first | done | rfl | (simp only [List.length_drop, List.length_take]; rfl)) ?_; (with_reducible refine (spenceref01_Cut.calls kj5 a0 a2 t339 t340 t341 _ A11.out).mono ?_); rintro e w' ⟨rfl, ⟨nd, rfl⟩⟩; refine ⟨_, rfl, ?_⟩) | ((with_reducible refine gate_callee (f := 21) rfl ?_); refine goesL_ (some 39) rfl rfl Try.func21 (by kernel_rfl) rfl #[.string a0, .bool false] rfl (by (try simp only [List.map_toArray, List.map_cons, List.map_nil]); first | done | rfl | (simp only [List.length_drop, List.length_take]; rfl)) ?_; (with_reducible refine (spenceref01_Trim.calls kj5 a0 false t342 _ A12.out).mono ?_); rintro e w' ⟨rfl, ⟨nd, rfl⟩⟩; refine ⟨_, rfl, ?_⟩) | ((with_reducible refine gate_callee (f := 38) rfl ?_); refine goesL_ (some 41) rfl rfl Try.func38 (by kernel_rfl) rfl #[.string a0] rfl (by (try simp only [List.map_toArray, List.map_cons, List.map_nil]); first | done | rfl | (simp only [List.length_drop, List.length_take]; rfl)) ?_; (with_reducible refine (text_Trim.calls kj5 a0 t343 _ A13.out).mono ?_); rintro e w' ⟨rfl, ⟨nd, rfl⟩⟩; refine ⟨_, rfl, ?_⟩) | (go_at_call 39; (with_reducible refine (text_Right.calls kj5 a0 t344 _ A15.out).mono ?_); rintro e w' ⟨rfl, ⟨nd, rfl⟩⟩) | (go_at_call 21; (with_reducible refine (spenceref01_Trim.calls kj5 a0 true t345 _ A16.out).mono ?_); rintro e w' ⟨rfl, ⟨nd, rfl⟩⟩))
              go_ret
              exact ⟨by first | rfl | exact ne_empty _ | exact eq_empty _ | (simp [errW_none, errW_some] <;> rfl) | (simp [*, errW_none, errW_some] <;> rfl), by repeat (first | (with_reducible first | exact HB.out | apply below_alloc | apply pw_below_drewN | apply below_drew1) | exact HB.out)⟩
          · rw [if_neg c14] at H
            have c14b0 : (t343.toList == t342.toList) = false := beq_eq_false_iff_ne.mpr c14
            have c14b1 : (t343.toList != t342.toList) = true := bne_iff_ne.mpr c14
            obtain rfl := Option.some.inj H
            go_wp2_with (first | ((with_reducible refine gate_callee (f := 37) rfl ?_); refine goesL_ (some 27) rfl rfl Try.func37 (by kernel_rfl) rfl #[.string a0, .int .u8 a2] rfl (by (try simp only [List.map_toArray, List.map_cons, List.map_nil]); first | done | rfl | (simp only [List.length_drop, List.length_take]; rfl)) ?_; (with_reducible refine (text_Cut.calls a0 a2 t336 t337 t338 _ A10.out).mono ?_); rintro e w' ⟨rfl, ⟨nd, rfl⟩⟩; refine ⟨_, rfl, ?_⟩) | ((with_reducible refine gate_callee (f := 20) rfl ?_); refine goesL_ (some 34) rfl rfl Try.func20 (by kernel_rfl) rfl #[.string a0, .int .u8 a2] rfl (by (try simp only [List.map_toArray, List.map_cons, List.map_nil]); first | done | rfl | (simp only [List.length_drop, List.length_take]; rfl)) ?_; (with_reducible refine (spenceref01_Cut.calls kj5 a0 a2 t339 t340 t341 _ A11.out).mono ?_); rintro e w' ⟨rfl, ⟨nd, rfl⟩⟩; refine ⟨_, rfl, ?_⟩) | ((with_reducible refine gate_callee (f := 21) rfl ?_); refine goesL_ (some 39) rfl rfl Try.func21 (by kernel_rfl) rfl #[.string a0, .bool false] rfl (by (try simp only [List.map_toArray, List.map_cons, List.map_nil]); first | done | rfl | (simp only [List.length_drop, List.length_take]; rfl)) ?_; (with_reducible refine (spenceref01_Trim.calls kj5 a0 false t342 _ A12.out).mono ?_); rintro e w' ⟨rfl, ⟨nd, rfl⟩⟩; refine ⟨_, rfl, ?_⟩) | ((with_reducible refine gate_callee (f := 38) rfl ?_); refine goesL_ (some 41) rfl rfl Try.func38 (by kernel_rfl) rfl #[.string a0] rfl (by (try simp only [List.map_toArray, List.map_cons, List.map_nil]); first | done | rfl | (simp only [List.length_drop, List.length_take]; rfl)) ?_; (with_reducible refine (text_Trim.calls kj5 a0 t343 _ A13.out).mono ?_); rintro e w' ⟨rfl, ⟨nd, rfl⟩⟩; refine ⟨_, rfl, ?_⟩))
            go_ret
            exact ⟨by first | rfl | exact ne_empty _ | exact eq_empty _ | (simp [errW_none, errW_some] <;> rfl) | (simp [*, errW_none, errW_some] <;> rfl), by repeat (first | (with_reducible first | exact HB.out | apply below_alloc | apply pw_below_drewN | apply below_drew1) | exact HB.out)⟩
  · replace c5 := Bool.eq_false_iff.mpr c5
    subst c5
    have H1 : (some false) = some r := by rw [if_neg (show ¬ (false = true) by decide)] at H; exact H
    clear H
    have H := H1
    clear H1
    obtain rfl := Option.some.inj H
    go_enter Try.func11, Try.ntmps11
    go_wp2_with (first | ((with_reducible refine gate_callee (f := 15) rfl ?_); refine goesL_ (some 14) rfl rfl Try.func15 (by kernel_rfl) rfl #[] rfl (by (try simp only [List.map_toArray, List.map_cons, List.map_nil]); first | done | rfl | (simp only [List.length_drop, List.length_take]; rfl)) ?_; (with_reducible refine (spencelaw03_awake.calls k  false _ A4.out).mono ?_); rintro e w56 ⟨rfl, hb⟩; refine ⟨_, rfl, ?_⟩; have n0_ := Aside0.mk (below_step (by repeat (first | (with_reducible first | exact HB.out | apply below_alloc | apply pw_below_drewN | apply below_drew1) | exact HB.out)) hb); clear HB; have HB := n0_; clear n0_; (try clear hb); (try clear hb2); (try clear hk); (try clear hi)))
    go_ret
    exact ⟨by first | rfl | exact ne_empty _ | exact eq_empty _ | (simp [errW_none, errW_some] <;> rfl) | (simp [*, errW_none, errW_some] <;> rfl), by repeat (first | (with_reducible first | exact HB.out | apply below_alloc | apply pw_below_drewN | apply below_drew1) | exact HB.out)⟩

/-- THE ONE PURE STATEMENT of spencelaw03_TextTells. -/
def spencelaw03_TextTells.Pure : Prop := ∀ (a0 : ByteArray) (a1 : ByteArray) (a2 : Int), a0.size ≤ 140737488351232 → a1.size ≤ 140737488351232 → (Lit.int .u8 a2).wf = true → ∃ k, spencelaw03_TextTells.f k a0 a1 a2 = some true

end Go.Proofs.Ytbihggkkaoacpaa.PAll
