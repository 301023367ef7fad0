/- The law CondTells: for every input the call returns true, and each argument reads behind the call as it read before. No condition. (The row, and the plain law ahead of it.) -/
import Derived.Test.YtahoibanpplhbaaKCondTells1
import Derived.Test.YtahoibanpplhbaaKCondTells2
import Derived.Test.YtahoibanpplhbaaKCondTells0
import Derived.OpenShut
import Derived.Laws.BytesArg
import Derived.Laws.Strings
import Derived.Lib.Bytealg
import Derived.Shelf.Strings.OnBuilder
import Derived.Test.YtahoibanpplhbaaProg
import Derived.Test.YtahoibanpplhbaaRows
import Derived.WalkKit
import Derived.ProofKit
import Derived.ShutString
import Derived.ChangeOld
import Derived.Below
import Derived.SizedLaws
namespace Go.Proofs.Ytahoibanpplhbaa.PAll
open Go.RowKit Go.Proofs.Ytahoibanpplhbaa.Xw Go.Proofs.YtahoibanpplhbaaW.PrintWords Go.Proofs.YtahoibanpplhbaaW.PrintLast Go.Proofs.YtahoibanpplhbaaW.PrintMore
attribute [local go_sem] max2_int min2_int max_two min_two max_three min_three max_four min_four   -- for this text's walks alone
set_option linter.unusedVariables false
set_option linter.unusedSimpArgs false
attribute [local go_sem high] eqA51
mutual
def spenceref04_Cond.j0 : Nat → List ByteArray → Bool → Option (Bool × (List (S51)) × Int)
  | 0, _, _ => none
  | k + 1, x5, x28 => if x28 = true then (some (false, ([] : List (S51)), 3)) else (spenceref04_Cond.l0 k ([] : List (S51)) x5 (x5.length : Int) 0)
def spenceref04_Cond.l0 : Nat → List (S51) → List ByteArray → Int → Int → Option (Bool × (List (S51)) × Int)
  | 0, _, _, _, _ => none
  | k + 1, x7, x29, x30, x31 => if x31 < x30 then (if 0 ≤ x31 then (if x31 < (x29.length : Int) then ((spenceref04_ETag.f k (rdOf ByteArray.empty x29 x31)).bind fun bt340 => (if bt340.2.2 = 0 then (if x7.length < 5864062014805 then (spenceref04_Cond.l0 k (x7 ++ [(⟨bt340.1, bt340.2.1⟩ : S51)]) x29 x30 (wrap64 (x31 + 1))) else (none)) else (some (false, ([] : List (S51)), bt340.2.2)))) else (none)) else (none)) else (if (x7.length : Int) > 16 then (some (false, ([] : List (S51)), 10)) else (some (false, x7, 0)))
end
def spenceref04_Cond.f (k : Nat) (a0 : ByteArray) : Option (Bool × (List (S51)) × Int) := (spenceref01_Trim.f k a0 false).bind fun t331 => (if t331.toList = ([42] : List UInt8) then (some (true, ([] : List (S51)), 0)) else ((spenceref01_Pieces.f k t331 true).bind fun t332 => ((spenceref01_List.f k t332).bind fun bt335 => (if bt335.2 = true then (spenceref04_Cond.j0 k bt335.1 ((bt335.1.length : Int) == 0)) else (spenceref04_Cond.j0 k bt335.1 true)))))
theorem spenceref04_Cond.mono_l : ∀ k, (∀ y0 y1, LeO (spenceref04_Cond.j0 k y0 y1) (spenceref04_Cond.j0 (k + 1) y0 y1)) ∧ (∀ y0 y1 y2 y3, LeO (spenceref04_Cond.l0 k y0 y1 y2 y3) (spenceref04_Cond.l0 (k + 1) y0 y1 y2 y3))
  | 0 => ⟨fun _ _ r h => by simp [spenceref04_Cond.j0] at h, fun _ _ _ _ r h => by simp [spenceref04_Cond.l0] at h⟩
  | k + 1 => by
    obtain ⟨ih0, ih1⟩ := spenceref04_Cond.mono_l k
    refine ⟨?_, ?_⟩
    · intro y0 y1
      unfold spenceref04_Cond.j0
      repeat' first
      | (with_reducible exact ih0 _ _)
      | (with_reducible exact ih1 _ _ _ _)
      | (with_reducible exact spenceref01_List.mono _ _)
      | (with_reducible exact spenceref01_Pieces.mono _ _ _)
      | (with_reducible exact spenceref01_Trim.mono _ _ _)
      | (with_reducible exact spenceref04_ETag.mono _ _)
      | (with_reducible exact LeO.refl _)
      | (with_reducible exact LeO.none _)
      | (with_reducible refine LeO.ite ?_ ?_)
      | (with_reducible refine LeO.bind ?_ (fun _ => ?_))
      | exact ih0 _ _
      | exact ih1 _ _ _ _
      | exact spenceref01_List.mono _ _
      | exact spenceref01_Pieces.mono _ _ _
      | exact spenceref01_Trim.mono _ _ _
      | exact spenceref04_ETag.mono _ _
      | exact LeO.none _
      | refine LeO.ite ?_ ?_
      | refine LeO.bind ?_ (fun _ => ?_)
    · intro y0 y1 y2 y3
      unfold spenceref04_Cond.l0
      repeat' first
      | (with_reducible exact ih0 _ _)
      | (with_reducible exact ih1 _ _ _ _)
      | (with_reducible exact spenceref01_List.mono _ _)
      | (with_reducible exact spenceref01_Pieces.mono _ _ _)
      | (with_reducible exact spenceref01_Trim.mono _ _ _)
      | (with_reducible exact spenceref04_ETag.mono _ _)
      | (with_reducible exact LeO.refl _)
      | (with_reducible exact LeO.none _)
      | (with_reducible refine LeO.ite ?_ ?_)
      | (with_reducible refine LeO.bind ?_ (fun _ => ?_))
      | exact ih0 _ _
      | exact ih1 _ _ _ _
      | exact spenceref01_List.mono _ _
      | exact spenceref01_Pieces.mono _ _ _
      | exact spenceref01_Trim.mono _ _ _
      | exact spenceref04_ETag.mono _ _
      | exact LeO.none _
      | refine LeO.ite ?_ ?_
      | refine LeO.bind ?_ (fun _ => ?_)
theorem spenceref04_Cond.mono : ∀ a0 k, LeO (spenceref04_Cond.f k a0) (spenceref04_Cond.f (k + 1) a0) := by
  intro a0 k
  obtain ⟨ih0, ih1⟩ := spenceref04_Cond.mono_l k
  unfold spenceref04_Cond.f
  repeat' first
      | (with_reducible exact ih0 _ _)
      | (with_reducible exact ih1 _ _ _ _)
      | (with_reducible exact spenceref01_List.mono _ _)
      | (with_reducible exact spenceref01_Pieces.mono _ _ _)
      | (with_reducible exact spenceref01_Trim.mono _ _ _)
      | (with_reducible exact spenceref04_ETag.mono _ _)
      | (with_reducible exact LeO.refl _)
      | (with_reducible exact LeO.none _)
      | (with_reducible refine LeO.ite ?_ ?_)
      | (with_reducible refine LeO.bind ?_ (fun _ => ?_))
      | exact ih0 _ _
      | exact ih1 _ _ _ _
      | exact spenceref01_List.mono _ _
      | exact spenceref01_Pieces.mono _ _ _
      | exact spenceref01_Trim.mono _ _ _
      | exact spenceref04_ETag.mono _ _
      | exact LeO.none _
      | refine LeO.ite ?_ ?_
      | refine LeO.bind ?_ (fun _ => ?_)
set_option maxHeartbeats 8000000 in
set_option maxRecDepth 100000 in
theorem spenceref04_Cond.calls (k : Nat) (a0 : ByteArray) (r1 : Bool) (r2 : List (S51)) (r3 : Int) (w : World) (h : spenceref04_Cond.f k a0 = some (r1, r2, r3)) :
    Calls Try.prog 19 #[.string a0] w fun e w' => ∃ v1_ : Value, e = .returned (.tuple #[.bool r1, v1_, .int .i64 r3]) ∧ Kd.R k51 51 w' w.heap.size (fun _ => True) v1_ r2 ∧ Below w.heap.size w w' := by
  have hu51 := Try.underlying51
  have HB := Aside0.mk (Below.refl w.heap.size w)
  have H : ((spenceref01_Trim.f k a0 false).bind fun t331 => (if t331.toList = ([42] : List UInt8) then (some (true, ([] : List (S51)), 0)) else ((spenceref01_Pieces.f k t331 true).bind fun t332 => ((spenceref01_List.f k t332).bind fun bt335 => (if bt335.2 = true then (spenceref04_Cond.j0 k bt335.1 ((bt335.1.length : Int) == 0)) else (spenceref04_Cond.j0 k bt335.1 true)))))) = some (r1, r2, r3) := h
  clear h
  replace H := Option.bind_eq_some_iff.mp H
  obtain ⟨t331, A20, H⟩ := H
  replace H : (if t331.toList = ([42] : List UInt8) then (some (true, ([] : List (S51)), 0)) else ((spenceref01_Pieces.f k t331 true).bind fun t332 => ((spenceref01_List.f k t332).bind fun bt335 => (if bt335.2 = true then (spenceref04_Cond.j0 k bt335.1 ((bt335.1.length : Int) == 0)) else (spenceref04_Cond.j0 k bt335.1 true))))) = some (r1, r2, r3) := H
  have A2 := Aside0.mk A20
  clear A20
  by_cases c3 : t331.toList = ([42] : List UInt8)
  · rw [if_pos c3] at H
    have c3b0 : (t331.toList == ([42] : List UInt8)) = true := beq_iff_eq.mpr c3
    have c3b1 : (t331.toList != ([42] : List UInt8)) = false := bne_eq_false_iff_eq.mpr c3
    clear c3
    simp only [Option.some.injEq, Prod.mk.injEq] at H
    obtain ⟨rfl, rfl, rfl⟩ := H
    go_enter Try.func19, Try.ntmps19
    go_wp2_with (first | ((with_reducible refine gate_callee (f := 43) rfl ?_); refine goesL_ (some 13) rfl rfl Try.func43 (by kernel_rfl) rfl #[.string a0, .bool false] rfl (by (try simp only [List.map_toArray, List.map_cons, List.map_nil]); first | done | rfl | (simp only [List.length_drop, List.length_take]; rfl)) ?_; (with_reducible refine (spenceref01_Trim.calls k a0 false t331 _ A2.out).mono ?_); rintro e w' ⟨rfl, ⟨nd, rfl⟩⟩; refine ⟨_, rfl, ?_⟩))
    go_ret3
    exact ⟨_, by first | rfl | (simp [errW_none, errW_some] <;> rfl) | (simp [*, errW_none, errW_some] <;> rfl), by first | exact Kd.R_nil _ _ _ _ _ | exact Kd.N_nil _ _ _ _ _ | exact Kd.V_nil _ _ _ _ _ | exact Kd.Q_nil _ _ _ _ _ | exact Kd.S_nil _ _ _ _ _, by repeat (first | (with_reducible first | exact HB.out | apply below_alloc | apply pw_below_drewN | apply below_drew1) | exact HB.out)⟩
  · rw [if_neg c3] at H
    have c3b0 : (t331.toList == ([42] : List UInt8)) = false := beq_eq_false_iff_ne.mpr c3
    have c3b1 : (t331.toList != ([42] : List UInt8)) = true := bne_iff_ne.mpr c3
    replace H := Option.bind_eq_some_iff.mp H
    obtain ⟨t332, A40, H⟩ := H
    replace H : ((spenceref01_List.f k t332).bind fun bt335 => (if bt335.2 = true then (spenceref04_Cond.j0 k bt335.1 ((bt335.1.length : Int) == 0)) else (spenceref04_Cond.j0 k bt335.1 true))) = some (r1, r2, r3) := H
    have A4 := Aside0.mk A40
    clear A40
    replace H := Option.bind_eq_some_iff.mp H
    obtain ⟨⟨t335, t336⟩, A50, H⟩ := H
    replace H : (if t336 = true then (spenceref04_Cond.j0 k t335 ((t335.length : Int) == 0)) else (spenceref04_Cond.j0 k t335 true)) = some (r1, r2, r3) := H
    have A5 := Aside0.mk A50
    clear A50
    have HC6 := Aside0.mk H
    clear H
    go_enter Try.func19, Try.ntmps19
    go_upto_region 5 with (first | ((with_reducible refine gate_callee (f := 43) rfl ?_); refine goesL_ (some 13) rfl rfl Try.func43 (by kernel_rfl) rfl #[.string a0, .bool false] rfl (by (try simp only [List.map_toArray, List.map_cons, List.map_nil]); first | done | rfl | (simp only [List.length_drop, List.length_take]; rfl)) ?_; (with_reducible refine (spenceref01_Trim.calls k a0 false t331 _ A2.out).mono ?_); rintro e w' ⟨rfl, ⟨nd, rfl⟩⟩; refine ⟨_, rfl, ?_⟩) | ((with_reducible refine gate_callee (f := 45) rfl ?_); refine goesL_ (some 18) rfl rfl Try.func45 (by kernel_rfl) rfl #[.string t331, .bool true] rfl (by (try simp only [List.map_toArray, List.map_cons, List.map_nil]); first | done | rfl | (simp only [List.length_drop, List.length_take]; rfl)) ?_; (with_reducible refine (spenceref01_Pieces.calls k t331 true t332 _ A4.out).mono ?_); rintro e w7 ⟨v333, rfl, ho0, hb⟩; refine ⟨_, rfl, ?_⟩; have n0_ := Aside0.mk (Kd.R_lower ho0 (below_size (by repeat (first | (with_reducible first | exact HB.out | apply below_alloc | apply pw_below_drewN | apply below_drew1) | exact HB.out)))); have n1_ := Aside0.mk (below_step (by repeat (first | (with_reducible first | exact HB.out | apply below_alloc | apply pw_below_drewN | apply below_drew1) | exact HB.out)) hb); clear HB; have HO334 := n0_; have HB := n1_; clear n0_ n1_; (try clear hb); (try clear hb2); (try clear hk); (try clear hi); (try clear ho0); obtain ⟨Ao8, co8, eo8⟩ := Kd.R_slice HO334.out; subst eo8) | ((with_reducible refine gate_callee (f := 44) rfl ?_); refine goesL_ (some 19) rfl rfl Try.func44 (by kernel_rfl) rfl #[.slice Ao8 t332.length co8] rfl (by (try simp only [List.map_toArray, List.map_cons, List.map_nil]); first | done | rfl | (simp only [List.length_drop, List.length_take]; rfl)) ?_; (with_reducible refine (spenceref01_List.calls k _ _ t332 t335 t336 _ ?side1 ?side2 A5.out).mono ?_); (case side1 => repeat (first | exact (Kd.R_reads' HO334.out).2.2 | (with_reducible refine Kd.C_alloc ?_ _) | (with_reducible refine Kd.C_drewN ?_ _) | (with_reducible refine Kd.C_drew ?_))); (case side2 => exact (Kd.R_reads' HO334.out).2.1); rintro e w9 ⟨v337, rfl, ho0, hb⟩; refine ⟨_, rfl, ?_⟩; have n0_ := Aside0.mk (Kd.R_elder' (by (with_reducible repeat (first | apply Kd.R_alloc | apply Kd.R_drewN | apply Kd.R_drew)); exact HO334.out) (Kd.R_base ho0) hb); have n1_ := Aside0.mk (Kd.R_lower (Kd.R_new' ho0 (Kd.R_lt (by (with_reducible repeat (first | apply Kd.R_alloc | apply Kd.R_drewN | apply Kd.R_drew)); exact HO334.out))) (below_size (by repeat (first | (with_reducible first | exact HB.out | apply below_alloc | apply pw_below_drewN | apply below_drew1) | exact HB.out)))); have n2_ := Aside0.mk (below_step (by repeat (first | (with_reducible first | exact HB.out | apply below_alloc | apply pw_below_drewN | apply below_drew1) | exact HB.out)) hb); clear HO334; clear HB; have HO334 := n0_; have HO338 := n1_; have HB := n2_; clear n0_ n1_ n2_; (try clear hb); (try clear hb2); (try clear hk); (try clear hi); (try clear ho0)))
    (try simp only [Act.put, List.setIfInBounds_toArray, List.set_cons_zero, List.set_cons_succ])
    go_cut [28] (fun v28 wc => ∃ (kq : Nat) (x28_5 : Bool), v28 = .bool x28_5 ∧ Aside0 (spenceref04_Cond.j0 kq t335 x28_5 = some (r1, r2, r3)) ∧ Aside0 (kq ≤ k) ∧ Aside0 (Kd.R Kd.string 9 wc w.heap.size (fun _ => True) v337 t335) ∧ Aside0 (Below w.heap.size w wc))
    case first =>
      have H := HC6.out
      clear HC6
      by_cases c10 : t336 = true
      · subst c10
        have H1 : (spenceref04_Cond.j0 k t335 ((t335.length : Int) == 0)) = some (r1, r2, r3) := by rw [if_pos rfl] at H; exact H
        clear H
        have H := H1
        clear H1
        have H' := Aside0.mk H
        clear H
        obtain ⟨Ao11, co11, eo11⟩ := Kd.R_slice HO338.out
        subst eo11
        go_wp2
        go_meet
        case rel => exact ⟨_, (((t335.length : Int) == 0)), (by first | rfl | (simp; done) | (simp [*]; done)), H', ⟨by first | omega | exact Nat.le_refl _⟩, ⟨by (with_reducible repeat (first | apply Kd.R_alloc | apply Kd.R_drewN | apply Kd.R_drew)); exact Kd.R_mono HO338.out (fun _ hk => trivial)⟩, ⟨by repeat (first | (with_reducible first | exact HB.out | apply below_alloc | apply pw_below_drewN | apply below_drew1) | exact HB.out)⟩⟩
      · replace c10 := Bool.eq_false_iff.mpr c10
        subst c10
        have H1 : (spenceref04_Cond.j0 k t335 true) = some (r1, r2, r3) := by rw [if_neg (show ¬ (false = true) by decide)] at H; exact H
        clear H
        have H := H1
        clear H1
        have H' := Aside0.mk H
        clear H
        go_wp2
        go_meet
        case rel => exact ⟨_, (true), (by first | rfl | (simp; done) | (simp [*]; done)), H', ⟨by first | omega | exact Nat.le_refl _⟩, ⟨by (with_reducible repeat (first | apply Kd.R_alloc | apply Kd.R_drewN | apply Kd.R_drew)); exact Kd.R_mono HO338.out (fun _ hk => trivial)⟩, ⟨by repeat (first | (with_reducible first | exact HB.out | apply below_alloc | apply pw_below_drewN | apply below_drew1) | exact HB.out)⟩⟩
    case rest =>
      clear HC6
      try clear c1
      try clear p2
      try clear c3
      try clear c3b0
      try clear c3b1
      try clear c4
      try clear c10
      obtain ⟨kq, x28_5, rfl, HA, HJ5, HO_5, HB⟩ := hcut
      cases kq with
      | zero => exact absurd HA.out (by simp [spenceref04_Cond.j0])
      | succ kj5 =>
        have H := HA.out
        clear HA
        simp only [spenceref04_Cond.j0] at H
        by_cases c12 : x28_5 = true
        · subst c12
          have H1 : (some (false, ([] : List (S51)), 3)) = some (r1, r2, r3) := by rw [if_pos rfl] at H; exact H
          clear H
          have H := H1
          clear H1
          simp only [Option.some.injEq, Prod.mk.injEq] at H
          obtain ⟨rfl, rfl, rfl⟩ := H
          go_wp2
          go_ret3
          exact ⟨_, by first | rfl | (simp [errW_none, errW_some] <;> rfl) | (simp [*, errW_none, errW_some] <;> rfl), by first | exact Kd.R_nil _ _ _ _ _ | exact Kd.N_nil _ _ _ _ _ | exact Kd.V_nil _ _ _ _ _ | exact Kd.Q_nil _ _ _ _ _ | exact Kd.S_nil _ _ _ _ _, by repeat (first | (with_reducible first | exact HB.out | apply below_alloc | apply pw_below_drewN | apply below_drew1) | exact HB.out)⟩
        · replace c12 := Bool.eq_false_iff.mpr c12
          subst c12
          have H1 : (spenceref04_Cond.l0 kj5 ([] : List (S51)) t335 (t335.length : Int) 0) = some (r1, r2, r3) := by rw [if_neg (show ¬ (false = true) by decide)] at H; exact H
          clear H
          have H := H1
          clear H1
          have H' := Aside0.mk H
          clear H
          obtain ⟨Ao13, co13, eo13⟩ := Kd.R_slice HO_5.out
          subst eo13
          go_wp2
          go_loopg [7, 31] kj5 (fun kq v7 v31 w' => ∃ (x7_2 : List (S51)) (x31_2 : Int), v31 = .int .i64 x31_2 ∧ Aside0 (spenceref04_Cond.l0 kq x7_2 t335 (t335.length : Int) x31_2 = some (r1, r2, r3)) ∧ Aside0 (kq ≤ kj5) ∧ Aside0 (Kd.R k51 51 w' w.heap.size (fun _ => True) v7 x7_2) ∧ Aside0 (Kd.R Kd.string 9 w' w.heap.size (fun _ => True) (.slice Ao13 t335.length co13) t335) ∧ Aside0 (Below w.heap.size w w'))
          case atStart => exact ⟨(([] : List (S51))), (0), (by first | rfl | (simp; done) | (simp [*]; done)), H', ⟨Nat.le_refl _⟩, ⟨by first | exact Kd.R_nil _ _ _ _ _ | exact Kd.N_nil _ _ _ _ _ | exact Kd.V_nil _ _ _ _ _ | exact Kd.Q_nil _ _ _ _ _ | exact Kd.S_nil _ _ _ _ _⟩, ⟨by (with_reducible repeat (first | apply Kd.R_alloc | apply Kd.R_drewN | apply Kd.R_drew)); exact HO_5.out⟩, ⟨by repeat (first | (with_reducible first | exact HB.out | apply below_alloc | apply pw_below_drewN | apply below_drew1) | exact HB.out)⟩⟩
          case round =>
            clear H'
            try clear c1
            try clear p2
            try clear c3
            try clear c3b0
            try clear c3b1
            try clear c4
            try clear c10
            try clear c12
            try clear p2
            obtain ⟨x7_2, x31_2, rfl, HA, HK2, HO_7, HO_29, HB⟩ := hrel
            cases gk with
            | zero => exact absurd HA.out (by simp [spenceref04_Cond.l0])
            | succ k2 =>
              have H := HA.out
              clear HA
              simp only [spenceref04_Cond.l0] at H
              by_cases c14 : x31_2 < (t335.length : Int)
              · rw [if_pos c14] at H
                have c14b0 : decide (x31_2 < (t335.length : Int)) = true := decide_eq_true c14
                clear c14
                by_cases c15 : 0 ≤ x31_2
                · rw [if_pos c15] at H
                  have c15b0 : decide (0 ≤ x31_2) = true := decide_eq_true c15
                  clear c15
                  by_cases c16 : x31_2 < (t335.length : Int)
                  · rw [if_pos c16] at H
                    have c16b0 : decide (x31_2 < (t335.length : Int)) = true := decide_eq_true c16
                    clear c16
                    replace H := Option.bind_eq_some_iff.mp H
                    obtain ⟨⟨t340, t341, t342⟩, A170, H⟩ := H
                    replace H : (if t342 = 0 then (if x7_2.length < 5864062014805 then (spenceref04_Cond.l0 k2 (x7_2 ++ [(⟨t340, t341⟩ : S51)]) t335 (t335.length : Int) (wrap64 (x31_2 + 1))) else (none)) else (some (false, ([] : List (S51)), t342))) = some (r1, r2, r3) := H
                    have A17 := Aside0.mk A170
                    clear A170
                    by_cases c18 : t342 = 0
                    · rw [if_pos c18] at H
                      have c18b0 : (t342 == 0) = true := beq_iff_eq.mpr c18
                      have c18b1 : (t342 != 0) = false := bne_eq_false_iff_eq.mpr c18
                      clear c18
                      by_cases c19 : x7_2.length < 5864062014805
                      · rw [if_pos c19] at H
                        have LMc19 := Aside0.mk c19
                        clear c19
                        obtain ⟨y344, hy344⟩ : ∃ y_ : List (S51), y_ = (x7_2 ++ [(⟨t340, t341⟩ : S51)]) := ⟨_, rfl⟩
                        replace H : (spenceref04_Cond.l0 k2 y344 t335 (t335.length : Int) (wrap64 (x31_2 + 1))) = some (r1, r2, r3) := by first | (rw [hy344]; with_reducible exact H) | (have H2_ := (Option.bind_some _ _).symm.trans H; rw [hy344]; with_reducible exact H2_) | (have H2_ := (Option.bind_some _ _).symm.trans H; with_reducible exact H2_) | with_reducible exact H | (rw [hy344]; exact H) | exact H
                        have Ny344 := Aside0.mk hy344
                        clear hy344
                        have H' := Aside0.mk H
                        clear H
                        have p339 : 0 ≤ (x31_2 : Int) := of_decide_eq_true (by first | (with_reducible assumption) | assumption)
                        have q339 : x31_2 < (t335.length : Int) := of_decide_eq_true (by first | (with_reducible assumption) | assumption)
                        obtain ⟨ad339, e339, hx339_0⟩ := Kd.at_string (Kd.R_reads' HO_29.out).2.2 x31_2 p339 q339
                        cases e339
                        replace p339 := eq_true p339
                        replace q339 := eq_true q339
                        go_wp2_with (first | ((with_reducible refine gate_callee (f := 46) rfl ?_); refine goesL_ (some 37) rfl rfl Try.func46 (by kernel_rfl) rfl #[.string (rdOf ByteArray.empty t335 x31_2)] rfl (by (try simp only [List.map_toArray, List.map_cons, List.map_nil]); first | done | rfl | (simp only [List.length_drop, List.length_take]; rfl)) ?_; (with_reducible refine (spenceref04_ETag.calls k2 (rdOf ByteArray.empty t335 x31_2) t340 t341 t342 _ A17.out).mono ?_); rintro e w20 ⟨rfl, hb⟩; refine ⟨_, rfl, ?_⟩; have n0_ := Aside0.mk (Kd.R_below (by (with_reducible repeat (first | apply Kd.R_alloc | apply Kd.R_drewN | apply Kd.R_drew)); exact HO_7.out) hb); have n1_ := Aside0.mk (Kd.R_below (by (with_reducible repeat (first | apply Kd.R_alloc | apply Kd.R_drewN | apply Kd.R_drew)); exact HO_29.out) hb); have n2_ := Aside0.mk (below_step (by repeat (first | (with_reducible first | exact HB.out | apply below_alloc | apply pw_below_drewN | apply below_drew1) | exact HB.out)) hb); clear HO_7; clear HO_29; clear HB; have HO_7 := n0_; have HO_29 := n1_; have HB := n2_; clear n0_ n1_ n2_; (try clear hb); (try clear hb2); (try clear hk); (try clear hi)) | ((with_reducible refine gate_dst (N := 10) rfl ?_); (try (refine gate_guard (by rfl) ?_; dsimp only)); refine box_event ?hg (N := 10) ?hd (cs := #[.bool false, .string (⟨#[]⟩ : ByteArray)]) (t := 51) ?hr ?_; (case hd => rfl); (case hg => rfl); (case hr => first | (go_simp; done) | (go_simp; rfl)); intro gb343 hg w21 hbox hb; have n0_ := Aside0.mk (Kd.R_below (Kd.R_elderB (by (with_reducible repeat (first | apply Kd.R_alloc | apply Kd.R_drewN | apply Kd.R_drew)); exact HO_7.out) gb343 (Nat.le_of_eq hg.symm)) hb); have n1_ := Aside0.mk (Kd.R_below (by (with_reducible repeat (first | apply Kd.R_alloc | apply Kd.R_drewN | apply Kd.R_drew)); exact HO_29.out) hb); have n2_ := Aside0.mk (below_step (by repeat (first | (with_reducible first | exact HB.out | apply below_alloc | apply pw_below_drewN | apply below_drew1) | exact HB.out)) hb); have n3_ := Aside0.mk (hbox); have n4_ := Aside0.mk ((by rw [hg]; exact (below_size (by repeat (first | (with_reducible first | exact HB.out | apply below_alloc | apply pw_below_drewN | apply below_drew1) | exact HB.out))) : w.heap.size ≤ gb343)); have n5_ := Aside0.mk ((by rw [hg]; exact (below_size (by repeat (first | (with_reducible first | exact HB.out | apply below_alloc | apply pw_below_drewN | apply below_drew1) | exact HB.out))) : w.heap.size ≤ gb343)); clear HO_7; clear HO_29; clear HB; have HO_7 := n0_; have HO_29 := n1_; have HB := n2_; have BK343 := n3_; have GW343 := n4_; have GE343 := n5_; clear n0_ n1_ n2_ n3_ n4_ n5_; clear hb hbox hg; have hcz22_0 : w21.cell? ⟨gb343, 0, none⟩ = some (.bool false) := (blk_cell BK343.out 0).trans rfl; have hcz22_1 : w21.cell? ⟨gb343, 1, none⟩ = some (.string (⟨#[]⟩ : ByteArray)) := (blk_cell BK343.out 1).trans rfl; have hfz22_0 := blk_frozen BK343.out 0; have hfz22_1 := blk_frozen BK343.out 1) | ((with_reducible refine gate_builtin (b := .append) (xs := #[.tmp 43, .tmp 45]) rfl ?_); (try (refine gate_guard (by rfl) ?_; dsimp only)); at_builtin; refine Kd.R_append k51 (w0 := w) w.heap.size rfl (.tmp 43) (.tmp 45) 38 51 (.agg #[(.bool false), (.string ⟨#[]⟩)]) 24 rfl Try.underlying38 info51 rfl (by decide) (by omega) u7 x7_2 (⟨t340, t341⟩ : S51) [.bool t340, .string t341] (fun k_ => k_ ≠ gb343) (fun _ => False) rfl (by first | (go_simp; done) | (go_simp; rfl)) ?aP (fun _ hk => hk.elim) ?aF ?aO ?aB ?aS ?aL ?_; (case aP => exact k51_mkM _ _ _ (⟨t340, t341⟩ : S51)); (case aB => exact (by repeat (first | (with_reducible first | exact HB.out | apply below_alloc | apply pw_below_drewN | apply below_drew1 | refine below_set ?_ GE343.out) | exact HB.out))); (case aF => exact (fun k_ hk => Kd.freshB (g := gb343) (o := .cells #[.bool t340, .string t341] 51 (0, 0)) (by (with_reducible repeat (first | refine blk_drewN ?_ _ | refine blk_drew ?_ | refine blk_alloc ?_ _)); refine blk_put (cs := #[.bool t340, .string (⟨#[]⟩ : ByteArray)]) ?_ 1 _ rfl; (with_reducible repeat (first | refine blk_drewN ?_ _ | refine blk_drew ?_ | refine blk_alloc ?_ _)); refine blk_put (cs := #[.bool false, .string (⟨#[]⟩ : ByteArray)]) ?_ 0 _ rfl; (with_reducible repeat (first | refine blk_drewN ?_ _ | refine blk_drew ?_ | refine blk_alloc ?_ _)); exact BK343.out) k_ hk)); (case aO => exact (by (with_reducible repeat (first | apply Kd.R_alloc | apply Kd.R_drewN | apply Kd.R_drew)); exact Kd.R_mono (Kd.R_far (p := ⟨gb343, 1, none⟩) (Kd.R_far (p := ⟨gb343, 0, none⟩) (Kd.R_mono HO_7.out (fun k_ hk => (⟨hk, hk.2⟩ : _ ∧ k_ ≠ gb343))) (fun _ hk => hk.2) (.bool t340)) (fun _ hk => hk.2) (.string t341)) (fun _ hk => hk.1.2))); (case aS => exact (below_size (by repeat (first | (with_reducible first | exact HB.out | apply below_alloc | apply pw_below_drewN | apply below_drew1 | refine below_set ?_ GE343.out) | exact HB.out)))); (case aL => have := LMc19.out; omega); intro v345 w23 ho hb hg hat; rw [← Ny344.out] at ho; have n0_ := Aside0.mk (Kd.R_over' (by (with_reducible repeat (first | apply Kd.R_alloc | apply Kd.R_drewN | apply Kd.R_drew)); exact (Kd.R_mono (Kd.R_far (p := ⟨gb343, 1, none⟩) (Kd.R_far (p := ⟨gb343, 0, none⟩) (Kd.R_types HO_29.out BK343.out (by decide)) (fun _ hk => hk.2) (.bool t340)) (fun _ hk => hk.2) (.string t341)) (fun _ h_ => h_.1))) (Kd.R_typed (by (with_reducible repeat (first | apply Kd.R_alloc | apply Kd.R_drewN | apply Kd.R_drew)); exact (Kd.R_mono (Kd.R_far (p := ⟨gb343, 1, none⟩) (Kd.R_far (p := ⟨gb343, 0, none⟩) (Kd.R_mono HO_7.out (fun k_ hk => (⟨hk, hk.2⟩ : _ ∧ k_ ≠ gb343))) (fun _ hk => hk.2) (.bool t340)) (fun _ hk => hk.2) (.string t341)) (fun _ h_ => h_.1)))) (by decide) hg); have n1_ := Aside0.mk (blk_grown (g := gb343) (o := .cells #[.bool t340, .string t341] 51 (0, 0)) (by (with_reducible repeat (first | refine blk_drewN ?_ _ | refine blk_drew ?_ | refine blk_alloc ?_ _)); refine blk_put (cs := #[.bool t340, .string (⟨#[]⟩ : ByteArray)]) ?_ 1 _ rfl; (with_reducible repeat (first | refine blk_drewN ?_ _ | refine blk_drew ?_ | refine blk_alloc ?_ _)); refine blk_put (cs := #[.bool false, .string (⟨#[]⟩ : ByteArray)]) ?_ 0 _ rfl; (with_reducible repeat (first | refine blk_drewN ?_ _ | refine blk_drew ?_ | refine blk_alloc ?_ _)); exact BK343.out) hg (Kd.R_away HO_7.out (fun _ hk => hk.2))); have n2_ := Aside0.mk (hb); have n3_ := Aside0.mk (ho); clear HO_29; clear BK343; clear HB; clear HO_7; have HO_29 := n0_; have BK343 := n1_; have HB := n2_; have HO346 := n3_; clear n0_ n1_ n2_ n3_; clear ho hb hg hat))
                        go_roundg k2
                        case measure => have := HJ5.out; have := HK2.out; omega
                        case rel => exact ⟨(y344), (wrap64 (x31_2 + 1)), (by first | rfl | (simp; done) | (simp [*]; done)), H', ⟨by have := HJ5.out; have := HK2.out; omega⟩, ⟨by (with_reducible repeat (first | apply Kd.R_alloc | apply Kd.R_drewN | apply Kd.R_drew)); exact Kd.R_mono HO346.out (fun _ hk => trivial)⟩, ⟨by (with_reducible repeat (first | apply Kd.R_alloc | apply Kd.R_drewN | apply Kd.R_drew)); exact HO_29.out⟩, ⟨by repeat (first | (with_reducible first | exact HB.out | apply below_alloc | apply pw_below_drewN | apply below_drew1 | refine below_set ?_ GE343.out) | exact HB.out)⟩⟩
                      · rw [if_neg c19] at H
                        exact absurd H (by simp)
                    · rw [if_neg c18] at H
                      have c18b0 : (t342 == 0) = false := beq_eq_false_iff_ne.mpr c18
                      have c18b1 : (t342 != 0) = true := bne_iff_ne.mpr c18
                      simp only [Option.some.injEq, Prod.mk.injEq] at H
                      obtain ⟨rfl, rfl, rfl⟩ := H
                      have p339 : 0 ≤ (x31_2 : Int) := of_decide_eq_true (by first | (with_reducible assumption) | assumption)
                      have q339 : x31_2 < (t335.length : Int) := of_decide_eq_true (by first | (with_reducible assumption) | assumption)
                      obtain ⟨ad339, e339, hx339_0⟩ := Kd.at_string (Kd.R_reads' HO_29.out).2.2 x31_2 p339 q339
                      cases e339
                      replace p339 := eq_true p339
                      replace q339 := eq_true q339
                      go_wp2_with (first | ((with_reducible refine gate_callee (f := 46) rfl ?_); refine goesL_ (some 37) rfl rfl Try.func46 (by kernel_rfl) rfl #[.string (rdOf ByteArray.empty t335 x31_2)] rfl (by (try simp only [List.map_toArray, List.map_cons, List.map_nil]); first | done | rfl | (simp only [List.length_drop, List.length_take]; rfl)) ?_; (with_reducible refine (spenceref04_ETag.calls k2 (rdOf ByteArray.empty t335 x31_2) t340 t341 t342 _ A17.out).mono ?_); rintro e w24 ⟨rfl, hb⟩; refine ⟨_, rfl, ?_⟩; have n0_ := Aside0.mk (Kd.R_below (by (with_reducible repeat (first | apply Kd.R_alloc | apply Kd.R_drewN | apply Kd.R_drew)); exact HO_7.out) hb); have n1_ := Aside0.mk (Kd.R_below (by (with_reducible repeat (first | apply Kd.R_alloc | apply Kd.R_drewN | apply Kd.R_drew)); exact HO_29.out) hb); have n2_ := Aside0.mk (below_step (by repeat (first | (with_reducible first | exact HB.out | apply below_alloc | apply pw_below_drewN | apply below_drew1) | exact HB.out)) hb); clear HO_7; clear HO_29; clear HB; have HO_7 := n0_; have HO_29 := n1_; have HB := n2_; clear n0_ n1_ n2_; (try clear hb); (try clear hb2); (try clear hk); (try clear hi)) | ((with_reducible refine gate_dst (N := 10) rfl ?_); (try (refine gate_guard (by rfl) ?_; dsimp only)); refine box_event ?hg (N := 10) ?hd (cs := #[.bool false, .string (⟨#[]⟩ : ByteArray)]) (t := 51) ?hr ?_; (case hd => rfl); (case hg => rfl); (case hr => first | (go_simp; done) | (go_simp; rfl)); intro gb343 hg w25 hbox hb; have n0_ := Aside0.mk (Kd.R_below (Kd.R_elderB (by (with_reducible repeat (first | apply Kd.R_alloc | apply Kd.R_drewN | apply Kd.R_drew)); exact HO_7.out) gb343 (Nat.le_of_eq hg.symm)) hb); have n1_ := Aside0.mk (Kd.R_below (by (with_reducible repeat (first | apply Kd.R_alloc | apply Kd.R_drewN | apply Kd.R_drew)); exact HO_29.out) hb); have n2_ := Aside0.mk (below_step (by repeat (first | (with_reducible first | exact HB.out | apply below_alloc | apply pw_below_drewN | apply below_drew1) | exact HB.out)) hb); have n3_ := Aside0.mk (hbox); have n4_ := Aside0.mk ((by rw [hg]; exact (below_size (by repeat (first | (with_reducible first | exact HB.out | apply below_alloc | apply pw_below_drewN | apply below_drew1) | exact HB.out))) : w.heap.size ≤ gb343)); have n5_ := Aside0.mk ((by rw [hg]; exact (below_size (by repeat (first | (with_reducible first | exact HB.out | apply below_alloc | apply pw_below_drewN | apply below_drew1) | exact HB.out))) : w.heap.size ≤ gb343)); clear HO_7; clear HO_29; clear HB; have HO_7 := n0_; have HO_29 := n1_; have HB := n2_; have BK343 := n3_; have GW343 := n4_; have GE343 := n5_; clear n0_ n1_ n2_ n3_ n4_ n5_; clear hb hbox hg; have hcz26_0 : w25.cell? ⟨gb343, 0, none⟩ = some (.bool false) := (blk_cell BK343.out 0).trans rfl; have hcz26_1 : w25.cell? ⟨gb343, 1, none⟩ = some (.string (⟨#[]⟩ : ByteArray)) := (blk_cell BK343.out 1).trans rfl; have hfz26_0 := blk_frozen BK343.out 0; have hfz26_1 := blk_frozen BK343.out 1))
                      go_ret3
                      exact ⟨_, by first | rfl | (simp [errW_none, errW_some] <;> rfl) | (simp [*, errW_none, errW_some] <;> rfl), by first | exact Kd.R_nil _ _ _ _ _ | exact Kd.N_nil _ _ _ _ _ | exact Kd.V_nil _ _ _ _ _ | exact Kd.Q_nil _ _ _ _ _ | exact Kd.S_nil _ _ _ _ _, by repeat (first | (with_reducible first | exact HB.out | apply below_alloc | apply pw_below_drewN | apply below_drew1 | refine below_set ?_ GE343.out) | exact HB.out)⟩
                  · rw [if_neg c16] at H
                    exact absurd H (by simp)
                · rw [if_neg c15] at H
                  exact absurd H (by simp)
              · rw [if_neg c14] at H
                have c14b0 : decide (x31_2 < (t335.length : Int)) = false := decide_eq_false c14
                clear c14
                by_cases c27 : (x7_2.length : Int) > 16
                · rw [if_pos c27] at H
                  have c27b0 : decide (16 < (x7_2.length : Int)) = true := decide_eq_true c27
                  have c27b1 : decide (16 < x7_2.length) = true := decide_eq_true (by omega)
                  clear c27
                  simp only [Option.some.injEq, Prod.mk.injEq] at H
                  obtain ⟨rfl, rfl, rfl⟩ := H
                  obtain ⟨Ao28, co28, eo28⟩ := Kd.R_slice HO_7.out
                  subst eo28
                  go_wp2
                  go_ret3
                  exact ⟨_, by first | rfl | (simp [errW_none, errW_some] <;> rfl) | (simp [*, errW_none, errW_some] <;> rfl), by first | exact Kd.R_nil _ _ _ _ _ | exact Kd.N_nil _ _ _ _ _ | exact Kd.V_nil _ _ _ _ _ | exact Kd.Q_nil _ _ _ _ _ | exact Kd.S_nil _ _ _ _ _, by repeat (first | (with_reducible first | exact HB.out | apply below_alloc | apply pw_below_drewN | apply below_drew1) | exact HB.out)⟩
                · rw [if_neg c27] at H
                  have c27b0 : decide (16 < (x7_2.length : Int)) = false := decide_eq_false c27
                  have c27b1 : decide (16 < x7_2.length) = false := decide_eq_false (by omega)
                  clear c27
                  simp only [Option.some.injEq, Prod.mk.injEq] at H
                  obtain ⟨rfl, rfl, rfl⟩ := H
                  obtain ⟨Ao29, co29, eo29⟩ := Kd.R_slice HO_7.out
                  subst eo29
                  go_wp2
                  go_ret3
                  exact ⟨_, by first | rfl | (simp [errW_none, errW_some] <;> rfl) | (simp [*, errW_none, errW_some] <;> rfl), by (with_reducible repeat (first | apply Kd.R_alloc | apply Kd.R_drewN | apply Kd.R_drew)); exact HO_7.out, by repeat (first | (with_reducible first | exact HB.out | apply below_alloc | apply pw_below_drewN | apply below_drew1) | exact HB.out)⟩
def spencelaw46_same.l0 : Nat → List (S51) → List (S51) → Int → Int → Option (Bool)
  | 0, _, _, _, _ => none
  | k + 1, x0, x1, x12, x13 => if x13 < x12 then (if 0 ≤ x13 then (if x13 < (x0.length : Int) then (if x13 < (x1.length : Int) then (if (!(((rd_T51 x0 x13).f0) == ((rd_T51 x1 x13).f0)) || (!((((rd_T51 x0 x13).f1).toList) == (((rd_T51 x1 x13).f1).toList)))) = true then (some false) else (spencelaw46_same.l0 k x0 x1 x12 (wrap64 (x13 + 1)))) else (none)) else (none)) else (none)) else (some true)
def spencelaw46_same.f (k : Nat) (l0 : List (S51)) (l1 : List (S51)) : Option (Bool) := if (l0.length : Int) = (l1.length : Int) then (spencelaw46_same.l0 k l0 l1 (l0.length : Int) 0) else (some false)
theorem spencelaw46_same.mono_l : ∀ k, (∀ y0 y1 y2 y3, LeO (spencelaw46_same.l0 k y0 y1 y2 y3) (spencelaw46_same.l0 (k + 1) y0 y1 y2 y3))
  | 0 => fun _ _ _ _ r h => by simp [spencelaw46_same.l0] at h
  | k + 1 => by
    have ih0 := spencelaw46_same.mono_l k
    · intro y0 y1 y2 y3
      unfold spencelaw46_same.l0
      repeat' first
      | (with_reducible exact ih0 _ _ _ _)
      | (with_reducible exact LeO.refl _)
      | (with_reducible exact LeO.none _)
      | (with_reducible refine LeO.ite ?_ ?_)
      | (with_reducible refine LeO.bind ?_ (fun _ => ?_))
      | exact ih0 _ _ _ _
      | exact LeO.none _
      | refine LeO.ite ?_ ?_
      | refine LeO.bind ?_ (fun _ => ?_)
theorem spencelaw46_same.mono : ∀ a0 a1 k, LeO (spencelaw46_same.f k a0 a1) (spencelaw46_same.f (k + 1) a0 a1) := by
  intro a0 a1 k
  have ih0 := spencelaw46_same.mono_l k
  unfold spencelaw46_same.f
  repeat' first
      | (with_reducible exact ih0 _ _ _ _)
      | (with_reducible exact LeO.refl _)
      | (with_reducible exact LeO.none _)
      | (with_reducible refine LeO.ite ?_ ?_)
      | (with_reducible refine LeO.bind ?_ (fun _ => ?_))
      | exact ih0 _ _ _ _
      | exact LeO.none _
      | refine LeO.ite ?_ ?_
      | refine LeO.bind ?_ (fun _ => ?_)
def spencelaw46_CondParses.f (k : Nat) (a0 : ByteArray) : Option (Bool) := (spencelaw46_awake.f k).bind fun t349 => (if t349 = true then (if (a0.size : Int) > 600 then (some true) else ((cond_Parse.f k a0).bind fun bt350 => ((spenceref04_Cond.f k a0).bind fun bt356 => (if (bt350.1 == bt356.1) = true then ((spencelaw46_same.f k bt350.2.1 bt356.2.1).bind fun t361 => (if t361 = true then (some (bt350.2.2 == bt356.2.2)) else (some false))) else (some false))))) else (some false))
theorem spencelaw46_CondParses.mono : ∀ a0 k, LeO (spencelaw46_CondParses.f k a0) (spencelaw46_CondParses.f (k + 1) a0) := by
  intro a0 k
  unfold spencelaw46_CondParses.f
  repeat' first
      | (with_reducible exact cond_Parse.mono _ _)
      | (with_reducible exact spencelaw46_awake.mono _)
      | (with_reducible exact spencelaw46_same.mono _ _ _)
      | (with_reducible exact spenceref04_Cond.mono _ _)
      | (with_reducible exact LeO.refl _)
      | (with_reducible exact LeO.none _)
      | (with_reducible refine LeO.ite ?_ ?_)
      | (with_reducible refine LeO.bind ?_ (fun _ => ?_))
      | exact cond_Parse.mono _ _
      | exact spencelaw46_awake.mono _
      | exact spencelaw46_same.mono _ _ _
      | exact spenceref04_Cond.mono _ _
      | exact LeO.none _
      | refine LeO.ite ?_ ?_
      | refine LeO.bind ?_ (fun _ => ?_)
end Go.Proofs.Ytahoibanpplhbaa.PAll
namespace Go.Proofs.Ytahoibanpplhbaa.PAll
open Go.RowKit Go.Proofs.Ytahoibanpplhbaa.Xw Go.Proofs.YtahoibanpplhbaaW.PrintWords Go.Proofs.YtahoibanpplhbaaW.PrintLast Go.Proofs.YtahoibanpplhbaaW.PrintMore
attribute [local go_sem] max2_int min2_int max_two min_two max_three min_three max_four min_four   -- for this text's walks alone
set_option linter.unusedVariables false
set_option linter.unusedSimpArgs false
def spenceref04_Hits.l0 : Nat → ByteArray → Bool → Bool → List (S51) → Int → Int → Option (Bool)
  | 0, _, _, _, _, _, _ => none
  | k + 1, x1, x2, x7, x20, x21, x22 => if x22 < x21 then (if 0 ≤ x22 then (if x22 < (x20.length : Int) then (if x7 = true then (spenceref04_Hits.l0 k x1 x2 true x20 x21 (wrap64 (x22 + 1))) else (if ((rd_T51 x20 x22).f1).toList = x1.toList then (if x2 = true then (spenceref04_Hits.l0 k x1 x2 (!((rd_T51 x20 x22).f0)) x20 x21 (wrap64 (x22 + 1))) else (spenceref04_Hits.l0 k x1 x2 true x20 x21 (wrap64 (x22 + 1)))) else (spenceref04_Hits.l0 k x1 x2 false x20 x21 (wrap64 (x22 + 1))))) else (none)) else (none)) else (some x7)
def spenceref04_Hits.f (k : Nat) (a0 : ByteArray) (a1 : ByteArray) (a2 : Bool) : Option (Bool) := (spenceref04_Cond.f k a0).bind fun bt362 => (if bt362.2.2 = 0 then (spenceref04_Hits.l0 k a1 a2 bt362.1 bt362.2.1 (bt362.2.1.length : Int) 0) else (some false))
theorem spenceref04_Hits.mono_l : ∀ k, (∀ y0 y1 y2 y3 y4 y5, LeO (spenceref04_Hits.l0 k y0 y1 y2 y3 y4 y5) (spenceref04_Hits.l0 (k + 1) y0 y1 y2 y3 y4 y5))
  | 0 => fun _ _ _ _ _ _ r h => by simp [spenceref04_Hits.l0] at h
  | k + 1 => by
    have ih0 := spenceref04_Hits.mono_l k
    · intro y0 y1 y2 y3 y4 y5
      unfold spenceref04_Hits.l0
      repeat' first
      | (with_reducible exact ih0 _ _ _ _ _ _)
      | (with_reducible exact spenceref04_Cond.mono _ _)
      | (with_reducible exact LeO.refl _)
      | (with_reducible exact LeO.none _)
      | (with_reducible refine LeO.ite ?_ ?_)
      | (with_reducible refine LeO.bind ?_ (fun _ => ?_))
      | exact ih0 _ _ _ _ _ _
      | exact spenceref04_Cond.mono _ _
      | exact LeO.none _
      | refine LeO.ite ?_ ?_
      | refine LeO.bind ?_ (fun _ => ?_)
theorem spenceref04_Hits.mono : ∀ a0 a1 a2 k, LeO (spenceref04_Hits.f k a0 a1 a2) (spenceref04_Hits.f (k + 1) a0 a1 a2) := by
  intro a0 a1 a2 k
  have ih0 := spenceref04_Hits.mono_l k
  unfold spenceref04_Hits.f
  repeat' first
      | (with_reducible exact ih0 _ _ _ _ _ _)
      | (with_reducible exact spenceref04_Cond.mono _ _)
      | (with_reducible exact LeO.refl _)
      | (with_reducible exact LeO.none _)
      | (with_reducible refine LeO.ite ?_ ?_)
      | (with_reducible refine LeO.bind ?_ (fun _ => ?_))
      | exact ih0 _ _ _ _ _ _
      | exact spenceref04_Cond.mono _ _
      | exact LeO.none _
      | refine LeO.ite ?_ ?_
      | refine LeO.bind ?_ (fun _ => ?_)
set_option maxHeartbeats 8000000 in
set_option maxRecDepth 100000 in
theorem spenceref04_Hits.calls (k : Nat) (a0 : ByteArray) (a1 : ByteArray) (a2 : Bool) (r : Bool) (w : World) (h : spenceref04_Hits.f k a0 a1 a2 = some r) :
    Calls Try.prog 21 #[.string a0, .string a1, .bool a2] w fun e w' => e = .returned (.bool r) ∧ Below w.heap.size w w' := by
  have hu51 := Try.underlying51
  have HB := Aside0.mk (Below.refl w.heap.size w)
  have H : ((spenceref04_Cond.f k a0).bind fun bt362 => (if bt362.2.2 = 0 then (spenceref04_Hits.l0 k a1 a2 bt362.1 bt362.2.1 (bt362.2.1.length : Int) 0) else (some false))) = some r := h
  clear h
  replace H := Option.bind_eq_some_iff.mp H
  obtain ⟨⟨t362, t363, t364⟩, A40, H⟩ := H
  replace H : (if t364 = 0 then (spenceref04_Hits.l0 k a1 a2 t362 t363 (t363.length : Int) 0) else (some false)) = some r := H
  have A4 := Aside0.mk A40
  clear A40
  by_cases c5 : t364 = 0
  · rw [if_pos c5] at H
    have c5b0 : (t364 == 0) = true := beq_iff_eq.mpr c5
    have c5b1 : (t364 != 0) = false := bne_eq_false_iff_eq.mpr c5
    clear c5
    have H' := Aside0.mk H
    clear H
    go_enter Try.func21, Try.ntmps21
    go_wp2_with (first | ((with_reducible refine gate_callee (f := 19) rfl ?_); refine goesL_ (some 14) rfl rfl Try.func19 (by kernel_rfl) rfl #[.string a0] rfl (by (try simp only [List.map_toArray, List.map_cons, List.map_nil]); first | done | rfl | (simp only [List.length_drop, List.length_take]; rfl)) ?_; (with_reducible refine (spenceref04_Cond.calls k a0 t362 t363 t364 _ A4.out).mono ?_); rintro e w6 ⟨v365, rfl, ho0, hb⟩; refine ⟨_, rfl, ?_⟩; have n0_ := Aside0.mk (Kd.R_lower ho0 (below_size (by repeat (first | (with_reducible first | exact HB.out | apply below_alloc | apply pw_below_drewN | apply below_drew1) | exact HB.out)))); have n1_ := Aside0.mk (below_step (by repeat (first | (with_reducible first | exact HB.out | apply below_alloc | apply pw_below_drewN | apply below_drew1) | exact HB.out)) hb); clear HB; have HO366 := n0_; have HB := n1_; clear n0_ n1_; (try clear hb); (try clear hb2); (try clear hk); (try clear hi); (try clear ho0); obtain ⟨Ao7, co7, eo7⟩ := Kd.R_slice HO366.out; subst eo7))
    go_loopg [7, 22] k (fun kq v7 v22 w' => ∃ (x7_1 : Bool) (x22_1 : Int), v7 = .bool x7_1 ∧ v22 = .int .i64 x22_1 ∧ Aside0 (spenceref04_Hits.l0 kq a1 a2 x7_1 t363 (t363.length : Int) x22_1 = some r) ∧ Aside0 (kq ≤ k) ∧ Aside0 (Kd.R k51 51 w' w.heap.size (fun _ => True) (.slice Ao7 t363.length co7) t363) ∧ Aside0 (Below w.heap.size w w'))
    case atStart => exact ⟨(t362), (0), (by first | rfl | (simp; done) | (simp [*]; done)), (by first | rfl | (simp; done) | (simp [*]; done)), H', ⟨Nat.le_refl _⟩, ⟨by (with_reducible repeat (first | apply Kd.R_alloc | apply Kd.R_drewN | apply Kd.R_drew)); exact HO366.out⟩, ⟨by repeat (first | (with_reducible first | exact HB.out | apply below_alloc | apply pw_below_drewN | apply below_drew1) | exact HB.out)⟩⟩
    case round =>
      clear H'
      try clear c1
      try clear c2
      try clear p2
      try clear c5
      try clear c5b0
      try clear c5b1
      obtain ⟨x7_1, x22_1, rfl, rfl, HA, HK1, HO_20, HB⟩ := hrel
      cases gk with
      | zero => exact absurd HA.out (by simp [spenceref04_Hits.l0])
      | succ k1 =>
        have H := HA.out
        clear HA
        simp only [spenceref04_Hits.l0] at H
        by_cases c8 : x22_1 < (t363.length : Int)
        · rw [if_pos c8] at H
          have c8b0 : decide (x22_1 < (t363.length : Int)) = true := decide_eq_true c8
          clear c8
          by_cases c9 : 0 ≤ x22_1
          · rw [if_pos c9] at H
            have c9b0 : decide (0 ≤ x22_1) = true := decide_eq_true c9
            clear c9
            by_cases c10 : x22_1 < (t363.length : Int)
            · rw [if_pos c10] at H
              have c10b0 : decide (x22_1 < (t363.length : Int)) = true := decide_eq_true c10
              clear c10
              by_cases c11 : x7_1 = true
              · subst c11
                have H1 : (spenceref04_Hits.l0 k1 a1 a2 true t363 (t363.length : Int) (wrap64 (x22_1 + 1))) = some r := by rw [if_pos rfl] at H; exact H
                clear H
                have H := H1
                clear H1
                have H' := Aside0.mk H
                clear H
                have p367 : 0 ≤ (x22_1 : Int) := of_decide_eq_true (by first | (with_reducible assumption) | assumption)
                have q367 : x22_1 < (t363.length : Int) := of_decide_eq_true (by first | (with_reducible assumption) | assumption)
                obtain ⟨ad367, e367, hx367_0, hx367_1⟩ := at_T51 (Kd.R_reads' HO_20.out).2.2 x22_1 p367 q367
                cases e367
                replace p367 := eq_true p367
                replace q367 := eq_true q367
                go_wp2_with (first | ((with_reducible refine gate_dst (N := 11) rfl ?_); refine box_event ?hg (N := 11) ?hd (cs := #[.bool false, .string (⟨#[]⟩ : ByteArray)]) (t := 51) ?hr ?_; (case hd => rfl); (case hg => rfl); (case hr => first | (go_simp; done) | (go_simp; rfl)); intro gb368 hg w12 hbox hb; have n0_ := Aside0.mk (Kd.R_below (Kd.R_elderB (by (with_reducible repeat (first | apply Kd.R_alloc | apply Kd.R_drewN | apply Kd.R_drew)); exact HO_20.out) gb368 (Nat.le_of_eq hg.symm)) hb); have n1_ := Aside0.mk (below_step (by repeat (first | (with_reducible first | exact HB.out | apply below_alloc | apply pw_below_drewN | apply below_drew1) | exact HB.out)) hb); have n2_ := Aside0.mk (hbox); have n3_ := Aside0.mk ((by rw [hg]; exact (below_size (by repeat (first | (with_reducible first | exact HB.out | apply below_alloc | apply pw_below_drewN | apply below_drew1) | exact HB.out))) : w.heap.size ≤ gb368)); have n4_ := Aside0.mk ((by rw [hg]; exact (below_size (by repeat (first | (with_reducible first | exact HB.out | apply below_alloc | apply pw_below_drewN | apply below_drew1) | exact HB.out))) : w.heap.size ≤ gb368)); clear HO_20; clear HB; have HO_20 := n0_; have HB := n1_; have BK368 := n2_; have GW368 := n3_; have GE368 := n4_; clear n0_ n1_ n2_ n3_ n4_; clear hb hbox hg; have hcz13_0 : w12.cell? ⟨gb368, 0, none⟩ = some (.bool false) := (blk_cell BK368.out 0).trans rfl; have hcz13_1 : w12.cell? ⟨gb368, 1, none⟩ = some (.string (⟨#[]⟩ : ByteArray)) := (blk_cell BK368.out 1).trans rfl; have hfz13_0 := blk_frozen BK368.out 0; have hfz13_1 := blk_frozen BK368.out 1))
                go_roundg k1
                case measure => have := HK1.out; omega
                case rel => exact ⟨(true), (wrap64 (x22_1 + 1)), (by first | rfl | (simp; done) | (simp [*]; done)), (by first | rfl | (simp; done) | (simp [*]; done)), H', ⟨by have := HK1.out; omega⟩, ⟨by (with_reducible repeat (first | apply Kd.R_alloc | apply Kd.R_drewN | apply Kd.R_drew)); exact Kd.R_mono (Kd.R_far (p := ⟨gb368, 1, none⟩) (Kd.R_far (p := ⟨gb368, 0, none⟩) (Kd.R_mono HO_20.out (fun k_ hk => (⟨hk, hk.2⟩ : _ ∧ k_ ≠ gb368))) (fun _ hk => hk.2) (.bool ((rd_T51 t363 x22_1).f0))) (fun _ hk => hk.2) (.string ((rd_T51 t363 x22_1).f1))) (fun _ hk => trivial)⟩, ⟨by repeat (first | (with_reducible first | exact HB.out | apply below_alloc | apply pw_below_drewN | apply below_drew1 | refine below_set ?_ GE368.out) | exact HB.out)⟩⟩
              · replace c11 := Bool.eq_false_iff.mpr c11
                subst c11
                have H1 : (if ((rd_T51 t363 x22_1).f1).toList = a1.toList then (if a2 = true then (spenceref04_Hits.l0 k1 a1 a2 (!((rd_T51 t363 x22_1).f0)) t363 (t363.length : Int) (wrap64 (x22_1 + 1))) else (spenceref04_Hits.l0 k1 a1 a2 true t363 (t363.length : Int) (wrap64 (x22_1 + 1)))) else (spenceref04_Hits.l0 k1 a1 a2 false t363 (t363.length : Int) (wrap64 (x22_1 + 1)))) = some r := by rw [if_neg (show ¬ (false = true) by decide)] at H; exact H
                clear H
                have H := H1
                clear H1
                by_cases c14 : ((rd_T51 t363 x22_1).f1).toList = a1.toList
                · rw [if_pos c14] at H
                  have c14b0 : (((rd_T51 t363 x22_1).f1).toList == a1.toList) = true := beq_iff_eq.mpr c14
                  have c14b1 : (((rd_T51 t363 x22_1).f1).toList != a1.toList) = false := bne_eq_false_iff_eq.mpr c14
                  clear c14
                  by_cases c15 : a2 = true
                  · subst c15
                    have H1 : (spenceref04_Hits.l0 k1 a1 true (!((rd_T51 t363 x22_1).f0)) t363 (t363.length : Int) (wrap64 (x22_1 + 1))) = some r := by rw [if_pos rfl] at H; exact H
                    clear H
                    have H := H1
                    clear H1
                    have H' := Aside0.mk H
                    clear H
                    have p367 : 0 ≤ (x22_1 : Int) := of_decide_eq_true (by first | (with_reducible assumption) | assumption)
                    have q367 : x22_1 < (t363.length : Int) := of_decide_eq_true (by first | (with_reducible assumption) | assumption)
                    obtain ⟨ad367, e367, hx367_0, hx367_1⟩ := at_T51 (Kd.R_reads' HO_20.out).2.2 x22_1 p367 q367
                    cases e367
                    replace p367 := eq_true p367
                    replace q367 := eq_true q367
                    go_wp2_with (first | ((with_reducible refine gate_dst (N := 11) rfl ?_); refine box_event ?hg (N := 11) ?hd (cs := #[.bool false, .string (⟨#[]⟩ : ByteArray)]) (t := 51) ?hr ?_; (case hd => rfl); (case hg => rfl); (case hr => first | (go_simp; done) | (go_simp; rfl)); intro gb368 hg w16 hbox hb; have n0_ := Aside0.mk (Kd.R_below (Kd.R_elderB (by (with_reducible repeat (first | apply Kd.R_alloc | apply Kd.R_drewN | apply Kd.R_drew)); exact HO_20.out) gb368 (Nat.le_of_eq hg.symm)) hb); have n1_ := Aside0.mk (below_step (by repeat (first | (with_reducible first | exact HB.out | apply below_alloc | apply pw_below_drewN | apply below_drew1) | exact HB.out)) hb); have n2_ := Aside0.mk (hbox); have n3_ := Aside0.mk ((by rw [hg]; exact (below_size (by repeat (first | (with_reducible first | exact HB.out | apply below_alloc | apply pw_below_drewN | apply below_drew1) | exact HB.out))) : w.heap.size ≤ gb368)); have n4_ := Aside0.mk ((by rw [hg]; exact (below_size (by repeat (first | (with_reducible first | exact HB.out | apply below_alloc | apply pw_below_drewN | apply below_drew1) | exact HB.out))) : w.heap.size ≤ gb368)); clear HO_20; clear HB; have HO_20 := n0_; have HB := n1_; have BK368 := n2_; have GW368 := n3_; have GE368 := n4_; clear n0_ n1_ n2_ n3_ n4_; clear hb hbox hg; have hcz17_0 : w16.cell? ⟨gb368, 0, none⟩ = some (.bool false) := (blk_cell BK368.out 0).trans rfl; have hcz17_1 : w16.cell? ⟨gb368, 1, none⟩ = some (.string (⟨#[]⟩ : ByteArray)) := (blk_cell BK368.out 1).trans rfl; have hfz17_0 := blk_frozen BK368.out 0; have hfz17_1 := blk_frozen BK368.out 1))
                    go_roundg k1
                    case measure => have := HK1.out; omega
                    case rel => exact ⟨(!((rd_T51 t363 x22_1).f0)), (wrap64 (x22_1 + 1)), (by first | rfl | (simp; done) | (simp [*]; done)), (by first | rfl | (simp; done) | (simp [*]; done)), H', ⟨by have := HK1.out; omega⟩, ⟨by (with_reducible repeat (first | apply Kd.R_alloc | apply Kd.R_drewN | apply Kd.R_drew)); exact Kd.R_mono (Kd.R_far (p := ⟨gb368, 1, none⟩) (Kd.R_far (p := ⟨gb368, 0, none⟩) (Kd.R_mono HO_20.out (fun k_ hk => (⟨hk, hk.2⟩ : _ ∧ k_ ≠ gb368))) (fun _ hk => hk.2) (.bool ((rd_T51 t363 x22_1).f0))) (fun _ hk => hk.2) (.string ((rd_T51 t363 x22_1).f1))) (fun _ hk => trivial)⟩, ⟨by repeat (first | (with_reducible first | exact HB.out | apply below_alloc | apply pw_below_drewN | apply below_drew1 | refine below_set ?_ GE368.out) | exact HB.out)⟩⟩
                  · replace c15 := Bool.eq_false_iff.mpr c15
                    subst c15
                    have H1 : (spenceref04_Hits.l0 k1 a1 false true t363 (t363.length : Int) (wrap64 (x22_1 + 1))) = some r := by rw [if_neg (show ¬ (false = true) by decide)] at H; exact H
                    clear H
                    have H := H1
                    clear H1
                    have H' := Aside0.mk H
                    clear H
                    have p367 : 0 ≤ (x22_1 : Int) := of_decide_eq_true (by first | (with_reducible assumption) | assumption)
                    have q367 : x22_1 < (t363.length : Int) := of_decide_eq_true (by first | (with_reducible assumption) | assumption)
                    obtain ⟨ad367, e367, hx367_0, hx367_1⟩ := at_T51 (Kd.R_reads' HO_20.out).2.2 x22_1 p367 q367
                    cases e367
                    replace p367 := eq_true p367
                    replace q367 := eq_true q367
                    go_wp2_with (first | ((with_reducible refine gate_dst (N := 11) rfl ?_); refine box_event ?hg (N := 11) ?hd (cs := #[.bool false, .string (⟨#[]⟩ : ByteArray)]) (t := 51) ?hr ?_; (case hd => rfl); (case hg => rfl); (case hr => first | (go_simp; done) | (go_simp; rfl)); intro gb368 hg w18 hbox hb; have n0_ := Aside0.mk (Kd.R_below (Kd.R_elderB (by (with_reducible repeat (first | apply Kd.R_alloc | apply Kd.R_drewN | apply Kd.R_drew)); exact HO_20.out) gb368 (Nat.le_of_eq hg.symm)) hb); have n1_ := Aside0.mk (below_step (by repeat (first | (with_reducible first | exact HB.out | apply below_alloc | apply pw_below_drewN | apply below_drew1) | exact HB.out)) hb); have n2_ := Aside0.mk (hbox); have n3_ := Aside0.mk ((by rw [hg]; exact (below_size (by repeat (first | (with_reducible first | exact HB.out | apply below_alloc | apply pw_below_drewN | apply below_drew1) | exact HB.out))) : w.heap.size ≤ gb368)); have n4_ := Aside0.mk ((by rw [hg]; exact (below_size (by repeat (first | (with_reducible first | exact HB.out | apply below_alloc | apply pw_below_drewN | apply below_drew1) | exact HB.out))) : w.heap.size ≤ gb368)); clear HO_20; clear HB; have HO_20 := n0_; have HB := n1_; have BK368 := n2_; have GW368 := n3_; have GE368 := n4_; clear n0_ n1_ n2_ n3_ n4_; clear hb hbox hg; have hcz19_0 : w18.cell? ⟨gb368, 0, none⟩ = some (.bool false) := (blk_cell BK368.out 0).trans rfl; have hcz19_1 : w18.cell? ⟨gb368, 1, none⟩ = some (.string (⟨#[]⟩ : ByteArray)) := (blk_cell BK368.out 1).trans rfl; have hfz19_0 := blk_frozen BK368.out 0; have hfz19_1 := blk_frozen BK368.out 1))
                    go_roundg k1
                    case measure => have := HK1.out; omega
                    case rel => exact ⟨(true), (wrap64 (x22_1 + 1)), (by first | rfl | (simp; done) | (simp [*]; done)), (by first | rfl | (simp; done) | (simp [*]; done)), H', ⟨by have := HK1.out; omega⟩, ⟨by (with_reducible repeat (first | apply Kd.R_alloc | apply Kd.R_drewN | apply Kd.R_drew)); exact Kd.R_mono (Kd.R_far (p := ⟨gb368, 1, none⟩) (Kd.R_far (p := ⟨gb368, 0, none⟩) (Kd.R_mono HO_20.out (fun k_ hk => (⟨hk, hk.2⟩ : _ ∧ k_ ≠ gb368))) (fun _ hk => hk.2) (.bool ((rd_T51 t363 x22_1).f0))) (fun _ hk => hk.2) (.string ((rd_T51 t363 x22_1).f1))) (fun _ hk => trivial)⟩, ⟨by repeat (first | (with_reducible first | exact HB.out | apply below_alloc | apply pw_below_drewN | apply below_drew1 | refine below_set ?_ GE368.out) | exact HB.out)⟩⟩
                · rw [if_neg c14] at H
                  have c14b0 : (((rd_T51 t363 x22_1).f1).toList == a1.toList) = false := beq_eq_false_iff_ne.mpr c14
                  have c14b1 : (((rd_T51 t363 x22_1).f1).toList != a1.toList) = true := bne_iff_ne.mpr c14
                  have H' := Aside0.mk H
                  clear H
                  have p367 : 0 ≤ (x22_1 : Int) := of_decide_eq_true (by first | (with_reducible assumption) | assumption)
                  have q367 : x22_1 < (t363.length : Int) := of_decide_eq_true (by first | (with_reducible assumption) | assumption)
                  obtain ⟨ad367, e367, hx367_0, hx367_1⟩ := at_T51 (Kd.R_reads' HO_20.out).2.2 x22_1 p367 q367
                  cases e367
                  replace p367 := eq_true p367
                  replace q367 := eq_true q367
                  go_wp2_with (first | ((with_reducible refine gate_dst (N := 11) rfl ?_); refine box_event ?hg (N := 11) ?hd (cs := #[.bool false, .string (⟨#[]⟩ : ByteArray)]) (t := 51) ?hr ?_; (case hd => rfl); (case hg => rfl); (case hr => first | (go_simp; done) | (go_simp; rfl)); intro gb368 hg w20 hbox hb; have n0_ := Aside0.mk (Kd.R_below (Kd.R_elderB (by (with_reducible repeat (first | apply Kd.R_alloc | apply Kd.R_drewN | apply Kd.R_drew)); exact HO_20.out) gb368 (Nat.le_of_eq hg.symm)) hb); have n1_ := Aside0.mk (below_step (by repeat (first | (with_reducible first | exact HB.out | apply below_alloc | apply pw_below_drewN | apply below_drew1) | exact HB.out)) hb); have n2_ := Aside0.mk (hbox); have n3_ := Aside0.mk ((by rw [hg]; exact (below_size (by repeat (first | (with_reducible first | exact HB.out | apply below_alloc | apply pw_below_drewN | apply below_drew1) | exact HB.out))) : w.heap.size ≤ gb368)); have n4_ := Aside0.mk ((by rw [hg]; exact (below_size (by repeat (first | (with_reducible first | exact HB.out | apply below_alloc | apply pw_below_drewN | apply below_drew1) | exact HB.out))) : w.heap.size ≤ gb368)); clear HO_20; clear HB; have HO_20 := n0_; have HB := n1_; have BK368 := n2_; have GW368 := n3_; have GE368 := n4_; clear n0_ n1_ n2_ n3_ n4_; clear hb hbox hg; have hcz21_0 : w20.cell? ⟨gb368, 0, none⟩ = some (.bool false) := (blk_cell BK368.out 0).trans rfl; have hcz21_1 : w20.cell? ⟨gb368, 1, none⟩ = some (.string (⟨#[]⟩ : ByteArray)) := (blk_cell BK368.out 1).trans rfl; have hfz21_0 := blk_frozen BK368.out 0; have hfz21_1 := blk_frozen BK368.out 1))
                  go_roundg k1
                  case measure => have := HK1.out; omega
                  case rel => exact ⟨(false), (wrap64 (x22_1 + 1)), (by first | rfl | (simp; done) | (simp [*]; done)), (by first | rfl | (simp; done) | (simp [*]; done)), H', ⟨by have := HK1.out; omega⟩, ⟨by (with_reducible repeat (first | apply Kd.R_alloc | apply Kd.R_drewN | apply Kd.R_drew)); exact Kd.R_mono (Kd.R_far (p := ⟨gb368, 1, none⟩) (Kd.R_far (p := ⟨gb368, 0, none⟩) (Kd.R_mono HO_20.out (fun k_ hk => (⟨hk, hk.2⟩ : _ ∧ k_ ≠ gb368))) (fun _ hk => hk.2) (.bool ((rd_T51 t363 x22_1).f0))) (fun _ hk => hk.2) (.string ((rd_T51 t363 x22_1).f1))) (fun _ hk => trivial)⟩, ⟨by repeat (first | (with_reducible first | exact HB.out | apply below_alloc | apply pw_below_drewN | apply below_drew1 | refine below_set ?_ GE368.out) | exact HB.out)⟩⟩
            · rw [if_neg c10] at H
              exact absurd H (by simp)
          · rw [if_neg c9] at H
            exact absurd H (by simp)
        · rw [if_neg c8] at H
          have c8b0 : decide (x22_1 < (t363.length : Int)) = false := decide_eq_false c8
          clear c8
          obtain rfl := Option.some.inj H
          go_wp2
          go_ret
          exact ⟨by first | rfl | exact ne_empty _ | exact eq_empty _ | (simp [errW_none, errW_some] <;> rfl) | (simp [*, errW_none, errW_some] <;> rfl), by repeat (first | (with_reducible first | exact HB.out | apply below_alloc | apply pw_below_drewN | apply below_drew1) | exact HB.out)⟩
  · rw [if_neg c5] at H
    have c5b0 : (t364 == 0) = false := beq_eq_false_iff_ne.mpr c5
    have c5b1 : (t364 != 0) = true := bne_iff_ne.mpr c5
    obtain rfl := Option.some.inj H
    go_enter Try.func21, Try.ntmps21
    go_wp2_with (first | ((with_reducible refine gate_callee (f := 19) rfl ?_); refine goesL_ (some 14) rfl rfl Try.func19 (by kernel_rfl) rfl #[.string a0] rfl (by (try simp only [List.map_toArray, List.map_cons, List.map_nil]); first | done | rfl | (simp only [List.length_drop, List.length_take]; rfl)) ?_; (with_reducible refine (spenceref04_Cond.calls k a0 t362 t363 t364 _ A4.out).mono ?_); rintro e w22 ⟨v365, rfl, ho0, hb⟩; refine ⟨_, rfl, ?_⟩; have n0_ := Aside0.mk (Kd.R_lower ho0 (below_size (by repeat (first | (with_reducible first | exact HB.out | apply below_alloc | apply pw_below_drewN | apply below_drew1) | exact HB.out)))); have n1_ := Aside0.mk (below_step (by repeat (first | (with_reducible first | exact HB.out | apply below_alloc | apply pw_below_drewN | apply below_drew1) | exact HB.out)) hb); clear HB; have HO366 := n0_; have HB := n1_; clear n0_ n1_; (try clear hb); (try clear hb2); (try clear hk); (try clear hi); (try clear ho0)))
    go_ret
    exact ⟨by first | rfl | exact ne_empty _ | exact eq_empty _ | (simp [errW_none, errW_some] <;> rfl) | (simp [*, errW_none, errW_some] <;> rfl), by repeat (first | (with_reducible first | exact HB.out | apply below_alloc | apply pw_below_drewN | apply below_drew1) | exact HB.out)⟩
def cond_Status.f (k : Nat) (a0 : ByteArray) (a1 : ByteArray) (a2 : ByteArray) : Option (Int) := (cond_Match.f k a0 a2).bind fun t369 => (if t369 = true then ((cond_None.f k a1 a2).bind fun t370 => (if t370 = true then (some 304) else (some 200))) else (some 412))
theorem cond_Status.mono : ∀ a0 a1 a2 k, LeO (cond_Status.f k a0 a1 a2) (cond_Status.f (k + 1) a0 a1 a2) := by
  intro a0 a1 a2 k
  unfold cond_Status.f
  repeat' first
      | (with_reducible exact cond_Match.mono _ _ _)
      | (with_reducible exact cond_None.mono _ _ _)
      | (with_reducible exact LeO.refl _)
      | (with_reducible exact LeO.none _)
      | (with_reducible refine LeO.ite ?_ ?_)
      | (with_reducible refine LeO.bind ?_ (fun _ => ?_))
      | exact cond_Match.mono _ _ _
      | exact cond_None.mono _ _ _
      | exact LeO.none _
      | refine LeO.ite ?_ ?_
      | refine LeO.bind ?_ (fun _ => ?_)
set_option maxHeartbeats 8000000 in
set_option maxRecDepth 100000 in
theorem cond_Status.calls (k : Nat) (a0 : ByteArray) (a1 : ByteArray) (a2 : ByteArray) (r : Int) (w : World) (h : cond_Status.f k a0 a1 a2 = some r) :
    Calls Try.prog 24 #[.string a0, .string a1, .string a2] w fun e w' => e = .returned (.int .i64 r) ∧ Below w.heap.size w w' := by
  have HB := Aside0.mk (Below.refl w.heap.size w)
  have H : ((cond_Match.f k a0 a2).bind fun t369 => (if t369 = true then ((cond_None.f k a1 a2).bind fun t370 => (if t370 = true then (some 304) else (some 200))) else (some 412))) = some r := h
  clear h
  replace H := Option.bind_eq_some_iff.mp H
  obtain ⟨t369, A40, H⟩ := H
  replace H : (if t369 = true then ((cond_None.f k a1 a2).bind fun t370 => (if t370 = true then (some 304) else (some 200))) else (some 412)) = some r := H
  have A4 := Aside0.mk A40
  clear A40
  by_cases c5 : t369 = true
  · subst c5
    have H1 : ((cond_None.f k a1 a2).bind fun t370 => (if t370 = true then (some 304) else (some 200))) = some r := by rw [if_pos rfl] at H; exact H
    clear H
    have H := H1
    clear H1
    replace H := Option.bind_eq_some_iff.mp H
    obtain ⟨t370, A60, H⟩ := H
    replace H : (if t370 = true then (some 304) else (some 200)) = some r := H
    have A6 := Aside0.mk A60
    clear A60
    by_cases c7 : t370 = true
    · subst c7
      have H1 : (some 304) = some r := by rw [if_pos rfl] at H; exact H
      clear H
      have H := H1
      clear H1
      obtain rfl := Option.some.inj H
      go_enter Try.func24, Try.ntmps24
      go_wp2_with (first | ((with_reducible refine gate_callee (f := 22) rfl ?_); refine goesL_ (some 10) rfl rfl Try.func22 (by kernel_rfl) rfl #[.string a0, .string a2] rfl (by (try simp only [List.map_toArray, List.map_cons, List.map_nil]); first | done | rfl | (simp only [List.length_drop, List.length_take]; rfl)) ?_; (with_reducible refine (cond_Match.calls k a0 a2 true _ A4.out).mono ?_); rintro e w8 ⟨rfl, hb⟩; refine ⟨_, rfl, ?_⟩; have n0_ := Aside0.mk (below_step (by repeat (first | (with_reducible first | exact HB.out | apply below_alloc | apply pw_below_drewN | apply below_drew1) | exact HB.out)) hb); clear HB; have HB := n0_; clear n0_; (try clear hb); (try clear hb2); (try clear hk); (try clear hi)) | ((with_reducible refine gate_callee (f := 23) rfl ?_); refine goesL_ (some 15) rfl rfl Try.func23 (by kernel_rfl) rfl #[.string a1, .string a2] rfl (by (try simp only [List.map_toArray, List.map_cons, List.map_nil]); first | done | rfl | (simp only [List.length_drop, List.length_take]; rfl)) ?_; (with_reducible refine (cond_None.calls k a1 a2 true _ A6.out).mono ?_); rintro e w9 ⟨rfl, hb⟩; refine ⟨_, rfl, ?_⟩; have n0_ := Aside0.mk (below_step (by repeat (first | (with_reducible first | exact HB.out | apply below_alloc | apply pw_below_drewN | apply below_drew1) | exact HB.out)) hb); clear HB; have HB := n0_; clear n0_; (try clear hb); (try clear hb2); (try clear hk); (try clear hi)))
      go_ret
      exact ⟨by first | rfl | exact ne_empty _ | exact eq_empty _ | (simp [errW_none, errW_some] <;> rfl) | (simp [*, errW_none, errW_some] <;> rfl), by repeat (first | (with_reducible first | exact HB.out | apply below_alloc | apply pw_below_drewN | apply below_drew1) | exact HB.out)⟩
    · replace c7 := Bool.eq_false_iff.mpr c7
      subst c7
      have H1 : (some 200) = some r := by rw [if_neg (show ¬ (false = true) by decide)] at H; exact H
      clear H
      have H := H1
      clear H1
      obtain rfl := Option.some.inj H
      go_enter Try.func24, Try.ntmps24
      go_wp2_with (first | ((with_reducible refine gate_callee (f := 22) rfl ?_); refine goesL_ (some 10) rfl rfl Try.func22 (by kernel_rfl) rfl #[.string a0, .string a2] rfl (by (try simp only [List.map_toArray, List.map_cons, List.map_nil]); first | done | rfl | (simp only [List.length_drop, List.length_take]; rfl)) ?_; (with_reducible refine (cond_Match.calls k a0 a2 true _ A4.out).mono ?_); rintro e w10 ⟨rfl, hb⟩; refine ⟨_, rfl, ?_⟩; have n0_ := Aside0.mk (below_step (by repeat (first | (with_reducible first | exact HB.out | apply below_alloc | apply pw_below_drewN | apply below_drew1) | exact HB.out)) hb); clear HB; have HB := n0_; clear n0_; (try clear hb); (try clear hb2); (try clear hk); (try clear hi)) | ((with_reducible refine gate_callee (f := 23) rfl ?_); refine goesL_ (some 15) rfl rfl Try.func23 (by kernel_rfl) rfl #[.string a1, .string a2] rfl (by (try simp only [List.map_toArray, List.map_cons, List.map_nil]); first | done | rfl | (simp only [List.length_drop, List.length_take]; rfl)) ?_; (with_reducible refine (cond_None.calls k a1 a2 false _ A6.out).mono ?_); rintro e w11 ⟨rfl, hb⟩; refine ⟨_, rfl, ?_⟩; have n0_ := Aside0.mk (below_step (by repeat (first | (with_reducible first | exact HB.out | apply below_alloc | apply pw_below_drewN | apply below_drew1) | exact HB.out)) hb); clear HB; have HB := n0_; clear n0_; (try clear hb); (try clear hb2); (try clear hk); (try clear hi)))
      go_ret
      exact ⟨by first | rfl | exact ne_empty _ | exact eq_empty _ | (simp [errW_none, errW_some] <;> rfl) | (simp [*, errW_none, errW_some] <;> rfl), by repeat (first | (with_reducible first | exact HB.out | apply below_alloc | apply pw_below_drewN | apply below_drew1) | exact HB.out)⟩
  · replace c5 := Bool.eq_false_iff.mpr c5
    subst c5
    have H1 : (some 412) = some r := by rw [if_neg (show ¬ (false = true) by decide)] at H; exact H
    clear H
    have H := H1
    clear H1
    obtain rfl := Option.some.inj H
    go_enter Try.func24, Try.ntmps24
    go_wp2_with (first | ((with_reducible refine gate_callee (f := 22) rfl ?_); refine goesL_ (some 10) rfl rfl Try.func22 (by kernel_rfl) rfl #[.string a0, .string a2] rfl (by (try simp only [List.map_toArray, List.map_cons, List.map_nil]); first | done | rfl | (simp only [List.length_drop, List.length_take]; rfl)) ?_; (with_reducible refine (cond_Match.calls k a0 a2 false _ A4.out).mono ?_); rintro e w12 ⟨rfl, hb⟩; refine ⟨_, rfl, ?_⟩; have n0_ := Aside0.mk (below_step (by repeat (first | (with_reducible first | exact HB.out | apply below_alloc | apply pw_below_drewN | apply below_drew1) | exact HB.out)) hb); clear HB; have HB := n0_; clear n0_; (try clear hb); (try clear hb2); (try clear hk); (try clear hi)))
    go_ret
    exact ⟨by first | rfl | exact ne_empty _ | exact eq_empty _ | (simp [errW_none, errW_some] <;> rfl) | (simp [*, errW_none, errW_some] <;> rfl), by repeat (first | (with_reducible first | exact HB.out | apply below_alloc | apply pw_below_drewN | apply below_drew1) | exact HB.out)⟩
end Go.Proofs.Ytahoibanpplhbaa.PAll
namespace Go.Proofs.Ytahoibanpplhbaa.PAll
open Go.RowKit Go.Proofs.Ytahoibanpplhbaa.Xw Go.Proofs.YtahoibanpplhbaaW.PrintWords Go.Proofs.YtahoibanpplhbaaW.PrintLast Go.Proofs.YtahoibanpplhbaaW.PrintMore
attribute [local go_sem] max2_int min2_int max_two min_two max_three min_three max_four min_four   -- for this text's walks alone
set_option linter.unusedVariables false
set_option linter.unusedSimpArgs false
mutual
def spencelaw46_CondTells.j0 : Nat → ByteArray → ByteArray → ByteArray → Bool → Option (Bool)
  | 0, _, _, _, _ => none
  | k + 1, x0, x1, x2, x26 => if x26 = true then (some true) else (spencelaw46_CondTells.l0 k x0 x1 x2 true 0)
def spencelaw46_CondTells.l0 : Nat → ByteArray → ByteArray → ByteArray → Bool → Int → Option (Bool)
  | 0, _, _, _, _, _ => none
  | k + 1, x0, x1, x2, x7, x8 => if x8 < (x0.size : Int) then (if x7 = true then (if 0 ≤ x8 then (if (bt x0 x8) = 32 then (spencelaw46_CondTells.l0 k x0 x1 x2 true (wrap64 (x8 + 1))) else (spencelaw46_CondTells.l0 k x0 x1 x2 ((bt x0 x8) == 9) (wrap64 (x8 + 1)))) else (none)) else (spencelaw46_CondTells.l0 k x0 x1 x2 false (wrap64 (x8 + 1)))) else (if x7 = true then (spencelaw46_CondTells.j2 k x0 x1 x2 true) else ((spenceref04_Hits.f k x0 x2 true).bind fun t372 => (spencelaw46_CondTells.j2 k x0 x1 x2 t372)))
def spencelaw46_CondTells.j2 : Nat → ByteArray → ByteArray → ByteArray → Bool → Option (Bool)
  | 0, _, _, _, _ => none
  | k + 1, x0, x1, x2, x9 => (spenceref04_Hits.f k x1 x2 false).bind fun t373 => (if x9 = true then (if t373 = true then ((cond_Match.f k x0 x2).bind fun t374 => (if (t374 == x9) = true then ((cond_None.f k x1 x2).bind fun t375 => (if (t375 == t373) = true then ((cond_Status.f k x0 x1 x2).bind fun t376 => (some (t376 == 304))) else (some false))) else (some false))) else ((cond_Match.f k x0 x2).bind fun t377 => (if (t377 == x9) = true then ((cond_None.f k x1 x2).bind fun t378 => (if (t378 == t373) = true then ((cond_Status.f k x0 x1 x2).bind fun t379 => (some (t379 == 200))) else (some false))) else (some false)))) else ((cond_Match.f k x0 x2).bind fun t380 => (if (t380 == x9) = true then ((cond_None.f k x1 x2).bind fun t381 => (if (t381 == t373) = true then ((cond_Status.f k x0 x1 x2).bind fun t382 => (some (t382 == 412))) else (some false))) else (some false))))
end
def spencelaw46_CondTells.f (k : Nat) (a0 : ByteArray) (a1 : ByteArray) (a2 : ByteArray) : Option (Bool) := (spencelaw46_awake.f k).bind fun t371 => (if t371 = true then (if (a0.size : Int) > 400 then (spencelaw46_CondTells.j0 k a0 a1 a2 true) else (if (a1.size : Int) > 400 then (spencelaw46_CondTells.j0 k a0 a1 a2 true) else (spencelaw46_CondTells.j0 k a0 a1 a2 (decide ((a2.size : Int) > 100))))) else (some false))
theorem spencelaw46_CondTells.mono_l : ∀ k, (∀ y0 y1 y2 y3, LeO (spencelaw46_CondTells.j0 k y0 y1 y2 y3) (spencelaw46_CondTells.j0 (k + 1) y0 y1 y2 y3)) ∧ (∀ y0 y1 y2 y3 y4, LeO (spencelaw46_CondTells.l0 k y0 y1 y2 y3 y4) (spencelaw46_CondTells.l0 (k + 1) y0 y1 y2 y3 y4)) ∧ (∀ y0 y1 y2 y3, LeO (spencelaw46_CondTells.j2 k y0 y1 y2 y3) (spencelaw46_CondTells.j2 (k + 1) y0 y1 y2 y3))
  | 0 => ⟨fun _ _ _ _ r h => by simp [spencelaw46_CondTells.j0] at h, fun _ _ _ _ _ r h => by simp [spencelaw46_CondTells.l0] at h, fun _ _ _ _ r h => by simp [spencelaw46_CondTells.j2] at h⟩
  | k + 1 => by
    obtain ⟨ih0, ih1, ih2⟩ := spencelaw46_CondTells.mono_l k
    refine ⟨?_, ?_, ?_⟩
    · intro y0 y1 y2 y3
      unfold spencelaw46_CondTells.j0
      repeat' first
      | (with_reducible exact ih0 _ _ _ _)
      | (with_reducible exact ih1 _ _ _ _ _)
      | (with_reducible exact ih2 _ _ _ _)
      | (with_reducible exact cond_Match.mono _ _ _)
      | (with_reducible exact cond_None.mono _ _ _)
      | (with_reducible exact cond_Status.mono _ _ _ _)
      | (with_reducible exact spencelaw46_awake.mono _)
      | (with_reducible exact spenceref04_Hits.mono _ _ _ _)
      | (with_reducible exact LeO.refl _)
      | (with_reducible exact LeO.none _)
      | (with_reducible refine LeO.ite ?_ ?_)
      | (with_reducible refine LeO.bind ?_ (fun _ => ?_))
      | exact ih0 _ _ _ _
      | exact ih1 _ _ _ _ _
      | exact ih2 _ _ _ _
      | exact cond_Match.mono _ _ _
      | exact cond_None.mono _ _ _
      | exact cond_Status.mono _ _ _ _
      | exact spencelaw46_awake.mono _
      | exact spenceref04_Hits.mono _ _ _ _
      | exact LeO.none _
      | refine LeO.ite ?_ ?_
      | refine LeO.bind ?_ (fun _ => ?_)
    · intro y0 y1 y2 y3 y4
      unfold spencelaw46_CondTells.l0
      repeat' first
      | (with_reducible exact ih0 _ _ _ _)
      | (with_reducible exact ih1 _ _ _ _ _)
      | (with_reducible exact ih2 _ _ _ _)
      | (with_reducible exact cond_Match.mono _ _ _)
      | (with_reducible exact cond_None.mono _ _ _)
      | (with_reducible exact cond_Status.mono _ _ _ _)
      | (with_reducible exact spencelaw46_awake.mono _)
      | (with_reducible exact spenceref04_Hits.mono _ _ _ _)
      | (with_reducible exact LeO.refl _)
      | (with_reducible exact LeO.none _)
      | (with_reducible refine LeO.ite ?_ ?_)
      | (with_reducible refine LeO.bind ?_ (fun _ => ?_))
      | exact ih0 _ _ _ _
      | exact ih1 _ _ _ _ _
      | exact ih2 _ _ _ _
      | exact cond_Match.mono _ _ _
      | exact cond_None.mono _ _ _
      | exact cond_Status.mono _ _ _ _
      | exact spencelaw46_awake.mono _
      | exact spenceref04_Hits.mono _ _ _ _
      | exact LeO.none _
      | refine LeO.ite ?_ ?_
      | refine LeO.bind ?_ (fun _ => ?_)
    · intro y0 y1 y2 y3
      unfold spencelaw46_CondTells.j2
      repeat' first
      | (with_reducible exact ih0 _ _ _ _)
      | (with_reducible exact ih1 _ _ _ _ _)
      | (with_reducible exact ih2 _ _ _ _)
      | (with_reducible exact cond_Match.mono _ _ _)
      | (with_reducible exact cond_None.mono _ _ _)
      | (with_reducible exact cond_Status.mono _ _ _ _)
      | (with_reducible exact spencelaw46_awake.mono _)
      | (with_reducible exact spenceref04_Hits.mono _ _ _ _)
      | (with_reducible exact LeO.refl _)
      | (with_reducible exact LeO.none _)
      | (with_reducible refine LeO.ite ?_ ?_)
      | (with_reducible refine LeO.bind ?_ (fun _ => ?_))
      | exact ih0 _ _ _ _
      | exact ih1 _ _ _ _ _
      | exact ih2 _ _ _ _
      | exact cond_Match.mono _ _ _
      | exact cond_None.mono _ _ _
      | exact cond_Status.mono _ _ _ _
      | exact spencelaw46_awake.mono _
      | exact spenceref04_Hits.mono _ _ _ _
      | exact LeO.none _
      | refine LeO.ite ?_ ?_
      | refine LeO.bind ?_ (fun _ => ?_)
theorem spencelaw46_CondTells.mono : ∀ a0 a1 a2 k, LeO (spencelaw46_CondTells.f k a0 a1 a2) (spencelaw46_CondTells.f (k + 1) a0 a1 a2) := by
  intro a0 a1 a2 k
  obtain ⟨ih0, ih1, ih2⟩ := spencelaw46_CondTells.mono_l k
  unfold spencelaw46_CondTells.f
  repeat' first
      | (with_reducible exact ih0 _ _ _ _)
      | (with_reducible exact ih1 _ _ _ _ _)
      | (with_reducible exact ih2 _ _ _ _)
      | (with_reducible exact cond_Match.mono _ _ _)
      | (with_reducible exact cond_None.mono _ _ _)
      | (with_reducible exact cond_Status.mono _ _ _ _)
      | (with_reducible exact spencelaw46_awake.mono _)
      | (with_reducible exact spenceref04_Hits.mono _ _ _ _)
      | (with_reducible exact LeO.refl _)
      | (with_reducible exact LeO.none _)
      | (with_reducible refine LeO.ite ?_ ?_)
      | (with_reducible refine LeO.bind ?_ (fun _ => ?_))
      | exact ih0 _ _ _ _
      | exact ih1 _ _ _ _ _
      | exact ih2 _ _ _ _
      | exact cond_Match.mono _ _ _
      | exact cond_None.mono _ _ _
      | exact cond_Status.mono _ _ _ _
      | exact spencelaw46_awake.mono _
      | exact spenceref04_Hits.mono _ _ _ _
      | exact LeO.none _
      | refine LeO.ite ?_ ?_
      | refine LeO.bind ?_ (fun _ => ?_)
set_option maxHeartbeats 8000000 in
set_option maxRecDepth 100000 in
theorem spencelaw46_CondTells.calls (k : Nat) (a0 : ByteArray) (a1 : ByteArray) (a2 : ByteArray) (r : Bool) (w : World) (h : spencelaw46_CondTells.f k a0 a1 a2 = some r) :
    Calls Try.prog 7 #[.string a0, .string a1, .string a2] w fun e w' => e = .returned (.bool r) ∧ Below w.heap.size w w' := by
  have HB := Aside0.mk (Below.refl w.heap.size w)
  have H : ((spencelaw46_awake.f k).bind fun t371 => (if t371 = true then (if (a0.size : Int) > 400 then (spencelaw46_CondTells.j0 k a0 a1 a2 true) else (if (a1.size : Int) > 400 then (spencelaw46_CondTells.j0 k a0 a1 a2 true) else (spencelaw46_CondTells.j0 k a0 a1 a2 (decide ((a2.size : Int) > 100))))) else (some false))) = some r := h
  clear h
  replace H := Option.bind_eq_some_iff.mp H
  obtain ⟨t371, A40, H⟩ := H
  replace H : (if t371 = true then (if (a0.size : Int) > 400 then (spencelaw46_CondTells.j0 k a0 a1 a2 true) else (if (a1.size : Int) > 400 then (spencelaw46_CondTells.j0 k a0 a1 a2 true) else (spencelaw46_CondTells.j0 k a0 a1 a2 (decide ((a2.size : Int) > 100))))) else (some false)) = some r := H
  have A4 := Aside0.mk A40
  clear A40
  by_cases c5 : t371 = true
  · subst c5
    have H1 : (if (a0.size : Int) > 400 then (spencelaw46_CondTells.j0 k a0 a1 a2 true) else (if (a1.size : Int) > 400 then (spencelaw46_CondTells.j0 k a0 a1 a2 true) else (spencelaw46_CondTells.j0 k a0 a1 a2 (decide ((a2.size : Int) > 100))))) = some r := by rw [if_pos rfl] at H; exact H
    clear H
    have H := H1
    clear H1
    have HC6 := Aside0.mk H
    clear H
    go_enter Try.func7, Try.ntmps7
    go_upto_region 3 with (first | ((with_reducible refine gate_callee (f := 17) rfl ?_); refine goesL_ (some 12) rfl rfl Try.func17 (by kernel_rfl) rfl #[] rfl (by (try simp only [List.map_toArray, List.map_cons, List.map_nil]); first | done | rfl | (simp only [List.length_drop, List.length_take]; rfl)) ?_; (with_reducible refine (spencelaw46_awake.calls k  true _ A4.out).mono ?_); rintro e w7 ⟨rfl, hb⟩; refine ⟨_, rfl, ?_⟩; have n0_ := Aside0.mk (below_step (by repeat (first | (with_reducible first | exact HB.out | apply below_alloc | apply pw_below_drewN | apply below_drew1) | exact HB.out)) hb); clear HB; have HB := n0_; clear n0_; (try clear hb); (try clear hb2); (try clear hk); (try clear hi)))
    (try simp only [Act.put, List.setIfInBounds_toArray, List.set_cons_zero, List.set_cons_succ])
    go_cut [26] (fun v26 wc => ∃ (kq : Nat) (x26_5 : Bool), v26 = .bool x26_5 ∧ Aside0 (spencelaw46_CondTells.j0 kq a0 a1 a2 x26_5 = some r) ∧ Aside0 (kq ≤ k) ∧ Aside0 (Below w.heap.size w wc))
    case first =>
      have H := HC6.out
      clear HC6
      by_cases c8 : (a0.size : Int) > 400
      · rw [if_pos c8] at H
        have c8b0 : decide (400 < (a0.size : Int)) = true := decide_eq_true c8
        have c8b1 : decide (400 < a0.size) = true := decide_eq_true (by omega)
        clear c8
        (first | rw [c8b0] | (simp only [i64_w, i32_w]; rw [c8b0]) | skip)
        have H' := Aside0.mk H
        clear H
        go_wp2
        go_meet
        case rel => exact ⟨_, (true), (by first | rfl | (simp; done) | (simp [*]; done)), H', ⟨by first | omega | exact Nat.le_refl _⟩, ⟨by repeat (first | (with_reducible first | exact HB.out | apply below_alloc | apply pw_below_drewN | apply below_drew1) | exact HB.out)⟩⟩
      · rw [if_neg c8] at H
        have c8b0 : decide (400 < (a0.size : Int)) = false := decide_eq_false c8
        have c8b1 : decide (400 < a0.size) = false := decide_eq_false (by omega)
        clear c8
        (first | rw [c8b0] | (simp only [i64_w, i32_w]; rw [c8b0]) | skip)
        by_cases c9 : (a1.size : Int) > 400
        · rw [if_pos c9] at H
          have c9b0 : decide (400 < (a1.size : Int)) = true := decide_eq_true c9
          have c9b1 : decide (400 < a1.size) = true := decide_eq_true (by omega)
          clear c9
          have H' := Aside0.mk H
          clear H
          go_wp2
          go_meet
          case rel => exact ⟨_, (true), (by first | rfl | (simp; done) | (simp [*]; done)), H', ⟨by first | omega | exact Nat.le_refl _⟩, ⟨by repeat (first | (with_reducible first | exact HB.out | apply below_alloc | apply pw_below_drewN | apply below_drew1) | exact HB.out)⟩⟩
        · rw [if_neg c9] at H
          have c9b0 : decide (400 < (a1.size : Int)) = false := decide_eq_false c9
          have c9b1 : decide (400 < a1.size) = false := decide_eq_false (by omega)
          clear c9
          have H' := Aside0.mk H
          clear H
          go_wp2
          go_meet
          case rel => exact ⟨_, (decide ((a2.size : Int) > 100)), (by first | rfl | (simp; done) | (simp [*]; done)), H', ⟨by first | omega | exact Nat.le_refl _⟩, ⟨by repeat (first | (with_reducible first | exact HB.out | apply below_alloc | apply pw_below_drewN | apply below_drew1) | exact HB.out)⟩⟩
    case rest =>
      clear HC6
      try clear c1
      try clear p2
      try clear c5
      try clear c7
      try clear c8
      try clear c8b0
      try clear c8b1
      try clear c9
      try clear c9b0
      try clear c9b1
      obtain ⟨kq, x26_5, rfl, HA, HJ5, HB⟩ := hcut
      cases kq with
      | zero => exact absurd HA.out (by simp [spencelaw46_CondTells.j0])
      | succ kj5 =>
        have H := HA.out
        clear HA
        simp only [spencelaw46_CondTells.j0] at H
        by_cases c10 : x26_5 = true
        · subst c10
          have H1 : (some true) = some r := by rw [if_pos rfl] at H; exact H
          clear H
          have H := H1
          clear H1
          obtain rfl := Option.some.inj H
          go_wp2
          go_ret
          exact ⟨by first | rfl | exact ne_empty _ | exact eq_empty _ | (simp [errW_none, errW_some] <;> rfl) | (simp [*, errW_none, errW_some] <;> rfl), by repeat (first | (with_reducible first | exact HB.out | apply below_alloc | apply pw_below_drewN | apply below_drew1) | exact HB.out)⟩
        · replace c10 := Bool.eq_false_iff.mpr c10
          subst c10
          have H1 : (spencelaw46_CondTells.l0 kj5 a0 a1 a2 true 0) = some r := by rw [if_neg (show ¬ (false = true) by decide)] at H; exact H
          clear H
          have H := H1
          clear H1
          have H' := Aside0.mk H
          clear H
          go_wp2
          go_loopg [7, 8] kj5 (fun kq v7 v8 w' => ∃ (x7_2 : Bool) (x8_2 : Int), v7 = .bool x7_2 ∧ v8 = .int .i64 x8_2 ∧ Aside0 (spencelaw46_CondTells.l0 kq a0 a1 a2 x7_2 x8_2 = some r) ∧ Aside0 (kq ≤ kj5) ∧ Aside0 (Below w.heap.size w w'))
          case atStart => exact ⟨(true), (0), (by first | rfl | (simp; done) | (simp [*]; done)), (by first | rfl | (simp; done) | (simp [*]; done)), H', ⟨Nat.le_refl _⟩, ⟨by repeat (first | (with_reducible first | exact HB.out | apply below_alloc | apply pw_below_drewN | apply below_drew1) | exact HB.out)⟩⟩
          case round =>
            clear H'
            try clear c1
            try clear p2
            try clear c5
            try clear c7
            try clear c8
            try clear c8b0
            try clear c8b1
            try clear c9
            try clear c9b0
            try clear c9b1
            try clear c10
            try clear p2
            obtain ⟨x7_2, x8_2, rfl, rfl, HA, HK2, HB⟩ := hrel
            cases gk with
            | zero => exact absurd HA.out (by simp [spencelaw46_CondTells.l0])
            | succ k2 =>
              have H := HA.out
              clear HA
              simp only [spencelaw46_CondTells.l0] at H
              by_cases c11 : x8_2 < (a0.size : Int)
              · rw [if_pos c11] at H
                have c11b0 : decide (x8_2 < (a0.size : Int)) = true := decide_eq_true c11
                clear c11
                by_cases c12 : x7_2 = true
                · subst c12
                  have H1 : (if 0 ≤ x8_2 then (if (bt a0 x8_2) = 32 then (spencelaw46_CondTells.l0 k2 a0 a1 a2 true (wrap64 (x8_2 + 1))) else (spencelaw46_CondTells.l0 k2 a0 a1 a2 ((bt a0 x8_2) == 9) (wrap64 (x8_2 + 1)))) else (none)) = some r := by rw [if_pos rfl] at H; exact H
                  clear H
                  have H := H1
                  clear H1
                  by_cases c13 : 0 ≤ x8_2
                  · rw [if_pos c13] at H
                    have c13b0 : decide (0 ≤ x8_2) = true := decide_eq_true c13
                    clear c13
                    by_cases c15 : (bt a0 x8_2) = 32
                    · rw [if_pos c15] at H
                      have c15b0 : ((bt a0 x8_2) == 32) = true := beq_iff_eq.mpr c15
                      have c15b1 : ((bt a0 x8_2) != 32) = false := bne_eq_false_iff_eq.mpr c15
                      clear c15
                      have H' := Aside0.mk H
                      clear H
                      have p14 : 0 ≤ (x8_2 : Int) := of_decide_eq_true (by first | (with_reducible assumption) | assumption)
                      have q14 : x8_2 < (a0.size : Int) := of_decide_eq_true (by first | (with_reducible assumption) | assumption)
                      have hx14 := bt_at a0 x8_2
                      replace p14 := eq_true p14
                      replace q14 := eq_true q14
                      go_wp2
                      go_roundg k2
                      case measure => have := HJ5.out; have := HK2.out; omega
                      case rel => exact ⟨(true), (wrap64 (x8_2 + 1)), (by first | rfl | (simp; done) | (simp [*]; done)), (by first | rfl | (simp; done) | (simp [*]; done)), H', ⟨by have := HJ5.out; have := HK2.out; omega⟩, ⟨by repeat (first | (with_reducible first | exact HB.out | apply below_alloc | apply pw_below_drewN | apply below_drew1) | exact HB.out)⟩⟩
                    · rw [if_neg c15] at H
                      have c15b0 : ((bt a0 x8_2) == 32) = false := beq_eq_false_iff_ne.mpr c15
                      have c15b1 : ((bt a0 x8_2) != 32) = true := bne_iff_ne.mpr c15
                      have H' := Aside0.mk H
                      clear H
                      have p14 : 0 ≤ (x8_2 : Int) := of_decide_eq_true (by first | (with_reducible assumption) | assumption)
                      have q14 : x8_2 < (a0.size : Int) := of_decide_eq_true (by first | (with_reducible assumption) | assumption)
                      have hx14 := bt_at a0 x8_2
                      replace p14 := eq_true p14
                      replace q14 := eq_true q14
                      have p16 : 0 ≤ (x8_2 : Int) := of_decide_eq_true (by first | (with_reducible assumption) | assumption)
                      have q16 : x8_2 < (a0.size : Int) := of_decide_eq_true (by first | (with_reducible assumption) | assumption)
                      have hx16 := bt_at a0 x8_2
                      replace p16 := eq_true p16
                      replace q16 := eq_true q16
                      go_wp2
                      go_roundg k2
                      case measure => have := HJ5.out; have := HK2.out; omega
                      case rel => exact ⟨(((bt a0 x8_2) == 9)), (wrap64 (x8_2 + 1)), (by first | rfl | (simp; done) | (simp [*]; done)), (by first | rfl | (simp; done) | (simp [*]; done)), H', ⟨by have := HJ5.out; have := HK2.out; omega⟩, ⟨by repeat (first | (with_reducible first | exact HB.out | apply below_alloc | apply pw_below_drewN | apply below_drew1) | exact HB.out)⟩⟩
                  · rw [if_neg c13] at H
                    exact absurd H (by simp)
                · replace c12 := Bool.eq_false_iff.mpr c12
                  subst c12
                  have H1 : (spencelaw46_CondTells.l0 k2 a0 a1 a2 false (wrap64 (x8_2 + 1))) = some r := by rw [if_neg (show ¬ (false = true) by decide)] at H; exact H
                  clear H
                  have H := H1
                  clear H1
                  have H' := Aside0.mk H
                  clear H
                  go_wp2
                  go_roundg k2
                  case measure => have := HJ5.out; have := HK2.out; omega
                  case rel => exact ⟨(false), (wrap64 (x8_2 + 1)), (by first | rfl | (simp; done) | (simp [*]; done)), (by first | rfl | (simp; done) | (simp [*]; done)), H', ⟨by have := HJ5.out; have := HK2.out; omega⟩, ⟨by repeat (first | (with_reducible first | exact HB.out | apply below_alloc | apply pw_below_drewN | apply below_drew1) | exact HB.out)⟩⟩
              · rw [if_neg c11] at H
                have c11b0 : decide (x8_2 < (a0.size : Int)) = false := decide_eq_false c11
                clear c11
                have HC17 := Aside0.mk H
                clear H
                go_upto_region 10 with (fail)
                go_cut [9] (fun v9 wc => ∃ (kq : Nat) (x9_16 : Bool), v9 = .bool x9_16 ∧ Aside0 (spencelaw46_CondTells.j2 kq a0 a1 a2 x9_16 = some r) ∧ Aside0 (kq ≤ k2) ∧ Aside0 (Below w.heap.size w wc))
                case first =>
                  have H := HC17.out
                  clear HC17
                  by_cases c18 : x7_2 = true
                  · subst c18
                    have H1 : (spencelaw46_CondTells.j2 k2 a0 a1 a2 true) = some r := by rw [if_pos rfl] at H; exact H
                    clear H
                    have H := H1
                    clear H1
                    have H' := Aside0.mk H
                    clear H
                    go_wp2
                    go_meet
                    case rel => exact ⟨_, (true), (by first | rfl | (simp; done) | (simp [*]; done)), H', ⟨by have := HJ5.out; have := HK2.out; first | omega | exact Nat.le_refl _⟩, ⟨by repeat (first | (with_reducible first | exact HB.out | apply below_alloc | apply pw_below_drewN | apply below_drew1) | exact HB.out)⟩⟩
                  · replace c18 := Bool.eq_false_iff.mpr c18
                    subst c18
                    have H1 : ((spenceref04_Hits.f k2 a0 a2 true).bind fun t372 => (spencelaw46_CondTells.j2 k2 a0 a1 a2 t372)) = some r := by rw [if_neg (show ¬ (false = true) by decide)] at H; exact H
                    clear H
                    have H := H1
                    clear H1
                    replace H := Option.bind_eq_some_iff.mp H
                    obtain ⟨t372, A190, H⟩ := H
                    replace H : (spencelaw46_CondTells.j2 k2 a0 a1 a2 t372) = some r := H
                    have A19 := Aside0.mk A190
                    clear A190
                    have H' := Aside0.mk H
                    clear H
                    go_wp2_with (first | (go_at_call 21; (with_reducible refine (spenceref04_Hits.calls k2 a0 a2 true t372 _ A19.out).mono ?_); rintro e w20 ⟨rfl, hb⟩; have n0_ := Aside0.mk (below_step (by repeat (first | (with_reducible first | exact HB.out | apply below_alloc | apply pw_below_drewN | apply below_drew1) | exact HB.out)) hb); clear HB; have HB := n0_; clear n0_; (try clear hb); (try clear hb2); (try clear hk); (try clear hi)))
                    go_meet
                    case rel => exact ⟨_, (t372), (by first | rfl | (simp; done) | (simp [*]; done)), H', ⟨by have := HJ5.out; have := HK2.out; first | omega | exact Nat.le_refl _⟩, ⟨by repeat (first | (with_reducible first | exact HB.out | apply below_alloc | apply pw_below_drewN | apply below_drew1) | exact HB.out)⟩⟩
                case rest =>
                  clear HC17
                  try clear c1
                  try clear p1
                  try clear q1
                  try clear hx1
                  try clear p2
                  try clear c5
                  try clear p6
                  try clear c7
                  try clear c8
                  try clear c8b0
                  try clear c8b1
                  try clear c9
                  try clear c9b0
                  try clear c9b1
                  try clear c10
                  try clear c11
                  try clear c11b0
                  try clear c12
                  try clear c13
                  try clear c13b0
                  try clear p14
                  try clear q14
                  try clear hx14
                  try clear c15
                  try clear c15b0
                  try clear c15b1
                  try clear p16
                  try clear q16
                  try clear hx16
                  try clear c17
                  try clear c18
                  try clear p14
                  try clear p16
                  try clear p2
                  try clear q14
                  try clear q16
                  obtain ⟨kq, x9_16, rfl, HA, HJ16, HB⟩ := hcut
                  cases kq with
                  | zero => exact absurd HA.out (by simp [spencelaw46_CondTells.j2])
                  | succ kj16 =>
                    have H := HA.out
                    clear HA
                    simp only [spencelaw46_CondTells.j2] at H
                    replace H := Option.bind_eq_some_iff.mp H
                    obtain ⟨t373, A210, H⟩ := H
                    replace H : (if x9_16 = true then (if t373 = true then ((cond_Match.f kj16 a0 a2).bind fun t374 => (if (t374 == x9_16) = true then ((cond_None.f kj16 a1 a2).bind fun t375 => (if (t375 == t373) = true then ((cond_Status.f kj16 a0 a1 a2).bind fun t376 => (some (t376 == 304))) else (some false))) else (some false))) else ((cond_Match.f kj16 a0 a2).bind fun t377 => (if (t377 == x9_16) = true then ((cond_None.f kj16 a1 a2).bind fun t378 => (if (t378 == t373) = true then ((cond_Status.f kj16 a0 a1 a2).bind fun t379 => (some (t379 == 200))) else (some false))) else (some false)))) else ((cond_Match.f kj16 a0 a2).bind fun t380 => (if (t380 == x9_16) = true then ((cond_None.f kj16 a1 a2).bind fun t381 => (if (t381 == t373) = true then ((cond_Status.f kj16 a0 a1 a2).bind fun t382 => (some (t382 == 412))) else (some false))) else (some false)))) = some r := H
                    have A21 := Aside0.mk A210
                    clear A210
                    by_cases c22 : x9_16 = true
                    · subst c22
                      have H1 : (if t373 = true then ((cond_Match.f kj16 a0 a2).bind fun t374 => (if (t374 == true) = true then ((cond_None.f kj16 a1 a2).bind fun t375 => (if (t375 == t373) = true then ((cond_Status.f kj16 a0 a1 a2).bind fun t376 => (some (t376 == 304))) else (some false))) else (some false))) else ((cond_Match.f kj16 a0 a2).bind fun t377 => (if (t377 == true) = true then ((cond_None.f kj16 a1 a2).bind fun t378 => (if (t378 == t373) = true then ((cond_Status.f kj16 a0 a1 a2).bind fun t379 => (some (t379 == 200))) else (some false))) else (some false)))) = some r := by rw [if_pos rfl] at H; exact H
                      clear H
                      have H := H1
                      clear H1
                      by_cases c23 : t373 = true
                      · subst c23
                        have H1 : ((cond_Match.f kj16 a0 a2).bind fun t374 => (if (t374 == true) = true then ((cond_None.f kj16 a1 a2).bind fun t375 => (if (t375 == true) = true then ((cond_Status.f kj16 a0 a1 a2).bind fun t376 => (some (t376 == 304))) else (some false))) else (some false))) = some r := by rw [if_pos rfl] at H; exact H
                        clear H
                        have H := H1
                        clear H1
                        replace H := Option.bind_eq_some_iff.mp H
                        obtain ⟨t374, A240, H⟩ := H
                        replace H : (if (t374 == true) = true then ((cond_None.f kj16 a1 a2).bind fun t375 => (if (t375 == true) = true then ((cond_Status.f kj16 a0 a1 a2).bind fun t376 => (some (t376 == 304))) else (some false))) else (some false)) = some r := H
                        have A24 := Aside0.mk A240
                        clear A240
                        by_cases c25 : (t374 == true) = true
                        · rw [if_pos c25] at H
                          have c25b0 : (t374 == true) = true := c25
                          (try (have c25b1 : decide (t374 = true) = true := by simpa using c25))
                          (try (have c25b2 : (t374 == true) = true := by simpa using c25))
                          clear c25
                          replace H := Option.bind_eq_some_iff.mp H
                          obtain ⟨t375, A260, H⟩ := H
                          replace H : (if (t375 == true) = true then ((cond_Status.f kj16 a0 a1 a2).bind fun t376 => (some (t376 == 304))) else (some false)) = some r := H
                          have A26 := Aside0.mk A260
                          clear A260
                          by_cases c27 : (t375 == true) = true
                          · rw [if_pos c27] at H
                            have c27b0 : (t375 == true) = true := c27
                            (try (have c27b1 : decide (t375 = true) = true := by simpa using c27))
                            (try (have c27b2 : (t375 == true) = true := by simpa using c27))
                            clear c27
                            replace H := Option.bind_eq_some_iff.mp H
                            obtain ⟨t376, A280, H⟩ := H
                            replace H : (some (t376 == 304)) = some r := H
                            have A28 := Aside0.mk A280
                            clear A280
                            obtain rfl := Option.some.inj H
                            go_wp2_with (first | ((with_reducible refine gate_callee (f := 21) rfl ?_); refine goesL_ (some 54) rfl rfl Try.func21 (by kernel_rfl) rfl #[.string a1, .string a2, .bool false] rfl (by (try simp only [List.map_toArray, List.map_cons, List.map_nil]); first | done | rfl | (simp only [List.length_drop, List.length_take]; rfl)) ?_; (with_reducible refine (spenceref04_Hits.calls kj16 a1 a2 false true _ A21.out).mono ?_); rintro e w29 ⟨rfl, hb⟩; refine ⟨_, rfl, ?_⟩; have n0_ := Aside0.mk (below_step (by repeat (first | (with_reducible first | exact HB.out | apply below_alloc | apply pw_below_drewN | apply below_drew1) | exact HB.out)) hb); clear HB; have HB := n0_; clear n0_; (try clear hb); (try clear hb2); (try clear hk); (try clear hi)) | ((with_reducible refine gate_callee (f := 22) rfl ?_); refine goesL_ (some 62) rfl rfl Try.func22 (by kernel_rfl) rfl #[.string a0, .string a2] rfl (by (try simp only [List.map_toArray, List.map_cons, List.map_nil]); first | done | rfl | (simp only [List.length_drop, List.length_take]; rfl)) ?_; (with_reducible refine (cond_Match.calls kj16 a0 a2 t374 _ A24.out).mono ?_); rintro e w30 ⟨rfl, hb⟩; refine ⟨_, rfl, ?_⟩; have n0_ := Aside0.mk (below_step (by repeat (first | (with_reducible first | exact HB.out | apply below_alloc | apply pw_below_drewN | apply below_drew1) | exact HB.out)) hb); clear HB; have HB := n0_; clear n0_; (try clear hb); (try clear hb2); (try clear hk); (try clear hi)) | (go_at_call 23; (with_reducible refine (cond_None.calls kj16 a1 a2 t375 _ A26.out).mono ?_); rintro e w31 ⟨rfl, hb⟩; have n0_ := Aside0.mk (below_step (by repeat (first | (with_reducible first | exact HB.out | apply below_alloc | apply pw_below_drewN | apply below_drew1) | exact HB.out)) hb); clear HB; have HB := n0_; clear n0_; (try clear hb); (try clear hb2); (try clear hk); (try clear hi)) | (go_at_call 24; (with_reducible refine (cond_Status.calls kj16 a0 a1 a2 t376 _ A28.out).mono ?_); rintro e w32 ⟨rfl, hb⟩; have n0_ := Aside0.mk (below_step (by repeat (first | (with_reducible first | exact HB.out | apply below_alloc | apply pw_below_drewN | apply below_drew1) | exact HB.out)) hb); clear HB; have HB := n0_; clear n0_; (try clear hb); (try clear hb2); (try clear hk); (try clear hi)))
                            go_ret
                            exact ⟨by first | rfl | exact ne_empty _ | exact eq_empty _ | (simp [errW_none, errW_some] <;> rfl) | (simp [*, errW_none, errW_some] <;> rfl), by repeat (first | (with_reducible first | exact HB.out | apply below_alloc | apply pw_below_drewN | apply below_drew1) | exact HB.out)⟩
                          · rw [if_neg c27] at H
                            have c27b0 : (t375 == true) = false := by simpa using c27
                            (try (have c27b1 : decide (t375 = true) = false := by simpa using c27))
                            (try (have c27b2 : (t375 == true) = false := by simpa using c27))
                            (try (have c27b3 : ¬ (t375 = true) := by simpa using c27))
                            clear c27
                            obtain rfl := Option.some.inj H
                            go_wp2_with (first | ((with_reducible refine gate_callee (f := 21) rfl ?_); refine goesL_ (some 54) rfl rfl Try.func21 (by kernel_rfl) rfl #[.string a1, .string a2, .bool false] rfl (by (try simp only [List.map_toArray, List.map_cons, List.map_nil]); first | done | rfl | (simp only [List.length_drop, List.length_take]; rfl)) ?_; (with_reducible refine (spenceref04_Hits.calls kj16 a1 a2 false true _ A21.out).mono ?_); rintro e w33 ⟨rfl, hb⟩; refine ⟨_, rfl, ?_⟩; have n0_ := Aside0.mk (below_step (by repeat (first | (with_reducible first | exact HB.out | apply below_alloc | apply pw_below_drewN | apply below_drew1) | exact HB.out)) hb); clear HB; have HB := n0_; clear n0_; (try clear hb); (try clear hb2); (try clear hk); (try clear hi)) | ((with_reducible refine gate_callee (f := 22) rfl ?_); refine goesL_ (some 62) rfl rfl Try.func22 (by kernel_rfl) rfl #[.string a0, .string a2] rfl (by (try simp only [List.map_toArray, List.map_cons, List.map_nil]); first | done | rfl | (simp only [List.length_drop, List.length_take]; rfl)) ?_; (with_reducible refine (cond_Match.calls kj16 a0 a2 t374 _ A24.out).mono ?_); rintro e w34 ⟨rfl, hb⟩; refine ⟨_, rfl, ?_⟩; have n0_ := Aside0.mk (below_step (by repeat (first | (with_reducible first | exact HB.out | apply below_alloc | apply pw_below_drewN | apply below_drew1) | exact HB.out)) hb); clear HB; have HB := n0_; clear n0_; (try clear hb); (try clear hb2); (try clear hk); (try clear hi)) | (go_at_call 23; (with_reducible refine (cond_None.calls kj16 a1 a2 t375 _ A26.out).mono ?_); rintro e w35 ⟨rfl, hb⟩; have n0_ := Aside0.mk (below_step (by repeat (first | (with_reducible first | exact HB.out | apply below_alloc | apply pw_below_drewN | apply below_drew1) | exact HB.out)) hb); clear HB; have HB := n0_; clear n0_; (try clear hb); (try clear hb2); (try clear hk); (try clear hi)))
                            go_ret
                            exact ⟨by first | rfl | exact ne_empty _ | exact eq_empty _ | (simp [errW_none, errW_some] <;> rfl) | (simp [*, errW_none, errW_some] <;> rfl), by repeat (first | (with_reducible first | exact HB.out | apply below_alloc | apply pw_below_drewN | apply below_drew1) | exact HB.out)⟩
                        · rw [if_neg c25] at H
                          have c25b0 : (t374 == true) = false := by simpa using c25
                          (try (have c25b1 : decide (t374 = true) = false := by simpa using c25))
                          (try (have c25b2 : (t374 == true) = false := by simpa using c25))
                          (try (have c25b3 : ¬ (t374 = true) := by simpa using c25))
                          clear c25
                          obtain rfl := Option.some.inj H
                          go_wp2_with (first | ((with_reducible refine gate_callee (f := 21) rfl ?_); refine goesL_ (some 54) rfl rfl Try.func21 (by kernel_rfl) rfl #[.string a1, .string a2, .bool false] rfl (by (try simp only [List.map_toArray, List.map_cons, List.map_nil]); first | done | rfl | (simp only [List.length_drop, List.length_take]; rfl)) ?_; (with_reducible refine (spenceref04_Hits.calls kj16 a1 a2 false true _ A21.out).mono ?_); rintro e w36 ⟨rfl, hb⟩; refine ⟨_, rfl, ?_⟩; have n0_ := Aside0.mk (below_step (by repeat (first | (with_reducible first | exact HB.out | apply below_alloc | apply pw_below_drewN | apply below_drew1) | exact HB.out)) hb); clear HB; have HB := n0_; clear n0_; (try clear hb); (try clear hb2); (try clear hk); (try clear hi)) | ((with_reducible refine gate_callee (f := 22) rfl ?_); refine goesL_ (some 62) rfl rfl Try.func22 (by kernel_rfl) rfl #[.string a0, .string a2] rfl (by (try simp only [List.map_toArray, List.map_cons, List.map_nil]); first | done | rfl | (simp only [List.length_drop, List.length_take]; rfl)) ?_; (with_reducible refine (cond_Match.calls kj16 a0 a2 t374 _ A24.out).mono ?_); rintro e w37 ⟨rfl, hb⟩; refine ⟨_, rfl, ?_⟩; have n0_ := Aside0.mk (below_step (by repeat (first | (with_reducible first | exact HB.out | apply below_alloc | apply pw_below_drewN | apply below_drew1) | exact HB.out)) hb); clear HB; have HB := n0_; clear n0_; (try clear hb); (try clear hb2); (try clear hk); (try clear hi)))
                          go_ret
                          exact ⟨by first | rfl | exact ne_empty _ | exact eq_empty _ | (simp [errW_none, errW_some] <;> rfl) | (simp [*, errW_none, errW_some] <;> rfl), by repeat (first | (with_reducible first | exact HB.out | apply below_alloc | apply pw_below_drewN | apply below_drew1) | exact HB.out)⟩
                      · replace c23 := Bool.eq_false_iff.mpr c23
                        subst c23
                        have H1 : ((cond_Match.f kj16 a0 a2).bind fun t377 => (if (t377 == true) = true then ((cond_None.f kj16 a1 a2).bind fun t378 => (if (t378 == false) = true then ((cond_Status.f kj16 a0 a1 a2).bind fun t379 => (some (t379 == 200))) else (some false))) else (some false))) = some r := by rw [if_neg (show ¬ (false = true) by decide)] at H; exact H
                        clear H
                        have H := H1
                        clear H1
                        replace H := Option.bind_eq_some_iff.mp H
                        obtain ⟨t377, A380, H⟩ := H
                        replace H : (if (t377 == true) = true then ((cond_None.f kj16 a1 a2).bind fun t378 => (if (t378 == false) = true then ((cond_Status.f kj16 a0 a1 a2).bind fun t379 => (some (t379 == 200))) else (some false))) else (some false)) = some r := H
                        have A38 := Aside0.mk A380
                        clear A380
                        by_cases c39 : (t377 == true) = true
                        · rw [if_pos c39] at H
                          have c39b0 : (t377 == true) = true := c39
                          (try (have c39b1 : decide (t377 = true) = true := by simpa using c39))
                          (try (have c39b2 : (t377 == true) = true := by simpa using c39))
                          clear c39
                          replace H := Option.bind_eq_some_iff.mp H
                          obtain ⟨t378, A400, H⟩ := H
                          replace H : (if (t378 == false) = true then ((cond_Status.f kj16 a0 a1 a2).bind fun t379 => (some (t379 == 200))) else (some false)) = some r := H
                          have A40 := Aside0.mk A400
                          clear A400
                          by_cases c41 : (t378 == false) = true
                          · rw [if_pos c41] at H
                            have c41b0 : (t378 == false) = true := c41
                            (try (have c41b1 : decide (t378 = false) = true := by simpa using c41))
                            (try (have c41b2 : (t378 == false) = true := by simpa using c41))
                            clear c41
                            replace H := Option.bind_eq_some_iff.mp H
                            obtain ⟨t379, A420, H⟩ := H
                            replace H : (some (t379 == 200)) = some r := H
                            have A42 := Aside0.mk A420
                            clear A420
                            obtain rfl := Option.some.inj H
                            go_wp2_with (first | ((with_reducible refine gate_callee (f := 21) rfl ?_); refine goesL_ (some 54) rfl rfl Try.func21 (by kernel_rfl) rfl #[.string a1, .string a2, .bool false] rfl (by (try simp only [List.map_toArray, List.map_cons, List.map_nil]); first | done | rfl | (simp only [List.length_drop, List.length_take]; rfl)) ?_; (with_reducible refine (spenceref04_Hits.calls kj16 a1 a2 false false _ A21.out).mono ?_); rintro e w43 ⟨rfl, hb⟩; refine ⟨_, rfl, ?_⟩; have n0_ := Aside0.mk (below_step (by repeat (first | (with_reducible first | exact HB.out | apply below_alloc | apply pw_below_drewN | apply below_drew1) | exact HB.out)) hb); clear HB; have HB := n0_; clear n0_; (try clear hb); (try clear hb2); (try clear hk); (try clear hi)) | ((with_reducible refine gate_callee (f := 22) rfl ?_); refine goesL_ (some 62) rfl rfl Try.func22 (by kernel_rfl) rfl #[.string a0, .string a2] rfl (by (try simp only [List.map_toArray, List.map_cons, List.map_nil]); first | done | rfl | (simp only [List.length_drop, List.length_take]; rfl)) ?_; (with_reducible refine (cond_Match.calls kj16 a0 a2 t377 _ A38.out).mono ?_); rintro e w44 ⟨rfl, hb⟩; refine ⟨_, rfl, ?_⟩; have n0_ := Aside0.mk (below_step (by repeat (first | (with_reducible first | exact HB.out | apply below_alloc | apply pw_below_drewN | apply below_drew1) | exact HB.out)) hb); clear HB; have HB := n0_; clear n0_; (try clear hb); (try clear hb2); (try clear hk); (try clear hi)) | (go_at_call 23; (with_reducible refine (cond_None.calls kj16 a1 a2 t378 _ A40.out).mono ?_); rintro e w45 ⟨rfl, hb⟩; have n0_ := Aside0.mk (below_step (by repeat (first | (with_reducible first | exact HB.out | apply below_alloc | apply pw_below_drewN | apply below_drew1) | exact HB.out)) hb); clear HB; have HB := n0_; clear n0_; (try clear hb); (try clear hb2); (try clear hk); (try clear hi)) | (go_at_call 24; (with_reducible refine (cond_Status.calls kj16 a0 a1 a2 t379 _ A42.out).mono ?_); rintro e w46 ⟨rfl, hb⟩; have n0_ := Aside0.mk (below_step (by repeat (first | (with_reducible first | exact HB.out | apply below_alloc | apply pw_below_drewN | apply below_drew1) | exact HB.out)) hb); clear HB; have HB := n0_; clear n0_; (try clear hb); (try clear hb2); (try clear hk); (try clear hi)))
                            go_ret
                            exact ⟨by first | rfl | exact ne_empty _ | exact eq_empty _ | (simp [errW_none, errW_some] <;> rfl) | (simp [*, errW_none, errW_some] <;> rfl), by repeat (first | (with_reducible first | exact HB.out | apply below_alloc | apply pw_below_drewN | apply below_drew1) | exact HB.out)⟩
                          · rw [if_neg c41] at H
                            have c41b0 : (t378 == false) = false := by simpa using c41
                            (try (have c41b1 : decide (t378 = false) = false := by simpa using c41))
                            (try (have c41b2 : (t378 == false) = false := by simpa using c41))
                            (try (have c41b3 : ¬ (t378 = false) := by simpa using c41))
                            clear c41
                            obtain rfl := Option.some.inj H
                            go_wp2_with (first | ((with_reducible refine gate_callee (f := 21) rfl ?_); refine goesL_ (some 54) rfl rfl Try.func21 (by kernel_rfl) rfl #[.string a1, .string a2, .bool false] rfl (by (try simp only [List.map_toArray, List.map_cons, List.map_nil]); first | done | rfl | (simp only [List.length_drop, List.length_take]; rfl)) ?_; (with_reducible refine (spenceref04_Hits.calls kj16 a1 a2 false false _ A21.out).mono ?_); rintro e w47 ⟨rfl, hb⟩; refine ⟨_, rfl, ?_⟩; have n0_ := Aside0.mk (below_step (by repeat (first | (with_reducible first | exact HB.out | apply below_alloc | apply pw_below_drewN | apply below_drew1) | exact HB.out)) hb); clear HB; have HB := n0_; clear n0_; (try clear hb); (try clear hb2); (try clear hk); (try clear hi)) | ((with_reducible refine gate_callee (f := 22) rfl ?_); refine goesL_ (some 62) rfl rfl Try.func22 (by kernel_rfl) rfl #[.string a0, .string a2] rfl (by (try simp only [List.map_toArray, List.map_cons, List.map_nil]); first | done | rfl | (simp only [List.length_drop, List.length_take]; rfl)) ?_; (with_reducible refine (cond_Match.calls kj16 a0 a2 t377 _ A38.out).mono ?_); rintro e w48 ⟨rfl, hb⟩; refine ⟨_, rfl, ?_⟩; have n0_ := Aside0.mk (below_step (by repeat (first | (with_reducible first | exact HB.out | apply below_alloc | apply pw_below_drewN | apply below_drew1) | exact HB.out)) hb); clear HB; have HB := n0_; clear n0_; (try clear hb); (try clear hb2); (try clear hk); (try clear hi)) | (go_at_call 23; (with_reducible refine (cond_None.calls kj16 a1 a2 t378 _ A40.out).mono ?_); rintro e w49 ⟨rfl, hb⟩; have n0_ := Aside0.mk (below_step (by repeat (first | (with_reducible first | exact HB.out | apply below_alloc | apply pw_below_drewN | apply below_drew1) | exact HB.out)) hb); clear HB; have HB := n0_; clear n0_; (try clear hb); (try clear hb2); (try clear hk); (try clear hi)))
                            go_ret
                            exact ⟨by first | rfl | exact ne_empty _ | exact eq_empty _ | (simp [errW_none, errW_some] <;> rfl) | (simp [*, errW_none, errW_some] <;> rfl), by repeat (first | (with_reducible first | exact HB.out | apply below_alloc | apply pw_below_drewN | apply below_drew1) | exact HB.out)⟩
                        · rw [if_neg c39] at H
                          have c39b0 : (t377 == true) = false := by simpa using c39
                          (try (have c39b1 : decide (t377 = true) = false := by simpa using c39))
                          (try (have c39b2 : (t377 == true) = false := by simpa using c39))
                          (try (have c39b3 : ¬ (t377 = true) := by simpa using c39))
                          clear c39
                          obtain rfl := Option.some.inj H
                          go_wp2_with (first | ((with_reducible refine gate_callee (f := 21) rfl ?_); refine goesL_ (some 54) rfl rfl Try.func21 (by kernel_rfl) rfl #[.string a1, .string a2, .bool false] rfl (by (try simp only [List.map_toArray, List.map_cons, List.map_nil]); first | done | rfl | (simp only [List.length_drop, List.length_take]; rfl)) ?_; (with_reducible refine (spenceref04_Hits.calls kj16 a1 a2 false false _ A21.out).mono ?_); rintro e w50 ⟨rfl, hb⟩; refine ⟨_, rfl, ?_⟩; have n0_ := Aside0.mk (below_step (by repeat (first | (with_reducible first | exact HB.out | apply below_alloc | apply pw_below_drewN | apply below_drew1) | exact HB.out)) hb); clear HB; have HB := n0_; clear n0_; (try clear hb); (try clear hb2); (try clear hk); (try clear hi)) | ((with_reducible refine gate_callee (f := 22) rfl ?_); refine goesL_ (some 62) rfl rfl Try.func22 (by kernel_rfl) rfl #[.string a0, .string a2] rfl (by (try simp only [List.map_toArray, List.map_cons, List.map_nil]); first | done | rfl | (simp only [List.length_drop, List.length_take]; rfl)) ?_; (with_reducible refine (cond_Match.calls kj16 a0 a2 t377 _ A38.out).mono ?_); rintro e w51 ⟨rfl, hb⟩; refine ⟨_, rfl, ?_⟩; have n0_ := Aside0.mk (below_step (by repeat (first | (with_reducible first | exact HB.out | apply below_alloc | apply pw_below_drewN | apply below_drew1) | exact HB.out)) hb); clear HB; have HB := n0_; clear n0_; (try clear hb); (try clear hb2); (try clear hk); (try clear hi)))
                          go_ret
                          exact ⟨by first | rfl | exact ne_empty _ | exact eq_empty _ | (simp [errW_none, errW_some] <;> rfl) | (simp [*, errW_none, errW_some] <;> rfl), by repeat (first | (with_reducible first | exact HB.out | apply below_alloc | apply pw_below_drewN | apply below_drew1) | exact HB.out)⟩
                    · replace c22 := Bool.eq_false_iff.mpr c22
                      subst c22
                      have H1 : ((cond_Match.f kj16 a0 a2).bind fun t380 => (if (t380 == false) = true then ((cond_None.f kj16 a1 a2).bind fun t381 => (if (t381 == t373) = true then ((cond_Status.f kj16 a0 a1 a2).bind fun t382 => (some (t382 == 412))) else (some false))) else (some false))) = some r := by rw [if_neg (show ¬ (false = true) by decide)] at H; exact H
                      clear H
                      have H := H1
                      clear H1
                      replace H := Option.bind_eq_some_iff.mp H
                      obtain ⟨t380, A520, H⟩ := H
                      replace H : (if (t380 == false) = true then ((cond_None.f kj16 a1 a2).bind fun t381 => (if (t381 == t373) = true then ((cond_Status.f kj16 a0 a1 a2).bind fun t382 => (some (t382 == 412))) else (some false))) else (some false)) = some r := H
                      have A52 := Aside0.mk A520
                      clear A520
                      by_cases c53 : (t380 == false) = true
                      · rw [if_pos c53] at H
                        have c53b0 : (t380 == false) = true := c53
                        (try (have c53b1 : decide (t380 = false) = true := by simpa using c53))
                        (try (have c53b2 : (t380 == false) = true := by simpa using c53))
                        clear c53
                        replace H := Option.bind_eq_some_iff.mp H
                        obtain ⟨t381, A540, H⟩ := H
                        replace H : (if (t381 == t373) = true then ((cond_Status.f kj16 a0 a1 a2).bind fun t382 => (some (t382 == 412))) else (some false)) = some r := H
                        have A54 := Aside0.mk A540
                        clear A540
                        by_cases c55 : (t381 == t373) = true
                        · rw [if_pos c55] at H
                          have c55b0 : (t381 == t373) = true := c55
                          (try (have c55b1 : decide (t381 = t373) = true := by simpa using c55))
                          (try (have c55b2 : (t381 == t373) = true := by simpa using c55))
                          clear c55
                          replace H := Option.bind_eq_some_iff.mp H
                          obtain ⟨t382, A560, H⟩ := H
                          replace H : (some (t382 == 412)) = some r := H
                          have A56 := Aside0.mk A560
                          clear A560
                          obtain rfl := Option.some.inj H
                          go_wp2_with (first | ((with_reducible refine gate_callee (f := 21) rfl ?_); refine goesL_ (some 54) rfl rfl Try.func21 (by kernel_rfl) rfl #[.string a1, .string a2, .bool false] rfl (by (try simp only [List.map_toArray, List.map_cons, List.map_nil]); first | done | rfl | (simp only [List.length_drop, List.length_take]; rfl)) ?_; (with_reducible refine (spenceref04_Hits.calls kj16 a1 a2 false t373 _ A21.out).mono ?_); rintro e w57 ⟨rfl, hb⟩; refine ⟨_, rfl, ?_⟩; have n0_ := Aside0.mk (below_step (by repeat (first | (with_reducible first | exact HB.out | apply below_alloc | apply pw_below_drewN | apply below_drew1) | exact HB.out)) hb); clear HB; have HB := n0_; clear n0_; (try clear hb); (try clear hb2); (try clear hk); (try clear hi)) | ((with_reducible refine gate_callee (f := 22) rfl ?_); refine goesL_ (some 62) rfl rfl Try.func22 (by kernel_rfl) rfl #[.string a0, .string a2] rfl (by (try simp only [List.map_toArray, List.map_cons, List.map_nil]); first | done | rfl | (simp only [List.length_drop, List.length_take]; rfl)) ?_; (with_reducible refine (cond_Match.calls kj16 a0 a2 t380 _ A52.out).mono ?_); rintro e w58 ⟨rfl, hb⟩; refine ⟨_, rfl, ?_⟩; have n0_ := Aside0.mk (below_step (by repeat (first | (with_reducible first | exact HB.out | apply below_alloc | apply pw_below_drewN | apply below_drew1) | exact HB.out)) hb); clear HB; have HB := n0_; clear n0_; (try clear hb); (try clear hb2); (try clear hk); (try clear hi)) | (go_at_call 23; (with_reducible refine (cond_None.calls kj16 a1 a2 t381 _ A54.out).mono ?_); rintro e w59 ⟨rfl, hb⟩; have n0_ := Aside0.mk (below_step (by repeat (first | (with_reducible first | exact HB.out | apply below_alloc | apply pw_below_drewN | apply below_drew1) | exact HB.out)) hb); clear HB; have HB := n0_; clear n0_; (try clear hb); (try clear hb2); (try clear hk); (try clear hi)) | (go_at_call 24; (with_reducible refine (cond_Status.calls kj16 a0 a1 a2 t382 _ A56.out).mono ?_); rintro e w60 ⟨rfl, hb⟩; have n0_ := Aside0.mk (below_step (by repeat (first | (with_reducible first | exact HB.out | apply below_alloc | apply pw_below_drewN | apply below_drew1) | exact HB.out)) hb); clear HB; have HB := n0_; clear n0_; (try clear hb); (try clear hb2); (try clear hk); (try clear hi)))
                          go_ret
                          exact ⟨by first | rfl | exact ne_empty _ | exact eq_empty _ | (simp [errW_none, errW_some] <;> rfl) | (simp [*, errW_none, errW_some] <;> rfl), by repeat (first | (with_reducible first | exact HB.out | apply below_alloc | apply pw_below_drewN | apply below_drew1) | exact HB.out)⟩
                        · rw [if_neg c55] at H
                          have c55b0 : (t381 == t373) = false := by simpa using c55
                          (try (have c55b1 : decide (t381 = t373) = false := by simpa using c55))
                          (try (have c55b2 : (t381 == t373) = false := by simpa using c55))
                          (try (have c55b3 : ¬ (t381 = t373) := by simpa using c55))
                          clear c55
                          obtain rfl := Option.some.inj H
                          go_wp2_with (first | ((with_reducible refine gate_callee (f := 21) rfl ?_); refine goesL_ (some 54) rfl rfl Try.func21 (by kernel_rfl) rfl #[.string a1, .string a2, .bool false] rfl (by (try simp only [List.map_toArray, List.map_cons, List.map_nil]); first | done | rfl | (simp only [List.length_drop, List.length_take]; rfl)) ?_; (with_reducible refine (spenceref04_Hits.calls kj16 a1 a2 false t373 _ A21.out).mono ?_); rintro e w61 ⟨rfl, hb⟩; refine ⟨_, rfl, ?_⟩; have n0_ := Aside0.mk (below_step (by repeat (first | (with_reducible first | exact HB.out | apply below_alloc | apply pw_below_drewN | apply below_drew1) | exact HB.out)) hb); clear HB; have HB := n0_; clear n0_; (try clear hb); (try clear hb2); (try clear hk); (try clear hi)) | ((with_reducible refine gate_callee (f := 22) rfl ?_); refine goesL_ (some 62) rfl rfl Try.func22 (by kernel_rfl) rfl #[.string a0, .string a2] rfl (by (try simp only [List.map_toArray, List.map_cons, List.map_nil]); first | done | rfl | (simp only [List.length_drop, List.length_take]; rfl)) ?_; (with_reducible refine (cond_Match.calls kj16 a0 a2 t380 _ A52.out).mono ?_); rintro e w62 ⟨rfl, hb⟩; refine ⟨_, rfl, ?_⟩; have n0_ := Aside0.mk (below_step (by repeat (first | (with_reducible first | exact HB.out | apply below_alloc | apply pw_below_drewN | apply below_drew1) | exact HB.out)) hb); clear HB; have HB := n0_; clear n0_; (try clear hb); (try clear hb2); (try clear hk); (try clear hi)) | (go_at_call 23; (with_reducible refine (cond_None.calls kj16 a1 a2 t381 _ A54.out).mono ?_); rintro e w63 ⟨rfl, hb⟩; have n0_ := Aside0.mk (below_step (by repeat (first | (with_reducible first | exact HB.out | apply below_alloc | apply pw_below_drewN | apply below_drew1) | exact HB.out)) hb); clear HB; have HB := n0_; clear n0_; (try clear hb); (try clear hb2); (try clear hk); (try clear hi)))
                          go_ret
                          exact ⟨by first | rfl | exact ne_empty _ | exact eq_empty _ | (simp [errW_none, errW_some] <;> rfl) | (simp [*, errW_none, errW_some] <;> rfl), by repeat (first | (with_reducible first | exact HB.out | apply below_alloc | apply pw_below_drewN | apply below_drew1) | exact HB.out)⟩
                      · rw [if_neg c53] at H
                        have c53b0 : (t380 == false) = false := by simpa using c53
                        (try (have c53b1 : decide (t380 = false) = false := by simpa using c53))
                        (try (have c53b2 : (t380 == false) = false := by simpa using c53))
                        (try (have c53b3 : ¬ (t380 = false) := by simpa using c53))
                        clear c53
                        obtain rfl := Option.some.inj H
                        go_wp2_with (first | ((with_reducible refine gate_callee (f := 21) rfl ?_); refine goesL_ (some 54) rfl rfl Try.func21 (by kernel_rfl) rfl #[.string a1, .string a2, .bool false] rfl (by (try simp only [List.map_toArray, List.map_cons, List.map_nil]); first | done | rfl | (simp only [List.length_drop, List.length_take]; rfl)) ?_; (with_reducible refine (spenceref04_Hits.calls kj16 a1 a2 false t373 _ A21.out).mono ?_); rintro e w64 ⟨rfl, hb⟩; refine ⟨_, rfl, ?_⟩; have n0_ := Aside0.mk (below_step (by repeat (first | (with_reducible first | exact HB.out | apply below_alloc | apply pw_below_drewN | apply below_drew1) | exact HB.out)) hb); clear HB; have HB := n0_; clear n0_; (try clear hb); (try clear hb2); (try clear hk); (try clear hi)) | ((with_reducible refine gate_callee (f := 22) rfl ?_); refine goesL_ (some 62) rfl rfl Try.func22 (by kernel_rfl) rfl #[.string a0, .string a2] rfl (by (try simp only [List.map_toArray, List.map_cons, List.map_nil]); first | done | rfl | (simp only [List.length_drop, List.length_take]; rfl)) ?_; (with_reducible refine (cond_Match.calls kj16 a0 a2 t380 _ A52.out).mono ?_); rintro e w65 ⟨rfl, hb⟩; refine ⟨_, rfl, ?_⟩; have n0_ := Aside0.mk (below_step (by repeat (first | (with_reducible first | exact HB.out | apply below_alloc | apply pw_below_drewN | apply below_drew1) | exact HB.out)) hb); clear HB; have HB := n0_; clear n0_; (try clear hb); (try clear hb2); (try clear hk); (try clear hi)))
                        go_ret
                        exact ⟨by first | rfl | exact ne_empty _ | exact eq_empty _ | (simp [errW_none, errW_some] <;> rfl) | (simp [*, errW_none, errW_some] <;> rfl), by repeat (first | (with_reducible first | exact HB.out | apply below_alloc | apply pw_below_drewN | apply below_drew1) | exact HB.out)⟩
  · replace c5 := Bool.eq_false_iff.mpr c5
    subst c5
    have H1 : (some false) = some r := by rw [if_neg (show ¬ (false = true) by decide)] at H; exact H
    clear H
    have H := H1
    clear H1
    obtain rfl := Option.some.inj H
    go_enter Try.func7, Try.ntmps7
    go_wp2_with (first | ((with_reducible refine gate_callee (f := 17) rfl ?_); refine goesL_ (some 12) rfl rfl Try.func17 (by kernel_rfl) rfl #[] rfl (by (try simp only [List.map_toArray, List.map_cons, List.map_nil]); first | done | rfl | (simp only [List.length_drop, List.length_take]; rfl)) ?_; (with_reducible refine (spencelaw46_awake.calls k  false _ A4.out).mono ?_); rintro e w66 ⟨rfl, hb⟩; refine ⟨_, rfl, ?_⟩; have n0_ := Aside0.mk (below_step (by repeat (first | (with_reducible first | exact HB.out | apply below_alloc | apply pw_below_drewN | apply below_drew1) | exact HB.out)) hb); clear HB; have HB := n0_; clear n0_; (try clear hb); (try clear hb2); (try clear hk); (try clear hi)))
    go_ret
    exact ⟨by first | rfl | exact ne_empty _ | exact eq_empty _ | (simp [errW_none, errW_some] <;> rfl) | (simp [*, errW_none, errW_some] <;> rfl), by repeat (first | (with_reducible first | exact HB.out | apply below_alloc | apply pw_below_drewN | apply below_drew1) | exact HB.out)⟩
/-- THE ONE PURE STATEMENT of spencelaw46_CondTells. -/
def spencelaw46_CondTells.Pure : Prop := ∀ (a0 : ByteArray) (a1 : ByteArray) (a2 : ByteArray), a0.size ≤ 140737488351232 → a1.size ≤ 140737488351232 → a2.size ≤ 140737488351232 → ∃ k, spencelaw46_CondTells.f k a0 a1 a2 = some true
end Go.Proofs.Ytahoibanpplhbaa.PAll
namespace Go.Proofs.Ytahoibanpplhbaa.Pure
open Go.RowKit Go.Proofs.YtahoibanpplhbaaW.PrintWords Go.Proofs.YtahoibanpplhbaaW.PrintLast Go.Proofs.YtahoibanpplhbaaW.PrintMore
theorem Ev.succ {α : Type} {g : Nat → Option α} {r : α} (h : Ev (fun k => g (k + 1)) r) : Ev g r := Ev.step (fun _ => rfl) h
theorem Ev.all {α : Type} {g : Nat → Option α} {r : α} (h : ∀ k, g k = some r) : Ev g r := ⟨0, fun k _ => h k⟩
theorem Ev.pos {α : Type} {g : Nat → Option α} {r : α} (h : ∀ k, g (k + 1) = some r) : Ev g r := ⟨1, fun k hk => by obtain ⟨j, rfl⟩ : ∃ j, k = j + 1 := ⟨k - 1, by omega⟩; exact h j⟩
theorem wrap_id {x : Int} (h : -9223372036854775808 ≤ x ∧ x ≤ 9223372036854775807) : wrap64 x = x := by unfold wrap64; omega
end Go.Proofs.Ytahoibanpplhbaa.Pure
namespace Go.Proofs.Ytahoibanpplhbaa.Pure
open Go.RowKit Go.Proofs.YtahoibanpplhbaaW.PrintWords
def isB (b : Int) : Prop := 0 ≤ b ∧ b < 256
theorem bytesOf_inj {s t : ByteArray} : bytesOf s = bytesOf t ↔ s = t := by
  constructor
  · intro h
    have h2 : s.data.toList = t.data.toList := by
      unfold bytesOf at h
      exact (List.map_inj_right (fun a b h => by have := Int.ofNat_inj.1 h; exact UInt8.toNat_inj.1 this)).1 h
    have h3 : s.data = t.data := Array.toList_inj.1 h2
    cases s; cases t; simp_all
  · intro h; rw [h]
theorem toList_bytes (s t : ByteArray) : s.toList = t.toList ↔ bytesOf s = bytesOf t := by
  rw [ByteArray.toList_eq, ByteArray.toList_eq, bytesOf_inj]
  constructor
  · intro h; have := Array.toList_inj.1 h; cases s; cases t; simp_all
  · intro h; rw [h]
theorem toList_beq (s t : ByteArray) : (s.toList == t.toList) = decide (bytesOf s = bytesOf t) := by
  by_cases h : bytesOf s = bytesOf t
  · rw [decide_eq_true h, beq_iff_eq, toList_bytes]; exact h
  · rw [decide_eq_false h, beq_eq_false_iff_ne, ne_eq, toList_bytes]; exact h
theorem bytesOf_isB (s : ByteArray) : ∀ b ∈ bytesOf s, isB b := by
  intro b hb
  unfold bytesOf at hb
  obtain ⟨x, _, rfl⟩ := List.mem_map.1 hb
  have := x.toNat_lt
  unfold isB; omega
theorem bytesOf_str (l : List Int) (h : ∀ b ∈ l, isB b) : bytesOf (strOfNums l) = l := by
  unfold bytesOf
  rw [strOfNums_data, List.map_map]
  conv => rhs; rw [← List.map_id l]
  apply List.map_congr_left
  intro b hb
  have := h b hb
  unfold isB at this
  simp
  omega
theorem str_append (l m : List Int) : strOfNums l ++ strOfNums m = strOfNums (l ++ m) := by
  unfold strOfNums
  apply ByteArray.ext
  rw [ByteArray.data_append]
  simp
theorem str_bytes (s : ByteArray) : strOfNums (bytesOf s) = s := by
  rw [← bytesOf_inj]
  exact bytesOf_str _ (bytesOf_isB s)
theorem size_str (l : List Int) : (strOfNums l).size = l.length := strOfNums_size l
theorem bt_str (l : List Int) (h : ∀ b ∈ l, isB b) (i : Int) : bt (strOfNums l) i = rd l i := by
  rw [← rd_bytesOf, bytesOf_str l h]
theorem bytesOf_extract (s : ByteArray) (a b : Nat) : bytesOf (s.extract a b) = ((bytesOf s).take b).drop a := by
  unfold bytesOf
  rw [ByteArray.data_extract, Array.toList_extract, List.extract_eq_take_drop]
  rw [← List.map_take, ← List.map_drop]
  congr 1
  by_cases h : a ≤ b
  · rw [List.take_drop, Nat.add_sub_cancel' h]
  · have e : b - a = 0 := by omega
    rw [e, List.take_zero, List.drop_of_length_le (by rw [List.length_take]; omega)]
theorem bytesOf_eq_nil (s : ByteArray) : bytesOf s = [] ↔ s.size = 0 := by
  rw [← bytesOf_length]
  exact ⟨fun h => by rw [h]; rfl, fun h => List.eq_nil_of_length_eq_zero h⟩
theorem toList_nil (s : ByteArray) : s.toList = ([] : List UInt8) ↔ bytesOf s = [] := by
  rw [ByteArray.toList_eq]
  unfold bytesOf
  simp
theorem rd_eq (l : List Int) (i : Int) (h0 : 0 ≤ i) (h1 : i < l.length) : rd l i = l[i.toNat]'(by omega) := by
  have : i.toNat < l.length := by omega
  simp [rd, this]
end Go.Proofs.Ytahoibanpplhbaa.Pure
namespace Go.Proofs.Ytahoibanpplhbaa.Pure
open Go.RowKit Go.Proofs.YtahoibanpplhbaaW.PrintWords
/-- the number of digits (bytes as numbers), from n on -/
def fval (n : Int) (l : List Int) : Int := l.foldl (fun n b => 10 * n + (b - 48)) n
def isDig (b : Int) : Bool := decide (48 ≤ b) && decide (b ≤ 57)
end Go.Proofs.Ytahoibanpplhbaa.Pure
namespace Go.Proofs.Ytahoibanpplhbaa.Pure
open Go.RowKit Go.Proofs.Ytahoibanpplhbaa.PAll Go.Proofs.YtahoibanpplhbaaW.PrintWords Go.Proofs.YtahoibanpplhbaaW.PrintLast Go.Proofs.YtahoibanpplhbaaW.PrintMore
theorem bytes_drop (s : ByteArray) (i : Int) (h0 : 0 ≤ i) (h1 : i < s.size) : (bytesOf s).drop i.toNat = bt s i :: (bytesOf s).drop (i + 1).toNat := by
  have hl : i.toNat < (bytesOf s).length := by rw [bytesOf_length]; omega
  have e : (i + 1).toNat = i.toNat + 1 := by omega
  rw [List.drop_eq_getElem_cons hl, e, ← rd_bytesOf]
  simp [rd, hl]
theorem bytes_take (s : ByteArray) (i : Int) (h0 : 0 ≤ i) (h1 : i < s.size) : (bytesOf s).take (i + 1).toNat = (bytesOf s).take i.toNat ++ [bt s i] := by
  have hl : i.toNat < (bytesOf s).length := by rw [bytesOf_length]; omega
  have e : (i + 1).toNat = i.toNat + 1 := by omega
  rw [e, List.take_succ_eq_append_getElem hl, ← rd_bytesOf]
  simp [rd, hl]
theorem ext_str (s : ByteArray) (a b : Nat) : s.extract a b = strOfNums (((bytesOf s).take b).drop a) := by
  rw [← bytesOf_extract, str_bytes]
theorem take_size (s : ByteArray) : (bytesOf s).take s.size = bytesOf s := List.take_of_length_le (by rw [bytesOf_length]; omega)
end Go.Proofs.Ytahoibanpplhbaa.Pure
namespace Go.Proofs.Ytahoibanpplhbaa.Pure
open Go.RowKit Go.Proofs.Ytahoibanpplhbaa.PAll Go.Proofs.YtahoibanpplhbaaW.PrintWords Go.Proofs.YtahoibanpplhbaaW.PrintLast Go.Proofs.YtahoibanpplhbaaW.PrintMore
def maxN : Int := 4611686018427387903
/-- the loop's answer from a place on -/
def run (n : Int) (over : Bool) (l : List Int) : Int × Int := if l.all isDig = false then (0, 3) else if over = true ∨ fval n l > maxN then (0, 9) else (fval n l, 0)
end Go.Proofs.Ytahoibanpplhbaa.Pure
namespace Go.Proofs.Ytahoibanpplhbaa.Pure
open Go.RowKit Go.Proofs.Ytahoibanpplhbaa.PAll Go.Proofs.YtahoibanpplhbaaW.PrintWords Go.Proofs.YtahoibanpplhbaaW.PrintLast Go.Proofs.YtahoibanpplhbaaW.PrintMore
def isBl (b : Int) : Bool := b == 32 || b == 9
def ltrim (l : List Int) : List Int := l.dropWhile isBl
def rtrim (l : List Int) : List Int := (l.reverse.dropWhile isBl).reverse
def trim (l : List Int) : List Int := ltrim (rtrim l)
theorem blank_eq (b : Int) : text_blank.f b = some (isBl b) := by
  unfold text_blank.f isBl; by_cases h : b = 32 <;> simp [h]
theorem ref_blank_eq (b : Int) : spenceref01_Blank.f b = some (isBl b) := by
  unfold spenceref01_Blank.f isBl; by_cases h : b = 32 <;> simp [h]
theorem rtrim_snoc (l : List Int) (b : Int) : rtrim (l ++ [b]) = if isBl b then rtrim l else l ++ [b] := by
  unfold rtrim
  rw [List.reverse_append, List.reverse_singleton, List.singleton_append, List.dropWhile_cons]
  by_cases h : isBl b = true
  · rw [if_pos h, if_pos h]
  · rw [if_neg h, if_neg h]; simp
theorem rtrim_nil : rtrim [] = [] := rfl
theorem ltrim_cons (l : List Int) (b : Int) : ltrim (b :: l) = if isBl b then ltrim l else b :: l := by
  unfold ltrim; rw [List.dropWhile_cons]
theorem right_loop (s : ByteArray) (hs : s.size ≤ 9223372036854775806) (d : Nat) : ∀ i : Int, 0 ≤ i → i ≤ s.size → i = d →
    Ev (fun k => text_Right.l0 k s i) (strOfNums (rtrim ((bytesOf s).take i.toNat))) := by
  induction d with
  | zero =>
    intro i h0 h1 hd
    refine Ev.pos (fun k => ?_)
    simp only [text_Right.l0]
    rw [if_neg (by omega), if_pos h0, if_pos h1, ext_str]
    subst hd; rfl
  | succ d ih =>
    intro i h0 h1 hd
    have hw : wrap64 (i - 1) = i - 1 := wrap_id (by omega)
    have ht := bytes_take s (i - 1) (by omega) (by omega)
    have e1 : i - 1 + 1 = i := by omega
    rw [e1] at ht
    rw [ht, rtrim_snoc, ← ht]
    by_cases hb : isBl (bt s (i - 1)) = true
    · rw [if_pos hb]
      refine Ev.step (fun k => ?_) (ih (i - 1) (by omega) (by omega) (by omega))
      simp only [text_Right.l0, hw, blank_eq, Option.bind_some]
      rw [if_pos (by omega), if_pos (by omega), if_pos (by omega), if_pos hb]
    · rw [if_neg hb]
      refine Ev.pos (fun k => ?_)
      simp only [text_Right.l0, hw, blank_eq, Option.bind_some]
      rw [if_pos (by omega), if_pos (by omega), if_pos (by omega), if_neg hb, if_pos h0, if_pos h1, ext_str]
      rfl
theorem right_ev (s : ByteArray) (hs : s.size ≤ 9223372036854775806) : Ev (fun k => text_Right.f k s) (strOfNums (rtrim (bytesOf s))) := by
  have := right_loop s hs s.size s.size (by omega) (by omega) rfl
  rw [Int.toNat_natCast, take_size] at this
  exact this
theorem left_loop (s : ByteArray) (hs : s.size ≤ 9223372036854775806) (d : Nat) : ∀ i : Int, 0 ≤ i → i ≤ s.size → (s.size : Int) - i = d →
    Ev (fun k => text_Trim.l0 k s i) (strOfNums (ltrim ((bytesOf s).drop i.toNat))) := by
  induction d with
  | zero =>
    intro i h0 h1 hd
    refine Ev.pos (fun k => ?_)
    have hz : (bytesOf s).drop i.toNat = [] := List.drop_of_length_le (by rw [bytesOf_length]; omega)
    simp only [text_Trim.l0]
    rw [if_neg (by omega), if_pos h0, if_pos h1, ext_str, take_size, hz]
    rfl
  | succ d ih =>
    intro i h0 h1 hd
    have hi : i < s.size := by omega
    have hdr := bytes_drop s i h0 hi
    rw [hdr, ltrim_cons, ← hdr]
    by_cases hb : isBl (bt s i) = true
    · rw [if_pos hb]
      refine Ev.step (fun k => ?_) (ih (i + 1) (by omega) (by omega) (by omega))
      simp only [text_Trim.l0, blank_eq, Option.bind_some]
      rw [if_pos hi, if_pos h0, if_pos hb, wrap_id (by omega)]
    · rw [if_neg hb]
      refine Ev.pos (fun k => ?_)
      simp only [text_Trim.l0, blank_eq, Option.bind_some]
      rw [if_pos hi, if_pos h0, if_neg hb, if_pos h1, ext_str, take_size]
theorem dropWhile_len (p : Int → Bool) (l : List Int) : (l.dropWhile p).length ≤ l.length := (List.dropWhile_sublist p).length_le
theorem rtrim_len (l : List Int) : (rtrim l).length ≤ l.length := by
  unfold rtrim
  rw [List.length_reverse]
  exact Nat.le_trans (dropWhile_len _ _) (by rw [List.length_reverse]; omega)
theorem ltrim_len (l : List Int) : (ltrim l).length ≤ l.length := dropWhile_len _ _
theorem trim_len (l : List Int) : (trim l).length ≤ l.length := Nat.le_trans (ltrim_len _) (rtrim_len _)
theorem rtrim_mem {l : List Int} {b : Int} (h : b ∈ rtrim l) : b ∈ l := by
  unfold rtrim at h
  exact List.mem_reverse.1 ((List.dropWhile_sublist isBl).mem (List.mem_reverse.1 h))
theorem ltrim_mem {l : List Int} {b : Int} (h : b ∈ ltrim l) : b ∈ l := (List.dropWhile_sublist isBl).mem h
theorem trim_mem {l : List Int} {b : Int} (h : b ∈ trim l) : b ∈ l := rtrim_mem (ltrim_mem h)
theorem trim_ev (s : ByteArray) (hs : s.size ≤ 9223372036854775806) : Ev (fun k => text_Trim.f k s) (strOfNums (trim (bytesOf s))) := by
  refine Ev.bind (f := fun k t => text_Trim.l0 k t 0) (right_ev s hs) ?_
  have hl : (rtrim (bytesOf s)).length ≤ s.size := by have := rtrim_len (bytesOf s); rwa [bytesOf_length] at this
  have := left_loop (strOfNums (rtrim (bytesOf s))) (by rw [size_str]; omega) (rtrim (bytesOf s)).length 0 (by omega) (by omega) (by rw [size_str]; omega)
  rw [bytesOf_str _ (fun b hb => bytesOf_isB s b (rtrim_mem hb))] at this
  exact this
theorem ref_left_loop (d : Nat) : ∀ (s : ByteArray), s.size ≤ 9223372036854775806 → s.size = d →
    Ev (fun k => spenceref01_Trim.l1 k s false) (strOfNums (ltrim (bytesOf s))) := by
  induction d with
  | zero =>
    intro s hs hd
    refine Ev.pos (fun k => ?_)
    have hz : bytesOf s = [] := (bytesOf_eq_nil s).2 hd
    simp only [spenceref01_Trim.l1]
    rw [if_neg (by decide), if_neg (by omega), ← str_bytes s, hz]
    rfl
  | succ d ih =>
    intro s hs hd
    have hdr := bytes_drop s 0 (by omega) (by omega)
    rw [Int.toNat_zero, List.drop_zero] at hdr
    have hx : bytesOf (s.extract 1 s.size) = (bytesOf s).drop (0 + 1 : Int).toNat := by rw [bytesOf_extract, take_size]; rfl
    rw [hdr, ltrim_cons, ← hdr]
    by_cases hb : isBl (bt s 0) = true
    · rw [if_pos hb, ← hx]
      refine Ev.step (fun k => ?_) (ih (s.extract 1 s.size) (by rw [ByteArray.size_extract]; omega) (by rw [ByteArray.size_extract]; omega))
      simp only [spenceref01_Trim.l1, ref_blank_eq, Option.bind_some]
      rw [if_neg (by decide), if_pos (by omega), if_pos (by omega), if_pos hb, if_pos (by omega)]
    · rw [if_neg hb, str_bytes]
      refine Ev.pos (fun k => ?_)
      simp only [spenceref01_Trim.l1, ref_blank_eq, Option.bind_some]
      rw [if_neg (by decide), if_pos (by omega), if_pos (by omega), if_neg hb]
def rtrims (l : List Int) (r : Bool) : List Int := if r then rtrim l else trim l
theorem ref_end (s : ByteArray) (hs : s.size ≤ 9223372036854775806) (r : Bool) (h : rtrim (bytesOf s) = bytesOf s) :
    Ev (fun k => spenceref01_Trim.j1 k s r) (strOfNums (rtrims (bytesOf s) r)) := by
  refine Ev.succ ?_
  simp only [spenceref01_Trim.j1]
  cases r with
  | true =>
    refine Ev.pos (fun k => ?_)
    simp only [spenceref01_Trim.l1]
    rw [if_pos trivial, rtrims, if_pos rfl, h, str_bytes]
  | false =>
    rw [rtrims, if_neg (by decide), trim, h]
    exact ref_left_loop s.size s hs rfl
theorem ref_trim_ev (r : Bool) (d : Nat) : ∀ (s : ByteArray), s.size ≤ 9223372036854775806 → s.size = d →
    Ev (fun k => spenceref01_Trim.l0 k s r) (strOfNums (rtrims (bytesOf s) r)) := by
  induction d with
  | zero =>
    intro s hs hd
    have hz : bytesOf s = [] := (bytesOf_eq_nil s).2 hd
    refine Ev.step (fun k => ?_) (ref_end s hs r (by rw [hz]; rfl))
    simp only [spenceref01_Trim.l0]
    rw [if_neg (by omega)]
  | succ d ih =>
    intro s hs hd
    have hw : wrap64 ((s.size : Int) - 1) = (s.size : Int) - 1 := wrap_id (by omega)
    have ht := bytes_take s ((s.size : Int) - 1) (by omega) (by omega)
    have e1 : ((s.size : Int) - 1 + 1).toNat = s.size := by omega
    rw [e1, take_size] at ht
    have hr := rtrim_snoc ((bytesOf s).take ((s.size : Int) - 1).toNat) (bt s ((s.size : Int) - 1))
    rw [← ht] at hr
    have hx : bytesOf (s.extract 0 ((s.size : Int) - 1).toNat) = (bytesOf s).take ((s.size : Int) - 1).toNat := by rw [bytesOf_extract, List.drop_zero]
    by_cases hb : isBl (bt s ((s.size : Int) - 1)) = true
    · rw [if_pos hb, ← hx] at hr
      have e : rtrims (bytesOf s) r = rtrims (bytesOf (s.extract 0 ((s.size : Int) - 1).toNat)) r := by
        unfold rtrims trim; rw [hr]
      rw [e]
      refine Ev.step (fun k => ?_) (ih (s.extract 0 ((s.size : Int) - 1).toNat) (by rw [ByteArray.size_extract]; omega) (by rw [ByteArray.size_extract]; omega))
      simp only [spenceref01_Trim.l0, hw, ref_blank_eq, Option.bind_some]
      rw [if_pos (by omega), if_pos (by omega), if_pos (by omega), if_pos hb, if_pos (by omega)]
    · rw [if_neg hb] at hr
      refine Ev.step (fun k => ?_) (ref_end s hs r hr)
      simp only [spenceref01_Trim.l0, hw, ref_blank_eq, Option.bind_some]
      rw [if_pos (by omega), if_pos (by omega), if_pos (by omega), if_neg hb]
theorem ref_trim_eq (s : ByteArray) (hs : s.size ≤ 9223372036854775806) (r : Bool) : Ev (fun k => spenceref01_Trim.f k s r) (strOfNums (rtrims (bytesOf s) r)) := ref_trim_ev r s.size s hs rfl
end Go.Proofs.Ytahoibanpplhbaa.Pure

namespace Go.Proofs.Ytahoibanpplhbaa.Pure
open Go.RowKit Go.Proofs.Ytahoibanpplhbaa.Xw Go.Proofs.Ytahoibanpplhbaa.PAll Go.Proofs.YtahoibanpplhbaaW.PrintWords Go.Proofs.YtahoibanpplhbaaW.PrintLast Go.Proofs.YtahoibanpplhbaaW.PrintMore
def piecesQ (o : Bool) (cur : List Int) : List Int → List (List Int)
  | [] => [cur]
  | b :: l => if b = 34 then piecesQ (!o) (cur ++ [b]) l else if b = 44 then (if o = true then piecesQ o (cur ++ [b]) l else cur :: piecesQ o [] l) else piecesQ o (cur ++ [b]) l
theorem piecesQ_isB : ∀ (l : List Int) (o : Bool) (cur : List Int), (∀ b ∈ l, isB b) → (∀ b ∈ cur, isB b) → ∀ p ∈ piecesQ o cur l, ∀ b ∈ p, isB b
  | [], o, cur, _, hc => by intro p hp; rw [piecesQ, List.mem_singleton] at hp; subst hp; exact hc
  | x :: l, o, cur, hl, hc => by
    have h1 : isB x := hl x List.mem_cons_self
    have h2 : ∀ b ∈ l, isB b := fun b hb => hl b (List.mem_cons_of_mem _ hb)
    have h3 : ∀ b ∈ cur ++ [x], isB b := by
      intro b hb
      rcases List.mem_append.1 hb with h | h
      · exact hc b h
      · rw [List.mem_singleton.1 h]; exact h1
    have h4 : ∀ b ∈ ([] : List Int), isB b := by simp
    intro p hp
    rw [piecesQ] at hp
    split at hp
    · exact piecesQ_isB l _ _ h2 h3 p hp
    · split at hp
      · split at hp
        · exact piecesQ_isB l _ _ h2 h3 p hp
        · rcases List.mem_cons.1 hp with h | h
          · subst h; exact hc
          · exact piecesQ_isB l _ _ h2 h4 p h
      · exact piecesQ_isB l _ _ h2 h3 p hp
theorem piecesQ_len : ∀ (l : List Int) (o : Bool) (cur : List Int), (piecesQ o cur l).length ≤ l.length + 1
  | [], o, cur => by simp [piecesQ]
  | x :: l, o, cur => by
    rw [piecesQ]
    have h1 := piecesQ_len l (!o) (cur ++ [x])
    have h2 := piecesQ_len l o (cur ++ [x])
    have h3 := piecesQ_len l o []
    split
    · rw [List.length_cons]; omega
    · split
      · split
        · rw [List.length_cons]; omega
        · rw [List.length_cons, List.length_cons]; omega
      · rw [List.length_cons]; omega
theorem piecesQ_size : ∀ (l : List Int) (o : Bool) (cur : List Int), ∀ p ∈ piecesQ o cur l, p.length ≤ cur.length + l.length
  | [], o, cur, p, hp => by rw [piecesQ, List.mem_singleton] at hp; subst hp; simp
  | x :: l, o, cur, p, hp => by
    rw [piecesQ] at hp
    have h0 : (cur ++ [x]).length = cur.length + 1 := by simp
    have hl : (x :: l).length = l.length + 1 := rfl
    split at hp
    · have := piecesQ_size l _ _ p hp; omega
    · split at hp
      · split at hp
        · have := piecesQ_size l _ _ p hp; omega
        · rcases List.mem_cons.1 hp with h | h
          · subst h; omega
          · have := piecesQ_size l _ _ p h; simp only [List.length_nil] at this; omega
      · have := piecesQ_size l _ _ p hp; omega
theorem extract_str (s : ByteArray) (a b : Nat) : s.extract a b = strOfNums (((bytesOf s).take b).drop a) := by rw [← bytesOf_extract, str_bytes]
theorem take_snoc_b (s : ByteArray) (i : Int) (h0 : 0 ≤ i) (hi : i < s.size) (a : Nat) (ha : a ≤ i.toNat) : ((bytesOf s).take (i + 1).toNat).drop a = ((bytesOf s).take i.toNat).drop a ++ [bt s i] := by
  have hi' : i.toNat < (bytesOf s).length := by rw [bytesOf_length]; omega
  have e : (i + 1).toNat = i.toNat + 1 := by omega
  rw [e, List.take_succ_eq_append_getElem hi', List.drop_append_of_le_length (by rw [List.length_take]; omega)]
  congr 1
  rw [← rd_bytesOf, rd_eq _ _ h0 (by rw [bytesOf_length]; omega)]
theorem parted_loop (s : ByteArray) (hs : s.size ≤ 100000) (d : Nat) : ∀ (i a : Int) (o : Bool) (out : List ByteArray), 0 ≤ a → a ≤ i → i ≤ s.size → (s.size : Int) - i = d → out.length ≤ i.toNat →
    Ev (fun k => cond_parted.l0 k s out a o s.size i) (out ++ (piecesQ o (((bytesOf s).take i.toNat).drop a.toNat) ((bytesOf s).drop i.toNat)).map strOfNums) := by
  induction d with
  | zero =>
    intro i a o out h0 h1 h2 hd ho
    refine Ev.pos (fun k => ?_)
    have hz : (bytesOf s).drop i.toNat = [] := List.drop_of_length_le (by rw [bytesOf_length]; omega)
    simp only [cond_parted.l0]
    rw [if_neg (by omega), if_pos h0, if_pos (by omega), if_pos (by omega), hz, piecesQ, extract_str]
    have e : s.size = i.toNat := by omega
    rw [e]; rfl
  | succ d ih =>
    intro i a o out h0 h1 h2 hd ho
    have hi : i < s.size := by omega
    have hw : wrap64 (i + 1) = i + 1 := wrap_id (by omega)
    have e1 : (i + 1).toNat = i.toNat + 1 := by omega
    have hsn := take_snoc_b s i (by omega) hi a.toNat (by omega)
    rw [bytes_drop s i (by omega) hi, piecesQ]
    by_cases hq : bt s i = 34
    · rw [if_pos hq, ← hsn]
      refine Ev.step (fun k => ?_) (ih (i + 1) a (!o) out h0 (by omega) (by omega) (by omega) (by omega))
      simp only [cond_parted.l0, hw]
      rw [if_pos hi, if_pos (by omega), if_pos hi, if_pos hq]
    rw [if_neg hq]
    by_cases hc : bt s i = 44
    rotate_left
    · rw [if_neg hc, ← hsn]
      refine Ev.step (fun k => ?_) (ih (i + 1) a o out h0 (by omega) (by omega) (by omega) (by omega))
      simp only [cond_parted.l0, hw]
      rw [if_pos hi, if_pos (by omega), if_pos hi, if_neg hq, if_neg hc]
    rw [if_pos hc]
    cases o with
    | true =>
      rw [if_pos rfl, ← hsn]
      refine Ev.step (fun k => ?_) (ih (i + 1) a true out h0 (by omega) (by omega) (by omega) (by omega))
      simp only [cond_parted.l0, hw]
      rw [if_pos hi, if_pos (by omega), if_pos hi, if_neg hq, if_pos hc, if_pos trivial]
    | false =>
      rw [if_neg (by decide)]
      have := ih (i + 1) (i + 1) false (out ++ [s.extract a.toNat i.toNat]) (by omega) (by omega) (by omega) (by omega) (by simp; omega)
      rw [show ((bytesOf s).take (i + 1).toNat).drop (i + 1).toNat = [] from List.drop_of_length_le (by rw [List.length_take]; omega), List.append_assoc, e1, List.singleton_append] at this
      rw [List.map_cons, ← extract_str, e1]
      refine Ev.step (fun k => ?_) this
      simp only [cond_parted.l0, hw]
      rw [if_pos hi, if_pos (by omega), if_pos hi, if_neg hq, if_pos hc, if_neg (by decide), if_pos h0, if_pos h1, if_pos (by omega), if_pos (by omega)]
theorem parted_ev (s : ByteArray) (hs : s.size ≤ 100000) : Ev (fun k => cond_parted.f k s) ((piecesQ false [] (bytesOf s)).map strOfNums) := by
  have := parted_loop s hs s.size 0 0 false [] (by omega) (by omega) (by omega) (by omega) (by simp)
  rw [Int.toNat_zero, List.drop_zero, List.drop_zero, List.take_zero, List.nil_append] at this
  exact this
theorem piecesq_loop (s : ByteArray) (hs : s.size ≤ 100000) (d : Nat) : ∀ (i : Int) (o : Bool) (done : List ByteArray) (cur : List Int), 0 ≤ i → i ≤ s.size → (s.size : Int) - i = d → done.length + cur.length ≤ i.toNat →
    Ev (fun k => spenceref01_Pieces.l0 k s true (done ++ [strOfNums cur]) o i) (done ++ (piecesQ o cur ((bytesOf s).drop i.toNat)).map strOfNums) := by
  induction d with
  | zero =>
    intro i o done cur h0 h1 hd hc
    refine Ev.pos (fun k => ?_)
    have hz : (bytesOf s).drop i.toNat = [] := List.drop_of_length_le (by rw [bytesOf_length]; omega)
    simp only [spenceref01_Pieces.l0]
    rw [if_neg (by omega), hz]; rfl
  | succ d ih =>
    intro i o done cur h0 h1 hd hc
    have hi : i < s.size := by omega
    have hw : wrap64 (i + 1) = i + 1 := wrap_id (by omega)
    have hl : (done ++ [strOfNums cur]).length = done.length + 1 := by simp
    have hlw : wrap64 (((done ++ [strOfNums cur]).length : Int) - 1) = (done.length : Int) := by rw [hl, wrap_id (by omega)]; omega
    have hrd : rdOf ByteArray.empty (done ++ [strOfNums cur]) (done.length : Int) = strOfNums cur := by simp [rdOf]
    have hset : ∀ y, (done ++ [strOfNums cur]).set ((done.length : Int)).toNat y = done ++ [y] := by
      intro y; rw [Int.toNat_natCast, List.set_append_right _ _ (Nat.le_refl _)]; simp
    rw [bytes_drop s i h0 hi, piecesQ]
    have hadd : ∀ o2, Ev (fun k => spenceref01_Pieces.l0 k s true (done ++ [strOfNums (cur ++ [bt s i])]) o2 (i + 1)) (done ++ (piecesQ o2 (cur ++ [bt s i]) ((bytesOf s).drop (i + 1).toNat)).map strOfNums) :=
      fun o2 => ih (i + 1) o2 done (cur ++ [bt s i]) (by omega) (by omega) (by omega) (by simp; omega)
    by_cases hq : bt s i = 34
    · rw [if_pos hq]
      refine Ev.step (f := fun k => spenceref01_Pieces.j1 k s true (done ++ [strOfNums cur]) o i true) (fun k => ?_) ?_
      · simp only [spenceref01_Pieces.l0]
        rw [if_pos hi, if_pos h0, if_pos hq]
      have hc44 : ¬ bt s i = 44 := by omega
      refine Ev.step (fun k => ?_) (hadd (!o))
      simp only [spenceref01_Pieces.j1, hw, hlw, hrd, hset, Option.bind_some, size_str, str_append]
      rw [if_pos trivial, if_pos h0, if_pos hi, if_neg hc44, if_pos (by omega), if_pos (by rw [hl]; omega), if_pos (by simp; omega)]
    rw [if_neg hq]
    refine Ev.step (f := fun k => spenceref01_Pieces.j1 k s true (done ++ [strOfNums cur]) o i false) (fun k => ?_) ?_
    · simp only [spenceref01_Pieces.l0]
      rw [if_pos hi, if_pos h0, if_neg hq]
    by_cases hb : bt s i = 44
    · rw [if_pos hb]
      cases o with
      | true =>
        rw [if_pos rfl]
        refine Ev.step (fun k => ?_) (hadd true)
        simp only [spenceref01_Pieces.j1, hw, hlw, hrd, hset, Option.bind_some, size_str, str_append]
        rw [if_neg (by decide), if_pos h0, if_pos hi, if_pos hb, if_pos trivial, if_pos (by omega), if_pos (by rw [hl]; omega), if_pos (by simp; omega)]
      | false =>
        rw [if_neg (by decide)]
        have := ih (i + 1) false (done ++ [strOfNums cur]) [] (by omega) (by omega) (by omega) (by rw [hl]; simp; omega)
        rw [List.append_assoc, List.singleton_append] at this
        rw [List.map_cons]
        refine Ev.step (fun k => ?_) (by rw [List.append_assoc] at this; exact this)
        simp only [spenceref01_Pieces.j1, hw]
        rw [if_neg (by decide), if_pos h0, if_pos hi, if_pos hb, if_neg (by decide), if_pos (by rw [hl]; omega)]
        rw [List.append_assoc]; rfl
    · rw [if_neg hb]
      refine Ev.step (fun k => ?_) (hadd o)
      simp only [spenceref01_Pieces.j1, hw, hlw, hrd, hset, Option.bind_some, size_str, str_append]
      rw [if_neg (by decide), if_pos h0, if_pos hi, if_neg hb, if_pos (by omega), if_pos (by rw [hl]; omega), if_pos (by simp; omega)]
theorem piecesq_ev (s : ByteArray) (hs : s.size ≤ 100000) : Ev (fun k => spenceref01_Pieces.f k s true) ((piecesQ false [] (bytesOf s)).map strOfNums) := by
  have := piecesq_loop s hs s.size 0 false [] [] (by omega) (by omega) (by omega) (by simp)
  rw [Int.toNat_zero, List.drop_zero, List.nil_append, List.nil_append] at this
  exact this
def listEnd (out : List ByteArray) : Option (List (List Int)) → List ByteArray × Bool
  | none => ([], false)
  | some ts => (out ++ ts.map strOfNums, true)
theorem listEnd_map (out : List ByteArray) (t : List Int) (o : Option (List (List Int))) : listEnd out (o.map (t :: ·)) = listEnd (out ++ [strOfNums t]) o := by
  cases o with
  | none => rfl
  | some ts => simp [listEnd]
/-- what the elements of pieces are -/
def lists2 (first : Bool) : List (List Int) → Option (List (List Int))
  | [] => some []
  | p :: r =>
    if trim p = [] then (if first = true ∧ r = [] ∧ p ≠ [] then none else lists2 false r)
    else if first = true ∧ isBl (rd p 0) = true then none
    else if r = [] ∧ isBl (rd p ((p.length : Int) - 1)) = true then none
    else (lists2 false r).map (trim p :: ·)
theorem lists2_cons (first : Bool) (p : List Int) (r : List (List Int)) : lists2 first (p :: r) =
    if trim p = [] then (if first = true ∧ r = [] ∧ p ≠ [] then none else lists2 false r)
    else if first = true ∧ isBl (rd p 0) = true then none
    else if r = [] ∧ isBl (rd p ((p.length : Int) - 1)) = true then none
    else (lists2 false r).map (trim p :: ·) := rfl
theorem lists2_nil (first : Bool) : lists2 first [] = some [] := rfl
theorem lists2_len : ∀ (ps : List (List Int)) (first : Bool) (ts : List (List Int)), lists2 first ps = some ts → ts.length ≤ ps.length
  | [], first, ts, h => by rw [lists2_nil] at h; rw [← Option.some.inj h]; simp
  | p :: r, first, ts, h => by
    rw [lists2_cons] at h
    have ih := lists2_len r false
    split at h
    · split at h
      · cases h
      · have := ih ts h; rw [List.length_cons]; omega
    · split at h
      · cases h
      · split at h
        · cases h
        · obtain ⟨us, hu, rfl⟩ := Option.map_eq_some_iff.1 h
          have := ih us hu
          rw [List.length_cons, List.length_cons]; omega
theorem ref_list_loop (ps : List (List Int)) (hp : ∀ p ∈ ps, ∀ b ∈ p, isB b) (hz : ∀ p ∈ ps, p.length ≤ 100000) (hl : ps.length ≤ 100001) (d : Nat) : ∀ (i : Int) (out : List ByteArray), 0 ≤ i → i ≤ ps.length → (ps.length : Int) - i = d → out.length ≤ i.toNat →
    Ev (fun k => spenceref01_List.l0 k (ps.map strOfNums) out (ps.map strOfNums) ps.length i) (listEnd out (lists2 (decide (i = 0)) (ps.drop i.toNat))) := by
  induction d with
  | zero =>
    intro i out h0 h1 hd ho
    refine Ev.pos (fun k => ?_)
    have : ps.drop i.toNat = [] := List.drop_of_length_le (by omega)
    simp only [spenceref01_List.l0]
    rw [if_neg (by omega), this]
    simp [lists2, listEnd]
  | succ d ih =>
    intro i out h0 h1 hd ho
    have hi : i.toNat < ps.length := by omega
    have e1 : (i + 1).toNat = i.toNat + 1 := by omega
    have hdr := List.drop_eq_getElem_cons hi
    have hrd : rdOf ByteArray.empty (ps.map strOfNums) i = strOfNums ps[i.toNat] := by simp [rdOf, hi]
    have hpB := hp ps[i.toNat] (List.getElem_mem hi)
    have hpz := hz ps[i.toNat] (List.getElem_mem hi)
    rw [hdr, lists2_cons]
    generalize ps[i.toNat] = p at hrd hpB hpz
    have hnil : ps.drop (i.toNat + 1) = [] ↔ i = (ps.length : Int) - 1 := by
      rw [List.drop_eq_nil_iff]; omega
    have hw : wrap64 (i + 1) = i + 1 := wrap_id (by omega)
    have hw2 : wrap64 ((ps.length : Int) - 1) = (ps.length : Int) - 1 := wrap_id (by omega)
    have hw3 : wrap64 ((p.length : Int) - 1) = (p.length : Int) - 1 := wrap_id (by omega)
    have hnx : ∀ out2 : List ByteArray, out2.length ≤ (i + 1).toNat → Ev (fun k => spenceref01_List.l0 k (ps.map strOfNums) out2 (ps.map strOfNums) ps.length (i + 1)) (listEnd out2 (lists2 false (ps.drop (i.toNat + 1)))) := by
      intro out2 h2
      have := ih (i + 1) out2 (by omega) (by omega) (by omega) h2
      rw [decide_eq_false (by omega), e1] at this
      exact this
    have ht := ref_trim_eq (strOfNums p) (by rw [size_str]; omega) false
    rw [bytesOf_str _ hpB, rtrims, if_neg (by decide)] at ht
    have htB : ∀ b ∈ trim p, isB b := fun b hb => hpB b (trim_mem hb)
    refine Ev.succ ?_
    simp only [spenceref01_List.l0, hrd, hw]
    simp only [show i < (ps.length : Int) by omega, h0, if_true, List.length_map]
    refine Ev.bind ht ?_
    have ez : (strOfNums (trim p)).toList = ([] : List UInt8) ↔ trim p = [] := by rw [toList_nil, bytesOf_str _ htB]
    have ep : (strOfNums p).toList = ([] : List UInt8) ↔ p = [] := by rw [toList_nil, bytesOf_str _ hpB]
    by_cases hz1 : trim p = []
    · rw [if_pos hz1]
      simp only [ez.2 hz1, if_true]
      by_cases hone : (ps.length : Int) = 1
      · have hi0 : i = 0 := by omega
        have hnil2 := hnil.2 (by omega)
        simp only [hone, if_true]
        by_cases hpe : p = []
        · simp only [ep.2 hpe, if_true]
          rw [if_neg (fun h => h.2.2 hpe)]
          have := hnx out (by omega)
          rw [hone] at this
          exact this
        · have hpe' : ¬ (strOfNums p).toList = ([] : List UInt8) := fun h => hpe (ep.1 h)
          simp only [hpe', if_false]
          rw [if_pos ⟨decide_eq_true hi0, hnil2, hpe⟩]
          exact Ev.now _
      · simp only [hone, if_false]
        have : ¬ (decide (i = 0) = true ∧ ps.drop (i.toNat + 1) = [] ∧ p ≠ []) := by
          rintro ⟨h2, h3, -⟩
          have := of_decide_eq_true h2
          have := hnil.1 h3
          omega
        rw [if_neg this]
        exact hnx out (by omega)
    · rw [if_neg hz1]
      have hz1' : ¬ (strOfNums (trim p)).toList = ([] : List UInt8) := fun h => hz1 (ez.1 h)
      have hpos : 0 < p.length := by
        rcases Nat.eq_zero_or_pos p.length with h | h
        · exact absurd (by rw [List.eq_nil_of_length_eq_zero h]; rfl) hz1
        · exact h
      simp only [hz1', if_false, ref_blank_eq, Option.bind_some, size_str, bt_str _ hpB, hw3, show (0 : Int) < (p.length : Int) by omega, show (0 : Int) ≤ (p.length : Int) - 1 by omega, show (p.length : Int) - 1 < (p.length : Int) by omega, show out.length < 8796093022208 by omega, if_true]
      have key : Ev (fun k => if i = (ps.length : Int) - 1 then (if isBl (rd p ((p.length : Int) - 1)) = true then some ([], false) else spenceref01_List.l0 k (ps.map strOfNums) (out ++ [strOfNums (trim p)]) (ps.map strOfNums) ps.length (i + 1)) else spenceref01_List.l0 k (ps.map strOfNums) (out ++ [strOfNums (trim p)]) (ps.map strOfNums) ps.length (i + 1))
          (listEnd out (if ps.drop (i.toNat + 1) = [] ∧ isBl (rd p ((p.length : Int) - 1)) = true then none else (lists2 false (ps.drop (i.toNat + 1))).map (trim p :: ·))) := by
        have hn2 := hnx (out ++ [strOfNums (trim p)]) (by simp; omega)
        by_cases hlast : i = (ps.length : Int) - 1
        · simp only [hnil.2 hlast, true_and]
          rw [hnil.2 hlast] at hn2
          by_cases hq : isBl (rd p ((p.length : Int) - 1)) = true
          · simp only [hq, if_true]
            refine Ev.congr (fun k => if_pos hlast) (Ev.now _)
          · rw [if_neg hq, listEnd_map]
            refine Ev.congr (fun k => ?_) hn2
            rw [if_pos hlast, if_neg hq]
        · have : ¬ (ps.drop (i.toNat + 1) = [] ∧ isBl (rd p ((p.length : Int) - 1)) = true) := fun h => hlast (hnil.1 h.1)
          rw [if_neg this, listEnd_map]
          refine Ev.congr (fun k => if_neg hlast) hn2
      by_cases hi0 : i = 0
      · have hd0 : decide (i = 0) = true := decide_eq_true hi0
        rw [hd0]
        by_cases hq : isBl (rd p 0) = true
        · rw [if_pos ⟨rfl, hq⟩]
          refine Ev.congr (fun k => ?_) (Ev.now _)
          rw [if_pos hi0, if_pos hq]; rfl
        · rw [if_neg (fun h => hq h.2)]
          refine Ev.congr (fun k => ?_) key
          rw [if_pos hi0, if_neg hq, hw2]
      · have hd0 : decide (i = 0) = false := decide_eq_false hi0
        rw [hd0, if_neg (fun h => by cases h.1)]
        refine Ev.congr (fun k => ?_) key
        rw [if_neg hi0, hw2]
theorem rtrim_last (p : List Int) (h : 0 < p.length) : rtrim p = p ↔ isBl (rd p ((p.length : Int) - 1)) = false := by
  have hne : p ≠ [] := fun e => by rw [e] at h; exact absurd h (by decide)
  obtain ⟨q, b, rfl⟩ : ∃ q b, p = q ++ [b] := ⟨p.dropLast, p.getLast hne, (List.dropLast_concat_getLast hne).symm⟩
  have hr : rd (q ++ [b]) (((q ++ [b]).length : Int) - 1) = b := by simp [rd]
  rw [hr, rtrim_snoc]
  cases hb : isBl b
  · simp
  · rw [if_pos rfl]
    constructor
    · intro e
      have h1 := rtrim_len q
      rw [e, List.length_append] at h1
      simp at h1
      omega
    · intro e; cases e
theorem blank_ev (s : ByteArray) (hs : s.size ≤ 9223372036854775806) : Ev (fun k => text_Blank.f k s) (decide (rtrim (bytesOf s) = [])) := by
  unfold text_Blank.f
  refine Ev.bind (right_ev s hs) (Ev.all fun k => ?_)
  have hB : ∀ b ∈ rtrim (bytesOf s), isB b := fun b hb => bytesOf_isB s b (rtrim_mem hb)
  by_cases h : rtrim (bytesOf s) = []
  · rw [decide_eq_true h, h]; simp [toList_nil, bytesOf_str]
  · rw [decide_eq_false h]
    have : ¬ (strOfNums (rtrim (bytesOf s))).toList = ([] : List UInt8) := fun e => h (by rw [toList_nil, bytesOf_str _ hB] at e; exact e)
    rw [beq_eq_false_iff_ne.mpr this]
theorem first_str (p : List Int) (hp : ∀ b ∈ p, isB b) (h : 0 < p.length) : bytesOf ((strOfNums p).extract 0 1) = [rd p 0] := by
  rw [bytesOf_extract, bytesOf_str p hp, List.drop_zero]
  cases p with
  | nil => exact absurd h (by decide)
  | cons b q => simp [rd]
theorem elements_loop (ps : List (List Int)) (hp : ∀ p ∈ ps, ∀ b ∈ p, isB b) (hz : ∀ p ∈ ps, p.length ≤ 100000) (hl : ps.length ≤ 100001) (d : Nat) : ∀ (i : Int) (out : List ByteArray), 0 ≤ i → i ≤ ps.length → (ps.length : Int) - i = d → out.length ≤ i.toNat →
    Ev (fun k => cond_elements.l0 k (ps.map strOfNums) out (ps.map strOfNums) ps.length i) (listEnd out (lists2 (decide (i = 0)) (ps.drop i.toNat))) := by
  induction d with
  | zero =>
    intro i out h0 h1 hd ho
    refine Ev.pos (fun k => ?_)
    have : ps.drop i.toNat = [] := List.drop_of_length_le (by omega)
    simp only [cond_elements.l0]
    rw [if_neg (by omega), this]
    simp [lists2, listEnd]
  | succ d ih =>
    intro i out h0 h1 hd ho
    have hi : i.toNat < ps.length := by omega
    have e1 : (i + 1).toNat = i.toNat + 1 := by omega
    have hdr := List.drop_eq_getElem_cons hi
    have hrd : rdOf ByteArray.empty (ps.map strOfNums) i = strOfNums ps[i.toNat] := by simp [rdOf, hi]
    have hpB := hp ps[i.toNat] (List.getElem_mem hi)
    have hpz := hz ps[i.toNat] (List.getElem_mem hi)
    rw [hdr, lists2_cons]
    generalize ps[i.toNat] = p at hrd hpB hpz
    have hnil : ps.drop (i.toNat + 1) = [] ↔ i = (ps.length : Int) - 1 := by
      rw [List.drop_eq_nil_iff]; omega
    have hw : wrap64 (i + 1) = i + 1 := wrap_id (by omega)
    have hw2 : wrap64 ((ps.length : Int) - 1) = (ps.length : Int) - 1 := wrap_id (by omega)
    have hnx : ∀ out2 : List ByteArray, out2.length ≤ (i + 1).toNat → Ev (fun k => cond_elements.l0 k (ps.map strOfNums) out2 (ps.map strOfNums) ps.length (i + 1)) (listEnd out2 (lists2 false (ps.drop (i.toNat + 1)))) := by
      intro out2 h2
      have := ih (i + 1) out2 (by omega) (by omega) (by omega) h2
      rw [decide_eq_false (by omega), e1] at this
      exact this
    have ht := trim_ev (strOfNums p) (by rw [size_str]; omega)
    rw [bytesOf_str _ hpB] at ht
    have htB : ∀ b ∈ trim p, isB b := fun b hb => hpB b (trim_mem hb)
    have ez : (strOfNums (trim p)).toList = ([] : List UInt8) ↔ trim p = [] := by rw [toList_nil, bytesOf_str _ htB]
    have ep : (strOfNums p).toList = ([] : List UInt8) ↔ p = [] := by rw [toList_nil, bytesOf_str _ hpB]
    refine Ev.succ ?_
    simp only [cond_elements.l0, hrd]
    simp only [show i < (ps.length : Int) by omega, h0, if_true, List.length_map]
    refine Ev.bind ht ?_
    by_cases hz1 : trim p = []
    · rw [if_pos hz1]
      simp only [ez.2 hz1, if_true]
      have hno : Ev (fun k => cond_elements.j1 k (ps.map strOfNums) out i (strOfNums p) (strOfNums (trim p)) (ps.map strOfNums) ps.length i false) (listEnd out (lists2 false (ps.drop (i.toNat + 1)))) := by
        refine Ev.step (fun k => ?_) (hnx out (by omega))
        simp only [cond_elements.j1, hw]
        rw [if_neg (by decide), if_pos (ez.2 hz1)]
      by_cases hone : (ps.length : Int) = 1
      · have hi0 : i = 0 := by omega
        have hnil2 := hnil.2 (by omega)
        simp only [hone, if_true]
        rw [hone] at hno
        by_cases hpe : p = []
        · have : ((strOfNums p).toList != ([] : List UInt8)) = false := bne_eq_false_iff_eq.mpr (ep.2 hpe)
          rw [this, if_neg (fun h => h.2.2 hpe)]
          exact hno
        · have : ((strOfNums p).toList != ([] : List UInt8)) = true := bne_iff_ne.mpr (fun h => hpe (ep.1 h))
          rw [this, if_pos ⟨decide_eq_true hi0, hnil2, hpe⟩]
          exact Ev.pos (fun k => by simp only [cond_elements.j1, if_true]; rfl)
      · simp only [hone, if_false]
        have : ¬ (decide (i = 0) = true ∧ ps.drop (i.toNat + 1) = [] ∧ p ≠ []) := by
          rintro ⟨h2, h3, -⟩
          have := of_decide_eq_true h2
          have := hnil.1 h3
          omega
        rw [if_neg this]
        exact hno
    · rw [if_neg hz1]
      have hz1' : ¬ (strOfNums (trim p)).toList = ([] : List UInt8) := fun h => hz1 (ez.1 h)
      have hpos : 0 < p.length := by
        rcases Nat.eq_zero_or_pos p.length with h | h
        · exact absurd (by rw [List.eq_nil_of_length_eq_zero h]; rfl) hz1
        · exact h
      simp only [hz1', if_false]
      refine Ev.succ ?_
      simp only [cond_elements.j1, hw, hw2, Bool.false_eq_true, hz1', if_false, List.length_map, show (1 : Int) ≤ ((strOfNums p).size : Int) by rw [size_str]; omega, show out.length < 8796093022208 by omega, if_true]
      have hr := right_ev (strOfNums p) (by rw [size_str]; omega)
      rw [bytesOf_str _ hpB] at hr
      have hrB : ∀ b ∈ rtrim p, isB b := fun b hb => hpB b (rtrim_mem hb)
      have er : (strOfNums (rtrim p)).toList = (strOfNums p).toList ↔ isBl (rd p ((p.length : Int) - 1)) = false := by rw [toList_bytes, bytesOf_str _ hrB, bytesOf_str _ hpB, rtrim_last p hpos]
      have key : Ev (fun k => if i = (ps.length : Int) - 1 then ((text_Right.f k (strOfNums p)).bind fun t => if t.toList = (strOfNums p).toList then cond_elements.l0 k (ps.map strOfNums) (out ++ [strOfNums (trim p)]) (ps.map strOfNums) ps.length (i + 1) else some ([], false)) else cond_elements.l0 k (ps.map strOfNums) (out ++ [strOfNums (trim p)]) (ps.map strOfNums) ps.length (i + 1))
          (listEnd out (if ps.drop (i.toNat + 1) = [] ∧ isBl (rd p ((p.length : Int) - 1)) = true then none else (lists2 false (ps.drop (i.toNat + 1))).map (trim p :: ·))) := by
        have hn2 := hnx (out ++ [strOfNums (trim p)]) (by simp; omega)
        by_cases hlast : i = (ps.length : Int) - 1
        · simp only [hlast, if_true]
          rw [← hlast]
          simp only [hnil.2 hlast, true_and]
          rw [hnil.2 hlast] at hn2
          refine Ev.bind hr ?_
          cases hq : isBl (rd p ((p.length : Int) - 1))
          · rw [if_neg (by decide), listEnd_map]
            simp only [er.2 hq, if_true]
            exact hn2
          · have : ¬ (strOfNums (rtrim p)).toList = (strOfNums p).toList := fun h => by rw [er.1 h] at hq; cases hq
            simp only [this, if_false, if_true]; exact Ev.now _
        · have : ¬ (ps.drop (i.toNat + 1) = [] ∧ isBl (rd p ((p.length : Int) - 1)) = true) := fun h => hlast (hnil.1 h.1)
          rw [if_neg this, listEnd_map]
          refine Ev.congr (fun k => if_neg hlast) hn2
      by_cases hi0 : i = 0
      · have hd0 : decide (i = 0) = true := decide_eq_true hi0
        rw [hd0]
        refine Ev.congr (fun k => if_pos hi0) ?_
        have hb := blank_ev ((strOfNums p).extract 0 1) (by rw [← bytesOf_length, first_str p hpB hpos]; simp)
        rw [first_str p hpB hpos] at hb
        have hb2 : decide (rtrim [rd p 0] = []) = isBl (rd p 0) := by
          have := rtrim_snoc [] (rd p 0)
          rw [List.nil_append] at this
          rw [this, rtrim_nil]
          cases isBl (rd p 0) <;> rfl
        rw [hb2] at hb
        refine Ev.bind hb ?_
        cases hq : isBl (rd p 0)
        · rw [if_neg (fun h => by cases h.2)]
          simp only [Bool.false_eq_true, if_false]
          exact key
        · rw [if_pos ⟨rfl, rfl⟩]
          simp only [if_true]; exact Ev.now _
      · have hd0 : decide (i = 0) = false := decide_eq_false hi0
        rw [hd0, if_neg (fun h => by cases h.1)]
        refine Ev.congr (fun k => if_neg hi0) key
theorem piecesQ_facts (s : ByteArray) (hs : s.size ≤ 10000) : (∀ p ∈ piecesQ false [] (bytesOf s), ∀ b ∈ p, isB b) ∧ (∀ p ∈ piecesQ false [] (bytesOf s), p.length ≤ 10000) ∧ (piecesQ false [] (bytesOf s)).length ≤ 10001 := by
  have h2 := piecesQ_size (bytesOf s) false []
  have h3 := piecesQ_len (bytesOf s) false []
  rw [bytesOf_length] at h3
  simp only [bytesOf_length, List.length_nil] at h2
  exact ⟨piecesQ_isB _ _ _ (bytesOf_isB s) (by simp), fun p hp => by have := h2 p hp; omega, by omega⟩
theorem elements_ev (s : ByteArray) (hs : s.size ≤ 10000) : Ev (fun k => cond_elements.f k s) (listEnd [] (lists2 true (piecesQ false [] (bytesOf s)))) := by
  obtain ⟨h1, h2, h3⟩ := piecesQ_facts s hs
  have h := elements_loop _ h1 (fun p hp => by have := h2 p hp; omega) (by omega) (piecesQ false [] (bytesOf s)).length 0 [] (by omega) (by omega) (by omega) (by simp)
  rw [decide_eq_true rfl, Int.toNat_zero, List.drop_zero] at h
  refine Ev.bind (parted_ev s (by omega)) ?_
  rw [List.length_map]
  exact h
theorem ref_elements_ev (s : ByteArray) (hs : s.size ≤ 10000) : Ev (fun k => spenceref01_List.f k ((piecesQ false [] (bytesOf s)).map strOfNums)) (listEnd [] (lists2 true (piecesQ false [] (bytesOf s)))) := by
  obtain ⟨h1, h2, h3⟩ := piecesQ_facts s hs
  have h := ref_list_loop _ h1 (fun p hp => by have := h2 p hp; omega) (by omega) (piecesQ false [] (bytesOf s)).length 0 [] (by omega) (by omega) (by omega) (by simp)
  rw [decide_eq_true rfl, Int.toNat_zero, List.drop_zero] at h
  unfold spenceref01_List.f
  rw [List.length_map]
  exact h
end Go.Proofs.Ytahoibanpplhbaa.Pure

namespace Go.Proofs.Ytahoibanpplhbaa.PAll
open Go.RowKit Go.Proofs.Ytahoibanpplhbaa.Xw Go.Proofs.YtahoibanpplhbaaW.PrintWords Go.Proofs.YtahoibanpplhbaaW.PrintLast Go.Proofs.YtahoibanpplhbaaW.PrintMore
attribute [local go_sem] max2_int min2_int max_two min_two max_three min_three max_four min_four   -- for this text's walks alone
set_option linter.unusedVariables false
set_option linter.unusedSimpArgs false
def spenceref04_PrintTag.f (a0_0 : Bool) (a0_1 : ByteArray) : Option (ByteArray) := if 1 + a0_1.size ≤ 9223372036854775807 then (if 1 + a0_1.size + 1 ≤ 9223372036854775807 then (if a0_0 = true then (if 2 + (1 + a0_1.size + 1) ≤ 9223372036854775807 then (some ((⟨#[87, 47]⟩ : ByteArray) ++ (((⟨#[34]⟩ : ByteArray) ++ a0_1) ++ (⟨#[34]⟩ : ByteArray)))) else (none)) else (some (((⟨#[34]⟩ : ByteArray) ++ a0_1) ++ (⟨#[34]⟩ : ByteArray)))) else (none)) else (none)
def cond_Right.f (k : Nat) (a0_0 : Bool) (l0_1 : List (S51)) : Option (Bool) := if a0_0 = true then (some ((l0_1.length : Int) == 0)) else (if (l0_1.length : Int) = 0 then (some false) else (if (l0_1.length : Int) > 16 then (some false) else ((api_ETag_51.f k l0_1 52).bind fun t385 => (some (!t385)))))
theorem cond_Right.mono : ∀ a0 a1 k, LeO (cond_Right.f k a0 a1) (cond_Right.f (k + 1) a0 a1) := by
  intro a0 a1 k
  unfold cond_Right.f
  repeat' first
      | (with_reducible exact api_ETag_51.mono _ _ _)
      | (with_reducible exact LeO.refl _)
      | (with_reducible exact LeO.none _)
      | (with_reducible refine LeO.ite ?_ ?_)
      | (with_reducible refine LeO.bind ?_ (fun _ => ?_))
      | exact api_ETag_51.mono _ _ _
      | exact LeO.none _
      | refine LeO.ite ?_ ?_
      | refine LeO.bind ?_ (fun _ => ?_)
def etag_Print.f (a0_0 : Bool) (a0_1 : ByteArray) : Option (ByteArray) := if 1 + a0_1.size ≤ 9223372036854775807 then (if 1 + a0_1.size + 1 ≤ 9223372036854775807 then (if a0_0 = true then (if 2 + (1 + a0_1.size + 1) ≤ 9223372036854775807 then (some ((⟨#[87, 47]⟩ : ByteArray) ++ (((⟨#[34]⟩ : ByteArray) ++ a0_1) ++ (⟨#[34]⟩ : ByteArray)))) else (none)) else (some (((⟨#[34]⟩ : ByteArray) ++ a0_1) ++ (⟨#[34]⟩ : ByteArray)))) else (none)) else (none)
/-- texts, one behind the other, with a text between -/
def joinI (sep : List Int) : List (List Int) → List Int
  | [] => []
  | [x] => x
  | x :: y :: r => x ++ sep ++ joinI sep (y :: r)
def strings_Join.f (l0 : List ByteArray) (a1 : ByteArray) : Option ByteArray := if l0.length ≤ 140737488355328 then (if (joinI (bytesOf a1) (l0.map bytesOf)).length ≤ 140737488355328 then (some (strOfNums (joinI (bytesOf a1) (l0.map bytesOf)))) else none) else none
def cond_Print.l0 : Nat → List ByteArray → List (S51) → Int → Int → Option (ByteArray)
  | 0, _, _, _, _ => none
  | k + 1, x3, x9, x10, x11 => if x11 < x10 then (if 0 ≤ x11 then (if x11 < (x9.length : Int) then ((etag_Print.f ((rd_T51 x9 x11).f0) ((rd_T51 x9 x11).f1)).bind fun t390 => (if x3.length < 8796093022208 then (cond_Print.l0 k (x3 ++ [t390]) x9 x10 (wrap64 (x11 + 1))) else (none))) else (none)) else (none)) else ((strings_Join.f x3 (⟨#[44, 32]⟩ : ByteArray)).bind fun t394 => (some t394))
def cond_Print.f (k : Nat) (a0_0 : Bool) (l0_1 : List (S51)) : Option (ByteArray) := if a0_0 = true then (some (⟨#[42]⟩ : ByteArray)) else (cond_Print.l0 k ([] : List ByteArray) l0_1 (l0_1.length : Int) 0)
theorem cond_Print.mono_l : ∀ k, (∀ y0 y1 y2 y3, LeO (cond_Print.l0 k y0 y1 y2 y3) (cond_Print.l0 (k + 1) y0 y1 y2 y3))
  | 0 => fun _ _ _ _ r h => by simp [cond_Print.l0] at h
  | k + 1 => by
    have ih0 := cond_Print.mono_l k
    · intro y0 y1 y2 y3
      unfold cond_Print.l0
      repeat' first
      | (with_reducible exact ih0 _ _ _ _)
      | (with_reducible exact LeO.refl _)
      | (with_reducible exact LeO.none _)
      | (with_reducible refine LeO.ite ?_ ?_)
      | (with_reducible refine LeO.bind ?_ (fun _ => ?_))
      | exact ih0 _ _ _ _
      | exact LeO.none _
      | refine LeO.ite ?_ ?_
      | refine LeO.bind ?_ (fun _ => ?_)
theorem cond_Print.mono : ∀ a0 a1 k, LeO (cond_Print.f k a0 a1) (cond_Print.f (k + 1) a0 a1) := by
  intro a0 a1 k
  have ih0 := cond_Print.mono_l k
  unfold cond_Print.f
  repeat' first
      | (with_reducible exact ih0 _ _ _ _)
      | (with_reducible exact LeO.refl _)
      | (with_reducible exact LeO.none _)
      | (with_reducible refine LeO.ite ?_ ?_)
      | (with_reducible refine LeO.bind ?_ (fun _ => ?_))
      | exact ih0 _ _ _ _
      | exact LeO.none _
      | refine LeO.ite ?_ ?_
      | refine LeO.bind ?_ (fun _ => ?_)
end Go.Proofs.Ytahoibanpplhbaa.PAll
namespace Go.Proofs.Ytahoibanpplhbaa.Pure
open Go.RowKit Go.Proofs.Ytahoibanpplhbaa.PAll Go.Proofs.YtahoibanpplhbaaW.PrintWords Go.Proofs.YtahoibanpplhbaaW.PrintLast Go.Proofs.YtahoibanpplhbaaW.PrintMore
def may (b : Int) : Bool := b == 33 || (decide (b ≥ 35) && b != 127)
theorem may_eq (b : Int) : etag_may.f b = some (may b) := by
  unfold etag_may.f may
  by_cases h1 : b ≥ 128
  · have a1 : b ≥ 35 := by omega
    have a2 : b ≠ 127 := by omega
    rw [if_pos h1]; simp [a2]; omega
  · rw [if_neg h1]
    by_cases h2 : b = 33
    · rw [if_pos h2]; simp [h2]
    · rw [if_neg h2]
      by_cases h3 : b = 127
      · rw [if_pos h3, h3]; rfl
      · rw [if_neg h3]
        have e1 : (b == 33) = false := by simpa using h2
        have e2 : (b != 127) = true := by simpa using h3
        rw [e1, e2, Bool.false_or, Bool.and_true]
def plain (l : List Int) : Bool := l.all may
theorem plain_loop (s : ByteArray) (hs : s.size ≤ 9223372036854775806) (d : Nat) : ∀ i : Int, 0 ≤ i → i ≤ s.size → (s.size : Int) - i = d →
    Ev (fun k => etag_plain.l0 k s s.size i) (plain ((bytesOf s).drop i.toNat)) := by
  induction d with
  | zero =>
    intro i h0 h1 hd
    refine Ev.pos (fun k => ?_)
    simp only [etag_plain.l0]
    rw [if_neg (by omega), List.drop_of_length_le (by rw [bytesOf_length]; omega)]
    rfl
  | succ d ih =>
    intro i h0 h1 hd
    have hi : i < s.size := by omega
    rw [bytes_drop s i h0 hi, plain, List.all_cons]
    by_cases hb : may (bt s i) = true
    · rw [hb, Bool.true_and]
      refine Ev.step (fun k => ?_) (ih (i + 1) (by omega) (by omega) (by omega))
      simp only [etag_plain.l0, may_eq, Option.bind_some]
      rw [if_pos hi, if_pos h0, if_pos hi, if_pos hb, wrap_id (by omega)]
    · refine Ev.pos (fun k => ?_)
      simp only [etag_plain.l0, may_eq, Option.bind_some]
      rw [if_pos hi, if_pos h0, if_pos hi, if_neg hb]
      simp [hb]
theorem plain_ev (s : ByteArray) (hs : s.size ≤ 9223372036854775806) : Ev (fun k => etag_plain.f k s) (plain (bytesOf s)) := by
  have := plain_loop s hs s.size 0 (by omega) (by omega) (by omega)
  rw [Int.toNat_zero, List.drop_zero] at this
  exact this
theorem ref_plain_loop (s : ByteArray) (hs : s.size ≤ 9223372036854775806) (d : Nat) : ∀ i : Int, 0 ≤ i → i ≤ s.size → (s.size : Int) - i = d →
    Ev (fun k => spenceref04_Tag.l0 k s i) (plain ((bytesOf s).drop i.toNat)) := by
  induction d with
  | zero =>
    intro i h0 h1 hd
    refine Ev.pos (fun k => ?_)
    simp only [spenceref04_Tag.l0]
    rw [if_neg (by omega), List.drop_of_length_le (by rw [bytesOf_length]; omega)]
    rfl
  | succ d ih =>
    intro i h0 h1 hd
    have hi : i < s.size := by omega
    rw [bytes_drop s i h0 hi, plain, List.all_cons]
    have hn := ih (i + 1) (by omega) (by omega) (by omega)
    by_cases h1 : bt s i = 33
    · have e : may (bt s i) = true := by rw [h1]; rfl
      rw [e, Bool.true_and]
      refine Ev.step (fun k => ?_) hn
      simp only [spenceref04_Tag.l0]
      rw [if_pos hi, if_pos h0, if_pos h1, wrap_id (by omega)]
    · by_cases h2 : bt s i < 35
      · have e : may (bt s i) = false := by simp [may, h1]; intro h; omega
        refine Ev.pos (fun k => ?_)
        simp only [spenceref04_Tag.l0]
        rw [if_pos hi, if_pos h0, if_neg h1, if_pos h2, e]; rfl
      · by_cases h3 : bt s i = 127
        · have e : may (bt s i) = false := by rw [h3]; rfl
          refine Ev.pos (fun k => ?_)
          simp only [spenceref04_Tag.l0]
          rw [if_pos hi, if_pos h0, if_neg h1, if_neg h2, if_pos h3, e]; rfl
        · have e : may (bt s i) = true := by
            have : bt s i ≥ 35 := by omega
            simp [may, h3, this]
          rw [e, Bool.true_and]
          refine Ev.step (fun k => ?_) hn
          simp only [spenceref04_Tag.l0]
          rw [if_pos hi, if_pos h0, if_neg h1, if_neg h2, if_neg h3, wrap_id (by omega)]
theorem ref_plain_ev (s : ByteArray) (hs : s.size ≤ 9223372036854775806) : Ev (fun k => spenceref04_Tag.f k s) (plain (bytesOf s)) := by
  have := ref_plain_loop s hs s.size 0 (by omega) (by omega) (by omega)
  rw [Int.toNat_zero, List.drop_zero] at this
  exact this
theorem right_of (w : Bool) (s : ByteArray) (hs : s.size ≤ 9223372036854775806) : Ev (fun k => etag_Right.f k w s) (plain (bytesOf s) && decide (s.size ≤ 40)) := by
  refine Ev.bind (f := fun _ t => if t = true then some (decide ((s.size : Int) ≤ 40)) else some false) (plain_ev s hs) (Ev.all fun k => ?_)
  cases plain (bytesOf s)
  · rfl
  · simp; omega
/-- what stands between the marks -/
def inner (l : List Int) : List Int := (l.take (l.length - 1)).drop 1
/-- of the bytes behind the mark for weak: whether they are a validator -/
def isTag (l : List Int) : Bool := decide (2 ≤ l.length) && (rd l 0 == 34) && (rd l ((l.length : Int) - 1) == 34) && plain (inner l)
def weakOf (l : List Int) : Bool := decide (2 ≤ l.length) && (rd l 0 == 87) && (rd l 1 == 47)
def restOf (l : List Int) : List Int := if weakOf l then l.drop 2 else l
def tagOf (l : List Int) : Bool × ByteArray × Int :=
  if isTag (restOf l) then (if (restOf l).length > 42 then (false, strOfNums [], 10) else (weakOf l, strOfNums (inner (restOf l)), 0)) else (false, strOfNums [], 3)
theorem prefix2 (s : ByteArray) : strings_CutPrefix.f s (⟨#[87, 47]⟩ : ByteArray) = some (if weakOf (bytesOf s) then (s.extract 2 s.size, true) else (s, false)) := by
  have hz : (⟨#[87, 47]⟩ : ByteArray).size = 2 := rfl
  have hp : stringslite_HasPrefix.f s (⟨#[87, 47]⟩ : ByteArray) = some (weakOf (bytesOf s)) := by
    unfold stringslite_HasPrefix.f weakOf
    rw [hz, bytesOf_length]
    by_cases h : 2 ≤ s.size
    · rw [if_pos (by omega), if_pos (by omega), if_pos (by omega), decide_eq_true h]
      rw [toList_beq, bytesOf_extract, rd_bytesOf, rd_bytesOf]
      have h1 := bytes_take s 0 (by omega) (by omega)
      have h2 := bytes_take s 1 (by omega) (by omega)
      have e0 : ((0 : Int) + 1).toNat = 1 := rfl
      have e1 : ((1 : Int) + 1).toNat = 2 := rfl
      have e2 : ((2 : Nat) : Int).toNat = 2 := rfl
      rw [e0] at h1; rw [e1] at h2
      have e3 : (1 : Int).toNat = 1 := rfl
      rw [e3, h1] at h2
      rw [e2, h2]
      have e4 : bytesOf (⟨#[87, 47]⟩ : ByteArray) = [87, 47] := rfl
      rw [e4]
      by_cases a : bt s 0 = 87 <;> by_cases b : bt s 1 = 47 <;> simp [a, b]
    · rw [if_neg (by omega), decide_eq_false h]; rfl
  unfold strings_CutPrefix.f stringslite_CutPrefix.f
  rw [hp, hz]
  by_cases h : weakOf (bytesOf s) = true
  · have h2 : 2 ≤ s.size := by
      have : weakOf (bytesOf s) = true := h
      unfold weakOf at this
      simp only [Bool.and_eq_true, decide_eq_true_eq, bytesOf_length] at this
      exact this.1.1
    simp only [Option.bind_some]
    rw [if_pos h, if_pos h, if_pos (by omega), if_pos (by omega)]
    rfl
  · simp only [Option.bind_some]
    rw [if_neg h, if_neg h]; rfl
theorem inner_str (s : ByteArray) : s.extract 1 ((s.size : Int) - 1).toNat = strOfNums (inner (bytesOf s)) := by
  rw [ext_str, inner, bytesOf_length]
  congr 3; omega
theorem inner_isB (s : ByteArray) : ∀ b ∈ inner (bytesOf s), isB b := fun b hb => bytesOf_isB s b (List.mem_of_mem_take (List.mem_of_mem_drop hb))
theorem inner_len (l : List Int) : (inner l).length = l.length - 2 := by unfold inner; rw [List.length_drop, List.length_take]; omega
def tagEnd (s : ByteArray) (w : Bool) : Bool × ByteArray × Int :=
  if isTag (bytesOf s) then (if s.size > 42 then (false, strOfNums [], 10) else (w, strOfNums (inner (bytesOf s)), 0)) else (false, strOfNums [], 3)
theorem parse_no (s : ByteArray) (w : Bool) (h : isTag (bytesOf s) = false) : Ev (fun k => etag_Parse.j0 k s w true) (tagEnd s w) := by
  refine Ev.pos (fun k => ?_)
  simp only [etag_Parse.j0]
  rw [if_pos trivial, tagEnd, h]; rfl
theorem parse_yes (s : ByteArray) (hs : s.size ≤ 9223372036854775806) (w : Bool) (h2 : 2 ≤ s.size) (ha : bt s 0 = 34) (hb : bt s ((s.size : Int) - 1) = 34) : Ev (fun k => etag_Parse.j0 k s w false) (tagEnd s w) := by
  have hw : wrap64 ((s.size : Int) - 1) = (s.size : Int) - 1 := wrap_id (by omega)
  have hit : isTag (bytesOf s) = plain (inner (bytesOf s)) := by
    unfold isTag
    rw [bytesOf_length, rd_bytesOf, rd_bytesOf, ha, hb, decide_eq_true h2]; simp
  have hil := inner_len (bytesOf s)
  rw [bytesOf_length] at hil
  refine Ev.succ ?_
  simp only [etag_Parse.j0, hw, inner_str]
  simp only [show (1 : Int) ≤ (s.size : Int) - 1 by omega, show (s.size : Int) - 1 ≤ (s.size : Int) by omega, if_true]
  have hp := plain_ev (strOfNums (inner (bytesOf s))) (by rw [size_str]; omega)
  have hr := right_of w (strOfNums (inner (bytesOf s))) (by rw [size_str]; omega)
  rw [bytesOf_str _ (inner_isB s)] at hp hr
  rw [size_str] at hr
  refine Ev.bind hp ?_
  by_cases hq : plain (inner (bytesOf s)) = true
  · simp only [hq, if_true]
    refine Ev.bind hr ?_
    rw [hq, Bool.true_and, tagEnd, hit, hq, if_pos rfl]
    by_cases hz : s.size > 42
    · rw [if_pos hz, decide_eq_false (by omega)]; exact Ev.all (fun k => rfl)
    · rw [if_neg hz, decide_eq_true (by omega)]; exact Ev.all (fun k => rfl)
  · have hq' : plain (inner (bytesOf s)) = false := by simpa using hq
    rw [tagEnd, hit, hq']
    exact Ev.all (fun k => rfl)
theorem isTag_no (s : ByteArray) (h : ¬ (2 ≤ s.size ∧ bt s 0 = 34 ∧ bt s ((s.size : Int) - 1) = 34)) : isTag (bytesOf s) = false := by
  unfold isTag
  rw [bytesOf_length, rd_bytesOf, rd_bytesOf]
  by_cases a : 2 ≤ s.size
  · by_cases b : bt s 0 = 34
    · have c : ¬ bt s ((s.size : Int) - 1) = 34 := fun c => h ⟨a, b, c⟩
      simp [c]
    · simp [b]
  · simp [a]
theorem rest_str (s : ByteArray) : bytesOf (s.extract 2 s.size) = (bytesOf s).drop 2 := by rw [bytesOf_extract, take_size]
theorem tagOf_end (s : ByteArray) : tagOf (bytesOf s) = tagEnd (if weakOf (bytesOf s) then s.extract 2 s.size else s) (weakOf (bytesOf s)) := by
  unfold tagOf tagEnd restOf
  by_cases h : weakOf (bytesOf s) = true
  · rw [if_pos h, if_pos h, ← rest_str s, bytesOf_length]
  · rw [if_neg h, if_neg h, bytesOf_length]
theorem etag_parse_ev (s : ByteArray) (hs : s.size ≤ 9223372036854775806) : Ev (fun k => etag_Parse.f k s) (tagOf (bytesOf s)) := by
  rw [tagOf_end]
  unfold etag_Parse.f
  rw [prefix2]
  simp only [Option.bind_some]
  generalize hx : (if weakOf (bytesOf s) = true then s.extract 2 s.size else s) = x
  have he : (if weakOf (bytesOf s) = true then (s.extract 2 s.size, true) else (s, false)) = (x, weakOf (bytesOf s)) := by
    rw [← hx]; by_cases h : weakOf (bytesOf s) = true
    · rw [if_pos h, if_pos h, h]
    · rw [if_neg h, if_neg h]; simp at h; rw [h]
  rw [he]
  have hxs : x.size ≤ 9223372036854775806 := by
    rw [← hx]; split
    · rw [ByteArray.size_extract]; omega
    · exact hs
  dsimp only
  by_cases h2 : (x.size : Int) < 2
  · simp only [h2, if_true]
    exact parse_no x _ (isTag_no x (by omega))
  have hw : wrap64 ((x.size : Int) - 1) = (x.size : Int) - 1 := wrap_id (by omega)
  simp only [h2, if_false, hw, show (0 : Int) < (x.size : Int) by omega, show (0 : Int) ≤ (x.size : Int) - 1 by omega, show (x.size : Int) - 1 < (x.size : Int) by omega, if_true]
  by_cases ha : bt x 0 = 34
  · simp only [ha, if_true]
    by_cases hb : bt x ((x.size : Int) - 1) = 34
    · rw [hb]; exact parse_yes x hxs _ (by omega) ha hb
    · have : (bt x ((x.size : Int) - 1) != 34) = true := by simpa using hb
      rw [this]; exact parse_no x _ (isTag_no x (fun h => hb h.2.2))
  · simp only [ha, if_false]
    exact parse_no x _ (isTag_no x (fun h => ha h.2.1))
theorem ref_no (s : ByteArray) (w : Bool) (h : isTag (bytesOf s) = false) : Ev (fun k => spenceref04_ETag.j2 k s w true) (tagEnd s w) := by
  refine Ev.pos (fun k => ?_)
  simp only [spenceref04_ETag.j2]
  rw [if_pos trivial, tagEnd, h]; rfl
theorem ref_rest (s : ByteArray) (hs : s.size ≤ 9223372036854775806) (w : Bool) : Ev (fun k => spenceref04_ETag.j1 k s w) (tagEnd s w) := by
  refine Ev.succ ?_
  simp only [spenceref04_ETag.j1]
  by_cases h2 : (s.size : Int) < 2
  · simp only [h2, if_true]
    exact ref_no s _ (isTag_no s (by omega))
  have hw : wrap64 ((s.size : Int) - 1) = (s.size : Int) - 1 := wrap_id (by omega)
  simp only [h2, if_false, hw, show (0 : Int) < (s.size : Int) by omega, show (0 : Int) ≤ (s.size : Int) - 1 by omega, show (s.size : Int) - 1 < (s.size : Int) by omega, if_true]
  by_cases ha : bt s 0 = 34
  · simp only [ha, if_true]
    by_cases hb : bt s ((s.size : Int) - 1) = 34
    · simp only [hb, if_true, inner_str, show (1 : Int) ≤ (s.size : Int) - 1 by omega, show (s.size : Int) - 1 ≤ (s.size : Int) by omega]
      have hil := inner_len (bytesOf s)
      rw [bytesOf_length] at hil
      have hp := ref_plain_ev (strOfNums (inner (bytesOf s))) (by rw [size_str]; omega)
      rw [bytesOf_str _ (inner_isB s)] at hp
      refine Ev.bind hp ?_
      have hit : isTag (bytesOf s) = plain (inner (bytesOf s)) := by
        unfold isTag
        rw [bytesOf_length, rd_bytesOf, rd_bytesOf, ha, hb, decide_eq_true (show 2 ≤ s.size by omega)]; simp
      by_cases hq : plain (inner (bytesOf s)) = true
      · rw [hq]
        refine Ev.pos (fun k => ?_)
        simp only [spenceref04_ETag.j2, hw, inner_str]
        rw [tagEnd, hit, hq, if_neg (by decide), if_pos rfl]
        by_cases hz : s.size > 42
        · rw [if_pos hz, if_pos (by omega)]; rfl
        · rw [if_neg hz, if_neg (by omega), if_pos (by omega), if_pos (by omega)]
      · have hq' : plain (inner (bytesOf s)) = false := by simpa using hq
        rw [hq']
        exact ref_no s _ (by rw [hit, hq'])
    · simp only [hb, if_false]
      exact ref_no s _ (isTag_no s (fun h => hb h.2.2))
  · simp only [ha, if_false]
    exact ref_no s _ (isTag_no s (fun h => ha h.2.1))
theorem ref_etag_ev (s : ByteArray) (hs : s.size ≤ 9223372036854775806) : Ev (fun k => spenceref04_ETag.f k s) (tagOf (bytesOf s)) := by
  rw [tagOf_end]
  have hno : weakOf (bytesOf s) = false → Ev (fun k => spenceref04_ETag.j0 k s false) (tagEnd (if weakOf (bytesOf s) then s.extract 2 s.size else s) (weakOf (bytesOf s))) := by
    intro h
    refine Ev.step (fun k => ?_) (by rw [h]; exact ref_rest s hs false)
    simp only [spenceref04_ETag.j0]
    rw [if_neg (by decide)]
  unfold spenceref04_ETag.f
  by_cases h2 : (s.size : Int) ≥ 2
  · simp only [h2, if_true, show (0 : Int) < (s.size : Int) by omega, show (1 : Int) < (s.size : Int) by omega]
    by_cases ha : bt s 0 = 87
    · simp only [ha, if_true]
      have hwk : weakOf (bytesOf s) = (bt s 1 == 47) := by
        unfold weakOf
        rw [bytesOf_length, rd_bytesOf, rd_bytesOf, ha, decide_eq_true (show 2 ≤ s.size by omega)]; simp
      by_cases hb : bt s 1 = 47
      · have e : (bt s 1 == 47) = true := by rw [hb]; rfl
        rw [hwk, e, if_pos rfl]
        refine Ev.step (fun k => ?_) (ref_rest (s.extract 2 s.size) (by rw [ByteArray.size_extract]; omega) true)
        simp only [spenceref04_ETag.j0]
        rw [if_pos trivial, if_pos (by omega)]
      · have e : (bt s 1 == 47) = false := by simpa using hb
        rw [e] at hwk ⊢
        exact hno hwk
    · simp only [ha, if_false]
      exact hno (by unfold weakOf; rw [rd_bytesOf]; simp [ha])
  · simp only [h2, if_false]
    refine hno ?_
    unfold weakOf
    rw [bytesOf_length, decide_eq_false (by omega)]; rfl
end Go.Proofs.Ytahoibanpplhbaa.Pure
namespace Go.Proofs.Ytahoibanpplhbaa.Pure
open Go.RowKit Go.Proofs.Ytahoibanpplhbaa.Xw Go.Proofs.Ytahoibanpplhbaa.PAll Go.Proofs.YtahoibanpplhbaaW.PrintWords Go.Proofs.YtahoibanpplhbaaW.PrintLast Go.Proofs.YtahoibanpplhbaaW.PrintMore
abbrev TagS := S51
def tagsP (out : List TagS) : List (List Int) → List TagS × Int
  | [] => (out, 0)
  | t :: ts => if (tagOf t).2.2 = 0 then tagsP (out ++ [⟨(tagOf t).1, (tagOf t).2.1⟩]) ts else ([], (tagOf t).2.2)
def condEnd (n : Nat) (r : List TagS × Int) : Bool × List TagS × Int := if r.2 = 0 then (if n > 16 then (false, [], 10) else (false, r.1, 0)) else (false, [], r.2)
def condL : Option (List (List Int)) → Bool × List TagS × Int
  | none => (false, [], 3)
  | some [] => (false, [], 3)
  | some (t :: ts) => condEnd (ts.length + 1) (tagsP [] (t :: ts))
def condOf (l : List Int) : Bool × List TagS × Int := if trim l = [42] then (true, [], 0) else condL (lists2 true (piecesQ false [] (trim l)))
theorem lists2_mem : ∀ (ps : List (List Int)) (first : Bool) (ts : List (List Int)), lists2 first ps = some ts → ∀ t ∈ ts, ∃ p ∈ ps, t = trim p
  | [], first, ts, h, t, ht => by rw [lists2_nil] at h; rw [← Option.some.inj h] at ht; cases ht
  | p :: r, first, ts, h, t, ht => by
    rw [lists2_cons] at h
    have ih := lists2_mem r false
    split at h
    · split at h
      · cases h
      · obtain ⟨q, hq, e⟩ := ih ts h t ht; exact ⟨q, List.mem_cons_of_mem _ hq, e⟩
    · split at h
      · cases h
      · split at h
        · cases h
        · obtain ⟨us, hu, rfl⟩ := Option.map_eq_some_iff.1 h
          rcases List.mem_cons.1 ht with h1 | h1
          · exact ⟨p, List.mem_cons_self, h1⟩
          · obtain ⟨q, hq, e⟩ := ih us hu t h1; exact ⟨q, List.mem_cons_of_mem _ hq, e⟩
theorem parse_tags (ts : List (List Int)) (hb : ∀ t ∈ ts, ∀ b ∈ t, isB b) (hz : ∀ t ∈ ts, t.length ≤ 1000) (hl : ts.length ≤ 1001) (d : Nat) : ∀ (i : Int) (out : List TagS), 0 ≤ i → i ≤ ts.length → (ts.length : Int) - i = d → out.length = i.toNat →
    Ev (fun k => cond_Parse.l0 k (ts.map strOfNums) (ts.map strOfNums) ts.length i false out) (condEnd ts.length (tagsP out (ts.drop i.toNat))) := by
  induction d with
  | zero =>
    intro i out h0 h1 hd ho
    have : ts.drop i.toNat = [] := List.drop_of_length_le (by omega)
    rw [this]
    refine Ev.pos (fun k => ?_)
    simp only [cond_Parse.l0, List.length_map]
    rw [if_neg (by omega), tagsP, condEnd, if_pos rfl]
    by_cases h : ts.length > 16
    · rw [if_pos h, if_pos (by omega)]
    · rw [if_neg h, if_neg (by omega)]
  | succ d ih =>
    intro i out h0 h1 hd ho
    have hi : i.toNat < ts.length := by omega
    have e1 : (i + 1).toNat = i.toNat + 1 := by omega
    have hrd : rdOf ByteArray.empty (ts.map strOfNums) i = strOfNums ts[i.toNat] := by simp [rdOf, hi]
    have hpB := hb ts[i.toNat] (List.getElem_mem hi)
    have hpz := hz ts[i.toNat] (List.getElem_mem hi)
    rw [List.drop_eq_getElem_cons hi, tagsP]
    generalize ts[i.toNat] = t at hrd hpB hpz
    have ht := etag_parse_ev (strOfNums t) (by rw [size_str]; omega)
    rw [bytesOf_str _ hpB] at ht
    refine Ev.succ ?_
    simp only [cond_Parse.l0, hrd, List.length_map, show i < (ts.length : Int) by omega, h0, if_true, wrap_id (x := i + 1) (by omega)]
    refine Ev.bind ht ?_
    by_cases hq : (tagOf t).2.2 = 0
    · rw [if_pos hq]
      simp only [hq, if_true, show out.length < 5864062014805 by omega]
      have := ih (i + 1) (out ++ [⟨(tagOf t).1, (tagOf t).2.1⟩]) (by omega) (by omega) (by omega) (by simp; omega)
      rw [e1] at this
      exact this
    · rw [if_neg hq]
      simp only [hq, if_false]
      rw [condEnd, if_neg hq]; exact Ev.now _
theorem ref_tags (ts : List (List Int)) (hb : ∀ t ∈ ts, ∀ b ∈ t, isB b) (hz : ∀ t ∈ ts, t.length ≤ 1000) (hl : ts.length ≤ 1001) (d : Nat) : ∀ (i : Int) (out : List TagS), 0 ≤ i → i ≤ ts.length → (ts.length : Int) - i = d → out.length = i.toNat →
    Ev (fun k => spenceref04_Cond.l0 k out (ts.map strOfNums) ts.length i) (condEnd ts.length (tagsP out (ts.drop i.toNat))) := by
  induction d with
  | zero =>
    intro i out h0 h1 hd ho
    have : ts.drop i.toNat = [] := List.drop_of_length_le (by omega)
    rw [this]
    refine Ev.pos (fun k => ?_)
    simp only [spenceref04_Cond.l0]
    rw [if_neg (by omega), tagsP, condEnd, if_pos rfl]
    by_cases h : ts.length > 16
    · rw [if_pos h, if_pos (by omega)]
    · rw [if_neg h, if_neg (by omega)]
  | succ d ih =>
    intro i out h0 h1 hd ho
    have hi : i.toNat < ts.length := by omega
    have e1 : (i + 1).toNat = i.toNat + 1 := by omega
    have hrd : rdOf ByteArray.empty (ts.map strOfNums) i = strOfNums ts[i.toNat] := by simp [rdOf, hi]
    have hpB := hb ts[i.toNat] (List.getElem_mem hi)
    have hpz := hz ts[i.toNat] (List.getElem_mem hi)
    rw [List.drop_eq_getElem_cons hi, tagsP]
    generalize ts[i.toNat] = t at hrd hpB hpz
    have ht := ref_etag_ev (strOfNums t) (by rw [size_str]; omega)
    rw [bytesOf_str _ hpB] at ht
    refine Ev.succ ?_
    simp only [spenceref04_Cond.l0, hrd, List.length_map, show i < (ts.length : Int) by omega, h0, if_true, wrap_id (x := i + 1) (by omega)]
    refine Ev.bind ht ?_
    by_cases hq : (tagOf t).2.2 = 0
    · rw [if_pos hq]
      simp only [hq, if_true, show out.length < 5864062014805 by omega]
      have := ih (i + 1) (out ++ [⟨(tagOf t).1, (tagOf t).2.1⟩]) (by omega) (by omega) (by omega) (by simp; omega)
      rw [e1] at this
      exact this
    · rw [if_neg hq]
      simp only [hq, if_false]
      rw [condEnd, if_neg hq]; exact Ev.now _
theorem star_trim (l : List Int) (hl : ∀ b ∈ l, isB b) : (strOfNums l).toList = ([42] : List UInt8) ↔ l = [42] := by
  have e : ([42] : List UInt8) = (strOfNums [42]).toList := by rw [ByteArray.toList_eq]; rfl
  rw [e, toList_bytes, bytesOf_str _ hl, bytesOf_str _ (by simp [isB])]
theorem tags_facts (l : List Int) (hl : ∀ b ∈ l, isB b) (hz : l.length ≤ 1000) (ts : List (List Int)) (h : lists2 true (piecesQ false [] l) = some ts) :
    (∀ t ∈ ts, ∀ b ∈ t, isB b) ∧ (∀ t ∈ ts, t.length ≤ 1000) ∧ ts.length ≤ 1001 := by
  have h1 := piecesQ_isB l false [] hl (by simp)
  have h2 := piecesQ_size l false []
  have h3 := piecesQ_len l false []
  have h4 := lists2_len _ _ _ h
  simp only [List.length_nil] at h2
  refine ⟨fun t ht b hb => ?_, fun t ht => ?_, by omega⟩
  · obtain ⟨p, hp, rfl⟩ := lists2_mem _ _ _ h t ht
    exact h1 p hp b (trim_mem hb)
  · obtain ⟨p, hp, rfl⟩ := lists2_mem _ _ _ h t ht
    have := h2 p hp
    have := trim_len p
    omega
theorem cond_parse_ev (s : ByteArray) (hs : s.size ≤ 1000) : Ev (fun k => cond_Parse.f k s) (condOf (bytesOf s)) := by
  have hl := trim_len (bytesOf s)
  rw [bytesOf_length] at hl
  have hB : ∀ b ∈ trim (bytesOf s), isB b := fun b hb => bytesOf_isB s b (trim_mem hb)
  refine Ev.bind (trim_ev s (by omega)) ?_
  unfold condOf
  by_cases h : trim (bytesOf s) = [42]
  · simp only [(star_trim _ hB).2 h, if_true]; rw [if_pos h]; exact Ev.now _
  have h' : ¬ (strOfNums (trim (bytesOf s))).toList = ([42] : List UInt8) := fun e => h ((star_trim _ hB).1 e)
  simp only [h', if_false]; rw [if_neg h]
  have he := elements_ev (strOfNums (trim (bytesOf s))) (by rw [size_str]; omega)
  rw [bytesOf_str _ hB] at he
  refine Ev.bind he ?_
  cases hx : lists2 true (piecesQ false [] (trim (bytesOf s))) with
  | none => simp only [listEnd, Bool.false_eq_true, if_false]; exact Ev.pos (fun k => by simp only [cond_Parse.j0, if_true]; rfl)
  | some ts =>
    obtain ⟨f1, f2, f3⟩ := tags_facts _ hB (by omega) ts hx
    simp only [listEnd, if_true, List.nil_append, List.length_map]
    cases ts with
    | nil => exact Ev.pos (fun k => by simp only [cond_Parse.j0]; rfl)
    | cons t ts =>
      rw [show (((t :: ts).length : Int) == 0) = false from beq_eq_false_iff_ne.mpr (by rw [List.length_cons]; omega)]
      have := parse_tags (t :: ts) f1 f2 f3 (t :: ts).length 0 [] (by omega) (by omega) (by omega) (by simp)
      rw [Int.toNat_zero, List.drop_zero] at this
      refine Ev.step (fun k => ?_) this
      simp only [cond_Parse.j0, Bool.false_eq_true, if_false, List.length_map]
theorem ref_cond_ev (s : ByteArray) (hs : s.size ≤ 1000) : Ev (fun k => spenceref04_Cond.f k s) (condOf (bytesOf s)) := by
  have hl := trim_len (bytesOf s)
  rw [bytesOf_length] at hl
  have hB : ∀ b ∈ trim (bytesOf s), isB b := fun b hb => bytesOf_isB s b (trim_mem hb)
  have ht := ref_trim_eq s (by omega) false
  rw [rtrims, if_neg (by decide)] at ht
  refine Ev.bind ht ?_
  unfold condOf
  by_cases h : trim (bytesOf s) = [42]
  · simp only [(star_trim _ hB).2 h, if_true]; rw [if_pos h]; exact Ev.now _
  have h' : ¬ (strOfNums (trim (bytesOf s))).toList = ([42] : List UInt8) := fun e => h ((star_trim _ hB).1 e)
  simp only [h', if_false]; rw [if_neg h]
  have hp := piecesq_ev (strOfNums (trim (bytesOf s))) (by rw [size_str]; omega)
  have he := ref_elements_ev (strOfNums (trim (bytesOf s))) (by rw [size_str]; omega)
  rw [bytesOf_str _ hB] at hp he
  refine Ev.bind hp ?_
  refine Ev.bind he ?_
  cases hx : lists2 true (piecesQ false [] (trim (bytesOf s))) with
  | none => simp only [listEnd, Bool.false_eq_true, if_false]; exact Ev.pos (fun k => by simp only [spenceref04_Cond.j0, if_true]; rfl)
  | some ts =>
    obtain ⟨f1, f2, f3⟩ := tags_facts _ hB (by omega) ts hx
    simp only [listEnd, if_true, List.nil_append, List.length_map]
    cases ts with
    | nil => exact Ev.pos (fun k => by simp only [spenceref04_Cond.j0]; rfl)
    | cons t ts =>
      rw [show (((t :: ts).length : Int) == 0) = false from beq_eq_false_iff_ne.mpr (by rw [List.length_cons]; omega)]
      have := ref_tags (t :: ts) f1 f2 f3 (t :: ts).length 0 [] (by omega) (by omega) (by omega) (by simp)
      rw [Int.toNat_zero, List.drop_zero] at this
      refine Ev.step (fun k => ?_) this
      simp only [spenceref04_Cond.j0, Bool.false_eq_true, if_false, List.length_map]
theorem tagsP_len : ∀ (ts : List (List Int)) (out : List TagS), (tagsP out ts).1.length ≤ out.length + ts.length
  | [], out => by simp [tagsP]
  | t :: ts, out => by
    rw [tagsP]
    split
    · have := tagsP_len ts (out ++ [⟨(tagOf t).1, (tagOf t).2.1⟩]); simp only [List.length_append, List.length_cons, List.length_nil] at *; omega
    · simp
theorem condOf_len (l : List Int) (hl : l.length ≤ 1000) : (condOf l).2.1.length ≤ 2000 := by
  have hl_ := hl
  have h0 := trim_len l
  unfold condOf
  split
  · simp
  · cases hx : lists2 true (piecesQ false [] (trim l)) with
    | none => simp [condL]
    | some ts =>
      have h4 := lists2_len _ _ _ hx
      have h3 := piecesQ_len (trim l) false []
      cases ts with
      | nil => simp [condL]
      | cons t ts =>
        have h5 := tagsP_len (t :: ts) []
        simp only [condL, condEnd]
        simp only [List.length_nil, List.length_cons] at *
        repeat' split
        all_goals simp
        all_goals omega
def hitB (strong : Bool) (t : List Int) (x : TagS) : Bool := decide (bytesOf x.f1 = t) && (!strong || !x.f0)
def hitsOf (l t : List Int) (strong : Bool) : Bool := decide ((condOf l).2.2 = 0) && ((condOf l).1 || (condOf l).2.1.any (hitB strong t))
theorem anyO_some (p : TagS → Option Bool) (q : TagS → Bool) (h : ∀ x, p x = some (q x)) : ∀ l, anyO p l = some (l.any q)
  | [] => rfl
  | x :: l => by
    rw [anyO, h x, Option.bind_some, anyO_some p q h l, List.any_cons]
    cases q x <;> rfl
theorem hasO_strong (t : ByteArray) (x : TagS) : hasO 49 t x = some (hitB true (bytesOf t) x) := by
  unfold hasO hitB etag_Strong.f etag_Weak.f
  rw [if_pos rfl, toList_beq]
  cases x.f0 <;> simp
theorem hasO_weak (t : ByteArray) (x : TagS) : hasO 50 t x = some (hitB false (bytesOf t) x) := by
  unfold hasO hitB etag_Weak.f
  rw [if_neg (by decide), if_pos rfl, toList_beq]
  simp
theorem has_ev (s t : ByteArray) (hs : s.size ≤ 1000) (n : Nat) (strong : Bool) (h : ∀ x, hasO n t x = some (hitB strong (bytesOf t) x)) : Ev (fun k => cond_has.f k s t n) (hitsOf (bytesOf s) (bytesOf t) strong) := by
  refine Ev.bind (cond_parse_ev s hs) (Ev.all fun k => ?_)
  unfold hitsOf
  rw [anyO_some _ _ h]
  by_cases h1 : (condOf (bytesOf s)).2.2 = 0
  · rw [if_pos h1, decide_eq_true h1]
    cases (condOf (bytesOf s)).1 <;> simp
  · rw [if_neg h1, decide_eq_false h1]; rfl
theorem hits_loop (t : ByteArray) (strong : Bool) (l : List TagS) (hl : l.length ≤ 100000) (d : Nat) : ∀ (i : Int) (st : Bool), 0 ≤ i → i ≤ l.length → (l.length : Int) - i = d →
    Ev (fun k => spenceref04_Hits.l0 k t strong st l l.length i) (st || (l.drop i.toNat).any (hitB strong (bytesOf t))) := by
  induction d with
  | zero =>
    intro i st h0 h1 hd
    have : l.drop i.toNat = [] := List.drop_of_length_le (by omega)
    rw [this]
    exact Ev.pos (fun k => by simp only [spenceref04_Hits.l0]; rw [if_neg (by omega)]; simp)
  | succ d ih =>
    intro i st h0 h1 hd
    have hi : i.toNat < l.length := by omega
    have e1 : (i + 1).toNat = i.toNat + 1 := by omega
    have hrd : rd_T51 l i = l[i.toNat] := by
      unfold rd_T51
      rw [List.getD_eq_getElem?_getD, List.getElem?_eq_getElem hi]; rfl
    have hnx := fun st2 => ih (i + 1) st2 (by omega) (by omega) (by omega)
    rw [List.drop_eq_getElem_cons hi, List.any_cons]
    rw [e1] at hnx
    refine Ev.succ ?_
    simp only [spenceref04_Hits.l0, show i < (l.length : Int) by omega, h0, if_true, wrap_id (x := i + 1) (by omega), hrd]
    generalize l[i.toNat] = x
    cases st with
    | true => simpa using hnx true
    | false =>
      simp only [Bool.false_eq_true, if_false, Bool.false_or]
      by_cases hq : bytesOf x.f1 = bytesOf t
      · simp only [(toList_bytes _ _).2 hq, if_true]
        have hb : hitB strong (bytesOf t) x = (!strong || !x.f0) := by unfold hitB; rw [decide_eq_true hq, Bool.true_and]
        rw [hb]
        cases strong with
        | true => simpa using hnx (!x.f0)
        | false => simpa using hnx true
      · have : ¬ x.f1.toList = t.toList := fun h => hq ((toList_bytes _ _).1 h)
        simp only [this, if_false]
        have hb : hitB strong (bytesOf t) x = false := by unfold hitB; rw [decide_eq_false hq, Bool.false_and]
        rw [hb]
        simpa using hnx false
theorem ref_hits_ev (s t : ByteArray) (hs : s.size ≤ 1000) (strong : Bool) : Ev (fun k => spenceref04_Hits.f k s t strong) (hitsOf (bytesOf s) (bytesOf t) strong) := by
  have hl := condOf_len (bytesOf s) (by rw [bytesOf_length]; exact hs)
  refine Ev.bind (ref_cond_ev s hs) ?_
  unfold hitsOf
  by_cases h1 : (condOf (bytesOf s)).2.2 = 0
  · simp only [h1, if_true, decide_true, Bool.true_and]
    have := hits_loop t strong (condOf (bytesOf s)).2.1 (by omega) (condOf (bytesOf s)).2.1.length 0 (condOf (bytesOf s)).1 (by omega) (by omega) (by omega)
    rw [Int.toNat_zero, List.drop_zero] at this
    exact this
  · simp only [h1, if_false, decide_false, Bool.false_and]; exact Ev.now _
theorem dw_nil (p : Int → Bool) : ∀ l : List Int, l.dropWhile p = [] ↔ l.all p = true
  | [] => by simp
  | x :: l => by
    rw [List.dropWhile_cons, List.all_cons]
    cases hx : p x
    · simp
    · simpa using dw_nil p l
theorem blank_all (l : List Int) : decide (rtrim l = []) = l.all isBl := by
  unfold rtrim
  rw [Bool.eq_iff_iff, decide_eq_true_iff, List.reverse_eq_nil_iff, dw_nil, List.all_reverse]
theorem match_ev (s t : ByteArray) (hs : s.size ≤ 1000) : Ev (fun k => cond_Match.f k s t) ((bytesOf s).all isBl || hitsOf (bytesOf s) (bytesOf t) true) := by
  have hb := blank_ev s (by omega)
  rw [blank_all] at hb
  refine Ev.bind hb ?_
  cases (bytesOf s).all isBl
  · simp only [Bool.false_eq_true, if_false, Bool.false_or]
    exact Ev.bind (has_ev s t hs _ true (hasO_strong t)) (Ev.now _)
  · simp only [if_true, Bool.true_or]; exact Ev.now _
theorem none_ev (s t : ByteArray) (hs : s.size ≤ 1000) : Ev (fun k => cond_None.f k s t) (!(bytesOf s).all isBl && hitsOf (bytesOf s) (bytesOf t) false) := by
  have hb := blank_ev s (by omega)
  rw [blank_all] at hb
  refine Ev.bind hb ?_
  cases (bytesOf s).all isBl
  · simp only [Bool.false_eq_true, if_false, Bool.not_false, Bool.true_and]
    exact Ev.bind (has_ev s t hs _ false (hasO_weak t)) (Ev.now _)
  · simp only [if_true, Bool.not_true, Bool.false_and]; exact Ev.now _
theorem awake46 : Ev (fun k => spencelaw46_awake.f k) true := by
  have h1 := none_ev (⟨#[42]⟩ : ByteArray) (⟨#[97]⟩ : ByteArray) (by decide)
  have h2 := match_ev (⟨#[34, 98, 34, 44, 32, 34, 97, 34]⟩ : ByteArray) (⟨#[97]⟩ : ByteArray) (by decide)
  have h3 := match_ev (⟨#[87, 47, 34, 97, 34]⟩ : ByteArray) (⟨#[97]⟩ : ByteArray) (by decide)
  have e1 : (!(bytesOf (⟨#[42]⟩ : ByteArray)).all isBl && hitsOf (bytesOf (⟨#[42]⟩ : ByteArray)) (bytesOf (⟨#[97]⟩ : ByteArray)) false) = true := by decide
  have e2 : ((bytesOf (⟨#[34, 98, 34, 44, 32, 34, 97, 34]⟩ : ByteArray)).all isBl || hitsOf (bytesOf (⟨#[34, 98, 34, 44, 32, 34, 97, 34]⟩ : ByteArray)) (bytesOf (⟨#[97]⟩ : ByteArray)) true) = true := by decide
  have e3 : ((bytesOf (⟨#[87, 47, 34, 97, 34]⟩ : ByteArray)).all isBl || hitsOf (bytesOf (⟨#[87, 47, 34, 97, 34]⟩ : ByteArray)) (bytesOf (⟨#[97]⟩ : ByteArray)) true) = false := by decide
  rw [e1] at h1
  rw [e2] at h2
  rw [e3] at h3
  refine Ev.bind h1 ?_
  simp only [if_true]
  refine Ev.bind h2 ?_
  simp only [if_true]
  exact Ev.bind h3 (Ev.now _)
end Go.Proofs.Ytahoibanpplhbaa.Pure
namespace Go.Proofs.Ytahoibanpplhbaa.Pure
open Go.RowKit Go.Proofs.Ytahoibanpplhbaa.Xw Go.Proofs.Ytahoibanpplhbaa.PAll Go.Proofs.YtahoibanpplhbaaW.PrintWords Go.Proofs.YtahoibanpplhbaaW.PrintLast Go.Proofs.YtahoibanpplhbaaW.PrintMore
theorem all_trim (l : List Int) (h : l.all isBl = true) : trim l = [] := by
  have := blank_all l
  rw [h] at this
  unfold trim
  rw [of_decide_eq_true this]; rfl
theorem hits_blank (l t : List Int) (b : Bool) (h : l.all isBl = true) : hitsOf l t b = false := by
  have e : condOf l = (false, [], 3) := by unfold condOf; rw [all_trim l h]; rfl
  unfold hitsOf
  rw [e]; rfl
theorem status_ev (m n t : ByteArray) (hm : m.size ≤ 1000) (hn : n.size ≤ 1000) : Ev (fun k => cond_Status.f k m n t)
    (if ((bytesOf m).all isBl || hitsOf (bytesOf m) (bytesOf t) true) = true then (if hitsOf (bytesOf n) (bytesOf t) false = true then 304 else 200) else 412) := by
  refine Ev.bind (match_ev m t hm) ?_
  cases (bytesOf m).all isBl || hitsOf (bytesOf m) (bytesOf t) true
  · simp only [Bool.false_eq_true, if_false]; exact Ev.now _
  · simp only [if_true]
    have h := none_ev n t hn
    have e : (!(bytesOf n).all isBl && hitsOf (bytesOf n) (bytesOf t) false) = hitsOf (bytesOf n) (bytesOf t) false := by
      cases hb : (bytesOf n).all isBl
      · simp
      · rw [hits_blank _ _ _ hb]; rfl
    rw [e] at h
    refine Ev.bind h ?_
    cases hitsOf (bytesOf n) (bytesOf t) false
    · simp only [Bool.false_eq_true, if_false]; exact Ev.now _
    · simp only [if_true]; exact Ev.now _
theorem tells_end (m n t : ByteArray) (hm : m.size ≤ 1000) (hn : n.size ≤ 1000) (x : Bool) (hx : x = ((bytesOf m).all isBl || hitsOf (bytesOf m) (bytesOf t) true)) : Ev (fun k => spencelaw46_CondTells.j2 k m n t x) true := by
  refine Ev.succ ?_
  simp only [spencelaw46_CondTells.j2]
  refine Ev.bind (ref_hits_ev n t hn false) ?_
  have hM := match_ev m t hm
  rw [← hx] at hM
  have hN := none_ev n t hn
  have e : (!(bytesOf n).all isBl && hitsOf (bytesOf n) (bytesOf t) false) = hitsOf (bytesOf n) (bytesOf t) false := by
    cases hb : (bytesOf n).all isBl
    · simp
    · rw [hits_blank _ _ _ hb]; rfl
  rw [e] at hN
  have hS := status_ev m n t hm hn
  rw [← hx] at hS
  cases x
  · simp only [Bool.false_eq_true, if_false] at hS ⊢
    refine Ev.bind hM ?_
    simp only [beq_self_eq_true, if_true]
    refine Ev.bind hN ?_
    simp only [beq_self_eq_true, if_true]
    exact Ev.bind hS (Ev.now _)
  · simp only [if_true] at hS ⊢
    cases hh : hitsOf (bytesOf n) (bytesOf t) false
    · rw [hh] at hN hS
      simp only [Bool.false_eq_true, if_false] at hS ⊢
      refine Ev.bind hM ?_
      simp only [beq_self_eq_true, if_true]
      refine Ev.bind hN ?_
      simp only [beq_self_eq_true, if_true]
      exact Ev.bind hS (Ev.now _)
    · rw [hh] at hN hS
      simp only [if_true] at hS ⊢
      refine Ev.bind hM ?_
      simp only [beq_self_eq_true, if_true]
      refine Ev.bind hN ?_
      simp only [beq_self_eq_true, if_true]
      exact Ev.bind hS (Ev.now _)
theorem tells_loop (m n t : ByteArray) (hm : m.size ≤ 1000) (hn : n.size ≤ 1000) (d : Nat) : ∀ (i : Int) (b : Bool), 0 ≤ i → i ≤ m.size → (m.size : Int) - i = d → b = ((bytesOf m).take i.toNat).all isBl →
    Ev (fun k => spencelaw46_CondTells.l0 k m n t b i) true := by
  induction d with
  | zero =>
    intro i b h0 h1 hd hb
    rw [List.take_of_length_le (by rw [bytesOf_length]; omega)] at hb
    refine Ev.succ ?_
    simp only [spencelaw46_CondTells.l0, show ¬ i < (m.size : Int) by omega, if_false]
    cases b with
    | true => simp only [if_true]; exact tells_end m n t hm hn true (by rw [← hb]; rfl)
    | false =>
      simp only [Bool.false_eq_true, if_false]
      refine Ev.bind (ref_hits_ev m t hm true) ?_
      exact tells_end m n t hm hn _ (by rw [← hb]; rfl)
  | succ d ih =>
    intro i b h0 h1 hd hb
    have hi : i < m.size := by omega
    have hs := take_snoc_b m i h0 hi 0 (by omega)
    rw [List.drop_zero, List.drop_zero] at hs
    have hal : ((bytesOf m).take (i + 1).toNat).all isBl = (b && isBl (bt m i)) := by rw [hs, List.all_append, ← hb]; simp
    have hw : wrap64 (i + 1) = i + 1 := wrap_id (by omega)
    cases b with
    | false =>
      refine Ev.step (fun k => ?_) (ih (i + 1) false (by omega) (by omega) (by omega) (by rw [hal]; rfl))
      simp only [spencelaw46_CondTells.l0, hw]
      rw [if_pos hi, if_neg (by decide)]
    | true =>
      by_cases h32 : bt m i = 32
      · refine Ev.step (fun k => ?_) (ih (i + 1) true (by omega) (by omega) (by omega) (by rw [hal, h32]; rfl))
        simp only [spencelaw46_CondTells.l0, hw]
        rw [if_pos hi, if_pos trivial, if_pos h0, if_pos h32]
      · refine Ev.step (fun k => ?_) (ih (i + 1) (bt m i == 9) (by omega) (by omega) (by omega) (by rw [hal]; unfold isBl; rw [beq_eq_false_iff_ne.mpr h32]; rfl))
        simp only [spencelaw46_CondTells.l0, hw]
        rw [if_pos hi, if_pos trivial, if_pos h0, if_neg h32]
theorem CondTells : spencelaw46_CondTells.Pure := by
  intro m n t _ _ _
  refine Ev.rounds (g := fun k => spencelaw46_CondTells.f k m n t) ?_
  refine Ev.bind awake46 ?_
  simp only [if_true]
  have no : Ev (fun k => spencelaw46_CondTells.j0 k m n t true) true := Ev.pos (fun k => by simp only [spencelaw46_CondTells.j0, if_true])
  by_cases c1 : (m.size : Int) > 400
  · simp only [c1, if_true]; exact no
  by_cases c2 : (n.size : Int) > 400
  · simp only [c1, c2, if_true, if_false]; exact no
  simp only [c1, c2, if_false]
  by_cases c3 : (t.size : Int) > 100
  · rw [decide_eq_true c3]; exact no
  rw [decide_eq_false c3]
  refine Ev.succ ?_
  simp only [spencelaw46_CondTells.j0, Bool.false_eq_true, if_false]
  exact tells_loop m n t (by omega) (by omega) m.size 0 true (by omega) (by omega) (by omega) (by simp)
end Go.Proofs.Ytahoibanpplhbaa.Pure
namespace Go.Proofs.Ytahoibanpplhbaa.condTells
open Go.ChangeShapes Go.WideShapes Go.ChangeAt Go.RowKit Go.Proofs.Ytahoibanpplhbaa.Rd Go.Proofs.Ytahoibanpplhbaa.PAll Go.Proofs.YtahoibanpplhbaaW.PrintWords
open Go.ChangeMaps (open_string shut_string)
set_option linter.unusedVariables false
theorem own : ownKnob Try.prog.godebug = none := by kernel_rfl
set_option maxRecDepth 100000 in
set_option maxHeartbeats 4000000 in
theorem lifted (os : Os) (started : os.Started) (H : Type) (enc : TypeId × Value → H) :
    ReturnsInHanded {} Try.checked os 7 .any (Rows.condTellsSpec.pre6 enc Try.prog Try.f7 Rows.condTellsRow.domain false) (Rows.condTellsSpec.post enc Try.prog Try.f7 false true false false) := by
  refine returnsInHanded_of_change_sized (C := Try.checked) own started (by kernel_rfl) Try.func7
    (ChangeSpec.witness6 (enc := enc) (C := Try.checked) false ⟨#[], #[.string ByteArray.empty, .string ByteArray.empty, .string ByteArray.empty], []⟩ 8 (by kernel_rfl) (by kernel_rfl) (by kernel_rfl) (by kernel_rfl)) ?_
  intro W base args ds gs before hval0 hW hcnd hsz0 _
  have hsz : (DataW.weightsEach Try.prog (Try.f7.params.toList ++ Rows.condTellsSpec.plain.varTypes Try.prog) (ds ++ gs)).all (· ≤ reachBytes) = true := hsz0
  have hval : ∀ (j : Nat) t v, Try.f7.params[j]? = some t → args[j]? = some v → Value.okWide Try.prog W .any base t v := hval0
  have hW' := hW
  obtain ⟨p, q, hA0, hV, rfl, hfz, hnd⟩ := hW
  have hA : DataW.TrodAll enc Try.prog W 0 (fun _ => true) true Try.f7.params.toList args.toList ds p := hA0
  rw [Try.params7] at hA hval hsz
  obtain ⟨v0, vs0, d0, ds0, p0, q0, hargs, rfl, rfl, h0, r0⟩ := trodAll_cons hA
  obtain ⟨v1, vs1, d1, ds1, p1, q1, rfl, rfl, rfl, h1, r1⟩ := trodAll_cons r0
  obtain ⟨v2, vs2, d2, ds2, p2, q2, rfl, rfl, rfl, h2, r2⟩ := trodAll_cons r1
  obtain ⟨rfl, rfl, rfl⟩ := trodAll_nil r2
  obtain rfl : args = #[v0, v1, v2] := by cases args; simp_all
  obtain ⟨rfl, rfl⟩ := trodVars_none hV
  have k0 := h0
  have lt0 : ∀ x ∈ p0, x.block < W.heap.size := by obtain ⟨m, hm⟩ := k0; exact DataW.trod_lt m _ _ _ hm
  have k1 := h1
  have lt1 : ∀ x ∈ p1, x.block < W.heap.size := by obtain ⟨m, hm⟩ := k1; exact DataW.trod_lt m _ _ _ hm
  have k2 := h2
  have lt2 : ∀ x ∈ p2, x.block < W.heap.size := by obtain ⟨m, hm⟩ := k2; exact DataW.trod_lt m _ _ _ hm
  obtain ⟨a0, rfl, rfl, rfl, y0⟩ := open_string Try.underlying9 (hval 0 9 v0 rfl rfl) h0
  have w0 : a0.size ≤ 140737488351232 := by
    have z := sized_string hsz (j := 0) (t := 9) rfl rfl
    rw [Array.length_toList] at z
    exact z
  obtain ⟨a1, rfl, rfl, rfl, y1⟩ := open_string Try.underlying9 (hval 1 9 v1 rfl rfl) h1
  have w1 : a1.size ≤ 140737488351232 := by
    have z := sized_string hsz (j := 1) (t := 9) rfl rfl
    rw [Array.length_toList] at z
    exact z
  obtain ⟨a2, rfl, rfl, rfl, y2⟩ := open_string Try.underlying9 (hval 2 9 v2 rfl rfl) h2
  have w2 : a2.size ≤ 140737488351232 := by
    have z := sized_string hsz (j := 2) (t := 9) rfl rfl
    rw [Array.length_toList] at z
    exact z
  clear hA0 hval0 hsz0 hsz
  obtain ⟨k, hk⟩ := Pure.CondTells a0 a1 a2 w0 w1 w2
  refine (PAll.spencelaw46_CondTells.calls k a0 a1 a2 true W  hk).mono fun e W' ⟨he, hd⟩ => ?_
  have bel : Below W.heap.size W W' := hd
  subst he
  exact ⟨_, rfl, _, _, _, [], _, [], hW', trodAll_mk1 (shut_bool Try.underlying4 _), (trodAll_cons_mk (shut_string Try.underlying9 y0) (trodAll_cons_mk (shut_string Try.underlying9 y1) (trodAll_cons_mk (shut_string Try.underlying9 y2) trodAll_mk0))), rfl, bel.frame _, fun h => by cases h⟩
theorem over : Rows.condTellsRow.holds Try.pinned (OpenSpec.ofChange Rows.condTellsSpec) :=
  OpenClaim.holds_of_wide 7 Try.f7 rfl rfl rfl rfl rfl rfl rfl ⟨rfl, rfl, rfl, rfl, rfl⟩ rfl rfl rfl rfl rfl (by kernel_rfl) Try.func7 (by kernel_rfl)
    (of_decide_eq_true (by kernel_rfl)) (by unfold Func.isWrapper; first | (rw [if_pos (by decide +kernel)]; kernel_rfl) | (rw [if_neg (by decide +kernel)]; exact ⟨rfl, rfl⟩))
    (fun os started H enc _ => lifted os started H enc)
theorem proved : Rows.CondTellsSaid := over
end Go.Proofs.Ytahoibanpplhbaa.condTells
namespace Go.Proofs.Ytahoibanpplhbaa
theorem condTells_holds : Rows.CondTellsSaid := condTells.proved
#print axioms condTells_holds
end Go.Proofs.Ytahoibanpplhbaa
