/- Go functions of this seat as plain functions, and proofs that the code comes to them: written by a program of this session's over the kit's print.py. -/
import Derived.Test.YtfcengffgkmacaaPAllx0
import Derived.Test.YtfcengffgkmacaaPAllx2
import Derived.Test.YtfcengffgkmacaaPAllx3
namespace Go.Proofs.Ytfcengffgkmacaa.PAll
open Go.RowKit Go.Proofs.Ytfcengffgkmacaa.Xw Go.Proofs.YtfcengffgkmacaaW.PrintWords Go.Proofs.YtfcengffgkmacaaW.PrintLast Go.Proofs.YtfcengffgkmacaaW.PrintMore
attribute [local go_sem] max2_int min2_int max_two min_two max_three min_three max_four min_four   -- for this text's walks alone
set_option linter.unusedVariables false
set_option linter.unusedSimpArgs false

/-! ### spencelaw30_VersionTags: function 3 -/
mutual
def spencelaw30_VersionTags.j0 : Nat → Int → Int → Int → Int → ByteArray → Int → Bool → Option (Bool)
  | 0, _, _, _, _, _, _, _ => none
  | k + 1, x0, x1, x2, x3, x4, x5, x26 => if x26 = true then (some true) else ((version_Tag.f k x0 x1).bind fun t131 => ((version_Tag.f k x2 x3).bind fun t132 => (if t131.toList = ([] : List UInt8) then (spencelaw30_VersionTags.j1 k x0 x4 x5 false) else (if t131.toList = t132.toList then (if x0 = x2 then (spencelaw30_VersionTags.j1 k x0 x4 x5 (x1 != x3)) else (spencelaw30_VersionTags.j1 k x0 x4 x5 true)) else (spencelaw30_VersionTags.j1 k x0 x4 x5 false)))))
def spencelaw30_VersionTags.j1 : Nat → Int → ByteArray → Int → Bool → Option (Bool)
  | 0, _, _, _, _ => none
  | k + 1, x0, x4, x5, x49 => if x49 = true then (some false) else ((version_Find.f k x0 x4 x5).bind fun bt133 => (spencelaw30_VersionTags.l0 k x0 x4 x5 bt133.1 bt133.2 0))
def spencelaw30_VersionTags.l0 : Nat → Int → ByteArray → Int → Int → Bool → Int → Option (Bool)
  | 0, _, _, _, _, _, _ => none
  | k + 1, x0, x4, x5, x15, x16, x17 => if x17 ≤ x5 then (if x4.toList = ([] : List UInt8) then (spencelaw30_VersionTags.l0 k x0 x4 x5 x15 x16 (wrap64 (x17 + 1))) else ((spenceref24_Tag.f k x0 x17).bind fun t135 => (if t135.toList = x4.toList then (if x16 = true then (some (x15 == x17)) else (some false)) else (spencelaw30_VersionTags.l0 k x0 x4 x5 x15 x16 (wrap64 (x17 + 1)))))) else (if x16 = true then (some false) else (some (x15 == 0)))
end
def spencelaw30_VersionTags.f (k : Nat) (a0 : Int) (a1 : Int) (a2 : Int) (a3 : Int) (a4 : ByteArray) (a5 : Int) : Option (Bool) := (spencelaw30_awake.f k).bind fun t130 => (if t130 = true then (if (a4.size : Int) > 100 then (spencelaw30_VersionTags.j0 k a0 a1 a2 a3 a4 a5 true) else (spencelaw30_VersionTags.j0 k a0 a1 a2 a3 a4 a5 (decide (a5 > 300)))) else (some false))
theorem spencelaw30_VersionTags.mono_l : ∀ k, (∀ y0 y1 y2 y3 y4 y5 y6, LeO (spencelaw30_VersionTags.j0 k y0 y1 y2 y3 y4 y5 y6) (spencelaw30_VersionTags.j0 (k + 1) y0 y1 y2 y3 y4 y5 y6)) ∧ (∀ y0 y1 y2 y3, LeO (spencelaw30_VersionTags.j1 k y0 y1 y2 y3) (spencelaw30_VersionTags.j1 (k + 1) y0 y1 y2 y3)) ∧ (∀ y0 y1 y2 y3 y4 y5, LeO (spencelaw30_VersionTags.l0 k y0 y1 y2 y3 y4 y5) (spencelaw30_VersionTags.l0 (k + 1) y0 y1 y2 y3 y4 y5))
  | 0 => ⟨fun _ _ _ _ _ _ _ r h => by simp [spencelaw30_VersionTags.j0] at h, fun _ _ _ _ r h => by simp [spencelaw30_VersionTags.j1] at h, fun _ _ _ _ _ _ r h => by simp [spencelaw30_VersionTags.l0] at h⟩
  | k + 1 => by
    obtain ⟨ih0, ih1, ih2⟩ := spencelaw30_VersionTags.mono_l k
    refine ⟨?_, ?_, ?_⟩
    · intro y0 y1 y2 y3 y4 y5 y6
      unfold spencelaw30_VersionTags.j0
      repeat' first
      | (with_reducible exact ih0 _ _ _ _ _ _ _)
      | (with_reducible exact ih1 _ _ _ _)
      | (with_reducible exact ih2 _ _ _ _ _ _)
      | (with_reducible exact spencelaw30_awake.mono _)
      | (with_reducible exact spenceref24_Tag.mono _ _ _)
      | (with_reducible exact version_Find.mono _ _ _ _)
      | (with_reducible exact version_Tag.mono _ _ _)
      | (with_reducible exact LeO.refl _)
      | (with_reducible exact LeO.none _)
      | (with_reducible refine LeO.ite ?_ ?_)
      | (with_reducible refine LeO.bind ?_ (fun _ => ?_))
      | exact ih0 _ _ _ _ _ _ _
      | exact ih1 _ _ _ _
      | exact ih2 _ _ _ _ _ _
      | exact spencelaw30_awake.mono _
      | exact spenceref24_Tag.mono _ _ _
      | exact version_Find.mono _ _ _ _
      | exact version_Tag.mono _ _ _
      | exact LeO.none _
      | refine LeO.ite ?_ ?_
      | refine LeO.bind ?_ (fun _ => ?_)
    · intro y0 y1 y2 y3
      unfold spencelaw30_VersionTags.j1
      repeat' first
      | (with_reducible exact ih0 _ _ _ _ _ _ _)
      | (with_reducible exact ih1 _ _ _ _)
      | (with_reducible exact ih2 _ _ _ _ _ _)
      | (with_reducible exact spencelaw30_awake.mono _)
      | (with_reducible exact spenceref24_Tag.mono _ _ _)
      | (with_reducible exact version_Find.mono _ _ _ _)
      | (with_reducible exact version_Tag.mono _ _ _)
      | (with_reducible exact LeO.refl _)
      | (with_reducible exact LeO.none _)
      | (with_reducible refine LeO.ite ?_ ?_)
      | (with_reducible refine LeO.bind ?_ (fun _ => ?_))
      | exact ih0 _ _ _ _ _ _ _
      | exact ih1 _ _ _ _
      | exact ih2 _ _ _ _ _ _
      | exact spencelaw30_awake.mono _
      | exact spenceref24_Tag.mono _ _ _
      | exact version_Find.mono _ _ _ _
      | exact version_Tag.mono _ _ _
      | exact LeO.none _
      | refine LeO.ite ?_ ?_
      | refine LeO.bind ?_ (fun _ => ?_)
    · intro y0 y1 y2 y3 y4 y5
      unfold spencelaw30_VersionTags.l0
      repeat' first
      | (with_reducible exact ih0 _ _ _ _ _ _ _)
      | (with_reducible exact ih1 _ _ _ _)
      | (with_reducible exact ih2 _ _ _ _ _ _)
      | (with_reducible exact spencelaw30_awake.mono _)
      | (with_reducible exact spenceref24_Tag.mono _ _ _)
      | (with_reducible exact version_Find.mono _ _ _ _)
      | (with_reducible exact version_Tag.mono _ _ _)
      | (with_reducible exact LeO.refl _)
      | (with_reducible exact LeO.none _)
      | (with_reducible refine LeO.ite ?_ ?_)
      | (with_reducible refine LeO.bind ?_ (fun _ => ?_))
      | exact ih0 _ _ _ _ _ _ _
      | exact ih1 _ _ _ _
      | exact ih2 _ _ _ _ _ _
      | exact spencelaw30_awake.mono _
      | exact spenceref24_Tag.mono _ _ _
      | exact version_Find.mono _ _ _ _
      | exact version_Tag.mono _ _ _
      | exact LeO.none _
      | refine LeO.ite ?_ ?_
      | refine LeO.bind ?_ (fun _ => ?_)
theorem spencelaw30_VersionTags.mono : ∀ a0 a1 a2 a3 a4 a5 k, LeO (spencelaw30_VersionTags.f k a0 a1 a2 a3 a4 a5) (spencelaw30_VersionTags.f (k + 1) a0 a1 a2 a3 a4 a5) := by
  intro a0 a1 a2 a3 a4 a5 k
  obtain ⟨ih0, ih1, ih2⟩ := spencelaw30_VersionTags.mono_l k
  unfold spencelaw30_VersionTags.f
  repeat' first
      | (with_reducible exact ih0 _ _ _ _ _ _ _)
      | (with_reducible exact ih1 _ _ _ _)
      | (with_reducible exact ih2 _ _ _ _ _ _)
      | (with_reducible exact spencelaw30_awake.mono _)
      | (with_reducible exact spenceref24_Tag.mono _ _ _)
      | (with_reducible exact version_Find.mono _ _ _ _)
      | (with_reducible exact version_Tag.mono _ _ _)
      | (with_reducible exact LeO.refl _)
      | (with_reducible exact LeO.none _)
      | (with_reducible refine LeO.ite ?_ ?_)
      | (with_reducible refine LeO.bind ?_ (fun _ => ?_))
      | exact ih0 _ _ _ _ _ _ _
      | exact ih1 _ _ _ _
      | exact ih2 _ _ _ _ _ _
      | exact spencelaw30_awake.mono _
      | exact spenceref24_Tag.mono _ _ _
      | exact version_Find.mono _ _ _ _
      | exact version_Tag.mono _ _ _
      | exact LeO.none _
      | refine LeO.ite ?_ ?_
      | refine LeO.bind ?_ (fun _ => ?_)
set_option maxHeartbeats 8000000 in
set_option maxRecDepth 100000 in
theorem spencelaw30_VersionTags.calls (k : Nat) (a0 : Int) (a1 : Int) (a2 : Int) (a3 : Int) (a4 : ByteArray) (a5 : Int) (r : Bool) (w : World) (h : spencelaw30_VersionTags.f k a0 a1 a2 a3 a4 a5 = some r) :
    Calls Try.prog 3 #[.int .i64 a0, .int .i64 a1, .int .i64 a2, .int .i64 a3, .string a4, .int .i64 a5] w fun e w' => e = .returned (.bool r) ∧ Below w.heap.size w w' := by
  have HB := Aside0.mk (Below.refl w.heap.size w)
  have H : ((spencelaw30_awake.f k).bind fun t130 => (if t130 = true then (if (a4.size : Int) > 100 then (spencelaw30_VersionTags.j0 k a0 a1 a2 a3 a4 a5 true) else (spencelaw30_VersionTags.j0 k a0 a1 a2 a3 a4 a5 (decide (a5 > 300)))) else (some false))) = some r := h
  clear h
  replace H := Option.bind_eq_some_iff.mp H
  obtain ⟨t130, A70, H⟩ := H
  replace H : (if t130 = true then (if (a4.size : Int) > 100 then (spencelaw30_VersionTags.j0 k a0 a1 a2 a3 a4 a5 true) else (spencelaw30_VersionTags.j0 k a0 a1 a2 a3 a4 a5 (decide (a5 > 300)))) else (some false)) = some r := H
  have A7 := Aside0.mk A70
  clear A70
  by_cases c8 : t130 = true
  · subst c8
    have H1 : (if (a4.size : Int) > 100 then (spencelaw30_VersionTags.j0 k a0 a1 a2 a3 a4 a5 true) else (spencelaw30_VersionTags.j0 k a0 a1 a2 a3 a4 a5 (decide (a5 > 300)))) = some r := by rw [if_pos rfl] at H; exact H
    clear H
    have H := H1
    clear H1
    have HC9 := Aside0.mk H
    clear H
    go_enter Try.func3, Try.ntmps3
    go_upto_region 3 with (first | ((with_reducible refine gate_callee (f := 11) rfl ?_); refine goesL_ (some 18) rfl rfl Try.func11 (by kernel_rfl) rfl #[] rfl (by (try simp only [List.map_toArray, List.map_cons, List.map_nil]); first | done | rfl | (simp only [List.length_drop, List.length_take]; rfl)) ?_; (with_reducible refine (spencelaw30_awake.calls k  true _ A7.out).mono ?_); rintro e w10 ⟨rfl, hb⟩; refine ⟨_, rfl, ?_⟩; have n0_ := Aside0.mk (below_step (by repeat (first | (with_reducible first | exact HB.out | apply below_alloc | apply pw_below_drewN | apply below_drew1) | exact HB.out)) hb); clear HB; have HB := n0_; clear n0_; (try clear hb); (try clear hb2); (try clear hk); (try clear hi)))
    (try simp only [Act.put, List.setIfInBounds_toArray, List.set_cons_zero, List.set_cons_succ])
    go_cut [26] (fun v26 wc => ∃ (kq : Nat) (x26_8 : Bool), v26 = .bool x26_8 ∧ Aside0 (spencelaw30_VersionTags.j0 kq a0 a1 a2 a3 a4 a5 x26_8 = some r) ∧ Aside0 (kq ≤ k) ∧ Aside0 (Below w.heap.size w wc))
    case first =>
      have H := HC9.out
      clear HC9
      by_cases c11 : (a4.size : Int) > 100
      · rw [if_pos c11] at H
        have c11b0 : decide (100 < (a4.size : Int)) = true := decide_eq_true c11
        have c11b1 : decide (100 < a4.size) = true := decide_eq_true (by omega)
        clear c11
        (first | rw [c11b0] | (simp only [i64_w, i32_w]; rw [c11b0]) | skip)
        have H' := Aside0.mk H
        clear H
        go_wp2
        go_meet
        case rel => exact ⟨_, (true), (by first | rfl | (simp; done) | (simp [*]; done)), H', ⟨by first | omega | exact Nat.le_refl _⟩, ⟨by repeat (first | (with_reducible first | exact HB.out | apply below_alloc | apply pw_below_drewN | apply below_drew1) | exact HB.out)⟩⟩
      · rw [if_neg c11] at H
        have c11b0 : decide (100 < (a4.size : Int)) = false := decide_eq_false c11
        have c11b1 : decide (100 < a4.size) = false := decide_eq_false (by omega)
        clear c11
        (first | rw [c11b0] | (simp only [i64_w, i32_w]; rw [c11b0]) | skip)
        have H' := Aside0.mk H
        clear H
        go_wp2
        go_meet
        case rel => exact ⟨_, (decide (a5 > 300)), (by first | rfl | (simp; done) | (simp [*]; done)), H', ⟨by first | omega | exact Nat.le_refl _⟩, ⟨by repeat (first | (with_reducible first | exact HB.out | apply below_alloc | apply pw_below_drewN | apply below_drew1) | exact HB.out)⟩⟩
    case rest =>
      clear HC9
      try clear c1
      try clear p2
      try clear c3
      try clear c8
      try clear c11
      try clear c11b0
      try clear c11b1
      obtain ⟨kq, x26_8, rfl, HA, HJ8, HB⟩ := hcut
      cases kq with
      | zero => exact absurd HA.out (by simp [spencelaw30_VersionTags.j0])
      | succ kj8 =>
        have H := HA.out
        clear HA
        simp only [spencelaw30_VersionTags.j0] at H
        by_cases c12 : x26_8 = true
        · subst c12
          have H1 : (some true) = some r := by rw [if_pos rfl] at H; exact H
          clear H
          have H := H1
          clear H1
          obtain rfl := Option.some.inj H
          go_wp2
          go_ret
          exact ⟨by first | rfl | exact ne_empty _ | exact eq_empty _ | (simp [errW_none, errW_some] <;> rfl) | (simp [*, errW_none, errW_some] <;> rfl), by repeat (first | (with_reducible first | exact HB.out | apply below_alloc | apply pw_below_drewN | apply below_drew1) | exact HB.out)⟩
        · replace c12 := Bool.eq_false_iff.mpr c12
          subst c12
          have H1 : ((version_Tag.f kj8 a0 a1).bind fun t131 => ((version_Tag.f kj8 a2 a3).bind fun t132 => (if t131.toList = ([] : List UInt8) then (spencelaw30_VersionTags.j1 kj8 a0 a4 a5 false) else (if t131.toList = t132.toList then (if a0 = a2 then (spencelaw30_VersionTags.j1 kj8 a0 a4 a5 (a1 != a3)) else (spencelaw30_VersionTags.j1 kj8 a0 a4 a5 true)) else (spencelaw30_VersionTags.j1 kj8 a0 a4 a5 false))))) = some r := by rw [if_neg (show ¬ (false = true) by decide)] at H; exact H
          clear H
          have H := H1
          clear H1
          replace H := Option.bind_eq_some_iff.mp H
          obtain ⟨t131, A130, H⟩ := H
          replace H : ((version_Tag.f kj8 a2 a3).bind fun t132 => (if t131.toList = ([] : List UInt8) then (spencelaw30_VersionTags.j1 kj8 a0 a4 a5 false) else (if t131.toList = t132.toList then (if a0 = a2 then (spencelaw30_VersionTags.j1 kj8 a0 a4 a5 (a1 != a3)) else (spencelaw30_VersionTags.j1 kj8 a0 a4 a5 true)) else (spencelaw30_VersionTags.j1 kj8 a0 a4 a5 false)))) = some r := H
          have A13 := Aside0.mk A130
          clear A130
          replace H := Option.bind_eq_some_iff.mp H
          obtain ⟨t132, A140, H⟩ := H
          replace H : (if t131.toList = ([] : List UInt8) then (spencelaw30_VersionTags.j1 kj8 a0 a4 a5 false) else (if t131.toList = t132.toList then (if a0 = a2 then (spencelaw30_VersionTags.j1 kj8 a0 a4 a5 (a1 != a3)) else (spencelaw30_VersionTags.j1 kj8 a0 a4 a5 true)) else (spencelaw30_VersionTags.j1 kj8 a0 a4 a5 false))) = some r := H
          have A14 := Aside0.mk A140
          clear A140
          have HC15 := Aside0.mk H
          clear H
          go_upto_region 6 with (first | ((with_reducible refine gate_callee (f := 12) rfl ?_); refine goesL_ (some 29) rfl rfl Try.func12 (by kernel_rfl) rfl #[.int .i64 a0, .int .i64 a1] rfl (by (try simp only [List.map_toArray, List.map_cons, List.map_nil]); first | done | rfl | (simp only [List.length_drop, List.length_take]; rfl)) ?_; (with_reducible refine (version_Tag.calls kj8 a0 a1 t131 _ A13.out).mono ?_); rintro e w16 ⟨rfl, hb⟩; refine ⟨_, rfl, ?_⟩; have n0_ := Aside0.mk (below_step (by repeat (first | (with_reducible first | exact HB.out | apply below_alloc | apply pw_below_drewN | apply below_drew1) | exact HB.out)) hb); clear HB; have HB := n0_; clear n0_; (try clear hb); (try clear hb2); (try clear hk); (try clear hi)) | ((with_reducible refine gate_callee (f := 12) rfl ?_); refine goesL_ (some 32) rfl rfl Try.func12 (by kernel_rfl) rfl #[.int .i64 a2, .int .i64 a3] rfl (by (try simp only [List.map_toArray, List.map_cons, List.map_nil]); first | done | rfl | (simp only [List.length_drop, List.length_take]; rfl)) ?_; (with_reducible refine (version_Tag.calls kj8 a2 a3 t132 _ A14.out).mono ?_); rintro e w17 ⟨rfl, hb⟩; refine ⟨_, rfl, ?_⟩; have n0_ := Aside0.mk (below_step (by repeat (first | (with_reducible first | exact HB.out | apply below_alloc | apply pw_below_drewN | apply below_drew1) | exact HB.out)) hb); clear HB; have HB := n0_; clear n0_; (try clear hb); (try clear hb2); (try clear hk); (try clear hi)))
          (try simp only [Act.put, List.setIfInBounds_toArray, List.set_cons_zero, List.set_cons_succ])
          go_cut [49] (fun v49 wc => ∃ (kq : Nat) (x49_14 : Bool), v49 = .bool x49_14 ∧ Aside0 (spencelaw30_VersionTags.j1 kq a0 a4 a5 x49_14 = some r) ∧ Aside0 (kq ≤ kj8) ∧ Aside0 (Below w.heap.size w wc))
          case first =>
            have H := HC15.out
            clear HC15
            by_cases c18 : t131.toList = ([] : List UInt8)
            · rw [if_pos c18] at H
              have c18b0 : (t131.toList == ([] : List UInt8)) = true := beq_iff_eq.mpr c18
              have c18b1 : (t131.toList != ([] : List UInt8)) = false := bne_eq_false_iff_eq.mpr c18
              clear c18
              (first | rw [c18b0] | (simp only [i64_w, i32_w]; rw [c18b0]) | skip)
              have H' := Aside0.mk H
              clear H
              go_wp2
              go_meet
              case rel => exact ⟨_, (false), (by first | rfl | (simp; done) | (simp [*]; done)), H', ⟨by have := HJ8.out; first | omega | exact Nat.le_refl _⟩, ⟨by repeat (first | (with_reducible first | exact HB.out | apply below_alloc | apply pw_below_drewN | apply below_drew1) | exact HB.out)⟩⟩
            · rw [if_neg c18] at H
              have c18b0 : (t131.toList == ([] : List UInt8)) = false := beq_eq_false_iff_ne.mpr c18
              have c18b1 : (t131.toList != ([] : List UInt8)) = true := bne_iff_ne.mpr c18
              (first | rw [c18b0] | (simp only [i64_w, i32_w]; rw [c18b0]) | skip)
              by_cases c19 : t131.toList = t132.toList
              · rw [if_pos c19] at H
                have c19b0 : (t131.toList == t132.toList) = true := beq_iff_eq.mpr c19
                have c19b1 : (t131.toList != t132.toList) = false := bne_eq_false_iff_eq.mpr c19
                clear c19
                by_cases c20 : a0 = a2
                · rw [if_pos c20] at H
                  have c20b0 : (a0 == a2) = true := beq_iff_eq.mpr c20
                  have c20b1 : (a0 != a2) = false := bne_eq_false_iff_eq.mpr c20
                  clear c20
                  have H' := Aside0.mk H
                  clear H
                  go_wp2
                  go_meet
                  case rel => exact ⟨_, ((a1 != a3)), (by first | rfl | (simp; done) | (simp [*]; done)), H', ⟨by have := HJ8.out; first | omega | exact Nat.le_refl _⟩, ⟨by repeat (first | (with_reducible first | exact HB.out | apply below_alloc | apply pw_below_drewN | apply below_drew1) | exact HB.out)⟩⟩
                · rw [if_neg c20] at H
                  have c20b0 : (a0 == a2) = false := beq_eq_false_iff_ne.mpr c20
                  have c20b1 : (a0 != a2) = true := bne_iff_ne.mpr c20
                  have H' := Aside0.mk H
                  clear H
                  go_wp2
                  go_meet
                  case rel => exact ⟨_, (true), (by first | rfl | (simp; done) | (simp [*]; done)), H', ⟨by have := HJ8.out; first | omega | exact Nat.le_refl _⟩, ⟨by repeat (first | (with_reducible first | exact HB.out | apply below_alloc | apply pw_below_drewN | apply below_drew1) | exact HB.out)⟩⟩
              · rw [if_neg c19] at H
                have c19b0 : (t131.toList == t132.toList) = false := beq_eq_false_iff_ne.mpr c19
                have c19b1 : (t131.toList != t132.toList) = true := bne_iff_ne.mpr c19
                have H' := Aside0.mk H
                clear H
                go_wp2
                go_meet
                case rel => exact ⟨_, (false), (by first | rfl | (simp; done) | (simp [*]; done)), H', ⟨by have := HJ8.out; first | omega | exact Nat.le_refl _⟩, ⟨by repeat (first | (with_reducible first | exact HB.out | apply below_alloc | apply pw_below_drewN | apply below_drew1) | exact HB.out)⟩⟩
          case rest =>
            clear HC15
            try clear c1
            try clear c2
            try clear p2
            try clear c3
            try clear c8
            try clear c11
            try clear c11b0
            try clear c11b1
            try clear c12
            try clear c18
            try clear c18b0
            try clear c18b1
            try clear c19
            try clear c19b0
            try clear c19b1
            try clear c20
            try clear c20b0
            try clear c20b1
            try clear p2
            obtain ⟨kq, x49_14, rfl, HA, HJ14, HB⟩ := hcut
            cases kq with
            | zero => exact absurd HA.out (by simp [spencelaw30_VersionTags.j1])
            | succ kj14 =>
              have H := HA.out
              clear HA
              simp only [spencelaw30_VersionTags.j1] at H
              by_cases c21 : x49_14 = true
              · subst c21
                have H1 : (some false) = some r := by rw [if_pos rfl] at H; exact H
                clear H
                have H := H1
                clear H1
                obtain rfl := Option.some.inj H
                go_wp2
                go_ret
                exact ⟨by first | rfl | exact ne_empty _ | exact eq_empty _ | (simp [errW_none, errW_some] <;> rfl) | (simp [*, errW_none, errW_some] <;> rfl), by repeat (first | (with_reducible first | exact HB.out | apply below_alloc | apply pw_below_drewN | apply below_drew1) | exact HB.out)⟩
              · replace c21 := Bool.eq_false_iff.mpr c21
                subst c21
                have H1 : ((version_Find.f kj14 a0 a4 a5).bind fun bt133 => (spencelaw30_VersionTags.l0 kj14 a0 a4 a5 bt133.1 bt133.2 0)) = some r := by rw [if_neg (show ¬ (false = true) by decide)] at H; exact H
                clear H
                have H := H1
                clear H1
                replace H := Option.bind_eq_some_iff.mp H
                obtain ⟨⟨t133, t134⟩, A220, H⟩ := H
                replace H : (spencelaw30_VersionTags.l0 kj14 a0 a4 a5 t133 t134 0) = some r := H
                have A22 := Aside0.mk A220
                clear A220
                have H' := Aside0.mk H
                clear H
                go_wp2_with (first | ((with_reducible refine gate_callee (f := 13) rfl ?_); refine goesL_ (some 54) rfl rfl Try.func13 (by kernel_rfl) rfl #[.int .i64 a0, .string a4, .int .i64 a5] rfl (by (try simp only [List.map_toArray, List.map_cons, List.map_nil]); first | done | rfl | (simp only [List.length_drop, List.length_take]; rfl)) ?_; (with_reducible refine (version_Find.calls kj14 a0 a4 a5 t133 t134 _ A22.out).mono ?_); rintro e w23 ⟨rfl, hb⟩; refine ⟨_, rfl, ?_⟩; have n0_ := Aside0.mk (below_step (by repeat (first | (with_reducible first | exact HB.out | apply below_alloc | apply pw_below_drewN | apply below_drew1) | exact HB.out)) hb); clear HB; have HB := n0_; clear n0_; (try clear hb); (try clear hb2); (try clear hk); (try clear hi)))
                go_loopg [17] kj14 (fun kq v17 w' => ∃ (x17_3 : Int), v17 = .int .i64 x17_3 ∧ Aside0 (spencelaw30_VersionTags.l0 kq a0 a4 a5 t133 t134 x17_3 = some r) ∧ Aside0 (kq ≤ kj14) ∧ Aside0 (Below w.heap.size w w'))
                case atStart => exact ⟨(0), (by first | rfl | (simp; done) | (simp [*]; done)), H', ⟨Nat.le_refl _⟩, ⟨by repeat (first | (with_reducible first | exact HB.out | apply below_alloc | apply pw_below_drewN | apply below_drew1) | exact HB.out)⟩⟩
                case round =>
                  clear H'
                  try clear c1
                  try clear c2
                  try clear p2
                  try clear c3
                  try clear c8
                  try clear c11
                  try clear c11b0
                  try clear c11b1
                  try clear c12
                  try clear c13
                  try clear c18
                  try clear c18b0
                  try clear c18b1
                  try clear c19
                  try clear c19b0
                  try clear c19b1
                  try clear c20
                  try clear c20b0
                  try clear c20b1
                  try clear c21
                  try clear p2
                  obtain ⟨x17_3, rfl, HA, HK3, HB⟩ := hrel
                  cases gk with
                  | zero => exact absurd HA.out (by simp [spencelaw30_VersionTags.l0])
                  | succ k3 =>
                    have H := HA.out
                    clear HA
                    simp only [spencelaw30_VersionTags.l0] at H
                    by_cases c24 : x17_3 ≤ a5
                    · rw [if_pos c24] at H
                      have c24b0 : decide (x17_3 ≤ a5) = true := decide_eq_true c24
                      clear c24
                      by_cases c25 : a4.toList = ([] : List UInt8)
                      · rw [if_pos c25] at H
                        have c25b0 : (a4.toList == ([] : List UInt8)) = true := beq_iff_eq.mpr c25
                        have c25b1 : (a4.toList != ([] : List UInt8)) = false := bne_eq_false_iff_eq.mpr c25
                        clear c25
                        have H' := Aside0.mk H
                        clear H
                        go_wp2
                        go_roundg k3
                        case measure => have := HJ8.out; have := HJ14.out; have := HK3.out; omega
                        case rel => exact ⟨(wrap64 (x17_3 + 1)), (by first | rfl | (simp; done) | (simp [*]; done)), H', ⟨by have := HJ8.out; have := HJ14.out; have := HK3.out; omega⟩, ⟨by repeat (first | (with_reducible first | exact HB.out | apply below_alloc | apply pw_below_drewN | apply below_drew1) | exact HB.out)⟩⟩
                      · rw [if_neg c25] at H
                        have c25b0 : (a4.toList == ([] : List UInt8)) = false := beq_eq_false_iff_ne.mpr c25
                        have c25b1 : (a4.toList != ([] : List UInt8)) = true := bne_iff_ne.mpr c25
                        replace H := Option.bind_eq_some_iff.mp H
                        obtain ⟨t135, A260, H⟩ := H
                        replace H : (if t135.toList = a4.toList then (if t134 = true then (some (t133 == x17_3)) else (some false)) else (spencelaw30_VersionTags.l0 k3 a0 a4 a5 t133 t134 (wrap64 (x17_3 + 1)))) = some r := H
                        have A26 := Aside0.mk A260
                        clear A260
                        by_cases c27 : t135.toList = a4.toList
                        · rw [if_pos c27] at H
                          have c27b0 : (t135.toList == a4.toList) = true := beq_iff_eq.mpr c27
                          have c27b1 : (t135.toList != a4.toList) = false := bne_eq_false_iff_eq.mpr c27
                          clear c27
                          by_cases c28 : t134 = true
                          · subst c28
                            have H1 : (some (t133 == x17_3)) = some r := by rw [if_pos rfl] at H; exact H
                            clear H
                            have H := H1
                            clear H1
                            obtain rfl := Option.some.inj H
                            go_wp2_with (first | (go_at_call 14; (with_reducible refine (spenceref24_Tag.calls k3 a0 x17_3 t135 _ A26.out).mono ?_); rintro e w29 ⟨rfl, hb⟩; have n0_ := Aside0.mk (below_step (by repeat (first | (with_reducible first | exact HB.out | apply below_alloc | apply pw_below_drewN | apply below_drew1) | exact HB.out)) hb); clear HB; have HB := n0_; clear n0_; (try clear hb); (try clear hb2); (try clear hk); (try clear hi)))
                            go_ret
                            exact ⟨by first | rfl | exact ne_empty _ | exact eq_empty _ | (simp [errW_none, errW_some] <;> rfl) | (simp [*, errW_none, errW_some] <;> rfl), by repeat (first | (with_reducible first | exact HB.out | apply below_alloc | apply pw_below_drewN | apply below_drew1) | exact HB.out)⟩
                          · replace c28 := Bool.eq_false_iff.mpr c28
                            subst c28
                            have H1 : (some false) = some r := by rw [if_neg (show ¬ (false = true) by decide)] at H; exact H
                            clear H
                            have H := H1
                            clear H1
                            obtain rfl := Option.some.inj H
                            go_wp2_with (first | (go_at_call 14; (with_reducible refine (spenceref24_Tag.calls k3 a0 x17_3 t135 _ A26.out).mono ?_); rintro e w30 ⟨rfl, hb⟩; have n0_ := Aside0.mk (below_step (by repeat (first | (with_reducible first | exact HB.out | apply below_alloc | apply pw_below_drewN | apply below_drew1) | exact HB.out)) hb); clear HB; have HB := n0_; clear n0_; (try clear hb); (try clear hb2); (try clear hk); (try clear hi)))
                            go_ret
                            exact ⟨by first | rfl | exact ne_empty _ | exact eq_empty _ | (simp [errW_none, errW_some] <;> rfl) | (simp [*, errW_none, errW_some] <;> rfl), by repeat (first | (with_reducible first | exact HB.out | apply below_alloc | apply pw_below_drewN | apply below_drew1) | exact HB.out)⟩
                        · rw [if_neg c27] at H
                          have c27b0 : (t135.toList == a4.toList) = false := beq_eq_false_iff_ne.mpr c27
                          have c27b1 : (t135.toList != a4.toList) = true := bne_iff_ne.mpr c27
                          have H' := Aside0.mk H
                          clear H
                          go_wp2_with (first | (go_at_call 14; (with_reducible refine (spenceref24_Tag.calls k3 a0 x17_3 t135 _ A26.out).mono ?_); rintro e w31 ⟨rfl, hb⟩; have n0_ := Aside0.mk (below_step (by repeat (first | (with_reducible first | exact HB.out | apply below_alloc | apply pw_below_drewN | apply below_drew1) | exact HB.out)) hb); clear HB; have HB := n0_; clear n0_; (try clear hb); (try clear hb2); (try clear hk); (try clear hi)))
                          go_roundg k3
                          case measure => have := HJ8.out; have := HJ14.out; have := HK3.out; omega
                          case rel => exact ⟨(wrap64 (x17_3 + 1)), (by first | rfl | (simp; done) | (simp [*]; done)), H', ⟨by have := HJ8.out; have := HJ14.out; have := HK3.out; omega⟩, ⟨by repeat (first | (with_reducible first | exact HB.out | apply below_alloc | apply pw_below_drewN | apply below_drew1) | exact HB.out)⟩⟩
                    · rw [if_neg c24] at H
                      have c24b0 : decide (x17_3 ≤ a5) = false := decide_eq_false c24
                      clear c24
                      by_cases c32 : t134 = true
                      · subst c32
                        have H1 : (some false) = some r := by rw [if_pos rfl] at H; exact H
                        clear H
                        have H := H1
                        clear H1
                        obtain rfl := Option.some.inj H
                        go_wp2
                        go_ret
                        exact ⟨by first | rfl | exact ne_empty _ | exact eq_empty _ | (simp [errW_none, errW_some] <;> rfl) | (simp [*, errW_none, errW_some] <;> rfl), by repeat (first | (with_reducible first | exact HB.out | apply below_alloc | apply pw_below_drewN | apply below_drew1) | exact HB.out)⟩
                      · replace c32 := Bool.eq_false_iff.mpr c32
                        subst c32
                        have H1 : (some (t133 == 0)) = some r := by rw [if_neg (show ¬ (false = true) by decide)] at H; exact H
                        clear H
                        have H := H1
                        clear H1
                        obtain rfl := Option.some.inj H
                        go_wp2
                        go_ret
                        exact ⟨by first | rfl | exact ne_empty _ | exact eq_empty _ | (simp [errW_none, errW_some] <;> rfl) | (simp [*, errW_none, errW_some] <;> rfl), by repeat (first | (with_reducible first | exact HB.out | apply below_alloc | apply pw_below_drewN | apply below_drew1) | exact HB.out)⟩
  · replace c8 := Bool.eq_false_iff.mpr c8
    subst c8
    have H1 : (some false) = some r := by rw [if_neg (show ¬ (false = true) by decide)] at H; exact H
    clear H
    have H := H1
    clear H1
    obtain rfl := Option.some.inj H
    go_enter Try.func3, Try.ntmps3
    go_wp2_with (first | ((with_reducible refine gate_callee (f := 11) rfl ?_); refine goesL_ (some 18) rfl rfl Try.func11 (by kernel_rfl) rfl #[] rfl (by (try simp only [List.map_toArray, List.map_cons, List.map_nil]); first | done | rfl | (simp only [List.length_drop, List.length_take]; rfl)) ?_; (with_reducible refine (spencelaw30_awake.calls k  false _ A7.out).mono ?_); rintro e w33 ⟨rfl, hb⟩; refine ⟨_, rfl, ?_⟩; have n0_ := Aside0.mk (below_step (by repeat (first | (with_reducible first | exact HB.out | apply below_alloc | apply pw_below_drewN | apply below_drew1) | exact HB.out)) hb); clear HB; have HB := n0_; clear n0_; (try clear hb); (try clear hb2); (try clear hk); (try clear hi)))
    go_ret
    exact ⟨by first | rfl | exact ne_empty _ | exact eq_empty _ | (simp [errW_none, errW_some] <;> rfl) | (simp [*, errW_none, errW_some] <;> rfl), by repeat (first | (with_reducible first | exact HB.out | apply below_alloc | apply pw_below_drewN | apply below_drew1) | exact HB.out)⟩

/-- THE ONE PURE STATEMENT of spencelaw30_VersionTags. -/
def spencelaw30_VersionTags.Pure : Prop := ∀ (a0 : Int) (a1 : Int) (a2 : Int) (a3 : Int) (a4 : ByteArray) (a5 : Int), (Lit.int .i64 a0).wf = true → (Lit.int .i64 a1).wf = true → (Lit.int .i64 a2).wf = true → (Lit.int .i64 a3).wf = true → a4.size ≤ 140737488351232 → (Lit.int .i64 a5).wf = true → ∃ k, spencelaw30_VersionTags.f k a0 a1 a2 a3 a4 a5 = some true

/-! ### version_Byte: function 17 -/
def version_Byte.f (a0 : Int) (a1 : Int) (a2 : Int) : Option (Int) := (version_Length.f a0 a1).bind fun t136 => ((nums_Fits.f a2 0 (wrap64 (t136 - 1))).bind fun t137 => (if t137 = true then (some ((wrap64 ((wrap64 ((wrap64 ((wrap64 (7 * a0)) + (wrap64 (13 * a1)))) + a2)) + (wrap64 (Int.tdiv (wrap64 (a2 * a2)) 3)))) % 256)) else (some 0)))
set_option maxHeartbeats 8000000 in
set_option maxRecDepth 100000 in
theorem version_Byte.calls (a0 : Int) (a1 : Int) (a2 : Int) (r : Int) (w : World) (h : version_Byte.f a0 a1 a2 = some r) :
    Calls Try.prog 17 #[.int .i64 a0, .int .i64 a1, .int .i64 a2] w fun e w' => e = .returned (.int .u8 r) ∧ Drawn0 w w' := by
  have H : ((version_Length.f a0 a1).bind fun t136 => ((nums_Fits.f a2 0 (wrap64 (t136 - 1))).bind fun t137 => (if t137 = true then (some ((wrap64 ((wrap64 ((wrap64 ((wrap64 (7 * a0)) + (wrap64 (13 * a1)))) + a2)) + (wrap64 (Int.tdiv (wrap64 (a2 * a2)) 3)))) % 256)) else (some 0)))) = some r := h
  clear h
  replace H := Option.bind_eq_some_iff.mp H
  obtain ⟨t136, A40, H⟩ := H
  replace H : ((nums_Fits.f a2 0 (wrap64 (t136 - 1))).bind fun t137 => (if t137 = true then (some ((wrap64 ((wrap64 ((wrap64 ((wrap64 (7 * a0)) + (wrap64 (13 * a1)))) + a2)) + (wrap64 (Int.tdiv (wrap64 (a2 * a2)) 3)))) % 256)) else (some 0))) = some r := H
  have A4 := Aside0.mk A40
  clear A40
  replace H := Option.bind_eq_some_iff.mp H
  obtain ⟨t137, A50, H⟩ := H
  replace H : (if t137 = true then (some ((wrap64 ((wrap64 ((wrap64 ((wrap64 (7 * a0)) + (wrap64 (13 * a1)))) + a2)) + (wrap64 (Int.tdiv (wrap64 (a2 * a2)) 3)))) % 256)) else (some 0)) = some r := H
  have A5 := Aside0.mk A50
  clear A50
  by_cases c6 : t137 = true
  · subst c6
    have H1 : (some ((wrap64 ((wrap64 ((wrap64 ((wrap64 (7 * a0)) + (wrap64 (13 * a1)))) + a2)) + (wrap64 (Int.tdiv (wrap64 (a2 * a2)) 3)))) % 256)) = some r := by rw [if_pos rfl] at H; exact H
    clear H
    have H := H1
    clear H1
    obtain rfl := Option.some.inj H
    go_enter Try.func17, Try.ntmps17
    go_wp2_with (first | ((with_reducible refine gate_callee (f := 16) rfl ?_); refine goesL_ (some 10) rfl rfl Try.func16 (by kernel_rfl) rfl #[.int .i64 a0, .int .i64 a1] rfl (by (try simp only [List.map_toArray, List.map_cons, List.map_nil]); first | done | rfl | (simp only [List.length_drop, List.length_take]; rfl)) ?_; (with_reducible refine (version_Length.calls a0 a1 t136 _ A4.out).mono ?_); rintro e w' ⟨rfl, ⟨nd, rfl⟩⟩; refine ⟨_, rfl, ?_⟩) | ((with_reducible refine gate_callee (f := 49) rfl ?_); refine goesL_ (some 12) rfl rfl Try.func49 (by kernel_rfl) rfl #[.int .i64 a2, .int .i64 0, .int .i64 (wrap64 (t136 - 1))] rfl (by (try simp only [List.map_toArray, List.map_cons, List.map_nil]); first | done | rfl | (simp only [List.length_drop, List.length_take]; rfl)) ?_; (with_reducible refine (nums_Fits.calls a2 0 (wrap64 (t136 - 1)) true _ A5.out).mono ?_); rintro e w' ⟨rfl, ⟨nd, rfl⟩⟩; refine ⟨_, rfl, ?_⟩))
    go_ret
    exact ⟨by first | rfl | (simp; done) | (simp [*]; done) | exact ne_empty _ | exact eq_empty _, by repeat (first | exact Drawn0.refl _ | apply Drawn0.step)⟩
  · replace c6 := Bool.eq_false_iff.mpr c6
    subst c6
    have H1 : (some 0) = some r := by rw [if_neg (show ¬ (false = true) by decide)] at H; exact H
    clear H
    have H := H1
    clear H1
    obtain rfl := Option.some.inj H
    go_enter Try.func17, Try.ntmps17
    go_wp2_with (first | ((with_reducible refine gate_callee (f := 16) rfl ?_); refine goesL_ (some 10) rfl rfl Try.func16 (by kernel_rfl) rfl #[.int .i64 a0, .int .i64 a1] rfl (by (try simp only [List.map_toArray, List.map_cons, List.map_nil]); first | done | rfl | (simp only [List.length_drop, List.length_take]; rfl)) ?_; (with_reducible refine (version_Length.calls a0 a1 t136 _ A4.out).mono ?_); rintro e w' ⟨rfl, ⟨nd, rfl⟩⟩; refine ⟨_, rfl, ?_⟩) | ((with_reducible refine gate_callee (f := 49) rfl ?_); refine goesL_ (some 12) rfl rfl Try.func49 (by kernel_rfl) rfl #[.int .i64 a2, .int .i64 0, .int .i64 (wrap64 (t136 - 1))] rfl (by (try simp only [List.map_toArray, List.map_cons, List.map_nil]); first | done | rfl | (simp only [List.length_drop, List.length_take]; rfl)) ?_; (with_reducible refine (nums_Fits.calls a2 0 (wrap64 (t136 - 1)) false _ A5.out).mono ?_); rintro e w' ⟨rfl, ⟨nd, rfl⟩⟩; refine ⟨_, rfl, ?_⟩))
    go_ret
    exact ⟨by first | rfl | (simp; done) | (simp [*]; done) | exact ne_empty _ | exact eq_empty _, by repeat (first | exact Drawn0.refl _ | apply Drawn0.step)⟩

/-! ### spenceref24_Byte: function 18 -/
def spenceref24_Byte.f (a0 : Int) (a1 : Int) (a2 : Int) : Option (Int) := if a2 < 0 then (some 0) else ((spenceref24_Length.f a0 a1).bind fun t138 => (if a2 ≥ t138 then (some 0) else (some ((Int.tmod (wrap64 ((wrap64 ((wrap64 ((wrap64 (a0 * 7)) + (wrap64 (a1 * 13)))) + a2)) + (wrap64 (Int.tdiv (wrap64 (a2 * a2)) 3)))) 256) % 256))))
set_option maxHeartbeats 8000000 in
set_option maxRecDepth 100000 in
theorem spenceref24_Byte.calls (a0 : Int) (a1 : Int) (a2 : Int) (r : Int) (w : World) (h : spenceref24_Byte.f a0 a1 a2 = some r) :
    Calls Try.prog 18 #[.int .i64 a0, .int .i64 a1, .int .i64 a2] w fun e w' => e = .returned (.int .u8 r) ∧ Drawn0 w w' := by
  have H : (if a2 < 0 then (some 0) else ((spenceref24_Length.f a0 a1).bind fun t138 => (if a2 ≥ t138 then (some 0) else (some ((Int.tmod (wrap64 ((wrap64 ((wrap64 ((wrap64 (a0 * 7)) + (wrap64 (a1 * 13)))) + a2)) + (wrap64 (Int.tdiv (wrap64 (a2 * a2)) 3)))) 256) % 256))))) = some r := h
  clear h
  by_cases c4 : a2 < 0
  · rw [if_pos c4] at H
    have c4b0 : decide (a2 < 0) = true := decide_eq_true c4
    clear c4
    obtain rfl := Option.some.inj H
    go_enter Try.func18, Try.ntmps18
    go_wp2
    go_ret
    exact ⟨by first | rfl | (simp; done) | (simp [*]; done) | exact ne_empty _ | exact eq_empty _, by repeat (first | exact Drawn0.refl _ | apply Drawn0.step)⟩
  · rw [if_neg c4] at H
    have c4b0 : decide (a2 < 0) = false := decide_eq_false c4
    clear c4
    replace H := Option.bind_eq_some_iff.mp H
    obtain ⟨t138, A50, H⟩ := H
    replace H : (if a2 ≥ t138 then (some 0) else (some ((Int.tmod (wrap64 ((wrap64 ((wrap64 ((wrap64 (a0 * 7)) + (wrap64 (a1 * 13)))) + a2)) + (wrap64 (Int.tdiv (wrap64 (a2 * a2)) 3)))) 256) % 256))) = some r := H
    have A5 := Aside0.mk A50
    clear A50
    by_cases c6 : a2 ≥ t138
    · rw [if_pos c6] at H
      have c6b0 : decide (t138 ≤ a2) = true := decide_eq_true c6
      clear c6
      obtain rfl := Option.some.inj H
      go_enter Try.func18, Try.ntmps18
      go_wp2_with (first | (go_at_call 15; (with_reducible refine (spenceref24_Length.calls a0 a1 t138 _ A5.out).mono ?_); rintro e w' ⟨rfl, ⟨nd, rfl⟩⟩))
      go_ret
      exact ⟨by first | rfl | (simp; done) | (simp [*]; done) | exact ne_empty _ | exact eq_empty _, by repeat (first | exact Drawn0.refl _ | apply Drawn0.step)⟩
    · rw [if_neg c6] at H
      have c6b0 : decide (t138 ≤ a2) = false := decide_eq_false c6
      clear c6
      obtain rfl := Option.some.inj H
      go_enter Try.func18, Try.ntmps18
      go_wp2_with (first | (go_at_call 15; (with_reducible refine (spenceref24_Length.calls a0 a1 t138 _ A5.out).mono ?_); rintro e w' ⟨rfl, ⟨nd, rfl⟩⟩))
      go_ret
      exact ⟨by first | rfl | (simp; done) | (simp [*]; done) | exact ne_empty _ | exact eq_empty _, by repeat (first | exact Drawn0.refl _ | apply Drawn0.step)⟩

end Go.Proofs.Ytfcengffgkmacaa.PAll
