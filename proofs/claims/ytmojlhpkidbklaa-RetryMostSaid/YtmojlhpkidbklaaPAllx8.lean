/- Go functions of this seat as plain functions, and proofs that the code comes to them: written by a program of this session's over the kit's print.py. -/
import Derived.Test.YtmojlhpkidbklaaPAllx0
import Derived.Test.YtmojlhpkidbklaaPAllx4
import Derived.Test.YtmojlhpkidbklaaPAllx6
import Derived.Test.YtmojlhpkidbklaaPAllx7
namespace Go.Proofs.Ytmojlhpkidbklaa.PAll
open Go.RowKit Go.Proofs.Ytmojlhpkidbklaa.Xw Go.Proofs.YtmojlhpkidbklaaW.PrintWords Go.Proofs.YtmojlhpkidbklaaW.PrintLast Go.Proofs.YtmojlhpkidbklaaW.PrintMore
attribute [local go_sem] max2_int min2_int max_two min_two max_three min_three max_four min_four   -- for this text's walks alone
set_option linter.unusedVariables false
set_option linter.unusedSimpArgs false

/-! ### spencelaw10_CutsWhole: function 5 -/
mutual
def spencelaw10_CutsWhole.l0 : Nat → Int → Int → Int → Int → Int → Int → Option (Bool)
  | 0, _, _, _, _, _, _ => none
  | k + 1, x0, x1, x2, x7, x8, x9 => (cuts_Count.f x0 x1).bind fun t204 => (if x9 < t204 then (spencelaw10_CutsWhole.j1 k x0 x1 x2 x7 x8 x9 (decide (x9 ≤ x0))) else (spencelaw10_CutsWhole.j1 k x0 x1 x2 x7 x8 x9 false))
def spencelaw10_CutsWhole.j1 : Nat → Int → Int → Int → Int → Int → Int → Bool → Option (Bool)
  | 0, _, _, _, _, _, _, _ => none
  | k + 1, x0, x1, x2, x7, x8, x9, x37 => if x37 = true then ((cuts_Bounds.f x9 x0 x1).bind fun bt205 => (if bt205.2.2 = true then (if bt205.1 = x7 then (if bt205.2.1 ≤ bt205.1 then (spencelaw10_CutsWhole.j2 k x0 x1 x2 x8 x9 true bt205.1 bt205.2.1) else (spencelaw10_CutsWhole.j2 k x0 x1 x2 x8 x9 (decide ((wrap64 (bt205.2.1 - bt205.1)) > x1)) bt205.1 bt205.2.1)) else (spencelaw10_CutsWhole.j2 k x0 x1 x2 x8 x9 true bt205.1 bt205.2.1)) else (spencelaw10_CutsWhole.j2 k x0 x1 x2 x8 x9 true bt205.1 bt205.2.1))) else (if x7 = x0 then (if x2 ≥ 0 then (if ((x8 == 1) == (decide (x2 < x0))) = true then (some (decide (x8 ≤ 1))) else (some false)) else (if ((x8 == 1) == false) = true then (some (decide (x8 ≤ 1))) else (some false))) else (some false))
def spencelaw10_CutsWhole.j2 : Nat → Int → Int → Int → Int → Int → Bool → Int → Int → Option (Bool)
  | 0, _, _, _, _, _, _, _, _ => none
  | k + 1, x0, x1, x2, x8, x9, x70, x209000, x209001 => if x70 = true then (some false) else (if x2 ≥ x209000 then (if x2 < x209001 then (spencelaw10_CutsWhole.l0 k x0 x1 x2 x209001 (wrap64 (x8 + 1)) (wrap64 (x9 + 1))) else (spencelaw10_CutsWhole.l0 k x0 x1 x2 x209001 x8 (wrap64 (x9 + 1)))) else (spencelaw10_CutsWhole.l0 k x0 x1 x2 x209001 x8 (wrap64 (x9 + 1))))
end
def spencelaw10_CutsWhole.f (k : Nat) (a0 : Int) (a1 : Int) (a2 : Int) : Option (Bool) := (spencelaw10_awake.f).bind fun t200 => (if t200 = true then ((spenceref04_Cuts.f a0 a1).bind fun t201 => (if t201 = true then (spencelaw10_CutsWhole.l0 k a0 a1 a2 0 0 0) else ((cuts_Count.f a0 a1).bind fun t202 => (if t202 = 0 then ((cuts_Last.f a0 a1).bind fun t203 => (some (t203 == 0))) else (some false))))) else (some false))
theorem spencelaw10_CutsWhole.mono_l : ∀ k, (∀ y0 y1 y2 y3 y4 y5, LeO (spencelaw10_CutsWhole.l0 k y0 y1 y2 y3 y4 y5) (spencelaw10_CutsWhole.l0 (k + 1) y0 y1 y2 y3 y4 y5)) ∧ (∀ y0 y1 y2 y3 y4 y5 y6, LeO (spencelaw10_CutsWhole.j1 k y0 y1 y2 y3 y4 y5 y6) (spencelaw10_CutsWhole.j1 (k + 1) y0 y1 y2 y3 y4 y5 y6)) ∧ (∀ y0 y1 y2 y3 y4 y5 y6 y7, LeO (spencelaw10_CutsWhole.j2 k y0 y1 y2 y3 y4 y5 y6 y7) (spencelaw10_CutsWhole.j2 (k + 1) y0 y1 y2 y3 y4 y5 y6 y7))
  | 0 => ⟨fun _ _ _ _ _ _ r h => by simp [spencelaw10_CutsWhole.l0] at h, fun _ _ _ _ _ _ _ r h => by simp [spencelaw10_CutsWhole.j1] at h, fun _ _ _ _ _ _ _ _ r h => by simp [spencelaw10_CutsWhole.j2] at h⟩
  | k + 1 => by
    obtain ⟨ih0, ih1, ih2⟩ := spencelaw10_CutsWhole.mono_l k
    refine ⟨?_, ?_, ?_⟩
    · intro y0 y1 y2 y3 y4 y5
      unfold spencelaw10_CutsWhole.l0
      repeat' first
      | (with_reducible exact ih0 _ _ _ _ _ _)
      | (with_reducible exact ih1 _ _ _ _ _ _ _)
      | (with_reducible exact ih2 _ _ _ _ _ _ _ _)
      | (with_reducible exact LeO.refl _)
      | (with_reducible exact LeO.none _)
      | (with_reducible refine LeO.ite ?_ ?_)
      | (with_reducible refine LeO.bind ?_ (fun _ => ?_))
      | exact ih0 _ _ _ _ _ _
      | exact ih1 _ _ _ _ _ _ _
      | exact ih2 _ _ _ _ _ _ _ _
      | exact LeO.none _
      | refine LeO.ite ?_ ?_
      | refine LeO.bind ?_ (fun _ => ?_)
    · intro y0 y1 y2 y3 y4 y5 y6
      unfold spencelaw10_CutsWhole.j1
      repeat' first
      | (with_reducible exact ih0 _ _ _ _ _ _)
      | (with_reducible exact ih1 _ _ _ _ _ _ _)
      | (with_reducible exact ih2 _ _ _ _ _ _ _ _)
      | (with_reducible exact LeO.refl _)
      | (with_reducible exact LeO.none _)
      | (with_reducible refine LeO.ite ?_ ?_)
      | (with_reducible refine LeO.bind ?_ (fun _ => ?_))
      | exact ih0 _ _ _ _ _ _
      | exact ih1 _ _ _ _ _ _ _
      | exact ih2 _ _ _ _ _ _ _ _
      | exact LeO.none _
      | refine LeO.ite ?_ ?_
      | refine LeO.bind ?_ (fun _ => ?_)
    · intro y0 y1 y2 y3 y4 y5 y6 y7
      unfold spencelaw10_CutsWhole.j2
      repeat' first
      | (with_reducible exact ih0 _ _ _ _ _ _)
      | (with_reducible exact ih1 _ _ _ _ _ _ _)
      | (with_reducible exact ih2 _ _ _ _ _ _ _ _)
      | (with_reducible exact LeO.refl _)
      | (with_reducible exact LeO.none _)
      | (with_reducible refine LeO.ite ?_ ?_)
      | (with_reducible refine LeO.bind ?_ (fun _ => ?_))
      | exact ih0 _ _ _ _ _ _
      | exact ih1 _ _ _ _ _ _ _
      | exact ih2 _ _ _ _ _ _ _ _
      | exact LeO.none _
      | refine LeO.ite ?_ ?_
      | refine LeO.bind ?_ (fun _ => ?_)
theorem spencelaw10_CutsWhole.mono : ∀ a0 a1 a2 k, LeO (spencelaw10_CutsWhole.f k a0 a1 a2) (spencelaw10_CutsWhole.f (k + 1) a0 a1 a2) := by
  intro a0 a1 a2 k
  obtain ⟨ih0, ih1, ih2⟩ := spencelaw10_CutsWhole.mono_l k
  unfold spencelaw10_CutsWhole.f
  repeat' first
      | (with_reducible exact ih0 _ _ _ _ _ _)
      | (with_reducible exact ih1 _ _ _ _ _ _ _)
      | (with_reducible exact ih2 _ _ _ _ _ _ _ _)
      | (with_reducible exact LeO.refl _)
      | (with_reducible exact LeO.none _)
      | (with_reducible refine LeO.ite ?_ ?_)
      | (with_reducible refine LeO.bind ?_ (fun _ => ?_))
      | exact ih0 _ _ _ _ _ _
      | exact ih1 _ _ _ _ _ _ _
      | exact ih2 _ _ _ _ _ _ _ _
      | exact LeO.none _
      | refine LeO.ite ?_ ?_
      | refine LeO.bind ?_ (fun _ => ?_)
set_option maxHeartbeats 8000000 in
set_option maxRecDepth 100000 in
theorem spencelaw10_CutsWhole.calls (k : Nat) (a0 : Int) (a1 : Int) (a2 : Int) (r : Bool) (w : World) (h : spencelaw10_CutsWhole.f k a0 a1 a2 = some r) :
    Calls Try.prog 5 #[.int .i64 a0, .int .i64 a1, .int .i64 a2] w fun e w' => e = .returned (.bool r) ∧ Below w.heap.size w w' := by
  have hu35 := Try.underlying35
  have HB := Aside0.mk (Below.refl w.heap.size w)
  have H : ((spencelaw10_awake.f).bind fun t200 => (if t200 = true then ((spenceref04_Cuts.f a0 a1).bind fun t201 => (if t201 = true then (spencelaw10_CutsWhole.l0 k a0 a1 a2 0 0 0) else ((cuts_Count.f a0 a1).bind fun t202 => (if t202 = 0 then ((cuts_Last.f a0 a1).bind fun t203 => (some (t203 == 0))) else (some false))))) else (some false))) = some r := h
  clear h
  replace H := Option.bind_eq_some_iff.mp H
  obtain ⟨t200, A40, H⟩ := H
  replace H : (if t200 = true then ((spenceref04_Cuts.f a0 a1).bind fun t201 => (if t201 = true then (spencelaw10_CutsWhole.l0 k a0 a1 a2 0 0 0) else ((cuts_Count.f a0 a1).bind fun t202 => (if t202 = 0 then ((cuts_Last.f a0 a1).bind fun t203 => (some (t203 == 0))) else (some false))))) else (some false)) = some r := H
  have A4 := Aside0.mk A40
  clear A40
  by_cases c5 : t200 = true
  · subst c5
    have H1 : ((spenceref04_Cuts.f a0 a1).bind fun t201 => (if t201 = true then (spencelaw10_CutsWhole.l0 k a0 a1 a2 0 0 0) else ((cuts_Count.f a0 a1).bind fun t202 => (if t202 = 0 then ((cuts_Last.f a0 a1).bind fun t203 => (some (t203 == 0))) else (some false))))) = some r := by rw [if_pos rfl] at H; exact H
    clear H
    have H := H1
    clear H1
    replace H := Option.bind_eq_some_iff.mp H
    obtain ⟨t201, A60, H⟩ := H
    replace H : (if t201 = true then (spencelaw10_CutsWhole.l0 k a0 a1 a2 0 0 0) else ((cuts_Count.f a0 a1).bind fun t202 => (if t202 = 0 then ((cuts_Last.f a0 a1).bind fun t203 => (some (t203 == 0))) else (some false)))) = some r := H
    have A6 := Aside0.mk A60
    clear A60
    by_cases c7 : t201 = true
    · subst c7
      have H1 : (spencelaw10_CutsWhole.l0 k a0 a1 a2 0 0 0) = some r := by rw [if_pos rfl] at H; exact H
      clear H
      have H := H1
      clear H1
      have H' := Aside0.mk H
      clear H
      go_enter Try.func5, Try.ntmps5
      go_wp2_with (first | ((with_reducible refine gate_callee (f := 18) rfl ?_); refine goesL_ (some 12) rfl rfl Try.func18 (by kernel_rfl) rfl #[] rfl (by (try simp only [List.map_toArray, List.map_cons, List.map_nil]); first | done | rfl | (simp only [List.length_drop, List.length_take]; rfl)) ?_; (with_reducible refine (spencelaw10_awake.calls  true _ A4.out).mono ?_); rintro e w8 ⟨rfl, hb⟩; refine ⟨_, rfl, ?_⟩; have n0_ := Aside0.mk (below_step (by repeat (first | (with_reducible first | exact HB.out | apply below_alloc | apply pw_below_drewN | apply below_drew1) | exact HB.out)) hb); clear HB; have HB := n0_; clear n0_; (try clear hb); (try clear hb2); (try clear hk); (try clear hi)) | ((with_reducible refine gate_callee (f := 19) rfl ?_); refine goesL_ (some 16) rfl rfl Try.func19 (by kernel_rfl) rfl #[.int .i64 a0, .int .i64 a1] rfl (by (try simp only [List.map_toArray, List.map_cons, List.map_nil]); first | done | rfl | (simp only [List.length_drop, List.length_take]; rfl)) ?_; (with_reducible refine (spenceref04_Cuts.calls a0 a1 true _ A6.out).mono ?_); rintro e w' ⟨rfl, ⟨nd, rfl⟩⟩; refine ⟨_, rfl, ?_⟩))
      go_loopg [7, 8, 9] k (fun kq v7 v8 v9 w' => ∃ (x7_1 : Int) (x8_1 : Int) (x9_1 : Int), v7 = .int .i64 x7_1 ∧ v8 = .int .i64 x8_1 ∧ v9 = .int .i64 x9_1 ∧ Aside0 (spencelaw10_CutsWhole.l0 kq a0 a1 a2 x7_1 x8_1 x9_1 = some r) ∧ Aside0 (kq ≤ k) ∧ Aside0 (Below w.heap.size w w'))
      case atStart => exact ⟨(0), (0), (0), (by first | rfl | (simp; done) | (simp [*]; done)), (by first | rfl | (simp; done) | (simp [*]; done)), (by first | rfl | (simp; done) | (simp [*]; done)), H', ⟨Nat.le_refl _⟩, ⟨by repeat (first | (with_reducible first | exact HB.out | apply below_alloc | apply pw_below_drewN | apply below_drew1) | exact HB.out)⟩⟩
      case round =>
        clear H'
        try clear c1
        try clear p2
        try clear c5
        try clear c7
        obtain ⟨x7_1, x8_1, x9_1, rfl, rfl, rfl, HA, HK1, HB⟩ := hrel
        cases gk with
        | zero => exact absurd HA.out (by simp [spencelaw10_CutsWhole.l0])
        | succ k1 =>
          have H := HA.out
          clear HA
          simp only [spencelaw10_CutsWhole.l0] at H
          have HC9 := Aside0.mk H
          clear H
          go_upto_region 7 with (fail)
          go_cut [37] (fun v37 wc => ∃ (kq : Nat) (x37_8 : Bool), v37 = .bool x37_8 ∧ Aside0 (spencelaw10_CutsWhole.j1 kq a0 a1 a2 x7_1 x8_1 x9_1 x37_8 = some r) ∧ Aside0 (kq ≤ k1) ∧ Aside0 (Below w.heap.size w wc))
          case first =>
            have H := HC9.out
            clear HC9
            replace H := Option.bind_eq_some_iff.mp H
            obtain ⟨t204, A100, H⟩ := H
            replace H : (if x9_1 < t204 then (spencelaw10_CutsWhole.j1 k1 a0 a1 a2 x7_1 x8_1 x9_1 (decide (x9_1 ≤ a0))) else (spencelaw10_CutsWhole.j1 k1 a0 a1 a2 x7_1 x8_1 x9_1 false)) = some r := H
            have A10 := Aside0.mk A100
            clear A100
            by_cases c11 : x9_1 < t204
            · rw [if_pos c11] at H
              have c11b0 : decide (x9_1 < t204) = true := decide_eq_true c11
              clear c11
              (first | rw [c11b0] | (simp only [i64_w, i32_w]; rw [c11b0]) | skip)
              have H' := Aside0.mk H
              clear H
              go_wp2_with (first | ((with_reducible refine gate_callee (f := 20) rfl ?_); refine goesL_ (some 31) rfl rfl Try.func20 (by kernel_rfl) rfl #[.int .i64 a0, .int .i64 a1] rfl (by (try simp only [List.map_toArray, List.map_cons, List.map_nil]); first | done | rfl | (simp only [List.length_drop, List.length_take]; rfl)) ?_; (with_reducible refine (cuts_Count.calls a0 a1 t204 _ A10.out).mono ?_); rintro e w' ⟨rfl, ⟨nd, rfl⟩⟩; refine ⟨_, rfl, ?_⟩))
              go_meet
              case rel => exact ⟨_, (decide (x9_1 ≤ a0)), (by first | rfl | (simp; done) | (simp [*]; done)), H', ⟨by have := HK1.out; first | omega | exact Nat.le_refl _⟩, ⟨by repeat (first | (with_reducible first | exact HB.out | apply below_alloc | apply pw_below_drewN | apply below_drew1) | exact HB.out)⟩⟩
            · rw [if_neg c11] at H
              have c11b0 : decide (x9_1 < t204) = false := decide_eq_false c11
              clear c11
              (first | rw [c11b0] | (simp only [i64_w, i32_w]; rw [c11b0]) | skip)
              have H' := Aside0.mk H
              clear H
              go_wp2_with (first | ((with_reducible refine gate_callee (f := 20) rfl ?_); refine goesL_ (some 31) rfl rfl Try.func20 (by kernel_rfl) rfl #[.int .i64 a0, .int .i64 a1] rfl (by (try simp only [List.map_toArray, List.map_cons, List.map_nil]); first | done | rfl | (simp only [List.length_drop, List.length_take]; rfl)) ?_; (with_reducible refine (cuts_Count.calls a0 a1 t204 _ A10.out).mono ?_); rintro e w' ⟨rfl, ⟨nd, rfl⟩⟩; refine ⟨_, rfl, ?_⟩))
              go_meet
              case rel => exact ⟨_, (false), (by first | rfl | (simp; done) | (simp [*]; done)), H', ⟨by have := HK1.out; first | omega | exact Nat.le_refl _⟩, ⟨by repeat (first | (with_reducible first | exact HB.out | apply below_alloc | apply pw_below_drewN | apply below_drew1) | exact HB.out)⟩⟩
          case rest =>
            clear HC9
            try clear c1
            try clear c2
            try clear p2
            try clear c5
            try clear c7
            try clear c11
            try clear c11b0
            try clear p2
            obtain ⟨kq, x37_8, rfl, HA, HJ8, HB⟩ := hcut
            cases kq with
            | zero => exact absurd HA.out (by simp [spencelaw10_CutsWhole.j1])
            | succ kj8 =>
              have H := HA.out
              clear HA
              simp only [spencelaw10_CutsWhole.j1] at H
              by_cases c12 : x37_8 = true
              · subst c12
                have H1 : ((cuts_Bounds.f x9_1 a0 a1).bind fun bt205 => (if bt205.2.2 = true then (if bt205.1 = x7_1 then (if bt205.2.1 ≤ bt205.1 then (spencelaw10_CutsWhole.j2 kj8 a0 a1 a2 x8_1 x9_1 true bt205.1 bt205.2.1) else (spencelaw10_CutsWhole.j2 kj8 a0 a1 a2 x8_1 x9_1 (decide ((wrap64 (bt205.2.1 - bt205.1)) > a1)) bt205.1 bt205.2.1)) else (spencelaw10_CutsWhole.j2 kj8 a0 a1 a2 x8_1 x9_1 true bt205.1 bt205.2.1)) else (spencelaw10_CutsWhole.j2 kj8 a0 a1 a2 x8_1 x9_1 true bt205.1 bt205.2.1))) = some r := by rw [if_pos rfl] at H; exact H
                clear H
                have H := H1
                clear H1
                replace H := Option.bind_eq_some_iff.mp H
                obtain ⟨⟨t205, t206, t207⟩, A130, H⟩ := H
                replace H : (if t207 = true then (if t205 = x7_1 then (if t206 ≤ t205 then (spencelaw10_CutsWhole.j2 kj8 a0 a1 a2 x8_1 x9_1 true t205 t206) else (spencelaw10_CutsWhole.j2 kj8 a0 a1 a2 x8_1 x9_1 (decide ((wrap64 (t206 - t205)) > a1)) t205 t206)) else (spencelaw10_CutsWhole.j2 kj8 a0 a1 a2 x8_1 x9_1 true t205 t206)) else (spencelaw10_CutsWhole.j2 kj8 a0 a1 a2 x8_1 x9_1 true t205 t206)) = some r := H
                have A13 := Aside0.mk A130
                clear A130
                have HC14 := Aside0.mk H
                clear H
                go_upto_region 10 with (first | ((with_reducible refine gate_callee (f := 22) rfl ?_); refine goesL_ (some 44) rfl rfl Try.func22 (by kernel_rfl) rfl #[.int .i64 x9_1, .int .i64 a0, .int .i64 a1] rfl (by (try simp only [List.map_toArray, List.map_cons, List.map_nil]); first | done | rfl | (simp only [List.length_drop, List.length_take]; rfl)) ?_; (with_reducible refine (cuts_Bounds.calls x9_1 a0 a1 t205 t206 t207 _ A13.out).mono ?_); rintro e w15 ⟨rfl, hb⟩; refine ⟨_, rfl, ?_⟩; have n0_ := Aside0.mk (below_step (by repeat (first | (with_reducible first | exact HB.out | apply below_alloc | apply pw_below_drewN | apply below_drew1) | exact HB.out)) hb); clear HB; have HB := n0_; clear n0_; (try clear hb); (try clear hb2); (try clear hk); (try clear hi)) | ((with_reducible refine gate_dst (N := 10) rfl ?_); refine box_event ?hg (N := 10) ?hd (cs := #[.int .i64 0, .int .i64 0]) (t := 35) ?hr ?_; (case hd => rfl); (case hg => rfl); (case hr => first | (go_simp; done) | (go_simp; rfl)); intro gb208 hg w16 hbox hb; have n0_ := Aside0.mk (below_step (by repeat (first | (with_reducible first | exact HB.out | apply below_alloc | apply pw_below_drewN | apply below_drew1) | exact HB.out)) hb); have n1_ := Aside0.mk (hbox); have n2_ := Aside0.mk ((by rw [hg]; exact (below_size (by repeat (first | (with_reducible first | exact HB.out | apply below_alloc | apply pw_below_drewN | apply below_drew1) | exact HB.out))) : w.heap.size ≤ gb208)); have n3_ := Aside0.mk ((by rw [hg]; exact (below_size (by repeat (first | (with_reducible first | exact HB.out | apply below_alloc | apply pw_below_drewN | apply below_drew1) | exact HB.out))) : w.heap.size ≤ gb208)); clear HB; have HB := n0_; have BK208 := n1_; have GW208 := n2_; have GE208 := n3_; clear n0_ n1_ n2_ n3_; clear hb hbox hg; have hcz17_0 : w16.cell? ⟨gb208, 0, none⟩ = some (.int .i64 0) := (blk_cell BK208.out 0).trans rfl; have hcz17_1 : w16.cell? ⟨gb208, 1, none⟩ = some (.int .i64 0) := (blk_cell BK208.out 1).trans rfl; have hfz17_0 := blk_frozen BK208.out 0; have hfz17_1 := blk_frozen BK208.out 1))
                (try simp only [Act.put, List.setIfInBounds_toArray, List.set_cons_zero, List.set_cons_succ])
                go_cut [70] (fun v70 wc => ∃ (kq : Nat) (x70_13 : Bool), v70 = .bool x70_13 ∧ Aside0 (spencelaw10_CutsWhole.j2 kq a0 a1 a2 x8_1 x9_1 x70_13 t205 t206 = some r) ∧ Aside0 (kq ≤ kj8) ∧ Aside0 (wc.heap[gb208]? = some (.cells #[.int .i64 t205, .int .i64 t206] 35 (0, 0))) ∧ Aside0 (Below w.heap.size w wc))
                case first =>
                  have H := HC14.out
                  clear HC14
                  by_cases c18 : t207 = true
                  · subst c18
                    have H1 : (if t205 = x7_1 then (if t206 ≤ t205 then (spencelaw10_CutsWhole.j2 kj8 a0 a1 a2 x8_1 x9_1 true t205 t206) else (spencelaw10_CutsWhole.j2 kj8 a0 a1 a2 x8_1 x9_1 (decide ((wrap64 (t206 - t205)) > a1)) t205 t206)) else (spencelaw10_CutsWhole.j2 kj8 a0 a1 a2 x8_1 x9_1 true t205 t206)) = some r := by rw [if_pos rfl] at H; exact H
                    clear H
                    have H := H1
                    clear H1
                    by_cases c19 : t205 = x7_1
                    · rw [if_pos c19] at H
                      have c19b0 : (t205 == x7_1) = true := beq_iff_eq.mpr c19
                      have c19b1 : (t205 != x7_1) = false := bne_eq_false_iff_eq.mpr c19
                      clear c19
                      (first | rw [c19b0] | (simp only [i64_w, i32_w]; rw [c19b0]) | skip)
                      by_cases c20 : t206 ≤ t205
                      · rw [if_pos c20] at H
                        have c20b0 : decide (t206 ≤ t205) = true := decide_eq_true c20
                        clear c20
                        have H' := Aside0.mk H
                        clear H
                        have hcz21_0 : w16.cell? ⟨gb208, 0, none⟩ = some (.int .i64 0) := (blk_cell BK208.out 0).trans rfl
                        have hcz21_1 : w16.cell? ⟨gb208, 1, none⟩ = some (.int .i64 0) := (blk_cell BK208.out 1).trans rfl
                        have hfz21_0 := blk_frozen BK208.out 0
                        have hfz21_1 := blk_frozen BK208.out 1
                        go_wp2
                        go_meet
                        case rel => exact ⟨_, (true), (by first | rfl | (simp; done) | (simp [*]; done)), H', ⟨by have := HK1.out; have := HJ8.out; first | omega | exact Nat.le_refl _⟩, ⟨by (with_reducible repeat (first | refine blk_drewN ?_ _ | refine blk_drew ?_ | refine blk_alloc ?_ _)); refine blk_put (cs := #[.int .i64 t205, .int .i64 0]) ?_ 1 _ rfl; (with_reducible repeat (first | refine blk_drewN ?_ _ | refine blk_drew ?_ | refine blk_alloc ?_ _)); refine blk_put (cs := #[.int .i64 0, .int .i64 0]) ?_ 0 _ rfl; (with_reducible repeat (first | refine blk_drewN ?_ _ | refine blk_drew ?_ | refine blk_alloc ?_ _)); exact BK208.out⟩, ⟨by repeat (first | (with_reducible first | exact HB.out | apply below_alloc | apply pw_below_drewN | apply below_drew1 | refine below_set ?_ GE208.out) | exact HB.out)⟩⟩
                      · rw [if_neg c20] at H
                        have c20b0 : decide (t206 ≤ t205) = false := decide_eq_false c20
                        clear c20
                        have H' := Aside0.mk H
                        clear H
                        have hcz22_0 : w16.cell? ⟨gb208, 0, none⟩ = some (.int .i64 0) := (blk_cell BK208.out 0).trans rfl
                        have hcz22_1 : w16.cell? ⟨gb208, 1, none⟩ = some (.int .i64 0) := (blk_cell BK208.out 1).trans rfl
                        have hfz22_0 := blk_frozen BK208.out 0
                        have hfz22_1 := blk_frozen BK208.out 1
                        go_wp2
                        go_meet
                        case rel => exact ⟨_, (decide ((wrap64 (t206 - t205)) > a1)), (by first | rfl | (simp; done) | (simp [*]; done)), H', ⟨by have := HK1.out; have := HJ8.out; first | omega | exact Nat.le_refl _⟩, ⟨by (with_reducible repeat (first | refine blk_drewN ?_ _ | refine blk_drew ?_ | refine blk_alloc ?_ _)); refine blk_put (cs := #[.int .i64 t205, .int .i64 0]) ?_ 1 _ rfl; (with_reducible repeat (first | refine blk_drewN ?_ _ | refine blk_drew ?_ | refine blk_alloc ?_ _)); refine blk_put (cs := #[.int .i64 0, .int .i64 0]) ?_ 0 _ rfl; (with_reducible repeat (first | refine blk_drewN ?_ _ | refine blk_drew ?_ | refine blk_alloc ?_ _)); exact BK208.out⟩, ⟨by repeat (first | (with_reducible first | exact HB.out | apply below_alloc | apply pw_below_drewN | apply below_drew1 | refine below_set ?_ GE208.out) | exact HB.out)⟩⟩
                    · rw [if_neg c19] at H
                      have c19b0 : (t205 == x7_1) = false := beq_eq_false_iff_ne.mpr c19
                      have c19b1 : (t205 != x7_1) = true := bne_iff_ne.mpr c19
                      (first | rw [c19b0] | (simp only [i64_w, i32_w]; rw [c19b0]) | skip)
                      have H' := Aside0.mk H
                      clear H
                      have hcz23_0 : w16.cell? ⟨gb208, 0, none⟩ = some (.int .i64 0) := (blk_cell BK208.out 0).trans rfl
                      have hcz23_1 : w16.cell? ⟨gb208, 1, none⟩ = some (.int .i64 0) := (blk_cell BK208.out 1).trans rfl
                      have hfz23_0 := blk_frozen BK208.out 0
                      have hfz23_1 := blk_frozen BK208.out 1
                      go_wp2
                      go_meet
                      case rel => exact ⟨_, (true), (by first | rfl | (simp; done) | (simp [*]; done)), H', ⟨by have := HK1.out; have := HJ8.out; first | omega | exact Nat.le_refl _⟩, ⟨by (with_reducible repeat (first | refine blk_drewN ?_ _ | refine blk_drew ?_ | refine blk_alloc ?_ _)); refine blk_put (cs := #[.int .i64 t205, .int .i64 0]) ?_ 1 _ rfl; (with_reducible repeat (first | refine blk_drewN ?_ _ | refine blk_drew ?_ | refine blk_alloc ?_ _)); refine blk_put (cs := #[.int .i64 0, .int .i64 0]) ?_ 0 _ rfl; (with_reducible repeat (first | refine blk_drewN ?_ _ | refine blk_drew ?_ | refine blk_alloc ?_ _)); exact BK208.out⟩, ⟨by repeat (first | (with_reducible first | exact HB.out | apply below_alloc | apply pw_below_drewN | apply below_drew1 | refine below_set ?_ GE208.out) | exact HB.out)⟩⟩
                  · replace c18 := Bool.eq_false_iff.mpr c18
                    subst c18
                    have H1 : (spencelaw10_CutsWhole.j2 kj8 a0 a1 a2 x8_1 x9_1 true t205 t206) = some r := by rw [if_neg (show ¬ (false = true) by decide)] at H; exact H
                    clear H
                    have H := H1
                    clear H1
                    have H' := Aside0.mk H
                    clear H
                    go_wp2
                    go_meet
                    case rel => exact ⟨_, (true), (by first | rfl | (simp; done) | (simp [*]; done)), H', ⟨by have := HK1.out; have := HJ8.out; first | omega | exact Nat.le_refl _⟩, ⟨by (with_reducible repeat (first | refine blk_drewN ?_ _ | refine blk_drew ?_ | refine blk_alloc ?_ _)); refine blk_put (cs := #[.int .i64 t205, .int .i64 0]) ?_ 1 _ rfl; (with_reducible repeat (first | refine blk_drewN ?_ _ | refine blk_drew ?_ | refine blk_alloc ?_ _)); refine blk_put (cs := #[.int .i64 0, .int .i64 0]) ?_ 0 _ rfl; (with_reducible repeat (first | refine blk_drewN ?_ _ | refine blk_drew ?_ | refine blk_alloc ?_ _)); exact BK208.out⟩, ⟨by repeat (first | (with_reducible first | exact HB.out | apply below_alloc | apply pw_below_drewN | apply below_drew1 | refine below_set ?_ GE208.out) | exact HB.out)⟩⟩
                case rest =>
                  clear HC14
                  try clear c1
                  try clear c2
                  try clear p2
                  try clear c5
                  try clear p6
                  try clear c7
                  try clear c11
                  try clear c11b0
                  try clear c12
                  try clear c18
                  try clear c19
                  try clear c19b0
                  try clear c19b1
                  try clear c20
                  try clear c20b0
                  try clear c22
                  try clear hcz17_0
                  try clear hcz17_1
                  try clear hcz21_0
                  try clear hcz21_1
                  try clear hcz22_0
                  try clear hcz22_1
                  try clear hcz23_0
                  try clear hcz23_1
                  try clear hfz17_0
                  try clear hfz17_1
                  try clear hfz21_0
                  try clear hfz21_1
                  try clear hfz22_0
                  try clear hfz22_1
                  try clear hfz23_0
                  try clear hfz23_1
                  try clear p2
                  obtain ⟨kq, x70_13, rfl, HA, HJ13, BK208, HB⟩ := hcut
                  cases kq with
                  | zero => exact absurd HA.out (by simp [spencelaw10_CutsWhole.j2])
                  | succ kj13 =>
                    have H := HA.out
                    clear HA
                    simp only [spencelaw10_CutsWhole.j2] at H
                    by_cases c24 : x70_13 = true
                    · subst c24
                      have H1 : (some false) = some r := by rw [if_pos rfl] at H; exact H
                      clear H
                      have H := H1
                      clear H1
                      obtain rfl := Option.some.inj H
                      go_wp2
                      go_ret
                      exact ⟨by first | rfl | exact ne_empty _ | exact eq_empty _ | (simp [errW_none, errW_some] <;> rfl) | (simp [*, errW_none, errW_some] <;> rfl), by repeat (first | (with_reducible first | exact HB.out | apply below_alloc | apply pw_below_drewN | apply below_drew1 | refine below_set ?_ GE208.out) | exact HB.out)⟩
                    · replace c24 := Bool.eq_false_iff.mpr c24
                      subst c24
                      have H1 : (if a2 ≥ t205 then (if a2 < t206 then (spencelaw10_CutsWhole.l0 kj13 a0 a1 a2 t206 (wrap64 (x8_1 + 1)) (wrap64 (x9_1 + 1))) else (spencelaw10_CutsWhole.l0 kj13 a0 a1 a2 t206 x8_1 (wrap64 (x9_1 + 1)))) else (spencelaw10_CutsWhole.l0 kj13 a0 a1 a2 t206 x8_1 (wrap64 (x9_1 + 1)))) = some r := by rw [if_neg (show ¬ (false = true) by decide)] at H; exact H
                      clear H
                      have H := H1
                      clear H1
                      by_cases c25 : a2 ≥ t205
                      · rw [if_pos c25] at H
                        have c25b0 : decide (t205 ≤ a2) = true := decide_eq_true c25
                        clear c25
                        by_cases c26 : a2 < t206
                        · rw [if_pos c26] at H
                          have c26b0 : decide (a2 < t206) = true := decide_eq_true c26
                          clear c26
                          have H' := Aside0.mk H
                          clear H
                          have hcz27_0 : wc.cell? ⟨gb208, 0, none⟩ = some (.int .i64 t205) := (blk_cell BK208.out 0).trans rfl
                          have hcz27_1 : wc.cell? ⟨gb208, 1, none⟩ = some (.int .i64 t206) := (blk_cell BK208.out 1).trans rfl
                          have hfz27_0 := blk_frozen BK208.out 0
                          have hfz27_1 := blk_frozen BK208.out 1
                          go_wp2
                          go_roundg kj13
                          case measure => have := HK1.out; have := HJ8.out; have := HJ13.out; omega
                          case rel => exact ⟨(t206), (wrap64 (x8_1 + 1)), (wrap64 (x9_1 + 1)), (by first | rfl | (simp; done) | (simp [*]; done)), (by first | rfl | (simp; done) | (simp [*]; done)), (by first | rfl | (simp; done) | (simp [*]; done)), H', ⟨by have := HK1.out; have := HJ8.out; have := HJ13.out; omega⟩, ⟨by repeat (first | (with_reducible first | exact HB.out | apply below_alloc | apply pw_below_drewN | apply below_drew1 | refine below_set ?_ GE208.out) | exact HB.out)⟩⟩
                        · rw [if_neg c26] at H
                          have c26b0 : decide (a2 < t206) = false := decide_eq_false c26
                          clear c26
                          have H' := Aside0.mk H
                          clear H
                          have hcz28_0 : wc.cell? ⟨gb208, 0, none⟩ = some (.int .i64 t205) := (blk_cell BK208.out 0).trans rfl
                          have hcz28_1 : wc.cell? ⟨gb208, 1, none⟩ = some (.int .i64 t206) := (blk_cell BK208.out 1).trans rfl
                          have hfz28_0 := blk_frozen BK208.out 0
                          have hfz28_1 := blk_frozen BK208.out 1
                          go_wp2
                          go_roundg kj13
                          case measure => have := HK1.out; have := HJ8.out; have := HJ13.out; omega
                          case rel => exact ⟨(t206), (x8_1), (wrap64 (x9_1 + 1)), (by first | rfl | (simp; done) | (simp [*]; done)), (by first | rfl | (simp; done) | (simp [*]; done)), (by first | rfl | (simp; done) | (simp [*]; done)), H', ⟨by have := HK1.out; have := HJ8.out; have := HJ13.out; omega⟩, ⟨by repeat (first | (with_reducible first | exact HB.out | apply below_alloc | apply pw_below_drewN | apply below_drew1 | refine below_set ?_ GE208.out) | exact HB.out)⟩⟩
                      · rw [if_neg c25] at H
                        have c25b0 : decide (t205 ≤ a2) = false := decide_eq_false c25
                        clear c25
                        have H' := Aside0.mk H
                        clear H
                        have hcz29_0 : wc.cell? ⟨gb208, 0, none⟩ = some (.int .i64 t205) := (blk_cell BK208.out 0).trans rfl
                        have hcz29_1 : wc.cell? ⟨gb208, 1, none⟩ = some (.int .i64 t206) := (blk_cell BK208.out 1).trans rfl
                        have hfz29_0 := blk_frozen BK208.out 0
                        have hfz29_1 := blk_frozen BK208.out 1
                        go_wp2
                        go_roundg kj13
                        case measure => have := HK1.out; have := HJ8.out; have := HJ13.out; omega
                        case rel => exact ⟨(t206), (x8_1), (wrap64 (x9_1 + 1)), (by first | rfl | (simp; done) | (simp [*]; done)), (by first | rfl | (simp; done) | (simp [*]; done)), (by first | rfl | (simp; done) | (simp [*]; done)), H', ⟨by have := HK1.out; have := HJ8.out; have := HJ13.out; omega⟩, ⟨by repeat (first | (with_reducible first | exact HB.out | apply below_alloc | apply pw_below_drewN | apply below_drew1 | refine below_set ?_ GE208.out) | exact HB.out)⟩⟩
              · replace c12 := Bool.eq_false_iff.mpr c12
                subst c12
                have H1 : (if x7_1 = a0 then (if a2 ≥ 0 then (if ((x8_1 == 1) == (decide (a2 < a0))) = true then (some (decide (x8_1 ≤ 1))) else (some false)) else (if ((x8_1 == 1) == false) = true then (some (decide (x8_1 ≤ 1))) else (some false))) else (some false)) = some r := by rw [if_neg (show ¬ (false = true) by decide)] at H; exact H
                clear H
                have H := H1
                clear H1
                by_cases c30 : x7_1 = a0
                · rw [if_pos c30] at H
                  have c30b0 : (x7_1 == a0) = true := beq_iff_eq.mpr c30
                  have c30b1 : (x7_1 != a0) = false := bne_eq_false_iff_eq.mpr c30
                  clear c30
                  by_cases c31 : a2 ≥ 0
                  · rw [if_pos c31] at H
                    have c31b0 : decide (0 ≤ a2) = true := decide_eq_true c31
                    clear c31
                    by_cases c32 : ((x8_1 == 1) == (decide (a2 < a0))) = true
                    · rw [if_pos c32] at H
                      have c32b0 : ((x8_1 == 1) == (decide (a2 < a0))) = true := c32
                      (try (have c32b1 : decide ((x8_1 == 1) = (decide (a2 < a0))) = true := by simpa using c32))
                      (try (have c32b2 : ((x8_1 == 1) == (decide (a2 < a0))) = true := by simpa using c32))
                      clear c32
                      obtain rfl := Option.some.inj H
                      go_wp2
                      go_ret
                      exact ⟨by first | rfl | exact ne_empty _ | exact eq_empty _ | (simp [errW_none, errW_some] <;> rfl) | (simp [*, errW_none, errW_some] <;> rfl), by repeat (first | (with_reducible first | exact HB.out | apply below_alloc | apply pw_below_drewN | apply below_drew1) | exact HB.out)⟩
                    · rw [if_neg c32] at H
                      have c32b0 : ((x8_1 == 1) == (decide (a2 < a0))) = false := by simpa using c32
                      (try (have c32b1 : decide ((x8_1 == 1) = (decide (a2 < a0))) = false := by simpa using c32))
                      (try (have c32b2 : ((x8_1 == 1) == (decide (a2 < a0))) = false := by simpa using c32))
                      (try (have c32b3 : ¬ ((x8_1 == 1) = (decide (a2 < a0))) := by simpa using c32))
                      clear c32
                      obtain rfl := Option.some.inj H
                      go_wp2
                      go_ret
                      exact ⟨by first | rfl | exact ne_empty _ | exact eq_empty _ | (simp [errW_none, errW_some] <;> rfl) | (simp [*, errW_none, errW_some] <;> rfl), by repeat (first | (with_reducible first | exact HB.out | apply below_alloc | apply pw_below_drewN | apply below_drew1) | exact HB.out)⟩
                  · rw [if_neg c31] at H
                    have c31b0 : decide (0 ≤ a2) = false := decide_eq_false c31
                    clear c31
                    by_cases c33 : ((x8_1 == 1) == false) = true
                    · rw [if_pos c33] at H
                      have c33b0 : ((x8_1 == 1) == false) = true := c33
                      (try (have c33b1 : decide ((x8_1 == 1) = false) = true := by simpa using c33))
                      (try (have c33b2 : ((x8_1 == 1) == false) = true := by simpa using c33))
                      clear c33
                      obtain rfl := Option.some.inj H
                      go_wp2
                      go_ret
                      exact ⟨by first | rfl | exact ne_empty _ | exact eq_empty _ | (simp [errW_none, errW_some] <;> rfl) | (simp [*, errW_none, errW_some] <;> rfl), by repeat (first | (with_reducible first | exact HB.out | apply below_alloc | apply pw_below_drewN | apply below_drew1) | exact HB.out)⟩
                    · rw [if_neg c33] at H
                      have c33b0 : ((x8_1 == 1) == false) = false := by simpa using c33
                      (try (have c33b1 : decide ((x8_1 == 1) = false) = false := by simpa using c33))
                      (try (have c33b2 : ((x8_1 == 1) == false) = false := by simpa using c33))
                      (try (have c33b3 : ¬ ((x8_1 == 1) = false) := by simpa using c33))
                      clear c33
                      obtain rfl := Option.some.inj H
                      go_wp2
                      go_ret
                      exact ⟨by first | rfl | exact ne_empty _ | exact eq_empty _ | (simp [errW_none, errW_some] <;> rfl) | (simp [*, errW_none, errW_some] <;> rfl), by repeat (first | (with_reducible first | exact HB.out | apply below_alloc | apply pw_below_drewN | apply below_drew1) | exact HB.out)⟩
                · rw [if_neg c30] at H
                  have c30b0 : (x7_1 == a0) = false := beq_eq_false_iff_ne.mpr c30
                  have c30b1 : (x7_1 != a0) = true := bne_iff_ne.mpr c30
                  obtain rfl := Option.some.inj H
                  go_wp2
                  go_ret
                  exact ⟨by first | rfl | exact ne_empty _ | exact eq_empty _ | (simp [errW_none, errW_some] <;> rfl) | (simp [*, errW_none, errW_some] <;> rfl), by repeat (first | (with_reducible first | exact HB.out | apply below_alloc | apply pw_below_drewN | apply below_drew1) | exact HB.out)⟩
    · replace c7 := Bool.eq_false_iff.mpr c7
      subst c7
      have H1 : ((cuts_Count.f a0 a1).bind fun t202 => (if t202 = 0 then ((cuts_Last.f a0 a1).bind fun t203 => (some (t203 == 0))) else (some false))) = some r := by rw [if_neg (show ¬ (false = true) by decide)] at H; exact H
      clear H
      have H := H1
      clear H1
      replace H := Option.bind_eq_some_iff.mp H
      obtain ⟨t202, A340, H⟩ := H
      replace H : (if t202 = 0 then ((cuts_Last.f a0 a1).bind fun t203 => (some (t203 == 0))) else (some false)) = some r := H
      have A34 := Aside0.mk A340
      clear A340
      by_cases c35 : t202 = 0
      · rw [if_pos c35] at H
        have c35b0 : (t202 == 0) = true := beq_iff_eq.mpr c35
        have c35b1 : (t202 != 0) = false := bne_eq_false_iff_eq.mpr c35
        clear c35
        replace H := Option.bind_eq_some_iff.mp H
        obtain ⟨t203, A360, H⟩ := H
        replace H : (some (t203 == 0)) = some r := H
        have A36 := Aside0.mk A360
        clear A360
        obtain rfl := Option.some.inj H
        go_enter Try.func5, Try.ntmps5
        go_wp2_with (first | ((with_reducible refine gate_callee (f := 18) rfl ?_); refine goesL_ (some 12) rfl rfl Try.func18 (by kernel_rfl) rfl #[] rfl (by (try simp only [List.map_toArray, List.map_cons, List.map_nil]); first | done | rfl | (simp only [List.length_drop, List.length_take]; rfl)) ?_; (with_reducible refine (spencelaw10_awake.calls  true _ A4.out).mono ?_); rintro e w37 ⟨rfl, hb⟩; refine ⟨_, rfl, ?_⟩; have n0_ := Aside0.mk (below_step (by repeat (first | (with_reducible first | exact HB.out | apply below_alloc | apply pw_below_drewN | apply below_drew1) | exact HB.out)) hb); clear HB; have HB := n0_; clear n0_; (try clear hb); (try clear hb2); (try clear hk); (try clear hi)) | ((with_reducible refine gate_callee (f := 19) rfl ?_); refine goesL_ (some 16) rfl rfl Try.func19 (by kernel_rfl) rfl #[.int .i64 a0, .int .i64 a1] rfl (by (try simp only [List.map_toArray, List.map_cons, List.map_nil]); first | done | rfl | (simp only [List.length_drop, List.length_take]; rfl)) ?_; (with_reducible refine (spenceref04_Cuts.calls a0 a1 false _ A6.out).mono ?_); rintro e w' ⟨rfl, ⟨nd, rfl⟩⟩; refine ⟨_, rfl, ?_⟩) | ((with_reducible refine gate_callee (f := 20) rfl ?_); refine goesL_ (some 20) rfl rfl Try.func20 (by kernel_rfl) rfl #[.int .i64 a0, .int .i64 a1] rfl (by (try simp only [List.map_toArray, List.map_cons, List.map_nil]); first | done | rfl | (simp only [List.length_drop, List.length_take]; rfl)) ?_; (with_reducible refine (cuts_Count.calls a0 a1 t202 _ A34.out).mono ?_); rintro e w' ⟨rfl, ⟨nd, rfl⟩⟩; refine ⟨_, rfl, ?_⟩) | (go_at_call 21; (with_reducible refine (cuts_Last.calls a0 a1 t203 _ A36.out).mono ?_); rintro e w38 ⟨rfl, hb⟩; have n0_ := Aside0.mk (below_step (by repeat (first | (with_reducible first | exact HB.out | apply below_alloc | apply pw_below_drewN | apply below_drew1) | exact HB.out)) hb); clear HB; have HB := n0_; clear n0_; (try clear hb); (try clear hb2); (try clear hk); (try clear hi)))
        go_ret
        exact ⟨by first | rfl | exact ne_empty _ | exact eq_empty _ | (simp [errW_none, errW_some] <;> rfl) | (simp [*, errW_none, errW_some] <;> rfl), by repeat (first | (with_reducible first | exact HB.out | apply below_alloc | apply pw_below_drewN | apply below_drew1) | exact HB.out)⟩
      · rw [if_neg c35] at H
        have c35b0 : (t202 == 0) = false := beq_eq_false_iff_ne.mpr c35
        have c35b1 : (t202 != 0) = true := bne_iff_ne.mpr c35
        obtain rfl := Option.some.inj H
        go_enter Try.func5, Try.ntmps5
        go_wp2_with (first | ((with_reducible refine gate_callee (f := 18) rfl ?_); refine goesL_ (some 12) rfl rfl Try.func18 (by kernel_rfl) rfl #[] rfl (by (try simp only [List.map_toArray, List.map_cons, List.map_nil]); first | done | rfl | (simp only [List.length_drop, List.length_take]; rfl)) ?_; (with_reducible refine (spencelaw10_awake.calls  true _ A4.out).mono ?_); rintro e w39 ⟨rfl, hb⟩; refine ⟨_, rfl, ?_⟩; have n0_ := Aside0.mk (below_step (by repeat (first | (with_reducible first | exact HB.out | apply below_alloc | apply pw_below_drewN | apply below_drew1) | exact HB.out)) hb); clear HB; have HB := n0_; clear n0_; (try clear hb); (try clear hb2); (try clear hk); (try clear hi)) | ((with_reducible refine gate_callee (f := 19) rfl ?_); refine goesL_ (some 16) rfl rfl Try.func19 (by kernel_rfl) rfl #[.int .i64 a0, .int .i64 a1] rfl (by (try simp only [List.map_toArray, List.map_cons, List.map_nil]); first | done | rfl | (simp only [List.length_drop, List.length_take]; rfl)) ?_; (with_reducible refine (spenceref04_Cuts.calls a0 a1 false _ A6.out).mono ?_); rintro e w' ⟨rfl, ⟨nd, rfl⟩⟩; refine ⟨_, rfl, ?_⟩) | ((with_reducible refine gate_callee (f := 20) rfl ?_); refine goesL_ (some 20) rfl rfl Try.func20 (by kernel_rfl) rfl #[.int .i64 a0, .int .i64 a1] rfl (by (try simp only [List.map_toArray, List.map_cons, List.map_nil]); first | done | rfl | (simp only [List.length_drop, List.length_take]; rfl)) ?_; (with_reducible refine (cuts_Count.calls a0 a1 t202 _ A34.out).mono ?_); rintro e w' ⟨rfl, ⟨nd, rfl⟩⟩; refine ⟨_, rfl, ?_⟩))
        go_ret
        exact ⟨by first | rfl | exact ne_empty _ | exact eq_empty _ | (simp [errW_none, errW_some] <;> rfl) | (simp [*, errW_none, errW_some] <;> rfl), by repeat (first | (with_reducible first | exact HB.out | apply below_alloc | apply pw_below_drewN | apply below_drew1) | exact HB.out)⟩
  · replace c5 := Bool.eq_false_iff.mpr c5
    subst c5
    have H1 : (some false) = some r := by rw [if_neg (show ¬ (false = true) by decide)] at H; exact H
    clear H
    have H := H1
    clear H1
    obtain rfl := Option.some.inj H
    go_enter Try.func5, Try.ntmps5
    go_wp2_with (first | ((with_reducible refine gate_callee (f := 18) rfl ?_); refine goesL_ (some 12) rfl rfl Try.func18 (by kernel_rfl) rfl #[] rfl (by (try simp only [List.map_toArray, List.map_cons, List.map_nil]); first | done | rfl | (simp only [List.length_drop, List.length_take]; rfl)) ?_; (with_reducible refine (spencelaw10_awake.calls  false _ A4.out).mono ?_); rintro e w40 ⟨rfl, hb⟩; refine ⟨_, rfl, ?_⟩; have n0_ := Aside0.mk (below_step (by repeat (first | (with_reducible first | exact HB.out | apply below_alloc | apply pw_below_drewN | apply below_drew1) | exact HB.out)) hb); clear HB; have HB := n0_; clear n0_; (try clear hb); (try clear hb2); (try clear hk); (try clear hi)))
    go_ret
    exact ⟨by first | rfl | exact ne_empty _ | exact eq_empty _ | (simp [errW_none, errW_some] <;> rfl) | (simp [*, errW_none, errW_some] <;> rfl), by repeat (first | (with_reducible first | exact HB.out | apply below_alloc | apply pw_below_drewN | apply below_drew1) | exact HB.out)⟩

/-- THE ONE PURE STATEMENT of spencelaw10_CutsWhole. -/
def spencelaw10_CutsWhole.Pure : Prop := ∀ (a0 : Int) (a1 : Int) (a2 : Int), (Lit.int .i64 a0).wf = true → (Lit.int .i64 a1).wf = true → (Lit.int .i64 a2).wf = true → ∃ k, spencelaw10_CutsWhole.f k a0 a1 a2 = some true

/-! ### retry_Most: function 23 -/
def retry_Most.f (a0 : Int) (a1 : Int) : Option (Int) := (retry_cut.f a0 8).bind fun t209 => ((retry_cut.f a1 4097).bind fun t210 => (some (wrap64 ((wrap64 (t209 + 2)) * (wrap64 ((wrap64 ((wrap64 ((wrap64 (t209 + 1)) + 2)) + (wrap64 (t210 * (wrap64 (t209 + 1)))))) + (wrap64 (t209 + 1))))))))
set_option maxHeartbeats 8000000 in
set_option maxRecDepth 100000 in
theorem retry_Most.calls (a0 : Int) (a1 : Int) (r : Int) (w : World) (h : retry_Most.f a0 a1 = some r) :
    Calls Try.prog 23 #[.int .i64 a0, .int .i64 a1] w fun e w' => e = .returned (.int .i64 r) ∧ Below w.heap.size w w' := by
  have HB := Aside0.mk (Below.refl w.heap.size w)
  have H : ((retry_cut.f a0 8).bind fun t209 => ((retry_cut.f a1 4097).bind fun t210 => (some (wrap64 ((wrap64 (t209 + 2)) * (wrap64 ((wrap64 ((wrap64 ((wrap64 (t209 + 1)) + 2)) + (wrap64 (t210 * (wrap64 (t209 + 1)))))) + (wrap64 (t209 + 1))))))))) = some r := h
  clear h
  replace H := Option.bind_eq_some_iff.mp H
  obtain ⟨t209, A30, H⟩ := H
  replace H : ((retry_cut.f a1 4097).bind fun t210 => (some (wrap64 ((wrap64 (t209 + 2)) * (wrap64 ((wrap64 ((wrap64 ((wrap64 (t209 + 1)) + 2)) + (wrap64 (t210 * (wrap64 (t209 + 1)))))) + (wrap64 (t209 + 1)))))))) = some r := H
  have A3 := Aside0.mk A30
  clear A30
  replace H := Option.bind_eq_some_iff.mp H
  obtain ⟨t210, A40, H⟩ := H
  replace H : (some (wrap64 ((wrap64 (t209 + 2)) * (wrap64 ((wrap64 ((wrap64 ((wrap64 (t209 + 1)) + 2)) + (wrap64 (t210 * (wrap64 (t209 + 1)))))) + (wrap64 (t209 + 1))))))) = some r := H
  have A4 := Aside0.mk A40
  clear A40
  obtain rfl := Option.some.inj H
  go_enter Try.func23, Try.ntmps23
  go_wp2_with (first | ((with_reducible refine gate_callee (f := 49) rfl ?_); refine goesL_ (some 9) rfl rfl Try.func49 (by kernel_rfl) rfl #[.int .i64 a0, .int .i64 8] rfl (by (try simp only [List.map_toArray, List.map_cons, List.map_nil]); first | done | rfl | (simp only [List.length_drop, List.length_take]; rfl)) ?_; (with_reducible refine (retry_cut.calls a0 8 t209 _ A3.out).mono ?_); rintro e w5 ⟨rfl, hb⟩; refine ⟨_, rfl, ?_⟩; have n0_ := Aside0.mk (below_step (by repeat (first | (with_reducible first | exact HB.out | apply below_alloc | apply pw_below_drewN | apply below_drew1) | exact HB.out)) hb); clear HB; have HB := n0_; clear n0_; (try clear hb); (try clear hb2); (try clear hk); (try clear hi)) | ((with_reducible refine gate_callee (f := 49) rfl ?_); refine goesL_ (some 11) rfl rfl Try.func49 (by kernel_rfl) rfl #[.int .i64 a1, .int .i64 4097] rfl (by (try simp only [List.map_toArray, List.map_cons, List.map_nil]); first | done | rfl | (simp only [List.length_drop, List.length_take]; rfl)) ?_; (with_reducible refine (retry_cut.calls a1 4097 t210 _ A4.out).mono ?_); rintro e w6 ⟨rfl, hb⟩; refine ⟨_, rfl, ?_⟩; have n0_ := Aside0.mk (below_step (by repeat (first | (with_reducible first | exact HB.out | apply below_alloc | apply pw_below_drewN | apply below_drew1) | exact HB.out)) hb); clear HB; have HB := n0_; clear n0_; (try clear hb); (try clear hb2); (try clear hk); (try clear hi)))
  go_ret
  exact ⟨by first | rfl | exact ne_empty _ | exact eq_empty _ | (simp [errW_none, errW_some] <;> rfl) | (simp [*, errW_none, errW_some] <;> rfl), by repeat (first | (with_reducible first | exact HB.out | apply below_alloc | apply pw_below_drewN | apply below_drew1) | exact HB.out)⟩

/-! ### spencelaw34_RetryMost: function 6 -/
def spencelaw34_RetryMost.f (a0 : Int) (a1 : Int) : Option (Bool) := (spencelaw34_awake.f).bind fun t211 => (if t211 = true then ((retry_Most.f a0 a1).bind fun t212 => (if t212 = (wrap64 (((mn (mx a0 0) 8) + 2) * (wrap64 ((wrap64 ((wrap64 ((((mn (mx a0 0) 8) + 1) + 2) + (wrap64 ((mn (mx a1 0) 4097) * ((mn (mx a0 0) 8) + 1))))) + (mn (mx a0 0) 8))) + 1)))) then ((retry_Most.f ((mn (mx a0 0) 8) + 1) (mn (mx a1 0) 4097)).bind fun t213 => (if t213 ≥ t212 then ((retry_Most.f (mn (mx a0 0) 8) ((mn (mx a1 0) 4097) + 1)).bind fun t214 => (some (decide (t214 ≥ t212)))) else (some false))) else (some false))) else (some false))
set_option maxHeartbeats 8000000 in
set_option maxRecDepth 100000 in
theorem spencelaw34_RetryMost.calls (a0 : Int) (a1 : Int) (r : Bool) (w : World) (h : spencelaw34_RetryMost.f a0 a1 = some r) :
    Calls Try.prog 6 #[.int .i64 a0, .int .i64 a1] w fun e w' => e = .returned (.bool r) ∧ Below w.heap.size w w' := by
  have HB := Aside0.mk (Below.refl w.heap.size w)
  have H : ((spencelaw34_awake.f).bind fun t211 => (if t211 = true then ((retry_Most.f a0 a1).bind fun t212 => (if t212 = (wrap64 (((mn (mx a0 0) 8) + 2) * (wrap64 ((wrap64 ((wrap64 ((((mn (mx a0 0) 8) + 1) + 2) + (wrap64 ((mn (mx a1 0) 4097) * ((mn (mx a0 0) 8) + 1))))) + (mn (mx a0 0) 8))) + 1)))) then ((retry_Most.f ((mn (mx a0 0) 8) + 1) (mn (mx a1 0) 4097)).bind fun t213 => (if t213 ≥ t212 then ((retry_Most.f (mn (mx a0 0) 8) ((mn (mx a1 0) 4097) + 1)).bind fun t214 => (some (decide (t214 ≥ t212)))) else (some false))) else (some false))) else (some false))) = some r := h
  clear h
  replace H := Option.bind_eq_some_iff.mp H
  obtain ⟨t211, A30, H⟩ := H
  replace H : (if t211 = true then ((retry_Most.f a0 a1).bind fun t212 => (if t212 = (wrap64 (((mn (mx a0 0) 8) + 2) * (wrap64 ((wrap64 ((wrap64 ((((mn (mx a0 0) 8) + 1) + 2) + (wrap64 ((mn (mx a1 0) 4097) * ((mn (mx a0 0) 8) + 1))))) + (mn (mx a0 0) 8))) + 1)))) then ((retry_Most.f ((mn (mx a0 0) 8) + 1) (mn (mx a1 0) 4097)).bind fun t213 => (if t213 ≥ t212 then ((retry_Most.f (mn (mx a0 0) 8) ((mn (mx a1 0) 4097) + 1)).bind fun t214 => (some (decide (t214 ≥ t212)))) else (some false))) else (some false))) else (some false)) = some r := H
  have A3 := Aside0.mk A30
  clear A30
  by_cases c4 : t211 = true
  · subst c4
    have H1 : ((retry_Most.f a0 a1).bind fun t212 => (if t212 = (wrap64 (((mn (mx a0 0) 8) + 2) * (wrap64 ((wrap64 ((wrap64 ((((mn (mx a0 0) 8) + 1) + 2) + (wrap64 ((mn (mx a1 0) 4097) * ((mn (mx a0 0) 8) + 1))))) + (mn (mx a0 0) 8))) + 1)))) then ((retry_Most.f ((mn (mx a0 0) 8) + 1) (mn (mx a1 0) 4097)).bind fun t213 => (if t213 ≥ t212 then ((retry_Most.f (mn (mx a0 0) 8) ((mn (mx a1 0) 4097) + 1)).bind fun t214 => (some (decide (t214 ≥ t212)))) else (some false))) else (some false))) = some r := by rw [if_pos rfl] at H; exact H
    clear H
    have H := H1
    clear H1
    obtain ⟨ji5, hji5⟩ : ∃ j_ : Int, (mx a0 0) = j_ := ⟨_, rfl⟩
    replace H : ((retry_Most.f a0 a1).bind fun t212 => (if t212 = (wrap64 (((mn (ji5) 8) + 2) * (wrap64 ((wrap64 ((wrap64 ((((mn (ji5) 8) + 1) + 2) + (wrap64 ((mn (mx a1 0) 4097) * ((mn (ji5) 8) + 1))))) + (mn (ji5) 8))) + 1)))) then ((retry_Most.f ((mn (ji5) 8) + 1) (mn (mx a1 0) 4097)).bind fun t213 => (if t213 ≥ t212 then ((retry_Most.f (mn (ji5) 8) ((mn (mx a1 0) 4097) + 1)).bind fun t214 => (some (decide (t214 ≥ t212)))) else (some false))) else (some false))) = some r := by first | (rw [hji5] at H; exact H) | (simp only [hji5] at H ⊢; exact H)
    (try rw [hji5] at A3)
    (try (have hji5l : 0 ≤ ji5 := by (rw [← hji5]; unfold mx; (repeat' split) <;> omega)))
    (try (have hji5m : 0 ≤ ji5 := by omega))
    have hji5_ : (if a0 < 0 then 0 else a0) = ji5 := hji5
    obtain ⟨ji6, hji6⟩ : ∃ j_ : Int, (mn (ji5) 8) = j_ := ⟨_, rfl⟩
    replace H : ((retry_Most.f a0 a1).bind fun t212 => (if t212 = (wrap64 (((ji6) + 2) * (wrap64 ((wrap64 ((wrap64 ((((ji6) + 1) + 2) + (wrap64 ((mn (mx a1 0) 4097) * ((ji6) + 1))))) + (ji6))) + 1)))) then ((retry_Most.f ((ji6) + 1) (mn (mx a1 0) 4097)).bind fun t213 => (if t213 ≥ t212 then ((retry_Most.f (ji6) ((mn (mx a1 0) 4097) + 1)).bind fun t214 => (some (decide (t214 ≥ t212)))) else (some false))) else (some false))) = some r := by first | (rw [hji6] at H; exact H) | (simp only [hji6] at H ⊢; exact H)
    (try rw [hji6] at A3)
    have hji6_ : (if 8 < (ji5) then 8 else (ji5)) = ji6 := hji6
    obtain ⟨ji7, hji7⟩ : ∃ j_ : Int, (mx a1 0) = j_ := ⟨_, rfl⟩
    replace H : ((retry_Most.f a0 a1).bind fun t212 => (if t212 = (wrap64 (((ji6) + 2) * (wrap64 ((wrap64 ((wrap64 ((((ji6) + 1) + 2) + (wrap64 ((mn (ji7) 4097) * ((ji6) + 1))))) + (ji6))) + 1)))) then ((retry_Most.f ((ji6) + 1) (mn (ji7) 4097)).bind fun t213 => (if t213 ≥ t212 then ((retry_Most.f (ji6) ((mn (ji7) 4097) + 1)).bind fun t214 => (some (decide (t214 ≥ t212)))) else (some false))) else (some false))) = some r := by first | (rw [hji7] at H; exact H) | (simp only [hji7] at H ⊢; exact H)
    (try rw [hji7] at A3)
    (try (have hji7l : 0 ≤ ji7 := by (rw [← hji7]; unfold mx; (repeat' split) <;> omega)))
    (try (have hji7m : 0 ≤ ji7 := by omega))
    have hji7_ : (if a1 < 0 then 0 else a1) = ji7 := hji7
    obtain ⟨ji8, hji8⟩ : ∃ j_ : Int, (mn (ji7) 4097) = j_ := ⟨_, rfl⟩
    replace H : ((retry_Most.f a0 a1).bind fun t212 => (if t212 = (wrap64 (((ji6) + 2) * (wrap64 ((wrap64 ((wrap64 ((((ji6) + 1) + 2) + (wrap64 ((ji8) * ((ji6) + 1))))) + (ji6))) + 1)))) then ((retry_Most.f ((ji6) + 1) (ji8)).bind fun t213 => (if t213 ≥ t212 then ((retry_Most.f (ji6) ((ji8) + 1)).bind fun t214 => (some (decide (t214 ≥ t212)))) else (some false))) else (some false))) = some r := by first | (rw [hji8] at H; exact H) | (simp only [hji8] at H ⊢; exact H)
    (try rw [hji8] at A3)
    have hji8_ : (if 4097 < (ji7) then 4097 else (ji7)) = ji8 := hji8
    replace H := Option.bind_eq_some_iff.mp H
    obtain ⟨t212, A90, H⟩ := H
    replace H : (if t212 = (wrap64 (((ji6) + 2) * (wrap64 ((wrap64 ((wrap64 ((((ji6) + 1) + 2) + (wrap64 ((ji8) * ((ji6) + 1))))) + (ji6))) + 1)))) then ((retry_Most.f ((ji6) + 1) (ji8)).bind fun t213 => (if t213 ≥ t212 then ((retry_Most.f (ji6) ((ji8) + 1)).bind fun t214 => (some (decide (t214 ≥ t212)))) else (some false))) else (some false)) = some r := H
    have A9 := Aside0.mk A90
    clear A90
    by_cases c10 : t212 = (wrap64 (((ji6) + 2) * (wrap64 ((wrap64 ((wrap64 ((((ji6) + 1) + 2) + (wrap64 ((ji8) * ((ji6) + 1))))) + (ji6))) + 1))))
    · rw [if_pos c10] at H
      have c10b0 : (t212 == (wrap64 (((ji6) + 2) * (wrap64 ((wrap64 ((wrap64 ((((ji6) + 1) + 2) + (wrap64 ((ji8) * ((ji6) + 1))))) + (ji6))) + 1))))) = true := beq_iff_eq.mpr c10
      have c10b1 : (t212 != (wrap64 (((ji6) + 2) * (wrap64 ((wrap64 ((wrap64 ((((ji6) + 1) + 2) + (wrap64 ((ji8) * ((ji6) + 1))))) + (ji6))) + 1))))) = false := bne_eq_false_iff_eq.mpr c10
      clear c10
      replace H := Option.bind_eq_some_iff.mp H
      obtain ⟨t213, A110, H⟩ := H
      replace H : (if t213 ≥ t212 then ((retry_Most.f (ji6) ((ji8) + 1)).bind fun t214 => (some (decide (t214 ≥ t212)))) else (some false)) = some r := H
      have A11 := Aside0.mk A110
      clear A110
      by_cases c12 : t213 ≥ t212
      · rw [if_pos c12] at H
        have c12b0 : decide (t212 ≤ t213) = true := decide_eq_true c12
        clear c12
        replace H := Option.bind_eq_some_iff.mp H
        obtain ⟨t214, A130, H⟩ := H
        replace H : (some (decide (t214 ≥ t212))) = some r := H
        have A13 := Aside0.mk A130
        clear A130
        obtain rfl := Option.some.inj H
        go_enter Try.func6, Try.ntmps6
        go_wp2_with (first | ((with_reducible refine gate_callee (f := 13) rfl ?_); refine goesL_ (some 8) rfl rfl Try.func13 (by kernel_rfl) rfl #[] rfl (by (try simp only [List.map_toArray, List.map_cons, List.map_nil]); first | done | rfl | (simp only [List.length_drop, List.length_take]; rfl)) ?_; (with_reducible refine (spencelaw34_awake.calls  true _ A3.out).mono ?_); rintro e w14 ⟨rfl, hb⟩; refine ⟨_, rfl, ?_⟩; have n0_ := Aside0.mk (below_step (by repeat (first | (with_reducible first | exact HB.out | apply below_alloc | apply pw_below_drewN | apply below_drew1) | exact HB.out)) hb); clear HB; have HB := n0_; clear n0_; (try clear hb); (try clear hb2); (try clear hk); (try clear hi)) | ((with_reducible refine gate_callee (f := 23) rfl ?_); refine goesL_ (some 18) rfl rfl Try.func23 (by kernel_rfl) rfl #[.int .i64 a0, .int .i64 a1] rfl (by (try simp only [List.map_toArray, List.map_cons, List.map_nil]); first | done | rfl | (simp only [List.length_drop, List.length_take]; rfl)) ?_; (with_reducible refine (retry_Most.calls a0 a1 t212 _ A9.out).mono ?_); rintro e w15 ⟨rfl, hb⟩; refine ⟨_, rfl, ?_⟩; have n0_ := Aside0.mk (below_step (by repeat (first | (with_reducible first | exact HB.out | apply below_alloc | apply pw_below_drewN | apply below_drew1) | exact HB.out)) hb); clear HB; have HB := n0_; clear n0_; (try clear hb); (try clear hb2); (try clear hk); (try clear hi)) | (go_at_call 23; (with_reducible refine (retry_Most.calls ((ji6) + 1) ji8 t213 _ A11.out).mono ?_); rintro e w16 ⟨rfl, hb⟩; have n0_ := Aside0.mk (below_step (by repeat (first | (with_reducible first | exact HB.out | apply below_alloc | apply pw_below_drewN | apply below_drew1) | exact HB.out)) hb); clear HB; have HB := n0_; clear n0_; (try clear hb); (try clear hb2); (try clear hk); (try clear hi)) | (go_at_call 23; (with_reducible refine (retry_Most.calls ji6 ((ji8) + 1) t214 _ A13.out).mono ?_); rintro e w17 ⟨rfl, hb⟩; have n0_ := Aside0.mk (below_step (by repeat (first | (with_reducible first | exact HB.out | apply below_alloc | apply pw_below_drewN | apply below_drew1) | exact HB.out)) hb); clear HB; have HB := n0_; clear n0_; (try clear hb); (try clear hb2); (try clear hk); (try clear hi)))
        go_ret
        exact ⟨by first | rfl | exact ne_empty _ | exact eq_empty _ | (simp [errW_none, errW_some] <;> rfl) | (simp only [← hji5, ← hji6, ← hji7, ← hji8]; first | rfl | (simp [errW_none, errW_some] <;> rfl)) | (simp [*, errW_none, errW_some] <;> rfl), by repeat (first | (with_reducible first | exact HB.out | apply below_alloc | apply pw_below_drewN | apply below_drew1) | exact HB.out)⟩
      · rw [if_neg c12] at H
        have c12b0 : decide (t212 ≤ t213) = false := decide_eq_false c12
        clear c12
        obtain rfl := Option.some.inj H
        go_enter Try.func6, Try.ntmps6
        go_wp2_with (first | ((with_reducible refine gate_callee (f := 13) rfl ?_); refine goesL_ (some 8) rfl rfl Try.func13 (by kernel_rfl) rfl #[] rfl (by (try simp only [List.map_toArray, List.map_cons, List.map_nil]); first | done | rfl | (simp only [List.length_drop, List.length_take]; rfl)) ?_; (with_reducible refine (spencelaw34_awake.calls  true _ A3.out).mono ?_); rintro e w18 ⟨rfl, hb⟩; refine ⟨_, rfl, ?_⟩; have n0_ := Aside0.mk (below_step (by repeat (first | (with_reducible first | exact HB.out | apply below_alloc | apply pw_below_drewN | apply below_drew1) | exact HB.out)) hb); clear HB; have HB := n0_; clear n0_; (try clear hb); (try clear hb2); (try clear hk); (try clear hi)) | ((with_reducible refine gate_callee (f := 23) rfl ?_); refine goesL_ (some 18) rfl rfl Try.func23 (by kernel_rfl) rfl #[.int .i64 a0, .int .i64 a1] rfl (by (try simp only [List.map_toArray, List.map_cons, List.map_nil]); first | done | rfl | (simp only [List.length_drop, List.length_take]; rfl)) ?_; (with_reducible refine (retry_Most.calls a0 a1 t212 _ A9.out).mono ?_); rintro e w19 ⟨rfl, hb⟩; refine ⟨_, rfl, ?_⟩; have n0_ := Aside0.mk (below_step (by repeat (first | (with_reducible first | exact HB.out | apply below_alloc | apply pw_below_drewN | apply below_drew1) | exact HB.out)) hb); clear HB; have HB := n0_; clear n0_; (try clear hb); (try clear hb2); (try clear hk); (try clear hi)) | (go_at_call 23; (with_reducible refine (retry_Most.calls ((ji6) + 1) ji8 t213 _ A11.out).mono ?_); rintro e w20 ⟨rfl, hb⟩; have n0_ := Aside0.mk (below_step (by repeat (first | (with_reducible first | exact HB.out | apply below_alloc | apply pw_below_drewN | apply below_drew1) | exact HB.out)) hb); clear HB; have HB := n0_; clear n0_; (try clear hb); (try clear hb2); (try clear hk); (try clear hi)))
        go_ret
        exact ⟨by first | rfl | exact ne_empty _ | exact eq_empty _ | (simp [errW_none, errW_some] <;> rfl) | (simp only [← hji5, ← hji6, ← hji7, ← hji8]; first | rfl | (simp [errW_none, errW_some] <;> rfl)) | (simp [*, errW_none, errW_some] <;> rfl), by repeat (first | (with_reducible first | exact HB.out | apply below_alloc | apply pw_below_drewN | apply below_drew1) | exact HB.out)⟩
    · rw [if_neg c10] at H
      have c10b0 : (t212 == (wrap64 (((ji6) + 2) * (wrap64 ((wrap64 ((wrap64 ((((ji6) + 1) + 2) + (wrap64 ((ji8) * ((ji6) + 1))))) + (ji6))) + 1))))) = false := beq_eq_false_iff_ne.mpr c10
      have c10b1 : (t212 != (wrap64 (((ji6) + 2) * (wrap64 ((wrap64 ((wrap64 ((((ji6) + 1) + 2) + (wrap64 ((ji8) * ((ji6) + 1))))) + (ji6))) + 1))))) = true := bne_iff_ne.mpr c10
      obtain rfl := Option.some.inj H
      go_enter Try.func6, Try.ntmps6
      go_wp2_with (first | ((with_reducible refine gate_callee (f := 13) rfl ?_); refine goesL_ (some 8) rfl rfl Try.func13 (by kernel_rfl) rfl #[] rfl (by (try simp only [List.map_toArray, List.map_cons, List.map_nil]); first | done | rfl | (simp only [List.length_drop, List.length_take]; rfl)) ?_; (with_reducible refine (spencelaw34_awake.calls  true _ A3.out).mono ?_); rintro e w21 ⟨rfl, hb⟩; refine ⟨_, rfl, ?_⟩; have n0_ := Aside0.mk (below_step (by repeat (first | (with_reducible first | exact HB.out | apply below_alloc | apply pw_below_drewN | apply below_drew1) | exact HB.out)) hb); clear HB; have HB := n0_; clear n0_; (try clear hb); (try clear hb2); (try clear hk); (try clear hi)) | ((with_reducible refine gate_callee (f := 23) rfl ?_); refine goesL_ (some 18) rfl rfl Try.func23 (by kernel_rfl) rfl #[.int .i64 a0, .int .i64 a1] rfl (by (try simp only [List.map_toArray, List.map_cons, List.map_nil]); first | done | rfl | (simp only [List.length_drop, List.length_take]; rfl)) ?_; (with_reducible refine (retry_Most.calls a0 a1 t212 _ A9.out).mono ?_); rintro e w22 ⟨rfl, hb⟩; refine ⟨_, rfl, ?_⟩; have n0_ := Aside0.mk (below_step (by repeat (first | (with_reducible first | exact HB.out | apply below_alloc | apply pw_below_drewN | apply below_drew1) | exact HB.out)) hb); clear HB; have HB := n0_; clear n0_; (try clear hb); (try clear hb2); (try clear hk); (try clear hi)))
      go_ret
      exact ⟨by first | rfl | exact ne_empty _ | exact eq_empty _ | (simp [errW_none, errW_some] <;> rfl) | (simp only [← hji5, ← hji6, ← hji7, ← hji8]; first | rfl | (simp [errW_none, errW_some] <;> rfl)) | (simp [*, errW_none, errW_some] <;> rfl), by repeat (first | (with_reducible first | exact HB.out | apply below_alloc | apply pw_below_drewN | apply below_drew1) | exact HB.out)⟩
  · replace c4 := Bool.eq_false_iff.mpr c4
    subst c4
    have H1 : (some false) = some r := by rw [if_neg (show ¬ (false = true) by decide)] at H; exact H
    clear H
    have H := H1
    clear H1
    obtain rfl := Option.some.inj H
    go_enter Try.func6, Try.ntmps6
    go_wp2_with (first | ((with_reducible refine gate_callee (f := 13) rfl ?_); refine goesL_ (some 8) rfl rfl Try.func13 (by kernel_rfl) rfl #[] rfl (by (try simp only [List.map_toArray, List.map_cons, List.map_nil]); first | done | rfl | (simp only [List.length_drop, List.length_take]; rfl)) ?_; (with_reducible refine (spencelaw34_awake.calls  false _ A3.out).mono ?_); rintro e w23 ⟨rfl, hb⟩; refine ⟨_, rfl, ?_⟩; have n0_ := Aside0.mk (below_step (by repeat (first | (with_reducible first | exact HB.out | apply below_alloc | apply pw_below_drewN | apply below_drew1) | exact HB.out)) hb); clear HB; have HB := n0_; clear n0_; (try clear hb); (try clear hb2); (try clear hk); (try clear hi)))
    go_ret
    exact ⟨by first | rfl | exact ne_empty _ | exact eq_empty _ | (simp [errW_none, errW_some] <;> rfl) | (simp [*, errW_none, errW_some] <;> rfl), by repeat (first | (with_reducible first | exact HB.out | apply below_alloc | apply pw_below_drewN | apply below_drew1) | exact HB.out)⟩

/-- THE ONE PURE STATEMENT of spencelaw34_RetryMost. -/
def spencelaw34_RetryMost.Pure : Prop := ∀ (a0 : Int) (a1 : Int), (Lit.int .i64 a0).wf = true → (Lit.int .i64 a1).wf = true → spencelaw34_RetryMost.f a0 a1 = some true

end Go.Proofs.Ytmojlhpkidbklaa.PAll
