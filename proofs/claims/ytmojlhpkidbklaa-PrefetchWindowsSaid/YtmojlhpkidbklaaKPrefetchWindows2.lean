/- The law PrefetchWindows: for every input the call returns true, and each argument reads behind the call as it read before. No condition. (The row, and the plain law ahead of it.) -/
import Derived.Test.YtmojlhpkidbklaaKPrefetchWindows1
import Derived.Laws.BitsLemmas
import Derived.Test.YtmojlhpkidbklaaKPrefetchWindows0
import Derived.OpenShut
import Derived.Test.YtmojlhpkidbklaaRows
import Derived.WalkKit
import Derived.ProofKit
import Derived.ShutString
import Derived.ChangeOld
import Derived.Below
import Derived.SizedLaws
namespace Go.Proofs.Ytmojlhpkidbklaa.PAll
open Go.Proofs.Ytmojlhpkidbklaa.Ag (row_load row_store ag_gate ag_gate_st row_store2)
open Go.RowKit Go.Proofs.Ytmojlhpkidbklaa.Xw Go.Proofs.YtmojlhpkidbklaaW.PrintWords Go.Proofs.YtmojlhpkidbklaaW.PrintLast Go.Proofs.YtmojlhpkidbklaaW.PrintMore
attribute [local go_sem] max2_int min2_int max_two min_two max_three min_three max_four min_four   -- for this text's walks alone
attribute [local go_sem ↓] Ag.ldMap_eq Ag.ldTrk_eq
set_option linter.unusedVariables false
set_option linter.unusedSimpArgs false
mutual
def spencelaw29_PrefetchWindows.j0 : Nat → List (S72) → Int → Int → Int → Int → Int → List Int → Bool → Option (Bool)
  | 0, _, _, _, _, _, _, _, _ => none
  | k + 1, x0, x1, x2, x3, x4, x5, x6, x31 => if x31 = true then (some true) else ((prefetch_New.f).bind fun t400 => (spencelaw29_PrefetchWindows.l0 k x1 x2 x3 x4 x5 x6 x0 (x0.length : Int) 0 t400))
def spencelaw29_PrefetchWindows.l0 : Nat → Int → Int → Int → Int → Int → List Int → List (S72) → Int → Int → (Nat → Int) → Option (Bool)
  | 0, _, _, _, _, _, _, _, _, _, _ => none
  | k + 1, x1, x2, x3, x4, x5, x6, x33, x34, x35, x402000 => if x35 < x34 then (if 0 ≤ x35 then (if x35 < (x33.length : Int) then ((prefetch_Track_Note.f x402000 ((rd_T72 x33 x35).f0) ((rd_T72 x33 x35).f1) ((rd_T72 x33 x35).f2)).bind fun t404 => (spencelaw29_PrefetchWindows.l0 k x1 x2 x3 x4 x5 x6 x33 x34 (wrap64 (x35 + 1)) t404)) else (none)) else (none)) else ((bitmap_Of.f x6).bind fun t405 => ((prefetch_Window.f k x402000 x1 x2 x3 x4 x5 t405).bind fun t406 => ((prefetch_Track_Row.f x402000 x1).bind fun t409 => ((spenceref04_Bounds.f k x2 x3 x4).bind fun bt410 => (if bt410.2 > 0 then (spencelaw29_PrefetchWindows.l1 k x2 x3 x4 x6 t406 (mn x5 (wrap64 (t409 - 1))) ([] : List Int) (wrap64 (x2 + 1))) else ((spenceref01_Ints.f k t406 ([] : List Int)).bind fun t419 => (some t419)))))))
def spencelaw29_PrefetchWindows.l1 : Nat → Int → Int → Int → List Int → List Int → Int → List Int → Int → Option (Bool)
  | 0, _, _, _, _, _, _, _, _ => none
  | k + 1, x2, x3, x4, x6, x18, x19, x20, x21 => if (wrap64 (x21 - x2)) ≤ x19 then ((spenceref04_Bounds.f k x21 x3 x4).bind fun bt412 => (spencelaw29_PrefetchWindows.j3 k x2 x3 x4 x6 x18 x19 x20 x21 (decide (bt412.2 > 0)))) else (spencelaw29_PrefetchWindows.j3 k x2 x3 x4 x6 x18 x19 x20 x21 false)
def spencelaw29_PrefetchWindows.j3 : Nat → Int → Int → Int → List Int → List Int → Int → List Int → Int → Bool → Option (Bool)
  | 0, _, _, _, _, _, _, _, _, _ => none
  | k + 1, x2, x3, x4, x6, x18, x19, x20, x21, x83 => if x83 = true then ((spenceref01_In.f k x6 x21).bind fun t414 => (if t414 = true then (spencelaw29_PrefetchWindows.l1 k x2 x3 x4 x6 x18 x19 x20 (wrap64 (x21 + 1))) else (if x20.length < 17592186044416 then (spencelaw29_PrefetchWindows.l1 k x2 x3 x4 x6 x18 x19 (x20 ++ [x21]) (wrap64 (x21 + 1))) else (none)))) else ((spenceref01_Ints.f k x18 x20).bind fun t418 => (some t418))
end
def spencelaw29_PrefetchWindows.f (k : Nat) (l0 : List (S72)) (a1 : Int) (a2 : Int) (a3 : Int) (a4 : Int) (a5 : Int) (l6 : List Int) : Option (Bool) := (spencelaw29_awake.f k).bind fun t399 => (if t399 = true then (if (l0.length : Int) > 100 then (spencelaw29_PrefetchWindows.j0 k l0 a1 a2 a3 a4 a5 l6 true) else (spencelaw29_PrefetchWindows.j0 k l0 a1 a2 a3 a4 a5 l6 (decide ((l6.length : Int) > 60)))) else (some false))
theorem spencelaw29_PrefetchWindows.mono_l : ∀ k, (∀ y0 y1 y2 y3 y4 y5 y6 y7, LeO (spencelaw29_PrefetchWindows.j0 k y0 y1 y2 y3 y4 y5 y6 y7) (spencelaw29_PrefetchWindows.j0 (k + 1) y0 y1 y2 y3 y4 y5 y6 y7)) ∧ (∀ y0 y1 y2 y3 y4 y5 y6 y7 y8 y9, LeO (spencelaw29_PrefetchWindows.l0 k y0 y1 y2 y3 y4 y5 y6 y7 y8 y9) (spencelaw29_PrefetchWindows.l0 (k + 1) y0 y1 y2 y3 y4 y5 y6 y7 y8 y9)) ∧ (∀ y0 y1 y2 y3 y4 y5 y6 y7, LeO (spencelaw29_PrefetchWindows.l1 k y0 y1 y2 y3 y4 y5 y6 y7) (spencelaw29_PrefetchWindows.l1 (k + 1) y0 y1 y2 y3 y4 y5 y6 y7)) ∧ (∀ y0 y1 y2 y3 y4 y5 y6 y7 y8, LeO (spencelaw29_PrefetchWindows.j3 k y0 y1 y2 y3 y4 y5 y6 y7 y8) (spencelaw29_PrefetchWindows.j3 (k + 1) y0 y1 y2 y3 y4 y5 y6 y7 y8))
  | 0 => ⟨fun _ _ _ _ _ _ _ _ r h => by simp [spencelaw29_PrefetchWindows.j0] at h, fun _ _ _ _ _ _ _ _ _ _ r h => by simp [spencelaw29_PrefetchWindows.l0] at h, fun _ _ _ _ _ _ _ _ r h => by simp [spencelaw29_PrefetchWindows.l1] at h, fun _ _ _ _ _ _ _ _ _ r h => by simp [spencelaw29_PrefetchWindows.j3] at h⟩
  | k + 1 => by
    obtain ⟨ih0, ih1, ih2, ih3⟩ := spencelaw29_PrefetchWindows.mono_l k
    refine ⟨?_, ?_, ?_, ?_⟩
    · intro y0 y1 y2 y3 y4 y5 y6 y7
      unfold spencelaw29_PrefetchWindows.j0
      repeat' first
      | (with_reducible exact ih0 _ _ _ _ _ _ _ _)
      | (with_reducible exact ih1 _ _ _ _ _ _ _ _ _ _)
      | (with_reducible exact ih2 _ _ _ _ _ _ _ _)
      | (with_reducible exact ih3 _ _ _ _ _ _ _ _ _)
      | (with_reducible exact prefetch_Window.mono _ _ _ _ _ _ _ _)
      | (with_reducible exact spencelaw29_awake.mono _)
      | (with_reducible exact spenceref01_In.mono _ _ _)
      | (with_reducible exact spenceref01_Ints.mono _ _ _)
      | (with_reducible exact spenceref04_Bounds.mono _ _ _ _)
      | (with_reducible exact LeO.refl _)
      | (with_reducible exact LeO.none _)
      | (with_reducible refine LeO.ite ?_ ?_)
      | (with_reducible refine LeO.bind ?_ (fun _ => ?_))
      | exact ih0 _ _ _ _ _ _ _ _
      | exact ih1 _ _ _ _ _ _ _ _ _ _
      | exact ih2 _ _ _ _ _ _ _ _
      | exact ih3 _ _ _ _ _ _ _ _ _
      | exact prefetch_Window.mono _ _ _ _ _ _ _ _
      | exact spencelaw29_awake.mono _
      | exact spenceref01_In.mono _ _ _
      | exact spenceref01_Ints.mono _ _ _
      | exact spenceref04_Bounds.mono _ _ _ _
      | exact LeO.none _
      | refine LeO.ite ?_ ?_
      | refine LeO.bind ?_ (fun _ => ?_)
    · intro y0 y1 y2 y3 y4 y5 y6 y7 y8 y9
      unfold spencelaw29_PrefetchWindows.l0
      repeat' first
      | (with_reducible exact ih0 _ _ _ _ _ _ _ _)
      | (with_reducible exact ih1 _ _ _ _ _ _ _ _ _ _)
      | (with_reducible exact ih2 _ _ _ _ _ _ _ _)
      | (with_reducible exact ih3 _ _ _ _ _ _ _ _ _)
      | (with_reducible exact prefetch_Window.mono _ _ _ _ _ _ _ _)
      | (with_reducible exact spencelaw29_awake.mono _)
      | (with_reducible exact spenceref01_In.mono _ _ _)
      | (with_reducible exact spenceref01_Ints.mono _ _ _)
      | (with_reducible exact spenceref04_Bounds.mono _ _ _ _)
      | (with_reducible exact LeO.refl _)
      | (with_reducible exact LeO.none _)
      | (with_reducible refine LeO.ite ?_ ?_)
      | (with_reducible refine LeO.bind ?_ (fun _ => ?_))
      | exact ih0 _ _ _ _ _ _ _ _
      | exact ih1 _ _ _ _ _ _ _ _ _ _
      | exact ih2 _ _ _ _ _ _ _ _
      | exact ih3 _ _ _ _ _ _ _ _ _
      | exact prefetch_Window.mono _ _ _ _ _ _ _ _
      | exact spencelaw29_awake.mono _
      | exact spenceref01_In.mono _ _ _
      | exact spenceref01_Ints.mono _ _ _
      | exact spenceref04_Bounds.mono _ _ _ _
      | exact LeO.none _
      | refine LeO.ite ?_ ?_
      | refine LeO.bind ?_ (fun _ => ?_)
    · intro y0 y1 y2 y3 y4 y5 y6 y7
      unfold spencelaw29_PrefetchWindows.l1
      repeat' first
      | (with_reducible exact ih0 _ _ _ _ _ _ _ _)
      | (with_reducible exact ih1 _ _ _ _ _ _ _ _ _ _)
      | (with_reducible exact ih2 _ _ _ _ _ _ _ _)
      | (with_reducible exact ih3 _ _ _ _ _ _ _ _ _)
      | (with_reducible exact prefetch_Window.mono _ _ _ _ _ _ _ _)
      | (with_reducible exact spencelaw29_awake.mono _)
      | (with_reducible exact spenceref01_In.mono _ _ _)
      | (with_reducible exact spenceref01_Ints.mono _ _ _)
      | (with_reducible exact spenceref04_Bounds.mono _ _ _ _)
      | (with_reducible exact LeO.refl _)
      | (with_reducible exact LeO.none _)
      | (with_reducible refine LeO.ite ?_ ?_)
      | (with_reducible refine LeO.bind ?_ (fun _ => ?_))
      | exact ih0 _ _ _ _ _ _ _ _
      | exact ih1 _ _ _ _ _ _ _ _ _ _
      | exact ih2 _ _ _ _ _ _ _ _
      | exact ih3 _ _ _ _ _ _ _ _ _
      | exact prefetch_Window.mono _ _ _ _ _ _ _ _
      | exact spencelaw29_awake.mono _
      | exact spenceref01_In.mono _ _ _
      | exact spenceref01_Ints.mono _ _ _
      | exact spenceref04_Bounds.mono _ _ _ _
      | exact LeO.none _
      | refine LeO.ite ?_ ?_
      | refine LeO.bind ?_ (fun _ => ?_)
    · intro y0 y1 y2 y3 y4 y5 y6 y7 y8
      unfold spencelaw29_PrefetchWindows.j3
      repeat' first
      | (with_reducible exact ih0 _ _ _ _ _ _ _ _)
      | (with_reducible exact ih1 _ _ _ _ _ _ _ _ _ _)
      | (with_reducible exact ih2 _ _ _ _ _ _ _ _)
      | (with_reducible exact ih3 _ _ _ _ _ _ _ _ _)
      | (with_reducible exact prefetch_Window.mono _ _ _ _ _ _ _ _)
      | (with_reducible exact spencelaw29_awake.mono _)
      | (with_reducible exact spenceref01_In.mono _ _ _)
      | (with_reducible exact spenceref01_Ints.mono _ _ _)
      | (with_reducible exact spenceref04_Bounds.mono _ _ _ _)
      | (with_reducible exact LeO.refl _)
      | (with_reducible exact LeO.none _)
      | (with_reducible refine LeO.ite ?_ ?_)
      | (with_reducible refine LeO.bind ?_ (fun _ => ?_))
      | exact ih0 _ _ _ _ _ _ _ _
      | exact ih1 _ _ _ _ _ _ _ _ _ _
      | exact ih2 _ _ _ _ _ _ _ _
      | exact ih3 _ _ _ _ _ _ _ _ _
      | exact prefetch_Window.mono _ _ _ _ _ _ _ _
      | exact spencelaw29_awake.mono _
      | exact spenceref01_In.mono _ _ _
      | exact spenceref01_Ints.mono _ _ _
      | exact spenceref04_Bounds.mono _ _ _ _
      | exact LeO.none _
      | refine LeO.ite ?_ ?_
      | refine LeO.bind ?_ (fun _ => ?_)
theorem spencelaw29_PrefetchWindows.mono : ∀ a0 a1 a2 a3 a4 a5 a6 k, LeO (spencelaw29_PrefetchWindows.f k a0 a1 a2 a3 a4 a5 a6) (spencelaw29_PrefetchWindows.f (k + 1) a0 a1 a2 a3 a4 a5 a6) := by
  intro a0 a1 a2 a3 a4 a5 a6 k
  obtain ⟨ih0, ih1, ih2, ih3⟩ := spencelaw29_PrefetchWindows.mono_l k
  unfold spencelaw29_PrefetchWindows.f
  repeat' first
      | (with_reducible exact ih0 _ _ _ _ _ _ _ _)
      | (with_reducible exact ih1 _ _ _ _ _ _ _ _ _ _)
      | (with_reducible exact ih2 _ _ _ _ _ _ _ _)
      | (with_reducible exact ih3 _ _ _ _ _ _ _ _ _)
      | (with_reducible exact prefetch_Window.mono _ _ _ _ _ _ _ _)
      | (with_reducible exact spencelaw29_awake.mono _)
      | (with_reducible exact spenceref01_In.mono _ _ _)
      | (with_reducible exact spenceref01_Ints.mono _ _ _)
      | (with_reducible exact spenceref04_Bounds.mono _ _ _ _)
      | (with_reducible exact LeO.refl _)
      | (with_reducible exact LeO.none _)
      | (with_reducible refine LeO.ite ?_ ?_)
      | (with_reducible refine LeO.bind ?_ (fun _ => ?_))
      | exact ih0 _ _ _ _ _ _ _ _
      | exact ih1 _ _ _ _ _ _ _ _ _ _
      | exact ih2 _ _ _ _ _ _ _ _
      | exact ih3 _ _ _ _ _ _ _ _ _
      | exact prefetch_Window.mono _ _ _ _ _ _ _ _
      | exact spencelaw29_awake.mono _
      | exact spenceref01_In.mono _ _ _
      | exact spenceref01_Ints.mono _ _ _
      | exact spenceref04_Bounds.mono _ _ _ _
      | exact LeO.none _
      | refine LeO.ite ?_ ?_
      | refine LeO.bind ?_ (fun _ => ?_)
def spencelaw29_PrefetchWindows.T11 : Bool × List (List Nat × List Nat) := (true, [([], []), ([], []), ([], []), ([], []), ([], []), ([], []), ([], []), ([6], [6]), ([0, 1, 2, 3, 4, 5, 7, 7], [0, 1, 2, 3, 4, 5, 7]), ([8, 8, 0, 1, 2, 3, 4, 5, 6, 7, 8], [8])])
def spencelaw29_PrefetchWindows.B11 : List Nat := [0, 0, 0, 0, 0, 0, 0, 64, 255, 511]
theorem spencelaw29_PrefetchWindows.tab11 : rtab .any (opsOf Try.f11 11) = spencelaw29_PrefetchWindows.T11 := by kernel_rfl
theorem spencelaw29_PrefetchWindows.bits11 : waitsOk spencelaw29_PrefetchWindows.T11.2 spencelaw29_PrefetchWindows.B11 = true := by kernel_rfl
set_option maxHeartbeats 8000000 in
set_option maxRecDepth 100000 in
theorem spencelaw29_PrefetchWindows.calls (k : Nat) (A0 : Option Addr) (c0 : Nat) (l0 : List (S72)) (a1 : Int) (a2 : Int) (a3 : Int) (a4 : Int) (a5 : Int) (A6 : Option Addr) (c6 : Nat) (l6 : List Int) (r : Bool) (w : World) (hr0 : Kd.C k72 w A0 l0.length l0) (hc0 : l0.length ≤ c0) (hr6 : Kd.C (Kd.int .i64) w A6 l6.length l6) (hc6 : l6.length ≤ c6) (h : spencelaw29_PrefetchWindows.f k l0 a1 a2 a3 a4 a5 l6 = some r) :
    Calls Try.prog 11 #[.slice A0 l0.length c0, .int .i64 a1, .int .i64 a2, .int .i64 a3, .int .i64 a4, .int .i64 a5, .slice A6 l6.length c6] w fun e w' => e = .returned (.bool r) ∧ Below w.heap.size w w' := by
  have hu69 := Try.underlying69
  have hu72 := Try.underlying72
  have HR0 := Aside0.mk hr0
  have HC0 := Aside0.mk hc0
  clear hr0 hc0
  have HR6 := Aside0.mk hr6
  have HC6 := Aside0.mk hc6
  clear hr6 hc6
  have HB := Aside0.mk (Below.refl w.heap.size w)
  have H : ((spencelaw29_awake.f k).bind fun t399 => (if t399 = true then (if (l0.length : Int) > 100 then (spencelaw29_PrefetchWindows.j0 k l0 a1 a2 a3 a4 a5 l6 true) else (spencelaw29_PrefetchWindows.j0 k l0 a1 a2 a3 a4 a5 l6 (decide ((l6.length : Int) > 60)))) else (some false))) = some r := h
  clear h
  replace H := Option.bind_eq_some_iff.mp H
  obtain ⟨t399, A80, H⟩ := H
  replace H : (if t399 = true then (if (l0.length : Int) > 100 then (spencelaw29_PrefetchWindows.j0 k l0 a1 a2 a3 a4 a5 l6 true) else (spencelaw29_PrefetchWindows.j0 k l0 a1 a2 a3 a4 a5 l6 (decide ((l6.length : Int) > 60)))) else (some false)) = some r := H
  have A8 := Aside0.mk A80
  clear A80
  by_cases c9 : t399 = true
  · subst c9
    have H1 : (if (l0.length : Int) > 100 then (spencelaw29_PrefetchWindows.j0 k l0 a1 a2 a3 a4 a5 l6 true) else (spencelaw29_PrefetchWindows.j0 k l0 a1 a2 a3 a4 a5 l6 (decide ((l6.length : Int) > 60)))) = some r := by rw [if_pos rfl] at H; exact H
    clear H
    have H := H1
    clear H1
    have HC10 := Aside0.mk H
    clear H
    go_enter Try.func11, Try.ntmps11
    go_upto_region 3 with (first | ((with_reducible refine gate_callee (f := 43) rfl ?_); refine goesL_ (some 22) rfl rfl Try.func43 (by kernel_rfl) rfl #[] rfl (by (try simp only [List.map_toArray, List.map_cons, List.map_nil]); first | done | rfl | (simp only [List.length_drop, List.length_take]; rfl)) ?_; (with_reducible refine (spencelaw29_awake.calls k  true _ A8.out).mono ?_); rintro e w11 ⟨rfl, hb⟩; refine ⟨_, rfl, ?_⟩; have n0_ := Aside0.mk (below_step (by repeat (first | (with_reducible first | exact HB.out | apply below_alloc | apply pw_below_drewN | apply below_drew1) | exact HB.out)) hb); clear HB; have HB := n0_; clear n0_; (try clear hb); (try clear hb2); (try clear hk); (try clear hi)))
    (try simp only [Act.put, List.setIfInBounds_toArray, List.set_cons_zero, List.set_cons_succ])
    go_cut [31] (fun v31 wc => ∃ (kq : Nat) (x31_9 : Bool), v31 = .bool x31_9 ∧ Aside0 (spencelaw29_PrefetchWindows.j0 kq l0 a1 a2 a3 a4 a5 l6 x31_9 = some r) ∧ Aside0 (kq ≤ k) ∧ Aside0 (Below w.heap.size w wc))
    case first =>
      have H := HC10.out
      clear HC10
      by_cases c12 : (l0.length : Int) > 100
      · rw [if_pos c12] at H
        have c12b0 : decide (100 < (l0.length : Int)) = true := decide_eq_true c12
        have c12b1 : decide (100 < l0.length) = true := decide_eq_true (by omega)
        clear c12
        (first | rw [c12b0] | (simp only [i64_w, i32_w]; rw [c12b0]) | skip)
        have H' := Aside0.mk H
        clear H
        go_wp2
        go_meet
        case rel => exact ⟨_, (true), (by first | rfl | (simp; done) | (simp [*]; done)), H', ⟨by first | omega | exact Nat.le_refl _⟩, ⟨by repeat (first | (with_reducible first | exact HB.out | apply below_alloc | apply pw_below_drewN | apply below_drew1) | exact HB.out)⟩⟩
      · rw [if_neg c12] at H
        have c12b0 : decide (100 < (l0.length : Int)) = false := decide_eq_false c12
        have c12b1 : decide (100 < l0.length) = false := decide_eq_false (by omega)
        clear c12
        (first | rw [c12b0] | (simp only [i64_w, i32_w]; rw [c12b0]) | skip)
        have H' := Aside0.mk H
        clear H
        go_wp2
        go_meet
        case rel => exact ⟨_, (decide ((l6.length : Int) > 60)), (by first | rfl | (simp; done) | (simp [*]; done)), H', ⟨by first | omega | exact Nat.le_refl _⟩, ⟨by repeat (first | (with_reducible first | exact HB.out | apply below_alloc | apply pw_below_drewN | apply below_drew1) | exact HB.out)⟩⟩
    case rest =>
      clear HC10
      try clear c1
      try clear p2
      try clear c4
      try clear c6
      try clear c9
      try clear c11
      try clear c12
      try clear c12b0
      try clear c12b1
      obtain ⟨kq, x31_9, rfl, HA, HJ9, HB⟩ := hcut
      cases kq with
      | zero => exact absurd HA.out (by simp [spencelaw29_PrefetchWindows.j0])
      | succ kj9 =>
        have H := HA.out
        clear HA
        simp only [spencelaw29_PrefetchWindows.j0] at H
        by_cases c13 : x31_9 = true
        · subst c13
          have H1 : (some true) = some r := by rw [if_pos rfl] at H; exact H
          clear H
          have H := H1
          clear H1
          obtain rfl := Option.some.inj H
          go_wp2
          go_ret
          exact ⟨by first | rfl | exact ne_empty _ | exact eq_empty _ | (simp [errW_none, errW_some] <;> rfl) | (simp [*, errW_none, errW_some] <;> rfl), by repeat (first | (with_reducible first | exact HB.out | apply below_alloc | apply pw_below_drewN | apply below_drew1) | exact HB.out)⟩
        · replace c13 := Bool.eq_false_iff.mpr c13
          subst c13
          have H1 : ((prefetch_New.f).bind fun t400 => (spencelaw29_PrefetchWindows.l0 kj9 a1 a2 a3 a4 a5 l6 l0 (l0.length : Int) 0 t400)) = some r := by rw [if_neg (show ¬ (false = true) by decide)] at H; exact H
          clear H
          have H := H1
          clear H1
          replace H := Option.bind_eq_some_iff.mp H
          obtain ⟨t400, A140, H⟩ := H
          replace H : (spencelaw29_PrefetchWindows.l0 kj9 a1 a2 a3 a4 a5 l6 l0 (l0.length : Int) 0 t400) = some r := H
          have A14 := Aside0.mk A140
          clear A140
          have H' := Aside0.mk H
          clear H
          go_wp2_with (first | ((with_reducible refine ag_gate (t := 69) rfl ?_); first | refine row_load rfl 69 _ rfl _ rfl .i64 32 _ 69 _ BK401.out Try.underlying69 rfl Ag.info_trk ?_ | refine row_load rfl 69 _ rfl _ rfl .i64 32 _ 69 _ (by first | exact BK401.out | (repeat (first | exact BK401.out | refine blk_far ?_ (by assumption) _ | refine Ag.row_far ?_ (by assumption) _))) Try.underlying69 rfl Ag.info_trk ?_) | ((with_reducible refine ag_gate_st (t := 69) rfl ?_); first | refine row_store2 rfl 69 _ _ rfl rfl _ rfl .i64 32 _ rfl _ 69 BK401.out Ag.info_trk (Ag.agC_size _ _ _) ?_ | refine row_store2 rfl 69 _ _ rfl rfl _ rfl .i64 32 _ rfl _ 69 (by first | exact BK401.out | (repeat (first | exact BK401.out | refine blk_far ?_ (by assumption) _ | refine Ag.row_far ?_ (by assumption) _))) Ag.info_trk (Ag.agC_size _ _ _) ?_) | ((with_reducible refine gate_callee (f := 44) rfl ?_); refine goesL_ (some 32) rfl rfl Try.func44 (by kernel_rfl) rfl #[] rfl (by (try simp only [List.map_toArray, List.map_cons, List.map_nil]); first | done | rfl | (simp only [List.length_drop, List.length_take]; rfl)) ?_; (with_reducible refine (prefetch_New.calls  t400 _ A14.out).mono ?_); rintro e w15 ⟨rfl, hb⟩; refine ⟨_, rfl, ?_⟩; have n0_ := Aside0.mk (below_step (by repeat (first | (with_reducible first | exact HB.out | apply below_alloc | apply pw_below_drewN | apply below_drew1) | exact HB.out)) hb); clear HB; have HB := n0_; clear n0_; (try clear hb); (try clear hb2); (try clear hk); (try clear hi)) | ((with_reducible refine gate_dst (N := 15) rfl ?_); (try (refine gate_guard (by rfl) ?_; dsimp only)); refine box_event ?hg (N := 15) ?hd (cs := (Ag.agC .i64 32 (fun _ => 0))) (t := 69) ?hr ?_; (case hd => rfl); (case hg => rfl); (case hr => first | (go_simp; done) | (go_simp; rfl)); intro gb401 hg w16 hbox hb; have n0_ := Aside0.mk (below_step (by repeat (first | (with_reducible first | exact HB.out | apply below_alloc | apply pw_below_drewN | apply below_drew1) | exact HB.out)) hb); have n1_ := Aside0.mk (hbox); have n2_ := Aside0.mk ((by rw [hg]; exact (below_size (by repeat (first | (with_reducible first | exact HB.out | apply below_alloc | apply pw_below_drewN | apply below_drew1) | exact HB.out))) : w.heap.size ≤ gb401)); have n3_ := Aside0.mk ((by rw [hg]; exact (below_size (by repeat (first | (with_reducible first | exact HB.out | apply below_alloc | apply pw_below_drewN | apply below_drew1) | exact HB.out))) : w.heap.size ≤ gb401)); clear HB; have HB := n0_; have BK401 := n1_; have GW401 := n2_; have GE401 := n3_; clear n0_ n1_ n2_ n3_; clear hb hbox hg; have hfz17_0 := blk_frozen BK401.out 0))
          go_loopg [35] kj9 (fun kq v35 w' => ∃ (x35_2 : Int) (x402000_2 : (Nat → Int)), v35 = .int .i64 x35_2 ∧ Aside0 (spencelaw29_PrefetchWindows.l0 kq a1 a2 a3 a4 a5 l6 l0 (l0.length : Int) x35_2 x402000_2 = some r) ∧ Aside0 (kq ≤ kj9) ∧ Aside0 (w'.heap[gb401]? = some (.cells (Ag.agC .i64 32 x402000_2) 69 (0, 0))) ∧ Aside0 (Below w.heap.size w w'))
          case atStart => exact ⟨(0), (t400), (by first | rfl | (simp; done) | (simp [*]; done)), H', ⟨Nat.le_refl _⟩, ⟨by (with_reducible repeat (first | refine blk_drewN ?_ _ | refine blk_drew ?_ | refine blk_alloc ?_ _)); refine Ag.row_put (old := (Ag.agC .i64 32 (fun _ => 0))) ?_; (with_reducible repeat (first | refine blk_drewN ?_ _ | refine blk_drew ?_ | refine blk_alloc ?_ _)); exact BK401.out⟩, ⟨by repeat (first | (with_reducible first | exact HB.out | apply below_alloc | apply pw_below_drewN | apply below_drew1 | refine below_set ?_ GE401.out | refine Ag.row_below ?_ GE401.out) | exact HB.out)⟩⟩
          case round =>
            clear H'
            try clear c1
            try clear p2
            try clear c4
            try clear c6
            try clear c9
            try clear c11
            try clear c12
            try clear c12b0
            try clear c12b1
            try clear c13
            try clear hcz17_0
            try clear hfz17_0
            try clear p2
            obtain ⟨x35_2, x402000_2, rfl, HA, HK2, BK401, HB⟩ := hrel
            cases gk with
            | zero => exact absurd HA.out (by simp [spencelaw29_PrefetchWindows.l0])
            | succ k2 =>
              have H := HA.out
              clear HA
              simp only [spencelaw29_PrefetchWindows.l0] at H
              by_cases c18 : x35_2 < (l0.length : Int)
              · rw [if_pos c18] at H
                have c18b0 : decide (x35_2 < (l0.length : Int)) = true := decide_eq_true c18
                clear c18
                by_cases c19 : 0 ≤ x35_2
                · rw [if_pos c19] at H
                  have c19b0 : decide (0 ≤ x35_2) = true := decide_eq_true c19
                  clear c19
                  by_cases c20 : x35_2 < (l0.length : Int)
                  · rw [if_pos c20] at H
                    have c20b0 : decide (x35_2 < (l0.length : Int)) = true := decide_eq_true c20
                    clear c20
                    replace H := Option.bind_eq_some_iff.mp H
                    obtain ⟨t404, A210, H⟩ := H
                    replace H : (spencelaw29_PrefetchWindows.l0 k2 a1 a2 a3 a4 a5 l6 l0 (l0.length : Int) (wrap64 (x35_2 + 1)) t404) = some r := H
                    have A21 := Aside0.mk A210
                    clear A210
                    have H' := Aside0.mk H
                    clear H
                    have p402 : 0 ≤ (x35_2 : Int) := of_decide_eq_true (by first | (with_reducible assumption) | assumption)
                    have q402 : x35_2 < (l0.length : Int) := of_decide_eq_true (by first | (with_reducible assumption) | assumption)
                    obtain ⟨ad402, e402, hx402_0, hx402_1, hx402_2⟩ := at_T72 HR0.out x35_2 p402 q402
                    cases e402
                    replace hx402_0 := (HB.out.cell (World.block_lt_of_cell? w _ hx402_0)).trans hx402_0
                    replace hx402_1 := (HB.out.cell (World.block_lt_of_cell? w _ hx402_1)).trans hx402_1
                    replace hx402_2 := (HB.out.cell (World.block_lt_of_cell? w _ hx402_2)).trans hx402_2
                    replace p402 := eq_true p402
                    replace q402 := eq_true q402
                    go_wp2_with (first | ((with_reducible refine ag_gate (t := 69) rfl ?_); first | refine row_load rfl 69 _ rfl _ rfl .i64 32 _ 69 _ BK401.out Try.underlying69 rfl Ag.info_trk ?_ | refine row_load rfl 69 _ rfl _ rfl .i64 32 _ 69 _ (by first | exact BK401.out | (repeat (first | exact BK401.out | refine blk_far ?_ (by assumption) _ | refine Ag.row_far ?_ (by assumption) _))) Try.underlying69 rfl Ag.info_trk ?_) | ((with_reducible refine ag_gate_st (t := 69) rfl ?_); first | refine row_store2 rfl 69 _ _ rfl rfl _ rfl .i64 32 _ rfl _ 69 BK401.out Ag.info_trk (Ag.agC_size _ _ _) ?_ | refine row_store2 rfl 69 _ _ rfl rfl _ rfl .i64 32 _ rfl _ 69 (by first | exact BK401.out | (repeat (first | exact BK401.out | refine blk_far ?_ (by assumption) _ | refine Ag.row_far ?_ (by assumption) _))) Ag.info_trk (Ag.agC_size _ _ _) ?_) | ((with_reducible refine gate_dst (N := 17) rfl ?_); (try (refine gate_guard (by rfl) ?_; dsimp only)); refine box_event ?hg (N := 17) ?hd (cs := #[.int .i64 0, .int .i64 0, .int .i64 0]) (t := 72) ?hr ?_; (case hd => rfl); (case hg => rfl); (case hr => first | (go_simp; done) | (go_simp; rfl)); intro gb403 hg w22 hbox hb; have n0_ := Aside0.mk (blk_below (g := gb401) (o := .cells (Ag.agC .i64 32 x402000_2) 69 (0, 0)) (by (with_reducible repeat (first | refine blk_drewN ?_ _ | refine blk_drew ?_ | refine blk_alloc ?_ _)); exact BK401.out) hb); have n1_ := Aside0.mk (below_step (by repeat (first | (with_reducible first | exact HB.out | apply below_alloc | apply pw_below_drewN | apply below_drew1 | refine below_set ?_ GE401.out | refine Ag.row_below ?_ GE401.out) | exact HB.out)) hb); have n2_ := Aside0.mk (hbox); have n3_ := Aside0.mk ((by rw [hg]; exact (below_size (by repeat (first | (with_reducible first | exact HB.out | apply below_alloc | apply pw_below_drewN | apply below_drew1 | refine below_set ?_ GE401.out | refine Ag.row_below ?_ GE401.out) | exact HB.out))) : w.heap.size ≤ gb403)); have n4_ := Aside0.mk ((by rw [hg]; exact (below_size (by repeat (first | (with_reducible first | exact HB.out | apply below_alloc | apply pw_below_drewN | apply below_drew1 | refine below_set ?_ GE401.out | refine Ag.row_below ?_ GE401.out) | exact HB.out))) : w.heap.size ≤ gb403)); have n5_ := Aside0.mk ((by rw [hg]; exact Nat.ne_of_lt (blk_lt (g := gb401) (o := .cells (Ag.agC .i64 32 x402000_2) 69 (0, 0)) (by (with_reducible repeat (first | refine blk_drewN ?_ _ | refine blk_drew ?_ | refine blk_alloc ?_ _)); exact BK401.out)) : gb401 ≠ gb403)); have n6_ := Aside0.mk ((by rw [hg]; exact Nat.ne_of_gt (blk_lt (g := gb401) (o := .cells (Ag.agC .i64 32 x402000_2) 69 (0, 0)) (by (with_reducible repeat (first | refine blk_drewN ?_ _ | refine blk_drew ?_ | refine blk_alloc ?_ _)); exact BK401.out)) : gb403 ≠ gb401)); clear BK401; clear HB; have BK401 := n0_; have HB := n1_; have BK403 := n2_; have GW403 := n3_; have GE403 := n4_; have NB401_403 := n5_; have NB403_401 := n6_; clear n0_ n1_ n2_ n3_ n4_ n5_ n6_; clear hb hbox hg; have hnb23 := NB403_401.out; have hnc23 := NB401_403.out; have hcz24_0 : w22.cell? ⟨gb403, 0, none⟩ = some (.int .i64 0) := (blk_cell BK403.out 0).trans rfl; have hcz24_1 : w22.cell? ⟨gb403, 1, none⟩ = some (.int .i64 0) := (blk_cell BK403.out 1).trans rfl; have hcz24_2 : w22.cell? ⟨gb403, 2, none⟩ = some (.int .i64 0) := (blk_cell BK403.out 2).trans rfl; have hfz24_0 := blk_frozen BK403.out 0; have hfz24_1 := blk_frozen BK403.out 1; have hfz24_2 := blk_frozen BK403.out 2; have hfz25_0 := blk_frozen BK401.out 0) | ((with_reducible refine gate_callee (f := 45) rfl ?_); refine goesL_ (some 46) rfl rfl Try.func45 (by kernel_rfl) rfl #[.agg (Ag.agC .i64 32 x402000_2), .int .i64 ((rd_T72 l0 x35_2).f0), .int .i64 ((rd_T72 l0 x35_2).f1), .int .i64 ((rd_T72 l0 x35_2).f2)] rfl (by (try simp only [List.map_toArray, List.map_cons, List.map_nil]); first | done | rfl | (simp only [List.length_drop, List.length_take]; rfl)) ?_; (with_reducible refine (prefetch_Track_Note.calls x402000_2 ((rd_T72 l0 x35_2).f0) ((rd_T72 l0 x35_2).f1) ((rd_T72 l0 x35_2).f2) t404 _ A21.out).mono ?_); rintro e w26 ⟨rfl, hb⟩; refine ⟨_, rfl, ?_⟩; have n0_ := Aside0.mk (blk_below (g := gb401) (o := .cells (Ag.agC .i64 32 x402000_2) 69 (0, 0)) (by (with_reducible repeat (first | refine blk_drewN ?_ _ | refine blk_drew ?_ | refine blk_alloc ?_ _)); refine blk_far ?_ NB401_403.out _; (with_reducible repeat (first | refine blk_drewN ?_ _ | refine blk_drew ?_ | refine blk_alloc ?_ _)); refine blk_far ?_ NB401_403.out _; (with_reducible repeat (first | refine blk_drewN ?_ _ | refine blk_drew ?_ | refine blk_alloc ?_ _)); refine blk_far ?_ NB401_403.out _; (with_reducible repeat (first | refine blk_drewN ?_ _ | refine blk_drew ?_ | refine blk_alloc ?_ _)); exact BK401.out) hb); have n1_ := Aside0.mk (blk_below (g := gb403) (o := .cells #[.int .i64 ((rd_T72 l0 x35_2).f0), .int .i64 ((rd_T72 l0 x35_2).f1), .int .i64 ((rd_T72 l0 x35_2).f2)] 72 (0, 0)) (by (with_reducible repeat (first | refine blk_drewN ?_ _ | refine blk_drew ?_ | refine blk_alloc ?_ _)); refine blk_put (cs := #[.int .i64 ((rd_T72 l0 x35_2).f0), .int .i64 ((rd_T72 l0 x35_2).f1), .int .i64 0]) ?_ 2 _ rfl; (with_reducible repeat (first | refine blk_drewN ?_ _ | refine blk_drew ?_ | refine blk_alloc ?_ _)); refine blk_put (cs := #[.int .i64 ((rd_T72 l0 x35_2).f0), .int .i64 0, .int .i64 0]) ?_ 1 _ rfl; (with_reducible repeat (first | refine blk_drewN ?_ _ | refine blk_drew ?_ | refine blk_alloc ?_ _)); refine blk_put (cs := #[.int .i64 0, .int .i64 0, .int .i64 0]) ?_ 0 _ rfl; (with_reducible repeat (first | refine blk_drewN ?_ _ | refine blk_drew ?_ | refine blk_alloc ?_ _)); exact BK403.out) hb); have n2_ := Aside0.mk (below_step (by repeat (first | (with_reducible first | exact HB.out | apply below_alloc | apply pw_below_drewN | apply below_drew1 | refine below_set ?_ GE401.out | refine Ag.row_below ?_ GE401.out | refine below_set ?_ GE403.out | refine Ag.row_below ?_ GE403.out) | exact HB.out)) hb); clear BK401; clear BK403; clear HB; have BK401 := n0_; have BK403 := n1_; have HB := n2_; clear n0_ n1_ n2_; (try clear hb); (try clear hb2); (try clear hk); (try clear hi); have hfz27_0 := blk_frozen BK401.out 0))
                    go_roundg k2
                    case measure => have := HJ9.out; have := HK2.out; omega
                    case rel => exact ⟨(wrap64 (x35_2 + 1)), (t404), (by first | rfl | (simp; done) | (simp [*]; done)), H', ⟨by have := HJ9.out; have := HK2.out; omega⟩, ⟨by (with_reducible repeat (first | refine blk_drewN ?_ _ | refine blk_drew ?_ | refine blk_alloc ?_ _)); refine Ag.row_put (old := (Ag.agC .i64 32 x402000_2)) ?_; (with_reducible repeat (first | refine blk_drewN ?_ _ | refine blk_drew ?_ | refine blk_alloc ?_ _)); exact BK401.out⟩, ⟨by repeat (first | (with_reducible first | exact HB.out | apply below_alloc | apply pw_below_drewN | apply below_drew1 | refine below_set ?_ GE401.out | refine Ag.row_below ?_ GE401.out | refine below_set ?_ GE403.out | refine Ag.row_below ?_ GE403.out) | exact HB.out)⟩⟩
                  · rw [if_neg c20] at H
                    exact absurd H (by simp)
                · rw [if_neg c19] at H
                  exact absurd H (by simp)
              · rw [if_neg c18] at H
                have c18b0 : decide (x35_2 < (l0.length : Int)) = false := decide_eq_false c18
                clear c18
                replace H := Option.bind_eq_some_iff.mp H
                obtain ⟨t405, A280, H⟩ := H
                replace H : ((prefetch_Window.f k2 x402000_2 a1 a2 a3 a4 a5 t405).bind fun t406 => ((prefetch_Track_Row.f x402000_2 a1).bind fun t409 => ((spenceref04_Bounds.f k2 a2 a3 a4).bind fun bt410 => (if bt410.2 > 0 then (spencelaw29_PrefetchWindows.l1 k2 a2 a3 a4 l6 t406 (mn a5 (wrap64 (t409 - 1))) ([] : List Int) (wrap64 (a2 + 1))) else ((spenceref01_Ints.f k2 t406 ([] : List Int)).bind fun t419 => (some t419)))))) = some r := H
                have A28 := Aside0.mk A280
                clear A280
                replace H := Option.bind_eq_some_iff.mp H
                obtain ⟨t406, A290, H⟩ := H
                replace H : ((prefetch_Track_Row.f x402000_2 a1).bind fun t409 => ((spenceref04_Bounds.f k2 a2 a3 a4).bind fun bt410 => (if bt410.2 > 0 then (spencelaw29_PrefetchWindows.l1 k2 a2 a3 a4 l6 t406 (mn a5 (wrap64 (t409 - 1))) ([] : List Int) (wrap64 (a2 + 1))) else ((spenceref01_Ints.f k2 t406 ([] : List Int)).bind fun t419 => (some t419))))) = some r := H
                have A29 := Aside0.mk A290
                clear A290
                replace H := Option.bind_eq_some_iff.mp H
                obtain ⟨t409, A300, H⟩ := H
                replace H : ((spenceref04_Bounds.f k2 a2 a3 a4).bind fun bt410 => (if bt410.2 > 0 then (spencelaw29_PrefetchWindows.l1 k2 a2 a3 a4 l6 t406 (mn a5 (wrap64 (t409 - 1))) ([] : List Int) (wrap64 (a2 + 1))) else ((spenceref01_Ints.f k2 t406 ([] : List Int)).bind fun t419 => (some t419)))) = some r := H
                have A30 := Aside0.mk A300
                clear A300
                obtain ⟨ji31, hji31⟩ : ∃ j_ : Int, (mn a5 (wrap64 (t409 - 1))) = j_ := ⟨_, rfl⟩
                replace H : ((spenceref04_Bounds.f k2 a2 a3 a4).bind fun bt410 => (if bt410.2 > 0 then (spencelaw29_PrefetchWindows.l1 k2 a2 a3 a4 l6 t406 ji31 ([] : List Int) (wrap64 (a2 + 1))) else ((spenceref01_Ints.f k2 t406 ([] : List Int)).bind fun t419 => (some t419)))) = some r := by first | (rw [hji31] at H; exact H) | (simp only [hji31] at H ⊢; exact H)
                (try rw [hji31] at A28)
                (try rw [hji31] at A29)
                (try rw [hji31] at A30)
                have hji31_ : (if (wrap64 (t409 - 1)) < a5 then (wrap64 (t409 - 1)) else a5) = ji31 := hji31
                replace H := Option.bind_eq_some_iff.mp H
                obtain ⟨⟨t410, t411⟩, A320, H⟩ := H
                replace H : (if t411 > 0 then (spencelaw29_PrefetchWindows.l1 k2 a2 a3 a4 l6 t406 ji31 ([] : List Int) (wrap64 (a2 + 1))) else ((spenceref01_Ints.f k2 t406 ([] : List Int)).bind fun t419 => (some t419))) = some r := H
                have A32 := Aside0.mk A320
                clear A320
                by_cases c33 : t411 > 0
                · rw [if_pos c33] at H
                  have c33b0 : decide (0 < t411) = true := decide_eq_true c33
                  clear c33
                  have H' := Aside0.mk H
                  clear H
                  try go_wp2
                  have n0_ := Aside0.mk (blk_drew BK401.out)
                  have n1_ := Aside0.mk (below_drew1 HB.out)
                  clear BK401
                  clear HB
                  have BK401 := n0_
                  have HB := n1_
                  clear n0_ n1_
                  refine start_ (n := 10) (S := fun w' => (Ag.ldTrk (.pointer (some ⟨gb401, 0, none⟩))).run Try.prog w' = .ok (.agg (Ag.agC .i64 32 x402000_2)) w') (ds := []) #[false, false, false, false, false, false, false, false, false, false] (by kernel_rfl) rfl rfl (Ag.ldTrk_run BK401.out) (fun hHeld => ?_); refine with_tabW spencelaw29_PrefetchWindows.tab11 spencelaw29_PrefetchWindows.bits11 (fun HT_ HW_ => ?_)
                  generalize wr.drew = w34 at BK401 HB hHeld ⊢
                  refine pure_ (i := 1) (N := some 49) (v := ?_) (a' := ?_) #[false, true, false, false, false, false, false, false, false, false] rfl rfl (any_of HT_.out (by kernel_rfl)) (fun _ _ _ h => h) (Or.inl ⟨by rfl, ?_⟩) ?_ ?_
                  rotate_left
                  · intro w'
                    go_simp
                    with_reducible rfl
                  rotate_left
                  · simp only [Act.put, List.setIfInBounds_toArray, List.set_cons_zero, List.set_cons_succ, i64_w, i32_w]
                    rfl
                  refine pure_ (i := 2) (N := some 50) (v := ?_) (a' := ?_) #[false, true, true, false, false, false, false, false, false, false] rfl rfl (any_of HT_.out (by kernel_rfl)) (fun _ _ _ h => h) (Or.inl ⟨by rfl, ?_⟩) ?_ ?_
                  rotate_left
                  · intro w'
                    go_simp
                    with_reducible rfl
                  rotate_left
                  · simp only [Act.put, List.setIfInBounds_toArray, List.set_cons_zero, List.set_cons_succ, i64_w, i32_w]
                    rfl
                  refine pure_ (i := 3) (N := some 51) (v := ?_) (a' := ?_) #[false, true, true, true, false, false, false, false, false, false] rfl rfl (any_of HT_.out (by kernel_rfl)) (fun _ _ _ h => h) (Or.inl ⟨by rfl, ?_⟩) ?_ ?_
                  rotate_left
                  · intro w'
                    go_simp
                    with_reducible rfl
                  rotate_left
                  · simp only [Act.put, List.setIfInBounds_toArray, List.set_cons_zero, List.set_cons_succ, i64_w, i32_w]
                    rfl
                  refine pure_ (i := 4) (N := some 52) (v := ?_) (a' := ?_) #[false, true, true, true, true, false, false, false, false, false] rfl rfl (any_of HT_.out (by kernel_rfl)) (fun _ _ _ h => h) (Or.inl ⟨by rfl, ?_⟩) ?_ ?_
                  rotate_left
                  · intro w'
                    go_simp
                    with_reducible rfl
                  rotate_left
                  · simp only [Act.put, List.setIfInBounds_toArray, List.set_cons_zero, List.set_cons_succ, i64_w, i32_w]
                    rfl
                  refine pure_ (i := 5) (N := some 53) (v := ?_) (a' := ?_) #[false, true, true, true, true, true, false, false, false, false] rfl rfl (any_of HT_.out (by kernel_rfl)) (fun _ _ _ h => h) (Or.inl ⟨by rfl, ?_⟩) ?_ ?_
                  rotate_left
                  · intro w'
                    go_simp
                    with_reducible rfl
                  rotate_left
                  · simp only [Act.put, List.setIfInBounds_toArray, List.set_cons_zero, List.set_cons_succ, i64_w, i32_w]
                    rfl
                  refine pure_ (i := 6) (N := some 54) (v := ?_) (a' := ?_) #[false, true, true, true, true, true, true, false, false, false] rfl rfl (any_of HT_.out (by kernel_rfl)) (fun _ _ _ h => h) (Or.inl ⟨by rfl, ?_⟩) ?_ ?_
                  rotate_left
                  · intro w'
                    go_simp
                    with_reducible rfl
                  rotate_left
                  · simp only [Act.put, List.setIfInBounds_toArray, List.set_cons_zero, List.set_cons_succ, i64_w, i32_w]
                    rfl
                  refine take_ (i := 0) (N := some 48) (v := ?_) (a' := ?_) #[true, true, true, true, true, true, true, false, false, false] rfl rfl (take_ofW HT_.out HW_.out (by kernel_rfl)) (fun _ _ _ h => h) (Or.inl ⟨by rfl, ?_⟩) hHeld ?_ ?_
                  rotate_left
                  · intro w' s0
                    go_simp
                    with_reducible rfl
                  rotate_left
                  · simp only [Act.put, List.setIfInBounds_toArray, List.set_cons_zero, List.set_cons_succ, i64_w, i32_w]
                    rfl
                  refine one_ (i := 7) (N := some 55) #[true, true, true, true, true, true, true, true, false, false] rfl rfl (one_of HT_.out (by kernel_rfl)) (by decide) (fun K hK => ?_)
                  refine goes_ Try.func26 (by kernel_rfl) rfl #[.slice A6 l6.length c6] (by rfl) rfl rfl (by (try simp only [List.map_toArray, List.map_cons, List.map_nil]); first | done | rfl | (simp only [List.length_drop, List.length_take]; rfl)) ?_
                  with_reducible refine (bitmap_Of.calls _ _ l6 t405 _ ?side1 ?side2 A28.out).mono ?_
                  (case side1 => repeat (first | exact (Kd.C_below HR6.out HB.out) | (with_reducible refine Kd.C_alloc ?_ _) | (with_reducible refine Kd.C_drewN ?_ _) | (with_reducible refine Kd.C_drew ?_)))
                  (case side2 => exact HC6.out)
                  rintro e w35 ⟨rfl, hb⟩
                  refine ⟨_, rfl, ?_⟩
                  have n0_ := Aside0.mk (blk_below (g := gb401) (o := .cells (Ag.agC .i64 32 x402000_2) 69 (0, 0)) (by (with_reducible repeat (first | refine blk_drewN ?_ _ | refine blk_drew ?_ | refine blk_alloc ?_ _)); exact BK401.out) hb)
                  have n1_ := Aside0.mk (below_step (by repeat (first | (with_reducible first | exact HB.out | apply below_alloc | apply pw_below_drewN | apply below_drew1 | refine below_set ?_ GE401.out | refine Ag.row_below ?_ GE401.out) | exact HB.out)) hb)
                  clear BK401
                  clear HB
                  have BK401 := n0_
                  have HB := n1_
                  clear n0_ n1_
                  (try clear hb)
                  (try clear hb2)
                  (try clear hk)
                  (try clear hi)
                  refine hK.out _ _ (Ag.ldTrk_run BK401.out) (fun hHeld => ?_)
                  clear hK K
                  refine norm_ (a' := ?_) ?_ ?_
                  rotate_left
                  · show Act.put _ (some 55) _ = _
                    simp only [Act.put, List.setIfInBounds_toArray, List.set_cons_zero, List.set_cons_succ, i64_w, i32_w]
                    rfl
                  refine one_ (i := 8) (N := some 56) #[true, true, true, true, true, true, true, true, true, false] rfl rfl (one_of HT_.out (by kernel_rfl)) (by decide) (fun K hK => ?_)
                  refine goes_ Try.func46 (by kernel_rfl) rfl #[.agg (Ag.agC .i64 32 x402000_2), .int .i64 a1, .int .i64 a2, .int .i64 a3, .int .i64 a4, .int .i64 a5, .agg (Ag.agC .u64 65 t405)] (by rfl) rfl rfl (by (try simp only [List.map_toArray, List.map_cons, List.map_nil]); first | done | rfl | (simp only [List.length_drop, List.length_take]; rfl)) ?_
                  with_reducible refine (prefetch_Window.calls k2 x402000_2 a1 a2 a3 a4 a5 t405 t406 _ A29.out).mono ?_
                  rintro e w36 ⟨v407, rfl, ho0, hb⟩
                  refine ⟨_, rfl, ?_⟩
                  have n0_ := Aside0.mk (Kd.R_lower ho0 (below_size (by repeat (first | (with_reducible first | exact HB.out | apply below_alloc | apply pw_below_drewN | apply below_drew1 | refine below_set ?_ GE401.out | refine Ag.row_below ?_ GE401.out) | exact HB.out))))
                  have n1_ := Aside0.mk (blk_below (g := gb401) (o := .cells (Ag.agC .i64 32 x402000_2) 69 (0, 0)) (by (with_reducible repeat (first | refine blk_drewN ?_ _ | refine blk_drew ?_ | refine blk_alloc ?_ _)); exact BK401.out) hb)
                  have n2_ := Aside0.mk (below_step (by repeat (first | (with_reducible first | exact HB.out | apply below_alloc | apply pw_below_drewN | apply below_drew1 | refine below_set ?_ GE401.out | refine Ag.row_below ?_ GE401.out) | exact HB.out)) hb)
                  clear BK401
                  clear HB
                  have HO408 := n0_
                  have BK401 := n1_
                  have HB := n2_
                  clear n0_ n1_ n2_
                  (try clear hb)
                  (try clear hb2)
                  (try clear hk)
                  (try clear hi)
                  (try clear ho0)
                  refine hK.out _ _ (Ag.ldTrk_run BK401.out) (fun hHeld => ?_)
                  clear hK K
                  refine norm_ (a' := ?_) ?_ ?_
                  rotate_left
                  · show Act.put _ (some 56) _ = _
                    simp only [Act.put, List.setIfInBounds_toArray, List.set_cons_zero, List.set_cons_succ, i64_w, i32_w]
                    rfl
                  refine pure_ (i := 9) (N := some 18) (v := ?_) (a' := ?_) #[true, true, true, true, true, true, true, true, true, true] rfl rfl (any_of HT_.out (by kernel_rfl)) (fun _ _ _ h => h) (Or.inl ⟨by rfl, ?_⟩) ?_ ?_
                  rotate_left
                  · intro w'
                    go_simp
                    with_reducible rfl
                  rotate_left
                  · simp only [Act.put, List.setIfInBounds_toArray, List.set_cons_zero, List.set_cons_succ, i64_w, i32_w]
                    rfl
                  refine done_ (done_of HT_.out (by kernel_rfl)) ?_
                  try go_wp2_with (first | ((with_reducible refine ag_gate (t := 69) rfl ?_); first | refine row_load rfl 69 _ rfl _ rfl .i64 32 _ 69 _ BK401.out Try.underlying69 rfl Ag.info_trk ?_ | refine row_load rfl 69 _ rfl _ rfl .i64 32 _ 69 _ (by first | exact BK401.out | (repeat (first | exact BK401.out | refine blk_far ?_ (by assumption) _ | refine Ag.row_far ?_ (by assumption) _))) Try.underlying69 rfl Ag.info_trk ?_) | ((with_reducible refine ag_gate_st (t := 69) rfl ?_); first | refine row_store2 rfl 69 _ _ rfl rfl _ rfl .i64 32 _ rfl _ 69 BK401.out Ag.info_trk (Ag.agC_size _ _ _) ?_ | refine row_store2 rfl 69 _ _ rfl rfl _ rfl .i64 32 _ rfl _ 69 (by first | exact BK401.out | (repeat (first | exact BK401.out | refine blk_far ?_ (by assumption) _ | refine Ag.row_far ?_ (by assumption) _))) Ag.info_trk (Ag.agC_size _ _ _) ?_) | ((with_reducible refine gate_callee (f := 47) rfl ?_); refine goesL_ (some 60) rfl rfl Try.func47 (by kernel_rfl) rfl #[.agg (Ag.agC .i64 32 x402000_2), .int .i64 a1] rfl (by (try simp only [List.map_toArray, List.map_cons, List.map_nil]); first | done | rfl | (simp only [List.length_drop, List.length_take]; rfl)) ?_; (with_reducible refine (prefetch_Track_Row.calls x402000_2 a1 t409 _ A30.out).mono ?_); rintro e w38 ⟨rfl, hb⟩; refine ⟨_, rfl, ?_⟩; have n0_ := Aside0.mk (Kd.R_below (by (with_reducible repeat (first | apply Kd.R_alloc | apply Kd.R_drewN | apply Kd.R_drew)); exact HO408.out) hb); have n1_ := Aside0.mk (blk_below (g := gb401) (o := .cells (Ag.agC .i64 32 x402000_2) 69 (0, 0)) (by (with_reducible repeat (first | refine blk_drewN ?_ _ | refine blk_drew ?_ | refine blk_alloc ?_ _)); exact BK401.out) hb); have n2_ := Aside0.mk (below_step (by repeat (first | (with_reducible first | exact HB.out | apply below_alloc | apply pw_below_drewN | apply below_drew1 | refine below_set ?_ GE401.out | refine Ag.row_below ?_ GE401.out) | exact HB.out)) hb); clear HO408; clear BK401; clear HB; have HO408 := n0_; have BK401 := n1_; have HB := n2_; clear n0_ n1_ n2_; (try clear hb); (try clear hb2); (try clear hk); (try clear hi)) | ((with_reducible refine gate_callee (f := 37) rfl ?_); refine goesL_ (some 66) rfl rfl Try.func37 (by kernel_rfl) rfl #[.int .i64 a2, .int .i64 a3, .int .i64 a4] rfl (by (try simp only [List.map_toArray, List.map_cons, List.map_nil]); first | done | rfl | (simp only [List.length_drop, List.length_take]; rfl)) ?_; (with_reducible refine (spenceref04_Bounds.calls k2 a2 a3 a4 t410 t411 _ A32.out).mono ?_); rintro e w39 ⟨rfl, hb⟩; refine ⟨_, rfl, ?_⟩; have n0_ := Aside0.mk (Kd.R_below (by (with_reducible repeat (first | apply Kd.R_alloc | apply Kd.R_drewN | apply Kd.R_drew)); exact HO408.out) hb); have n1_ := Aside0.mk (blk_below (g := gb401) (o := .cells (Ag.agC .i64 32 x402000_2) 69 (0, 0)) (by (with_reducible repeat (first | refine blk_drewN ?_ _ | refine blk_drew ?_ | refine blk_alloc ?_ _)); exact BK401.out) hb); have n2_ := Aside0.mk (below_step (by repeat (first | (with_reducible first | exact HB.out | apply below_alloc | apply pw_below_drewN | apply below_drew1 | refine below_set ?_ GE401.out | refine Ag.row_below ?_ GE401.out) | exact HB.out)) hb); clear HO408; clear BK401; clear HB; have HO408 := n0_; have BK401 := n1_; have HB := n2_; clear n0_ n1_ n2_; (try clear hb); (try clear hb2); (try clear hk); (try clear hi)))
                  go_loopg [20, 21] k2 (fun kq v20 v21 w' => ∃ (x20_3 : List Int) (x21_3 : Int), v21 = .int .i64 x21_3 ∧ Aside0 (spencelaw29_PrefetchWindows.l1 kq a2 a3 a4 l6 t406 ji31 x20_3 x21_3 = some r) ∧ Aside0 (kq ≤ k2) ∧ Aside0 (Kd.R (Kd.int .i64) 3 w' w.heap.size (fun k_ => some k_ ≠ (v20 : Value).ownBlock) v407 t406) ∧ Aside0 (Kd.R (Kd.int .i64) 3 w' w.heap.size (fun k_ => some k_ ≠ (v407 : Value).ownBlock) v20 x20_3) ∧ Aside0 (w'.heap[gb401]? = some (.cells (Ag.agC .i64 32 x402000_2) 69 (0, 0))) ∧ Aside0 (Below w.heap.size w w'))
                  case atStart => exact ⟨(([] : List Int)), (wrap64 (a2 + 1)), (by first | rfl | (simp; done) | (simp [*]; done)), H', ⟨Nat.le_refl _⟩, ⟨by (with_reducible repeat (first | apply Kd.R_alloc | apply Kd.R_drewN | apply Kd.R_drew)); exact Kd.R_mono HO408.out (fun _ hk => (by simp [Value.ownBlock]))⟩, ⟨by first | exact Kd.R_nil _ _ _ _ _ | exact Kd.N_nil _ _ _ _ _ | exact Kd.V_nil _ _ _ _ _ | exact Kd.Q_nil _ _ _ _ _ | exact Kd.S_nil _ _ _ _ _⟩, ⟨by (with_reducible repeat (first | refine blk_drewN ?_ _ | refine blk_drew ?_ | refine blk_alloc ?_ _)); exact BK401.out⟩, ⟨by repeat (first | (with_reducible first | exact HB.out | apply below_alloc | apply pw_below_drewN | apply below_drew1 | refine below_set ?_ GE401.out | refine Ag.row_below ?_ GE401.out) | exact HB.out)⟩⟩
                  case round =>
                    clear H'
                    try clear c1
                    try clear c2
                    try clear p2
                    try clear c3
                    try clear c4
                    try clear p4
                    try clear q4
                    try clear hx4
                    try clear c6
                    try clear p6
                    try clear c9
                    try clear c11
                    try clear c12
                    try clear c12b0
                    try clear c12b1
                    try clear c13
                    try clear c18
                    try clear c18b0
                    try clear c19
                    try clear c19b0
                    try clear c20
                    try clear c20b0
                    try clear c23
                    try clear c26
                    try clear c33
                    try clear c33b0
                    try clear c37
                    try clear hcz17_0
                    try clear hcz24_0
                    try clear hcz24_1
                    try clear hcz24_2
                    try clear hcz25_0
                    try clear hcz27_0
                    try clear hcz37_0
                    try clear hfz17_0
                    try clear hfz24_0
                    try clear hfz24_1
                    try clear hfz24_2
                    try clear hfz25_0
                    try clear hfz27_0
                    try clear hfz37_0
                    try clear hx402_0
                    try clear hx402_1
                    try clear hx402_2
                    try clear p2
                    try clear p402
                    try clear q402
                    obtain ⟨x20_3, x21_3, rfl, HA, HK3, HO_18, HO_20, BK401, HB⟩ := hrel
                    cases gk with
                    | zero => exact absurd HA.out (by simp [spencelaw29_PrefetchWindows.l1])
                    | succ k3 =>
                      have H := HA.out
                      clear HA
                      simp only [spencelaw29_PrefetchWindows.l1] at H
                      have HC40 := Aside0.mk H
                      clear H
                      go_upto_region 16 with (fail)
                      go_cut [83] (fun v83 wc => ∃ (kq : Nat) (x83_39 : Bool), v83 = .bool x83_39 ∧ Aside0 (spencelaw29_PrefetchWindows.j3 kq a2 a3 a4 l6 t406 ji31 x20_3 x21_3 x83_39 = some r) ∧ Aside0 (kq ≤ k3) ∧ Aside0 (Kd.R (Kd.int .i64) 3 wc w.heap.size (fun k_ => some k_ ≠ (u20 : Value).ownBlock) v407 t406) ∧ Aside0 (Kd.R (Kd.int .i64) 3 wc w.heap.size (fun k_ => some k_ ≠ (v407 : Value).ownBlock) u20 x20_3) ∧ Aside0 (wc.heap[gb401]? = some (.cells (Ag.agC .i64 32 x402000_2) 69 (0, 0))) ∧ Aside0 (Below w.heap.size w wc))
                      case first =>
                        have H := HC40.out
                        clear HC40
                        by_cases c41 : (wrap64 (x21_3 - a2)) ≤ ji31
                        · rw [if_pos c41] at H
                          have c41b0 : decide ((wrap64 (x21_3 - a2)) ≤ ji31) = true := decide_eq_true c41
                          clear c41
                          (first | rw [c41b0] | (simp only [i64_w, i32_w]; rw [c41b0]) | skip)
                          replace H := Option.bind_eq_some_iff.mp H
                          obtain ⟨⟨t412, t413⟩, A420, H⟩ := H
                          replace H : (spencelaw29_PrefetchWindows.j3 k3 a2 a3 a4 l6 t406 ji31 x20_3 x21_3 (decide (t413 > 0))) = some r := H
                          have A42 := Aside0.mk A420
                          clear A420
                          have H' := Aside0.mk H
                          clear H
                          go_wp2_with (first | ((with_reducible refine ag_gate (t := 69) rfl ?_); first | refine row_load rfl 69 _ rfl _ rfl .i64 32 _ 69 _ BK401.out Try.underlying69 rfl Ag.info_trk ?_ | refine row_load rfl 69 _ rfl _ rfl .i64 32 _ 69 _ (by first | exact BK401.out | (repeat (first | exact BK401.out | refine blk_far ?_ (by assumption) _ | refine Ag.row_far ?_ (by assumption) _))) Try.underlying69 rfl Ag.info_trk ?_) | ((with_reducible refine ag_gate_st (t := 69) rfl ?_); first | refine row_store2 rfl 69 _ _ rfl rfl _ rfl .i64 32 _ rfl _ 69 BK401.out Ag.info_trk (Ag.agC_size _ _ _) ?_ | refine row_store2 rfl 69 _ _ rfl rfl _ rfl .i64 32 _ rfl _ 69 (by first | exact BK401.out | (repeat (first | exact BK401.out | refine blk_far ?_ (by assumption) _ | refine Ag.row_far ?_ (by assumption) _))) Ag.info_trk (Ag.agC_size _ _ _) ?_) | (go_at_call 37; (with_reducible refine (spenceref04_Bounds.calls k3 x21_3 a3 a4 t412 t413 _ A42.out).mono ?_); rintro e w43 ⟨rfl, hb⟩; have n0_ := Aside0.mk (Kd.R_below (by (with_reducible repeat (first | apply Kd.R_alloc | apply Kd.R_drewN | apply Kd.R_drew)); exact HO_18.out) hb); have n1_ := Aside0.mk (Kd.R_below (by (with_reducible repeat (first | apply Kd.R_alloc | apply Kd.R_drewN | apply Kd.R_drew)); exact HO_20.out) hb); have n2_ := Aside0.mk (blk_below (g := gb401) (o := .cells (Ag.agC .i64 32 x402000_2) 69 (0, 0)) (by (with_reducible repeat (first | refine blk_drewN ?_ _ | refine blk_drew ?_ | refine blk_alloc ?_ _)); exact BK401.out) hb); have n3_ := Aside0.mk (below_step (by repeat (first | (with_reducible first | exact HB.out | apply below_alloc | apply pw_below_drewN | apply below_drew1 | refine below_set ?_ GE401.out | refine Ag.row_below ?_ GE401.out) | exact HB.out)) hb); clear HO_18; clear HO_20; clear BK401; clear HB; have HO_18 := n0_; have HO_20 := n1_; have BK401 := n2_; have HB := n3_; clear n0_ n1_ n2_ n3_; (try clear hb); (try clear hb2); (try clear hk); (try clear hi)))
                          go_meet
                          case rel => exact ⟨_, (decide (t413 > 0)), (by first | rfl | (simp; done) | (simp [*]; done)), H', ⟨by have := HJ9.out; have := HK2.out; have := HK3.out; first | omega | exact Nat.le_refl _⟩, ⟨by (with_reducible repeat (first | apply Kd.R_alloc | apply Kd.R_drewN | apply Kd.R_drew)); exact HO_18.out⟩, ⟨by (with_reducible repeat (first | apply Kd.R_alloc | apply Kd.R_drewN | apply Kd.R_drew)); exact HO_20.out⟩, ⟨by (with_reducible repeat (first | refine blk_drewN ?_ _ | refine blk_drew ?_ | refine blk_alloc ?_ _)); exact BK401.out⟩, ⟨by repeat (first | (with_reducible first | exact HB.out | apply below_alloc | apply pw_below_drewN | apply below_drew1 | refine below_set ?_ GE401.out | refine Ag.row_below ?_ GE401.out) | exact HB.out)⟩⟩
                        · rw [if_neg c41] at H
                          have c41b0 : decide ((wrap64 (x21_3 - a2)) ≤ ji31) = false := decide_eq_false c41
                          clear c41
                          (first | rw [c41b0] | (simp only [i64_w, i32_w]; rw [c41b0]) | skip)
                          have H' := Aside0.mk H
                          clear H
                          go_wp2_with (first | ((with_reducible refine ag_gate (t := 69) rfl ?_); first | refine row_load rfl 69 _ rfl _ rfl .i64 32 _ 69 _ BK401.out Try.underlying69 rfl Ag.info_trk ?_ | refine row_load rfl 69 _ rfl _ rfl .i64 32 _ 69 _ (by first | exact BK401.out | (repeat (first | exact BK401.out | refine blk_far ?_ (by assumption) _ | refine Ag.row_far ?_ (by assumption) _))) Try.underlying69 rfl Ag.info_trk ?_) | ((with_reducible refine ag_gate_st (t := 69) rfl ?_); first | refine row_store2 rfl 69 _ _ rfl rfl _ rfl .i64 32 _ rfl _ 69 BK401.out Ag.info_trk (Ag.agC_size _ _ _) ?_ | refine row_store2 rfl 69 _ _ rfl rfl _ rfl .i64 32 _ rfl _ 69 (by first | exact BK401.out | (repeat (first | exact BK401.out | refine blk_far ?_ (by assumption) _ | refine Ag.row_far ?_ (by assumption) _))) Ag.info_trk (Ag.agC_size _ _ _) ?_))
                          go_meet
                          case rel => exact ⟨_, (false), (by first | rfl | (simp; done) | (simp [*]; done)), H', ⟨by have := HJ9.out; have := HK2.out; have := HK3.out; first | omega | exact Nat.le_refl _⟩, ⟨by (with_reducible repeat (first | apply Kd.R_alloc | apply Kd.R_drewN | apply Kd.R_drew)); exact HO_18.out⟩, ⟨by (with_reducible repeat (first | apply Kd.R_alloc | apply Kd.R_drewN | apply Kd.R_drew)); exact HO_20.out⟩, ⟨by (with_reducible repeat (first | refine blk_drewN ?_ _ | refine blk_drew ?_ | refine blk_alloc ?_ _)); exact BK401.out⟩, ⟨by repeat (first | (with_reducible first | exact HB.out | apply below_alloc | apply pw_below_drewN | apply below_drew1 | refine below_set ?_ GE401.out | refine Ag.row_below ?_ GE401.out) | exact HB.out)⟩⟩
                      case rest =>
                        clear HC40
                        try clear c1
                        try clear c2
                        try clear p2
                        try clear c3
                        try clear c4
                        try clear p4
                        try clear q4
                        try clear hx4
                        try clear c6
                        try clear p6
                        try clear c9
                        try clear c11
                        try clear c12
                        try clear c12b0
                        try clear c12b1
                        try clear c13
                        try clear c18
                        try clear c18b0
                        try clear c19
                        try clear c19b0
                        try clear c20
                        try clear c20b0
                        try clear c23
                        try clear c26
                        try clear c33
                        try clear c33b0
                        try clear c37
                        try clear p40
                        try clear q40
                        try clear hx40
                        try clear c41
                        try clear c41b0
                        try clear c43
                        try clear hcz17_0
                        try clear hcz24_0
                        try clear hcz24_1
                        try clear hcz24_2
                        try clear hcz25_0
                        try clear hcz27_0
                        try clear hcz37_0
                        try clear hfz17_0
                        try clear hfz24_0
                        try clear hfz24_1
                        try clear hfz24_2
                        try clear hfz25_0
                        try clear hfz27_0
                        try clear hfz37_0
                        try clear hx402_0
                        try clear hx402_1
                        try clear hx402_2
                        try clear p2
                        try clear p4
                        try clear p402
                        try clear p6
                        try clear q4
                        try clear q402
                        obtain ⟨kq, x83_39, rfl, HA, HJ39, HO_18, HO_20, BK401, HB⟩ := hcut
                        cases kq with
                        | zero => exact absurd HA.out (by simp [spencelaw29_PrefetchWindows.j3])
                        | succ kj39 =>
                          have H := HA.out
                          clear HA
                          simp only [spencelaw29_PrefetchWindows.j3] at H
                          by_cases c44 : x83_39 = true
                          · subst c44
                            have H1 : ((spenceref01_In.f kj39 l6 x21_3).bind fun t414 => (if t414 = true then (spencelaw29_PrefetchWindows.l1 kj39 a2 a3 a4 l6 t406 ji31 x20_3 (wrap64 (x21_3 + 1))) else (if x20_3.length < 17592186044416 then (spencelaw29_PrefetchWindows.l1 kj39 a2 a3 a4 l6 t406 ji31 (x20_3 ++ [x21_3]) (wrap64 (x21_3 + 1))) else (none)))) = some r := by rw [if_pos rfl] at H; exact H
                            clear H
                            have H := H1
                            clear H1
                            replace H := Option.bind_eq_some_iff.mp H
                            obtain ⟨t414, A450, H⟩ := H
                            replace H : (if t414 = true then (spencelaw29_PrefetchWindows.l1 kj39 a2 a3 a4 l6 t406 ji31 x20_3 (wrap64 (x21_3 + 1))) else (if x20_3.length < 17592186044416 then (spencelaw29_PrefetchWindows.l1 kj39 a2 a3 a4 l6 t406 ji31 (x20_3 ++ [x21_3]) (wrap64 (x21_3 + 1))) else (none))) = some r := H
                            have A45 := Aside0.mk A450
                            clear A450
                            by_cases c46 : t414 = true
                            · subst c46
                              have H1 : (spencelaw29_PrefetchWindows.l1 kj39 a2 a3 a4 l6 t406 ji31 x20_3 (wrap64 (x21_3 + 1))) = some r := by rw [if_pos rfl] at H; exact H
                              clear H
                              have H := H1
                              clear H1
                              have H' := Aside0.mk H
                              clear H
                              go_wp2_with (first | ((with_reducible refine ag_gate (t := 69) rfl ?_); first | refine row_load rfl 69 _ rfl _ rfl .i64 32 _ 69 _ BK401.out Try.underlying69 rfl Ag.info_trk ?_ | refine row_load rfl 69 _ rfl _ rfl .i64 32 _ 69 _ (by first | exact BK401.out | (repeat (first | exact BK401.out | refine blk_far ?_ (by assumption) _ | refine Ag.row_far ?_ (by assumption) _))) Try.underlying69 rfl Ag.info_trk ?_) | ((with_reducible refine ag_gate_st (t := 69) rfl ?_); first | refine row_store2 rfl 69 _ _ rfl rfl _ rfl .i64 32 _ rfl _ 69 BK401.out Ag.info_trk (Ag.agC_size _ _ _) ?_ | refine row_store2 rfl 69 _ _ rfl rfl _ rfl .i64 32 _ rfl _ 69 (by first | exact BK401.out | (repeat (first | exact BK401.out | refine blk_far ?_ (by assumption) _ | refine Ag.row_far ?_ (by assumption) _))) Ag.info_trk (Ag.agC_size _ _ _) ?_) | ((with_reducible refine gate_callee (f := 29) rfl ?_); refine goesL_ (some 88) rfl rfl Try.func29 (by kernel_rfl) rfl #[.slice A6 l6.length c6, .int .i64 x21_3] rfl (by (try simp only [List.map_toArray, List.map_cons, List.map_nil]); first | done | rfl | (simp only [List.length_drop, List.length_take]; rfl)) ?_; (with_reducible refine (spenceref01_In.calls kj39 _ _ l6 x21_3 true _ ?side1 ?side2 A45.out).mono ?_); (case side1 => repeat (first | exact (Kd.C_below HR6.out HB.out) | (with_reducible refine Kd.C_alloc ?_ _) | (with_reducible refine Kd.C_drewN ?_ _) | (with_reducible refine Kd.C_drew ?_))); (case side2 => exact HC6.out); rintro e w' ⟨rfl, ⟨nd, rfl⟩⟩; refine ⟨_, rfl, ?_⟩))
                              go_roundg kj39
                              case measure => have := HJ9.out; have := HK2.out; have := HK3.out; have := HJ39.out; omega
                              case rel => exact ⟨(x20_3), (wrap64 (x21_3 + 1)), (by first | rfl | (simp; done) | (simp [*]; done)), H', ⟨by have := HJ9.out; have := HK2.out; have := HK3.out; have := HJ39.out; omega⟩, ⟨by (with_reducible repeat (first | apply Kd.R_alloc | apply Kd.R_drewN | apply Kd.R_drew)); exact HO_18.out⟩, ⟨by (with_reducible repeat (first | apply Kd.R_alloc | apply Kd.R_drewN | apply Kd.R_drew)); exact HO_20.out⟩, ⟨by (with_reducible repeat (first | refine blk_drewN ?_ _ | refine blk_drew ?_ | refine blk_alloc ?_ _)); exact BK401.out⟩, ⟨by repeat (first | (with_reducible first | exact HB.out | apply below_alloc | apply pw_below_drewN | apply below_drew1 | refine below_set ?_ GE401.out | refine Ag.row_below ?_ GE401.out) | exact HB.out)⟩⟩
                            · replace c46 := Bool.eq_false_iff.mpr c46
                              subst c46
                              have H1 : (if x20_3.length < 17592186044416 then (spencelaw29_PrefetchWindows.l1 kj39 a2 a3 a4 l6 t406 ji31 (x20_3 ++ [x21_3]) (wrap64 (x21_3 + 1))) else (none)) = some r := by rw [if_neg (show ¬ (false = true) by decide)] at H; exact H
                              clear H
                              have H := H1
                              clear H1
                              by_cases c47 : x20_3.length < 17592186044416
                              · rw [if_pos c47] at H
                                have LMc47 := Aside0.mk c47
                                clear c47
                                obtain ⟨y415, hy415⟩ : ∃ y_ : List Int, y_ = (x20_3 ++ [x21_3]) := ⟨_, rfl⟩
                                replace H : (spencelaw29_PrefetchWindows.l1 kj39 a2 a3 a4 l6 t406 ji31 y415 (wrap64 (x21_3 + 1))) = some r := by first | (rw [hy415]; with_reducible exact H) | (have H2_ := (Option.bind_some _ _).symm.trans H; rw [hy415]; with_reducible exact H2_) | (have H2_ := (Option.bind_some _ _).symm.trans H; with_reducible exact H2_) | with_reducible exact H | (rw [hy415]; exact H) | exact H
                                have Ny415 := Aside0.mk hy415
                                clear hy415
                                have H' := Aside0.mk H
                                clear H
                                go_wp2_with (first | ((with_reducible refine ag_gate (t := 69) rfl ?_); first | refine row_load rfl 69 _ rfl _ rfl .i64 32 _ 69 _ BK401.out Try.underlying69 rfl Ag.info_trk ?_ | refine row_load rfl 69 _ rfl _ rfl .i64 32 _ 69 _ (by first | exact BK401.out | (repeat (first | exact BK401.out | refine blk_far ?_ (by assumption) _ | refine Ag.row_far ?_ (by assumption) _))) Try.underlying69 rfl Ag.info_trk ?_) | ((with_reducible refine ag_gate_st (t := 69) rfl ?_); first | refine row_store2 rfl 69 _ _ rfl rfl _ rfl .i64 32 _ rfl _ 69 BK401.out Ag.info_trk (Ag.agC_size _ _ _) ?_ | refine row_store2 rfl 69 _ _ rfl rfl _ rfl .i64 32 _ rfl _ 69 (by first | exact BK401.out | (repeat (first | exact BK401.out | refine blk_far ?_ (by assumption) _ | refine Ag.row_far ?_ (by assumption) _))) Ag.info_trk (Ag.agC_size _ _ _) ?_) | ((with_reducible refine gate_callee (f := 29) rfl ?_); refine goesL_ (some 88) rfl rfl Try.func29 (by kernel_rfl) rfl #[.slice A6 l6.length c6, .int .i64 x21_3] rfl (by (try simp only [List.map_toArray, List.map_cons, List.map_nil]); first | done | rfl | (simp only [List.length_drop, List.length_take]; rfl)) ?_; (with_reducible refine (spenceref01_In.calls kj39 _ _ l6 x21_3 false _ ?side1 ?side2 A45.out).mono ?_); (case side1 => repeat (first | exact (Kd.C_below HR6.out HB.out) | (with_reducible refine Kd.C_alloc ?_ _) | (with_reducible refine Kd.C_drewN ?_ _) | (with_reducible refine Kd.C_drew ?_))); (case side2 => exact HC6.out); rintro e w' ⟨rfl, ⟨nd, rfl⟩⟩; refine ⟨_, rfl, ?_⟩) | ((with_reducible refine gate_builtin (b := .append) (xs := #[.tmp 90, .tmp 92]) rfl ?_); (try (refine gate_guard (by rfl) ?_; dsimp only)); at_builtin; refine Kd.R_append (Kd.int .i64) (w0 := w) w.heap.size rfl (.tmp 90) (.tmp 92) 22 3 (.int .i64 0) 8 rfl Try.underlying22 info3 rfl (by decide) (by omega) u20 x20_3 x21_3 [.int .i64 x21_3] (fun k_ => some k_ ≠ (v407 : Value).ownBlock) (fun _ => False) rfl rfl ?aP (fun _ hk => hk.elim) ?aF ?aO ?aB ?aS ?aL ?_; (case aP => exact rfl); (case aB => exact (by repeat (first | (with_reducible first | exact HB.out | apply below_alloc | apply pw_below_drewN | apply below_drew1 | refine below_set ?_ GE401.out | refine Ag.row_below ?_ GE401.out) | exact HB.out))); (case aF => exact (fun k_ hk => Kd.fresh' (Kd.R_lt (by (with_reducible repeat (first | apply Kd.R_alloc | apply Kd.R_drewN | apply Kd.R_drew)); exact HO_18.out)) k_ hk)); (case aO => exact (by (with_reducible repeat (first | apply Kd.R_alloc | apply Kd.R_drewN | apply Kd.R_drew)); exact HO_20.out)); (case aS => exact (below_size (by repeat (first | (with_reducible first | exact HB.out | apply below_alloc | apply pw_below_drewN | apply below_drew1 | refine below_set ?_ GE401.out | refine Ag.row_below ?_ GE401.out) | exact HB.out)))); (case aL => have := LMc47.out; omega); intro v416 w48 ho hb hg hat; rw [← Ny415.out] at ho; have n0_ := Aside0.mk (Kd.R_after (ok := (fun _ => True)) (by (with_reducible repeat (first | apply Kd.R_alloc | apply Kd.R_drewN | apply Kd.R_drew)); exact Kd.R_mono HO_18.out (fun _ hk => ⟨trivial, hk⟩)) hg hat); have n1_ := Aside0.mk (blk_grown (g := gb401) (o := .cells (Ag.agC .i64 32 x402000_2) 69 (0, 0)) (by (with_reducible repeat (first | refine blk_drewN ?_ _ | refine blk_drew ?_ | refine blk_alloc ?_ _)); exact BK401.out) hg (Kd.R_ne HO_20.out BK401.out (by decide))); have n2_ := Aside0.mk (hb); have n3_ := Aside0.mk (ho); clear HO_18; clear BK401; clear HB; clear HO_20; have HO_18 := n0_; have BK401 := n1_; have HB := n2_; have HO417 := n3_; clear n0_ n1_ n2_ n3_; clear ho hb hg hat))
                                go_roundg kj39
                                case measure => have := HJ9.out; have := HK2.out; have := HK3.out; have := HJ39.out; omega
                                case rel => exact ⟨(y415), (wrap64 (x21_3 + 1)), (by first | rfl | (simp; done) | (simp [*]; done)), H', ⟨by have := HJ9.out; have := HK2.out; have := HK3.out; have := HJ39.out; omega⟩, ⟨by (with_reducible repeat (first | apply Kd.R_alloc | apply Kd.R_drewN | apply Kd.R_drew)); exact Kd.R_mono HO_18.out (fun _ hk => hk.2)⟩, ⟨by (with_reducible repeat (first | apply Kd.R_alloc | apply Kd.R_drewN | apply Kd.R_drew)); exact HO417.out⟩, ⟨by (with_reducible repeat (first | refine blk_drewN ?_ _ | refine blk_drew ?_ | refine blk_alloc ?_ _)); exact BK401.out⟩, ⟨by repeat (first | (with_reducible first | exact HB.out | apply below_alloc | apply pw_below_drewN | apply below_drew1 | refine below_set ?_ GE401.out | refine Ag.row_below ?_ GE401.out) | exact HB.out)⟩⟩
                              · rw [if_neg c47] at H
                                exact absurd H (by simp)
                          · replace c44 := Bool.eq_false_iff.mpr c44
                            subst c44
                            have H1 : ((spenceref01_Ints.f kj39 t406 x20_3).bind fun t418 => (some t418)) = some r := by rw [if_neg (show ¬ (false = true) by decide)] at H; exact H
                            clear H
                            have H := H1
                            clear H1
                            replace H := Option.bind_eq_some_iff.mp H
                            obtain ⟨t418, A490, H⟩ := H
                            replace H : (some t418) = some r := H
                            have A49 := Aside0.mk A490
                            clear A490
                            obtain rfl := Option.some.inj H
                            obtain ⟨Ao50, co50, eo50⟩ := Kd.R_slice HO_18.out
                            subst eo50
                            obtain ⟨Ao51, co51, eo51⟩ := Kd.R_slice HO_20.out
                            subst eo51
                            go_wp2_with (first | ((with_reducible refine ag_gate (t := 69) rfl ?_); first | refine row_load rfl 69 _ rfl _ rfl .i64 32 _ 69 _ BK401.out Try.underlying69 rfl Ag.info_trk ?_ | refine row_load rfl 69 _ rfl _ rfl .i64 32 _ 69 _ (by first | exact BK401.out | (repeat (first | exact BK401.out | refine blk_far ?_ (by assumption) _ | refine Ag.row_far ?_ (by assumption) _))) Try.underlying69 rfl Ag.info_trk ?_) | ((with_reducible refine ag_gate_st (t := 69) rfl ?_); first | refine row_store2 rfl 69 _ _ rfl rfl _ rfl .i64 32 _ rfl _ 69 BK401.out Ag.info_trk (Ag.agC_size _ _ _) ?_ | refine row_store2 rfl 69 _ _ rfl rfl _ rfl .i64 32 _ rfl _ 69 (by first | exact BK401.out | (repeat (first | exact BK401.out | refine blk_far ?_ (by assumption) _ | refine Ag.row_far ?_ (by assumption) _))) Ag.info_trk (Ag.agC_size _ _ _) ?_) | ((with_reducible refine gate_callee (f := 34) rfl ?_); refine goesL_ (some 96) rfl rfl Try.func34 (by kernel_rfl) rfl #[.slice Ao50 t406.length co50, .slice Ao51 x20_3.length co51] rfl (by (try simp only [List.map_toArray, List.map_cons, List.map_nil]); first | done | rfl | (simp only [List.length_drop, List.length_take]; rfl)) ?_; (with_reducible refine (spenceref01_Ints.calls kj39 _ _ t406 _ _ x20_3 t418 _ ?side1 ?side2 ?side3 ?side4 A49.out).mono ?_); (case side1 => repeat (first | exact (Kd.R_reads' HO_18.out).2.2 | (with_reducible refine Kd.C_alloc ?_ _) | (with_reducible refine Kd.C_drewN ?_ _) | (with_reducible refine Kd.C_drew ?_))); (case side2 => exact (Kd.R_reads' HO_18.out).2.1); (case side3 => repeat (first | exact (Kd.R_reads' HO_20.out).2.2 | (with_reducible refine Kd.C_alloc ?_ _) | (with_reducible refine Kd.C_drewN ?_ _) | (with_reducible refine Kd.C_drew ?_))); (case side4 => exact (Kd.R_reads' HO_20.out).2.1); rintro e w' ⟨rfl, ⟨nd, rfl⟩⟩; refine ⟨_, rfl, ?_⟩))
                            go_ret
                            exact ⟨by first | rfl | exact ne_empty _ | exact eq_empty _ | (simp [errW_none, errW_some] <;> rfl) | (simp only [← hji31]; first | rfl | (simp [errW_none, errW_some] <;> rfl)) | (simp [*, errW_none, errW_some] <;> rfl), by repeat (first | (with_reducible first | exact HB.out | apply below_alloc | apply pw_below_drewN | apply below_drew1 | refine below_set ?_ GE401.out | refine Ag.row_below ?_ GE401.out) | exact HB.out)⟩
                · rw [if_neg c33] at H
                  have c33b0 : decide (0 < t411) = false := decide_eq_false c33
                  clear c33
                  replace H := Option.bind_eq_some_iff.mp H
                  obtain ⟨t419, A520, H⟩ := H
                  replace H : (some t419) = some r := H
                  have A52 := Aside0.mk A520
                  clear A520
                  obtain rfl := Option.some.inj H
                  try go_wp2
                  have n0_ := Aside0.mk (blk_drew BK401.out)
                  have n1_ := Aside0.mk (below_drew1 HB.out)
                  clear BK401
                  clear HB
                  have BK401 := n0_
                  have HB := n1_
                  clear n0_ n1_
                  refine start_ (n := 10) (S := fun w' => (Ag.ldTrk (.pointer (some ⟨gb401, 0, none⟩))).run Try.prog w' = .ok (.agg (Ag.agC .i64 32 x402000_2)) w') (ds := []) #[false, false, false, false, false, false, false, false, false, false] (by kernel_rfl) rfl rfl (Ag.ldTrk_run BK401.out) (fun hHeld => ?_); refine with_tabW spencelaw29_PrefetchWindows.tab11 spencelaw29_PrefetchWindows.bits11 (fun HT_ HW_ => ?_)
                  generalize wr.drew = w53 at BK401 HB hHeld ⊢
                  refine pure_ (i := 1) (N := some 49) (v := ?_) (a' := ?_) #[false, true, false, false, false, false, false, false, false, false] rfl rfl (any_of HT_.out (by kernel_rfl)) (fun _ _ _ h => h) (Or.inl ⟨by rfl, ?_⟩) ?_ ?_
                  rotate_left
                  · intro w'
                    go_simp
                    with_reducible rfl
                  rotate_left
                  · simp only [Act.put, List.setIfInBounds_toArray, List.set_cons_zero, List.set_cons_succ, i64_w, i32_w]
                    rfl
                  refine pure_ (i := 2) (N := some 50) (v := ?_) (a' := ?_) #[false, true, true, false, false, false, false, false, false, false] rfl rfl (any_of HT_.out (by kernel_rfl)) (fun _ _ _ h => h) (Or.inl ⟨by rfl, ?_⟩) ?_ ?_
                  rotate_left
                  · intro w'
                    go_simp
                    with_reducible rfl
                  rotate_left
                  · simp only [Act.put, List.setIfInBounds_toArray, List.set_cons_zero, List.set_cons_succ, i64_w, i32_w]
                    rfl
                  refine pure_ (i := 3) (N := some 51) (v := ?_) (a' := ?_) #[false, true, true, true, false, false, false, false, false, false] rfl rfl (any_of HT_.out (by kernel_rfl)) (fun _ _ _ h => h) (Or.inl ⟨by rfl, ?_⟩) ?_ ?_
                  rotate_left
                  · intro w'
                    go_simp
                    with_reducible rfl
                  rotate_left
                  · simp only [Act.put, List.setIfInBounds_toArray, List.set_cons_zero, List.set_cons_succ, i64_w, i32_w]
                    rfl
                  refine pure_ (i := 4) (N := some 52) (v := ?_) (a' := ?_) #[false, true, true, true, true, false, false, false, false, false] rfl rfl (any_of HT_.out (by kernel_rfl)) (fun _ _ _ h => h) (Or.inl ⟨by rfl, ?_⟩) ?_ ?_
                  rotate_left
                  · intro w'
                    go_simp
                    with_reducible rfl
                  rotate_left
                  · simp only [Act.put, List.setIfInBounds_toArray, List.set_cons_zero, List.set_cons_succ, i64_w, i32_w]
                    rfl
                  refine pure_ (i := 5) (N := some 53) (v := ?_) (a' := ?_) #[false, true, true, true, true, true, false, false, false, false] rfl rfl (any_of HT_.out (by kernel_rfl)) (fun _ _ _ h => h) (Or.inl ⟨by rfl, ?_⟩) ?_ ?_
                  rotate_left
                  · intro w'
                    go_simp
                    with_reducible rfl
                  rotate_left
                  · simp only [Act.put, List.setIfInBounds_toArray, List.set_cons_zero, List.set_cons_succ, i64_w, i32_w]
                    rfl
                  refine pure_ (i := 6) (N := some 54) (v := ?_) (a' := ?_) #[false, true, true, true, true, true, true, false, false, false] rfl rfl (any_of HT_.out (by kernel_rfl)) (fun _ _ _ h => h) (Or.inl ⟨by rfl, ?_⟩) ?_ ?_
                  rotate_left
                  · intro w'
                    go_simp
                    with_reducible rfl
                  rotate_left
                  · simp only [Act.put, List.setIfInBounds_toArray, List.set_cons_zero, List.set_cons_succ, i64_w, i32_w]
                    rfl
                  refine take_ (i := 0) (N := some 48) (v := ?_) (a' := ?_) #[true, true, true, true, true, true, true, false, false, false] rfl rfl (take_ofW HT_.out HW_.out (by kernel_rfl)) (fun _ _ _ h => h) (Or.inl ⟨by rfl, ?_⟩) hHeld ?_ ?_
                  rotate_left
                  · intro w' s0
                    go_simp
                    with_reducible rfl
                  rotate_left
                  · simp only [Act.put, List.setIfInBounds_toArray, List.set_cons_zero, List.set_cons_succ, i64_w, i32_w]
                    rfl
                  refine one_ (i := 7) (N := some 55) #[true, true, true, true, true, true, true, true, false, false] rfl rfl (one_of HT_.out (by kernel_rfl)) (by decide) (fun K hK => ?_)
                  refine goes_ Try.func26 (by kernel_rfl) rfl #[.slice A6 l6.length c6] (by rfl) rfl rfl (by (try simp only [List.map_toArray, List.map_cons, List.map_nil]); first | done | rfl | (simp only [List.length_drop, List.length_take]; rfl)) ?_
                  with_reducible refine (bitmap_Of.calls _ _ l6 t405 _ ?side1 ?side2 A28.out).mono ?_
                  (case side1 => repeat (first | exact (Kd.C_below HR6.out HB.out) | (with_reducible refine Kd.C_alloc ?_ _) | (with_reducible refine Kd.C_drewN ?_ _) | (with_reducible refine Kd.C_drew ?_)))
                  (case side2 => exact HC6.out)
                  rintro e w54 ⟨rfl, hb⟩
                  refine ⟨_, rfl, ?_⟩
                  have n0_ := Aside0.mk (blk_below (g := gb401) (o := .cells (Ag.agC .i64 32 x402000_2) 69 (0, 0)) (by (with_reducible repeat (first | refine blk_drewN ?_ _ | refine blk_drew ?_ | refine blk_alloc ?_ _)); exact BK401.out) hb)
                  have n1_ := Aside0.mk (below_step (by repeat (first | (with_reducible first | exact HB.out | apply below_alloc | apply pw_below_drewN | apply below_drew1 | refine below_set ?_ GE401.out | refine Ag.row_below ?_ GE401.out) | exact HB.out)) hb)
                  clear BK401
                  clear HB
                  have BK401 := n0_
                  have HB := n1_
                  clear n0_ n1_
                  (try clear hb)
                  (try clear hb2)
                  (try clear hk)
                  (try clear hi)
                  refine hK.out _ _ (Ag.ldTrk_run BK401.out) (fun hHeld => ?_)
                  clear hK K
                  refine norm_ (a' := ?_) ?_ ?_
                  rotate_left
                  · show Act.put _ (some 55) _ = _
                    simp only [Act.put, List.setIfInBounds_toArray, List.set_cons_zero, List.set_cons_succ, i64_w, i32_w]
                    rfl
                  refine one_ (i := 8) (N := some 56) #[true, true, true, true, true, true, true, true, true, false] rfl rfl (one_of HT_.out (by kernel_rfl)) (by decide) (fun K hK => ?_)
                  refine goes_ Try.func46 (by kernel_rfl) rfl #[.agg (Ag.agC .i64 32 x402000_2), .int .i64 a1, .int .i64 a2, .int .i64 a3, .int .i64 a4, .int .i64 a5, .agg (Ag.agC .u64 65 t405)] (by rfl) rfl rfl (by (try simp only [List.map_toArray, List.map_cons, List.map_nil]); first | done | rfl | (simp only [List.length_drop, List.length_take]; rfl)) ?_
                  with_reducible refine (prefetch_Window.calls k2 x402000_2 a1 a2 a3 a4 a5 t405 t406 _ A29.out).mono ?_
                  rintro e w55 ⟨v407, rfl, ho0, hb⟩
                  refine ⟨_, rfl, ?_⟩
                  have n0_ := Aside0.mk (Kd.R_lower ho0 (below_size (by repeat (first | (with_reducible first | exact HB.out | apply below_alloc | apply pw_below_drewN | apply below_drew1 | refine below_set ?_ GE401.out | refine Ag.row_below ?_ GE401.out) | exact HB.out))))
                  have n1_ := Aside0.mk (blk_below (g := gb401) (o := .cells (Ag.agC .i64 32 x402000_2) 69 (0, 0)) (by (with_reducible repeat (first | refine blk_drewN ?_ _ | refine blk_drew ?_ | refine blk_alloc ?_ _)); exact BK401.out) hb)
                  have n2_ := Aside0.mk (below_step (by repeat (first | (with_reducible first | exact HB.out | apply below_alloc | apply pw_below_drewN | apply below_drew1 | refine below_set ?_ GE401.out | refine Ag.row_below ?_ GE401.out) | exact HB.out)) hb)
                  clear BK401
                  clear HB
                  have HO408 := n0_
                  have BK401 := n1_
                  have HB := n2_
                  clear n0_ n1_ n2_
                  (try clear hb)
                  (try clear hb2)
                  (try clear hk)
                  (try clear hi)
                  (try clear ho0)
                  refine hK.out _ _ (Ag.ldTrk_run BK401.out) (fun hHeld => ?_)
                  clear hK K
                  refine norm_ (a' := ?_) ?_ ?_
                  rotate_left
                  · show Act.put _ (some 56) _ = _
                    simp only [Act.put, List.setIfInBounds_toArray, List.set_cons_zero, List.set_cons_succ, i64_w, i32_w]
                    rfl
                  refine pure_ (i := 9) (N := some 18) (v := ?_) (a' := ?_) #[true, true, true, true, true, true, true, true, true, true] rfl rfl (any_of HT_.out (by kernel_rfl)) (fun _ _ _ h => h) (Or.inl ⟨by rfl, ?_⟩) ?_ ?_
                  rotate_left
                  · intro w'
                    go_simp
                    with_reducible rfl
                  rotate_left
                  · simp only [Act.put, List.setIfInBounds_toArray, List.set_cons_zero, List.set_cons_succ, i64_w, i32_w]
                    rfl
                  refine done_ (done_of HT_.out (by kernel_rfl)) ?_
                  try go_wp2_with (first | ((with_reducible refine ag_gate (t := 69) rfl ?_); first | refine row_load rfl 69 _ rfl _ rfl .i64 32 _ 69 _ BK401.out Try.underlying69 rfl Ag.info_trk ?_ | refine row_load rfl 69 _ rfl _ rfl .i64 32 _ 69 _ (by first | exact BK401.out | (repeat (first | exact BK401.out | refine blk_far ?_ (by assumption) _ | refine Ag.row_far ?_ (by assumption) _))) Try.underlying69 rfl Ag.info_trk ?_) | ((with_reducible refine ag_gate_st (t := 69) rfl ?_); first | refine row_store2 rfl 69 _ _ rfl rfl _ rfl .i64 32 _ rfl _ 69 BK401.out Ag.info_trk (Ag.agC_size _ _ _) ?_ | refine row_store2 rfl 69 _ _ rfl rfl _ rfl .i64 32 _ rfl _ 69 (by first | exact BK401.out | (repeat (first | exact BK401.out | refine blk_far ?_ (by assumption) _ | refine Ag.row_far ?_ (by assumption) _))) Ag.info_trk (Ag.agC_size _ _ _) ?_) | ((with_reducible refine gate_callee (f := 47) rfl ?_); refine goesL_ (some 60) rfl rfl Try.func47 (by kernel_rfl) rfl #[.agg (Ag.agC .i64 32 x402000_2), .int .i64 a1] rfl (by (try simp only [List.map_toArray, List.map_cons, List.map_nil]); first | done | rfl | (simp only [List.length_drop, List.length_take]; rfl)) ?_; (with_reducible refine (prefetch_Track_Row.calls x402000_2 a1 t409 _ A30.out).mono ?_); rintro e w57 ⟨rfl, hb⟩; refine ⟨_, rfl, ?_⟩; have n0_ := Aside0.mk (Kd.R_below (by (with_reducible repeat (first | apply Kd.R_alloc | apply Kd.R_drewN | apply Kd.R_drew)); exact HO408.out) hb); have n1_ := Aside0.mk (blk_below (g := gb401) (o := .cells (Ag.agC .i64 32 x402000_2) 69 (0, 0)) (by (with_reducible repeat (first | refine blk_drewN ?_ _ | refine blk_drew ?_ | refine blk_alloc ?_ _)); exact BK401.out) hb); have n2_ := Aside0.mk (below_step (by repeat (first | (with_reducible first | exact HB.out | apply below_alloc | apply pw_below_drewN | apply below_drew1 | refine below_set ?_ GE401.out | refine Ag.row_below ?_ GE401.out) | exact HB.out)) hb); clear HO408; clear BK401; clear HB; have HO408 := n0_; have BK401 := n1_; have HB := n2_; clear n0_ n1_ n2_; (try clear hb); (try clear hb2); (try clear hk); (try clear hi)) | ((with_reducible refine gate_callee (f := 37) rfl ?_); refine goesL_ (some 66) rfl rfl Try.func37 (by kernel_rfl) rfl #[.int .i64 a2, .int .i64 a3, .int .i64 a4] rfl (by (try simp only [List.map_toArray, List.map_cons, List.map_nil]); first | done | rfl | (simp only [List.length_drop, List.length_take]; rfl)) ?_; (with_reducible refine (spenceref04_Bounds.calls k2 a2 a3 a4 t410 t411 _ A32.out).mono ?_); rintro e w58 ⟨rfl, hb⟩; refine ⟨_, rfl, ?_⟩; have n0_ := Aside0.mk (Kd.R_below (by (with_reducible repeat (first | apply Kd.R_alloc | apply Kd.R_drewN | apply Kd.R_drew)); exact HO408.out) hb); have n1_ := Aside0.mk (blk_below (g := gb401) (o := .cells (Ag.agC .i64 32 x402000_2) 69 (0, 0)) (by (with_reducible repeat (first | refine blk_drewN ?_ _ | refine blk_drew ?_ | refine blk_alloc ?_ _)); exact BK401.out) hb); have n2_ := Aside0.mk (below_step (by repeat (first | (with_reducible first | exact HB.out | apply below_alloc | apply pw_below_drewN | apply below_drew1 | refine below_set ?_ GE401.out | refine Ag.row_below ?_ GE401.out) | exact HB.out)) hb); clear HO408; clear BK401; clear HB; have HO408 := n0_; have BK401 := n1_; have HB := n2_; clear n0_ n1_ n2_; (try clear hb); (try clear hb2); (try clear hk); (try clear hi); obtain ⟨Ao59, co59, eo59⟩ := Kd.R_slice HO408.out; subst eo59) | ((with_reducible refine gate_callee (f := 34) rfl ?_); refine goesL_ (some 96) rfl rfl Try.func34 (by kernel_rfl) rfl #[.slice Ao59 t406.length co59, .slice none 0 0] rfl (by (try simp only [List.map_toArray, List.map_cons, List.map_nil]); first | done | rfl | (simp only [List.length_drop, List.length_take]; rfl)) ?_; (refine (spenceref01_Ints.calls k2 _ _ t406 _ _ ([] : List Int) t419 _ ?side1 ?side2 ?side3 ?side4 A52.out).mono ?_); (case side1 => repeat (first | exact (Kd.R_reads' HO408.out).2.2 | (with_reducible refine Kd.C_alloc ?_ _) | (with_reducible refine Kd.C_drewN ?_ _) | (with_reducible refine Kd.C_drew ?_))); (case side2 => exact (Kd.R_reads' HO408.out).2.1); (case side3 => exact Kd.C_nil _ _); (case side4 => exact Nat.le_refl _); rintro e w' ⟨rfl, ⟨nd, rfl⟩⟩; refine ⟨_, rfl, ?_⟩))
                  go_ret
                  exact ⟨by first | rfl | exact ne_empty _ | exact eq_empty _ | (simp [errW_none, errW_some] <;> rfl) | (simp only [← hji31]; first | rfl | (simp [errW_none, errW_some] <;> rfl)) | (simp [*, errW_none, errW_some] <;> rfl), by repeat (first | (with_reducible first | exact HB.out | apply below_alloc | apply pw_below_drewN | apply below_drew1 | refine below_set ?_ GE401.out | refine Ag.row_below ?_ GE401.out) | exact HB.out)⟩
  · replace c9 := Bool.eq_false_iff.mpr c9
    subst c9
    have H1 : (some false) = some r := by rw [if_neg (show ¬ (false = true) by decide)] at H; exact H
    clear H
    have H := H1
    clear H1
    obtain rfl := Option.some.inj H
    go_enter Try.func11, Try.ntmps11
    go_wp2_with (first | ((with_reducible refine ag_gate (t := 69) rfl ?_); first | refine row_load rfl 69 _ rfl _ rfl .i64 32 _ 69 _ BK401.out Try.underlying69 rfl Ag.info_trk ?_ | refine row_load rfl 69 _ rfl _ rfl .i64 32 _ 69 _ (by first | exact BK401.out | (repeat (first | exact BK401.out | refine blk_far ?_ (by assumption) _ | refine Ag.row_far ?_ (by assumption) _))) Try.underlying69 rfl Ag.info_trk ?_) | ((with_reducible refine ag_gate_st (t := 69) rfl ?_); first | refine row_store2 rfl 69 _ _ rfl rfl _ rfl .i64 32 _ rfl _ 69 BK401.out Ag.info_trk (Ag.agC_size _ _ _) ?_ | refine row_store2 rfl 69 _ _ rfl rfl _ rfl .i64 32 _ rfl _ 69 (by first | exact BK401.out | (repeat (first | exact BK401.out | refine blk_far ?_ (by assumption) _ | refine Ag.row_far ?_ (by assumption) _))) Ag.info_trk (Ag.agC_size _ _ _) ?_) | ((with_reducible refine gate_callee (f := 43) rfl ?_); refine goesL_ (some 22) rfl rfl Try.func43 (by kernel_rfl) rfl #[] rfl (by (try simp only [List.map_toArray, List.map_cons, List.map_nil]); first | done | rfl | (simp only [List.length_drop, List.length_take]; rfl)) ?_; (with_reducible refine (spencelaw29_awake.calls k  false _ A8.out).mono ?_); rintro e w60 ⟨rfl, hb⟩; refine ⟨_, rfl, ?_⟩; have n0_ := Aside0.mk (below_step (by repeat (first | (with_reducible first | exact HB.out | apply below_alloc | apply pw_below_drewN | apply below_drew1) | exact HB.out)) hb); clear HB; have HB := n0_; clear n0_; (try clear hb); (try clear hb2); (try clear hk); (try clear hi)))
    go_ret
    exact ⟨by first | rfl | exact ne_empty _ | exact eq_empty _ | (simp [errW_none, errW_some] <;> rfl) | (simp [*, errW_none, errW_some] <;> rfl), by repeat (first | (with_reducible first | exact HB.out | apply below_alloc | apply pw_below_drewN | apply below_drew1) | exact HB.out)⟩
/-- THE ONE PURE STATEMENT of spencelaw29_PrefetchWindows. -/
def spencelaw29_PrefetchWindows.Pure : Prop := ∀ (l0 : List (S72)) (a1 : Int) (a2 : Int) (a3 : Int) (a4 : Int) (a5 : Int) (l6 : List Int), l0.length * 24 ≤ 140737488351232 → (∀ x ∈ l0, ((Lit.int .i64 x.f0).wf = true ∧ (Lit.int .i64 x.f1).wf = true ∧ (Lit.int .i64 x.f2).wf = true)) → (Lit.int .i64 a1).wf = true → (Lit.int .i64 a2).wf = true → (Lit.int .i64 a3).wf = true → (Lit.int .i64 a4).wf = true → (Lit.int .i64 a5).wf = true → l6.length * 8 ≤ 140737488351232 → (∀ x ∈ l6, (Lit.int .i64 x).wf = true) → ∃ k, spencelaw29_PrefetchWindows.f k l0 a1 a2 a3 a4 a5 l6 = some true
end Go.Proofs.Ytmojlhpkidbklaa.PAll
namespace Go.Proofs.Ytmojlhpkidbklaa.Ag
open Go.RowKit
def InU (f : Nat → Int) : Prop := ∀ j, ∃ n : Nat, f j = (n : Int) ∧ n < 2 ^ 64
theorem u64_wr (n : Int) (h0 : 0 ≤ n) (h1 : n < 2 ^ 64) : IntKind.u64.wrap n = n := by
  unfold IntKind.wrap
  simp [IntKind.bits, IntKind.signed]
  omega
theorem two_lt (r : Nat) (h : r < 64) : (2 ^ r : Nat) < 2 ^ 64 := Nat.pow_lt_pow_right (by decide) h
theorem two_cast (r : Nat) : (2 : Int) ^ r = ((2 ^ r : Nat) : Int) := by simp
theorem or_u (a b : Nat) (ha : a < 2 ^ 64) (hb : b < 2 ^ 64) : bits .or .u64 (a : Int) (b : Int) = ((a ||| b : Nat) : Int) := (bits_nat .u64 64 (by decide) u64_wr a b ha hb).2
theorem and_u (a b : Nat) (ha : a < 2 ^ 64) (hb : b < 2 ^ 64) : bits .and .u64 (a : Int) (b : Int) = ((a &&& b : Nat) : Int) := (bits_nat .u64 64 (by decide) u64_wr a b ha hb).1
theorem has_eq (f : Nat → Int) (hU : InU f) (i : Int) : hasF f i = (decide (0 ≤ i ∧ i ≤ 4096) && (f (i.toNat / 64)).toNat.testBit (i.toNat % 64)) := by
  unfold hasF
  obtain ⟨n, e, hn⟩ := hU (i.toNat / 64)
  congr 1
  rw [e, two_cast, Int.toNat_natCast]
  have h1 : ((n : Int) / ((2 ^ (i.toNat % 64) : Nat) : Int)) = ((n / 2 ^ (i.toNat % 64) : Nat) : Int) := rfl
  have h2 : n / 2 ^ (i.toNat % 64) < 2 ^ 64 := Nat.lt_of_le_of_lt (Nat.div_le_self _ _) hn
  rw [h1, show (1 : Int) = ((1 : Nat) : Int) from rfl, and_u _ 1 h2 (by decide), Nat.and_one_is_mod, Nat.testBit_eq_decide_div_mod_eq]
  generalize n / 2 ^ (i.toNat % 64) % 2 = m
  rw [Bool.eq_iff_iff, beq_iff_eq, decide_eq_true_eq]
  omega
theorem with_eq (f : Nat → Int) (hU : InU f) (i : Int) (h : 0 ≤ i ∧ i ≤ 4096) : withF f i = putF f (i.toNat / 64) (((f (i.toNat / 64)).toNat ||| 2 ^ (i.toNat % 64) : Nat) : Int) ∧ ((f (i.toNat / 64)).toNat ||| 2 ^ (i.toNat % 64)) < 2 ^ 64 := by
  obtain ⟨n, e, hn⟩ := hU (i.toNat / 64)
  have h2 := two_lt (i.toNat % 64) (Nat.mod_lt _ (by decide))
  unfold withF
  rw [if_pos h, e, two_cast, u64_wr _ (Int.natCast_nonneg _) (by exact_mod_cast h2), or_u _ _ hn h2, Int.toNat_natCast]
  exact ⟨rfl, Nat.or_lt_two_pow hn h2⟩
theorem zeroU : InU zeroF := fun _ => ⟨0, rfl, by decide⟩
theorem withU (f : Nat → Int) (hU : InU f) (i : Int) : InU (withF f i) := by
  by_cases h : 0 ≤ i ∧ i ≤ 4096
  · obtain ⟨e, hlt⟩ := with_eq f hU i h
    rw [e]
    intro j
    unfold putF
    split
    · exact ⟨_, rfl, hlt⟩
    · exact hU j
  · unfold withF; rw [if_neg h]; exact hU
theorem has_with (f : Nat → Int) (hU : InU f) (i j : Int) : hasF (withF f i) j = (hasF f j || (decide (0 ≤ i ∧ i ≤ 4096) && decide (i = j))) := by
  by_cases h : 0 ≤ i ∧ i ≤ 4096
  · rw [has_eq _ (withU f hU i), has_eq _ hU, decide_eq_true h, Bool.true_and]
    by_cases hj : 0 ≤ j ∧ j ≤ 4096
    · rw [decide_eq_true hj, Bool.true_and, Bool.true_and, (with_eq f hU i h).1]
      unfold putF
      by_cases hq : j.toNat / 64 = i.toNat / 64
      · rw [if_pos hq, Int.toNat_natCast, Nat.testBit_or, Nat.testBit_two_pow, hq]
        congr 1
        rw [decide_eq_decide]; omega
      · rw [if_neg hq, decide_eq_false (by omega), Bool.or_false]
    · rw [decide_eq_false hj, decide_eq_false (by omega)]; rfl
  · unfold withF; rw [if_neg h, decide_eq_false h, Bool.false_and, Bool.or_false]
theorem has_fold (l : List Int) (j : Int) : ∀ f, InU f → hasF (l.foldl withF f) j = (hasF f j || (decide (0 ≤ j ∧ j ≤ 4096) && decide (j ∈ l))) := by
  induction l with
  | nil => intro f _; simp
  | cons x l ih =>
    intro f h
    rw [List.foldl_cons, ih _ (withU f h x), has_with f h x j, Bool.or_assoc]
    congr 1
    rw [Bool.eq_iff_iff]
    simp only [Bool.or_eq_true, Bool.and_eq_true, decide_eq_true_eq, List.mem_cons]
    constructor
    · rintro (⟨h1, h2⟩ | ⟨h1, h2⟩)
      · exact ⟨by omega, .inl h2.symm⟩
      · exact ⟨h1, .inr h2⟩
    · rintro ⟨h1, h2 | h2⟩
      · exact .inl ⟨by omega, h2.symm⟩
      · exact .inr ⟨h1, h2⟩
theorem has_zero (j : Int) : hasF zeroF j = false := by
  rw [has_eq _ zeroU]
  simp [zeroF]
theorem has_of (l : List Int) (j : Int) : hasF (l.foldl withF zeroF) j = (decide (0 ≤ j ∧ j ≤ 4096) && decide (j ∈ l)) := by
  rw [has_fold l j _ zeroU, has_zero, Bool.false_or]
end Go.Proofs.Ytmojlhpkidbklaa.Ag
namespace Go.Proofs.Ytmojlhpkidbklaa.Pure
open Go.RowKit Go.Proofs.YtmojlhpkidbklaaW.PrintWords Go.Proofs.YtmojlhpkidbklaaW.PrintLast Go.Proofs.YtmojlhpkidbklaaW.PrintMore
theorem Ev.succ {α : Type} {g : Nat → Option α} {r : α} (h : Ev (fun k => g (k + 1)) r) : Ev g r := Ev.step (fun _ => rfl) h
theorem Ev.all {α : Type} {g : Nat → Option α} {r : α} (h : ∀ k, g k = some r) : Ev g r := ⟨0, fun k _ => h k⟩
theorem Ev.pos {α : Type} {g : Nat → Option α} {r : α} (h : ∀ k, g (k + 1) = some r) : Ev g r := ⟨1, fun k hk => by obtain ⟨j, rfl⟩ : ∃ j, k = j + 1 := ⟨k - 1, by omega⟩; exact h j⟩
theorem wrap_id {x : Int} (h : -9223372036854775808 ≤ x ∧ x ≤ 9223372036854775807) : wrap64 x = x := by unfold wrap64; omega
theorem wf_bd {x : Int} (h : (Lit.int .i64 x).wf = true) : -9223372036854775808 ≤ x ∧ x ≤ 9223372036854775807 := bounds_i64 h
theorem mn_le (a b : Int) : mn a b ≤ a ∧ mn a b ≤ b ∧ (mn a b = a ∨ mn a b = b) := by unfold mn; split <;> omega
theorem mn_eq (a b : Int) : mn a b = min a b := by unfold mn; split <;> omega
theorem mx_eq (a b : Int) : mx a b = max a b := by unfold mx; split <;> omega
end Go.Proofs.Ytmojlhpkidbklaa.Pure
namespace Go.Proofs.Ytmojlhpkidbklaa.PAll
open Go.RowKit Go.Proofs.Ytmojlhpkidbklaa.Xw Go.Proofs.YtmojlhpkidbklaaW.PrintWords Go.Proofs.YtmojlhpkidbklaaW.PrintLast Go.Proofs.YtmojlhpkidbklaaW.PrintMore
attribute [local go_sem] max2_int min2_int max_two min_two max_three min_three max_four min_four   -- for this text's walks alone
set_option linter.unusedVariables false
set_option linter.unusedSimpArgs false
mutual
def spenceref04_Meet.j0 : Nat → Bool → Int → Int → Int → Int → Option (Int × Int)
  | 0, _, _, _, _, _ => none
  | k + 1, x12, x324000, x324001, x325000, x325001 => if x12 = true then (some (0, 0)) else (if x325000 > x324000 then (spenceref04_Meet.j1 k x325000 x324001 x325000 x325001) else (spenceref04_Meet.j1 k x324000 x324001 x325000 x325001))
def spenceref04_Meet.j1 : Nat → Int → Int → Int → Int → Option (Int × Int)
  | 0, _, _, _, _ => none
  | k + 1, x324000, x324001, x325000, x325001 => if x325001 < x324001 then (if x324000 ≥ x325001 then (some (0, 0)) else (some (x324000, x325001))) else (if x324000 ≥ x324001 then (some (0, 0)) else (some (x324000, x324001)))
end
def spenceref04_Meet.f (k : Nat) (a0_0 : Int) (a0_1 : Int) (a1_0 : Int) (a1_1 : Int) : Option (Int × Int) := (spenceref04_Right.f a0_0 a0_1).bind fun t326 => (if t326 = true then ((spenceref04_Right.f a1_0 a1_1).bind fun t327 => (spenceref04_Meet.j0 k (!t327) a0_0 a0_1 a1_0 a1_1)) else (spenceref04_Meet.j0 k true a0_0 a0_1 a1_0 a1_1))
theorem spenceref04_Meet.mono_l : ∀ k, (∀ y0 y1 y2 y3 y4, LeO (spenceref04_Meet.j0 k y0 y1 y2 y3 y4) (spenceref04_Meet.j0 (k + 1) y0 y1 y2 y3 y4)) ∧ (∀ y0 y1 y2 y3, LeO (spenceref04_Meet.j1 k y0 y1 y2 y3) (spenceref04_Meet.j1 (k + 1) y0 y1 y2 y3))
  | 0 => ⟨fun _ _ _ _ _ r h => by simp [spenceref04_Meet.j0] at h, fun _ _ _ _ r h => by simp [spenceref04_Meet.j1] at h⟩
  | k + 1 => by
    obtain ⟨ih0, ih1⟩ := spenceref04_Meet.mono_l k
    refine ⟨?_, ?_⟩
    · intro y0 y1 y2 y3 y4
      unfold spenceref04_Meet.j0
      repeat' first
      | (with_reducible exact ih0 _ _ _ _ _)
      | (with_reducible exact ih1 _ _ _ _)
      | (with_reducible exact LeO.refl _)
      | (with_reducible exact LeO.none _)
      | (with_reducible refine LeO.ite ?_ ?_)
      | (with_reducible refine LeO.bind ?_ (fun _ => ?_))
      | exact ih0 _ _ _ _ _
      | exact ih1 _ _ _ _
      | exact LeO.none _
      | refine LeO.ite ?_ ?_
      | refine LeO.bind ?_ (fun _ => ?_)
    · intro y0 y1 y2 y3
      unfold spenceref04_Meet.j1
      repeat' first
      | (with_reducible exact ih0 _ _ _ _ _)
      | (with_reducible exact ih1 _ _ _ _)
      | (with_reducible exact LeO.refl _)
      | (with_reducible exact LeO.none _)
      | (with_reducible refine LeO.ite ?_ ?_)
      | (with_reducible refine LeO.bind ?_ (fun _ => ?_))
      | exact ih0 _ _ _ _ _
      | exact ih1 _ _ _ _
      | exact LeO.none _
      | refine LeO.ite ?_ ?_
      | refine LeO.bind ?_ (fun _ => ?_)
theorem spenceref04_Meet.mono : ∀ a0 a1 a2 a3 k, LeO (spenceref04_Meet.f k a0 a1 a2 a3) (spenceref04_Meet.f (k + 1) a0 a1 a2 a3) := by
  intro a0 a1 a2 a3 k
  obtain ⟨ih0, ih1⟩ := spenceref04_Meet.mono_l k
  unfold spenceref04_Meet.f
  repeat' first
      | (with_reducible exact ih0 _ _ _ _ _)
      | (with_reducible exact ih1 _ _ _ _)
      | (with_reducible exact LeO.refl _)
      | (with_reducible exact LeO.none _)
      | (with_reducible refine LeO.ite ?_ ?_)
      | (with_reducible refine LeO.bind ?_ (fun _ => ?_))
      | exact ih0 _ _ _ _ _
      | exact ih1 _ _ _ _
      | exact LeO.none _
      | refine LeO.ite ?_ ?_
      | refine LeO.bind ?_ (fun _ => ?_)
end Go.Proofs.Ytmojlhpkidbklaa.PAll
namespace Go.Proofs.Ytmojlhpkidbklaa.PAll
open Go.RowKit Go.Proofs.Ytmojlhpkidbklaa.Xw Go.Proofs.YtmojlhpkidbklaaW.PrintWords Go.Proofs.YtmojlhpkidbklaaW.PrintLast Go.Proofs.YtmojlhpkidbklaaW.PrintMore
attribute [local go_sem] max2_int min2_int max_two min_two max_three min_three max_four min_four   -- for this text's walks alone
set_option linter.unusedVariables false
set_option linter.unusedSimpArgs false
mutual
def spenceref04_Cover.l0 : Nat → List (S35) → Int → Int → List Int → Int → Option (List Int)
  | 0, _, _, _, _, _ => none
  | k + 1, x0, x1, x2, x7, x8 => if x8 ≤ 4096 then ((spenceref04_Bounds.f k x8 x1 x2).bind fun bt328 => (if bt328.2 = 0 then (some x7) else (spenceref04_Cover.l1 k x0 x1 x2 x7 x8 false x0 (x0.length : Int) 0 bt328.1 bt328.2))) else (some x7)
def spenceref04_Cover.l1 : Nat → List (S35) → Int → Int → List Int → Int → Bool → List (S35) → Int → Int → Int → Int → Option (List Int)
  | 0, _, _, _, _, _, _, _, _, _, _, _ => none
  | k + 1, x0, x1, x2, x7, x8, x10, x24, x25, x26, x331000, x331001 => if x26 < x25 then (if 0 ≤ x26 then (if x26 < (x24.length : Int) then (if x10 = true then (spenceref04_Cover.l1 k x0 x1 x2 x7 x8 true x24 x25 (wrap64 (x26 + 1)) x331000 x331001) else ((spenceref04_Meet.f k ((rd_T35 x24 x26).f0) ((rd_T35 x24 x26).f1) x331000 x331001).bind fun bt333 => (spenceref04_Cover.l1 k x0 x1 x2 x7 x8 (decide (bt333.2 > 0)) x24 x25 (wrap64 (x26 + 1)) x331000 x331001))) else (none)) else (none)) else (if x10 = true then (if x7.length < 17592186044416 then (spenceref04_Cover.l0 k x0 x1 x2 (x7 ++ [x8]) (wrap64 (x8 + 1))) else (none)) else (spenceref04_Cover.l0 k x0 x1 x2 x7 (wrap64 (x8 + 1))))
end
def spenceref04_Cover.f (k : Nat) (l0 : List (S35)) (a1 : Int) (a2 : Int) : Option (List Int) := spenceref04_Cover.l0 k l0 a1 a2 ([] : List Int) 0
theorem spenceref04_Cover.mono_l : ∀ k, (∀ y0 y1 y2 y3 y4, LeO (spenceref04_Cover.l0 k y0 y1 y2 y3 y4) (spenceref04_Cover.l0 (k + 1) y0 y1 y2 y3 y4)) ∧ (∀ y0 y1 y2 y3 y4 y5 y6 y7 y8 y9 y10, LeO (spenceref04_Cover.l1 k y0 y1 y2 y3 y4 y5 y6 y7 y8 y9 y10) (spenceref04_Cover.l1 (k + 1) y0 y1 y2 y3 y4 y5 y6 y7 y8 y9 y10))
  | 0 => ⟨fun _ _ _ _ _ r h => by simp [spenceref04_Cover.l0] at h, fun _ _ _ _ _ _ _ _ _ _ _ r h => by simp [spenceref04_Cover.l1] at h⟩
  | k + 1 => by
    obtain ⟨ih0, ih1⟩ := spenceref04_Cover.mono_l k
    refine ⟨?_, ?_⟩
    · intro y0 y1 y2 y3 y4
      unfold spenceref04_Cover.l0
      repeat' first
      | (with_reducible exact ih0 _ _ _ _ _)
      | (with_reducible exact ih1 _ _ _ _ _ _ _ _ _ _ _)
      | (with_reducible exact spenceref04_Bounds.mono _ _ _ _)
      | (with_reducible exact spenceref04_Meet.mono _ _ _ _ _)
      | (with_reducible exact LeO.refl _)
      | (with_reducible exact LeO.none _)
      | (with_reducible refine LeO.ite ?_ ?_)
      | (with_reducible refine LeO.bind ?_ (fun _ => ?_))
      | exact ih0 _ _ _ _ _
      | exact ih1 _ _ _ _ _ _ _ _ _ _ _
      | exact spenceref04_Bounds.mono _ _ _ _
      | exact spenceref04_Meet.mono _ _ _ _ _
      | exact LeO.none _
      | refine LeO.ite ?_ ?_
      | refine LeO.bind ?_ (fun _ => ?_)
    · intro y0 y1 y2 y3 y4 y5 y6 y7 y8 y9 y10
      unfold spenceref04_Cover.l1
      repeat' first
      | (with_reducible exact ih0 _ _ _ _ _)
      | (with_reducible exact ih1 _ _ _ _ _ _ _ _ _ _ _)
      | (with_reducible exact spenceref04_Bounds.mono _ _ _ _)
      | (with_reducible exact spenceref04_Meet.mono _ _ _ _ _)
      | (with_reducible exact LeO.refl _)
      | (with_reducible exact LeO.none _)
      | (with_reducible refine LeO.ite ?_ ?_)
      | (with_reducible refine LeO.bind ?_ (fun _ => ?_))
      | exact ih0 _ _ _ _ _
      | exact ih1 _ _ _ _ _ _ _ _ _ _ _
      | exact spenceref04_Bounds.mono _ _ _ _
      | exact spenceref04_Meet.mono _ _ _ _ _
      | exact LeO.none _
      | refine LeO.ite ?_ ?_
      | refine LeO.bind ?_ (fun _ => ?_)
theorem spenceref04_Cover.mono : ∀ a0 a1 a2 k, LeO (spenceref04_Cover.f k a0 a1 a2) (spenceref04_Cover.f (k + 1) a0 a1 a2) := by
  intro a0 a1 a2 k
  obtain ⟨ih0, ih1⟩ := spenceref04_Cover.mono_l k
  unfold spenceref04_Cover.f
  repeat' first
      | (with_reducible exact ih0 _ _ _ _ _)
      | (with_reducible exact ih1 _ _ _ _ _ _ _ _ _ _ _)
      | (with_reducible exact spenceref04_Bounds.mono _ _ _ _)
      | (with_reducible exact spenceref04_Meet.mono _ _ _ _ _)
      | (with_reducible exact LeO.refl _)
      | (with_reducible exact LeO.none _)
      | (with_reducible refine LeO.ite ?_ ?_)
      | (with_reducible refine LeO.bind ?_ (fun _ => ?_))
      | exact ih0 _ _ _ _ _
      | exact ih1 _ _ _ _ _ _ _ _ _ _ _
      | exact spenceref04_Bounds.mono _ _ _ _
      | exact spenceref04_Meet.mono _ _ _ _ _
      | exact LeO.none _
      | refine LeO.ite ?_ ?_
      | refine LeO.bind ?_ (fun _ => ?_)
def spencelaw10_CutsCovers.f (k : Nat) (l0 : List (S35)) (a1 : Int) (a2 : Int) : Option (Bool) := (spencelaw10_awake.f).bind fun t338 => (if t338 = true then (if (l0.length : Int) > 20 then (some true) else ((cuts_Cover.f k l0 a1 a2).bind fun t339 => ((spenceref04_Cover.f k l0 a1 a2).bind fun t342 => ((spenceref01_Ints.f k t339 t342).bind fun t345 => (some t345))))) else (some false))
theorem spencelaw10_CutsCovers.mono : ∀ a0 a1 a2 k, LeO (spencelaw10_CutsCovers.f k a0 a1 a2) (spencelaw10_CutsCovers.f (k + 1) a0 a1 a2) := by
  intro a0 a1 a2 k
  unfold spencelaw10_CutsCovers.f
  repeat' first
      | (with_reducible exact cuts_Cover.mono _ _ _ _)
      | (with_reducible exact spenceref01_Ints.mono _ _ _)
      | (with_reducible exact spenceref04_Cover.mono _ _ _ _)
      | (with_reducible exact LeO.refl _)
      | (with_reducible exact LeO.none _)
      | (with_reducible refine LeO.ite ?_ ?_)
      | (with_reducible refine LeO.bind ?_ (fun _ => ?_))
      | exact cuts_Cover.mono _ _ _ _
      | exact spenceref01_Ints.mono _ _ _
      | exact spenceref04_Cover.mono _ _ _ _
      | exact LeO.none _
      | refine LeO.ite ?_ ?_
      | refine LeO.bind ?_ (fun _ => ?_)
def cuts_Of.f (a0_0 : Int) (a0_1 : Int) (a1 : Int) : Option (Int × Int) := (span_Right.f a0_0 a0_1).bind fun t347 => (if t347 = true then ((cuts_Right.f 0 a1).bind fun t348 => (if t348 = true then (if a1 = 0 then (none) else (some (wrap64 (Int.tdiv a0_0 a1), wrap64 ((wrap64 (Int.tdiv (wrap64 (a0_1 - 1)) a1)) + 1)))) else (some (0, 0)))) else (some (0, 0)))
end Go.Proofs.Ytmojlhpkidbklaa.PAll
namespace Go.Proofs.Ytmojlhpkidbklaa.Pure
open Go.RowKit Go.Proofs.Ytmojlhpkidbklaa.PAll Go.Proofs.YtmojlhpkidbklaaW.PrintWords Go.Proofs.YtmojlhpkidbklaaW.PrintLast Go.Proofs.YtmojlhpkidbklaaW.PrintMore
def CR (n s : Int) : Prop := 0 ≤ n ∧ n ≤ 4096 ∧ 1 ≤ s ∧ s ≤ 64
instance (n s : Int) : Decidable (CR n s) := by unfold CR; infer_instance
theorem right_eq (n s : Int) : cuts_Right.f n s = some (decide (CR n s)) := by
  unfold cuts_Right.f CR
  by_cases h0 : n ≥ 0 <;> by_cases h1 : n ≤ 4096 <;> by_cases h2 : s ≥ 1 <;> by_cases h3 : s ≤ 64 <;> simp [h0, h1, h2, h3] <;> omega
theorem ref_cuts_eq (n s : Int) : spenceref04_Cuts.f n s = some (decide (CR n s)) := right_eq n s
/-- how many slices -/
def cnt (n s : Int) : Int := if CR n s then (n + s - 1) / s else 0
theorem count_eq (n s : Int) : cuts_Count.f n s = some (cnt n s) := by
  unfold cuts_Count.f cnt
  rw [right_eq]
  by_cases h : CR n s
  · simp only [h, decide_true, Option.bind_some, if_true]
    obtain ⟨h0, h1, h2, h3⟩ := h
    rw [if_neg (by omega), wrap_id (x := n + s) (by omega), wrap_id (x := n + s - 1) (by omega), Int.tdiv_eq_ediv_of_nonneg (by omega)]
    have h4 : 0 ≤ (n + s - 1) / s := Int.ediv_nonneg (by omega) (by omega)
    have h5 : (n + s - 1) / s ≤ n + s - 1 := Int.ediv_le_self _ (by omega)
    rw [wrap_id (by omega)]
  · simp [h]
theorem lt_cnt {i n s : Int} (h : CR n s) : i < cnt n s ↔ i * s < n := by
  unfold cnt
  rw [if_pos h]
  obtain ⟨h0, h1, h2, h3⟩ := h
  have h4 : i + 1 ≤ (n + s - 1) / s ↔ (i + 1) * s ≤ n + s - 1 := Int.le_ediv_iff_mul_le (by omega)
  rw [Int.add_mul, Int.one_mul] at h4
  constructor
  · intro h; have := h4.1 (by omega); omega
  · intro h; have := h4.2 (by omega); omega
theorem cnt_bd {n s : Int} (h : CR n s) : 0 ≤ cnt n s ∧ cnt n s ≤ n := by
  have h' := h
  obtain ⟨h0, h1, h2, h3⟩ := h'
  constructor
  · unfold cnt; rw [if_pos h]; exact Int.ediv_nonneg (by omega) (by omega)
  · have := (lt_cnt (i := n) h).1
    have h6 : n ≤ n * s := by have := Int.mul_le_mul_of_nonneg_left h2 h0; omega
    by_cases h5 : n < cnt n s
    · have := this h5; omega
    · omega
/-- slice i: where it begins and ends -/
def bnd (i n s : Int) : Int × Int := if CR n s ∧ 0 ≤ i ∧ i * s < n then (i * s, mn (i * s + s) n) else (0, 0)
theorem mul_bd {i n s : Int} (h : CR n s) (h0 : 0 ≤ i) (h1 : i * s < n) : 0 ≤ i * s ∧ i ≤ i * s ∧ i * s ≤ 4096 := by
  obtain ⟨_, _, h2, _⟩ := h
  have h3 : 0 ≤ i * s := Int.mul_nonneg h0 (by omega)
  have h4 : i * 1 ≤ i * s := Int.mul_le_mul_of_nonneg_left h2 h0
  omega
theorem bounds_eq (i n s : Int) : cuts_Bounds.f i n s = some ((bnd i n s).1, (bnd i n s).2, decide (CR n s ∧ 0 ≤ i ∧ i * s < n)) := by
  unfold cuts_Bounds.f bnd
  by_cases h0 : i < 0
  · rw [if_pos h0, if_neg (by omega)]; simp; omega
  rw [if_neg h0, count_eq]
  simp only [Option.bind_some]
  by_cases hr : CR n s
  · by_cases h1 : i * s < n
    · have h2 := (lt_cnt hr).2 h1
      have hb := mul_bd hr (by omega) h1
      have hm : (i + 1) * s = i * s + s := by rw [Int.add_mul, Int.one_mul]
      have hr' := hr
      obtain ⟨g0, g1, g2, g3⟩ := hr'
      have hc : CR n s ∧ 0 ≤ i ∧ i * s < n := ⟨hr, by omega, h1⟩
      rw [if_neg (by omega), if_pos hc, wrap_id (x := i * s) (by omega), wrap_id (x := i + 1) (by omega), hm, wrap_id (x := i * s + s) (by omega), decide_eq_true hc]
    · have h2 : ¬ i < cnt n s := fun h => h1 ((lt_cnt hr).1 h)
      rw [if_pos (by omega), if_neg (by simp [h1])]; simp; omega
  · have h2 : cnt n s = 0 := by unfold cnt; rw [if_neg hr]
    rw [if_pos (by omega), if_neg (by simp [hr])]; simp [hr]
theorem ref_bounds_eq (k : Nat) (i n s : Int) : spenceref04_Bounds.f (k + 1) i n s = some (bnd i n s) := by
  unfold spenceref04_Bounds.f bnd
  rw [ref_cuts_eq]
  by_cases hr : CR n s
  · have hr' := hr
    obtain ⟨g0, g1, g2, g3⟩ := hr'
    simp only [hr, decide_true, Option.bind_some, if_true, spenceref04_Bounds.j0, true_and]
    by_cases h0 : i < 0
    · rw [if_pos h0, if_neg (by omega)]
    rw [if_neg h0]
    by_cases h1 : i * s < n
    · have hb := mul_bd hr (by omega) h1
      have hc : 0 ≤ i ∧ i * s < n := ⟨by omega, h1⟩
      rw [if_neg (by omega), wrap_id (x := i * s) (by omega), wrap_id (x := i * s + s) (by omega), if_pos hc]
      simp only [ge_iff_le, decide_eq_true_eq]
      rw [if_neg (by omega)]
      unfold mn
      by_cases h2 : i * s + s > n
      · rw [if_pos h2, if_pos h2]
      · rw [if_neg h2, if_neg h2]
    · by_cases h2 : i > 4096
      · rw [if_pos h2, if_neg (by simp [h1])]
      · have hb : 0 ≤ i * s ∧ i * s ≤ i * 64 := ⟨Int.mul_nonneg (by omega) (by omega), Int.mul_le_mul_of_nonneg_left g3 (by omega)⟩
        have hc : ¬ (0 ≤ i ∧ i * s < n) := fun h => h1 h.2
        rw [if_neg h2, wrap_id (x := i * s) (by omega), if_neg hc, if_pos (decide_eq_true (by omega))]
  · simp only [hr, decide_false, Option.bind_some, spenceref04_Bounds.j0]
    simp
theorem ref_bounds_ev (i n s : Int) : Ev (fun k => spenceref04_Bounds.f k i n s) (bnd i n s) := Ev.pos (fun k => ref_bounds_eq k i n s)
def SR (a b : Int) : Prop := 0 ≤ a ∧ a < b ∧ b ≤ 4611686018427387903
instance (n s : Int) : Decidable (SR n s) := by unfold SR; infer_instance
theorem span_right_eq (a b : Int) : span_Right.f a b = some (decide (SR a b)) := by
  unfold span_Right.f SR
  by_cases h0 : a ≥ 0 <;> by_cases h1 : a < b <;> by_cases h2 : b ≤ 4611686018427387903 <;> simp [h0, h1, h2] <;> omega
theorem span_len_eq (a b : Int) : span_Len.f a b = some (if SR a b then b - a else 0) := by
  unfold span_Len.f
  rw [span_right_eq]
  by_cases h : SR a b
  · simp only [h, decide_true, Option.bind_some, if_true]
    obtain ⟨h0, h1, h2⟩ := h
    rw [wrap_id (by omega)]
  · simp [h]
theorem bnd_in {i n s : Int} (h : CR n s ∧ 0 ≤ i ∧ i * s < n) : (bnd i n s).1 = i * s ∧ (bnd i n s).2 = mn (i * s + s) n := by
  unfold bnd; rw [if_pos h]; exact ⟨rfl, rfl⟩
theorem bnd_out {i n s : Int} (h : ¬ (CR n s ∧ 0 ≤ i ∧ i * s < n)) : bnd i n s = (0, 0) := by
  unfold bnd; rw [if_neg h]
theorem bnd_pos (i n s : Int) : (0 < (bnd i n s).2 ↔ (CR n s ∧ 0 ≤ i ∧ i * s < n)) ∧ 0 ≤ (bnd i n s).1 ∧ ((CR n s ∧ 0 ≤ i ∧ i * s < n) → (bnd i n s).1 < (bnd i n s).2 ∧ (bnd i n s).2 ≤ 4096 ∧ (bnd i n s).2 ≤ n) ∧ (¬ (CR n s ∧ 0 ≤ i ∧ i * s < n) → (bnd i n s).2 = 0) := by
  by_cases h : CR n s ∧ 0 ≤ i ∧ i * s < n
  · have hb := bnd_in h
    have hm := mul_bd h.1 h.2.1 h.2.2
    obtain ⟨⟨g0, g1, g2, g3⟩, h1, h2⟩ := h
    have h3 := mn_le (i * s + s) n
    rw [hb.1, hb.2]
    refine ⟨⟨fun _ => ⟨⟨g0, g1, g2, g3⟩, h1, h2⟩, fun _ => by omega⟩, by omega, fun _ => by omega, fun hn => (hn ⟨⟨g0, g1, g2, g3⟩, h1, h2⟩).elim⟩
  · rw [bnd_out h]
    exact ⟨⟨fun h' => by simp at h', fun h' => (h h').elim⟩, by simp, fun h' => (h h').elim, fun _ => rfl⟩
theorem last_eq (n s : Int) : cuts_Last.f n s = some ((bnd (cnt n s - 1) n s).2 - (bnd (cnt n s - 1) n s).1) := by
  unfold cuts_Last.f
  rw [count_eq]
  simp only [Option.bind_some]
  have hc : wrap64 (cnt n s - 1) = cnt n s - 1 := by
    by_cases hr : CR n s
    · have := cnt_bd hr; obtain ⟨g0, g1, g2, g3⟩ := hr; exact wrap_id (by omega)
    · unfold cnt; rw [if_neg hr]; exact wrap_id (by omega)
  rw [hc, bounds_eq]
  simp only [Option.bind_some]
  rw [span_len_eq]
  simp only [Option.bind_some]
  have hp := bnd_pos (cnt n s - 1) n s
  by_cases h : CR n s ∧ 0 ≤ cnt n s - 1 ∧ (cnt n s - 1) * s < n
  · have := hp.2.2.1 h
    have h0 := hp.2.1
    rw [if_pos ⟨h0, this.1, by omega⟩]
  · rw [bnd_out h]; rfl
end Go.Proofs.Ytmojlhpkidbklaa.Pure
namespace Go.Proofs.Ytmojlhpkidbklaa.Pure
open Go.RowKit Go.Proofs.Ytmojlhpkidbklaa.PAll Go.Proofs.YtmojlhpkidbklaaW.PrintWords Go.Proofs.YtmojlhpkidbklaaW.PrintLast Go.Proofs.YtmojlhpkidbklaaW.PrintMore
theorem ints_loop (l m : List Int) (hm : m.length = l.length) (hl : l.length ≤ 9223372036854775807) (d : Nat) : ∀ i : Int, 0 ≤ i → i ≤ l.length → (l.length : Int) - i = d →
    Ev (fun k => spenceref01_Ints.l0 k l m (l.length : Int) i) (decide (l.drop i.toNat = m.drop i.toNat)) := by
  induction d with
  | zero =>
    intro i h0 h1 hd
    refine Ev.pos (fun k => ?_)
    simp only [spenceref01_Ints.l0]
    rw [if_neg (by omega), List.drop_of_length_le (by omega), List.drop_of_length_le (by omega)]
    rfl
  | succ d ih =>
    intro i h0 h1 hd
    obtain ⟨K, hK⟩ := ih (i + 1) (by omega) (by omega) (by omega)
    refine ⟨K + 1, fun k hk => ?_⟩
    obtain ⟨k, rfl⟩ : ∃ j, k = j + 1 := ⟨k - 1, by omega⟩
    have h := hK k (by omega)
    dsimp only at h
    simp only [spenceref01_Ints.l0]
    have hi : i.toNat < l.length := by omega
    have hi' : i.toNat < m.length := by omega
    have e1 : (i + 1).toNat = i.toNat + 1 := by omega
    rw [if_pos (by omega), if_pos h0, if_pos (by omega), if_pos (by omega), wrap_id (by omega), h, e1, List.drop_eq_getElem_cons hi, List.drop_eq_getElem_cons hi']
    have r1 : rd l i = l[i.toNat] := by simp [rd, hi]
    have r2 : rd m i = m[i.toNat] := by simp [rd, hi']
    rw [r1, r2]
    by_cases h2 : l[i.toNat] = m[i.toNat]
    · rw [if_pos h2, h2]; simp only [List.cons.injEq, true_and]
    · rw [if_neg h2]; simp only [List.cons.injEq, h2, false_and, decide_false]
theorem ints_ev (l m : List Int) (hl : l.length ≤ 9223372036854775807) : Ev (fun k => spenceref01_Ints.f k l m) (decide (l = m)) := by
  by_cases h : m.length = l.length
  · have := ints_loop l m h hl l.length 0 (by omega) (by omega) (by omega)
    simp only [Int.toNat_zero, List.drop_zero] at this
    unfold spenceref01_Ints.f
    obtain ⟨K, hK⟩ := this
    exact ⟨K, fun k hk => by dsimp only; rw [if_pos (by omega)]; exact hK k hk⟩
  · refine Ev.all (fun k => ?_)
    unfold spenceref01_Ints.f
    rw [if_neg (by omega), decide_eq_false (fun e => h (by rw [e]))]
end Go.Proofs.Ytmojlhpkidbklaa.Pure
namespace Go.Proofs.Ytmojlhpkidbklaa.Pure
open Go.RowKit Go.Proofs.Ytmojlhpkidbklaa.Xw Go.Proofs.Ytmojlhpkidbklaa.PAll Go.Proofs.YtmojlhpkidbklaaW.PrintWords Go.Proofs.YtmojlhpkidbklaaW.PrintLast Go.Proofs.YtmojlhpkidbklaaW.PrintMore
open Go.Proofs.Ytmojlhpkidbklaa.Ag (hasF withF zeroF has_of)
theorem in_loop (l : List Int) (x : Int) (hl : l.length ≤ 100000) (d : Nat) : ∀ i : Int, 0 ≤ i → i ≤ l.length → (l.length : Int) - i = d → Ev (fun k => spenceref01_In.l0 k x l l.length i) (decide (x ∈ l.drop i.toNat)) := by
  induction d with
  | zero =>
    intro i h0 h1 hd
    refine Ev.pos (fun k => ?_)
    simp only [spenceref01_In.l0]
    rw [if_neg (by omega), List.drop_of_length_le (by omega)]; simp
  | succ d ih =>
    intro i h0 h1 hd
    have hi : i.toNat < l.length := by omega
    have e1 : (i + 1).toNat = i.toNat + 1 := by omega
    have hn := ih (i + 1) (by omega) (by omega) (by omega)
    rw [e1] at hn
    have hr : rd l i = l[i.toNat] := by unfold rd; simp [List.getD_eq_getElem?_getD, List.getElem?_eq_getElem hi]
    rw [List.drop_eq_getElem_cons hi]
    generalize l[i.toNat] = y at hr
    refine Ev.succ ?_
    simp only [spenceref01_In.l0, show i < (l.length : Int) by omega, h0, if_true, hr]
    by_cases hy : y = x
    · simp only [hy, if_true]; rw [decide_eq_true List.mem_cons_self]; exact Ev.now _
    · simp only [hy, if_false]
      rw [wrap_id (by omega)]
      have : decide (x ∈ y :: l.drop (i.toNat + 1)) = decide (x ∈ l.drop (i.toNat + 1)) := by
        rw [decide_eq_decide, List.mem_cons]
        exact ⟨fun h => h.resolve_left (fun e => hy e.symm), .inr⟩
      rw [this]; exact hn
theorem in_ev (l : List Int) (x : Int) (hl : l.length ≤ 100000) : Ev (fun k => spenceref01_In.f k l x) (decide (x ∈ l)) := by
  have := in_loop l x hl l.length 0 (by omega) (by omega) (by omega)
  rwa [Int.toNat_zero, List.drop_zero] at this
end Go.Proofs.Ytmojlhpkidbklaa.Pure
namespace Go.Proofs.Ytmojlhpkidbklaa.Pure
open Go.RowKit Go.Proofs.Ytmojlhpkidbklaa.Xw Go.Proofs.Ytmojlhpkidbklaa.PAll Go.Proofs.YtmojlhpkidbklaaW.PrintWords Go.Proofs.YtmojlhpkidbklaaW.PrintLast Go.Proofs.YtmojlhpkidbklaaW.PrintMore
open Go.Proofs.Ytmojlhpkidbklaa.Ag (hasF withF zeroF has_of noteF longF nextF trkZ TrkOk smallAt small_of note_ok trkZ_ok)
def win (p : Int → Bool) : Nat → Int → List Int → List Int
  | 0, _, out => out
  | d + 1, i, out => win p d (i + 1) (if p i then out else out ++ [i])
theorem win_congr (p q : Int → Bool) : ∀ (d : Nat) (i : Int) (out : List Int), (∀ x, i ≤ x → x < i + d → p x = q x) → win p d i out = win q d i out
  | 0, _, _, _ => rfl
  | d + 1, i, out, h => by rw [win, win, h i (by omega) (by omega), win_congr p q d (i + 1) _ (fun x h1 h2 => h x (by omega) (by omega))]
theorem win_len (p : Int → Bool) : ∀ (d : Nat) (i : Int) (out : List Int), (win p d i out).length ≤ out.length + d
  | 0, _, out => by simp [win]
  | d + 1, i, out => by
    rw [win]
    have h1 := win_len p d (i + 1) (if p i then out else out ++ [i])
    split at h1
    · rename_i hp; simp only [hp, if_true] at *; omega
    · rename_i hp; simp only [hp, Bool.false_eq_true, if_false] at *; simp at h1; omega
/-- as many numbers as are looked at -/
def upto (last c v : Int) : Nat := (min c (last + v + 1) - (last + 1)).toNat
theorem window_loop (F : Nat → Int) (last c v : Int) (h0 : 0 ≤ last) (hc : c ≤ 4096) (hv : -9223372036854775808 ≤ v ∧ v ≤ 9223372036854775807) (d : Nat) : ∀ (i : Int) (out : List Int), last + 1 ≤ i → i ≤ 4097 → out.length + d ≤ 10000 →
    (i + d = min c (last + v + 1) ∨ (min c (last + v + 1) ≤ i ∧ d = 0)) → Ev (fun k => prefetch_Window.l0 k last c out (mx v 0) i F) (win (hasF F) d i out) := by
  have hm := mx_eq v 0
  induction d with
  | zero =>
    intro i out h1 h2 h3 h4
    have hend : Ev (fun k => prefetch_Window.j2 k last c out (mx v 0) i false F) (win (hasF F) 0 i out) := Ev.pos fun k => by simp only [prefetch_Window.j2, Bool.false_eq_true, if_false, win]
    refine Ev.succ ?_
    simp only [prefetch_Window.l0]
    by_cases hi : i < c
    · rw [wrap_id (by omega)]
      simp only [hi, if_true, show ¬ (i - last ≤ mx v 0) by omega, decide_false]
      exact hend
    · simp only [hi, if_false]
      exact hend
  | succ d ih =>
    intro i out h1 h2 h3 h4
    have hn := ih (i + 1) (if hasF F i then out else out ++ [i]) (by omega) (by omega) (by split <;> first | omega | (simp only [List.length_append, List.length_singleton]; omega)) (by omega)
    refine Ev.succ ?_
    simp only [prefetch_Window.l0]
    rw [wrap_id (by omega)]
    simp only [show i < c by omega, show i - last ≤ mx v 0 by omega, if_true, decide_true]
    refine Ev.succ ?_
    simp only [prefetch_Window.j2, if_true, bitmap_Map_Has.f, Option.bind_some, win]
    cases hh : hasF F i
    · simp only [hh, Bool.false_eq_true, if_false] at hn ⊢
      simp only [show out.length < 17592186044416 by omega, if_true]
      rw [wrap_id (by omega)]; exact hn
    · simp only [hh, if_true] at hn ⊢
      rw [wrap_id (by omega)]; exact hn
theorem row_bd (m : Int) (t : Nat → Int) (ht : TrkOk m t) (o : Int) : 0 ≤ longF t o ∧ longF t o ≤ max m 0 := by
  have := ht o.toNat
  unfold longF
  split <;> omega
theorem window_ev (t F : Nat → Int) (m : Int) (hm : m ≤ 1000) (ht : TrkOk m t) (o last n s most : Int) (hmost : -9223372036854775808 ≤ most ∧ most ≤ 9223372036854775807) :
    Ev (fun k => prefetch_Window.f k t o last n s most F) (if 0 ≤ last ∧ last < cnt n s then win (hasF F) (upto last (cnt n s) (mn most (longF t o - 1))) (last + 1) [] else []) := by
  have hr := row_bd m t ht o
  have hmn := mn_eq most (longF t o - 1)
  unfold prefetch_Window.f
  simp only [count_eq, Option.bind_some]
  have hc : cnt n s ≤ 4096 := by
    by_cases h : CR n s
    · have h1 := (cnt_bd h).2
      have h2 := h.2.1
      omega
    · unfold cnt; rw [if_neg h]; omega
  have no : Ev (fun k => prefetch_Window.j0 k o last most (cnt n s) true t F) [] := Ev.pos fun k => by simp only [prefetch_Window.j0, if_true]
  by_cases h0 : last < 0
  · rw [if_neg (show ¬ (0 ≤ last ∧ last < cnt n s) by omega)]
    simp only [h0, if_true]; exact no
  by_cases h1 : last ≥ cnt n s
  · rw [if_neg (show ¬ (0 ≤ last ∧ last < cnt n s) by omega)]
    simp only [h0, if_false, decide_eq_true h1]; exact no
  rw [if_pos (show 0 ≤ last ∧ last < cnt n s by omega)]
  simp only [h0, if_false, decide_eq_false h1]
  refine Ev.succ ?_
  simp only [prefetch_Window.j0, Bool.false_eq_true, if_false, prefetch_Track_Row.f, Option.bind_some]
  rw [wrap_id (by omega), wrap_id (by omega)]
  exact window_loop F last (cnt n s) (mn most (longF t o - 1)) (by omega) hc (by omega) _ (last + 1) [] (by omega) (by omega) (by unfold upto; simp; omega) (by unfold upto; omega)
theorem awake29 : Ev (fun k => spencelaw29_awake.f k) true := by
  unfold spencelaw29_awake.f bitmap_Of.f
  simp only [prefetch_New.f, Option.bind_some, prefetch_Track_Note.f, prefetch_Track_Row.f]
  have o1 := note_ok 0 trkZ 1 0 1 trkZ_ok (by decide)
  have o2 := note_ok 1 _ 1 1 2 o1 (by decide)
  rw [if_pos (small_of 0 (by decide) trkZ trkZ_ok 1)]
  simp only [Option.bind_some]
  rw [if_pos (small_of 1 (by decide) _ o1 1)]
  simp only [Option.bind_some]
  refine Ev.bind (window_ev _ _ 2 (by decide) o2 1 1 40 4 3 (by decide)) ?_
  have e1 : longF (noteF (noteF trkZ 1 0 1) 1 1 2) 1 = 2 := by decide
  have e2 : cnt 40 4 = 10 := by decide
  rw [e1, e2, if_pos (by decide)]
  simp only [if_true]
  have e3 : win (hasF (([] : List Int).foldl withF zeroF)) (upto 1 10 (mn 3 (2 - 1))) (1 + 1) [] = [2] := by
    rw [win_congr _ (fun x => decide (0 ≤ x ∧ x ≤ 4096) && decide (x ∈ ([] : List Int))) _ _ _ (fun x _ _ => has_of [] x)]
    decide
  rw [e3]
  exact Ev.bind (ints_ev [2] [2] (by decide)) (Ev.now _)
theorem law_win (l : List Int) (hl : l.length ≤ 60) (n s : Int) (hn : CR n s) (last v : Int) (h0 : 0 ≤ last) (h1 : last < cnt n s) (t : List Int) (ht : t.length ≤ 100000) (hv : -9223372036854775808 ≤ v ∧ v ≤ 9223372036854775807) (d : Nat) : ∀ (i : Int) (out : List Int), last + 1 ≤ i → i ≤ 4097 → out.length + d ≤ 10000 →
    (i + d = min (cnt n s) (last + v + 1) ∨ (min (cnt n s) (last + v + 1) ≤ i ∧ d = 0)) → Ev (fun k => spencelaw29_PrefetchWindows.l1 k last n s l t v out i) (decide (t = win (fun x => decide (x ∈ l)) d i out)) := by
  have hcb := (cnt_bd hn).2
  have hcn := hn.2.1
  have bb : ∀ i, last + 1 ≤ i → ((0 < (bnd i n s).2) ↔ i < cnt n s) := fun i hi => by
    rw [(bnd_pos i n s).1, lt_cnt hn]
    exact ⟨fun h => h.2.2, fun h => ⟨hn, by omega, h⟩⟩
  have fin : ∀ (i : Int) (out : List Int), out.length ≤ 10000 → Ev (fun k => spencelaw29_PrefetchWindows.j3 k last n s l t v out i false) (decide (t = out)) := fun i out ho => by
    refine Ev.succ ?_
    simp only [spencelaw29_PrefetchWindows.j3, Bool.false_eq_true, if_false]
    exact Ev.bind (ints_ev t out (by omega)) (Ev.now _)
  induction d with
  | zero =>
    intro i out g1 g2 g3 g4
    refine Ev.succ ?_
    simp only [spencelaw29_PrefetchWindows.l1]
    rw [wrap_id (by omega)]
    by_cases hi : i - last ≤ v
    · simp only [hi, if_true]
      refine Ev.bind (ref_bounds_ev i n s) ?_
      rw [decide_eq_false (by have := bb i g1; omega)]
      exact fin i out (by omega)
    · simp only [hi, if_false]
      exact fin i out (by omega)
  | succ d ih =>
    intro i out g1 g2 g3 g4
    have hn' := ih (i + 1) (if decide (i ∈ l) then out else out ++ [i]) (by omega) (by omega) (by split <;> first | omega | (simp only [List.length_append, List.length_singleton]; omega)) (by omega)
    refine Ev.succ ?_
    simp only [spencelaw29_PrefetchWindows.l1]
    rw [wrap_id (by omega)]
    simp only [show i - last ≤ v by omega, if_true]
    refine Ev.bind (ref_bounds_ev i n s) ?_
    rw [decide_eq_true (show (bnd i n s).2 > 0 by have := (bb i g1).2 (by omega); omega)]
    refine Ev.succ ?_
    simp only [spencelaw29_PrefetchWindows.j3, if_true]
    refine Ev.bind (in_ev l i (by omega)) ?_
    simp only [win]
    by_cases hm : i ∈ l
    · simp only [hm, decide_true, if_true] at hn' ⊢
      rw [wrap_id (by omega)]; exact hn'
    · simp only [hm, decide_false, Bool.false_eq_true, if_false] at hn' ⊢
      simp only [show out.length < 17592186044416 by omega, if_true]
      rw [wrap_id (by omega)]; exact hn'
theorem law_end29 (l : List Int) (hl : l.length ≤ 60) (t : Nat → Int) (ht : TrkOk 100 t) (o last n s most : Int) (hmost : -9223372036854775808 ≤ most ∧ most ≤ 9223372036854775807) (hlast : -9223372036854775808 ≤ last ∧ last ≤ 9223372036854775807) :
    Ev (fun k => (bitmap_Of.f l).bind fun t405 => ((prefetch_Window.f k t o last n s most t405).bind fun t406 => ((prefetch_Track_Row.f t o).bind fun t409 => ((spenceref04_Bounds.f k last n s).bind fun bt410 => (if bt410.2 > 0 then (spencelaw29_PrefetchWindows.l1 k last n s l t406 (mn most (wrap64 (t409 - 1))) ([] : List Int) (wrap64 (last + 1))) else ((spenceref01_Ints.f k t406 ([] : List Int)).bind fun t419 => (some t419))))))) true := by
  have hr := row_bd 100 t ht o
  have hmn := mn_eq most (longF t o - 1)
  simp only [bitmap_Of.f, prefetch_Track_Row.f, Option.bind_some]
  refine Ev.bind (window_ev t _ 100 (by decide) ht o last n s most hmost) ?_
  refine Ev.bind (ref_bounds_ev last n s) ?_
  have hb := (bnd_pos last n s).1
  by_cases h : CR n s ∧ 0 ≤ last ∧ last * s < n
  · have hc := (lt_cnt (i := last) h.1).2 h.2.2
    have hcb := (cnt_bd h.1).2
    have hcn := h.1.2.1
    rw [if_pos ⟨h.2.1, hc⟩]
    simp only [show (bnd last n s).2 > 0 by have := hb.2 h; omega, if_true]
    rw [wrap_id (by omega), wrap_id (by omega)]
    have hlen := win_len (hasF (l.foldl withF zeroF)) (upto last (cnt n s) (mn most (longF t o - 1))) (last + 1) []
    have := law_win l hl n s h.1 last (mn most (longF t o - 1)) h.2.1 hc (win (hasF (l.foldl withF zeroF)) (upto last (cnt n s) (mn most (longF t o - 1))) (last + 1) []) (by simp at hlen; unfold upto at hlen ⊢; omega) (by omega) (upto last (cnt n s) (mn most (longF t o - 1))) (last + 1) [] (by omega) (by omega) (by unfold upto; simp; omega) (by unfold upto; omega)
    rw [decide_eq_true (win_congr _ _ _ _ _ (fun x g1 g2 => by rw [has_of, decide_eq_true (by unfold upto at g2; omega), Bool.true_and]))] at this
    exact this
  · have hc : ¬ (0 ≤ last ∧ last < cnt n s) := fun g => h (by
      have hcr : CR n s := by
        refine Decidable.byContradiction fun hx => ?_
        have : cnt n s = 0 := by unfold cnt; rw [if_neg hx]
        omega
      exact ⟨hcr, g.1, (lt_cnt hcr).1 g.2⟩)
    rw [if_neg hc]
    simp only [show ¬ (bnd last n s).2 > 0 by intro g; exact h (hb.1 g), if_false]
    exact Ev.bind (ints_ev [] [] (by decide)) (Ev.now _)
abbrev DeedS := S72
theorem law_notes (l : List DeedS) (hl : l.length ≤ 100) (have_ : List Int) (hh : have_.length ≤ 60) (o last n s most : Int) (hmost : -9223372036854775808 ≤ most ∧ most ≤ 9223372036854775807) (hlast : -9223372036854775808 ≤ last ∧ last ≤ 9223372036854775807) (d : Nat) : ∀ (i : Nat) (t : Nat → Int), i ≤ l.length → l.length - i = d → TrkOk i t →
    Ev (fun k => spencelaw29_PrefetchWindows.l0 k o last n s most have_ l l.length i t) true := by
  induction d with
  | zero =>
    intro i t h1 h2 h3
    refine Ev.succ ?_
    simp only [spencelaw29_PrefetchWindows.l0]
    simp only [show ¬ ((i : Int) < (l.length : Int)) by omega, if_false]
    exact law_end29 have_ hh t (fun q => by have := h3 q; omega) o last n s most hmost hlast
  | succ d ih =>
    intro i t h1 h2 h3
    refine Ev.succ ?_
    simp only [spencelaw29_PrefetchWindows.l0]
    simp only [show ((i : Int) < (l.length : Int)) by omega, show (0 : Int) ≤ (i : Int) by omega, if_true, prefetch_Track_Note.f, small_of (i : Int) (by omega) t h3, Option.bind_some]
    rw [wrap_id (by omega)]
    exact ih (i + 1) _ (by omega) (by omega) (note_ok i t _ _ _ h3 (by omega))
theorem PrefetchWindows : spencelaw29_PrefetchWindows.Pure := by
  intro l o last n s most have_ _ _ _ w2 _ _ w5 _ _
  have hlast := wf_bd w2
  have hmost := wf_bd w5
  refine Ev.rounds (g := fun k => spencelaw29_PrefetchWindows.f k l o last n s most have_) ?_
  refine Ev.bind awake29 ?_
  simp only [if_true]
  have yes : Ev (fun k => spencelaw29_PrefetchWindows.j0 k l o last n s most have_ true) true := Ev.pos fun k => by simp only [spencelaw29_PrefetchWindows.j0, if_true]
  by_cases c1 : (l.length : Int) > 100
  · simp only [c1, if_true]; exact yes
  by_cases c2 : (have_.length : Int) > 60
  · simp only [c1, if_false, c2, decide_true]; exact yes
  simp only [c1, if_false, c2, decide_false]
  refine Ev.succ ?_
  simp only [spencelaw29_PrefetchWindows.j0, Bool.false_eq_true, if_false, prefetch_New.f, Option.bind_some]
  exact law_notes l (by omega) have_ (by omega) o last n s most hmost hlast l.length 0 trkZ (by omega) (by omega) trkZ_ok
end Go.Proofs.Ytmojlhpkidbklaa.Pure
namespace Go.Proofs.Ytmojlhpkidbklaa.prefetchWindows
open Go.ChangeShapes Go.WideShapes Go.ChangeAt Go.RowKit Go.Proofs.Ytmojlhpkidbklaa.Rd Go.Proofs.Ytmojlhpkidbklaa.PAll Go.Proofs.YtmojlhpkidbklaaW.PrintWords
open Go.ChangeMaps (open_string shut_string)
set_option linter.unusedVariables false
theorem own : ownKnob Try.prog.godebug = none := by kernel_rfl
theorem laidOut : laidOutB Try.prog = true := by kernel_rfl
def ok72 (x : S72) : Prop := (Lit.int .i64 x.f0).wf = true ∧ (Lit.int .i64 x.f1).wf = true ∧ (Lit.int .i64 x.f2).wf = true
theorem o72 : Opens Try.prog 72 k72 ok72 := opens_struct Try.underlying72 (opensF_cons (opens_int Try.underlying3) rfl (by kernel_rfl) rfl (opensF_cons (opens_int Try.underlying3) rfl (by kernel_rfl) rfl (opensF_one (opens_int Try.underlying3) rfl (by kernel_rfl)))) (by kernel_rfl) (fun x : S72 => (x.f0, x.f1, x.f2)) (fun p => ⟨p.1, p.2.1, p.2.2⟩) (fun _ => rfl)
set_option maxRecDepth 100000 in
set_option maxHeartbeats 4000000 in
theorem lifted (os : Os) (started : os.Started) (H : Type) (enc : TypeId × Value → H) :
    ReturnsInHanded {} Try.checked os 11 .any (Rows.prefetchWindowsSpec.pre6 enc Try.prog Try.f11 Rows.prefetchWindowsRow.domain false) (Rows.prefetchWindowsSpec.post enc Try.prog Try.f11 false true false false) := by
  refine returnsInHanded_of_change_sized (C := Try.checked) own started (by kernel_rfl) Try.func11
    (ChangeSpec.witness6 (enc := enc) (C := Try.checked) false ⟨#[], #[.slice none 0 0, .int .i64 0, .int .i64 0, .int .i64 0, .int .i64 0, .int .i64 0, .slice none 0 0], []⟩ 8 (by kernel_rfl) (by kernel_rfl) (by kernel_rfl) (by kernel_rfl)) ?_
  intro W base args ds gs before hval0 hW hcnd hsz0 _
  have hsz : (DataW.weightsEach Try.prog (Try.f11.params.toList ++ Rows.prefetchWindowsSpec.plain.varTypes Try.prog) (ds ++ gs)).all (· ≤ reachBytes) = true := hsz0
  have hval : ∀ (j : Nat) t v, Try.f11.params[j]? = some t → args[j]? = some v → Value.okWide Try.prog W .any base t v := hval0
  have hW' := hW
  obtain ⟨p, q, hA0, hV, rfl, hfz, hnd⟩ := hW
  have hA : DataW.TrodAll enc Try.prog W 0 (fun _ => true) true Try.f11.params.toList args.toList ds p := hA0
  rw [Try.params11] at hA hval hsz
  obtain ⟨v0, vs0, d0, ds0, p0, q0, hargs, rfl, rfl, h0, r0⟩ := trodAll_cons hA
  obtain ⟨v1, vs1, d1, ds1, p1, q1, rfl, rfl, rfl, h1, r1⟩ := trodAll_cons r0
  obtain ⟨v2, vs2, d2, ds2, p2, q2, rfl, rfl, rfl, h2, r2⟩ := trodAll_cons r1
  obtain ⟨v3, vs3, d3, ds3, p3, q3, rfl, rfl, rfl, h3, r3⟩ := trodAll_cons r2
  obtain ⟨v4, vs4, d4, ds4, p4, q4, rfl, rfl, rfl, h4, r4⟩ := trodAll_cons r3
  obtain ⟨v5, vs5, d5, ds5, p5, q5, rfl, rfl, rfl, h5, r5⟩ := trodAll_cons r4
  obtain ⟨v6, vs6, d6, ds6, p6, q6, rfl, rfl, rfl, h6, r6⟩ := trodAll_cons r5
  obtain ⟨rfl, rfl, rfl⟩ := trodAll_nil r6
  obtain rfl : args = #[v0, v1, v2, v3, v4, v5, v6] := by cases args; simp_all
  obtain ⟨rfl, rfl⟩ := trodVars_none hV
  have k0 := h0
  have lt0 : ∀ x ∈ p0, x.block < W.heap.size := by obtain ⟨m, hm⟩ := k0; exact DataW.trod_lt m _ _ _ hm
  have k1 := h1
  have lt1 : ∀ x ∈ p1, x.block < W.heap.size := by obtain ⟨m, hm⟩ := k1; exact DataW.trod_lt m _ _ _ hm
  have k2 := h2
  have lt2 : ∀ x ∈ p2, x.block < W.heap.size := by obtain ⟨m, hm⟩ := k2; exact DataW.trod_lt m _ _ _ hm
  have k3 := h3
  have lt3 : ∀ x ∈ p3, x.block < W.heap.size := by obtain ⟨m, hm⟩ := k3; exact DataW.trod_lt m _ _ _ hm
  have k4 := h4
  have lt4 : ∀ x ∈ p4, x.block < W.heap.size := by obtain ⟨m, hm⟩ := k4; exact DataW.trod_lt m _ _ _ hm
  have k5 := h5
  have lt5 : ∀ x ∈ p5, x.block < W.heap.size := by obtain ⟨m, hm⟩ := k5; exact DataW.trod_lt m _ _ _ hm
  have k6 := h6
  have lt6 : ∀ x ∈ p6, x.block < W.heap.size := by obtain ⟨m, hm⟩ := k6; exact DataW.trod_lt m _ _ _ hm
  obtain ⟨A0, c0, l0, rfl, hc0, hC0, hok0, hb0⟩ := open_row Try.underlying64 o72 (by kernel_rfl) (hval 0 64 v0 rfl rfl) h0 hsz (j := 0) rfl rfl (B := 24) (by kernel_rfl)
  obtain ⟨a1, rfl, rfl, rfl, w1⟩ := open_int Try.underlying3 (hval 1 3 v1 rfl rfl) h1
  obtain ⟨a2, rfl, rfl, rfl, w2⟩ := open_int Try.underlying3 (hval 2 3 v2 rfl rfl) h2
  obtain ⟨a3, rfl, rfl, rfl, w3⟩ := open_int Try.underlying3 (hval 3 3 v3 rfl rfl) h3
  obtain ⟨a4, rfl, rfl, rfl, w4⟩ := open_int Try.underlying3 (hval 4 3 v4 rfl rfl) h4
  obtain ⟨a5, rfl, rfl, rfl, w5⟩ := open_int Try.underlying3 (hval 5 3 v5 rfl rfl) h5
  obtain ⟨A6, c6, l6, rfl, hc6, hC6, hok6, hb6⟩ := open_row Try.underlying22 (opens_int Try.underlying3) (by kernel_rfl) (hval 6 22 v6 rfl rfl) h6 hsz (j := 6) rfl rfl (B := 8) (by kernel_rfl)
  clear hA0 hval0 hsz0 hsz
  obtain ⟨k, hk⟩ := Pure.PrefetchWindows l0 a1 a2 a3 a4 a5 l6 hb0 hok0 w1 w2 w3 w4 w5 hb6 hok6
  refine (PAll.spencelaw29_PrefetchWindows.calls k _ _ l0 a1 a2 a3 a4 a5 _ _ l6 true W hC0 hc0 hC6 hc6 hk).mono fun e W' ⟨he, hd⟩ => ?_
  have bel : Below W.heap.size W W' := hd
  subst he
  exact ⟨_, rfl, _, _, _, [], _, [], hW', trodAll_mk1 (shut_bool Try.underlying4 _), (trodAll_cons_mk (Below.trod laidOut (by kernel_rfl) (of_decide_eq_true (by kernel_rfl)) k0 bel lt0) (trodAll_cons_mk (shut_int Try.underlying3 w1) (trodAll_cons_mk (shut_int Try.underlying3 w2) (trodAll_cons_mk (shut_int Try.underlying3 w3) (trodAll_cons_mk (shut_int Try.underlying3 w4) (trodAll_cons_mk (shut_int Try.underlying3 w5) (trodAll_cons_mk (Below.trod laidOut (by kernel_rfl) (of_decide_eq_true (by kernel_rfl)) k6 bel lt6) trodAll_mk0))))))), rfl, bel.frame _, fun h => by cases h⟩
theorem over : Rows.prefetchWindowsRow.holds Try.pinned (OpenSpec.ofChange Rows.prefetchWindowsSpec) :=
  OpenClaim.holds_of_wide 11 Try.f11 rfl rfl rfl rfl rfl rfl rfl ⟨rfl, rfl, rfl, rfl, rfl⟩ rfl rfl rfl rfl rfl (by kernel_rfl) Try.func11 (by kernel_rfl)
    (of_decide_eq_true (by kernel_rfl)) (by unfold Func.isWrapper; first | (rw [if_pos (by decide +kernel)]; kernel_rfl) | (rw [if_neg (by decide +kernel)]; exact ⟨rfl, rfl⟩))
    (fun os started H enc _ => lifted os started H enc)
theorem proved : Rows.PrefetchWindowsSaid := over
end Go.Proofs.Ytmojlhpkidbklaa.prefetchWindows
namespace Go.Proofs.Ytmojlhpkidbklaa
theorem prefetchWindows_holds : Rows.PrefetchWindowsSaid := prefetchWindows.proved
#print axioms prefetchWindows_holds
end Go.Proofs.Ytmojlhpkidbklaa
