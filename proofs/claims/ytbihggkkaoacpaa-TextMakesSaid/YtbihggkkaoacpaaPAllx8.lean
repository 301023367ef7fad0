/- Go functions of this seat as plain functions, and proofs that the code comes to them: written by a program of this session's over the kit's print.py. -/
import Derived.Test.YtbihggkkaoacpaaPAllx0
import Derived.Test.YtbihggkkaoacpaaPAllx4
import Derived.Test.YtbihggkkaoacpaaPAllx5
import Derived.Test.YtbihggkkaoacpaaPAllx6
import Derived.Test.YtbihggkkaoacpaaPAllx7
namespace Go.Proofs.Ytbihggkkaoacpaa.PAll
open Go.RowKit Go.Proofs.Ytbihggkkaoacpaa.Xw Go.Proofs.YtbihggkkaoacpaaW.PrintWords Go.Proofs.YtbihggkkaoacpaaW.PrintLast Go.Proofs.YtbihggkkaoacpaaW.PrintMore
attribute [local go_sem] max2_int min2_int max_two min_two max_three min_three max_four min_four   -- for this text's walks alone
set_option linter.unusedVariables false
set_option linter.unusedSimpArgs false

/-! ### spencelaw03_TextMakes: function 5 -/
mutual
def spencelaw03_TextMakes.j0 : Nat → List ByteArray → List Int → Bool → Option (Bool)
  | 0, _, _, _ => none
  | k + 1, x0, x1, x28 => if x28 = true then (some true) else (spencelaw03_TextMakes.l0 k x0 x1 (⟨#[]⟩ : ByteArray) x0 (x0.length : Int) 0)
def spencelaw03_TextMakes.l0 : Nat → List ByteArray → List Int → ByteArray → List ByteArray → Int → Int → Option (Bool)
  | 0, _, _, _, _, _, _ => none
  | k + 1, x0, x1, x5, x29, x30, x31 => if x31 < x30 then (if 0 ≤ x31 then (if x31 < (x29.length : Int) then ((spenceref01_Cut.f k (rdOf ByteArray.empty x29 x31) 44).bind fun bt212 => (if (rdOf ByteArray.empty x29 x31).toList = ([] : List UInt8) then (spencelaw03_TextMakes.j2 k x0 x1 x5 x31 (rdOf ByteArray.empty x29 x31) x29 x30 x31 true) else (if ((rdOf ByteArray.empty x29 x31).size : Int) > 30 then (spencelaw03_TextMakes.j2 k x0 x1 x5 x31 (rdOf ByteArray.empty x29 x31) x29 x30 x31 true) else (if bt212.2.2 = true then (spencelaw03_TextMakes.j2 k x0 x1 x5 x31 (rdOf ByteArray.empty x29 x31) x29 x30 x31 true) else ((spenceref01_Trim.f k (rdOf ByteArray.empty x29 x31) false).bind fun t215 => (spencelaw03_TextMakes.j2 k x0 x1 x5 x31 (rdOf ByteArray.empty x29 x31) x29 x30 x31 (t215.toList != (rdOf ByteArray.empty x29 x31).toList))))))) else (none)) else (none)) else ((text_List.f k x5).bind fun bt206 => (if bt206.2 = true then ((spenceref01_Texts.f k bt206.1 x0).bind fun t210 => (some t210)) else (some false)))
def spencelaw03_TextMakes.j2 : Nat → List ByteArray → List Int → ByteArray → Int → ByteArray → List ByteArray → Int → Int → Bool → Option (Bool)
  | 0, _, _, _, _, _, _, _, _, _ => none
  | k + 1, x0, x1, x5, x6, x7, x29, x30, x31, x57 => if x57 = true then (some true) else (if x6 > 0 then (if (wrap64 (x6 - 1)) < (x1.length : Int) then (if 0 ≤ (wrap64 (x6 - 1)) then (spencelaw03_TextMakes.j3 k x0 x1 x5 x7 (rd x1 (wrap64 (x6 - 1))) x29 x30 x31) else (none)) else (spencelaw03_TextMakes.j3 k x0 x1 x5 x7 0 x29 x30 x31)) else (if x5.size + x7.size ≤ 9223372036854775807 then (spencelaw03_TextMakes.l0 k x0 x1 (x5 ++ x7) x29 x30 (wrap64 (x31 + 1))) else (none)))
def spencelaw03_TextMakes.j3 : Nat → List ByteArray → List Int → ByteArray → ByteArray → Int → List ByteArray → Int → Int → Option (Bool)
  | 0, _, _, _, _, _, _, _, _ => none
  | k + 1, x0, x1, x5, x7, x11, x29, x30, x31 => if x11 = 1 then (if x5.size + 3 ≤ 9223372036854775807 then (if x5.size + 3 + x7.size ≤ 9223372036854775807 then (spencelaw03_TextMakes.l0 k x0 x1 ((x5 ++ (⟨#[32, 44, 32]⟩ : ByteArray)) ++ x7) x29 x30 (wrap64 (x31 + 1))) else (none)) else (none)) else (if x11 = 2 then (if x5.size + 3 ≤ 9223372036854775807 then (if x5.size + 3 + x7.size ≤ 9223372036854775807 then (spencelaw03_TextMakes.l0 k x0 x1 ((x5 ++ (⟨#[44, 44, 9]⟩ : ByteArray)) ++ x7) x29 x30 (wrap64 (x31 + 1))) else (none)) else (none)) else (if x11 = 3 then (if x5.size + 5 ≤ 9223372036854775807 then (if x5.size + 5 + x7.size ≤ 9223372036854775807 then (spencelaw03_TextMakes.l0 k x0 x1 ((x5 ++ (⟨#[32, 44, 9, 32, 44]⟩ : ByteArray)) ++ x7) x29 x30 (wrap64 (x31 + 1))) else (none)) else (none)) else (if x5.size + 1 ≤ 9223372036854775807 then (if x5.size + 1 + x7.size ≤ 9223372036854775807 then (spencelaw03_TextMakes.l0 k x0 x1 ((x5 ++ (⟨#[44]⟩ : ByteArray)) ++ x7) x29 x30 (wrap64 (x31 + 1))) else (none)) else (none))))
end
def spencelaw03_TextMakes.f (k : Nat) (l0 : List ByteArray) (l1 : List Int) : Option (Bool) := (spencelaw03_awake.f k).bind fun t205 => (if t205 = true then (if (l0.length : Int) = 0 then (spencelaw03_TextMakes.j0 k l0 l1 true) else (if (l0.length : Int) > 20 then (spencelaw03_TextMakes.j0 k l0 l1 true) else (spencelaw03_TextMakes.j0 k l0 l1 (decide ((l1.length : Int) > 40))))) else (some false))
theorem spencelaw03_TextMakes.mono_l : ∀ k, (∀ y0 y1 y2, LeO (spencelaw03_TextMakes.j0 k y0 y1 y2) (spencelaw03_TextMakes.j0 (k + 1) y0 y1 y2)) ∧ (∀ y0 y1 y2 y3 y4 y5, LeO (spencelaw03_TextMakes.l0 k y0 y1 y2 y3 y4 y5) (spencelaw03_TextMakes.l0 (k + 1) y0 y1 y2 y3 y4 y5)) ∧ (∀ y0 y1 y2 y3 y4 y5 y6 y7 y8, LeO (spencelaw03_TextMakes.j2 k y0 y1 y2 y3 y4 y5 y6 y7 y8) (spencelaw03_TextMakes.j2 (k + 1) y0 y1 y2 y3 y4 y5 y6 y7 y8)) ∧ (∀ y0 y1 y2 y3 y4 y5 y6 y7, LeO (spencelaw03_TextMakes.j3 k y0 y1 y2 y3 y4 y5 y6 y7) (spencelaw03_TextMakes.j3 (k + 1) y0 y1 y2 y3 y4 y5 y6 y7))
  | 0 => ⟨fun _ _ _ r h => by simp [spencelaw03_TextMakes.j0] at h, fun _ _ _ _ _ _ r h => by simp [spencelaw03_TextMakes.l0] at h, fun _ _ _ _ _ _ _ _ _ r h => by simp [spencelaw03_TextMakes.j2] at h, fun _ _ _ _ _ _ _ _ r h => by simp [spencelaw03_TextMakes.j3] at h⟩
  | k + 1 => by
    obtain ⟨ih0, ih1, ih2, ih3⟩ := spencelaw03_TextMakes.mono_l k
    refine ⟨?_, ?_, ?_, ?_⟩
    · intro y0 y1 y2
      unfold spencelaw03_TextMakes.j0
      repeat' first
      | (with_reducible exact ih0 _ _ _)
      | (with_reducible exact ih1 _ _ _ _ _ _)
      | (with_reducible exact ih2 _ _ _ _ _ _ _ _ _)
      | (with_reducible exact ih3 _ _ _ _ _ _ _ _)
      | (with_reducible exact spencelaw03_awake.mono _)
      | (with_reducible exact spenceref01_Cut.mono _ _ _)
      | (with_reducible exact spenceref01_Texts.mono _ _ _)
      | (with_reducible exact spenceref01_Trim.mono _ _ _)
      | (with_reducible exact text_List.mono _ _)
      | (with_reducible exact LeO.refl _)
      | (with_reducible exact LeO.none _)
      | (with_reducible refine LeO.ite ?_ ?_)
      | (with_reducible refine LeO.bind ?_ (fun _ => ?_))
      | exact ih0 _ _ _
      | exact ih1 _ _ _ _ _ _
      | exact ih2 _ _ _ _ _ _ _ _ _
      | exact ih3 _ _ _ _ _ _ _ _
      | exact spencelaw03_awake.mono _
      | exact spenceref01_Cut.mono _ _ _
      | exact spenceref01_Texts.mono _ _ _
      | exact spenceref01_Trim.mono _ _ _
      | exact text_List.mono _ _
      | exact LeO.none _
      | refine LeO.ite ?_ ?_
      | refine LeO.bind ?_ (fun _ => ?_)
    · intro y0 y1 y2 y3 y4 y5
      unfold spencelaw03_TextMakes.l0
      repeat' first
      | (with_reducible exact ih0 _ _ _)
      | (with_reducible exact ih1 _ _ _ _ _ _)
      | (with_reducible exact ih2 _ _ _ _ _ _ _ _ _)
      | (with_reducible exact ih3 _ _ _ _ _ _ _ _)
      | (with_reducible exact spencelaw03_awake.mono _)
      | (with_reducible exact spenceref01_Cut.mono _ _ _)
      | (with_reducible exact spenceref01_Texts.mono _ _ _)
      | (with_reducible exact spenceref01_Trim.mono _ _ _)
      | (with_reducible exact text_List.mono _ _)
      | (with_reducible exact LeO.refl _)
      | (with_reducible exact LeO.none _)
      | (with_reducible refine LeO.ite ?_ ?_)
      | (with_reducible refine LeO.bind ?_ (fun _ => ?_))
      | exact ih0 _ _ _
      | exact ih1 _ _ _ _ _ _
      | exact ih2 _ _ _ _ _ _ _ _ _
      | exact ih3 _ _ _ _ _ _ _ _
      | exact spencelaw03_awake.mono _
      | exact spenceref01_Cut.mono _ _ _
      | exact spenceref01_Texts.mono _ _ _
      | exact spenceref01_Trim.mono _ _ _
      | exact text_List.mono _ _
      | exact LeO.none _
      | refine LeO.ite ?_ ?_
      | refine LeO.bind ?_ (fun _ => ?_)
    · intro y0 y1 y2 y3 y4 y5 y6 y7 y8
      unfold spencelaw03_TextMakes.j2
      repeat' first
      | (with_reducible exact ih0 _ _ _)
      | (with_reducible exact ih1 _ _ _ _ _ _)
      | (with_reducible exact ih2 _ _ _ _ _ _ _ _ _)
      | (with_reducible exact ih3 _ _ _ _ _ _ _ _)
      | (with_reducible exact spencelaw03_awake.mono _)
      | (with_reducible exact spenceref01_Cut.mono _ _ _)
      | (with_reducible exact spenceref01_Texts.mono _ _ _)
      | (with_reducible exact spenceref01_Trim.mono _ _ _)
      | (with_reducible exact text_List.mono _ _)
      | (with_reducible exact LeO.refl _)
      | (with_reducible exact LeO.none _)
      | (with_reducible refine LeO.ite ?_ ?_)
      | (with_reducible refine LeO.bind ?_ (fun _ => ?_))
      | exact ih0 _ _ _
      | exact ih1 _ _ _ _ _ _
      | exact ih2 _ _ _ _ _ _ _ _ _
      | exact ih3 _ _ _ _ _ _ _ _
      | exact spencelaw03_awake.mono _
      | exact spenceref01_Cut.mono _ _ _
      | exact spenceref01_Texts.mono _ _ _
      | exact spenceref01_Trim.mono _ _ _
      | exact text_List.mono _ _
      | exact LeO.none _
      | refine LeO.ite ?_ ?_
      | refine LeO.bind ?_ (fun _ => ?_)
    · intro y0 y1 y2 y3 y4 y5 y6 y7
      unfold spencelaw03_TextMakes.j3
      repeat' first
      | (with_reducible exact ih0 _ _ _)
      | (with_reducible exact ih1 _ _ _ _ _ _)
      | (with_reducible exact ih2 _ _ _ _ _ _ _ _ _)
      | (with_reducible exact ih3 _ _ _ _ _ _ _ _)
      | (with_reducible exact spencelaw03_awake.mono _)
      | (with_reducible exact spenceref01_Cut.mono _ _ _)
      | (with_reducible exact spenceref01_Texts.mono _ _ _)
      | (with_reducible exact spenceref01_Trim.mono _ _ _)
      | (with_reducible exact text_List.mono _ _)
      | (with_reducible exact LeO.refl _)
      | (with_reducible exact LeO.none _)
      | (with_reducible refine LeO.ite ?_ ?_)
      | (with_reducible refine LeO.bind ?_ (fun _ => ?_))
      | exact ih0 _ _ _
      | exact ih1 _ _ _ _ _ _
      | exact ih2 _ _ _ _ _ _ _ _ _
      | exact ih3 _ _ _ _ _ _ _ _
      | exact spencelaw03_awake.mono _
      | exact spenceref01_Cut.mono _ _ _
      | exact spenceref01_Texts.mono _ _ _
      | exact spenceref01_Trim.mono _ _ _
      | exact text_List.mono _ _
      | exact LeO.none _
      | refine LeO.ite ?_ ?_
      | refine LeO.bind ?_ (fun _ => ?_)
theorem spencelaw03_TextMakes.mono : ∀ a0 a1 k, LeO (spencelaw03_TextMakes.f k a0 a1) (spencelaw03_TextMakes.f (k + 1) a0 a1) := by
  intro a0 a1 k
  obtain ⟨ih0, ih1, ih2, ih3⟩ := spencelaw03_TextMakes.mono_l k
  unfold spencelaw03_TextMakes.f
  repeat' first
      | (with_reducible exact ih0 _ _ _)
      | (with_reducible exact ih1 _ _ _ _ _ _)
      | (with_reducible exact ih2 _ _ _ _ _ _ _ _ _)
      | (with_reducible exact ih3 _ _ _ _ _ _ _ _)
      | (with_reducible exact spencelaw03_awake.mono _)
      | (with_reducible exact spenceref01_Cut.mono _ _ _)
      | (with_reducible exact spenceref01_Texts.mono _ _ _)
      | (with_reducible exact spenceref01_Trim.mono _ _ _)
      | (with_reducible exact text_List.mono _ _)
      | (with_reducible exact LeO.refl _)
      | (with_reducible exact LeO.none _)
      | (with_reducible refine LeO.ite ?_ ?_)
      | (with_reducible refine LeO.bind ?_ (fun _ => ?_))
      | exact ih0 _ _ _
      | exact ih1 _ _ _ _ _ _
      | exact ih2 _ _ _ _ _ _ _ _ _
      | exact ih3 _ _ _ _ _ _ _ _
      | exact spencelaw03_awake.mono _
      | exact spenceref01_Cut.mono _ _ _
      | exact spenceref01_Texts.mono _ _ _
      | exact spenceref01_Trim.mono _ _ _
      | exact text_List.mono _ _
      | exact LeO.none _
      | refine LeO.ite ?_ ?_
      | refine LeO.bind ?_ (fun _ => ?_)
set_option maxHeartbeats 8000000 in
set_option maxRecDepth 100000 in
theorem spencelaw03_TextMakes.calls (k : Nat) (A0 : Option Addr) (c0 : Nat) (l0 : List ByteArray) (A1 : Option Addr) (c1 : Nat) (l1 : List Int) (r : Bool) (w : World) (hr0 : Kd.C Kd.string w A0 l0.length l0) (hc0 : l0.length ≤ c0) (hr1 : Kd.C (Kd.int .i64) w A1 l1.length l1) (hc1 : l1.length ≤ c1) (h : spencelaw03_TextMakes.f k l0 l1 = some r) :
    Calls Try.prog 5 #[.slice A0 l0.length c0, .slice A1 l1.length c1] w fun e w' => e = .returned (.bool r) ∧ Below w.heap.size w w' := by
  have HR0 := Aside0.mk hr0
  have HC0 := Aside0.mk hc0
  clear hr0 hc0
  have HR1 := Aside0.mk hr1
  have HC1 := Aside0.mk hc1
  clear hr1 hc1
  have HB := Aside0.mk (Below.refl w.heap.size w)
  have H : ((spencelaw03_awake.f k).bind fun t205 => (if t205 = true then (if (l0.length : Int) = 0 then (spencelaw03_TextMakes.j0 k l0 l1 true) else (if (l0.length : Int) > 20 then (spencelaw03_TextMakes.j0 k l0 l1 true) else (spencelaw03_TextMakes.j0 k l0 l1 (decide ((l1.length : Int) > 40))))) else (some false))) = some r := h
  clear h
  replace H := Option.bind_eq_some_iff.mp H
  obtain ⟨t205, A30, H⟩ := H
  replace H : (if t205 = true then (if (l0.length : Int) = 0 then (spencelaw03_TextMakes.j0 k l0 l1 true) else (if (l0.length : Int) > 20 then (spencelaw03_TextMakes.j0 k l0 l1 true) else (spencelaw03_TextMakes.j0 k l0 l1 (decide ((l1.length : Int) > 40))))) else (some false)) = some r := H
  have A3 := Aside0.mk A30
  clear A30
  by_cases c4 : t205 = true
  · subst c4
    have H1 : (if (l0.length : Int) = 0 then (spencelaw03_TextMakes.j0 k l0 l1 true) else (if (l0.length : Int) > 20 then (spencelaw03_TextMakes.j0 k l0 l1 true) else (spencelaw03_TextMakes.j0 k l0 l1 (decide ((l1.length : Int) > 40))))) = some r := by rw [if_pos rfl] at H; exact H
    clear H
    have H := H1
    clear H1
    have HC5 := Aside0.mk H
    clear H
    go_enter Try.func5, Try.ntmps5
    go_upto_region 3 with (first | ((with_reducible refine gate_callee (f := 15) rfl ?_); refine goesL_ (some 14) rfl rfl Try.func15 (by kernel_rfl) rfl #[] rfl (by (try simp only [List.map_toArray, List.map_cons, List.map_nil]); first | done | rfl | (simp only [List.length_drop, List.length_take]; rfl)) ?_; (with_reducible refine (spencelaw03_awake.calls k  true _ A3.out).mono ?_); rintro e w6 ⟨rfl, hb⟩; refine ⟨_, rfl, ?_⟩; have n0_ := Aside0.mk (below_step (by repeat (first | (with_reducible first | exact HB.out | apply below_alloc | apply pw_below_drewN | apply below_drew1) | exact HB.out)) hb); clear HB; have HB := n0_; clear n0_; (try clear hb); (try clear hb2); (try clear hk); (try clear hi)))
    (try simp only [Act.put, List.setIfInBounds_toArray, List.set_cons_zero, List.set_cons_succ])
    go_cut [28] (fun v28 wc => ∃ (kq : Nat) (x28_4 : Bool), v28 = .bool x28_4 ∧ Aside0 (spencelaw03_TextMakes.j0 kq l0 l1 x28_4 = some r) ∧ Aside0 (kq ≤ k) ∧ Aside0 (Below w.heap.size w wc))
    case first =>
      have H := HC5.out
      clear HC5
      by_cases c7 : (l0.length : Int) = 0
      · rw [if_pos c7] at H
        have c7b0 : ((l0.length : Int) == 0) = true := beq_iff_eq.mpr c7
        have c7b1 : ((l0.length : Int) != 0) = false := bne_eq_false_iff_eq.mpr c7
        clear c7
        (first | rw [c7b0] | (simp only [i64_w, i32_w]; rw [c7b0]) | skip)
        have H' := Aside0.mk H
        clear H
        go_wp2
        go_meet
        case rel => exact ⟨_, (true), (by first | rfl | (simp; done) | (simp [*]; done)), H', ⟨by first | omega | exact Nat.le_refl _⟩, ⟨by repeat (first | (with_reducible first | exact HB.out | apply below_alloc | apply pw_below_drewN | apply below_drew1) | exact HB.out)⟩⟩
      · rw [if_neg c7] at H
        have c7b0 : ((l0.length : Int) == 0) = false := beq_eq_false_iff_ne.mpr c7
        have c7b1 : ((l0.length : Int) != 0) = true := bne_iff_ne.mpr c7
        have c7b2 : ¬ (l0 = []) := fun h_ => c7 (by rw [h_]; rfl)
        (first | rw [c7b0] | (simp only [i64_w, i32_w]; rw [c7b0]) | skip)
        by_cases c8 : (l0.length : Int) > 20
        · rw [if_pos c8] at H
          have c8b0 : decide (20 < (l0.length : Int)) = true := decide_eq_true c8
          have c8b1 : decide (20 < l0.length) = true := decide_eq_true (by omega)
          clear c8
          have H' := Aside0.mk H
          clear H
          go_wp2
          go_meet
          case rel => exact ⟨_, (true), (by first | rfl | (simp; done) | (simp [*]; done)), H', ⟨by first | omega | exact Nat.le_refl _⟩, ⟨by repeat (first | (with_reducible first | exact HB.out | apply below_alloc | apply pw_below_drewN | apply below_drew1) | exact HB.out)⟩⟩
        · rw [if_neg c8] at H
          have c8b0 : decide (20 < (l0.length : Int)) = false := decide_eq_false c8
          have c8b1 : decide (20 < l0.length) = false := decide_eq_false (by omega)
          clear c8
          have H' := Aside0.mk H
          clear H
          go_wp2
          go_meet
          case rel => exact ⟨_, (decide ((l1.length : Int) > 40)), (by first | rfl | (simp; done) | (simp [*]; done)), H', ⟨by first | omega | exact Nat.le_refl _⟩, ⟨by repeat (first | (with_reducible first | exact HB.out | apply below_alloc | apply pw_below_drewN | apply below_drew1) | exact HB.out)⟩⟩
    case rest =>
      clear HC5
      try clear c1
      try clear p2
      try clear c4
      try clear c5
      try clear c7
      try clear c7b0
      try clear c7b1
      try clear c7b2
      try clear c8
      try clear c8b0
      try clear c8b1
      obtain ⟨kq, x28_4, rfl, HA, HJ4, HB⟩ := hcut
      cases kq with
      | zero => exact absurd HA.out (by simp [spencelaw03_TextMakes.j0])
      | succ kj4 =>
        have H := HA.out
        clear HA
        simp only [spencelaw03_TextMakes.j0] at H
        by_cases c9 : x28_4 = true
        · subst c9
          have H1 : (some true) = some r := by rw [if_pos rfl] at H; exact H
          clear H
          have H := H1
          clear H1
          obtain rfl := Option.some.inj H
          go_wp2
          go_ret
          exact ⟨by first | rfl | exact ne_empty _ | exact eq_empty _ | (simp [errW_none, errW_some] <;> rfl) | (simp [*, errW_none, errW_some] <;> rfl), by repeat (first | (with_reducible first | exact HB.out | apply below_alloc | apply pw_below_drewN | apply below_drew1) | exact HB.out)⟩
        · replace c9 := Bool.eq_false_iff.mpr c9
          subst c9
          have H1 : (spencelaw03_TextMakes.l0 kj4 l0 l1 (⟨#[]⟩ : ByteArray) l0 (l0.length : Int) 0) = some r := by rw [if_neg (show ¬ (false = true) by decide)] at H; exact H
          clear H
          have H := H1
          clear H1
          have H' := Aside0.mk H
          clear H
          go_wp2
          go_loopg [5, 31] kj4 (fun kq v5 v31 w' => ∃ (x5_2 : ByteArray) (x31_2 : Int), v5 = .string x5_2 ∧ v31 = .int .i64 x31_2 ∧ Aside0 (spencelaw03_TextMakes.l0 kq l0 l1 x5_2 l0 (l0.length : Int) x31_2 = some r) ∧ Aside0 (kq ≤ kj4) ∧ Aside0 (Below w.heap.size w w'))
          case atStart => exact ⟨((⟨#[]⟩ : ByteArray)), (0), (by first | rfl | (simp; done) | (simp [*]; done)), (by first | rfl | (simp; done) | (simp [*]; done)), H', ⟨Nat.le_refl _⟩, ⟨by repeat (first | (with_reducible first | exact HB.out | apply below_alloc | apply pw_below_drewN | apply below_drew1) | exact HB.out)⟩⟩
          case round =>
            clear H'
            try clear c1
            try clear p2
            try clear c4
            try clear c5
            try clear c7
            try clear c7b0
            try clear c7b1
            try clear c7b2
            try clear c8
            try clear c8b0
            try clear c8b1
            try clear c9
            try clear p2
            obtain ⟨x5_2, x31_2, rfl, rfl, HA, HK2, HB⟩ := hrel
            cases gk with
            | zero => exact absurd HA.out (by simp [spencelaw03_TextMakes.l0])
            | succ k2 =>
              have H := HA.out
              clear HA
              simp only [spencelaw03_TextMakes.l0] at H
              by_cases c10 : x31_2 < (l0.length : Int)
              · rw [if_pos c10] at H
                have c10b0 : decide (x31_2 < (l0.length : Int)) = true := decide_eq_true c10
                clear c10
                by_cases c11 : 0 ≤ x31_2
                · rw [if_pos c11] at H
                  have c11b0 : decide (0 ≤ x31_2) = true := decide_eq_true c11
                  clear c11
                  by_cases c12 : x31_2 < (l0.length : Int)
                  · rw [if_pos c12] at H
                    have c12b0 : decide (x31_2 < (l0.length : Int)) = true := decide_eq_true c12
                    clear c12
                    replace H := Option.bind_eq_some_iff.mp H
                    obtain ⟨⟨t212, t213, t214⟩, A130, H⟩ := H
                    replace H : (if (rdOf ByteArray.empty l0 x31_2).toList = ([] : List UInt8) then (spencelaw03_TextMakes.j2 k2 l0 l1 x5_2 x31_2 (rdOf ByteArray.empty l0 x31_2) l0 (l0.length : Int) x31_2 true) else (if ((rdOf ByteArray.empty l0 x31_2).size : Int) > 30 then (spencelaw03_TextMakes.j2 k2 l0 l1 x5_2 x31_2 (rdOf ByteArray.empty l0 x31_2) l0 (l0.length : Int) x31_2 true) else (if t214 = true then (spencelaw03_TextMakes.j2 k2 l0 l1 x5_2 x31_2 (rdOf ByteArray.empty l0 x31_2) l0 (l0.length : Int) x31_2 true) else ((spenceref01_Trim.f k2 (rdOf ByteArray.empty l0 x31_2) false).bind fun t215 => (spencelaw03_TextMakes.j2 k2 l0 l1 x5_2 x31_2 (rdOf ByteArray.empty l0 x31_2) l0 (l0.length : Int) x31_2 (t215.toList != (rdOf ByteArray.empty l0 x31_2).toList)))))) = some r := H
                    have A13 := Aside0.mk A130
                    clear A130
                    have HC14 := Aside0.mk H
                    clear H
                    have p211 : 0 ≤ (x31_2 : Int) := of_decide_eq_true (by first | (with_reducible assumption) | assumption)
                    have q211 : x31_2 < (l0.length : Int) := of_decide_eq_true (by first | (with_reducible assumption) | assumption)
                    obtain ⟨ad211, e211, hx211_0⟩ := Kd.at_string HR0.out x31_2 p211 q211
                    cases e211
                    replace hx211_0 := (HB.out.cell (World.block_lt_of_cell? w _ hx211_0)).trans hx211_0
                    replace p211 := eq_true p211
                    replace q211 := eq_true q211
                    go_upto_region 10 with (first | ((with_reducible refine gate_callee (f := 20) rfl ?_); refine goesL_ (some 38) rfl rfl Try.func20 (by kernel_rfl) rfl #[.string (rdOf ByteArray.empty l0 x31_2), .int .u8 44] rfl (by (try simp only [List.map_toArray, List.map_cons, List.map_nil]); first | done | rfl | (simp only [List.length_drop, List.length_take]; rfl)) ?_; (with_reducible refine (spenceref01_Cut.calls k2 (rdOf ByteArray.empty l0 x31_2) 44 t212 t213 t214 _ A13.out).mono ?_); rintro e w' ⟨rfl, ⟨nd, rfl⟩⟩; refine ⟨_, rfl, ?_⟩))
                    (try simp only [Act.put, List.setIfInBounds_toArray, List.set_cons_zero, List.set_cons_succ])
                    go_cut [57] (fun v57 wc => ∃ (kq : Nat) (x57_13 : Bool), v57 = .bool x57_13 ∧ Aside0 (spencelaw03_TextMakes.j2 kq l0 l1 x5_2 x31_2 (rdOf ByteArray.empty l0 x31_2) l0 (l0.length : Int) x31_2 x57_13 = some r) ∧ Aside0 (kq ≤ k2) ∧ Aside0 (Below w.heap.size w wc))
                    case first =>
                      have H := HC14.out
                      clear HC14
                      by_cases c15 : (rdOf ByteArray.empty l0 x31_2).toList = ([] : List UInt8)
                      · rw [if_pos c15] at H
                        have c15b0 : ((rdOf ByteArray.empty l0 x31_2).toList == ([] : List UInt8)) = true := beq_iff_eq.mpr c15
                        have c15b1 : ((rdOf ByteArray.empty l0 x31_2).toList != ([] : List UInt8)) = false := bne_eq_false_iff_eq.mpr c15
                        clear c15
                        (first | rw [c15b0] | (simp only [i64_w, i32_w]; rw [c15b0]) | skip)
                        have H' := Aside0.mk H
                        clear H
                        go_wp2
                        go_meet
                        case rel => exact ⟨_, (true), (by first | rfl | (simp; done) | (simp [*]; done)), H', ⟨by have := HJ4.out; have := HK2.out; first | omega | exact Nat.le_refl _⟩, ⟨by repeat (first | (with_reducible first | exact HB.out | apply below_alloc | apply pw_below_drewN | apply below_drew1) | exact HB.out)⟩⟩
                      · rw [if_neg c15] at H
                        have c15b0 : ((rdOf ByteArray.empty l0 x31_2).toList == ([] : List UInt8)) = false := beq_eq_false_iff_ne.mpr c15
                        have c15b1 : ((rdOf ByteArray.empty l0 x31_2).toList != ([] : List UInt8)) = true := bne_iff_ne.mpr c15
                        (first | rw [c15b0] | (simp only [i64_w, i32_w]; rw [c15b0]) | skip)
                        by_cases c16 : ((rdOf ByteArray.empty l0 x31_2).size : Int) > 30
                        · rw [if_pos c16] at H
                          have c16b0 : decide (30 < ((rdOf ByteArray.empty l0 x31_2).size : Int)) = true := decide_eq_true c16
                          have c16b1 : decide (30 < (rdOf ByteArray.empty l0 x31_2).size) = true := decide_eq_true (by omega)
                          clear c16
                          have H' := Aside0.mk H
                          clear H
                          go_wp2
                          go_meet
                          case rel => exact ⟨_, (true), (by first | rfl | (simp; done) | (simp [*]; done)), H', ⟨by have := HJ4.out; have := HK2.out; first | omega | exact Nat.le_refl _⟩, ⟨by repeat (first | (with_reducible first | exact HB.out | apply below_alloc | apply pw_below_drewN | apply below_drew1) | exact HB.out)⟩⟩
                        · rw [if_neg c16] at H
                          have c16b0 : decide (30 < ((rdOf ByteArray.empty l0 x31_2).size : Int)) = false := decide_eq_false c16
                          have c16b1 : decide (30 < (rdOf ByteArray.empty l0 x31_2).size) = false := decide_eq_false (by omega)
                          clear c16
                          by_cases c17 : t214 = true
                          · subst c17
                            have H1 : (spencelaw03_TextMakes.j2 k2 l0 l1 x5_2 x31_2 (rdOf ByteArray.empty l0 x31_2) l0 (l0.length : Int) x31_2 true) = some r := by rw [if_pos rfl] at H; exact H
                            clear H
                            have H := H1
                            clear H1
                            have H' := Aside0.mk H
                            clear H
                            go_wp2
                            go_meet
                            case rel => exact ⟨_, (true), (by first | rfl | (simp; done) | (simp [*]; done)), H', ⟨by have := HJ4.out; have := HK2.out; first | omega | exact Nat.le_refl _⟩, ⟨by repeat (first | (with_reducible first | exact HB.out | apply below_alloc | apply pw_below_drewN | apply below_drew1) | exact HB.out)⟩⟩
                          · replace c17 := Bool.eq_false_iff.mpr c17
                            subst c17
                            have H1 : ((spenceref01_Trim.f k2 (rdOf ByteArray.empty l0 x31_2) false).bind fun t215 => (spencelaw03_TextMakes.j2 k2 l0 l1 x5_2 x31_2 (rdOf ByteArray.empty l0 x31_2) l0 (l0.length : Int) x31_2 (t215.toList != (rdOf ByteArray.empty l0 x31_2).toList))) = some r := by rw [if_neg (show ¬ (false = true) by decide)] at H; exact H
                            clear H
                            have H := H1
                            clear H1
                            replace H := Option.bind_eq_some_iff.mp H
                            obtain ⟨t215, A180, H⟩ := H
                            replace H : (spencelaw03_TextMakes.j2 k2 l0 l1 x5_2 x31_2 (rdOf ByteArray.empty l0 x31_2) l0 (l0.length : Int) x31_2 (t215.toList != (rdOf ByteArray.empty l0 x31_2).toList)) = some r := H
                            have A18 := Aside0.mk A180
                            clear A180
                            have H' := Aside0.mk H
                            clear H
                            go_wp2_with (first | (go_at_call 21; (with_reducible refine (spenceref01_Trim.calls k2 (rdOf ByteArray.empty l0 x31_2) false t215 _ A18.out).mono ?_); rintro e w' ⟨rfl, ⟨nd, rfl⟩⟩))
                            go_meet
                            case rel => exact ⟨_, ((t215.toList != (rdOf ByteArray.empty l0 x31_2).toList)), (by first | rfl | (simp; done) | (simp [*]; done)), H', ⟨by have := HJ4.out; have := HK2.out; first | omega | exact Nat.le_refl _⟩, ⟨by repeat (first | (with_reducible first | exact HB.out | apply below_alloc | apply pw_below_drewN | apply below_drew1) | exact HB.out)⟩⟩
                    case rest =>
                      clear HC14
                      try clear c1
                      try clear c2
                      try clear p2
                      try clear q2
                      try clear hx2
                      try clear c4
                      try clear c5
                      try clear c7
                      try clear c7b0
                      try clear c7b1
                      try clear c7b2
                      try clear c8
                      try clear c8b0
                      try clear c8b1
                      try clear c9
                      try clear c10
                      try clear c10b0
                      try clear c11
                      try clear c11b0
                      try clear c12
                      try clear c12b0
                      try clear c15
                      try clear c15b0
                      try clear c15b1
                      try clear c16
                      try clear c16b0
                      try clear c16b1
                      try clear c17
                      try clear hx211_0
                      try clear p2
                      try clear p211
                      try clear q211
                      obtain ⟨kq, x57_13, rfl, HA, HJ13, HB⟩ := hcut
                      cases kq with
                      | zero => exact absurd HA.out (by simp [spencelaw03_TextMakes.j2])
                      | succ kj13 =>
                        have H := HA.out
                        clear HA
                        simp only [spencelaw03_TextMakes.j2] at H
                        by_cases c19 : x57_13 = true
                        · subst c19
                          have H1 : (some true) = some r := by rw [if_pos rfl] at H; exact H
                          clear H
                          have H := H1
                          clear H1
                          obtain rfl := Option.some.inj H
                          go_wp2
                          go_ret
                          exact ⟨by first | rfl | exact ne_empty _ | exact eq_empty _ | (simp [errW_none, errW_some] <;> rfl) | (simp [*, errW_none, errW_some] <;> rfl), by repeat (first | (with_reducible first | exact HB.out | apply below_alloc | apply pw_below_drewN | apply below_drew1) | exact HB.out)⟩
                        · replace c19 := Bool.eq_false_iff.mpr c19
                          subst c19
                          have H1 : (if x31_2 > 0 then (if (wrap64 (x31_2 - 1)) < (l1.length : Int) then (if 0 ≤ (wrap64 (x31_2 - 1)) then (spencelaw03_TextMakes.j3 kj13 l0 l1 x5_2 (rdOf ByteArray.empty l0 x31_2) (rd l1 (wrap64 (x31_2 - 1))) l0 (l0.length : Int) x31_2) else (none)) else (spencelaw03_TextMakes.j3 kj13 l0 l1 x5_2 (rdOf ByteArray.empty l0 x31_2) 0 l0 (l0.length : Int) x31_2)) else (if x5_2.size + (rdOf ByteArray.empty l0 x31_2).size ≤ 9223372036854775807 then (spencelaw03_TextMakes.l0 kj13 l0 l1 (x5_2 ++ (rdOf ByteArray.empty l0 x31_2)) l0 (l0.length : Int) (wrap64 (x31_2 + 1))) else (none))) = some r := by rw [if_neg (show ¬ (false = true) by decide)] at H; exact H
                          clear H
                          have H := H1
                          clear H1
                          by_cases c20 : x31_2 > 0
                          · rw [if_pos c20] at H
                            have c20b0 : decide (0 < x31_2) = true := decide_eq_true c20
                            clear c20
                            have HC21 := Aside0.mk H
                            clear H
                            go_upto_if 64 with (fail)
                            go_cut [11] (fun v11 wc => ∃ (kq : Nat) (x11_20 : Int), v11 = .int .i64 x11_20 ∧ Aside0 (spencelaw03_TextMakes.j3 kq l0 l1 x5_2 (rdOf ByteArray.empty l0 x31_2) x11_20 l0 (l0.length : Int) x31_2 = some r) ∧ Aside0 (kq ≤ kj13) ∧ Aside0 (Below w.heap.size w wc))
                            case first =>
                              have H := HC21.out
                              clear HC21
                              by_cases c22 : (wrap64 (x31_2 - 1)) < (l1.length : Int)
                              · rw [if_pos c22] at H
                                have c22b0 : decide ((wrap64 (x31_2 - 1)) < (l1.length : Int)) = true := decide_eq_true c22
                                clear c22
                                (first | rw [c22b0] | (simp only [i64_w, i32_w]; rw [c22b0]) | skip)
                                obtain ⟨ji23, hji23⟩ : ∃ j_ : Int, (wrap64 (x31_2 - 1)) = j_ := ⟨_, rfl⟩
                                replace H : (if 0 ≤ (ji23) then (spencelaw03_TextMakes.j3 kj13 l0 l1 x5_2 (rdOf ByteArray.empty l0 x31_2) (rd l1 (ji23)) l0 (l0.length : Int) x31_2) else (none)) = some r := by first | (rw [hji23] at H; exact H) | (simp only [hji23] at H ⊢; exact H)
                                (try rw [hji23] at c22b0)
                                have hji23w : (IntKind.i64.wrap (x31_2 - 1)) = ji23 := (i64_w _).trans hji23
                                by_cases c24 : 0 ≤ (ji23)
                                · rw [if_pos c24] at H
                                  have c24b0 : decide (0 ≤ (ji23)) = true := decide_eq_true c24
                                  clear c24
                                  have H' := Aside0.mk H
                                  clear H
                                  have p216 : 0 ≤ ((ji23) : Int) := of_decide_eq_true (by first | (with_reducible assumption) | assumption)
                                  have q216 : (ji23) < (l1.length : Int) := of_decide_eq_true (by first | (with_reducible assumption) | assumption)
                                  obtain ⟨ad216, e216, hx216_0⟩ := Kd.at_int HR1.out (ji23) p216 q216
                                  cases e216
                                  replace hx216_0 := (HB.out.cell (World.block_lt_of_cell? w _ hx216_0)).trans hx216_0
                                  replace p216 := eq_true p216
                                  replace q216 := eq_true q216
                                  go_wp2
                                  go_meet
                                  case rel => exact ⟨_, (rd l1 (ji23)), (by first | rfl | (simp; done) | (simp only [← hji23] <;> (first | rfl | simp)) | (simp [*]; done)), H', ⟨by have := HJ4.out; have := HK2.out; have := HJ13.out; first | omega | exact Nat.le_refl _⟩, ⟨by repeat (first | (with_reducible first | exact HB.out | apply below_alloc | apply pw_below_drewN | apply below_drew1) | exact HB.out)⟩⟩
                                · rw [if_neg c24] at H
                                  exact absurd H (by simp)
                              · rw [if_neg c22] at H
                                have c22b0 : decide ((wrap64 (x31_2 - 1)) < (l1.length : Int)) = false := decide_eq_false c22
                                clear c22
                                (first | rw [c22b0] | (simp only [i64_w, i32_w]; rw [c22b0]) | skip)
                                have H' := Aside0.mk H
                                clear H
                                go_wp2
                                go_meet
                                case rel => exact ⟨_, (0), (by first | rfl | (simp; done) | (simp [*]; done)), H', ⟨by have := HJ4.out; have := HK2.out; have := HJ13.out; first | omega | exact Nat.le_refl _⟩, ⟨by repeat (first | (with_reducible first | exact HB.out | apply below_alloc | apply pw_below_drewN | apply below_drew1) | exact HB.out)⟩⟩
                            case rest =>
                              clear HC21
                              try clear c1
                              try clear c2
                              try clear p2
                              try clear q2
                              try clear hx2
                              try clear c4
                              try clear c5
                              try clear p6
                              try clear c7
                              try clear c7b0
                              try clear c7b1
                              try clear c7b2
                              try clear c8
                              try clear c8b0
                              try clear c8b1
                              try clear c9
                              try clear c10
                              try clear c10b0
                              try clear c11
                              try clear c11b0
                              try clear c12
                              try clear c12b0
                              try clear c15
                              try clear c15b0
                              try clear c15b1
                              try clear c16
                              try clear c16b0
                              try clear c16b1
                              try clear c17
                              try clear c19
                              try clear c20
                              try clear c20b0
                              try clear p21
                              try clear q21
                              try clear hx21
                              try clear c22
                              try clear c22b0
                              try clear c24
                              try clear c24b0
                              try clear hx211_0
                              try clear hx216_0
                              try clear p2
                              try clear p211
                              try clear p216
                              try clear q2
                              try clear q211
                              try clear q216
                              obtain ⟨kq, x11_20, rfl, HA, HJ20, HB⟩ := hcut
                              cases kq with
                              | zero => exact absurd HA.out (by simp [spencelaw03_TextMakes.j3])
                              | succ kj20 =>
                                have H := HA.out
                                clear HA
                                simp only [spencelaw03_TextMakes.j3] at H
                                by_cases c25 : x11_20 = 1
                                · rw [if_pos c25] at H
                                  have c25b0 : (x11_20 == 1) = true := beq_iff_eq.mpr c25
                                  have c25b1 : (x11_20 != 1) = false := bne_eq_false_iff_eq.mpr c25
                                  clear c25
                                  by_cases c26 : x5_2.size + 3 ≤ 9223372036854775807
                                  · rw [if_pos c26] at H
                                    have c26b0 := eq_true c26
                                    have c26b1 : decide (x5_2.size + 3 ≤ 9223372036854775807) = true := decide_eq_true c26
                                    try have c26b2 : (9223372036854775807 < x5_2.size + 3) = False := eq_false (Nat.not_lt.2 c26)
                                    by_cases c27 : x5_2.size + 3 + (rdOf ByteArray.empty l0 x31_2).size ≤ 9223372036854775807
                                    · rw [if_pos c27] at H
                                      have c27b0 := eq_true c27
                                      have c27b1 : decide (x5_2.size + 3 + (rdOf ByteArray.empty l0 x31_2).size ≤ 9223372036854775807) = true := decide_eq_true c27
                                      try have c27b2 : (9223372036854775807 < x5_2.size + 3 + (rdOf ByteArray.empty l0 x31_2).size) = False := eq_false (Nat.not_lt.2 c27)
                                      have H' := Aside0.mk H
                                      clear H
                                      go_wp2
                                      go_roundg kj20
                                      case measure => have := HJ4.out; have := HK2.out; have := HJ13.out; have := HJ20.out; omega
                                      case rel => exact ⟨((x5_2 ++ (⟨#[32, 44, 32]⟩ : ByteArray)) ++ (rdOf ByteArray.empty l0 x31_2)), (wrap64 (x31_2 + 1)), (by first | rfl | (simp; done) | (simp [*]; done)), (by first | rfl | (simp; done) | (simp [*]; done)), H', ⟨by have := HJ4.out; have := HK2.out; have := HJ13.out; have := HJ20.out; omega⟩, ⟨by repeat (first | (with_reducible first | exact HB.out | apply below_alloc | apply pw_below_drewN | apply below_drew1) | exact HB.out)⟩⟩
                                    · rw [if_neg c27] at H
                                      exact absurd H (by simp)
                                  · rw [if_neg c26] at H
                                    exact absurd H (by simp)
                                · rw [if_neg c25] at H
                                  have c25b0 : (x11_20 == 1) = false := beq_eq_false_iff_ne.mpr c25
                                  have c25b1 : (x11_20 != 1) = true := bne_iff_ne.mpr c25
                                  by_cases c28 : x11_20 = 2
                                  · rw [if_pos c28] at H
                                    have c28b0 : (x11_20 == 2) = true := beq_iff_eq.mpr c28
                                    have c28b1 : (x11_20 != 2) = false := bne_eq_false_iff_eq.mpr c28
                                    clear c28
                                    by_cases c29 : x5_2.size + 3 ≤ 9223372036854775807
                                    · rw [if_pos c29] at H
                                      have c29b0 := eq_true c29
                                      have c29b1 : decide (x5_2.size + 3 ≤ 9223372036854775807) = true := decide_eq_true c29
                                      try have c29b2 : (9223372036854775807 < x5_2.size + 3) = False := eq_false (Nat.not_lt.2 c29)
                                      by_cases c30 : x5_2.size + 3 + (rdOf ByteArray.empty l0 x31_2).size ≤ 9223372036854775807
                                      · rw [if_pos c30] at H
                                        have c30b0 := eq_true c30
                                        have c30b1 : decide (x5_2.size + 3 + (rdOf ByteArray.empty l0 x31_2).size ≤ 9223372036854775807) = true := decide_eq_true c30
                                        try have c30b2 : (9223372036854775807 < x5_2.size + 3 + (rdOf ByteArray.empty l0 x31_2).size) = False := eq_false (Nat.not_lt.2 c30)
                                        have H' := Aside0.mk H
                                        clear H
                                        go_wp2
                                        go_roundg kj20
                                        case measure => have := HJ4.out; have := HK2.out; have := HJ13.out; have := HJ20.out; omega
                                        case rel => exact ⟨((x5_2 ++ (⟨#[44, 44, 9]⟩ : ByteArray)) ++ (rdOf ByteArray.empty l0 x31_2)), (wrap64 (x31_2 + 1)), (by first | rfl | (simp; done) | (simp [*]; done)), (by first | rfl | (simp; done) | (simp [*]; done)), H', ⟨by have := HJ4.out; have := HK2.out; have := HJ13.out; have := HJ20.out; omega⟩, ⟨by repeat (first | (with_reducible first | exact HB.out | apply below_alloc | apply pw_below_drewN | apply below_drew1) | exact HB.out)⟩⟩
                                      · rw [if_neg c30] at H
                                        exact absurd H (by simp)
                                    · rw [if_neg c29] at H
                                      exact absurd H (by simp)
                                  · rw [if_neg c28] at H
                                    have c28b0 : (x11_20 == 2) = false := beq_eq_false_iff_ne.mpr c28
                                    have c28b1 : (x11_20 != 2) = true := bne_iff_ne.mpr c28
                                    by_cases c31 : x11_20 = 3
                                    · rw [if_pos c31] at H
                                      have c31b0 : (x11_20 == 3) = true := beq_iff_eq.mpr c31
                                      have c31b1 : (x11_20 != 3) = false := bne_eq_false_iff_eq.mpr c31
                                      clear c31
                                      by_cases c32 : x5_2.size + 5 ≤ 9223372036854775807
                                      · rw [if_pos c32] at H
                                        have c32b0 := eq_true c32
                                        have c32b1 : decide (x5_2.size + 5 ≤ 9223372036854775807) = true := decide_eq_true c32
                                        try have c32b2 : (9223372036854775807 < x5_2.size + 5) = False := eq_false (Nat.not_lt.2 c32)
                                        by_cases c33 : x5_2.size + 5 + (rdOf ByteArray.empty l0 x31_2).size ≤ 9223372036854775807
                                        · rw [if_pos c33] at H
                                          have c33b0 := eq_true c33
                                          have c33b1 : decide (x5_2.size + 5 + (rdOf ByteArray.empty l0 x31_2).size ≤ 9223372036854775807) = true := decide_eq_true c33
                                          try have c33b2 : (9223372036854775807 < x5_2.size + 5 + (rdOf ByteArray.empty l0 x31_2).size) = False := eq_false (Nat.not_lt.2 c33)
                                          have H' := Aside0.mk H
                                          clear H
                                          go_wp2
                                          go_roundg kj20
                                          case measure => have := HJ4.out; have := HK2.out; have := HJ13.out; have := HJ20.out; omega
                                          case rel => exact ⟨((x5_2 ++ (⟨#[32, 44, 9, 32, 44]⟩ : ByteArray)) ++ (rdOf ByteArray.empty l0 x31_2)), (wrap64 (x31_2 + 1)), (by first | rfl | (simp; done) | (simp [*]; done)), (by first | rfl | (simp; done) | (simp [*]; done)), H', ⟨by have := HJ4.out; have := HK2.out; have := HJ13.out; have := HJ20.out; omega⟩, ⟨by repeat (first | (with_reducible first | exact HB.out | apply below_alloc | apply pw_below_drewN | apply below_drew1) | exact HB.out)⟩⟩
                                        · rw [if_neg c33] at H
                                          exact absurd H (by simp)
                                      · rw [if_neg c32] at H
                                        exact absurd H (by simp)
                                    · rw [if_neg c31] at H
                                      have c31b0 : (x11_20 == 3) = false := beq_eq_false_iff_ne.mpr c31
                                      have c31b1 : (x11_20 != 3) = true := bne_iff_ne.mpr c31
                                      by_cases c34 : x5_2.size + 1 ≤ 9223372036854775807
                                      · rw [if_pos c34] at H
                                        have c34b0 := eq_true c34
                                        have c34b1 : decide (x5_2.size + 1 ≤ 9223372036854775807) = true := decide_eq_true c34
                                        try have c34b2 : (9223372036854775807 < x5_2.size + 1) = False := eq_false (Nat.not_lt.2 c34)
                                        by_cases c35 : x5_2.size + 1 + (rdOf ByteArray.empty l0 x31_2).size ≤ 9223372036854775807
                                        · rw [if_pos c35] at H
                                          have c35b0 := eq_true c35
                                          have c35b1 : decide (x5_2.size + 1 + (rdOf ByteArray.empty l0 x31_2).size ≤ 9223372036854775807) = true := decide_eq_true c35
                                          try have c35b2 : (9223372036854775807 < x5_2.size + 1 + (rdOf ByteArray.empty l0 x31_2).size) = False := eq_false (Nat.not_lt.2 c35)
                                          have H' := Aside0.mk H
                                          clear H
                                          go_wp2
                                          go_roundg kj20
                                          case measure => have := HJ4.out; have := HK2.out; have := HJ13.out; have := HJ20.out; omega
                                          case rel => exact ⟨((x5_2 ++ (⟨#[44]⟩ : ByteArray)) ++ (rdOf ByteArray.empty l0 x31_2)), (wrap64 (x31_2 + 1)), (by first | rfl | (simp; done) | (simp [*]; done)), (by first | rfl | (simp; done) | (simp [*]; done)), H', ⟨by have := HJ4.out; have := HK2.out; have := HJ13.out; have := HJ20.out; omega⟩, ⟨by repeat (first | (with_reducible first | exact HB.out | apply below_alloc | apply pw_below_drewN | apply below_drew1) | exact HB.out)⟩⟩
                                        · rw [if_neg c35] at H
                                          exact absurd H (by simp)
                                      · rw [if_neg c34] at H
                                        exact absurd H (by simp)
                          · rw [if_neg c20] at H
                            have c20b0 : decide (0 < x31_2) = false := decide_eq_false c20
                            clear c20
                            by_cases c36 : x5_2.size + (rdOf ByteArray.empty l0 x31_2).size ≤ 9223372036854775807
                            · rw [if_pos c36] at H
                              have c36b0 := eq_true c36
                              have c36b1 : decide (x5_2.size + (rdOf ByteArray.empty l0 x31_2).size ≤ 9223372036854775807) = true := decide_eq_true c36
                              try have c36b2 : (9223372036854775807 < x5_2.size + (rdOf ByteArray.empty l0 x31_2).size) = False := eq_false (Nat.not_lt.2 c36)
                              have H' := Aside0.mk H
                              clear H
                              go_wp2
                              go_roundg kj13
                              case measure => have := HJ4.out; have := HK2.out; have := HJ13.out; omega
                              case rel => exact ⟨(x5_2 ++ (rdOf ByteArray.empty l0 x31_2)), (wrap64 (x31_2 + 1)), (by first | rfl | (simp; done) | (simp [*]; done)), (by first | rfl | (simp; done) | (simp [*]; done)), H', ⟨by have := HJ4.out; have := HK2.out; have := HJ13.out; omega⟩, ⟨by repeat (first | (with_reducible first | exact HB.out | apply below_alloc | apply pw_below_drewN | apply below_drew1) | exact HB.out)⟩⟩
                            · rw [if_neg c36] at H
                              exact absurd H (by simp)
                  · rw [if_neg c12] at H
                    exact absurd H (by simp)
                · rw [if_neg c11] at H
                  exact absurd H (by simp)
              · rw [if_neg c10] at H
                have c10b0 : decide (x31_2 < (l0.length : Int)) = false := decide_eq_false c10
                clear c10
                replace H := Option.bind_eq_some_iff.mp H
                obtain ⟨⟨t206, t207⟩, A370, H⟩ := H
                replace H : (if t207 = true then ((spenceref01_Texts.f k2 t206 l0).bind fun t210 => (some t210)) else (some false)) = some r := H
                have A37 := Aside0.mk A370
                clear A370
                by_cases c38 : t207 = true
                · subst c38
                  have H1 : ((spenceref01_Texts.f k2 t206 l0).bind fun t210 => (some t210)) = some r := by rw [if_pos rfl] at H; exact H
                  clear H
                  have H := H1
                  clear H1
                  replace H := Option.bind_eq_some_iff.mp H
                  obtain ⟨t210, A390, H⟩ := H
                  replace H : (some t210) = some r := H
                  have A39 := Aside0.mk A390
                  clear A390
                  obtain rfl := Option.some.inj H
                  go_wp2_with (first | ((with_reducible refine gate_callee (f := 16) rfl ?_); refine goesL_ (some 91) rfl rfl Try.func16 (by kernel_rfl) rfl #[.string x5_2] rfl (by (try simp only [List.map_toArray, List.map_cons, List.map_nil]); first | done | rfl | (simp only [List.length_drop, List.length_take]; rfl)) ?_; (with_reducible refine (text_List.calls k2 x5_2 t206 true _ A37.out).mono ?_); rintro e w40 ⟨v208, rfl, ho0, hb⟩; refine ⟨_, rfl, ?_⟩; have n0_ := Aside0.mk (Kd.R_lower ho0 (below_size (by repeat (first | (with_reducible first | exact HB.out | apply below_alloc | apply pw_below_drewN | apply below_drew1) | exact HB.out)))); have n1_ := Aside0.mk (below_step (by repeat (first | (with_reducible first | exact HB.out | apply below_alloc | apply pw_below_drewN | apply below_drew1) | exact HB.out)) hb); clear HB; have HO209 := n0_; have HB := n1_; clear n0_ n1_; (try clear hb); (try clear hb2); (try clear hk); (try clear hi); (try clear ho0); obtain ⟨Ao41, co41, eo41⟩ := Kd.R_slice HO209.out; subst eo41) | (go_at_call 19; (with_reducible refine (spenceref01_Texts.calls k2 _ _ t206 _ _ l0 t210 _ ?side1 ?side2 ?side3 ?side4 A39.out).mono ?_); (case side1 => repeat (first | exact (Kd.R_reads' HO209.out).2.2 | (with_reducible refine Kd.C_alloc ?_ _) | (with_reducible refine Kd.C_drewN ?_ _) | (with_reducible refine Kd.C_drew ?_))); (case side2 => exact (Kd.R_reads' HO209.out).2.1); (case side3 => repeat (first | exact (Kd.C_below HR0.out HB.out) | (with_reducible refine Kd.C_alloc ?_ _) | (with_reducible refine Kd.C_drewN ?_ _) | (with_reducible refine Kd.C_drew ?_))); (case side4 => exact HC0.out); rintro e w' ⟨rfl, ⟨nd, rfl⟩⟩))
                  go_ret
                  exact ⟨by first | rfl | exact ne_empty _ | exact eq_empty _ | (simp [errW_none, errW_some] <;> rfl) | (simp [*, errW_none, errW_some] <;> rfl), by repeat (first | (with_reducible first | exact HB.out | apply below_alloc | apply pw_below_drewN | apply below_drew1) | exact HB.out)⟩
                · replace c38 := Bool.eq_false_iff.mpr c38
                  subst c38
                  have H1 : (some false) = some r := by rw [if_neg (show ¬ (false = true) by decide)] at H; exact H
                  clear H
                  have H := H1
                  clear H1
                  obtain rfl := Option.some.inj H
                  go_wp2_with (first | ((with_reducible refine gate_callee (f := 16) rfl ?_); refine goesL_ (some 91) rfl rfl Try.func16 (by kernel_rfl) rfl #[.string x5_2] rfl (by (try simp only [List.map_toArray, List.map_cons, List.map_nil]); first | done | rfl | (simp only [List.length_drop, List.length_take]; rfl)) ?_; (with_reducible refine (text_List.calls k2 x5_2 t206 false _ A37.out).mono ?_); rintro e w42 ⟨v208, rfl, ho0, hb⟩; refine ⟨_, rfl, ?_⟩; have n0_ := Aside0.mk (Kd.R_lower ho0 (below_size (by repeat (first | (with_reducible first | exact HB.out | apply below_alloc | apply pw_below_drewN | apply below_drew1) | exact HB.out)))); have n1_ := Aside0.mk (below_step (by repeat (first | (with_reducible first | exact HB.out | apply below_alloc | apply pw_below_drewN | apply below_drew1) | exact HB.out)) hb); clear HB; have HO209 := n0_; have HB := n1_; clear n0_ n1_; (try clear hb); (try clear hb2); (try clear hk); (try clear hi); (try clear ho0)))
                  go_ret
                  exact ⟨by first | rfl | exact ne_empty _ | exact eq_empty _ | (simp [errW_none, errW_some] <;> rfl) | (simp [*, errW_none, errW_some] <;> rfl), by repeat (first | (with_reducible first | exact HB.out | apply below_alloc | apply pw_below_drewN | apply below_drew1) | exact HB.out)⟩
  · replace c4 := Bool.eq_false_iff.mpr c4
    subst c4
    have H1 : (some false) = some r := by rw [if_neg (show ¬ (false = true) by decide)] at H; exact H
    clear H
    have H := H1
    clear H1
    obtain rfl := Option.some.inj H
    go_enter Try.func5, Try.ntmps5
    go_wp2_with (first | ((with_reducible refine gate_callee (f := 15) rfl ?_); refine goesL_ (some 14) rfl rfl Try.func15 (by kernel_rfl) rfl #[] rfl (by (try simp only [List.map_toArray, List.map_cons, List.map_nil]); first | done | rfl | (simp only [List.length_drop, List.length_take]; rfl)) ?_; (with_reducible refine (spencelaw03_awake.calls k  false _ A3.out).mono ?_); rintro e w43 ⟨rfl, hb⟩; refine ⟨_, rfl, ?_⟩; have n0_ := Aside0.mk (below_step (by repeat (first | (with_reducible first | exact HB.out | apply below_alloc | apply pw_below_drewN | apply below_drew1) | exact HB.out)) hb); clear HB; have HB := n0_; clear n0_; (try clear hb); (try clear hb2); (try clear hk); (try clear hi)))
    go_ret
    exact ⟨by first | rfl | exact ne_empty _ | exact eq_empty _ | (simp [errW_none, errW_some] <;> rfl) | (simp [*, errW_none, errW_some] <;> rfl), by repeat (first | (with_reducible first | exact HB.out | apply below_alloc | apply pw_below_drewN | apply below_drew1) | exact HB.out)⟩

/-- THE ONE PURE STATEMENT of spencelaw03_TextMakes. -/
def spencelaw03_TextMakes.Pure : Prop := ∀ (l0 : List ByteArray) (l1 : List Int), l0.length * 16 ≤ 140737488351232 → (∀ x ∈ l0, x.size ≤ maxLen) → l1.length * 8 ≤ 140737488351232 → (∀ x ∈ l1, (Lit.int .i64 x).wf = true) → ∃ k, spencelaw03_TextMakes.f k l0 l1 = some true

end Go.Proofs.Ytbihggkkaoacpaa.PAll
