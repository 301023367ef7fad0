/- The law PlanOnce: for every input the call returns true, and each argument reads behind the call as it read before. No condition. (The row, and the plain law ahead of it.) -/
import Derived.Test.YtcnlmpjoghogbaaDoorKPlanOnce1
import Derived.Test.YtcnlmpjoghogbaaDoorKPlanOnce3
import Derived.Test.YtcnlmpjoghogbaaDoorKPlanOnce2
import Derived.Test.YtcnlmpjoghogbaaDoorRows
import Derived.Test.YtcnlmpjoghogbaaDoorCards
import Derived.Test.YtcnlmpjoghogbaaDoorTie
import Derived.LaidMore
import Derived.Lay
import Derived.SevenTiedAt
import Derived.Stop.Joined
import Derived.WalkKit
import Derived.ProofKit
import Derived.OpenShut
import Derived.ShutString
import Derived.ChangeOld
import Derived.Below
import Derived.SizedLaws
namespace Go.Proofs.YtcnlmpjoghogbaaDoor.PAll
open Go.Proofs.YtcnlmpjoghogbaaDoor.Ag (row_load row_store ag_gate ag_gate_st row_store2)
open Go.RowKit Go.Proofs.YtcnlmpjoghogbaaDoor.Xw Go.Proofs.YtcnlmpjoghogbaaDoorW.PrintWords Go.Proofs.YtcnlmpjoghogbaaDoorW.PrintLast Go.Proofs.YtcnlmpjoghogbaaDoorW.PrintMore
attribute [local go_sem] max2_int min2_int max_two min_two max_three min_three max_four min_four   -- for this text's walks alone
attribute [local go_sem ↓] Ag.ldMap_eq
set_option linter.unusedVariables false
set_option linter.unusedSimpArgs false
mutual
def spencelaw28_PlanOnce.j0 : Nat → List (S53) → Int → Int → List Int → Bool → Option (Bool)
  | 0, _, _, _, _, _ => none
  | k + 1, x0, x1, x2, x3, x27 => if x27 = true then (some true) else ((bitmap_Of.f x3).bind fun t381 => ((plan_Of.f k x0 x1 x2 t381).bind fun bt383 => (spencelaw28_PlanOnce.l0 k x1 x2 (-1) bt383.2.2 (bt383.2.2.length : Int) 0 bt383.1 bt383.2.1 bt383.2.2 t381)))
def spencelaw28_PlanOnce.l0 : Nat → Int → Int → Int → List (S50) → Int → Int → List Int → List (S50) → List (S50) → (Nat → Int) → Option (Bool)
  | 0, _, _, _, _, _, _, _, _, _, _ => none
  | k + 1, x1, x2, x12, x37, x38, x39, x393000, x393001, x393002, x394000 => if x39 < x38 then (if 0 ≤ x39 then (if x39 < (x37.length : Int) then (if (rd_T50 x37 x39).f2 = true then (spencelaw28_PlanOnce.j2 k x1 x2 x37 x38 x39 true x393000 x393001 x393002 x394000 ((rd_T50 x37 x39).f0) ((rd_T50 x37 x39).f1) ((rd_T50 x37 x39).f2)) else (if ((rd_T50 x37 x39).f0) < x12 then (spencelaw28_PlanOnce.j2 k x1 x2 x37 x38 x39 true x393000 x393001 x393002 x394000 ((rd_T50 x37 x39).f0) ((rd_T50 x37 x39).f1) ((rd_T50 x37 x39).f2)) else (if (wrap64 (((rd_T50 x37 x39).f1) - ((rd_T50 x37 x39).f0))) > 8 then (spencelaw28_PlanOnce.j2 k x1 x2 x37 x38 x39 true x393000 x393001 x393002 x394000 ((rd_T50 x37 x39).f0) ((rd_T50 x37 x39).f1) ((rd_T50 x37 x39).f2)) else (if ((rd_T50 x37 x39).f1) > 4097 then (spencelaw28_PlanOnce.j2 k x1 x2 x37 x38 x39 true x393000 x393001 x393002 x394000 ((rd_T50 x37 x39).f0) ((rd_T50 x37 x39).f1) ((rd_T50 x37 x39).f2)) else (spencelaw28_PlanOnce.j2 k x1 x2 x37 x38 x39 (decide (((rd_T50 x37 x39).f0) ≥ ((rd_T50 x37 x39).f1))) x393000 x393001 x393002 x394000 ((rd_T50 x37 x39).f0) ((rd_T50 x37 x39).f1) ((rd_T50 x37 x39).f2)))))) else (none)) else (none)) else ((plan_Ready.f x393000 x393001 x393002 x394000).bind fun t394 => (some t394))
def spencelaw28_PlanOnce.j2 : Nat → Int → Int → List (S50) → Int → Int → Bool → List Int → List (S50) → List (S50) → (Nat → Int) → Int → Int → Bool → Option (Bool)
  | 0, _, _, _, _, _, _, _, _, _, _, _, _, _ => none
  | k + 1, x1, x2, x37, x38, x39, x70, x393000, x393001, x393002, x394000, x397000, x397001, x397002 => if x70 = true then (some false) else ((plan_Bytes.f x397000 x397001 x397002 x1 x2).bind fun bt397 => (if bt397.2.2 = true then (if bt397.1 < 0 then (spencelaw28_PlanOnce.j3 k x1 x2 x397001 x37 x38 x39 true x393000 x393001 x393002 x394000 x397000 x397001 x397002) else (if bt397.2.1 > x1 then (spencelaw28_PlanOnce.j3 k x1 x2 x397001 x37 x38 x39 true x393000 x393001 x393002 x394000 x397000 x397001 x397002) else (spencelaw28_PlanOnce.j3 k x1 x2 x397001 x37 x38 x39 (decide (bt397.1 ≥ bt397.2.1)) x393000 x393001 x393002 x394000 x397000 x397001 x397002))) else (spencelaw28_PlanOnce.j3 k x1 x2 x397001 x37 x38 x39 true x393000 x393001 x393002 x394000 x397000 x397001 x397002)))
def spencelaw28_PlanOnce.j3 : Nat → Int → Int → Int → List (S50) → Int → Int → Bool → List Int → List (S50) → List (S50) → (Nat → Int) → Int → Int → Bool → Option (Bool)
  | 0, _, _, _, _, _, _, _, _, _, _, _, _, _, _ => none
  | k + 1, x1, x2, x12, x37, x38, x39, x99, x393000, x393001, x393002, x394000, x397000, x397001, x397002 => if x99 = true then (some false) else (spencelaw28_PlanOnce.l1 k x1 x2 x12 x397000 x37 x38 x39 x393000 x393001 x393002 x394000 x397000 x397001 x397002)
def spencelaw28_PlanOnce.l1 : Nat → Int → Int → Int → Int → List (S50) → Int → Int → List Int → List (S50) → List (S50) → (Nat → Int) → Int → Int → Bool → Option (Bool)
  | 0, _, _, _, _, _, _, _, _, _, _, _, _, _, _ => none
  | k + 1, x1, x2, x12, x17, x37, x38, x39, x393000, x393001, x393002, x394000, x397000, x397001, x397002 => if x17 < x397001 then ((bitmap_Map_Has.f x394000 x17).bind fun t401 => (if t401 = true then (some false) else ((bitmap_Map_With.f x394000 x17).bind fun t402 => (spencelaw28_PlanOnce.l1 k x1 x2 x12 (wrap64 (x17 + 1)) x37 x38 x39 x393000 x393001 x393002 t402 x397000 x397001 x397002)))) else (spencelaw28_PlanOnce.l0 k x1 x2 x12 x37 x38 (wrap64 (x39 + 1)) x393000 x393001 x393002 x394000)
end
def spencelaw28_PlanOnce.f (k : Nat) (l0 : List (S53)) (a1 : Int) (a2 : Int) (l3 : List Int) : Option (Bool) := (spencelaw28_awake.f k).bind fun t380 => (if t380 = true then (if (l0.length : Int) > 20 then (spencelaw28_PlanOnce.j0 k l0 a1 a2 l3 true) else (spencelaw28_PlanOnce.j0 k l0 a1 a2 l3 (decide ((l3.length : Int) > 60)))) else (some false))
theorem spencelaw28_PlanOnce.mono_l : ∀ k, (∀ y0 y1 y2 y3 y4, LeO (spencelaw28_PlanOnce.j0 k y0 y1 y2 y3 y4) (spencelaw28_PlanOnce.j0 (k + 1) y0 y1 y2 y3 y4)) ∧ (∀ y0 y1 y2 y3 y4 y5 y6 y7 y8 y9, LeO (spencelaw28_PlanOnce.l0 k y0 y1 y2 y3 y4 y5 y6 y7 y8 y9) (spencelaw28_PlanOnce.l0 (k + 1) y0 y1 y2 y3 y4 y5 y6 y7 y8 y9)) ∧ (∀ y0 y1 y2 y3 y4 y5 y6 y7 y8 y9 y10 y11 y12, LeO (spencelaw28_PlanOnce.j2 k y0 y1 y2 y3 y4 y5 y6 y7 y8 y9 y10 y11 y12) (spencelaw28_PlanOnce.j2 (k + 1) y0 y1 y2 y3 y4 y5 y6 y7 y8 y9 y10 y11 y12)) ∧ (∀ y0 y1 y2 y3 y4 y5 y6 y7 y8 y9 y10 y11 y12 y13, LeO (spencelaw28_PlanOnce.j3 k y0 y1 y2 y3 y4 y5 y6 y7 y8 y9 y10 y11 y12 y13) (spencelaw28_PlanOnce.j3 (k + 1) y0 y1 y2 y3 y4 y5 y6 y7 y8 y9 y10 y11 y12 y13)) ∧ (∀ y0 y1 y2 y3 y4 y5 y6 y7 y8 y9 y10 y11 y12 y13, LeO (spencelaw28_PlanOnce.l1 k y0 y1 y2 y3 y4 y5 y6 y7 y8 y9 y10 y11 y12 y13) (spencelaw28_PlanOnce.l1 (k + 1) y0 y1 y2 y3 y4 y5 y6 y7 y8 y9 y10 y11 y12 y13))
  | 0 => ⟨fun _ _ _ _ _ r h => by simp [spencelaw28_PlanOnce.j0] at h, fun _ _ _ _ _ _ _ _ _ _ r h => by simp [spencelaw28_PlanOnce.l0] at h, fun _ _ _ _ _ _ _ _ _ _ _ _ _ r h => by simp [spencelaw28_PlanOnce.j2] at h, fun _ _ _ _ _ _ _ _ _ _ _ _ _ _ r h => by simp [spencelaw28_PlanOnce.j3] at h, fun _ _ _ _ _ _ _ _ _ _ _ _ _ _ r h => by simp [spencelaw28_PlanOnce.l1] at h⟩
  | k + 1 => by
    obtain ⟨ih0, ih1, ih2, ih3, ih4⟩ := spencelaw28_PlanOnce.mono_l k
    refine ⟨?_, ?_, ?_, ?_, ?_⟩
    · intro y0 y1 y2 y3 y4
      unfold spencelaw28_PlanOnce.j0
      repeat' first
      | (with_reducible exact ih0 _ _ _ _ _)
      | (with_reducible exact ih1 _ _ _ _ _ _ _ _ _ _)
      | (with_reducible exact ih2 _ _ _ _ _ _ _ _ _ _ _ _ _)
      | (with_reducible exact ih3 _ _ _ _ _ _ _ _ _ _ _ _ _ _)
      | (with_reducible exact ih4 _ _ _ _ _ _ _ _ _ _ _ _ _ _)
      | (with_reducible exact plan_Of.mono _ _ _ _ _)
      | (with_reducible exact spencelaw28_awake.mono _)
      | (with_reducible exact LeO.refl _)
      | (with_reducible exact LeO.none _)
      | (with_reducible refine LeO.ite ?_ ?_)
      | (with_reducible refine LeO.bind ?_ (fun _ => ?_))
      | exact ih0 _ _ _ _ _
      | exact ih1 _ _ _ _ _ _ _ _ _ _
      | exact ih2 _ _ _ _ _ _ _ _ _ _ _ _ _
      | exact ih3 _ _ _ _ _ _ _ _ _ _ _ _ _ _
      | exact ih4 _ _ _ _ _ _ _ _ _ _ _ _ _ _
      | exact plan_Of.mono _ _ _ _ _
      | exact spencelaw28_awake.mono _
      | exact LeO.none _
      | refine LeO.ite ?_ ?_
      | refine LeO.bind ?_ (fun _ => ?_)
    · intro y0 y1 y2 y3 y4 y5 y6 y7 y8 y9
      unfold spencelaw28_PlanOnce.l0
      repeat' first
      | (with_reducible exact ih0 _ _ _ _ _)
      | (with_reducible exact ih1 _ _ _ _ _ _ _ _ _ _)
      | (with_reducible exact ih2 _ _ _ _ _ _ _ _ _ _ _ _ _)
      | (with_reducible exact ih3 _ _ _ _ _ _ _ _ _ _ _ _ _ _)
      | (with_reducible exact ih4 _ _ _ _ _ _ _ _ _ _ _ _ _ _)
      | (with_reducible exact plan_Of.mono _ _ _ _ _)
      | (with_reducible exact spencelaw28_awake.mono _)
      | (with_reducible exact LeO.refl _)
      | (with_reducible exact LeO.none _)
      | (with_reducible refine LeO.ite ?_ ?_)
      | (with_reducible refine LeO.bind ?_ (fun _ => ?_))
      | exact ih0 _ _ _ _ _
      | exact ih1 _ _ _ _ _ _ _ _ _ _
      | exact ih2 _ _ _ _ _ _ _ _ _ _ _ _ _
      | exact ih3 _ _ _ _ _ _ _ _ _ _ _ _ _ _
      | exact ih4 _ _ _ _ _ _ _ _ _ _ _ _ _ _
      | exact plan_Of.mono _ _ _ _ _
      | exact spencelaw28_awake.mono _
      | exact LeO.none _
      | refine LeO.ite ?_ ?_
      | refine LeO.bind ?_ (fun _ => ?_)
    · intro y0 y1 y2 y3 y4 y5 y6 y7 y8 y9 y10 y11 y12
      unfold spencelaw28_PlanOnce.j2
      repeat' first
      | (with_reducible exact ih0 _ _ _ _ _)
      | (with_reducible exact ih1 _ _ _ _ _ _ _ _ _ _)
      | (with_reducible exact ih2 _ _ _ _ _ _ _ _ _ _ _ _ _)
      | (with_reducible exact ih3 _ _ _ _ _ _ _ _ _ _ _ _ _ _)
      | (with_reducible exact ih4 _ _ _ _ _ _ _ _ _ _ _ _ _ _)
      | (with_reducible exact plan_Of.mono _ _ _ _ _)
      | (with_reducible exact spencelaw28_awake.mono _)
      | (with_reducible exact LeO.refl _)
      | (with_reducible exact LeO.none _)
      | (with_reducible refine LeO.ite ?_ ?_)
      | (with_reducible refine LeO.bind ?_ (fun _ => ?_))
      | exact ih0 _ _ _ _ _
      | exact ih1 _ _ _ _ _ _ _ _ _ _
      | exact ih2 _ _ _ _ _ _ _ _ _ _ _ _ _
      | exact ih3 _ _ _ _ _ _ _ _ _ _ _ _ _ _
      | exact ih4 _ _ _ _ _ _ _ _ _ _ _ _ _ _
      | exact plan_Of.mono _ _ _ _ _
      | exact spencelaw28_awake.mono _
      | exact LeO.none _
      | refine LeO.ite ?_ ?_
      | refine LeO.bind ?_ (fun _ => ?_)
    · intro y0 y1 y2 y3 y4 y5 y6 y7 y8 y9 y10 y11 y12 y13
      unfold spencelaw28_PlanOnce.j3
      repeat' first
      | (with_reducible exact ih0 _ _ _ _ _)
      | (with_reducible exact ih1 _ _ _ _ _ _ _ _ _ _)
      | (with_reducible exact ih2 _ _ _ _ _ _ _ _ _ _ _ _ _)
      | (with_reducible exact ih3 _ _ _ _ _ _ _ _ _ _ _ _ _ _)
      | (with_reducible exact ih4 _ _ _ _ _ _ _ _ _ _ _ _ _ _)
      | (with_reducible exact plan_Of.mono _ _ _ _ _)
      | (with_reducible exact spencelaw28_awake.mono _)
      | (with_reducible exact LeO.refl _)
      | (with_reducible exact LeO.none _)
      | (with_reducible refine LeO.ite ?_ ?_)
      | (with_reducible refine LeO.bind ?_ (fun _ => ?_))
      | exact ih0 _ _ _ _ _
      | exact ih1 _ _ _ _ _ _ _ _ _ _
      | exact ih2 _ _ _ _ _ _ _ _ _ _ _ _ _
      | exact ih3 _ _ _ _ _ _ _ _ _ _ _ _ _ _
      | exact ih4 _ _ _ _ _ _ _ _ _ _ _ _ _ _
      | exact plan_Of.mono _ _ _ _ _
      | exact spencelaw28_awake.mono _
      | exact LeO.none _
      | refine LeO.ite ?_ ?_
      | refine LeO.bind ?_ (fun _ => ?_)
    · intro y0 y1 y2 y3 y4 y5 y6 y7 y8 y9 y10 y11 y12 y13
      unfold spencelaw28_PlanOnce.l1
      repeat' first
      | (with_reducible exact ih0 _ _ _ _ _)
      | (with_reducible exact ih1 _ _ _ _ _ _ _ _ _ _)
      | (with_reducible exact ih2 _ _ _ _ _ _ _ _ _ _ _ _ _)
      | (with_reducible exact ih3 _ _ _ _ _ _ _ _ _ _ _ _ _ _)
      | (with_reducible exact ih4 _ _ _ _ _ _ _ _ _ _ _ _ _ _)
      | (with_reducible exact plan_Of.mono _ _ _ _ _)
      | (with_reducible exact spencelaw28_awake.mono _)
      | (with_reducible exact LeO.refl _)
      | (with_reducible exact LeO.none _)
      | (with_reducible refine LeO.ite ?_ ?_)
      | (with_reducible refine LeO.bind ?_ (fun _ => ?_))
      | exact ih0 _ _ _ _ _
      | exact ih1 _ _ _ _ _ _ _ _ _ _
      | exact ih2 _ _ _ _ _ _ _ _ _ _ _ _ _
      | exact ih3 _ _ _ _ _ _ _ _ _ _ _ _ _ _
      | exact ih4 _ _ _ _ _ _ _ _ _ _ _ _ _ _
      | exact plan_Of.mono _ _ _ _ _
      | exact spencelaw28_awake.mono _
      | exact LeO.none _
      | refine LeO.ite ?_ ?_
      | refine LeO.bind ?_ (fun _ => ?_)
theorem spencelaw28_PlanOnce.mono : ∀ a0 a1 a2 a3 k, LeO (spencelaw28_PlanOnce.f k a0 a1 a2 a3) (spencelaw28_PlanOnce.f (k + 1) a0 a1 a2 a3) := by
  intro a0 a1 a2 a3 k
  obtain ⟨ih0, ih1, ih2, ih3, ih4⟩ := spencelaw28_PlanOnce.mono_l k
  unfold spencelaw28_PlanOnce.f
  repeat' first
      | (with_reducible exact ih0 _ _ _ _ _)
      | (with_reducible exact ih1 _ _ _ _ _ _ _ _ _ _)
      | (with_reducible exact ih2 _ _ _ _ _ _ _ _ _ _ _ _ _)
      | (with_reducible exact ih3 _ _ _ _ _ _ _ _ _ _ _ _ _ _)
      | (with_reducible exact ih4 _ _ _ _ _ _ _ _ _ _ _ _ _ _)
      | (with_reducible exact plan_Of.mono _ _ _ _ _)
      | (with_reducible exact spencelaw28_awake.mono _)
      | (with_reducible exact LeO.refl _)
      | (with_reducible exact LeO.none _)
      | (with_reducible refine LeO.ite ?_ ?_)
      | (with_reducible refine LeO.bind ?_ (fun _ => ?_))
      | exact ih0 _ _ _ _ _
      | exact ih1 _ _ _ _ _ _ _ _ _ _
      | exact ih2 _ _ _ _ _ _ _ _ _ _ _ _ _
      | exact ih3 _ _ _ _ _ _ _ _ _ _ _ _ _ _
      | exact ih4 _ _ _ _ _ _ _ _ _ _ _ _ _ _
      | exact plan_Of.mono _ _ _ _ _
      | exact spencelaw28_awake.mono _
      | exact LeO.none _
      | refine LeO.ite ?_ ?_
      | refine LeO.bind ?_ (fun _ => ?_)
set_option maxHeartbeats 8000000 in
set_option maxRecDepth 100000 in
theorem spencelaw28_PlanOnce.calls (k : Nat) (A0 : Option Addr) (c0 : Nat) (l0 : List (S53)) (a1 : Int) (a2 : Int) (A3 : Option Addr) (c3 : Nat) (l3 : List Int) (r : Bool) (hrt_ : r = true) (w : World) (hr0 : Kd.C k53 w A0 l0.length l0) (hc0 : l0.length ≤ c0) (hr3 : Kd.C (Kd.int .i64) w A3 l3.length l3) (hc3 : l3.length ≤ c3) (hT_ : Ag.TabW w) (h : spencelaw28_PlanOnce.f k l0 a1 a2 l3 = some r) :
    Calls Tryd.prog 7 #[.slice A0 l0.length c0, .int .i64 a1, .int .i64 a2, .slice A3 l3.length c3] w fun e w' => e = .returned (.bool r) ∧ Below w.heap.size w w' := by
  have HRT_ := Aside0.mk hrt_
  clear hrt_
  have hu27 := Tryd.underlying27
  have hu60 := Tryd.underlying60
  have hu50 := Tryd.underlying50
  have hu53 := Tryd.underlying53
  have HR0 := Aside0.mk hr0
  have HC0 := Aside0.mk hc0
  clear hr0 hc0
  have HR3 := Aside0.mk hr3
  have HC3 := Aside0.mk hc3
  clear hr3 hc3
  have HB := Aside0.mk (Below.refl w.heap.size w)
  have HTab_ := Aside0.mk hT_
  clear hT_
  have H : ((spencelaw28_awake.f k).bind fun t380 => (if t380 = true then (if (l0.length : Int) > 20 then (spencelaw28_PlanOnce.j0 k l0 a1 a2 l3 true) else (spencelaw28_PlanOnce.j0 k l0 a1 a2 l3 (decide ((l3.length : Int) > 60)))) else (some false))) = some r := h
  clear h
  replace H := Option.bind_eq_some_iff.mp H
  obtain ⟨t380, A50, H⟩ := H
  replace H : (if t380 = true then (if (l0.length : Int) > 20 then (spencelaw28_PlanOnce.j0 k l0 a1 a2 l3 true) else (spencelaw28_PlanOnce.j0 k l0 a1 a2 l3 (decide ((l3.length : Int) > 60)))) else (some false)) = some r := H
  have A5 := Aside0.mk A50
  clear A50
  by_cases c6 : t380 = true
  · subst c6
    have H1 : (if (l0.length : Int) > 20 then (spencelaw28_PlanOnce.j0 k l0 a1 a2 l3 true) else (spencelaw28_PlanOnce.j0 k l0 a1 a2 l3 (decide ((l3.length : Int) > 60)))) = some r := by rw [if_pos rfl] at H; exact H
    clear H
    have H := H1
    clear H1
    have HC7 := Aside0.mk H
    clear H
    go_enter Tryd.func7, Tryd.ntmps7
    go_upto_region 3 with (first | ((with_reducible refine gate_callee (f := 33) rfl ?_); refine goesL_ (some 18) rfl rfl Tryd.func33 (by kernel_rfl) rfl #[] rfl (by (try simp only [List.map_toArray, List.map_cons, List.map_nil]); first | done | rfl | (simp only [List.length_drop, List.length_take]; rfl)) ?_; (with_reducible refine (spencelaw28_awake.calls k  true _ (HTab_.out.step (by repeat (first | (with_reducible first | exact HB.out | apply below_alloc | apply pw_below_drewN | apply below_drew1) | exact HB.out))) A5.out).mono ?_); rintro e w8 ⟨rfl, hb⟩; refine ⟨_, rfl, ?_⟩; have n0_ := Aside0.mk (below_step (by repeat (first | (with_reducible first | exact HB.out | apply below_alloc | apply pw_below_drewN | apply below_drew1) | exact HB.out)) hb); clear HB; have HB := n0_; clear n0_; (try clear hb); (try clear hb2); (try clear hk); (try clear hi)))
    (try simp only [Act.put, List.setIfInBounds_toArray, List.set_cons_zero, List.set_cons_succ])
    go_cut [27] (fun v27 wc => ∃ (kq : Nat) (x27_6 : Bool), v27 = .bool x27_6 ∧ Aside0 (spencelaw28_PlanOnce.j0 kq l0 a1 a2 l3 x27_6 = some r) ∧ Aside0 (kq ≤ k) ∧ Aside0 (Below w.heap.size w wc))
    case first =>
      have H := HC7.out
      clear HC7
      by_cases c9 : (l0.length : Int) > 20
      · rw [if_pos c9] at H
        have c9b0 : decide (20 < (l0.length : Int)) = true := decide_eq_true c9
        have c9b1 : decide (20 < l0.length) = true := decide_eq_true (by omega)
        clear c9
        (first | rw [c9b0] | (simp only [i64_w, i32_w]; rw [c9b0]) | skip)
        have H' := Aside0.mk H
        clear H
        go_wp2
        go_meet
        case rel => exact ⟨_, (true), (by first | rfl | (simp; done) | (simp [*]; done)), H', ⟨by first | omega | exact Nat.le_refl _⟩, ⟨by repeat (first | (with_reducible first | exact HB.out | apply below_alloc | apply pw_below_drewN | apply below_drew1) | exact HB.out)⟩⟩
      · rw [if_neg c9] at H
        have c9b0 : decide (20 < (l0.length : Int)) = false := decide_eq_false c9
        have c9b1 : decide (20 < l0.length) = false := decide_eq_false (by omega)
        clear c9
        (first | rw [c9b0] | (simp only [i64_w, i32_w]; rw [c9b0]) | skip)
        have H' := Aside0.mk H
        clear H
        go_wp2
        go_meet
        case rel => exact ⟨_, (decide ((l3.length : Int) > 60)), (by first | rfl | (simp; done) | (simp [*]; done)), H', ⟨by first | omega | exact Nat.le_refl _⟩, ⟨by repeat (first | (with_reducible first | exact HB.out | apply below_alloc | apply pw_below_drewN | apply below_drew1) | exact HB.out)⟩⟩
    case rest =>
      clear HC7
      try clear p2
      try clear c3
      try clear c6
      try clear c7
      try clear c9
      try clear c9b0
      try clear c9b1
      obtain ⟨kq, x27_6, rfl, HA, HJ6, HB⟩ := hcut
      cases kq with
      | zero => exact absurd HA.out (by simp [spencelaw28_PlanOnce.j0])
      | succ kj6 =>
        have H := HA.out
        clear HA
        simp only [spencelaw28_PlanOnce.j0] at H
        by_cases c10 : x27_6 = true
        · subst c10
          have H1 : (some true) = some r := by rw [if_pos rfl] at H; exact H
          clear H
          have H := H1
          clear H1
          obtain rfl := Option.some.inj H
          go_wp2
          go_ret
          exact ⟨by first | rfl | exact ne_empty _ | exact eq_empty _ | (simp [errW_none, errW_some] <;> rfl) | (simp [*, errW_none, errW_some] <;> rfl), by repeat (first | (with_reducible first | exact HB.out | apply below_alloc | apply pw_below_drewN | apply below_drew1) | exact HB.out)⟩
        · replace c10 := Bool.eq_false_iff.mpr c10
          subst c10
          have H1 : ((bitmap_Of.f l3).bind fun t381 => ((plan_Of.f kj6 l0 a1 a2 t381).bind fun bt383 => (spencelaw28_PlanOnce.l0 kj6 a1 a2 (-1) bt383.2.2 (bt383.2.2.length : Int) 0 bt383.1 bt383.2.1 bt383.2.2 t381))) = some r := by rw [if_neg (show ¬ (false = true) by decide)] at H; exact H
          clear H
          have H := H1
          clear H1
          replace H := Option.bind_eq_some_iff.mp H
          obtain ⟨t381, A110, H⟩ := H
          replace H : ((plan_Of.f kj6 l0 a1 a2 t381).bind fun bt383 => (spencelaw28_PlanOnce.l0 kj6 a1 a2 (-1) bt383.2.2 (bt383.2.2.length : Int) 0 bt383.1 bt383.2.1 bt383.2.2 t381)) = some r := H
          have A11 := Aside0.mk A110
          clear A110
          replace H := Option.bind_eq_some_iff.mp H
          obtain ⟨⟨t383, t386, t389⟩, A120, H⟩ := H
          replace H : (spencelaw28_PlanOnce.l0 kj6 a1 a2 (-1) t389 (t389.length : Int) 0 t383 t386 t389 t381) = some r := H
          have A12 := Aside0.mk A120
          clear A120
          have H' := Aside0.mk H
          clear H
          go_wp2_with (first | ((with_reducible refine ag_gate (t := 27) rfl ?_); first | refine row_load rfl 27 _ rfl _ rfl .u64 65 _ 27 _ BK382.out Tryd.underlying27 rfl Ag.info_map ?_ | refine row_load rfl 27 _ rfl _ rfl .u64 65 _ 27 _ (by first | exact BK382.out | (repeat (first | exact BK382.out | (with_reducible exact Ag.row_put BK382.out) | (with_reducible refine Ag.row_far ?_ (by assumption) _) | (with_reducible refine blk_far ?_ (by assumption) _)))) Tryd.underlying27 rfl Ag.info_map ?_ | refine row_load rfl 27 _ rfl _ rfl .u64 65 _ 27 _ BK393.out Tryd.underlying27 rfl Ag.info_map ?_ | refine row_load rfl 27 _ rfl _ rfl .u64 65 _ 27 _ (by first | exact BK393.out | (repeat (first | exact BK393.out | (with_reducible exact Ag.row_put BK393.out) | (with_reducible refine Ag.row_far ?_ (by assumption) _) | (with_reducible refine blk_far ?_ (by assumption) _)))) Tryd.underlying27 rfl Ag.info_map ?_) | ((with_reducible refine ag_gate_st (t := 27) rfl ?_); first | refine row_store2 rfl 27 _ _ rfl rfl _ rfl .u64 65 _ rfl _ 27 BK382.out Ag.info_map (Ag.agC_size _ _ _) ?_ | refine row_store2 rfl 27 _ _ rfl rfl _ rfl .u64 65 _ rfl _ 27 (by first | exact BK382.out | (repeat (first | exact BK382.out | (with_reducible exact Ag.row_put BK382.out) | (with_reducible refine Ag.row_far ?_ (by assumption) _) | (with_reducible refine blk_far ?_ (by assumption) _)))) Ag.info_map (Ag.agC_size _ _ _) ?_ | refine row_store2 rfl 27 _ _ rfl rfl _ rfl .u64 65 _ rfl _ 27 BK393.out Ag.info_map (Ag.agC_size _ _ _) ?_ | refine row_store2 rfl 27 _ _ rfl rfl _ rfl .u64 65 _ rfl _ 27 (by first | exact BK393.out | (repeat (first | exact BK393.out | (with_reducible exact Ag.row_put BK393.out) | (with_reducible refine Ag.row_far ?_ (by assumption) _) | (with_reducible refine blk_far ?_ (by assumption) _)))) Ag.info_map (Ag.agC_size _ _ _) ?_) | ((with_reducible refine gate_callee (f := 10) rfl ?_); refine goesL_ (some 29) rfl rfl Tryd.func10 (by kernel_rfl) rfl #[.slice A3 l3.length c3] rfl (by (try simp only [List.map_toArray, List.map_cons, List.map_nil]); first | done | rfl | (simp only [List.length_drop, List.length_take]; rfl)) ?_; (with_reducible refine (bitmap_Of.calls _ _ l3 t381 _ ?side1 ?side2 A11.out).mono ?_); (case side1 => repeat (first | exact (Kd.C_below HR3.out HB.out) | (with_reducible refine Kd.C_alloc ?_ _) | (with_reducible refine Kd.C_drewN ?_ _) | (with_reducible refine Kd.C_drew ?_))); (case side2 => exact HC3.out); rintro e w13 ⟨rfl, hb⟩; refine ⟨_, rfl, ?_⟩; have n0_ := Aside0.mk (below_step (by repeat (first | (with_reducible first | exact HB.out | apply below_alloc | apply pw_below_drewN | apply below_drew1) | exact HB.out)) hb); clear HB; have HB := n0_; clear n0_; (try clear hb); (try clear hb2); (try clear hk); (try clear hi)) | ((with_reducible refine gate_dst (N := 9) rfl ?_); (try (refine gate_guard (by rfl) ?_; dsimp only)); refine box_event ?hg (N := 9) ?hd (cs := (Ag.agC .u64 65 (fun _ => 0))) (t := 27) ?hr ?_; (case hd => rfl); (case hg => rfl); (case hr => first | (go_simp; done) | (go_simp; rfl)); intro gb382 hg w14 hbox hb; have n0_ := Aside0.mk (below_step (by repeat (first | (with_reducible first | exact HB.out | apply below_alloc | apply pw_below_drewN | apply below_drew1) | exact HB.out)) hb); have n1_ := Aside0.mk (hbox); have n2_ := Aside0.mk ((by rw [hg]; exact (below_size (by repeat (first | (with_reducible first | exact HB.out | apply below_alloc | apply pw_below_drewN | apply below_drew1) | exact HB.out))) : w.heap.size ≤ gb382)); have n3_ := Aside0.mk ((by rw [hg]; exact (below_size (by repeat (first | (with_reducible first | exact HB.out | apply below_alloc | apply pw_below_drewN | apply below_drew1) | exact HB.out))) : w.heap.size ≤ gb382)); clear HB; have HB := n0_; have BK382 := n1_; have GW382 := n2_; have GE382 := n3_; clear n0_ n1_ n2_ n3_; clear hb hbox hg; have hfz15_0 := blk_frozen BK382.out 0) | ((with_reducible refine gate_callee (f := 36) rfl ?_); refine goesL_ (some 34) rfl rfl Tryd.func36 (by kernel_rfl) rfl #[.slice A0 l0.length c0, .int .i64 a1, .int .i64 a2, .agg (Ag.agC .u64 65 t381)] rfl (by (try simp only [List.map_toArray, List.map_cons, List.map_nil]); first | done | rfl | (simp only [List.length_drop, List.length_take]; rfl)) ?_; (with_reducible refine (plan_Of.calls kj6 _ _ l0 a1 a2 t381 t383 t386 t389 _ ?side1 ?side2 (HTab_.out.step (by repeat (first | (with_reducible first | exact HB.out | apply below_alloc | apply pw_below_drewN | apply below_drew1 | refine below_set ?_ GE382.out | refine Ag.row_below ?_ GE382.out) | exact HB.out))) A12.out).mono ?_); (case side1 => exact Kd.C_below HR0.out (by repeat (first | (with_reducible first | exact HB.out | apply below_alloc | apply pw_below_drewN | apply below_drew1 | refine below_set ?_ GE382.out | refine Ag.row_below ?_ GE382.out) | exact HB.out))); (case side2 => exact HC0.out); rintro e w16 ⟨v384, v387, v390, rfl, ho0, ho1, ho2, hb⟩; refine ⟨_, rfl, ?_⟩; have n0_ := Aside0.mk (Kd.R_lower ho0 (below_size (by repeat (first | (with_reducible first | exact HB.out | apply below_alloc | apply pw_below_drewN | apply below_drew1 | refine below_set ?_ GE382.out | refine Ag.row_below ?_ GE382.out) | exact HB.out)))); have n1_ := Aside0.mk (Kd.R_lower ho1 (below_size (by repeat (first | (with_reducible first | exact HB.out | apply below_alloc | apply pw_below_drewN | apply below_drew1 | refine below_set ?_ GE382.out | refine Ag.row_below ?_ GE382.out) | exact HB.out)))); have n2_ := Aside0.mk (Kd.R_lower ho2 (below_size (by repeat (first | (with_reducible first | exact HB.out | apply below_alloc | apply pw_below_drewN | apply below_drew1 | refine below_set ?_ GE382.out | refine Ag.row_below ?_ GE382.out) | exact HB.out)))); have n3_ := Aside0.mk (blk_below (g := gb382) (o := .cells (Ag.agC .u64 65 t381) 27 (0, 0)) (by (with_reducible repeat (first | refine blk_drewN ?_ _ | refine blk_drew ?_ | refine blk_alloc ?_ _)); refine Ag.row_put (old := (Ag.agC .u64 65 (fun _ => 0))) ?_; (with_reducible repeat (first | refine blk_drewN ?_ _ | refine blk_drew ?_ | refine blk_alloc ?_ _)); exact BK382.out) hb); have n4_ := Aside0.mk (below_step (by repeat (first | (with_reducible first | exact HB.out | apply below_alloc | apply pw_below_drewN | apply below_drew1 | refine below_set ?_ GE382.out | refine Ag.row_below ?_ GE382.out) | exact HB.out)) hb); clear BK382; clear HB; have HO385 := n0_; have HO388 := n1_; have HO391 := n2_; have BK382 := n3_; have HB := n4_; clear n0_ n1_ n2_ n3_ n4_; (try clear hb); (try clear hb2); (try clear hk); (try clear hi); (try clear ho0); (try clear ho1); (try clear ho2)) | ((with_reducible refine gate_dst (N := 10) rfl ?_); (try (refine gate_guard (by rfl) ?_; dsimp only)); refine box_event ?hg (N := 10) ?hd (cs := #[.slice none 0 0, .slice none 0 0, .slice none 0 0]) (t := 60) ?hr ?_; (case hd => rfl); (case hg => rfl); (case hr => first | (go_simp; done) | (go_simp; rfl)); intro gb392 hg w17 hbox hb; have n0_ := Aside0.mk (Kd.R_below (by (with_reducible repeat (first | apply Kd.R_alloc | apply Kd.R_drewN | apply Kd.R_drew)); exact HO385.out) hb); have n1_ := Aside0.mk (Kd.R_below (by (with_reducible repeat (first | apply Kd.R_alloc | apply Kd.R_drewN | apply Kd.R_drew)); exact HO388.out) hb); have n2_ := Aside0.mk (Kd.R_below (by (with_reducible repeat (first | apply Kd.R_alloc | apply Kd.R_drewN | apply Kd.R_drew)); exact HO391.out) hb); have n3_ := Aside0.mk (blk_below (g := gb382) (o := .cells (Ag.agC .u64 65 t381) 27 (0, 0)) (by (with_reducible repeat (first | refine blk_drewN ?_ _ | refine blk_drew ?_ | refine blk_alloc ?_ _)); exact BK382.out) hb); have n4_ := Aside0.mk (below_step (by repeat (first | (with_reducible first | exact HB.out | apply below_alloc | apply pw_below_drewN | apply below_drew1 | refine below_set ?_ GE382.out | refine Ag.row_below ?_ GE382.out) | exact HB.out)) hb); have n5_ := Aside0.mk (hbox); have n6_ := Aside0.mk ((by rw [hg]; exact (below_size (by repeat (first | (with_reducible first | exact HB.out | apply below_alloc | apply pw_below_drewN | apply below_drew1 | refine below_set ?_ GE382.out | refine Ag.row_below ?_ GE382.out) | exact HB.out))) : w.heap.size ≤ gb392)); have n7_ := Aside0.mk ((by rw [hg]; exact (below_size (by repeat (first | (with_reducible first | exact HB.out | apply below_alloc | apply pw_below_drewN | apply below_drew1 | refine below_set ?_ GE382.out | refine Ag.row_below ?_ GE382.out) | exact HB.out))) : w.heap.size ≤ gb392)); have n8_ := Aside0.mk ((by rw [hg]; exact Nat.ne_of_lt (blk_lt (g := gb382) (o := .cells (Ag.agC .u64 65 t381) 27 (0, 0)) (by (with_reducible repeat (first | refine blk_drewN ?_ _ | refine blk_drew ?_ | refine blk_alloc ?_ _)); exact BK382.out)) : gb382 ≠ gb392)); have n9_ := Aside0.mk ((by rw [hg]; exact Nat.ne_of_gt (blk_lt (g := gb382) (o := .cells (Ag.agC .u64 65 t381) 27 (0, 0)) (by (with_reducible repeat (first | refine blk_drewN ?_ _ | refine blk_drew ?_ | refine blk_alloc ?_ _)); exact BK382.out)) : gb392 ≠ gb382)); clear HO385; clear HO388; clear HO391; clear BK382; clear HB; have HO385 := n0_; have HO388 := n1_; have HO391 := n2_; have BK382 := n3_; have HB := n4_; have BK392 := n5_; have GW392 := n6_; have GE392 := n7_; have NB382_392 := n8_; have NB392_382 := n9_; clear n0_ n1_ n2_ n3_ n4_ n5_ n6_ n7_ n8_ n9_; clear hb hbox hg; obtain ⟨Ao18, co18, eo18⟩ := Kd.R_slice HO385.out; subst eo18; have hnb19 := NB392_382.out; have hnc19 := NB382_392.out; have hcz20_0 : w17.cell? ⟨gb392, 0, none⟩ = some (.slice none 0 0) := (blk_cell BK392.out 0).trans rfl; have hcz20_1 : w17.cell? ⟨gb392, 1, none⟩ = some (.slice none 0 0) := (blk_cell BK392.out 1).trans rfl; have hcz20_2 : w17.cell? ⟨gb392, 2, none⟩ = some (.slice none 0 0) := (blk_cell BK392.out 2).trans rfl; have hfz20_0 := blk_frozen BK392.out 0; have hfz20_1 := blk_frozen BK392.out 1; have hfz20_2 := blk_frozen BK392.out 2; obtain ⟨Ao21, co21, eo21⟩ := Kd.R_slice HO388.out; subst eo21; obtain ⟨Ao22, co22, eo22⟩ := Kd.R_slice HO391.out; subst eo22; have hfz23_0 := blk_frozen BK382.out 0) | ((with_reducible refine gate_dst (N := 11) rfl ?_); (try (refine gate_guard (by rfl) ?_; dsimp only)); refine box_event ?hg (N := 11) ?hd (cs := (Ag.agC .u64 65 (fun _ => 0))) (t := 27) ?hr ?_; (case hd => rfl); (case hg => rfl); (case hr => first | (go_simp; done) | (go_simp; rfl)); intro gb393 hg w24 hbox hb; have n0_ := Aside0.mk (Kd.R_below (by (with_reducible repeat (first | apply Kd.R_alloc | apply Kd.R_drewN | apply Kd.R_drew)); exact (Kd.R_mono (Kd.R_far (p := ⟨gb392, 2, none⟩) (Kd.R_far (p := ⟨gb392, 1, none⟩) (Kd.R_far (p := ⟨gb392, 0, none⟩) (Kd.R_types HO385.out BK392.out (by decide)) (fun _ hk => hk.2) (.slice Ao18 t383.length co18)) (fun _ hk => hk.2) (.slice Ao21 t386.length co21)) (fun _ hk => hk.2) (.slice Ao22 t389.length co22)) (fun _ h_ => h_.1))) hb); have n1_ := Aside0.mk (Kd.R_below (by (with_reducible repeat (first | apply Kd.R_alloc | apply Kd.R_drewN | apply Kd.R_drew)); exact (Kd.R_mono (Kd.R_far (p := ⟨gb392, 2, none⟩) (Kd.R_far (p := ⟨gb392, 1, none⟩) (Kd.R_far (p := ⟨gb392, 0, none⟩) (Kd.R_types HO388.out BK392.out (by decide)) (fun _ hk => hk.2) (.slice Ao18 t383.length co18)) (fun _ hk => hk.2) (.slice Ao21 t386.length co21)) (fun _ hk => hk.2) (.slice Ao22 t389.length co22)) (fun _ h_ => h_.1))) hb); have n2_ := Aside0.mk (Kd.R_below (by (with_reducible repeat (first | apply Kd.R_alloc | apply Kd.R_drewN | apply Kd.R_drew)); exact (Kd.R_mono (Kd.R_far (p := ⟨gb392, 2, none⟩) (Kd.R_far (p := ⟨gb392, 1, none⟩) (Kd.R_far (p := ⟨gb392, 0, none⟩) (Kd.R_types HO391.out BK392.out (by decide)) (fun _ hk => hk.2) (.slice Ao18 t383.length co18)) (fun _ hk => hk.2) (.slice Ao21 t386.length co21)) (fun _ hk => hk.2) (.slice Ao22 t389.length co22)) (fun _ h_ => h_.1))) hb); have n3_ := Aside0.mk (blk_below (g := gb382) (o := .cells (Ag.agC .u64 65 t381) 27 (0, 0)) (by (with_reducible repeat (first | refine blk_drewN ?_ _ | refine blk_drew ?_ | refine blk_alloc ?_ _)); (first | (with_reducible refine Ag.row_far ?_ NB382_392.out _) | refine blk_far ?_ NB382_392.out _); (with_reducible repeat (first | refine blk_drewN ?_ _ | refine blk_drew ?_ | refine blk_alloc ?_ _)); (first | (with_reducible refine Ag.row_far ?_ NB382_392.out _) | refine blk_far ?_ NB382_392.out _); (with_reducible repeat (first | refine blk_drewN ?_ _ | refine blk_drew ?_ | refine blk_alloc ?_ _)); (first | (with_reducible refine Ag.row_far ?_ NB382_392.out _) | refine blk_far ?_ NB382_392.out _); (with_reducible repeat (first | refine blk_drewN ?_ _ | refine blk_drew ?_ | refine blk_alloc ?_ _)); exact BK382.out) hb); have n4_ := Aside0.mk (blk_below (g := gb392) (o := .cells #[.slice Ao18 t383.length co18, .slice Ao21 t386.length co21, .slice Ao22 t389.length co22] 60 (0, 0)) (by (with_reducible repeat (first | refine blk_drewN ?_ _ | refine blk_drew ?_ | refine blk_alloc ?_ _)); refine blk_put (cs := #[.slice Ao18 t383.length co18, .slice Ao21 t386.length co21, .slice none 0 0]) ?_ 2 _ rfl; (with_reducible repeat (first | refine blk_drewN ?_ _ | refine blk_drew ?_ | refine blk_alloc ?_ _)); refine blk_put (cs := #[.slice Ao18 t383.length co18, .slice none 0 0, .slice none 0 0]) ?_ 1 _ rfl; (with_reducible repeat (first | refine blk_drewN ?_ _ | refine blk_drew ?_ | refine blk_alloc ?_ _)); refine blk_put (cs := #[.slice none 0 0, .slice none 0 0, .slice none 0 0]) ?_ 0 _ rfl; (with_reducible repeat (first | refine blk_drewN ?_ _ | refine blk_drew ?_ | refine blk_alloc ?_ _)); exact BK392.out) hb); have n5_ := Aside0.mk (below_step (by repeat (first | (with_reducible first | exact HB.out | apply below_alloc | apply pw_below_drewN | apply below_drew1 | refine below_set ?_ GE382.out | refine Ag.row_below ?_ GE382.out | refine below_set ?_ GE392.out | refine Ag.row_below ?_ GE392.out) | exact HB.out)) hb); have n6_ := Aside0.mk (hbox); have n7_ := Aside0.mk ((by rw [hg]; exact (below_size (by repeat (first | (with_reducible first | exact HB.out | apply below_alloc | apply pw_below_drewN | apply below_drew1 | refine below_set ?_ GE382.out | refine Ag.row_below ?_ GE382.out | refine below_set ?_ GE392.out | refine Ag.row_below ?_ GE392.out) | exact HB.out))) : w.heap.size ≤ gb393)); have n8_ := Aside0.mk ((by rw [hg]; exact (below_size (by repeat (first | (with_reducible first | exact HB.out | apply below_alloc | apply pw_below_drewN | apply below_drew1 | refine below_set ?_ GE382.out | refine Ag.row_below ?_ GE382.out | refine below_set ?_ GE392.out | refine Ag.row_below ?_ GE392.out) | exact HB.out))) : w.heap.size ≤ gb393)); have n9_ := Aside0.mk ((by rw [hg]; exact Nat.ne_of_lt (blk_lt (g := gb382) (o := .cells (Ag.agC .u64 65 t381) 27 (0, 0)) (by (with_reducible repeat (first | refine blk_drewN ?_ _ | refine blk_drew ?_ | refine blk_alloc ?_ _)); (first | (with_reducible refine Ag.row_far ?_ NB382_392.out _) | refine blk_far ?_ NB382_392.out _); (with_reducible repeat (first | refine blk_drewN ?_ _ | refine blk_drew ?_ | refine blk_alloc ?_ _)); (first | (with_reducible refine Ag.row_far ?_ NB382_392.out _) | refine blk_far ?_ NB382_392.out _); (with_reducible repeat (first | refine blk_drewN ?_ _ | refine blk_drew ?_ | refine blk_alloc ?_ _)); (first | (with_reducible refine Ag.row_far ?_ NB382_392.out _) | refine blk_far ?_ NB382_392.out _); (with_reducible repeat (first | refine blk_drewN ?_ _ | refine blk_drew ?_ | refine blk_alloc ?_ _)); exact BK382.out)) : gb382 ≠ gb393)); have n10_ := Aside0.mk ((by rw [hg]; exact Nat.ne_of_gt (blk_lt (g := gb382) (o := .cells (Ag.agC .u64 65 t381) 27 (0, 0)) (by (with_reducible repeat (first | refine blk_drewN ?_ _ | refine blk_drew ?_ | refine blk_alloc ?_ _)); (first | (with_reducible refine Ag.row_far ?_ NB382_392.out _) | refine blk_far ?_ NB382_392.out _); (with_reducible repeat (first | refine blk_drewN ?_ _ | refine blk_drew ?_ | refine blk_alloc ?_ _)); (first | (with_reducible refine Ag.row_far ?_ NB382_392.out _) | refine blk_far ?_ NB382_392.out _); (with_reducible repeat (first | refine blk_drewN ?_ _ | refine blk_drew ?_ | refine blk_alloc ?_ _)); (first | (with_reducible refine Ag.row_far ?_ NB382_392.out _) | refine blk_far ?_ NB382_392.out _); (with_reducible repeat (first | refine blk_drewN ?_ _ | refine blk_drew ?_ | refine blk_alloc ?_ _)); exact BK382.out)) : gb393 ≠ gb382)); have n11_ := Aside0.mk ((by rw [hg]; exact Nat.ne_of_lt (blk_lt (g := gb392) (o := .cells #[.slice Ao18 t383.length co18, .slice Ao21 t386.length co21, .slice Ao22 t389.length co22] 60 (0, 0)) (by (with_reducible repeat (first | refine blk_drewN ?_ _ | refine blk_drew ?_ | refine blk_alloc ?_ _)); refine blk_put (cs := #[.slice Ao18 t383.length co18, .slice Ao21 t386.length co21, .slice none 0 0]) ?_ 2 _ rfl; (with_reducible repeat (first | refine blk_drewN ?_ _ | refine blk_drew ?_ | refine blk_alloc ?_ _)); refine blk_put (cs := #[.slice Ao18 t383.length co18, .slice none 0 0, .slice none 0 0]) ?_ 1 _ rfl; (with_reducible repeat (first | refine blk_drewN ?_ _ | refine blk_drew ?_ | refine blk_alloc ?_ _)); refine blk_put (cs := #[.slice none 0 0, .slice none 0 0, .slice none 0 0]) ?_ 0 _ rfl; (with_reducible repeat (first | refine blk_drewN ?_ _ | refine blk_drew ?_ | refine blk_alloc ?_ _)); exact BK392.out)) : gb392 ≠ gb393)); have n12_ := Aside0.mk ((by rw [hg]; exact Nat.ne_of_gt (blk_lt (g := gb392) (o := .cells #[.slice Ao18 t383.length co18, .slice Ao21 t386.length co21, .slice Ao22 t389.length co22] 60 (0, 0)) (by (with_reducible repeat (first | refine blk_drewN ?_ _ | refine blk_drew ?_ | refine blk_alloc ?_ _)); refine blk_put (cs := #[.slice Ao18 t383.length co18, .slice Ao21 t386.length co21, .slice none 0 0]) ?_ 2 _ rfl; (with_reducible repeat (first | refine blk_drewN ?_ _ | refine blk_drew ?_ | refine blk_alloc ?_ _)); refine blk_put (cs := #[.slice Ao18 t383.length co18, .slice none 0 0, .slice none 0 0]) ?_ 1 _ rfl; (with_reducible repeat (first | refine blk_drewN ?_ _ | refine blk_drew ?_ | refine blk_alloc ?_ _)); refine blk_put (cs := #[.slice none 0 0, .slice none 0 0, .slice none 0 0]) ?_ 0 _ rfl; (with_reducible repeat (first | refine blk_drewN ?_ _ | refine blk_drew ?_ | refine blk_alloc ?_ _)); exact BK392.out)) : gb393 ≠ gb392)); clear HO385; clear HO388; clear HO391; clear BK382; clear BK392; clear HB; have HO385 := n0_; have HO388 := n1_; have HO391 := n2_; have BK382 := n3_; have BK392 := n4_; have HB := n5_; have BK393 := n6_; have GW393 := n7_; have GE393 := n8_; have NB382_393 := n9_; have NB393_382 := n10_; have NB392_393 := n11_; have NB393_392 := n12_; clear n0_ n1_ n2_ n3_ n4_ n5_ n6_ n7_ n8_ n9_ n10_ n11_ n12_; clear hb hbox hg; have hnb25 := NB393_382.out; have hnc25 := NB382_393.out; have hnb26 := NB393_392.out; have hnc26 := NB392_393.out; have hfz27_0 := blk_frozen BK393.out 0; have hcz28_0 : w24.cell? ⟨gb392, 0, none⟩ = some (.slice Ao18 t383.length co18) := (blk_cell BK392.out 0).trans rfl; have hcz28_1 : w24.cell? ⟨gb392, 1, none⟩ = some (.slice Ao21 t386.length co21) := (blk_cell BK392.out 1).trans rfl; have hcz28_2 : w24.cell? ⟨gb392, 2, none⟩ = some (.slice Ao22 t389.length co22) := (blk_cell BK392.out 2).trans rfl; have hfz28_0 := blk_frozen BK392.out 0; have hfz28_1 := blk_frozen BK392.out 1; have hfz28_2 := blk_frozen BK392.out 2; have hsr_2 : ∀ cs, (w24.setRow gb393 cs).cell? ⟨gb392, 2, none⟩ = some (.slice Ao22 t389.length co22) := fun cs => (Ag.cell_setRow NB392_393.out).trans ((blk_cell BK392.out 2).trans rfl)))
          go_loopg [12, 39] kj6 (fun kq v12 v39 w' => ∃ (x12_2 : Int) (x39_2 : Int) (x394000_2 : (Nat → Int)), v12 = .int .i64 x12_2 ∧ v39 = .int .i64 x39_2 ∧ Aside0 (spencelaw28_PlanOnce.l0 kq a1 a2 x12_2 t389 (t389.length : Int) x39_2 t383 t386 t389 x394000_2 = some r) ∧ Aside0 (kq ≤ kj6) ∧ Aside0 (Kd.R k50 50 w' w.heap.size (fun k_ => some k_ ≠ ((.slice Ao21 t386.length co21) : Value).ownBlock) (.slice Ao22 t389.length co22) t389) ∧ Aside0 (Kd.R (Kd.int .i64) 3 w' w.heap.size (fun _ => True) (.slice Ao18 t383.length co18) t383) ∧ Aside0 (Kd.R k50 50 w' w.heap.size (fun k_ => some k_ ≠ ((.slice Ao22 t389.length co22) : Value).ownBlock ∧ some k_ ≠ ((.slice Ao22 t389.length co22) : Value).ownBlock) (.slice Ao21 t386.length co21) t386) ∧ Aside0 (Kd.R k50 50 w' w.heap.size (fun k_ => some k_ ≠ ((.slice Ao21 t386.length co21) : Value).ownBlock) (.slice Ao22 t389.length co22) t389) ∧ Aside0 (w'.heap[gb382]? = some (.cells (Ag.agC .u64 65 t381) 27 (0, 0))) ∧ Aside0 (w'.heap[gb392]? = some (.cells #[(.slice Ao18 t383.length co18), (.slice Ao21 t386.length co21), (.slice Ao22 t389.length co22)] 60 (0, 0))) ∧ Aside0 (w'.heap[gb393]? = some (.cells (Ag.agC .u64 65 x394000_2) 27 (0, 0))) ∧ Aside0 (Below w.heap.size w w'))
          case atStart => exact ⟨((-1)), (0), (t381), (by first | rfl | (simp; done) | (simp [*]; done)), (by first | rfl | (simp; done) | (simp [*]; done)), H', ⟨Nat.le_refl _⟩, ⟨by (with_reducible repeat (first | apply Kd.R_alloc | apply Kd.R_drewN | apply Kd.R_drew)); exact Kd.R_mono (Ag.R_row (g := gb393) (Kd.R_types HO391.out BK393.out (by decide)) (fun _ hk => hk.2) (Ag.agC .u64 65 t381)) (fun _ hk => hk.1)⟩, ⟨by (with_reducible repeat (first | apply Kd.R_alloc | apply Kd.R_drewN | apply Kd.R_drew)); exact Kd.R_mono (Ag.R_row (g := gb393) (Kd.R_types HO385.out BK393.out (by decide)) (fun _ hk => hk.2) (Ag.agC .u64 65 t381)) (fun _ hk => trivial)⟩, ⟨by (with_reducible repeat (first | apply Kd.R_alloc | apply Kd.R_drewN | apply Kd.R_drew)); exact Kd.R_mono (Ag.R_row (g := gb393) (Kd.R_types HO388.out BK393.out (by decide)) (fun _ hk => hk.2) (Ag.agC .u64 65 t381)) (fun _ hk => ⟨hk.1, hk.1⟩)⟩, ⟨by (with_reducible repeat (first | apply Kd.R_alloc | apply Kd.R_drewN | apply Kd.R_drew)); exact Kd.R_mono (Ag.R_row (g := gb393) (Kd.R_types HO391.out BK393.out (by decide)) (fun _ hk => hk.2) (Ag.agC .u64 65 t381)) (fun _ hk => hk.1)⟩, ⟨by (with_reducible repeat (first | refine blk_drewN ?_ _ | refine blk_drew ?_ | refine blk_alloc ?_ _)); (first | (with_reducible refine Ag.row_far ?_ NB382_393.out _) | refine blk_far ?_ NB382_393.out _); (with_reducible repeat (first | refine blk_drewN ?_ _ | refine blk_drew ?_ | refine blk_alloc ?_ _)); exact BK382.out⟩, ⟨by (with_reducible repeat (first | refine blk_drewN ?_ _ | refine blk_drew ?_ | refine blk_alloc ?_ _)); (first | (with_reducible refine Ag.row_far ?_ NB392_393.out _) | refine blk_far ?_ NB392_393.out _); (with_reducible repeat (first | refine blk_drewN ?_ _ | refine blk_drew ?_ | refine blk_alloc ?_ _)); exact BK392.out⟩, ⟨by (with_reducible repeat (first | refine blk_drewN ?_ _ | refine blk_drew ?_ | refine blk_alloc ?_ _)); refine Ag.row_put (old := (Ag.agC .u64 65 (fun _ => 0))) ?_; (with_reducible repeat (first | refine blk_drewN ?_ _ | refine blk_drew ?_ | refine blk_alloc ?_ _)); exact BK393.out⟩, ⟨by repeat (first | (with_reducible first | exact HB.out | apply below_alloc | apply pw_below_drewN | apply below_drew1 | refine below_set ?_ GE382.out | refine Ag.row_below ?_ GE382.out | refine below_set ?_ GE392.out | refine Ag.row_below ?_ GE392.out | refine below_set ?_ GE393.out | refine Ag.row_below ?_ GE393.out) | exact HB.out)⟩⟩
          case round =>
            clear H'
            try clear c1
            try clear c2
            try clear p2
            try clear c3
            try clear c6
            try clear c7
            try clear c9
            try clear c9b0
            try clear c9b1
            try clear c10
            try clear c19
            try clear c25
            try clear c26
            try clear hcz15_0
            try clear hcz20_0
            try clear hcz20_1
            try clear hcz20_2
            try clear hcz23_0
            try clear hcz27_0
            try clear hcz28_0
            try clear hcz28_1
            try clear hcz28_2
            try clear hfz15_0
            try clear hfz20_0
            try clear hfz20_1
            try clear hfz20_2
            try clear hfz23_0
            try clear hfz27_0
            try clear hfz28_0
            try clear hfz28_1
            try clear hfz28_2
            try clear p2
            obtain ⟨x12_2, x39_2, x394000_2, rfl, rfl, HA, HK2, HO_37, HO_393000, HO_393001, HO_393002, BK382, BK392, BK393, HB⟩ := hrel
            cases gk with
            | zero => exact absurd HA.out (by simp [spencelaw28_PlanOnce.l0])
            | succ k2 =>
              have H := HA.out
              clear HA
              simp only [spencelaw28_PlanOnce.l0] at H
              by_cases c29 : x39_2 < (t389.length : Int)
              · rw [if_pos c29] at H
                have c29b0 : decide (x39_2 < (t389.length : Int)) = true := decide_eq_true c29
                clear c29
                by_cases c30 : 0 ≤ x39_2
                · rw [if_pos c30] at H
                  have c30b0 : decide (0 ≤ x39_2) = true := decide_eq_true c30
                  clear c30
                  by_cases c31 : x39_2 < (t389.length : Int)
                  · rw [if_pos c31] at H
                    have c31b0 : decide (x39_2 < (t389.length : Int)) = true := decide_eq_true c31
                    clear c31
                    have HC32 := Aside0.mk H
                    clear H
                    have p395 : 0 ≤ (x39_2 : Int) := of_decide_eq_true (by first | (with_reducible assumption) | assumption)
                    have q395 : x39_2 < (t389.length : Int) := of_decide_eq_true (by first | (with_reducible assumption) | assumption)
                    obtain ⟨ad395, e395, hx395_0, hx395_1, hx395_2⟩ := at_T50 (Kd.R_reads' HO_37.out).2.2 x39_2 p395 q395
                    cases e395
                    replace p395 := eq_true p395
                    replace q395 := eq_true q395
                    go_upto_region 12 with (first | ((with_reducible refine gate_dst (N := 14) rfl ?_); (try (refine gate_guard (by rfl) ?_; dsimp only)); refine box_event ?hg (N := 14) ?hd (cs := #[.int .i64 0, .int .i64 0, .bool false]) (t := 50) ?hr ?_; (case hd => rfl); (case hg => rfl); (case hr => first | (go_simp; done) | (go_simp; rfl)); intro gb396 hg w33 hbox hb; have n0_ := Aside0.mk (Kd.R_below (Kd.R_elderB (by (with_reducible repeat (first | apply Kd.R_alloc | apply Kd.R_drewN | apply Kd.R_drew)); exact HO_37.out) gb396 (Nat.le_of_eq hg.symm)) hb); have n1_ := Aside0.mk (Kd.R_below (by (with_reducible repeat (first | apply Kd.R_alloc | apply Kd.R_drewN | apply Kd.R_drew)); exact HO_393000.out) hb); have n2_ := Aside0.mk (Kd.R_below (Kd.R_elderB (by (with_reducible repeat (first | apply Kd.R_alloc | apply Kd.R_drewN | apply Kd.R_drew)); exact HO_393001.out) gb396 (Nat.le_of_eq hg.symm)) hb); have n3_ := Aside0.mk (Kd.R_below (Kd.R_elderB (by (with_reducible repeat (first | apply Kd.R_alloc | apply Kd.R_drewN | apply Kd.R_drew)); exact HO_393002.out) gb396 (Nat.le_of_eq hg.symm)) hb); have n4_ := Aside0.mk (blk_below (g := gb382) (o := .cells (Ag.agC .u64 65 t381) 27 (0, 0)) (by (with_reducible repeat (first | refine blk_drewN ?_ _ | refine blk_drew ?_ | refine blk_alloc ?_ _)); exact BK382.out) hb); have n5_ := Aside0.mk (blk_below (g := gb392) (o := .cells #[.slice Ao18 t383.length co18, .slice Ao21 t386.length co21, .slice (some ad395) t389.length co22] 60 (0, 0)) (by (with_reducible repeat (first | refine blk_drewN ?_ _ | refine blk_drew ?_ | refine blk_alloc ?_ _)); exact BK392.out) hb); have n6_ := Aside0.mk (blk_below (g := gb393) (o := .cells (Ag.agC .u64 65 x394000_2) 27 (0, 0)) (by (with_reducible repeat (first | refine blk_drewN ?_ _ | refine blk_drew ?_ | refine blk_alloc ?_ _)); exact BK393.out) hb); have n7_ := Aside0.mk (below_step (by repeat (first | (with_reducible first | exact HB.out | apply below_alloc | apply pw_below_drewN | apply below_drew1 | refine below_set ?_ GE382.out | refine Ag.row_below ?_ GE382.out | refine below_set ?_ GE392.out | refine Ag.row_below ?_ GE392.out | refine below_set ?_ GE393.out | refine Ag.row_below ?_ GE393.out) | exact HB.out)) hb); have n8_ := Aside0.mk (hbox); have n9_ := Aside0.mk ((by rw [hg]; exact (below_size (by repeat (first | (with_reducible first | exact HB.out | apply below_alloc | apply pw_below_drewN | apply below_drew1 | refine below_set ?_ GE382.out | refine Ag.row_below ?_ GE382.out | refine below_set ?_ GE392.out | refine Ag.row_below ?_ GE392.out | refine below_set ?_ GE393.out | refine Ag.row_below ?_ GE393.out) | exact HB.out))) : w.heap.size ≤ gb396)); have n10_ := Aside0.mk ((by rw [hg]; exact (below_size (by repeat (first | (with_reducible first | exact HB.out | apply below_alloc | apply pw_below_drewN | apply below_drew1 | refine below_set ?_ GE382.out | refine Ag.row_below ?_ GE382.out | refine below_set ?_ GE392.out | refine Ag.row_below ?_ GE392.out | refine below_set ?_ GE393.out | refine Ag.row_below ?_ GE393.out) | exact HB.out))) : w.heap.size ≤ gb396)); have n11_ := Aside0.mk ((by rw [hg]; exact Nat.ne_of_lt (blk_lt (g := gb382) (o := .cells (Ag.agC .u64 65 t381) 27 (0, 0)) (by (with_reducible repeat (first | refine blk_drewN ?_ _ | refine blk_drew ?_ | refine blk_alloc ?_ _)); exact BK382.out)) : gb382 ≠ gb396)); have n12_ := Aside0.mk ((by rw [hg]; exact Nat.ne_of_gt (blk_lt (g := gb382) (o := .cells (Ag.agC .u64 65 t381) 27 (0, 0)) (by (with_reducible repeat (first | refine blk_drewN ?_ _ | refine blk_drew ?_ | refine blk_alloc ?_ _)); exact BK382.out)) : gb396 ≠ gb382)); have n13_ := Aside0.mk ((by rw [hg]; exact Nat.ne_of_lt (blk_lt (g := gb392) (o := .cells #[.slice Ao18 t383.length co18, .slice Ao21 t386.length co21, .slice (some ad395) t389.length co22] 60 (0, 0)) (by (with_reducible repeat (first | refine blk_drewN ?_ _ | refine blk_drew ?_ | refine blk_alloc ?_ _)); exact BK392.out)) : gb392 ≠ gb396)); have n14_ := Aside0.mk ((by rw [hg]; exact Nat.ne_of_gt (blk_lt (g := gb392) (o := .cells #[.slice Ao18 t383.length co18, .slice Ao21 t386.length co21, .slice (some ad395) t389.length co22] 60 (0, 0)) (by (with_reducible repeat (first | refine blk_drewN ?_ _ | refine blk_drew ?_ | refine blk_alloc ?_ _)); exact BK392.out)) : gb396 ≠ gb392)); have n15_ := Aside0.mk ((by rw [hg]; exact Nat.ne_of_lt (blk_lt (g := gb393) (o := .cells (Ag.agC .u64 65 x394000_2) 27 (0, 0)) (by (with_reducible repeat (first | refine blk_drewN ?_ _ | refine blk_drew ?_ | refine blk_alloc ?_ _)); exact BK393.out)) : gb393 ≠ gb396)); have n16_ := Aside0.mk ((by rw [hg]; exact Nat.ne_of_gt (blk_lt (g := gb393) (o := .cells (Ag.agC .u64 65 x394000_2) 27 (0, 0)) (by (with_reducible repeat (first | refine blk_drewN ?_ _ | refine blk_drew ?_ | refine blk_alloc ?_ _)); exact BK393.out)) : gb396 ≠ gb393)); clear HO_37; clear HO_393000; clear HO_393001; clear HO_393002; clear BK382; clear BK392; clear BK393; clear HB; have HO_37 := n0_; have HO_393000 := n1_; have HO_393001 := n2_; have HO_393002 := n3_; have BK382 := n4_; have BK392 := n5_; have BK393 := n6_; have HB := n7_; have BK396 := n8_; have GW396 := n9_; have GE396 := n10_; have NB382_396 := n11_; have NB396_382 := n12_; have NB392_396 := n13_; have NB396_392 := n14_; have NB393_396 := n15_; have NB396_393 := n16_; clear n0_ n1_ n2_ n3_ n4_ n5_ n6_ n7_ n8_ n9_ n10_ n11_ n12_ n13_ n14_ n15_ n16_; clear hb hbox hg; have hnb34 := NB396_382.out; have hnc34 := NB382_396.out; have hnb35 := NB396_392.out; have hnc35 := NB392_396.out; have hnb36 := NB396_393.out; have hnc36 := NB393_396.out; have hcz37_0 : w33.cell? ⟨gb396, 0, none⟩ = some (.int .i64 0) := (blk_cell BK396.out 0).trans rfl; have hcz37_1 : w33.cell? ⟨gb396, 1, none⟩ = some (.int .i64 0) := (blk_cell BK396.out 1).trans rfl; have hcz37_2 : w33.cell? ⟨gb396, 2, none⟩ = some (.bool false) := (blk_cell BK396.out 2).trans rfl; have hfz37_0 := blk_frozen BK396.out 0; have hfz37_1 := blk_frozen BK396.out 1; have hfz37_2 := blk_frozen BK396.out 2))
                    (try simp only [Act.put, List.setIfInBounds_toArray, List.set_cons_zero, List.set_cons_succ])
                    go_cut [70] (fun v70 wc => ∃ (kq : Nat) (x70_31 : Bool), v70 = .bool x70_31 ∧ Aside0 (spencelaw28_PlanOnce.j2 kq a1 a2 t389 (t389.length : Int) x39_2 x70_31 t383 t386 t389 x394000_2 ((rd_T50 t389 x39_2).f0) ((rd_T50 t389 x39_2).f1) ((rd_T50 t389 x39_2).f2) = some r) ∧ Aside0 (kq ≤ k2) ∧ Aside0 (Kd.R k50 50 wc w.heap.size (fun k_ => some k_ ≠ ((.slice Ao21 t386.length co21) : Value).ownBlock ∧ k_ ≠ gb396) (.slice (some ad395) t389.length co22) t389) ∧ Aside0 (Kd.R (Kd.int .i64) 3 wc w.heap.size (fun _ => True) (.slice Ao18 t383.length co18) t383) ∧ Aside0 (Kd.R k50 50 wc w.heap.size (fun k_ => some k_ ≠ ((.slice (some ad395) t389.length co22) : Value).ownBlock ∧ some k_ ≠ ((.slice (some ad395) t389.length co22) : Value).ownBlock ∧ k_ ≠ gb396) (.slice Ao21 t386.length co21) t386) ∧ Aside0 (Kd.R k50 50 wc w.heap.size (fun k_ => some k_ ≠ ((.slice Ao21 t386.length co21) : Value).ownBlock ∧ k_ ≠ gb396) (.slice (some ad395) t389.length co22) t389) ∧ Aside0 (wc.heap[gb382]? = some (.cells (Ag.agC .u64 65 t381) 27 (0, 0))) ∧ Aside0 (wc.heap[gb392]? = some (.cells #[(.slice Ao18 t383.length co18), (.slice Ao21 t386.length co21), (.slice (some ad395) t389.length co22)] 60 (0, 0))) ∧ Aside0 (wc.heap[gb393]? = some (.cells (Ag.agC .u64 65 x394000_2) 27 (0, 0))) ∧ Aside0 (wc.heap[gb396]? = some (.cells #[.int .i64 ((rd_T50 t389 x39_2).f0), .int .i64 ((rd_T50 t389 x39_2).f1), .bool ((rd_T50 t389 x39_2).f2)] 50 (0, 0))) ∧ Aside0 (Below w.heap.size w wc))
                    case first =>
                      have H := HC32.out
                      clear HC32
                      obtain ⟨bq38, hbq38⟩ : ∃ b_ : Bool, b_ = ((rd_T50 t389 x39_2).f2) := ⟨_, rfl⟩
                      replace H : (if bq38 = true then (spencelaw28_PlanOnce.j2 k2 a1 a2 t389 (t389.length : Int) x39_2 true t383 t386 t389 x394000_2 ((rd_T50 t389 x39_2).f0) ((rd_T50 t389 x39_2).f1) bq38) else (if ((rd_T50 t389 x39_2).f0) < x12_2 then (spencelaw28_PlanOnce.j2 k2 a1 a2 t389 (t389.length : Int) x39_2 true t383 t386 t389 x394000_2 ((rd_T50 t389 x39_2).f0) ((rd_T50 t389 x39_2).f1) bq38) else (if (wrap64 (((rd_T50 t389 x39_2).f1) - ((rd_T50 t389 x39_2).f0))) > 8 then (spencelaw28_PlanOnce.j2 k2 a1 a2 t389 (t389.length : Int) x39_2 true t383 t386 t389 x394000_2 ((rd_T50 t389 x39_2).f0) ((rd_T50 t389 x39_2).f1) bq38) else (if ((rd_T50 t389 x39_2).f1) > 4097 then (spencelaw28_PlanOnce.j2 k2 a1 a2 t389 (t389.length : Int) x39_2 true t383 t386 t389 x394000_2 ((rd_T50 t389 x39_2).f0) ((rd_T50 t389 x39_2).f1) bq38) else (spencelaw28_PlanOnce.j2 k2 a1 a2 t389 (t389.length : Int) x39_2 (decide (((rd_T50 t389 x39_2).f0) ≥ ((rd_T50 t389 x39_2).f1))) t383 t386 t389 x394000_2 ((rd_T50 t389 x39_2).f0) ((rd_T50 t389 x39_2).f1) bq38))))) = some r := by rw [← hbq38] at H; exact H
                      have Nbq38 := Aside0.mk hbq38
                      clear hbq38
                      (try rw [← Nbq38.out])
                      by_cases c39 : bq38 = true
                      · subst c39
                        have H1 : (spencelaw28_PlanOnce.j2 k2 a1 a2 t389 (t389.length : Int) x39_2 true t383 t386 t389 x394000_2 ((rd_T50 t389 x39_2).f0) ((rd_T50 t389 x39_2).f1) true) = some r := by rw [if_pos rfl] at H; exact H
                        clear H
                        have H := H1
                        clear H1
                        have H' := Aside0.mk H
                        clear H
                        have hnb40 := NB396_382.out
                        have hnc40 := NB382_396.out
                        have hnb41 := NB396_392.out
                        have hnc41 := NB392_396.out
                        have hnb42 := NB396_393.out
                        have hnc42 := NB393_396.out
                        have hcz43_0 : w33.cell? ⟨gb396, 0, none⟩ = some (.int .i64 0) := (blk_cell BK396.out 0).trans rfl
                        have hcz43_1 : w33.cell? ⟨gb396, 1, none⟩ = some (.int .i64 0) := (blk_cell BK396.out 1).trans rfl
                        have hcz43_2 : w33.cell? ⟨gb396, 2, none⟩ = some (.bool false) := (blk_cell BK396.out 2).trans rfl
                        have hfz43_0 := blk_frozen BK396.out 0
                        have hfz43_1 := blk_frozen BK396.out 1
                        have hfz43_2 := blk_frozen BK396.out 2
                        exact absurd H'.out (by rw [HRT_.out]; cases k2 <;> simp [spencelaw28_PlanOnce.j2])
                      · replace c39 := Bool.eq_false_iff.mpr c39
                        subst c39
                        have H1 : (if ((rd_T50 t389 x39_2).f0) < x12_2 then (spencelaw28_PlanOnce.j2 k2 a1 a2 t389 (t389.length : Int) x39_2 true t383 t386 t389 x394000_2 ((rd_T50 t389 x39_2).f0) ((rd_T50 t389 x39_2).f1) false) else (if (wrap64 (((rd_T50 t389 x39_2).f1) - ((rd_T50 t389 x39_2).f0))) > 8 then (spencelaw28_PlanOnce.j2 k2 a1 a2 t389 (t389.length : Int) x39_2 true t383 t386 t389 x394000_2 ((rd_T50 t389 x39_2).f0) ((rd_T50 t389 x39_2).f1) false) else (if ((rd_T50 t389 x39_2).f1) > 4097 then (spencelaw28_PlanOnce.j2 k2 a1 a2 t389 (t389.length : Int) x39_2 true t383 t386 t389 x394000_2 ((rd_T50 t389 x39_2).f0) ((rd_T50 t389 x39_2).f1) false) else (spencelaw28_PlanOnce.j2 k2 a1 a2 t389 (t389.length : Int) x39_2 (decide (((rd_T50 t389 x39_2).f0) ≥ ((rd_T50 t389 x39_2).f1))) t383 t386 t389 x394000_2 ((rd_T50 t389 x39_2).f0) ((rd_T50 t389 x39_2).f1) false)))) = some r := by rw [if_neg (show ¬ (false = true) by decide)] at H; exact H
                        clear H
                        have H := H1
                        clear H1
                        by_cases c44 : ((rd_T50 t389 x39_2).f0) < x12_2
                        · rw [if_pos c44] at H
                          have c44b0 : decide (((rd_T50 t389 x39_2).f0) < x12_2) = true := decide_eq_true c44
                          clear c44
                          have H' := Aside0.mk H
                          clear H
                          have hnb45 := NB396_382.out
                          have hnc45 := NB382_396.out
                          have hnb46 := NB396_392.out
                          have hnc46 := NB392_396.out
                          have hnb47 := NB396_393.out
                          have hnc47 := NB393_396.out
                          have hcz48_0 : w33.cell? ⟨gb396, 0, none⟩ = some (.int .i64 0) := (blk_cell BK396.out 0).trans rfl
                          have hcz48_1 : w33.cell? ⟨gb396, 1, none⟩ = some (.int .i64 0) := (blk_cell BK396.out 1).trans rfl
                          have hcz48_2 : w33.cell? ⟨gb396, 2, none⟩ = some (.bool false) := (blk_cell BK396.out 2).trans rfl
                          have hfz48_0 := blk_frozen BK396.out 0
                          have hfz48_1 := blk_frozen BK396.out 1
                          have hfz48_2 := blk_frozen BK396.out 2
                          exact absurd H'.out (by rw [HRT_.out]; cases k2 <;> simp [spencelaw28_PlanOnce.j2])
                        · rw [if_neg c44] at H
                          have c44b0 : decide (((rd_T50 t389 x39_2).f0) < x12_2) = false := decide_eq_false c44
                          clear c44
                          by_cases c49 : (wrap64 (((rd_T50 t389 x39_2).f1) - ((rd_T50 t389 x39_2).f0))) > 8
                          · rw [if_pos c49] at H
                            have c49b0 : decide (8 < (wrap64 (((rd_T50 t389 x39_2).f1) - ((rd_T50 t389 x39_2).f0)))) = true := decide_eq_true c49
                            clear c49
                            have H' := Aside0.mk H
                            clear H
                            have hnb50 := NB396_382.out
                            have hnc50 := NB382_396.out
                            have hnb51 := NB396_392.out
                            have hnc51 := NB392_396.out
                            have hnb52 := NB396_393.out
                            have hnc52 := NB393_396.out
                            have hcz53_0 : w33.cell? ⟨gb396, 0, none⟩ = some (.int .i64 0) := (blk_cell BK396.out 0).trans rfl
                            have hcz53_1 : w33.cell? ⟨gb396, 1, none⟩ = some (.int .i64 0) := (blk_cell BK396.out 1).trans rfl
                            have hcz53_2 : w33.cell? ⟨gb396, 2, none⟩ = some (.bool false) := (blk_cell BK396.out 2).trans rfl
                            have hfz53_0 := blk_frozen BK396.out 0
                            have hfz53_1 := blk_frozen BK396.out 1
                            have hfz53_2 := blk_frozen BK396.out 2
                            exact absurd H'.out (by rw [HRT_.out]; cases k2 <;> simp [spencelaw28_PlanOnce.j2])
                          · rw [if_neg c49] at H
                            have c49b0 : decide (8 < (wrap64 (((rd_T50 t389 x39_2).f1) - ((rd_T50 t389 x39_2).f0)))) = false := decide_eq_false c49
                            clear c49
                            by_cases c54 : ((rd_T50 t389 x39_2).f1) > 4097
                            · rw [if_pos c54] at H
                              have c54b0 : decide (4097 < ((rd_T50 t389 x39_2).f1)) = true := decide_eq_true c54
                              clear c54
                              have H' := Aside0.mk H
                              clear H
                              have hnb55 := NB396_382.out
                              have hnc55 := NB382_396.out
                              have hnb56 := NB396_392.out
                              have hnc56 := NB392_396.out
                              have hnb57 := NB396_393.out
                              have hnc57 := NB393_396.out
                              have hcz58_0 : w33.cell? ⟨gb396, 0, none⟩ = some (.int .i64 0) := (blk_cell BK396.out 0).trans rfl
                              have hcz58_1 : w33.cell? ⟨gb396, 1, none⟩ = some (.int .i64 0) := (blk_cell BK396.out 1).trans rfl
                              have hcz58_2 : w33.cell? ⟨gb396, 2, none⟩ = some (.bool false) := (blk_cell BK396.out 2).trans rfl
                              have hfz58_0 := blk_frozen BK396.out 0
                              have hfz58_1 := blk_frozen BK396.out 1
                              have hfz58_2 := blk_frozen BK396.out 2
                              exact absurd H'.out (by rw [HRT_.out]; cases k2 <;> simp [spencelaw28_PlanOnce.j2])
                            · rw [if_neg c54] at H
                              have c54b0 : decide (4097 < ((rd_T50 t389 x39_2).f1)) = false := decide_eq_false c54
                              clear c54
                              have H' := Aside0.mk H
                              clear H
                              have hnb59 := NB396_382.out
                              have hnc59 := NB382_396.out
                              have hnb60 := NB396_392.out
                              have hnc60 := NB392_396.out
                              have hnb61 := NB396_393.out
                              have hnc61 := NB393_396.out
                              have hcz62_0 : w33.cell? ⟨gb396, 0, none⟩ = some (.int .i64 0) := (blk_cell BK396.out 0).trans rfl
                              have hcz62_1 : w33.cell? ⟨gb396, 1, none⟩ = some (.int .i64 0) := (blk_cell BK396.out 1).trans rfl
                              have hcz62_2 : w33.cell? ⟨gb396, 2, none⟩ = some (.bool false) := (blk_cell BK396.out 2).trans rfl
                              have hfz62_0 := blk_frozen BK396.out 0
                              have hfz62_1 := blk_frozen BK396.out 1
                              have hfz62_2 := blk_frozen BK396.out 2
                              go_wp2_with (first | ((with_reducible refine ag_gate (t := 27) rfl ?_); first | refine row_load rfl 27 _ rfl _ rfl .u64 65 _ 27 _ BK382.out Tryd.underlying27 rfl Ag.info_map ?_ | refine row_load rfl 27 _ rfl _ rfl .u64 65 _ 27 _ (by first | exact BK382.out | (repeat (first | exact BK382.out | (with_reducible exact Ag.row_put BK382.out) | (with_reducible refine Ag.row_far ?_ (by assumption) _) | (with_reducible refine blk_far ?_ (by assumption) _)))) Tryd.underlying27 rfl Ag.info_map ?_ | refine row_load rfl 27 _ rfl _ rfl .u64 65 _ 27 _ BK393.out Tryd.underlying27 rfl Ag.info_map ?_ | refine row_load rfl 27 _ rfl _ rfl .u64 65 _ 27 _ (by first | exact BK393.out | (repeat (first | exact BK393.out | (with_reducible exact Ag.row_put BK393.out) | (with_reducible refine Ag.row_far ?_ (by assumption) _) | (with_reducible refine blk_far ?_ (by assumption) _)))) Tryd.underlying27 rfl Ag.info_map ?_) | ((with_reducible refine ag_gate_st (t := 27) rfl ?_); first | refine row_store2 rfl 27 _ _ rfl rfl _ rfl .u64 65 _ rfl _ 27 BK382.out Ag.info_map (Ag.agC_size _ _ _) ?_ | refine row_store2 rfl 27 _ _ rfl rfl _ rfl .u64 65 _ rfl _ 27 (by first | exact BK382.out | (repeat (first | exact BK382.out | (with_reducible exact Ag.row_put BK382.out) | (with_reducible refine Ag.row_far ?_ (by assumption) _) | (with_reducible refine blk_far ?_ (by assumption) _)))) Ag.info_map (Ag.agC_size _ _ _) ?_ | refine row_store2 rfl 27 _ _ rfl rfl _ rfl .u64 65 _ rfl _ 27 BK393.out Ag.info_map (Ag.agC_size _ _ _) ?_ | refine row_store2 rfl 27 _ _ rfl rfl _ rfl .u64 65 _ rfl _ 27 (by first | exact BK393.out | (repeat (first | exact BK393.out | (with_reducible exact Ag.row_put BK393.out) | (with_reducible refine Ag.row_far ?_ (by assumption) _) | (with_reducible refine blk_far ?_ (by assumption) _)))) Ag.info_map (Ag.agC_size _ _ _) ?_))
                              go_meet
                              case rel => exact ⟨_, (decide (((rd_T50 t389 x39_2).f0) ≥ ((rd_T50 t389 x39_2).f1))), (by first | rfl | (simp; done) | (simp [*]; done)), (by first | exact H' | (rw [← Nbq38.out]; exact H')), ⟨by have := HJ6.out; have := HK2.out; first | omega | exact Nat.le_refl _⟩, ⟨by (with_reducible repeat (first | apply Kd.R_alloc | apply Kd.R_drewN | apply Kd.R_drew)); exact Kd.R_mono (Kd.R_far (p := ⟨gb396, 2, none⟩) (Kd.R_far (p := ⟨gb396, 1, none⟩) (Kd.R_far (p := ⟨gb396, 0, none⟩) (Kd.R_mono HO_37.out (fun k_ hk => (⟨hk, hk.2⟩ : _ ∧ k_ ≠ gb396))) (fun _ hk => hk.2) (.int .i64 ((rd_T50 t389 x39_2).f0))) (fun _ hk => hk.2) (.int .i64 ((rd_T50 t389 x39_2).f1))) (fun _ hk => hk.2) (.bool (false))) (fun _ hk => ⟨hk.1.1, hk.1.2⟩)⟩, ⟨by (with_reducible repeat (first | apply Kd.R_alloc | apply Kd.R_drewN | apply Kd.R_drew)); exact Kd.R_mono (Kd.R_far (p := ⟨gb396, 2, none⟩) (Kd.R_far (p := ⟨gb396, 1, none⟩) (Kd.R_far (p := ⟨gb396, 0, none⟩) (Kd.R_types HO_393000.out BK396.out (by decide)) (fun _ hk => hk.2) (.int .i64 ((rd_T50 t389 x39_2).f0))) (fun _ hk => hk.2) (.int .i64 ((rd_T50 t389 x39_2).f1))) (fun _ hk => hk.2) (.bool (false))) (fun _ hk => trivial)⟩, ⟨by (with_reducible repeat (first | apply Kd.R_alloc | apply Kd.R_drewN | apply Kd.R_drew)); exact Kd.R_mono (Kd.R_far (p := ⟨gb396, 2, none⟩) (Kd.R_far (p := ⟨gb396, 1, none⟩) (Kd.R_far (p := ⟨gb396, 0, none⟩) (Kd.R_mono HO_393001.out (fun k_ hk => (⟨hk, hk.2⟩ : _ ∧ k_ ≠ gb396))) (fun _ hk => hk.2) (.int .i64 ((rd_T50 t389 x39_2).f0))) (fun _ hk => hk.2) (.int .i64 ((rd_T50 t389 x39_2).f1))) (fun _ hk => hk.2) (.bool (false))) (fun _ hk => ⟨hk.1.1.1, ⟨hk.1.1.2, hk.1.2⟩⟩)⟩, ⟨by (with_reducible repeat (first | apply Kd.R_alloc | apply Kd.R_drewN | apply Kd.R_drew)); exact Kd.R_mono (Kd.R_far (p := ⟨gb396, 2, none⟩) (Kd.R_far (p := ⟨gb396, 1, none⟩) (Kd.R_far (p := ⟨gb396, 0, none⟩) (Kd.R_mono HO_393002.out (fun k_ hk => (⟨hk, hk.2⟩ : _ ∧ k_ ≠ gb396))) (fun _ hk => hk.2) (.int .i64 ((rd_T50 t389 x39_2).f0))) (fun _ hk => hk.2) (.int .i64 ((rd_T50 t389 x39_2).f1))) (fun _ hk => hk.2) (.bool (false))) (fun _ hk => ⟨hk.1.1, hk.1.2⟩)⟩, ⟨by (with_reducible repeat (first | refine blk_drewN ?_ _ | refine blk_drew ?_ | refine blk_alloc ?_ _)); (first | (with_reducible refine Ag.row_far ?_ NB382_396.out _) | refine blk_far ?_ NB382_396.out _); (with_reducible repeat (first | refine blk_drewN ?_ _ | refine blk_drew ?_ | refine blk_alloc ?_ _)); (first | (with_reducible refine Ag.row_far ?_ NB382_396.out _) | refine blk_far ?_ NB382_396.out _); (with_reducible repeat (first | refine blk_drewN ?_ _ | refine blk_drew ?_ | refine blk_alloc ?_ _)); (first | (with_reducible refine Ag.row_far ?_ NB382_396.out _) | refine blk_far ?_ NB382_396.out _); (with_reducible repeat (first | refine blk_drewN ?_ _ | refine blk_drew ?_ | refine blk_alloc ?_ _)); exact BK382.out⟩, ⟨by (with_reducible repeat (first | refine blk_drewN ?_ _ | refine blk_drew ?_ | refine blk_alloc ?_ _)); (first | (with_reducible refine Ag.row_far ?_ NB392_396.out _) | refine blk_far ?_ NB392_396.out _); (with_reducible repeat (first | refine blk_drewN ?_ _ | refine blk_drew ?_ | refine blk_alloc ?_ _)); (first | (with_reducible refine Ag.row_far ?_ NB392_396.out _) | refine blk_far ?_ NB392_396.out _); (with_reducible repeat (first | refine blk_drewN ?_ _ | refine blk_drew ?_ | refine blk_alloc ?_ _)); (first | (with_reducible refine Ag.row_far ?_ NB392_396.out _) | refine blk_far ?_ NB392_396.out _); (with_reducible repeat (first | refine blk_drewN ?_ _ | refine blk_drew ?_ | refine blk_alloc ?_ _)); exact BK392.out⟩, ⟨by (with_reducible repeat (first | refine blk_drewN ?_ _ | refine blk_drew ?_ | refine blk_alloc ?_ _)); (first | (with_reducible refine Ag.row_far ?_ NB393_396.out _) | refine blk_far ?_ NB393_396.out _); (with_reducible repeat (first | refine blk_drewN ?_ _ | refine blk_drew ?_ | refine blk_alloc ?_ _)); (first | (with_reducible refine Ag.row_far ?_ NB393_396.out _) | refine blk_far ?_ NB393_396.out _); (with_reducible repeat (first | refine blk_drewN ?_ _ | refine blk_drew ?_ | refine blk_alloc ?_ _)); (first | (with_reducible refine Ag.row_far ?_ NB393_396.out _) | refine blk_far ?_ NB393_396.out _); (with_reducible repeat (first | refine blk_drewN ?_ _ | refine blk_drew ?_ | refine blk_alloc ?_ _)); exact BK393.out⟩, ⟨by (with_reducible repeat (first | refine blk_drewN ?_ _ | refine blk_drew ?_ | refine blk_alloc ?_ _)); refine blk_put (cs := #[.int .i64 ((rd_T50 t389 x39_2).f0), .int .i64 ((rd_T50 t389 x39_2).f1), .bool false]) ?_ 2 _ (by first | rfl | (rw [← Nbq38.out]; rfl)); (with_reducible repeat (first | refine blk_drewN ?_ _ | refine blk_drew ?_ | refine blk_alloc ?_ _)); refine blk_put (cs := #[.int .i64 ((rd_T50 t389 x39_2).f0), .int .i64 0, .bool false]) ?_ 1 _ (by first | rfl | (rw [← Nbq38.out]; rfl)); (with_reducible repeat (first | refine blk_drewN ?_ _ | refine blk_drew ?_ | refine blk_alloc ?_ _)); refine blk_put (cs := #[.int .i64 0, .int .i64 0, .bool false]) ?_ 0 _ (by first | rfl | (rw [← Nbq38.out]; rfl)); (with_reducible repeat (first | refine blk_drewN ?_ _ | refine blk_drew ?_ | refine blk_alloc ?_ _)); exact BK396.out⟩, ⟨by repeat (first | (with_reducible first | exact HB.out | apply below_alloc | apply pw_below_drewN | apply below_drew1 | refine below_set ?_ GE382.out | refine Ag.row_below ?_ GE382.out | refine below_set ?_ GE392.out | refine Ag.row_below ?_ GE392.out | refine below_set ?_ GE393.out | refine Ag.row_below ?_ GE393.out | refine below_set ?_ GE396.out | refine Ag.row_below ?_ GE396.out) | exact HB.out)⟩⟩
                    case rest =>
                      clear HC32
                      try clear c1
                      try clear c2
                      try clear p2
                      try clear c3
                      try clear p3
                      try clear q3
                      try clear hx3
                      try clear c4
                      try clear c5
                      try clear c6
                      try clear p6
                      try clear c7
                      try clear c9
                      try clear c9b0
                      try clear c9b1
                      try clear c10
                      try clear c19
                      try clear c25
                      try clear c26
                      try clear c29
                      try clear c29b0
                      try clear c30
                      try clear c30b0
                      try clear c31
                      try clear c31b0
                      try clear c33
                      try clear c34
                      try clear c35
                      try clear c36
                      try clear q38
                      try clear c39
                      try clear p39
                      try clear q39
                      try clear hx39
                      try clear c40
                      try clear c41
                      try clear c42
                      try clear c44
                      try clear c44b0
                      try clear c45
                      try clear c46
                      try clear c47
                      try clear c49
                      try clear c49b0
                      try clear c50
                      try clear c51
                      try clear c52
                      try clear c54
                      try clear c54b0
                      try clear c55
                      try clear c56
                      try clear c57
                      try clear c59
                      try clear c60
                      try clear c61
                      try clear hcz15_0
                      try clear hcz20_0
                      try clear hcz20_1
                      try clear hcz20_2
                      try clear hcz23_0
                      try clear hcz27_0
                      try clear hcz28_0
                      try clear hcz28_1
                      try clear hcz28_2
                      try clear hcz37_0
                      try clear hcz37_1
                      try clear hcz37_2
                      try clear hcz43_0
                      try clear hcz43_1
                      try clear hcz43_2
                      try clear hcz48_0
                      try clear hcz48_1
                      try clear hcz48_2
                      try clear hcz53_0
                      try clear hcz53_1
                      try clear hcz53_2
                      try clear hcz58_0
                      try clear hcz58_1
                      try clear hcz58_2
                      try clear hcz62_0
                      try clear hcz62_1
                      try clear hcz62_2
                      try clear hfz15_0
                      try clear hfz20_0
                      try clear hfz20_1
                      try clear hfz20_2
                      try clear hfz23_0
                      try clear hfz27_0
                      try clear hfz28_0
                      try clear hfz28_1
                      try clear hfz28_2
                      try clear hfz37_0
                      try clear hfz37_1
                      try clear hfz37_2
                      try clear hfz43_0
                      try clear hfz43_1
                      try clear hfz43_2
                      try clear hfz48_0
                      try clear hfz48_1
                      try clear hfz48_2
                      try clear hfz53_0
                      try clear hfz53_1
                      try clear hfz53_2
                      try clear hfz58_0
                      try clear hfz58_1
                      try clear hfz58_2
                      try clear hfz62_0
                      try clear hfz62_1
                      try clear hfz62_2
                      try clear hx395_0
                      try clear hx395_1
                      try clear hx395_2
                      try clear p2
                      try clear p395
                      try clear q395
                      obtain ⟨kq, x70_31, rfl, HA, HJ31, HO_37, HO_393000, HO_393001, HO_393002, BK382, BK392, BK393, BK396, HB⟩ := hcut
                      cases kq with
                      | zero => exact absurd HA.out (by simp [spencelaw28_PlanOnce.j2])
                      | succ kj31 =>
                        have H := HA.out
                        clear HA
                        simp only [spencelaw28_PlanOnce.j2] at H
                        by_cases c63 : x70_31 = true
                        · subst c63
                          have H1 : (some false) = some r := by rw [if_pos rfl] at H; exact H
                          clear H
                          have H := H1
                          clear H1
                          exact absurd H (by rw [HRT_.out]; simp)
                        · replace c63 := Bool.eq_false_iff.mpr c63
                          subst c63
                          have H1 : ((plan_Bytes.f ((rd_T50 t389 x39_2).f0) ((rd_T50 t389 x39_2).f1) ((rd_T50 t389 x39_2).f2) a1 a2).bind fun bt397 => (if bt397.2.2 = true then (if bt397.1 < 0 then (spencelaw28_PlanOnce.j3 kj31 a1 a2 ((rd_T50 t389 x39_2).f1) t389 (t389.length : Int) x39_2 true t383 t386 t389 x394000_2 ((rd_T50 t389 x39_2).f0) ((rd_T50 t389 x39_2).f1) ((rd_T50 t389 x39_2).f2)) else (if bt397.2.1 > a1 then (spencelaw28_PlanOnce.j3 kj31 a1 a2 ((rd_T50 t389 x39_2).f1) t389 (t389.length : Int) x39_2 true t383 t386 t389 x394000_2 ((rd_T50 t389 x39_2).f0) ((rd_T50 t389 x39_2).f1) ((rd_T50 t389 x39_2).f2)) else (spencelaw28_PlanOnce.j3 kj31 a1 a2 ((rd_T50 t389 x39_2).f1) t389 (t389.length : Int) x39_2 (decide (bt397.1 ≥ bt397.2.1)) t383 t386 t389 x394000_2 ((rd_T50 t389 x39_2).f0) ((rd_T50 t389 x39_2).f1) ((rd_T50 t389 x39_2).f2)))) else (spencelaw28_PlanOnce.j3 kj31 a1 a2 ((rd_T50 t389 x39_2).f1) t389 (t389.length : Int) x39_2 true t383 t386 t389 x394000_2 ((rd_T50 t389 x39_2).f0) ((rd_T50 t389 x39_2).f1) ((rd_T50 t389 x39_2).f2)))) = some r := by rw [if_neg (show ¬ (false = true) by decide)] at H; exact H
                          clear H
                          have H := H1
                          clear H1
                          replace H := Option.bind_eq_some_iff.mp H
                          obtain ⟨⟨t397, t398, t399⟩, A640, H⟩ := H
                          replace H : (if t399 = true then (if t397 < 0 then (spencelaw28_PlanOnce.j3 kj31 a1 a2 ((rd_T50 t389 x39_2).f1) t389 (t389.length : Int) x39_2 true t383 t386 t389 x394000_2 ((rd_T50 t389 x39_2).f0) ((rd_T50 t389 x39_2).f1) ((rd_T50 t389 x39_2).f2)) else (if t398 > a1 then (spencelaw28_PlanOnce.j3 kj31 a1 a2 ((rd_T50 t389 x39_2).f1) t389 (t389.length : Int) x39_2 true t383 t386 t389 x394000_2 ((rd_T50 t389 x39_2).f0) ((rd_T50 t389 x39_2).f1) ((rd_T50 t389 x39_2).f2)) else (spencelaw28_PlanOnce.j3 kj31 a1 a2 ((rd_T50 t389 x39_2).f1) t389 (t389.length : Int) x39_2 (decide (t397 ≥ t398)) t383 t386 t389 x394000_2 ((rd_T50 t389 x39_2).f0) ((rd_T50 t389 x39_2).f1) ((rd_T50 t389 x39_2).f2)))) else (spencelaw28_PlanOnce.j3 kj31 a1 a2 ((rd_T50 t389 x39_2).f1) t389 (t389.length : Int) x39_2 true t383 t386 t389 x394000_2 ((rd_T50 t389 x39_2).f0) ((rd_T50 t389 x39_2).f1) ((rd_T50 t389 x39_2).f2))) = some r := H
                          have A64 := Aside0.mk A640
                          clear A640
                          have HC65 := Aside0.mk H
                          clear H
                          have hnb66 := NB396_382.out
                          have hnc66 := NB382_396.out
                          have hnb67 := NB396_392.out
                          have hnc67 := NB392_396.out
                          have hnb68 := NB396_393.out
                          have hnc68 := NB393_396.out
                          have hcz69_0 : wc.cell? ⟨gb396, 0, none⟩ = some (.int .i64 ((rd_T50 t389 x39_2).f0)) := (blk_cell BK396.out 0).trans rfl
                          have hcz69_1 : wc.cell? ⟨gb396, 1, none⟩ = some (.int .i64 ((rd_T50 t389 x39_2).f1)) := (blk_cell BK396.out 1).trans rfl
                          have hcz69_2 : wc.cell? ⟨gb396, 2, none⟩ = some (.bool ((rd_T50 t389 x39_2).f2)) := (blk_cell BK396.out 2).trans rfl
                          have hfz69_0 := blk_frozen BK396.out 0
                          have hfz69_1 := blk_frozen BK396.out 1
                          have hfz69_2 := blk_frozen BK396.out 2
                          go_upto_region 16 with (first | ((with_reducible refine gate_callee (f := 34) rfl ?_); refine goesL_ (some 77) rfl rfl Tryd.func34 (by kernel_rfl) rfl #[.agg #[.int .i64 ((rd_T50 t389 x39_2).f0), .int .i64 ((rd_T50 t389 x39_2).f1), .bool ((rd_T50 t389 x39_2).f2)], .int .i64 a1, .int .i64 a2] rfl (by (try simp only [List.map_toArray, List.map_cons, List.map_nil]); first | done | rfl | (simp only [List.length_drop, List.length_take]; rfl)) ?_; (with_reducible refine (plan_Bytes.calls ((rd_T50 t389 x39_2).f0) ((rd_T50 t389 x39_2).f1) ((rd_T50 t389 x39_2).f2) a1 a2 t397 t398 t399 _ A64.out).mono ?_); rintro e w70 ⟨rfl, hb⟩; refine ⟨_, rfl, ?_⟩; have n0_ := Aside0.mk (Kd.R_below (by (with_reducible repeat (first | apply Kd.R_alloc | apply Kd.R_drewN | apply Kd.R_drew)); exact HO_37.out) hb); have n1_ := Aside0.mk (Kd.R_below (by (with_reducible repeat (first | apply Kd.R_alloc | apply Kd.R_drewN | apply Kd.R_drew)); exact HO_393000.out) hb); have n2_ := Aside0.mk (Kd.R_below (by (with_reducible repeat (first | apply Kd.R_alloc | apply Kd.R_drewN | apply Kd.R_drew)); exact HO_393001.out) hb); have n3_ := Aside0.mk (Kd.R_below (by (with_reducible repeat (first | apply Kd.R_alloc | apply Kd.R_drewN | apply Kd.R_drew)); exact HO_393002.out) hb); have n4_ := Aside0.mk (blk_below (g := gb382) (o := .cells (Ag.agC .u64 65 t381) 27 (0, 0)) (by (with_reducible repeat (first | refine blk_drewN ?_ _ | refine blk_drew ?_ | refine blk_alloc ?_ _)); exact BK382.out) hb); have n5_ := Aside0.mk (blk_below (g := gb392) (o := .cells #[.slice Ao18 t383.length co18, .slice Ao21 t386.length co21, .slice (some ad395) t389.length co22] 60 (0, 0)) (by (with_reducible repeat (first | refine blk_drewN ?_ _ | refine blk_drew ?_ | refine blk_alloc ?_ _)); exact BK392.out) hb); have n6_ := Aside0.mk (blk_below (g := gb393) (o := .cells (Ag.agC .u64 65 x394000_2) 27 (0, 0)) (by (with_reducible repeat (first | refine blk_drewN ?_ _ | refine blk_drew ?_ | refine blk_alloc ?_ _)); exact BK393.out) hb); have n7_ := Aside0.mk (blk_below (g := gb396) (o := .cells #[.int .i64 ((rd_T50 t389 x39_2).f0), .int .i64 ((rd_T50 t389 x39_2).f1), .bool ((rd_T50 t389 x39_2).f2)] 50 (0, 0)) (by (with_reducible repeat (first | refine blk_drewN ?_ _ | refine blk_drew ?_ | refine blk_alloc ?_ _)); exact BK396.out) hb); have n8_ := Aside0.mk (below_step (by repeat (first | (with_reducible first | exact HB.out | apply below_alloc | apply pw_below_drewN | apply below_drew1 | refine below_set ?_ GE382.out | refine Ag.row_below ?_ GE382.out | refine below_set ?_ GE392.out | refine Ag.row_below ?_ GE392.out | refine below_set ?_ GE393.out | refine Ag.row_below ?_ GE393.out | refine below_set ?_ GE396.out | refine Ag.row_below ?_ GE396.out) | exact HB.out)) hb); clear HO_37; clear HO_393000; clear HO_393001; clear HO_393002; clear BK382; clear BK392; clear BK393; clear BK396; clear HB; have HO_37 := n0_; have HO_393000 := n1_; have HO_393001 := n2_; have HO_393002 := n3_; have BK382 := n4_; have BK392 := n5_; have BK393 := n6_; have BK396 := n7_; have HB := n8_; clear n0_ n1_ n2_ n3_ n4_ n5_ n6_ n7_ n8_; (try clear hb); (try clear hb2); (try clear hk); (try clear hi)) | ((with_reducible refine gate_dst (N := 15) rfl ?_); (try (refine gate_guard (by rfl) ?_; dsimp only)); refine box_event ?hg (N := 15) ?hd (cs := #[.int .i64 0, .int .i64 0]) (t := 53) ?hr ?_; (case hd => rfl); (case hg => rfl); (case hr => first | (go_simp; done) | (go_simp; rfl)); intro gb400 hg w71 hbox hb; have n0_ := Aside0.mk (Kd.R_below (by (with_reducible repeat (first | apply Kd.R_alloc | apply Kd.R_drewN | apply Kd.R_drew)); exact HO_37.out) hb); have n1_ := Aside0.mk (Kd.R_below (by (with_reducible repeat (first | apply Kd.R_alloc | apply Kd.R_drewN | apply Kd.R_drew)); exact HO_393000.out) hb); have n2_ := Aside0.mk (Kd.R_below (by (with_reducible repeat (first | apply Kd.R_alloc | apply Kd.R_drewN | apply Kd.R_drew)); exact HO_393001.out) hb); have n3_ := Aside0.mk (Kd.R_below (by (with_reducible repeat (first | apply Kd.R_alloc | apply Kd.R_drewN | apply Kd.R_drew)); exact HO_393002.out) hb); have n4_ := Aside0.mk (blk_below (g := gb382) (o := .cells (Ag.agC .u64 65 t381) 27 (0, 0)) (by (with_reducible repeat (first | refine blk_drewN ?_ _ | refine blk_drew ?_ | refine blk_alloc ?_ _)); exact BK382.out) hb); have n5_ := Aside0.mk (blk_below (g := gb392) (o := .cells #[.slice Ao18 t383.length co18, .slice Ao21 t386.length co21, .slice (some ad395) t389.length co22] 60 (0, 0)) (by (with_reducible repeat (first | refine blk_drewN ?_ _ | refine blk_drew ?_ | refine blk_alloc ?_ _)); exact BK392.out) hb); have n6_ := Aside0.mk (blk_below (g := gb393) (o := .cells (Ag.agC .u64 65 x394000_2) 27 (0, 0)) (by (with_reducible repeat (first | refine blk_drewN ?_ _ | refine blk_drew ?_ | refine blk_alloc ?_ _)); exact BK393.out) hb); have n7_ := Aside0.mk (blk_below (g := gb396) (o := .cells #[.int .i64 ((rd_T50 t389 x39_2).f0), .int .i64 ((rd_T50 t389 x39_2).f1), .bool ((rd_T50 t389 x39_2).f2)] 50 (0, 0)) (by (with_reducible repeat (first | refine blk_drewN ?_ _ | refine blk_drew ?_ | refine blk_alloc ?_ _)); exact BK396.out) hb); have n8_ := Aside0.mk (below_step (by repeat (first | (with_reducible first | exact HB.out | apply below_alloc | apply pw_below_drewN | apply below_drew1 | refine below_set ?_ GE382.out | refine Ag.row_below ?_ GE382.out | refine below_set ?_ GE392.out | refine Ag.row_below ?_ GE392.out | refine below_set ?_ GE393.out | refine Ag.row_below ?_ GE393.out | refine below_set ?_ GE396.out | refine Ag.row_below ?_ GE396.out) | exact HB.out)) hb); have n9_ := Aside0.mk (hbox); have n10_ := Aside0.mk ((by rw [hg]; exact (below_size (by repeat (first | (with_reducible first | exact HB.out | apply below_alloc | apply pw_below_drewN | apply below_drew1 | refine below_set ?_ GE382.out | refine Ag.row_below ?_ GE382.out | refine below_set ?_ GE392.out | refine Ag.row_below ?_ GE392.out | refine below_set ?_ GE393.out | refine Ag.row_below ?_ GE393.out | refine below_set ?_ GE396.out | refine Ag.row_below ?_ GE396.out) | exact HB.out))) : w.heap.size ≤ gb400)); have n11_ := Aside0.mk ((by rw [hg]; exact (below_size (by repeat (first | (with_reducible first | exact HB.out | apply below_alloc | apply pw_below_drewN | apply below_drew1 | refine below_set ?_ GE382.out | refine Ag.row_below ?_ GE382.out | refine below_set ?_ GE392.out | refine Ag.row_below ?_ GE392.out | refine below_set ?_ GE393.out | refine Ag.row_below ?_ GE393.out | refine below_set ?_ GE396.out | refine Ag.row_below ?_ GE396.out) | exact HB.out))) : w.heap.size ≤ gb400)); have n12_ := Aside0.mk ((by rw [hg]; exact Nat.ne_of_lt (blk_lt (g := gb382) (o := .cells (Ag.agC .u64 65 t381) 27 (0, 0)) (by (with_reducible repeat (first | refine blk_drewN ?_ _ | refine blk_drew ?_ | refine blk_alloc ?_ _)); exact BK382.out)) : gb382 ≠ gb400)); have n13_ := Aside0.mk ((by rw [hg]; exact Nat.ne_of_gt (blk_lt (g := gb382) (o := .cells (Ag.agC .u64 65 t381) 27 (0, 0)) (by (with_reducible repeat (first | refine blk_drewN ?_ _ | refine blk_drew ?_ | refine blk_alloc ?_ _)); exact BK382.out)) : gb400 ≠ gb382)); have n14_ := Aside0.mk ((by rw [hg]; exact Nat.ne_of_lt (blk_lt (g := gb392) (o := .cells #[.slice Ao18 t383.length co18, .slice Ao21 t386.length co21, .slice (some ad395) t389.length co22] 60 (0, 0)) (by (with_reducible repeat (first | refine blk_drewN ?_ _ | refine blk_drew ?_ | refine blk_alloc ?_ _)); exact BK392.out)) : gb392 ≠ gb400)); have n15_ := Aside0.mk ((by rw [hg]; exact Nat.ne_of_gt (blk_lt (g := gb392) (o := .cells #[.slice Ao18 t383.length co18, .slice Ao21 t386.length co21, .slice (some ad395) t389.length co22] 60 (0, 0)) (by (with_reducible repeat (first | refine blk_drewN ?_ _ | refine blk_drew ?_ | refine blk_alloc ?_ _)); exact BK392.out)) : gb400 ≠ gb392)); have n16_ := Aside0.mk ((by rw [hg]; exact Nat.ne_of_lt (blk_lt (g := gb393) (o := .cells (Ag.agC .u64 65 x394000_2) 27 (0, 0)) (by (with_reducible repeat (first | refine blk_drewN ?_ _ | refine blk_drew ?_ | refine blk_alloc ?_ _)); exact BK393.out)) : gb393 ≠ gb400)); have n17_ := Aside0.mk ((by rw [hg]; exact Nat.ne_of_gt (blk_lt (g := gb393) (o := .cells (Ag.agC .u64 65 x394000_2) 27 (0, 0)) (by (with_reducible repeat (first | refine blk_drewN ?_ _ | refine blk_drew ?_ | refine blk_alloc ?_ _)); exact BK393.out)) : gb400 ≠ gb393)); have n18_ := Aside0.mk ((by rw [hg]; exact Nat.ne_of_lt (blk_lt (g := gb396) (o := .cells #[.int .i64 ((rd_T50 t389 x39_2).f0), .int .i64 ((rd_T50 t389 x39_2).f1), .bool ((rd_T50 t389 x39_2).f2)] 50 (0, 0)) (by (with_reducible repeat (first | refine blk_drewN ?_ _ | refine blk_drew ?_ | refine blk_alloc ?_ _)); exact BK396.out)) : gb396 ≠ gb400)); have n19_ := Aside0.mk ((by rw [hg]; exact Nat.ne_of_gt (blk_lt (g := gb396) (o := .cells #[.int .i64 ((rd_T50 t389 x39_2).f0), .int .i64 ((rd_T50 t389 x39_2).f1), .bool ((rd_T50 t389 x39_2).f2)] 50 (0, 0)) (by (with_reducible repeat (first | refine blk_drewN ?_ _ | refine blk_drew ?_ | refine blk_alloc ?_ _)); exact BK396.out)) : gb400 ≠ gb396)); clear HO_37; clear HO_393000; clear HO_393001; clear HO_393002; clear BK382; clear BK392; clear BK393; clear BK396; clear HB; have HO_37 := n0_; have HO_393000 := n1_; have HO_393001 := n2_; have HO_393002 := n3_; have BK382 := n4_; have BK392 := n5_; have BK393 := n6_; have BK396 := n7_; have HB := n8_; have BK400 := n9_; have GW400 := n10_; have GE400 := n11_; have NB382_400 := n12_; have NB400_382 := n13_; have NB392_400 := n14_; have NB400_392 := n15_; have NB393_400 := n16_; have NB400_393 := n17_; have NB396_400 := n18_; have NB400_396 := n19_; clear n0_ n1_ n2_ n3_ n4_ n5_ n6_ n7_ n8_ n9_ n10_ n11_ n12_ n13_ n14_ n15_ n16_ n17_ n18_ n19_; clear hb hbox hg; have hnb72 := NB400_382.out; have hnc72 := NB382_400.out; have hnb73 := NB400_392.out; have hnc73 := NB392_400.out; have hnb74 := NB400_393.out; have hnc74 := NB393_400.out; have hnb75 := NB400_396.out; have hnc75 := NB396_400.out; have hcz76_0 : w71.cell? ⟨gb400, 0, none⟩ = some (.int .i64 0) := (blk_cell BK400.out 0).trans rfl; have hcz76_1 : w71.cell? ⟨gb400, 1, none⟩ = some (.int .i64 0) := (blk_cell BK400.out 1).trans rfl; have hfz76_0 := blk_frozen BK400.out 0; have hfz76_1 := blk_frozen BK400.out 1))
                          (try simp only [Act.put, List.setIfInBounds_toArray, List.set_cons_zero, List.set_cons_succ])
                          go_cut [99] (fun v99 wc => ∃ (kq : Nat) (x99_64 : Bool), v99 = .bool x99_64 ∧ Aside0 (spencelaw28_PlanOnce.j3 kq a1 a2 ((rd_T50 t389 x39_2).f1) t389 (t389.length : Int) x39_2 x99_64 t383 t386 t389 x394000_2 ((rd_T50 t389 x39_2).f0) ((rd_T50 t389 x39_2).f1) ((rd_T50 t389 x39_2).f2) = some r) ∧ Aside0 (kq ≤ kj31) ∧ Aside0 (Kd.R k50 50 wc w.heap.size (fun k_ => some k_ ≠ ((.slice Ao21 t386.length co21) : Value).ownBlock ∧ k_ ≠ gb396) (.slice (some ad395) t389.length co22) t389) ∧ Aside0 (Kd.R (Kd.int .i64) 3 wc w.heap.size (fun _ => True) (.slice Ao18 t383.length co18) t383) ∧ Aside0 (Kd.R k50 50 wc w.heap.size (fun k_ => some k_ ≠ ((.slice (some ad395) t389.length co22) : Value).ownBlock ∧ some k_ ≠ ((.slice (some ad395) t389.length co22) : Value).ownBlock ∧ k_ ≠ gb396) (.slice Ao21 t386.length co21) t386) ∧ Aside0 (Kd.R k50 50 wc w.heap.size (fun k_ => some k_ ≠ ((.slice Ao21 t386.length co21) : Value).ownBlock ∧ k_ ≠ gb396) (.slice (some ad395) t389.length co22) t389) ∧ Aside0 (wc.heap[gb382]? = some (.cells (Ag.agC .u64 65 t381) 27 (0, 0))) ∧ Aside0 (wc.heap[gb392]? = some (.cells #[(.slice Ao18 t383.length co18), (.slice Ao21 t386.length co21), (.slice (some ad395) t389.length co22)] 60 (0, 0))) ∧ Aside0 (wc.heap[gb393]? = some (.cells (Ag.agC .u64 65 x394000_2) 27 (0, 0))) ∧ Aside0 (wc.heap[gb396]? = some (.cells #[.int .i64 ((rd_T50 t389 x39_2).f0), .int .i64 ((rd_T50 t389 x39_2).f1), .bool ((rd_T50 t389 x39_2).f2)] 50 (0, 0))) ∧ Aside0 (wc.heap[gb400]? = some (.cells #[.int .i64 t397, .int .i64 t398] 53 (0, 0))) ∧ Aside0 (Below w.heap.size w wc))
                          case first =>
                            have H := HC65.out
                            clear HC65
                            by_cases c77 : t399 = true
                            · subst c77
                              have H1 : (if t397 < 0 then (spencelaw28_PlanOnce.j3 kj31 a1 a2 ((rd_T50 t389 x39_2).f1) t389 (t389.length : Int) x39_2 true t383 t386 t389 x394000_2 ((rd_T50 t389 x39_2).f0) ((rd_T50 t389 x39_2).f1) ((rd_T50 t389 x39_2).f2)) else (if t398 > a1 then (spencelaw28_PlanOnce.j3 kj31 a1 a2 ((rd_T50 t389 x39_2).f1) t389 (t389.length : Int) x39_2 true t383 t386 t389 x394000_2 ((rd_T50 t389 x39_2).f0) ((rd_T50 t389 x39_2).f1) ((rd_T50 t389 x39_2).f2)) else (spencelaw28_PlanOnce.j3 kj31 a1 a2 ((rd_T50 t389 x39_2).f1) t389 (t389.length : Int) x39_2 (decide (t397 ≥ t398)) t383 t386 t389 x394000_2 ((rd_T50 t389 x39_2).f0) ((rd_T50 t389 x39_2).f1) ((rd_T50 t389 x39_2).f2)))) = some r := by rw [if_pos rfl] at H; exact H
                              clear H
                              have H := H1
                              clear H1
                              by_cases c78 : t397 < 0
                              · rw [if_pos c78] at H
                                have c78b0 : decide (t397 < 0) = true := decide_eq_true c78
                                clear c78
                                (first | rw [c78b0] | (simp only [i64_w, i32_w]; rw [c78b0]) | skip)
                                have H' := Aside0.mk H
                                clear H
                                have hnb79 := NB400_382.out
                                have hnc79 := NB382_400.out
                                have hnb80 := NB400_392.out
                                have hnc80 := NB392_400.out
                                have hnb81 := NB400_393.out
                                have hnc81 := NB393_400.out
                                have hnb82 := NB400_396.out
                                have hnc82 := NB396_400.out
                                have hcz83_0 : w71.cell? ⟨gb400, 0, none⟩ = some (.int .i64 0) := (blk_cell BK400.out 0).trans rfl
                                have hcz83_1 : w71.cell? ⟨gb400, 1, none⟩ = some (.int .i64 0) := (blk_cell BK400.out 1).trans rfl
                                have hfz83_0 := blk_frozen BK400.out 0
                                have hfz83_1 := blk_frozen BK400.out 1
                                exact absurd H'.out (by rw [HRT_.out]; cases kj31 <;> simp [spencelaw28_PlanOnce.j3])
                              · rw [if_neg c78] at H
                                have c78b0 : decide (t397 < 0) = false := decide_eq_false c78
                                clear c78
                                (first | rw [c78b0] | (simp only [i64_w, i32_w]; rw [c78b0]) | skip)
                                by_cases c84 : t398 > a1
                                · rw [if_pos c84] at H
                                  have c84b0 : decide (a1 < t398) = true := decide_eq_true c84
                                  clear c84
                                  have H' := Aside0.mk H
                                  clear H
                                  have hnb85 := NB400_382.out
                                  have hnc85 := NB382_400.out
                                  have hnb86 := NB400_392.out
                                  have hnc86 := NB392_400.out
                                  have hnb87 := NB400_393.out
                                  have hnc87 := NB393_400.out
                                  have hnb88 := NB400_396.out
                                  have hnc88 := NB396_400.out
                                  have hcz89_0 : w71.cell? ⟨gb400, 0, none⟩ = some (.int .i64 0) := (blk_cell BK400.out 0).trans rfl
                                  have hcz89_1 : w71.cell? ⟨gb400, 1, none⟩ = some (.int .i64 0) := (blk_cell BK400.out 1).trans rfl
                                  have hfz89_0 := blk_frozen BK400.out 0
                                  have hfz89_1 := blk_frozen BK400.out 1
                                  exact absurd H'.out (by rw [HRT_.out]; cases kj31 <;> simp [spencelaw28_PlanOnce.j3])
                                · rw [if_neg c84] at H
                                  have c84b0 : decide (a1 < t398) = false := decide_eq_false c84
                                  clear c84
                                  have H' := Aside0.mk H
                                  clear H
                                  have hnb90 := NB400_382.out
                                  have hnc90 := NB382_400.out
                                  have hnb91 := NB400_392.out
                                  have hnc91 := NB392_400.out
                                  have hnb92 := NB400_393.out
                                  have hnc92 := NB393_400.out
                                  have hnb93 := NB400_396.out
                                  have hnc93 := NB396_400.out
                                  have hcz94_0 : w71.cell? ⟨gb400, 0, none⟩ = some (.int .i64 0) := (blk_cell BK400.out 0).trans rfl
                                  have hcz94_1 : w71.cell? ⟨gb400, 1, none⟩ = some (.int .i64 0) := (blk_cell BK400.out 1).trans rfl
                                  have hfz94_0 := blk_frozen BK400.out 0
                                  have hfz94_1 := blk_frozen BK400.out 1
                                  go_wp2_with (first | ((with_reducible refine ag_gate (t := 27) rfl ?_); first | refine row_load rfl 27 _ rfl _ rfl .u64 65 _ 27 _ BK382.out Tryd.underlying27 rfl Ag.info_map ?_ | refine row_load rfl 27 _ rfl _ rfl .u64 65 _ 27 _ (by first | exact BK382.out | (repeat (first | exact BK382.out | (with_reducible exact Ag.row_put BK382.out) | (with_reducible refine Ag.row_far ?_ (by assumption) _) | (with_reducible refine blk_far ?_ (by assumption) _)))) Tryd.underlying27 rfl Ag.info_map ?_ | refine row_load rfl 27 _ rfl _ rfl .u64 65 _ 27 _ BK393.out Tryd.underlying27 rfl Ag.info_map ?_ | refine row_load rfl 27 _ rfl _ rfl .u64 65 _ 27 _ (by first | exact BK393.out | (repeat (first | exact BK393.out | (with_reducible exact Ag.row_put BK393.out) | (with_reducible refine Ag.row_far ?_ (by assumption) _) | (with_reducible refine blk_far ?_ (by assumption) _)))) Tryd.underlying27 rfl Ag.info_map ?_) | ((with_reducible refine ag_gate_st (t := 27) rfl ?_); first | refine row_store2 rfl 27 _ _ rfl rfl _ rfl .u64 65 _ rfl _ 27 BK382.out Ag.info_map (Ag.agC_size _ _ _) ?_ | refine row_store2 rfl 27 _ _ rfl rfl _ rfl .u64 65 _ rfl _ 27 (by first | exact BK382.out | (repeat (first | exact BK382.out | (with_reducible exact Ag.row_put BK382.out) | (with_reducible refine Ag.row_far ?_ (by assumption) _) | (with_reducible refine blk_far ?_ (by assumption) _)))) Ag.info_map (Ag.agC_size _ _ _) ?_ | refine row_store2 rfl 27 _ _ rfl rfl _ rfl .u64 65 _ rfl _ 27 BK393.out Ag.info_map (Ag.agC_size _ _ _) ?_ | refine row_store2 rfl 27 _ _ rfl rfl _ rfl .u64 65 _ rfl _ 27 (by first | exact BK393.out | (repeat (first | exact BK393.out | (with_reducible exact Ag.row_put BK393.out) | (with_reducible refine Ag.row_far ?_ (by assumption) _) | (with_reducible refine blk_far ?_ (by assumption) _)))) Ag.info_map (Ag.agC_size _ _ _) ?_))
                                  go_meet
                                  case rel => exact ⟨_, (decide (t397 ≥ t398)), (by first | rfl | (simp; done) | (simp [*]; done)), H', ⟨by have := HJ6.out; have := HK2.out; have := HJ31.out; first | omega | exact Nat.le_refl _⟩, ⟨by (with_reducible repeat (first | apply Kd.R_alloc | apply Kd.R_drewN | apply Kd.R_drew)); exact Kd.R_mono (Kd.R_far (p := ⟨gb400, 1, none⟩) (Kd.R_far (p := ⟨gb400, 0, none⟩) (Kd.R_types HO_37.out BK400.out (by decide)) (fun _ hk => hk.2) (.int .i64 t397)) (fun _ hk => hk.2) (.int .i64 t398)) (fun _ hk => ⟨hk.1.1, hk.1.2⟩)⟩, ⟨by (with_reducible repeat (first | apply Kd.R_alloc | apply Kd.R_drewN | apply Kd.R_drew)); exact Kd.R_mono (Kd.R_far (p := ⟨gb400, 1, none⟩) (Kd.R_far (p := ⟨gb400, 0, none⟩) (Kd.R_types HO_393000.out BK400.out (by decide)) (fun _ hk => hk.2) (.int .i64 t397)) (fun _ hk => hk.2) (.int .i64 t398)) (fun _ hk => trivial)⟩, ⟨by (with_reducible repeat (first | apply Kd.R_alloc | apply Kd.R_drewN | apply Kd.R_drew)); exact Kd.R_mono (Kd.R_far (p := ⟨gb400, 1, none⟩) (Kd.R_far (p := ⟨gb400, 0, none⟩) (Kd.R_types HO_393001.out BK400.out (by decide)) (fun _ hk => hk.2) (.int .i64 t397)) (fun _ hk => hk.2) (.int .i64 t398)) (fun _ hk => ⟨hk.1.1, ⟨hk.1.2.1, hk.1.2.2⟩⟩)⟩, ⟨by (with_reducible repeat (first | apply Kd.R_alloc | apply Kd.R_drewN | apply Kd.R_drew)); exact Kd.R_mono (Kd.R_far (p := ⟨gb400, 1, none⟩) (Kd.R_far (p := ⟨gb400, 0, none⟩) (Kd.R_types HO_393002.out BK400.out (by decide)) (fun _ hk => hk.2) (.int .i64 t397)) (fun _ hk => hk.2) (.int .i64 t398)) (fun _ hk => ⟨hk.1.1, hk.1.2⟩)⟩, ⟨by (with_reducible repeat (first | refine blk_drewN ?_ _ | refine blk_drew ?_ | refine blk_alloc ?_ _)); (first | (with_reducible refine Ag.row_far ?_ NB382_400.out _) | refine blk_far ?_ NB382_400.out _); (with_reducible repeat (first | refine blk_drewN ?_ _ | refine blk_drew ?_ | refine blk_alloc ?_ _)); (first | (with_reducible refine Ag.row_far ?_ NB382_400.out _) | refine blk_far ?_ NB382_400.out _); (with_reducible repeat (first | refine blk_drewN ?_ _ | refine blk_drew ?_ | refine blk_alloc ?_ _)); exact BK382.out⟩, ⟨by (with_reducible repeat (first | refine blk_drewN ?_ _ | refine blk_drew ?_ | refine blk_alloc ?_ _)); (first | (with_reducible refine Ag.row_far ?_ NB392_400.out _) | refine blk_far ?_ NB392_400.out _); (with_reducible repeat (first | refine blk_drewN ?_ _ | refine blk_drew ?_ | refine blk_alloc ?_ _)); (first | (with_reducible refine Ag.row_far ?_ NB392_400.out _) | refine blk_far ?_ NB392_400.out _); (with_reducible repeat (first | refine blk_drewN ?_ _ | refine blk_drew ?_ | refine blk_alloc ?_ _)); exact BK392.out⟩, ⟨by (with_reducible repeat (first | refine blk_drewN ?_ _ | refine blk_drew ?_ | refine blk_alloc ?_ _)); (first | (with_reducible refine Ag.row_far ?_ NB393_400.out _) | refine blk_far ?_ NB393_400.out _); (with_reducible repeat (first | refine blk_drewN ?_ _ | refine blk_drew ?_ | refine blk_alloc ?_ _)); (first | (with_reducible refine Ag.row_far ?_ NB393_400.out _) | refine blk_far ?_ NB393_400.out _); (with_reducible repeat (first | refine blk_drewN ?_ _ | refine blk_drew ?_ | refine blk_alloc ?_ _)); exact BK393.out⟩, ⟨by (with_reducible repeat (first | refine blk_drewN ?_ _ | refine blk_drew ?_ | refine blk_alloc ?_ _)); (first | (with_reducible refine Ag.row_far ?_ NB396_400.out _) | refine blk_far ?_ NB396_400.out _); (with_reducible repeat (first | refine blk_drewN ?_ _ | refine blk_drew ?_ | refine blk_alloc ?_ _)); (first | (with_reducible refine Ag.row_far ?_ NB396_400.out _) | refine blk_far ?_ NB396_400.out _); (with_reducible repeat (first | refine blk_drewN ?_ _ | refine blk_drew ?_ | refine blk_alloc ?_ _)); exact BK396.out⟩, ⟨by (with_reducible repeat (first | refine blk_drewN ?_ _ | refine blk_drew ?_ | refine blk_alloc ?_ _)); refine blk_put (cs := #[.int .i64 t397, .int .i64 0]) ?_ 1 _ rfl; (with_reducible repeat (first | refine blk_drewN ?_ _ | refine blk_drew ?_ | refine blk_alloc ?_ _)); refine blk_put (cs := #[.int .i64 0, .int .i64 0]) ?_ 0 _ rfl; (with_reducible repeat (first | refine blk_drewN ?_ _ | refine blk_drew ?_ | refine blk_alloc ?_ _)); exact BK400.out⟩, ⟨by repeat (first | (with_reducible first | exact HB.out | apply below_alloc | apply pw_below_drewN | apply below_drew1 | refine below_set ?_ GE382.out | refine Ag.row_below ?_ GE382.out | refine below_set ?_ GE392.out | refine Ag.row_below ?_ GE392.out | refine below_set ?_ GE393.out | refine Ag.row_below ?_ GE393.out | refine below_set ?_ GE396.out | refine Ag.row_below ?_ GE396.out | refine below_set ?_ GE400.out | refine Ag.row_below ?_ GE400.out) | exact HB.out)⟩⟩
                            · replace c77 := Bool.eq_false_iff.mpr c77
                              subst c77
                              have H1 : (spencelaw28_PlanOnce.j3 kj31 a1 a2 ((rd_T50 t389 x39_2).f1) t389 (t389.length : Int) x39_2 true t383 t386 t389 x394000_2 ((rd_T50 t389 x39_2).f0) ((rd_T50 t389 x39_2).f1) ((rd_T50 t389 x39_2).f2)) = some r := by rw [if_neg (show ¬ (false = true) by decide)] at H; exact H
                              clear H
                              have H := H1
                              clear H1
                              have H' := Aside0.mk H
                              clear H
                              exact absurd H'.out (by rw [HRT_.out]; cases kj31 <;> simp [spencelaw28_PlanOnce.j3])
                          case rest =>
                            clear HC65
                            try clear c1
                            try clear c2
                            try clear p2
                            try clear c3
                            try clear p3
                            try clear q3
                            try clear hx3
                            try clear c4
                            try clear c5
                            try clear c6
                            try clear p6
                            try clear c7
                            try clear c8
                            try clear c9
                            try clear c9b0
                            try clear c9b1
                            try clear c10
                            try clear c19
                            try clear c25
                            try clear c26
                            try clear c29
                            try clear c29b0
                            try clear c30
                            try clear c30b0
                            try clear c31
                            try clear c31b0
                            try clear c33
                            try clear c34
                            try clear c35
                            try clear c36
                            try clear q38
                            try clear c39
                            try clear p39
                            try clear q39
                            try clear hx39
                            try clear c40
                            try clear c41
                            try clear c42
                            try clear c44
                            try clear c44b0
                            try clear c45
                            try clear c46
                            try clear c47
                            try clear c49
                            try clear c49b0
                            try clear c50
                            try clear c51
                            try clear c52
                            try clear c54
                            try clear c54b0
                            try clear c55
                            try clear c56
                            try clear c57
                            try clear c59
                            try clear c60
                            try clear c61
                            try clear c63
                            try clear p64
                            try clear c66
                            try clear c67
                            try clear c68
                            try clear c72
                            try clear c73
                            try clear c74
                            try clear c75
                            try clear c77
                            try clear c78
                            try clear c78b0
                            try clear c79
                            try clear c80
                            try clear c81
                            try clear c82
                            try clear c84
                            try clear c84b0
                            try clear c85
                            try clear c86
                            try clear c87
                            try clear c88
                            try clear c90
                            try clear c91
                            try clear c92
                            try clear c93
                            try clear hcz15_0
                            try clear hcz20_0
                            try clear hcz20_1
                            try clear hcz20_2
                            try clear hcz23_0
                            try clear hcz27_0
                            try clear hcz28_0
                            try clear hcz28_1
                            try clear hcz28_2
                            try clear hcz37_0
                            try clear hcz37_1
                            try clear hcz37_2
                            try clear hcz43_0
                            try clear hcz43_1
                            try clear hcz43_2
                            try clear hcz48_0
                            try clear hcz48_1
                            try clear hcz48_2
                            try clear hcz53_0
                            try clear hcz53_1
                            try clear hcz53_2
                            try clear hcz58_0
                            try clear hcz58_1
                            try clear hcz58_2
                            try clear hcz62_0
                            try clear hcz62_1
                            try clear hcz62_2
                            try clear hcz69_0
                            try clear hcz69_1
                            try clear hcz69_2
                            try clear hcz76_0
                            try clear hcz76_1
                            try clear hcz83_0
                            try clear hcz83_1
                            try clear hcz89_0
                            try clear hcz89_1
                            try clear hcz94_0
                            try clear hcz94_1
                            try clear hfz15_0
                            try clear hfz20_0
                            try clear hfz20_1
                            try clear hfz20_2
                            try clear hfz23_0
                            try clear hfz27_0
                            try clear hfz28_0
                            try clear hfz28_1
                            try clear hfz28_2
                            try clear hfz37_0
                            try clear hfz37_1
                            try clear hfz37_2
                            try clear hfz43_0
                            try clear hfz43_1
                            try clear hfz43_2
                            try clear hfz48_0
                            try clear hfz48_1
                            try clear hfz48_2
                            try clear hfz53_0
                            try clear hfz53_1
                            try clear hfz53_2
                            try clear hfz58_0
                            try clear hfz58_1
                            try clear hfz58_2
                            try clear hfz62_0
                            try clear hfz62_1
                            try clear hfz62_2
                            try clear hfz69_0
                            try clear hfz69_1
                            try clear hfz69_2
                            try clear hfz76_0
                            try clear hfz76_1
                            try clear hfz83_0
                            try clear hfz83_1
                            try clear hfz89_0
                            try clear hfz89_1
                            try clear hfz94_0
                            try clear hfz94_1
                            try clear hx395_0
                            try clear hx395_1
                            try clear hx395_2
                            try clear p2
                            try clear p3
                            try clear p39
                            try clear p395
                            try clear p6
                            try clear q3
                            try clear q38
                            try clear q39
                            try clear q395
                            obtain ⟨kq, x99_64, rfl, HA, HJ64, HO_37, HO_393000, HO_393001, HO_393002, BK382, BK392, BK393, BK396, BK400, HB⟩ := hcut
                            cases kq with
                            | zero => exact absurd HA.out (by simp [spencelaw28_PlanOnce.j3])
                            | succ kj64 =>
                              have H := HA.out
                              clear HA
                              simp only [spencelaw28_PlanOnce.j3] at H
                              by_cases c95 : x99_64 = true
                              · subst c95
                                have H1 : (some false) = some r := by rw [if_pos rfl] at H; exact H
                                clear H
                                have H := H1
                                clear H1
                                exact absurd H (by rw [HRT_.out]; simp)
                              · replace c95 := Bool.eq_false_iff.mpr c95
                                subst c95
                                have H1 : (spencelaw28_PlanOnce.l1 kj64 a1 a2 ((rd_T50 t389 x39_2).f1) ((rd_T50 t389 x39_2).f0) t389 (t389.length : Int) x39_2 t383 t386 t389 x394000_2 ((rd_T50 t389 x39_2).f0) ((rd_T50 t389 x39_2).f1) ((rd_T50 t389 x39_2).f2)) = some r := by rw [if_neg (show ¬ (false = true) by decide)] at H; exact H
                                clear H
                                have H := H1
                                clear H1
                                have H' := Aside0.mk H
                                clear H
                                have hnb96 := NB396_382.out
                                have hnc96 := NB382_396.out
                                have hnb97 := NB396_392.out
                                have hnc97 := NB392_396.out
                                have hnb98 := NB396_393.out
                                have hnc98 := NB393_396.out
                                have hnb99 := NB396_400.out
                                have hnc99 := NB400_396.out
                                have hcz100_0 : wc.cell? ⟨gb396, 0, none⟩ = some (.int .i64 ((rd_T50 t389 x39_2).f0)) := (blk_cell BK396.out 0).trans rfl
                                have hcz100_1 : wc.cell? ⟨gb396, 1, none⟩ = some (.int .i64 ((rd_T50 t389 x39_2).f1)) := (blk_cell BK396.out 1).trans rfl
                                have hcz100_2 : wc.cell? ⟨gb396, 2, none⟩ = some (.bool ((rd_T50 t389 x39_2).f2)) := (blk_cell BK396.out 2).trans rfl
                                have hfz100_0 := blk_frozen BK396.out 0
                                have hfz100_1 := blk_frozen BK396.out 1
                                have hfz100_2 := blk_frozen BK396.out 2
                                go_wp2_with (first | ((with_reducible refine ag_gate (t := 27) rfl ?_); first | refine row_load rfl 27 _ rfl _ rfl .u64 65 _ 27 _ BK382.out Tryd.underlying27 rfl Ag.info_map ?_ | refine row_load rfl 27 _ rfl _ rfl .u64 65 _ 27 _ (by first | exact BK382.out | (repeat (first | exact BK382.out | (with_reducible exact Ag.row_put BK382.out) | (with_reducible refine Ag.row_far ?_ (by assumption) _) | (with_reducible refine blk_far ?_ (by assumption) _)))) Tryd.underlying27 rfl Ag.info_map ?_ | refine row_load rfl 27 _ rfl _ rfl .u64 65 _ 27 _ BK393.out Tryd.underlying27 rfl Ag.info_map ?_ | refine row_load rfl 27 _ rfl _ rfl .u64 65 _ 27 _ (by first | exact BK393.out | (repeat (first | exact BK393.out | (with_reducible exact Ag.row_put BK393.out) | (with_reducible refine Ag.row_far ?_ (by assumption) _) | (with_reducible refine blk_far ?_ (by assumption) _)))) Tryd.underlying27 rfl Ag.info_map ?_) | ((with_reducible refine ag_gate_st (t := 27) rfl ?_); first | refine row_store2 rfl 27 _ _ rfl rfl _ rfl .u64 65 _ rfl _ 27 BK382.out Ag.info_map (Ag.agC_size _ _ _) ?_ | refine row_store2 rfl 27 _ _ rfl rfl _ rfl .u64 65 _ rfl _ 27 (by first | exact BK382.out | (repeat (first | exact BK382.out | (with_reducible exact Ag.row_put BK382.out) | (with_reducible refine Ag.row_far ?_ (by assumption) _) | (with_reducible refine blk_far ?_ (by assumption) _)))) Ag.info_map (Ag.agC_size _ _ _) ?_ | refine row_store2 rfl 27 _ _ rfl rfl _ rfl .u64 65 _ rfl _ 27 BK393.out Ag.info_map (Ag.agC_size _ _ _) ?_ | refine row_store2 rfl 27 _ _ rfl rfl _ rfl .u64 65 _ rfl _ 27 (by first | exact BK393.out | (repeat (first | exact BK393.out | (with_reducible exact Ag.row_put BK393.out) | (with_reducible refine Ag.row_far ?_ (by assumption) _) | (with_reducible refine blk_far ?_ (by assumption) _)))) Ag.info_map (Ag.agC_size _ _ _) ?_))
                                go_loopg [17] kj64 (fun kq v17 w' => ∃ (x17_5 : Int) (x394000_5 : (Nat → Int)), v17 = .int .i64 x17_5 ∧ Aside0 (spencelaw28_PlanOnce.l1 kq a1 a2 ((rd_T50 t389 x39_2).f1) x17_5 t389 (t389.length : Int) x39_2 t383 t386 t389 x394000_5 ((rd_T50 t389 x39_2).f0) ((rd_T50 t389 x39_2).f1) ((rd_T50 t389 x39_2).f2) = some r) ∧ Aside0 (kq ≤ kj64) ∧ Aside0 (Kd.R k50 50 w' w.heap.size (fun k_ => some k_ ≠ ((.slice Ao21 t386.length co21) : Value).ownBlock ∧ k_ ≠ gb396) (.slice (some ad395) t389.length co22) t389) ∧ Aside0 (Kd.R (Kd.int .i64) 3 w' w.heap.size (fun _ => True) (.slice Ao18 t383.length co18) t383) ∧ Aside0 (Kd.R k50 50 w' w.heap.size (fun k_ => some k_ ≠ ((.slice (some ad395) t389.length co22) : Value).ownBlock ∧ some k_ ≠ ((.slice (some ad395) t389.length co22) : Value).ownBlock ∧ k_ ≠ gb396) (.slice Ao21 t386.length co21) t386) ∧ Aside0 (Kd.R k50 50 w' w.heap.size (fun k_ => some k_ ≠ ((.slice Ao21 t386.length co21) : Value).ownBlock ∧ k_ ≠ gb396) (.slice (some ad395) t389.length co22) t389) ∧ Aside0 (w'.heap[gb382]? = some (.cells (Ag.agC .u64 65 t381) 27 (0, 0))) ∧ Aside0 (w'.heap[gb392]? = some (.cells #[(.slice Ao18 t383.length co18), (.slice Ao21 t386.length co21), (.slice (some ad395) t389.length co22)] 60 (0, 0))) ∧ Aside0 (w'.heap[gb393]? = some (.cells (Ag.agC .u64 65 x394000_5) 27 (0, 0))) ∧ Aside0 (w'.heap[gb396]? = some (.cells #[.int .i64 ((rd_T50 t389 x39_2).f0), .int .i64 ((rd_T50 t389 x39_2).f1), .bool ((rd_T50 t389 x39_2).f2)] 50 (0, 0))) ∧ Aside0 (w'.heap[gb400]? = some (.cells #[.int .i64 t397, .int .i64 t398] 53 (0, 0))) ∧ Aside0 (Below w.heap.size w w'))
                                case atStart => exact ⟨(((rd_T50 t389 x39_2).f0)), (x394000_2), (by first | rfl | (simp; done) | (simp [*]; done)), H', ⟨Nat.le_refl _⟩, ⟨by (with_reducible repeat (first | apply Kd.R_alloc | apply Kd.R_drewN | apply Kd.R_drew)); exact HO_37.out⟩, ⟨by (with_reducible repeat (first | apply Kd.R_alloc | apply Kd.R_drewN | apply Kd.R_drew)); exact HO_393000.out⟩, ⟨by (with_reducible repeat (first | apply Kd.R_alloc | apply Kd.R_drewN | apply Kd.R_drew)); exact HO_393001.out⟩, ⟨by (with_reducible repeat (first | apply Kd.R_alloc | apply Kd.R_drewN | apply Kd.R_drew)); exact HO_393002.out⟩, ⟨by (with_reducible repeat (first | refine blk_drewN ?_ _ | refine blk_drew ?_ | refine blk_alloc ?_ _)); exact BK382.out⟩, ⟨by (with_reducible repeat (first | refine blk_drewN ?_ _ | refine blk_drew ?_ | refine blk_alloc ?_ _)); exact BK392.out⟩, ⟨by (with_reducible repeat (first | refine blk_drewN ?_ _ | refine blk_drew ?_ | refine blk_alloc ?_ _)); exact BK393.out⟩, ⟨by (with_reducible repeat (first | refine blk_drewN ?_ _ | refine blk_drew ?_ | refine blk_alloc ?_ _)); exact BK396.out⟩, ⟨by (with_reducible repeat (first | refine blk_drewN ?_ _ | refine blk_drew ?_ | refine blk_alloc ?_ _)); exact BK400.out⟩, ⟨by repeat (first | (with_reducible first | exact HB.out | apply below_alloc | apply pw_below_drewN | apply below_drew1 | refine below_set ?_ GE382.out | refine Ag.row_below ?_ GE382.out | refine below_set ?_ GE392.out | refine Ag.row_below ?_ GE392.out | refine below_set ?_ GE393.out | refine Ag.row_below ?_ GE393.out | refine below_set ?_ GE396.out | refine Ag.row_below ?_ GE396.out | refine below_set ?_ GE400.out | refine Ag.row_below ?_ GE400.out) | exact HB.out)⟩⟩
                                case round =>
                                  clear H'
                                  try clear c1
                                  try clear c2
                                  try clear p2
                                  try clear c3
                                  try clear p3
                                  try clear q3
                                  try clear hx3
                                  try clear c4
                                  try clear c5
                                  try clear c6
                                  try clear p6
                                  try clear c7
                                  try clear c8
                                  try clear c9
                                  try clear c9b0
                                  try clear c9b1
                                  try clear c10
                                  try clear c19
                                  try clear c25
                                  try clear c26
                                  try clear c29
                                  try clear c29b0
                                  try clear c30
                                  try clear c30b0
                                  try clear c31
                                  try clear c31b0
                                  try clear c33
                                  try clear c34
                                  try clear c35
                                  try clear c36
                                  try clear q38
                                  try clear c39
                                  try clear p39
                                  try clear q39
                                  try clear hx39
                                  try clear c40
                                  try clear c41
                                  try clear c42
                                  try clear c44
                                  try clear c44b0
                                  try clear c45
                                  try clear c46
                                  try clear c47
                                  try clear c49
                                  try clear c49b0
                                  try clear c50
                                  try clear c51
                                  try clear c52
                                  try clear c54
                                  try clear c54b0
                                  try clear c55
                                  try clear c56
                                  try clear c57
                                  try clear c59
                                  try clear c60
                                  try clear c61
                                  try clear c63
                                  try clear p64
                                  try clear c66
                                  try clear c67
                                  try clear c68
                                  try clear c72
                                  try clear c73
                                  try clear c74
                                  try clear c75
                                  try clear c77
                                  try clear c78
                                  try clear c78b0
                                  try clear c79
                                  try clear c80
                                  try clear c81
                                  try clear c82
                                  try clear c84
                                  try clear c84b0
                                  try clear c85
                                  try clear c86
                                  try clear c87
                                  try clear c88
                                  try clear c90
                                  try clear c91
                                  try clear c92
                                  try clear c93
                                  try clear c95
                                  try clear c96
                                  try clear c97
                                  try clear c98
                                  try clear c99
                                  try clear hcz100_0
                                  try clear hcz100_1
                                  try clear hcz100_2
                                  try clear hcz15_0
                                  try clear hcz20_0
                                  try clear hcz20_1
                                  try clear hcz20_2
                                  try clear hcz23_0
                                  try clear hcz27_0
                                  try clear hcz28_0
                                  try clear hcz28_1
                                  try clear hcz28_2
                                  try clear hcz37_0
                                  try clear hcz37_1
                                  try clear hcz37_2
                                  try clear hcz43_0
                                  try clear hcz43_1
                                  try clear hcz43_2
                                  try clear hcz48_0
                                  try clear hcz48_1
                                  try clear hcz48_2
                                  try clear hcz53_0
                                  try clear hcz53_1
                                  try clear hcz53_2
                                  try clear hcz58_0
                                  try clear hcz58_1
                                  try clear hcz58_2
                                  try clear hcz62_0
                                  try clear hcz62_1
                                  try clear hcz62_2
                                  try clear hcz69_0
                                  try clear hcz69_1
                                  try clear hcz69_2
                                  try clear hcz76_0
                                  try clear hcz76_1
                                  try clear hcz83_0
                                  try clear hcz83_1
                                  try clear hcz89_0
                                  try clear hcz89_1
                                  try clear hcz94_0
                                  try clear hcz94_1
                                  try clear hfz100_0
                                  try clear hfz100_1
                                  try clear hfz100_2
                                  try clear hfz15_0
                                  try clear hfz20_0
                                  try clear hfz20_1
                                  try clear hfz20_2
                                  try clear hfz23_0
                                  try clear hfz27_0
                                  try clear hfz28_0
                                  try clear hfz28_1
                                  try clear hfz28_2
                                  try clear hfz37_0
                                  try clear hfz37_1
                                  try clear hfz37_2
                                  try clear hfz43_0
                                  try clear hfz43_1
                                  try clear hfz43_2
                                  try clear hfz48_0
                                  try clear hfz48_1
                                  try clear hfz48_2
                                  try clear hfz53_0
                                  try clear hfz53_1
                                  try clear hfz53_2
                                  try clear hfz58_0
                                  try clear hfz58_1
                                  try clear hfz58_2
                                  try clear hfz62_0
                                  try clear hfz62_1
                                  try clear hfz62_2
                                  try clear hfz69_0
                                  try clear hfz69_1
                                  try clear hfz69_2
                                  try clear hfz76_0
                                  try clear hfz76_1
                                  try clear hfz83_0
                                  try clear hfz83_1
                                  try clear hfz89_0
                                  try clear hfz89_1
                                  try clear hfz94_0
                                  try clear hfz94_1
                                  try clear hx395_0
                                  try clear hx395_1
                                  try clear hx395_2
                                  try clear p2
                                  try clear p3
                                  try clear p39
                                  try clear p395
                                  try clear p6
                                  try clear p64
                                  try clear q3
                                  try clear q38
                                  try clear q39
                                  try clear q395
                                  obtain ⟨x17_5, x394000_5, rfl, HA, HK5, HO_37, HO_393000, HO_393001, HO_393002, BK382, BK392, BK393, BK396, BK400, HB⟩ := hrel
                                  cases gk with
                                  | zero => exact absurd HA.out (by simp [spencelaw28_PlanOnce.l1])
                                  | succ k5 =>
                                    have H := HA.out
                                    clear HA
                                    simp only [spencelaw28_PlanOnce.l1] at H
                                    by_cases c101 : x17_5 < ((rd_T50 t389 x39_2).f1)
                                    · rw [if_pos c101] at H
                                      have c101b0 : decide (x17_5 < ((rd_T50 t389 x39_2).f1)) = true := decide_eq_true c101
                                      clear c101
                                      replace H := Option.bind_eq_some_iff.mp H
                                      obtain ⟨t401, A1020, H⟩ := H
                                      replace H : (if t401 = true then (some false) else ((bitmap_Map_With.f x394000_5 x17_5).bind fun t402 => (spencelaw28_PlanOnce.l1 k5 a1 a2 ((rd_T50 t389 x39_2).f1) (wrap64 (x17_5 + 1)) t389 (t389.length : Int) x39_2 t383 t386 t389 t402 ((rd_T50 t389 x39_2).f0) ((rd_T50 t389 x39_2).f1) ((rd_T50 t389 x39_2).f2)))) = some r := H
                                      have A102 := Aside0.mk A1020
                                      clear A1020
                                      by_cases c103 : t401 = true
                                      · subst c103
                                        have H1 : (some false) = some r := by rw [if_pos rfl] at H; exact H
                                        clear H
                                        have H := H1
                                        clear H1
                                        exact absurd H (by rw [HRT_.out]; simp)
                                      · replace c103 := Bool.eq_false_iff.mpr c103
                                        subst c103
                                        have H1 : ((bitmap_Map_With.f x394000_5 x17_5).bind fun t402 => (spencelaw28_PlanOnce.l1 k5 a1 a2 ((rd_T50 t389 x39_2).f1) (wrap64 (x17_5 + 1)) t389 (t389.length : Int) x39_2 t383 t386 t389 t402 ((rd_T50 t389 x39_2).f0) ((rd_T50 t389 x39_2).f1) ((rd_T50 t389 x39_2).f2))) = some r := by rw [if_neg (show ¬ (false = true) by decide)] at H; exact H
                                        clear H
                                        have H := H1
                                        clear H1
                                        replace H := Option.bind_eq_some_iff.mp H
                                        obtain ⟨t402, A1140, H⟩ := H
                                        replace H : (spencelaw28_PlanOnce.l1 k5 a1 a2 ((rd_T50 t389 x39_2).f1) (wrap64 (x17_5 + 1)) t389 (t389.length : Int) x39_2 t383 t386 t389 t402 ((rd_T50 t389 x39_2).f0) ((rd_T50 t389 x39_2).f1) ((rd_T50 t389 x39_2).f2)) = some r := H
                                        have A114 := Aside0.mk A1140
                                        clear A1140
                                        have H' := Aside0.mk H
                                        clear H
                                        have hnb115 := NB396_382.out
                                        have hnc115 := NB382_396.out
                                        have hnb116 := NB396_392.out
                                        have hnc116 := NB392_396.out
                                        have hnb117 := NB396_393.out
                                        have hnc117 := NB393_396.out
                                        have hnb118 := NB396_400.out
                                        have hnc118 := NB400_396.out
                                        have hcz119_0 : wr.cell? ⟨gb396, 0, none⟩ = some (.int .i64 ((rd_T50 t389 x39_2).f0)) := (blk_cell BK396.out 0).trans rfl
                                        have hcz119_1 : wr.cell? ⟨gb396, 1, none⟩ = some (.int .i64 ((rd_T50 t389 x39_2).f1)) := (blk_cell BK396.out 1).trans rfl
                                        have hcz119_2 : wr.cell? ⟨gb396, 2, none⟩ = some (.bool ((rd_T50 t389 x39_2).f2)) := (blk_cell BK396.out 2).trans rfl
                                        have hfz119_0 := blk_frozen BK396.out 0
                                        have hfz119_1 := blk_frozen BK396.out 1
                                        have hfz119_2 := blk_frozen BK396.out 2
                                        have hnb120 := NB393_382.out
                                        have hnc120 := NB382_393.out
                                        have hnb121 := NB393_392.out
                                        have hnc121 := NB392_393.out
                                        have hnb122 := NB393_400.out
                                        have hnc122 := NB400_393.out
                                        go_wp2_with (first | ((with_reducible refine ag_gate (t := 27) rfl ?_); refine row_load rfl 27 _ rfl _ rfl .u64 65 _ 27 _ BK393.out Tryd.underlying27 rfl Ag.info_map ?_) | ((with_reducible refine gate_callee (f := 17) rfl ?_); refine goesL_ (some 110) rfl rfl Tryd.func17 (by kernel_rfl) rfl #[.agg (Ag.agC .u64 65 x394000_5), .int .i64 x17_5] rfl (by (try simp only [List.map_toArray, List.map_cons, List.map_nil]); first | done | rfl | (simp only [List.length_drop, List.length_take]; rfl)) ?_; (with_reducible refine (bitmap_Map_Has.calls x394000_5 x17_5 false _ A102.out).mono ?_); rintro e w124 ⟨rfl, hb⟩; refine ⟨_, rfl, ?_⟩; have n0_ := Aside0.mk (Kd.R_below (by (with_reducible repeat (first | apply Kd.R_alloc | apply Kd.R_drewN | apply Kd.R_drew)); exact HO_37.out) hb); have n1_ := Aside0.mk (Kd.R_below (by (with_reducible repeat (first | apply Kd.R_alloc | apply Kd.R_drewN | apply Kd.R_drew)); exact HO_393000.out) hb); have n2_ := Aside0.mk (Kd.R_below (by (with_reducible repeat (first | apply Kd.R_alloc | apply Kd.R_drewN | apply Kd.R_drew)); exact HO_393001.out) hb); have n3_ := Aside0.mk (Kd.R_below (by (with_reducible repeat (first | apply Kd.R_alloc | apply Kd.R_drewN | apply Kd.R_drew)); exact HO_393002.out) hb); have n4_ := Aside0.mk (blk_below (g := gb382) (o := .cells (Ag.agC .u64 65 t381) 27 (0, 0)) (by (with_reducible repeat (first | refine blk_drewN ?_ _ | refine blk_drew ?_ | refine blk_alloc ?_ _)); exact BK382.out) hb); have n5_ := Aside0.mk (blk_below (g := gb392) (o := .cells #[.slice Ao18 t383.length co18, .slice Ao21 t386.length co21, .slice (some ad395) t389.length co22] 60 (0, 0)) (by (with_reducible repeat (first | refine blk_drewN ?_ _ | refine blk_drew ?_ | refine blk_alloc ?_ _)); exact BK392.out) hb); have n6_ := Aside0.mk (blk_below (g := gb393) (o := .cells (Ag.agC .u64 65 x394000_5) 27 (0, 0)) (by (with_reducible repeat (first | refine blk_drewN ?_ _ | refine blk_drew ?_ | refine blk_alloc ?_ _)); exact BK393.out) hb); have n7_ := Aside0.mk (blk_below (g := gb396) (o := .cells #[.int .i64 ((rd_T50 t389 x39_2).f0), .int .i64 ((rd_T50 t389 x39_2).f1), .bool ((rd_T50 t389 x39_2).f2)] 50 (0, 0)) (by (with_reducible repeat (first | refine blk_drewN ?_ _ | refine blk_drew ?_ | refine blk_alloc ?_ _)); exact BK396.out) hb); have n8_ := Aside0.mk (blk_below (g := gb400) (o := .cells #[.int .i64 t397, .int .i64 t398] 53 (0, 0)) (by (with_reducible repeat (first | refine blk_drewN ?_ _ | refine blk_drew ?_ | refine blk_alloc ?_ _)); exact BK400.out) hb); have n9_ := Aside0.mk (below_step (by repeat (first | (with_reducible first | exact HB.out | apply below_alloc | apply pw_below_drewN | apply below_drew1 | refine below_set ?_ GE382.out | refine Ag.row_below ?_ GE382.out | refine below_set ?_ GE392.out | refine Ag.row_below ?_ GE392.out | refine below_set ?_ GE393.out | refine Ag.row_below ?_ GE393.out | refine below_set ?_ GE396.out | refine Ag.row_below ?_ GE396.out | refine below_set ?_ GE400.out | refine Ag.row_below ?_ GE400.out) | exact HB.out)) hb); clear HO_37; clear HO_393000; clear HO_393001; clear HO_393002; clear BK382; clear BK392; clear BK393; clear BK396; clear BK400; clear HB; have HO_37 := n0_; have HO_393000 := n1_; have HO_393001 := n2_; have HO_393002 := n3_; have BK382 := n4_; have BK392 := n5_; have BK393 := n6_; have BK396 := n7_; have BK400 := n8_; have HB := n9_; clear n0_ n1_ n2_ n3_ n4_ n5_ n6_ n7_ n8_ n9_; (try clear hb); (try clear hb2); (try clear hk); (try clear hi); have hfz125_0 := blk_frozen BK393.out 0) | ((with_reducible refine gate_callee (f := 18) rfl ?_); refine goesL_ (some 113) rfl rfl Tryd.func18 (by kernel_rfl) rfl #[.agg (Ag.agC .u64 65 x394000_5), .int .i64 x17_5] rfl (by (try simp only [List.map_toArray, List.map_cons, List.map_nil]); first | done | rfl | (simp only [List.length_drop, List.length_take]; rfl)) ?_; (with_reducible refine (bitmap_Map_With.calls x394000_5 x17_5 t402 _ A114.out).mono ?_); rintro e w126 ⟨rfl, hb⟩; refine ⟨_, rfl, ?_⟩; have n0_ := Aside0.mk (Kd.R_below (by (with_reducible repeat (first | apply Kd.R_alloc | apply Kd.R_drewN | apply Kd.R_drew)); exact HO_37.out) hb); have n1_ := Aside0.mk (Kd.R_below (by (with_reducible repeat (first | apply Kd.R_alloc | apply Kd.R_drewN | apply Kd.R_drew)); exact HO_393000.out) hb); have n2_ := Aside0.mk (Kd.R_below (by (with_reducible repeat (first | apply Kd.R_alloc | apply Kd.R_drewN | apply Kd.R_drew)); exact HO_393001.out) hb); have n3_ := Aside0.mk (Kd.R_below (by (with_reducible repeat (first | apply Kd.R_alloc | apply Kd.R_drewN | apply Kd.R_drew)); exact HO_393002.out) hb); have n4_ := Aside0.mk (blk_below (g := gb382) (o := .cells (Ag.agC .u64 65 t381) 27 (0, 0)) (by (with_reducible repeat (first | refine blk_drewN ?_ _ | refine blk_drew ?_ | refine blk_alloc ?_ _)); exact BK382.out) hb); have n5_ := Aside0.mk (blk_below (g := gb392) (o := .cells #[.slice Ao18 t383.length co18, .slice Ao21 t386.length co21, .slice (some ad395) t389.length co22] 60 (0, 0)) (by (with_reducible repeat (first | refine blk_drewN ?_ _ | refine blk_drew ?_ | refine blk_alloc ?_ _)); exact BK392.out) hb); have n6_ := Aside0.mk (blk_below (g := gb393) (o := .cells (Ag.agC .u64 65 x394000_5) 27 (0, 0)) (by (with_reducible repeat (first | refine blk_drewN ?_ _ | refine blk_drew ?_ | refine blk_alloc ?_ _)); exact BK393.out) hb); have n7_ := Aside0.mk (blk_below (g := gb396) (o := .cells #[.int .i64 ((rd_T50 t389 x39_2).f0), .int .i64 ((rd_T50 t389 x39_2).f1), .bool ((rd_T50 t389 x39_2).f2)] 50 (0, 0)) (by (with_reducible repeat (first | refine blk_drewN ?_ _ | refine blk_drew ?_ | refine blk_alloc ?_ _)); exact BK396.out) hb); have n8_ := Aside0.mk (blk_below (g := gb400) (o := .cells #[.int .i64 t397, .int .i64 t398] 53 (0, 0)) (by (with_reducible repeat (first | refine blk_drewN ?_ _ | refine blk_drew ?_ | refine blk_alloc ?_ _)); exact BK400.out) hb); have n9_ := Aside0.mk (below_step (by repeat (first | (with_reducible first | exact HB.out | apply below_alloc | apply pw_below_drewN | apply below_drew1 | refine below_set ?_ GE382.out | refine Ag.row_below ?_ GE382.out | refine below_set ?_ GE392.out | refine Ag.row_below ?_ GE392.out | refine below_set ?_ GE393.out | refine Ag.row_below ?_ GE393.out | refine below_set ?_ GE396.out | refine Ag.row_below ?_ GE396.out | refine below_set ?_ GE400.out | refine Ag.row_below ?_ GE400.out) | exact HB.out)) hb); clear HO_37; clear HO_393000; clear HO_393001; clear HO_393002; clear BK382; clear BK392; clear BK393; clear BK396; clear BK400; clear HB; have HO_37 := n0_; have HO_393000 := n1_; have HO_393001 := n2_; have HO_393002 := n3_; have BK382 := n4_; have BK392 := n5_; have BK393 := n6_; have BK396 := n7_; have BK400 := n8_; have HB := n9_; clear n0_ n1_ n2_ n3_ n4_ n5_ n6_ n7_ n8_ n9_; (try clear hb); (try clear hb2); (try clear hk); (try clear hi); have hfz127_0 := blk_frozen BK393.out 0) | ((with_reducible refine ag_gate_st (t := 27) rfl ?_); refine row_store2 rfl 27 _ _ rfl rfl _ rfl .u64 65 _ rfl _ 27 BK393.out Ag.info_map (Ag.agC_size _ _ _) ?_))
                                        go_roundg k5
                                        case measure => have := HJ6.out; have := HK2.out; have := HJ31.out; have := HJ64.out; have := HK5.out; omega
                                        case rel => exact ⟨(wrap64 (x17_5 + 1)), (t402), (by first | rfl | (simp; done) | (simp [*]; done)), H', ⟨by have := HJ6.out; have := HK2.out; have := HJ31.out; have := HJ64.out; have := HK5.out; omega⟩, ⟨by (with_reducible repeat (first | apply Kd.R_alloc | apply Kd.R_drewN | apply Kd.R_drew)); exact Kd.R_mono (Ag.R_row (g := gb393) (Kd.R_types HO_37.out BK393.out (by decide)) (fun _ hk => hk.2) (Ag.agC .u64 65 t402)) (fun _ hk => ⟨hk.1.1, hk.1.2⟩)⟩, ⟨by (with_reducible repeat (first | apply Kd.R_alloc | apply Kd.R_drewN | apply Kd.R_drew)); exact Kd.R_mono (Ag.R_row (g := gb393) (Kd.R_types HO_393000.out BK393.out (by decide)) (fun _ hk => hk.2) (Ag.agC .u64 65 t402)) (fun _ hk => trivial)⟩, ⟨by (with_reducible repeat (first | apply Kd.R_alloc | apply Kd.R_drewN | apply Kd.R_drew)); exact Kd.R_mono (Ag.R_row (g := gb393) (Kd.R_types HO_393001.out BK393.out (by decide)) (fun _ hk => hk.2) (Ag.agC .u64 65 t402)) (fun _ hk => ⟨hk.1.1, ⟨hk.1.2.1, hk.1.2.2⟩⟩)⟩, ⟨by (with_reducible repeat (first | apply Kd.R_alloc | apply Kd.R_drewN | apply Kd.R_drew)); exact Kd.R_mono (Ag.R_row (g := gb393) (Kd.R_types HO_393002.out BK393.out (by decide)) (fun _ hk => hk.2) (Ag.agC .u64 65 t402)) (fun _ hk => ⟨hk.1.1, hk.1.2⟩)⟩, ⟨by (with_reducible repeat (first | refine blk_drewN ?_ _ | refine blk_drew ?_ | refine blk_alloc ?_ _)); (first | (with_reducible refine Ag.row_far ?_ NB382_393.out _) | refine blk_far ?_ NB382_393.out _); (with_reducible repeat (first | refine blk_drewN ?_ _ | refine blk_drew ?_ | refine blk_alloc ?_ _)); exact BK382.out⟩, ⟨by (with_reducible repeat (first | refine blk_drewN ?_ _ | refine blk_drew ?_ | refine blk_alloc ?_ _)); (first | (with_reducible refine Ag.row_far ?_ NB392_393.out _) | refine blk_far ?_ NB392_393.out _); (with_reducible repeat (first | refine blk_drewN ?_ _ | refine blk_drew ?_ | refine blk_alloc ?_ _)); exact BK392.out⟩, ⟨by (with_reducible repeat (first | refine blk_drewN ?_ _ | refine blk_drew ?_ | refine blk_alloc ?_ _)); refine Ag.row_put (old := (Ag.agC .u64 65 x394000_5)) ?_; (with_reducible repeat (first | refine blk_drewN ?_ _ | refine blk_drew ?_ | refine blk_alloc ?_ _)); exact BK393.out⟩, ⟨by (with_reducible repeat (first | refine blk_drewN ?_ _ | refine blk_drew ?_ | refine blk_alloc ?_ _)); (first | (with_reducible refine Ag.row_far ?_ NB396_393.out _) | refine blk_far ?_ NB396_393.out _); (with_reducible repeat (first | refine blk_drewN ?_ _ | refine blk_drew ?_ | refine blk_alloc ?_ _)); exact BK396.out⟩, ⟨by (with_reducible repeat (first | refine blk_drewN ?_ _ | refine blk_drew ?_ | refine blk_alloc ?_ _)); (first | (with_reducible refine Ag.row_far ?_ NB400_393.out _) | refine blk_far ?_ NB400_393.out _); (with_reducible repeat (first | refine blk_drewN ?_ _ | refine blk_drew ?_ | refine blk_alloc ?_ _)); exact BK400.out⟩, ⟨by repeat (first | (with_reducible first | exact HB.out | apply below_alloc | apply pw_below_drewN | apply below_drew1 | refine below_set ?_ GE382.out | refine Ag.row_below ?_ GE382.out | refine below_set ?_ GE392.out | refine Ag.row_below ?_ GE392.out | refine below_set ?_ GE393.out | refine Ag.row_below ?_ GE393.out | refine below_set ?_ GE396.out | refine Ag.row_below ?_ GE396.out | refine below_set ?_ GE400.out | refine Ag.row_below ?_ GE400.out) | exact HB.out)⟩⟩
                                    · rw [if_neg c101] at H
                                      have c101b0 : decide (x17_5 < ((rd_T50 t389 x39_2).f1)) = false := decide_eq_false c101
                                      clear c101
                                      have H' := Aside0.mk H
                                      clear H
                                      have hnb128 := NB396_382.out
                                      have hnc128 := NB382_396.out
                                      have hnb129 := NB396_392.out
                                      have hnc129 := NB392_396.out
                                      have hnb130 := NB396_393.out
                                      have hnc130 := NB393_396.out
                                      have hnb131 := NB396_400.out
                                      have hnc131 := NB400_396.out
                                      have hcz132_0 : wr.cell? ⟨gb396, 0, none⟩ = some (.int .i64 ((rd_T50 t389 x39_2).f0)) := (blk_cell BK396.out 0).trans rfl
                                      have hcz132_1 : wr.cell? ⟨gb396, 1, none⟩ = some (.int .i64 ((rd_T50 t389 x39_2).f1)) := (blk_cell BK396.out 1).trans rfl
                                      have hcz132_2 : wr.cell? ⟨gb396, 2, none⟩ = some (.bool ((rd_T50 t389 x39_2).f2)) := (blk_cell BK396.out 2).trans rfl
                                      have hfz132_0 := blk_frozen BK396.out 0
                                      have hfz132_1 := blk_frozen BK396.out 1
                                      have hfz132_2 := blk_frozen BK396.out 2
                                      go_wp2_with (first | ((with_reducible refine ag_gate (t := 27) rfl ?_); first | refine row_load rfl 27 _ rfl _ rfl .u64 65 _ 27 _ BK382.out Tryd.underlying27 rfl Ag.info_map ?_ | refine row_load rfl 27 _ rfl _ rfl .u64 65 _ 27 _ (by first | exact BK382.out | (repeat (first | exact BK382.out | (with_reducible exact Ag.row_put BK382.out) | (with_reducible refine Ag.row_far ?_ (by assumption) _) | (with_reducible refine blk_far ?_ (by assumption) _)))) Tryd.underlying27 rfl Ag.info_map ?_ | refine row_load rfl 27 _ rfl _ rfl .u64 65 _ 27 _ BK393.out Tryd.underlying27 rfl Ag.info_map ?_ | refine row_load rfl 27 _ rfl _ rfl .u64 65 _ 27 _ (by first | exact BK393.out | (repeat (first | exact BK393.out | (with_reducible exact Ag.row_put BK393.out) | (with_reducible refine Ag.row_far ?_ (by assumption) _) | (with_reducible refine blk_far ?_ (by assumption) _)))) Tryd.underlying27 rfl Ag.info_map ?_) | ((with_reducible refine ag_gate_st (t := 27) rfl ?_); first | refine row_store2 rfl 27 _ _ rfl rfl _ rfl .u64 65 _ rfl _ 27 BK382.out Ag.info_map (Ag.agC_size _ _ _) ?_ | refine row_store2 rfl 27 _ _ rfl rfl _ rfl .u64 65 _ rfl _ 27 (by first | exact BK382.out | (repeat (first | exact BK382.out | (with_reducible exact Ag.row_put BK382.out) | (with_reducible refine Ag.row_far ?_ (by assumption) _) | (with_reducible refine blk_far ?_ (by assumption) _)))) Ag.info_map (Ag.agC_size _ _ _) ?_ | refine row_store2 rfl 27 _ _ rfl rfl _ rfl .u64 65 _ rfl _ 27 BK393.out Ag.info_map (Ag.agC_size _ _ _) ?_ | refine row_store2 rfl 27 _ _ rfl rfl _ rfl .u64 65 _ rfl _ 27 (by first | exact BK393.out | (repeat (first | exact BK393.out | (with_reducible exact Ag.row_put BK393.out) | (with_reducible refine Ag.row_far ?_ (by assumption) _) | (with_reducible refine blk_far ?_ (by assumption) _)))) Ag.info_map (Ag.agC_size _ _ _) ?_))
                                      go_roundg k5
                                      case measure => have := HJ6.out; have := HK2.out; have := HJ31.out; have := HJ64.out; have := HK5.out; omega
                                      case rel => exact ⟨(((rd_T50 t389 x39_2).f1)), (wrap64 (x39_2 + 1)), (x394000_5), (by first | rfl | (simp; done) | (simp [*]; done)), (by first | rfl | (simp; done) | (simp [*]; done)), H', ⟨by have := HJ6.out; have := HK2.out; have := HJ31.out; have := HJ64.out; have := HK5.out; omega⟩, ⟨by (with_reducible repeat (first | apply Kd.R_alloc | apply Kd.R_drewN | apply Kd.R_drew)); exact Kd.R_mono HO_37.out (fun _ hk => hk.1)⟩, ⟨by (with_reducible repeat (first | apply Kd.R_alloc | apply Kd.R_drewN | apply Kd.R_drew)); exact HO_393000.out⟩, ⟨by (with_reducible repeat (first | apply Kd.R_alloc | apply Kd.R_drewN | apply Kd.R_drew)); exact Kd.R_mono HO_393001.out (fun _ hk => ⟨hk.1, hk.2.1⟩)⟩, ⟨by (with_reducible repeat (first | apply Kd.R_alloc | apply Kd.R_drewN | apply Kd.R_drew)); exact Kd.R_mono HO_393002.out (fun _ hk => hk.1)⟩, ⟨by (with_reducible repeat (first | refine blk_drewN ?_ _ | refine blk_drew ?_ | refine blk_alloc ?_ _)); exact BK382.out⟩, ⟨by (with_reducible repeat (first | refine blk_drewN ?_ _ | refine blk_drew ?_ | refine blk_alloc ?_ _)); exact BK392.out⟩, ⟨by (with_reducible repeat (first | refine blk_drewN ?_ _ | refine blk_drew ?_ | refine blk_alloc ?_ _)); exact BK393.out⟩, ⟨by repeat (first | (with_reducible first | exact HB.out | apply below_alloc | apply pw_below_drewN | apply below_drew1 | refine below_set ?_ GE382.out | refine Ag.row_below ?_ GE382.out | refine below_set ?_ GE392.out | refine Ag.row_below ?_ GE392.out | refine below_set ?_ GE393.out | refine Ag.row_below ?_ GE393.out | refine below_set ?_ GE396.out | refine Ag.row_below ?_ GE396.out | refine below_set ?_ GE400.out | refine Ag.row_below ?_ GE400.out) | exact HB.out)⟩⟩
                  · rw [if_neg c31] at H
                    exact absurd H (by simp)
                · rw [if_neg c30] at H
                  exact absurd H (by simp)
              · rw [if_neg c29] at H
                have c29b0 : decide (x39_2 < (t389.length : Int)) = false := decide_eq_false c29
                clear c29
                replace H := Option.bind_eq_some_iff.mp H
                obtain ⟨t394, A1330, H⟩ := H
                replace H : (some t394) = some r := H
                have A133 := Aside0.mk A1330
                clear A1330
                obtain rfl := Option.some.inj H
                have hnb134 := NB392_382.out
                have hnc134 := NB382_392.out
                have hnb135 := NB392_393.out
                have hnc135 := NB393_392.out
                have hcz136_0 : wr.cell? ⟨gb392, 0, none⟩ = some (.slice Ao18 t383.length co18) := (blk_cell BK392.out 0).trans rfl
                have hcz136_1 : wr.cell? ⟨gb392, 1, none⟩ = some (.slice Ao21 t386.length co21) := (blk_cell BK392.out 1).trans rfl
                have hcz136_2 : wr.cell? ⟨gb392, 2, none⟩ = some (.slice Ao22 t389.length co22) := (blk_cell BK392.out 2).trans rfl
                have hfz136_0 := blk_frozen BK392.out 0
                have hfz136_1 := blk_frozen BK392.out 1
                have hfz136_2 := blk_frozen BK392.out 2
                have hnb137 := NB393_382.out
                have hnc137 := NB382_393.out
                go_wp2_with (first | ((with_reducible refine ag_gate (t := 27) rfl ?_); first | refine row_load rfl 27 _ rfl _ rfl .u64 65 _ 27 _ BK382.out Tryd.underlying27 rfl Ag.info_map ?_ | refine row_load rfl 27 _ rfl _ rfl .u64 65 _ 27 _ (by first | exact BK382.out | (repeat (first | exact BK382.out | (with_reducible exact Ag.row_put BK382.out) | (with_reducible refine Ag.row_far ?_ (by assumption) _) | (with_reducible refine blk_far ?_ (by assumption) _)))) Tryd.underlying27 rfl Ag.info_map ?_ | refine row_load rfl 27 _ rfl _ rfl .u64 65 _ 27 _ BK393.out Tryd.underlying27 rfl Ag.info_map ?_ | refine row_load rfl 27 _ rfl _ rfl .u64 65 _ 27 _ (by first | exact BK393.out | (repeat (first | exact BK393.out | (with_reducible exact Ag.row_put BK393.out) | (with_reducible refine Ag.row_far ?_ (by assumption) _) | (with_reducible refine blk_far ?_ (by assumption) _)))) Tryd.underlying27 rfl Ag.info_map ?_) | ((with_reducible refine ag_gate_st (t := 27) rfl ?_); first | refine row_store2 rfl 27 _ _ rfl rfl _ rfl .u64 65 _ rfl _ 27 BK382.out Ag.info_map (Ag.agC_size _ _ _) ?_ | refine row_store2 rfl 27 _ _ rfl rfl _ rfl .u64 65 _ rfl _ 27 (by first | exact BK382.out | (repeat (first | exact BK382.out | (with_reducible exact Ag.row_put BK382.out) | (with_reducible refine Ag.row_far ?_ (by assumption) _) | (with_reducible refine blk_far ?_ (by assumption) _)))) Ag.info_map (Ag.agC_size _ _ _) ?_ | refine row_store2 rfl 27 _ _ rfl rfl _ rfl .u64 65 _ rfl _ 27 BK393.out Ag.info_map (Ag.agC_size _ _ _) ?_ | refine row_store2 rfl 27 _ _ rfl rfl _ rfl .u64 65 _ rfl _ 27 (by first | exact BK393.out | (repeat (first | exact BK393.out | (with_reducible exact Ag.row_put BK393.out) | (with_reducible refine Ag.row_far ?_ (by assumption) _) | (with_reducible refine blk_far ?_ (by assumption) _)))) Ag.info_map (Ag.agC_size _ _ _) ?_) | ((with_reducible refine gate_callee (f := 37) rfl ?_); refine goesL_ (some 117) rfl rfl Tryd.func37 (by kernel_rfl) rfl #[.agg #[.slice Ao18 t383.length co18, .slice Ao21 t386.length co21, .slice Ao22 t389.length co22], .agg (Ag.agC .u64 65 x394000_2)] rfl (by (try simp only [List.map_toArray, List.map_cons, List.map_nil]); first | done | rfl | (simp only [List.length_drop, List.length_take]; rfl)) ?_; (with_reducible refine (plan_Ready.calls _ _ t383 _ _ t386 _ _ t389 x394000_2 t394 _ ?side1 ?side2 ?side3 ?side4 ?side5 ?side6 A133.out).mono ?_); (case side1 => repeat (first | exact (Kd.R_reads' HO_393000.out).2.2 | (with_reducible refine Kd.C_alloc ?_ _) | (with_reducible refine Kd.C_drewN ?_ _) | (with_reducible refine Kd.C_drew ?_))); (case side2 => exact (Kd.R_reads' HO_393000.out).2.1); (case side3 => repeat (first | exact (Kd.R_reads' HO_393001.out).2.2 | (with_reducible refine Kd.C_alloc ?_ _) | (with_reducible refine Kd.C_drewN ?_ _) | (with_reducible refine Kd.C_drew ?_))); (case side4 => exact (Kd.R_reads' HO_393001.out).2.1); (case side5 => repeat (first | exact (Kd.R_reads' HO_393002.out).2.2 | (with_reducible refine Kd.C_alloc ?_ _) | (with_reducible refine Kd.C_drewN ?_ _) | (with_reducible refine Kd.C_drew ?_))); (case side6 => exact (Kd.R_reads' HO_393002.out).2.1); rintro e w139 ⟨rfl, hb⟩; refine ⟨_, rfl, ?_⟩; have n0_ := Aside0.mk (Kd.R_below (by (with_reducible repeat (first | apply Kd.R_alloc | apply Kd.R_drewN | apply Kd.R_drew)); exact HO_37.out) hb); have n1_ := Aside0.mk (Kd.R_below (by (with_reducible repeat (first | apply Kd.R_alloc | apply Kd.R_drewN | apply Kd.R_drew)); exact HO_393000.out) hb); have n2_ := Aside0.mk (Kd.R_below (by (with_reducible repeat (first | apply Kd.R_alloc | apply Kd.R_drewN | apply Kd.R_drew)); exact HO_393001.out) hb); have n3_ := Aside0.mk (Kd.R_below (by (with_reducible repeat (first | apply Kd.R_alloc | apply Kd.R_drewN | apply Kd.R_drew)); exact HO_393002.out) hb); have n4_ := Aside0.mk (blk_below (g := gb382) (o := .cells (Ag.agC .u64 65 t381) 27 (0, 0)) (by (with_reducible repeat (first | refine blk_drewN ?_ _ | refine blk_drew ?_ | refine blk_alloc ?_ _)); exact BK382.out) hb); have n5_ := Aside0.mk (blk_below (g := gb392) (o := .cells #[.slice Ao18 t383.length co18, .slice Ao21 t386.length co21, .slice Ao22 t389.length co22] 60 (0, 0)) (by (with_reducible repeat (first | refine blk_drewN ?_ _ | refine blk_drew ?_ | refine blk_alloc ?_ _)); exact BK392.out) hb); have n6_ := Aside0.mk (blk_below (g := gb393) (o := .cells (Ag.agC .u64 65 x394000_2) 27 (0, 0)) (by (with_reducible repeat (first | refine blk_drewN ?_ _ | refine blk_drew ?_ | refine blk_alloc ?_ _)); exact BK393.out) hb); have n7_ := Aside0.mk (below_step (by repeat (first | (with_reducible first | exact HB.out | apply below_alloc | apply pw_below_drewN | apply below_drew1 | refine below_set ?_ GE382.out | refine Ag.row_below ?_ GE382.out | refine below_set ?_ GE392.out | refine Ag.row_below ?_ GE392.out | refine below_set ?_ GE393.out | refine Ag.row_below ?_ GE393.out) | exact HB.out)) hb); clear HO_37; clear HO_393000; clear HO_393001; clear HO_393002; clear BK382; clear BK392; clear BK393; clear HB; have HO_37 := n0_; have HO_393000 := n1_; have HO_393001 := n2_; have HO_393002 := n3_; have BK382 := n4_; have BK392 := n5_; have BK393 := n6_; have HB := n7_; clear n0_ n1_ n2_ n3_ n4_ n5_ n6_ n7_; (try clear hb); (try clear hb2); (try clear hk); (try clear hi)))
                go_ret
                exact ⟨by first | rfl | exact ne_empty _ | exact eq_empty _ | (simp [errW_none, errW_some] <;> rfl) | (simp [*, errW_none, errW_some] <;> rfl), by repeat (first | (with_reducible first | exact HB.out | apply below_alloc | apply pw_below_drewN | apply below_drew1 | refine below_set ?_ GE382.out | refine Ag.row_below ?_ GE382.out | refine below_set ?_ GE392.out | refine Ag.row_below ?_ GE392.out | refine below_set ?_ GE393.out | refine Ag.row_below ?_ GE393.out) | exact HB.out)⟩
  · replace c6 := Bool.eq_false_iff.mpr c6
    subst c6
    have H1 : (some false) = some r := by rw [if_neg (show ¬ (false = true) by decide)] at H; exact H
    clear H
    have H := H1
    clear H1
    exact absurd H (by rw [HRT_.out]; simp)
/-- THE ONE PURE STATEMENT of spencelaw28_PlanOnce. -/
def spencelaw28_PlanOnce.Pure : Prop := ∀ (l0 : List (S53)) (a1 : Int) (a2 : Int) (l3 : List Int), l0.length * 16 ≤ 140737488351232 → (∀ x ∈ l0, ((Lit.int .i64 x.f0).wf = true ∧ (Lit.int .i64 x.f1).wf = true)) → (Lit.int .i64 a1).wf = true → (Lit.int .i64 a2).wf = true → l3.length * 8 ≤ 140737488351232 → (∀ x ∈ l3, (Lit.int .i64 x).wf = true) → ∃ k, spencelaw28_PlanOnce.f k l0 a1 a2 l3 = some true
end Go.Proofs.YtcnlmpjoghogbaaDoor.PAll
namespace Go.Proofs.YtcnlmpjoghogbaaDoor.Pure
open Go.RowKit Go.Proofs.YtcnlmpjoghogbaaDoor.Xw Go.Proofs.YtcnlmpjoghogbaaDoor.PAll Go.Proofs.YtcnlmpjoghogbaaDoorW.PrintWords Go.Proofs.YtcnlmpjoghogbaaDoorW.PrintLast Go.Proofs.YtcnlmpjoghogbaaDoorW.PrintMore
open Go.Proofs.YtcnlmpjoghogbaaDoor.Ag (hasF withF zeroF has_of)
abbrev RunS := S50
def rng (a : Int) (n : Nat) : List Int := (List.range n).map fun j : Nat => a + (j : Int)
theorem rng_succ (a : Int) (n : Nat) : rng a (n + 1) = rng a n ++ [a + (n : Int)] := by simp [rng, List.range_succ]
theorem rng_mem (a x : Int) (n : Nat) : x ∈ rng a n ↔ a ≤ x ∧ x < a + n := by
  simp only [rng, List.mem_map, List.mem_range]
  constructor
  · rintro ⟨j, hj, rfl⟩; omega
  · rintro ⟨h1, h2⟩; exact ⟨(x - a).toNat, by omega, by omega⟩
end Go.Proofs.YtcnlmpjoghogbaaDoor.Pure


namespace Go.Proofs.YtcnlmpjoghogbaaDoor.Ag
open Go.RowKit
theorem has_own (l : List Int) (i : Int) : hasF (ofF l) i = (decide (0 ≤ i ∧ i ≤ 4096) && decide (i ∈ l)) := has_of l i
end Go.Proofs.YtcnlmpjoghogbaaDoor.Ag

namespace Go.Proofs.YtcnlmpjoghogbaaDoor.Pure
open Go.RowKit Go.Proofs.YtcnlmpjoghogbaaDoor.Xw Go.Proofs.YtcnlmpjoghogbaaDoor.PAll Go.Proofs.YtcnlmpjoghogbaaDoorW.PrintWords Go.Proofs.YtcnlmpjoghogbaaDoorW.PrintLast Go.Proofs.YtcnlmpjoghogbaaDoorW.PrintMore
open Go.Proofs.YtcnlmpjoghogbaaDoor.Ag (hasF withF zeroF ofF srt splitAll splitStep has_of has_own)
theorem rdR (pre : List RunS) (r : RunS) (rest : List RunS) (i : Int) (h : i = pre.length) : rd_T50 (pre ++ r :: rest) i = r := by
  subst h
  unfold rd_T50
  simp [List.getD_eq_getElem?_getD]
abbrev fromR (r : RunS) : Int := mx r.f0 0
abbrev toR (r : RunS) : Int := mn r.f1 4097
def sizeR (r : RunS) : Nat := (toR r - fromR r).toNat
def slicesOf (l : List RunS) : List Int := l.flatMap fun r => rng (fromR r) (sizeR r)
theorem size_le (r : RunS) : sizeR r ≤ 4097 := by
  have h1 := mx_eq r.f0 0
  have h2 := mn_eq r.f1 4097
  unfold sizeR
  show (mn r.f1 4097 - mx r.f0 0).toNat ≤ 4097
  omega
def Fit (r : RunS) : Prop := -1000000 ≤ r.f0 ∧ r.f0 ≤ 1000000 ∧ -1000000 ≤ r.f1 ∧ r.f1 ≤ 1000000
def okR (p : Option Int) (r : RunS) : Bool := decide (0 ≤ r.f0) && (decide (r.f0 < r.f1) && (decide (r.f1 ≤ 4097) && (match p with | none => true | some t => decide (t ≤ r.f0))))
def apB : Option Int → List RunS → Bool
  | _, [] => true
  | p, r :: l => okR p r && apB (some r.f1) l
def lastTo (l : List RunS) : Option Int := l.getLast?.map fun r => r.f1
theorem lastTo_snoc (l : List RunS) (r : RunS) : lastTo (l ++ [r]) = some r.f1 := by simp [lastTo]
theorem apB_snoc (l : List RunS) (r : RunS) : ∀ p, apB p (l ++ [r]) = (apB p l && okR (match lastTo l with | none => p | some t => some t) r) := by
  induction l with
  | nil => intro p; simp [apB, lastTo]
  | cons x l ih =>
    intro p
    rw [List.cons_append, apB, apB, ih, Bool.and_assoc]
    congr 3
    rcases List.eq_nil_or_concat l with rfl | ⟨l', q, rfl⟩
    · rfl
    · rw [List.concat_eq_append, lastTo_snoc, ← List.cons_append, lastTo_snoc]
theorem split_snoc (h : Int → Bool) (init : List RunS) (r : RunS) (x : Int) : splitStep h (init ++ [r]) x = if r.f1 = x ∧ r.f2 = h x then init ++ [⟨r.f0, wrap64 (r.f1 + 1), r.f2⟩] else init ++ [r] ++ [⟨x, wrap64 (x + 1), h x⟩] := by
  have e : (((init ++ [r]).length : Nat) : Int) - 1 = (init.length : Int) := by simp
  unfold splitStep
  rw [e, rdR init r [] _ rfl]
  by_cases c : r.f1 = x ∧ r.f2 = h x
  · rw [if_pos ⟨by simp, c⟩, if_pos c, Int.toNat_natCast]
    simp
  · rw [if_neg (fun hh => c hh.2), if_neg c]
theorem split_nil (h : Int → Bool) (x : Int) : splitStep h [] x = [⟨x, wrap64 (x + 1), h x⟩] := by simp [splitStep]
theorem slices_snoc (l : List RunS) (r : RunS) : slicesOf (l ++ [r]) = slicesOf l ++ rng (fromR r) (sizeR r) := by simp [slicesOf]
theorem rng_one (x : Int) : rng x 1 = [x] := by simp [rng]
/-- What is true of the runs of rising numbers. -/
structure SplitOk (out : List RunS) (xs : List Int) : Prop where
  slices : slicesOf out = xs
  apart : apB none out = true
  last : ∀ init r, out = init ++ [r] → ∃ x ∈ xs, r.f1 = x + 1 ∧ 0 ≤ r.f0 ∧ r.f0 < r.f1
  fit : ∀ r ∈ out, Fit r
theorem splitOk_step (h : Int → Bool) {out : List RunS} {xs : List Int} (ok : SplitOk out xs) (x : Int) (h0 : 0 ≤ x) (h1 : x ≤ 4096) (hx : ∀ y ∈ xs, y < x) : SplitOk (splitStep h out x) (xs ++ [x]) := by
  have hw : wrap64 (x + 1) = x + 1 := wrap_id (by omega)
  have new : ∀ b : Bool, fromR ⟨x, x + 1, b⟩ = x ∧ sizeR ⟨x, x + 1, b⟩ = 1 := fun b => by
    have h1 := mx_eq x 0
    have h2 := mn_eq (x + 1) 4097
    unfold sizeR
    show mx x 0 = x ∧ (mn (x + 1) 4097 - mx x 0).toNat = 1
    omega
  have nfit : ∀ b : Bool, Fit ⟨x, x + 1, b⟩ := fun b => ⟨by show -1000000 ≤ x; omega, by show x ≤ 1000000; omega, by show -1000000 ≤ x + 1; omega, by show x + 1 ≤ 1000000; omega⟩
  rcases List.eq_nil_or_concat out with rfl | ⟨init, r, rfl⟩
  · have e : xs = [] := by rw [← ok.slices]; rfl
    subst e
    rw [split_nil, hw]
    refine ⟨?_, ?_, ?_, ?_⟩
    · rw [show ([⟨x, x + 1, h x⟩] : List RunS) = [] ++ [⟨x, x + 1, h x⟩] from rfl, slices_snoc, (new _).1, (new _).2, rng_one]; rfl
    · simp only [apB, okR, Bool.and_true]
      simp [h0]; omega
    · intro init r e
      have e2 := List.append_inj' (show ([] : List RunS) ++ [⟨x, x + 1, h x⟩] = init ++ [r] from e) rfl
      simp only [List.cons.injEq, and_true] at e2
      obtain ⟨_, rfl⟩ := e2
      exact ⟨x, by simp, rfl, h0, by show x < x + 1; omega⟩
    · intro r hr
      simp only [List.mem_singleton] at hr
      subst hr; exact nfit _
  · rw [List.concat_eq_append] at *
    obtain ⟨y, hy, hl1, hl2, hl3⟩ := ok.last init r rfl
    have hyx := hx y hy
    have hap := ok.apart
    rw [apB_snoc, Bool.and_eq_true] at hap
    rw [split_snoc]
    split
    · rename_i c
      obtain ⟨c1, c2⟩ := c
      rw [c1, hw]
      have hsz : fromR ⟨r.f0, x + 1, r.f2⟩ = fromR r ∧ sizeR ⟨r.f0, x + 1, r.f2⟩ = sizeR r + 1 ∧ fromR r + (sizeR r : Int) = x := by
        have h1 := mx_eq r.f0 0
        have h2 := mn_eq (x + 1) 4097
        have h3 := mn_eq r.f1 4097
        unfold sizeR
        show mx r.f0 0 = mx r.f0 0 ∧ (mn (x + 1) 4097 - mx r.f0 0).toNat = (mn r.f1 4097 - mx r.f0 0).toNat + 1 ∧ mx r.f0 0 + ((mn r.f1 4097 - mx r.f0 0).toNat : Int) = x
        omega
      refine ⟨?_, ?_, ?_, ?_⟩
      · have hs := ok.slices
        rw [slices_snoc] at hs
        rw [slices_snoc, hsz.1, hsz.2.1, rng_succ, hsz.2.2, ← List.append_assoc, hs]
      · rw [apB_snoc, Bool.and_eq_true]
        refine ⟨hap.1, ?_⟩
        have := hap.2
        revert this
        generalize (match lastTo init with | none => none | some t => some t) = p
        simp only [okR, Bool.and_eq_true, decide_eq_true_eq]
        rintro ⟨a, b, c, d⟩
        exact ⟨a, by show r.f0 < x + 1; omega, by show x + 1 ≤ 4097; omega, d⟩
      · intro init' r' e
        have e2 := List.append_inj' e rfl
        simp only [List.cons.injEq, and_true] at e2
        obtain ⟨_, rfl⟩ := e2
        exact ⟨x, by simp, rfl, hl2, by show r.f0 < x + 1; omega⟩
      · intro r' hr'
        simp only [List.mem_append, List.mem_singleton] at hr'
        rcases hr' with hr' | rfl
        · exact ok.fit r' (by simp [hr'])
        · have := ok.fit r (by simp)
          obtain ⟨a, b, c, d⟩ := this
          exact ⟨a, b, by show -1000000 ≤ x + 1; omega, by show x + 1 ≤ 1000000; omega⟩
    · rw [hw]
      refine ⟨?_, ?_, ?_, ?_⟩
      · rw [slices_snoc, ok.slices, (new _).1, (new _).2, rng_one]
      · rw [apB_snoc, ok.apart, lastTo_snoc, Bool.true_and]
        simp only [okR, Bool.and_eq_true, decide_eq_true_eq]
        exact ⟨h0, by omega, by omega, by show r.f1 ≤ x; omega⟩
      · intro init' r' e
        have e2 := List.append_inj' e rfl
        simp only [List.cons.injEq, and_true] at e2
        obtain ⟨_, rfl⟩ := e2
        exact ⟨x, by simp, rfl, h0, by show x < x + 1; omega⟩
      · intro r' hr'
        simp only [List.mem_append, List.mem_singleton] at hr'
        rcases hr' with hr' | rfl
        · exact ok.fit r' (by simpa using hr')
        · exact nfit _
theorem splitOk_all (h : Int → Bool) (l : List Int) : ∀ (xs : List Int) (out : List RunS), SplitOk out xs → (xs ++ l).Pairwise (· < ·) → (∀ x ∈ l, 0 ≤ x ∧ x ≤ 4096) → SplitOk (l.foldl (splitStep h) out) (xs ++ l) := by
  induction l with
  | nil => intro xs out ok _ _; simpa using ok
  | cons x l ih =>
    intro xs out ok hp hb
    have hx : ∀ y ∈ xs, y < x := fun y hy => (List.pairwise_append.1 hp).2.2 y hy x (by simp)
    have := ih (xs ++ [x]) (splitStep h out x) (splitOk_step h ok x (hb x (by simp)).1 (hb x (by simp)).2 hx) (by simpa using hp) (fun y hy => hb y (by simp [hy]))
    simpa using this
theorem srt_mem (l : List Int) (x : Int) : x ∈ srt l ↔ x ∈ l ∧ 0 ≤ x ∧ x ≤ 4096 := by
  unfold srt
  simp only [List.mem_map, List.mem_filter, List.mem_range, decide_eq_true_eq]
  constructor
  · rintro ⟨i, ⟨h1, h2⟩, rfl⟩; exact ⟨h2, by omega, by omega⟩
  · rintro ⟨h1, h2, h3⟩; exact ⟨x.toNat, ⟨by omega, by rwa [Int.toNat_of_nonneg h2]⟩, by omega⟩
theorem srt_rise (l : List Int) : (srt l).Pairwise (· < ·) := by
  unfold srt
  rw [List.pairwise_map]
  refine (List.Pairwise.filter _ List.pairwise_lt_range).imp (fun h => by omega)
theorem splitAll_ok (h : Int → Bool) (l : List Int) : SplitOk (splitAll h (srt l)) (srt l) := by
  have := splitOk_all h (srt l) [] [] ⟨rfl, rfl, fun init r e => by simp at e, fun r hr => by simp at hr⟩ (by simpa using srt_rise l) (fun x hx => ((srt_mem l x).1 hx).2)
  unfold splitAll
  simpa using this
theorem splitAll_congr (h h' : Int → Bool) (l : List Int) (hh : ∀ x ∈ l, h x = h' x) : splitAll h l = splitAll h' l := by
  have go : ∀ (l : List Int) (out : List RunS), (∀ x ∈ l, h x = h' x) → l.foldl (splitStep h) out = l.foldl (splitStep h') out := by
    intro l
    induction l with
    | nil => intro _ _; rfl
    | cons x l ih =>
      intro out hx
      have e : splitStep h out x = splitStep h' out x := by unfold splitStep; rw [hx x (by simp)]
      rw [List.foldl_cons, List.foldl_cons, e, ih _ (fun y hy => hx y (by simp [hy]))]
  exact go l [] hh
theorem split_own (l m : List Int) : splitAll (hasF (ofF m)) (srt l) = splitAll (fun x => decide (x ∈ m)) (srt l) :=
  splitAll_congr _ _ _ fun x hx => by rw [has_own, decide_eq_true ((srt_mem l x).1 hx).2, Bool.true_and]
end Go.Proofs.YtcnlmpjoghogbaaDoor.Pure
namespace Go.Proofs.YtcnlmpjoghogbaaDoor.Pure
open Go.RowKit Go.Proofs.YtcnlmpjoghogbaaDoor.Xw Go.Proofs.YtcnlmpjoghogbaaDoor.PAll Go.Proofs.YtcnlmpjoghogbaaDoorW.PrintWords Go.Proofs.YtcnlmpjoghogbaaDoorW.PrintLast Go.Proofs.YtcnlmpjoghogbaaDoorW.PrintMore
open Go.Proofs.YtcnlmpjoghogbaaDoor.Ag (hasF withF zeroF ofF srt splitAll splitStep has_of has_own splitAll_snoc splitAll_len all_of all_len)
theorem srt_len (l : List Int) : (srt l).length ≤ 4160 := by rw [← all_of]; exact all_len _
end Go.Proofs.YtcnlmpjoghogbaaDoor.Pure
namespace Go.Proofs.YtcnlmpjoghogbaaDoor.Pure
open Go.RowKit Go.Proofs.YtcnlmpjoghogbaaDoor.Xw Go.Proofs.YtcnlmpjoghogbaaDoor.PAll Go.Proofs.YtcnlmpjoghogbaaDoorW.PrintWords Go.Proofs.YtcnlmpjoghogbaaDoorW.PrintLast Go.Proofs.YtcnlmpjoghogbaaDoorW.PrintMore
/-- the numbers from a on, j of them, in parts of m -/
def blk (a : Int) (m : Nat) (c : Bool) : Nat → List RunS
  | 0 => []
  | j + 1 => if j % m = 0 then blk a m c j ++ [⟨a + j, a + j + 1, c⟩] else (blk a m c j).dropLast ++ [⟨((blk a m c j).getLast?.getD ⟨0, 0, c⟩).f0, a + j + 1, c⟩]
theorem blk_part (a : Int) (m : Nat) (c : Bool) (q : Nat) : ∀ s : Nat, 1 ≤ s → s ≤ m → blk a m c (q * m + s) = blk a m c (q * m) ++ [⟨a + (q * m : Nat), a + (q * m : Nat) + s, c⟩]
  | 0, h, _ => by omega
  | 1, _, h2 => by
    show (if (q * m) % m = 0 then _ else _) = _
    rw [if_pos (Nat.mul_mod_left q m)]
    rfl
  | s + 2, _, h2 => by
    have ih := blk_part a m c q (s + 1) (by omega) (by omega)
    show (if (q * m + (s + 1)) % m = 0 then blk a m c (q * m + (s + 1)) ++ [⟨a + (q * m + (s + 1) : Nat), a + (q * m + (s + 1) : Nat) + 1, c⟩] else (blk a m c (q * m + (s + 1))).dropLast ++ [⟨((blk a m c (q * m + (s + 1))).getLast?.getD ⟨0, 0, c⟩).f0, a + (q * m + (s + 1) : Nat) + 1, c⟩]) = _
    have e : (q * m + (s + 1)) % m = s + 1 := by rw [Nat.add_comm, Nat.add_mul_mod_self_right, Nat.mod_eq_of_lt (by omega)]
    rw [if_neg (by omega), ih]
    simp only [List.dropLast_concat, List.getLast?_concat, Option.getD_some]
    congr 3
    push_cast
    omega
theorem blk_len (a : Int) (m : Nat) (c : Bool) : ∀ j, (blk a m c j).length ≤ j
  | 0 => by simp [blk]
  | j + 1 => by
    have ih := blk_len a m c j
    rw [blk]
    split
    · simp; omega
    · simp; omega
theorem blk_nonempty (a : Int) (m : Nat) (c : Bool) (j : Nat) : ∃ init r, blk a m c (j + 1) = init ++ [r] ∧ r.f1 = a + j + 1 ∧ r.f2 = c := by
  rw [blk]
  split
  · exact ⟨_, _, rfl, rfl, rfl⟩
  · exact ⟨_, _, rfl, rfl, rfl⟩
theorem blk_ext (a : Int) (m : Nat) (c : Bool) (j : Nat) (h : (j + 1) % m ≠ 0) {init : List RunS} {r : RunS} (e : blk a m c (j + 1) = init ++ [r]) : blk a m c (j + 2) = init ++ [⟨r.f0, a + (j + 1 : Nat) + 1, c⟩] := by
  show (if (j + 1) % m = 0 then _ else _) = _
  rw [if_neg h, e]
  simp
/-- The numbers of the parts. -/
theorem blk_slices (a : Int) (m : Nat) (c : Bool) (ha : 0 ≤ a) : ∀ j : Nat, a + j ≤ 4097 → slicesOf (blk a m c j) = rng a j ∧ ∀ init r, blk a m c j = init ++ [r] → 0 ≤ r.f0 ∧ r.f0 < r.f1
  | 0, _ => ⟨by simp [blk, slicesOf, rng], fun init r e => by simp [blk] at e⟩
  | j + 1, hb => by
    obtain ⟨ih, il⟩ := blk_slices a m c ha j (by omega)
    have one : fromR ⟨a + j, a + j + 1, c⟩ = a + j ∧ sizeR ⟨a + j, a + j + 1, c⟩ = 1 := by
      have h1 := mx_eq (a + j) 0
      have h2 := mn_eq (a + j + 1) 4097
      unfold sizeR
      show mx (a + j) 0 = a + j ∧ (mn (a + j + 1) 4097 - mx (a + j) 0).toNat = 1
      omega
    cases j with
    | zero =>
      have e : blk a m c 1 = [] ++ [⟨a + (0 : Nat), a + (0 : Nat) + 1, c⟩] := by
        show (if 0 % m = 0 then _ else _) = _
        rw [if_pos (Nat.zero_mod m)]; rfl
      rw [e]
      refine ⟨by rw [slices_snoc, one.1, one.2, rng_one]; simp [slicesOf, rng], fun init r e => ?_⟩
      have e2 := List.append_inj' e rfl
      simp only [List.cons.injEq, and_true] at e2
      obtain ⟨_, rfl⟩ := e2
      exact ⟨by show 0 ≤ a + ((0 : Nat) : Int); omega, by show a + ((0 : Nat) : Int) < a + ((0 : Nat) : Int) + 1; omega⟩
    | succ j =>
      by_cases h : (j + 1) % m = 0
      · have e : blk a m c (j + 1 + 1) = blk a m c (j + 1) ++ [⟨a + (j + 1 : Nat), a + (j + 1 : Nat) + 1, c⟩] := by
          show (if (j + 1) % m = 0 then _ else _) = _
          rw [if_pos h]
        rw [e]
        refine ⟨by rw [slices_snoc, ih, one.1, one.2, rng_one, ← rng_succ], fun init r e => ?_⟩
        have e2 := List.append_inj' e rfl
        simp only [List.cons.injEq, and_true] at e2
        obtain ⟨_, rfl⟩ := e2
        exact ⟨by show 0 ≤ a + ((j + 1 : Nat) : Int); omega, by show a + ((j + 1 : Nat) : Int) < a + ((j + 1 : Nat) : Int) + 1; omega⟩
      · obtain ⟨init, r, e0, e1, e2⟩ := blk_nonempty a m c j
        obtain ⟨i1, i2⟩ := il init r e0
        have e := blk_ext a m c j h e0
        rw [show j + 1 + 1 = j + 2 from rfl, e]
        rw [e0, slices_snoc] at ih
        have two : fromR ⟨r.f0, a + (j + 1 : Nat) + 1, c⟩ = fromR r ∧ sizeR ⟨r.f0, a + (j + 1 : Nat) + 1, c⟩ = sizeR r + 1 ∧ fromR r + (sizeR r : Int) = a + (j + 1 : Nat) := by
          have h1 := mx_eq r.f0 0
          have h2 := mn_eq (a + (j + 1 : Nat) + 1) 4097
          have h3 := mn_eq r.f1 4097
          unfold sizeR
          show mx r.f0 0 = mx r.f0 0 ∧ (mn (a + (j + 1 : Nat) + 1) 4097 - mx r.f0 0).toNat = (mn r.f1 4097 - mx r.f0 0).toNat + 1 ∧ mx r.f0 0 + ((mn r.f1 4097 - mx r.f0 0).toNat : Int) = a + (j + 1 : Nat)
          omega
        refine ⟨by rw [slices_snoc, two.1, two.2.1, rng_succ, two.2.2, ← List.append_assoc, ih, ← rng_succ], fun init' r' e' => ?_⟩
        have e3 := List.append_inj' e' rfl
        simp only [List.cons.injEq, and_true] at e3
        obtain ⟨_, rfl⟩ := e3
        exact ⟨i1, by show r.f0 < a + ((j + 1 : Nat) : Int) + 1; omega⟩
def capOf (m : Nat) (l : List RunS) : List RunS := l.flatMap fun r => blk (fromR r) m r.f2 (sizeR r)
theorem cap_snoc (m : Nat) (l : List RunS) (r : RunS) : capOf m (l ++ [r]) = capOf m l ++ blk (fromR r) m r.f2 (sizeR r) := by simp [capOf]
theorem cap_len (m : Nat) (l : List RunS) : (capOf m l).length ≤ l.length * 4097 := by
  induction l with
  | nil => simp [capOf]
  | cons r l ih =>
    have h1 := size_le r
    have h2 := blk_len (fromR r) m r.f2 (sizeR r)
    have e : capOf m (r :: l) = blk (fromR r) m r.f2 (sizeR r) ++ capOf m l := by simp [capOf]
    rw [e, List.length_append, List.length_cons, Nat.succ_mul]
    omega
theorem slices_append (a b : List RunS) : slicesOf (a ++ b) = slicesOf a ++ slicesOf b := by simp [slicesOf]
theorem cap_slices (m : Nat) (l : List RunS) : slicesOf (capOf m l) = slicesOf l := by
  induction l with
  | nil => rfl
  | cons r l ih =>
    have e : capOf m (r :: l) = blk (fromR r) m r.f2 (sizeR r) ++ capOf m l := by simp [capOf]
    have e2 : slicesOf (r :: l) = rng (fromR r) (sizeR r) ++ slicesOf l := by simp [slicesOf]
    have h1 := mx_eq r.f0 0
    have h2 := mn_eq r.f1 4097
    rw [e, slices_append, ih, e2]
    congr 1
    rcases Nat.eq_zero_or_pos (sizeR r) with h | h
    · rw [h]; simp [blk, slicesOf, rng]
    · refine (blk_slices (fromR r) m r.f2 (by show 0 ≤ mx r.f0 0; omega) (sizeR r) ?_).1
      unfold sizeR at h ⊢
      have h' : 0 < (mn r.f1 4097 - mx r.f0 0).toNat := h
      show mx r.f0 0 + ((mn r.f1 4097 - mx r.f0 0).toNat : Int) ≤ 4097
      omega
theorem to_eq (r : RunS) (h : 0 < sizeR r) : toR r = fromR r + sizeR r := by
  unfold sizeR at h ⊢
  show mn r.f1 4097 = mx r.f0 0 + ((mn r.f1 4097 - mx r.f0 0).toNat : Int)
  have h' : 0 < (mn r.f1 4097 - mx r.f0 0).toNat := h
  omega
theorem cap_in (m : Nat) (hm : 1 ≤ m) (hmb : (m : Int) ≤ 9223372036854775807) (r : RunS) (x13 : List RunS) (x14 x15 : Int) (out : List RunS) (ho : out.length ≤ 1000000000) (a : Int) (n : Nat) (ha : 0 ≤ a) (hn : a + n ≤ 4097) (d : Nat) : ∀ q : Nat, q * m < n → n - q * m ≤ d →
    ∀ res, Ev (fun k => runs_Cap.l0 k (m : Int) (out ++ blk a m r.f2 n) x13 x14 (wrap64 (x15 + 1))) res → Ev (fun k => runs_Cap.l1 k (m : Int) (out ++ blk a m r.f2 (q * m)) (a + (q * m : Nat)) (a + n) x13 x14 x15 r.f0 r.f1 r.f2) res := by
  induction d with
  | zero => intro q h1 h2; omega
  | succ d ih =>
    intro q h1 h2 res h
    have hbl := blk_len a m r.f2 (q * m)
    have hol : (out ++ blk a m r.f2 (q * m)).length < 5864062014805 := by rw [List.length_append]; omega
    have hw : wrap64 (a + (n : Int) - (a + ((q * m : Nat) : Int))) = (n : Int) - ((q * m : Nat) : Int) := by rw [wrap_id (by omega)]; omega
    refine Ev.succ ?_
    simp only [runs_Cap.l1, show a + ((q * m : Nat) : Int) < a + (n : Int) by omega, if_true, hw, hol]
    by_cases c1 : (m : Int) < (n : Int) - ((q * m : Nat) : Int)
    · simp only [c1, if_true]
      have e : (q + 1) * m = q * m + m := Nat.succ_mul q m
      have hp := blk_part a m r.f2 q m hm (Nat.le_refl _)
      have hnx := ih (q + 1) (by omega) (by omega) res h
      rw [e, hp] at hnx
      have hw2 : wrap64 (a + ((q * m : Nat) : Int) + (m : Int)) = a + ((q * m : Nat) : Int) + (m : Int) := wrap_id (by omega)
      have e3 : a + ((q * m + m : Nat) : Int) = a + ((q * m : Nat) : Int) + (m : Int) := by push_cast; omega
      rw [hw2]
      rw [e3, ← List.append_assoc] at hnx
      exact hnx
    · simp only [c1, if_false]
      have hp := blk_part a m r.f2 q (n - q * m) (by omega) (by omega)
      rw [show q * m + (n - q * m) = n by omega] at hp
      have e3 : a + ((q * m : Nat) : Int) + ((n - q * m : Nat) : Int) = a + (n : Int) := by omega
      rw [e3] at hp
      rw [hp, ← List.append_assoc] at h
      refine Ev.step (fun k => ?_) h
      simp only [runs_Cap.l1]
      rw [if_neg (by omega)]
theorem cap_loop (m : Nat) (hm : 1 ≤ m) (hmb : (m : Int) ≤ 9223372036854775807) (l : List RunS) (hl : l.length ≤ 100000) (post : List RunS) : ∀ (pre : List RunS), l = pre ++ post → Ev (fun k => runs_Cap.l0 k (m : Int) (capOf m pre) l (l.length : Int) (pre.length : Int)) (capOf m l) := by
  induction post with
  | nil =>
    intro pre h
    rw [List.append_nil] at h
    subst h
    exact Ev.pos fun k => by simp only [runs_Cap.l0]; rw [if_neg (by omega)]
  | cons r rest ih =>
    intro pre h
    have hlen : l.length = pre.length + (rest.length + 1) := by rw [h]; simp
    have hnx := ih (pre ++ [r]) (by rw [h]; simp)
    have e2 : (((pre ++ [r]).length : Nat) : Int) = wrap64 ((pre.length : Int) + 1) := by rw [wrap_id (by omega)]; simp
    rw [cap_snoc, e2] at hnx
    have hc := cap_len m pre
    have hr : rd_T50 l (pre.length : Int) = r := by rw [h]; exact rdR pre r rest _ rfl
    have h1 := mx_eq r.f0 0
    have h2 := mn_eq r.f1 4097
    have head : ∀ k, runs_Cap.l0 (k + 1) (m : Int) (capOf m pre) l (l.length : Int) (pre.length : Int) = (if fromR r ≥ toR r then (runs_Cap.l0 k (m : Int) (capOf m pre) l (l.length : Int) (wrap64 ((pre.length : Int) + 1))) else (runs_Cap.l1 k (m : Int) (capOf m pre) (fromR r) (toR r) l (l.length : Int) (pre.length : Int) r.f0 r.f1 r.f2)) := fun k => by
      simp only [runs_Cap.l0]
      rw [if_pos (by omega), if_pos (by omega), if_pos (by omega), hr]
      rfl
    rcases Nat.eq_zero_or_pos (sizeR r) with h0 | h0
    · rw [h0, show blk (fromR r) m r.f2 0 = [] from rfl, List.append_nil] at hnx
      refine Ev.step (fun k => ?_) hnx
      rw [head, if_pos]
      unfold sizeR at h0
      show mx r.f0 0 ≥ mn r.f1 4097
      have h0' : (mn r.f1 4097 - mx r.f0 0).toNat = 0 := h0
      omega
    · have ht := to_eq r h0
      have hx := cap_in m hm hmb r l (l.length : Int) (pre.length : Int) (capOf m pre) (by omega) (fromR r) (sizeR r) (by show 0 ≤ mx r.f0 0; omega) (by rw [← ht]; show mn r.f1 4097 ≤ 4097; omega) (sizeR r) 0 (by omega) (by omega) _ hnx
      rw [Nat.zero_mul, show blk (fromR r) m r.f2 0 = [] from rfl, List.append_nil, show fromR r + ((0 : Nat) : Int) = fromR r by omega, ← ht] at hx
      refine Ev.step (fun k => ?_) hx
      rw [head, if_neg (by omega)]
theorem cap_ev (m : Nat) (a1 : Int) (h : mx a1 1 = m) (hb : a1 ≤ 9223372036854775807) (l : List RunS) (hl : l.length ≤ 100000) : Ev (fun k => runs_Cap.f k l a1) (capOf m l) := by
  have h1 := mx_eq a1 1
  unfold runs_Cap.f
  rw [h]
  exact cap_loop m (by omega) (by omega) l hl l [] rfl
end Go.Proofs.YtcnlmpjoghogbaaDoor.Pure
namespace Go.Proofs.YtcnlmpjoghogbaaDoor.Pure
open Go.RowKit Go.Proofs.YtcnlmpjoghogbaaDoor.Xw Go.Proofs.YtcnlmpjoghogbaaDoor.PAll Go.Proofs.YtcnlmpjoghogbaaDoorW.PrintWords Go.Proofs.YtcnlmpjoghogbaaDoorW.PrintLast Go.Proofs.YtcnlmpjoghogbaaDoorW.PrintMore
open Go.Proofs.YtcnlmpjoghogbaaDoor.Ag (hasF withF zeroF ofF srt splitAll splitStep has_of has_own splitAll_snoc splitAll_len all_of all_len)
theorem ev_of {α : Type} {g : Nat → Option α} {r : α} (mono : ∀ k, LeO (g k) (g (k + 1))) {k0 : Nat} (h : g k0 = some r) : Ev g r := ⟨k0, fun k hk => by
  obtain ⟨d, rfl⟩ : ∃ d, k = k0 + d := ⟨k - k0, by omega⟩
  clear hk
  induction d with
  | zero => exact h
  | succ d ih => exact mono _ _ ih⟩
def fetchOf (F : Nat → Int) (need : List Int) : List RunS := capOf 8 ((splitAll (hasF F) (srt need)).filter fun r => !r.f2)
theorem fetch_ev (need : List Int) (F : Nat → Int) : Ev (fun k => plan_fetch.f k need F) (fetchOf F need) := by
  have h1 := splitAll_len (hasF F) (srt need)
  have h2 := srt_len need
  have h3 : ((splitAll (hasF F) (srt need)).filter fun r => !r.f2).length ≤ (splitAll (hasF F) (srt need)).length := List.length_filter_le _ _
  unfold plan_fetch.f runs_Split.f
  simp only [Option.bind_some]
  unfold runs_Missing.f
  rw [if_pos (by omega)]
  simp only [Option.bind_some]
  exact Ev.bind (cap_ev 8 8 (by decide) (by decide) _ (by omega)) (Ev.now _)
theorem planOf_ev (l : List S53) (n s : Int) (F : Nat → Int) (need : List Int) (hn : Ev (fun k => cuts_Cover.f k l n s) need) : Ev (fun k => plan_Of.f k l n s F) (need, splitAll (hasF F) (srt need), fetchOf F need) := by
  refine Ev.bind hn ?_
  unfold runs_Split.f
  simp only [Option.bind_some]
  exact Ev.bind (fetch_ev need F) (Ev.now _)
theorem fetch_own (need m : List Int) : fetchOf (ofF m) need = capOf 8 ((splitAll (fun x => decide (x ∈ m)) (srt need)).filter fun r => !r.f2) := by unfold fetchOf; rw [split_own]
theorem awake28 : Ev (fun k => spencelaw28_awake.f k) true := by
  unfold spencelaw28_awake.f bitmap_Of.f
  simp only [Option.bind_some]
  have hc : Ev (fun k => cuts_Cover.f k [⟨0, 5⟩] 10 4) [0, 1] := ev_of (k0 := 40) (fun k => cuts_Cover.mono _ _ _ k) (by kernel_rfl)
  refine Ev.bind (planOf_ev _ _ _ _ _ hc) ?_
  rw [show ([0] : List Int).foldl withF zeroF = ofF [0] from rfl]
  have e : fetchOf (ofF [0]) [0, 1] = [⟨1, 2, false⟩] := by
    rw [fetch_own]
    have e1 : srt [0, 1] = [0, 1] := by kernel_rfl
    rw [e1]
    show capOf 8 _ = _
    kernel_rfl
  rw [e]
  exact Ev.now _
end Go.Proofs.YtcnlmpjoghogbaaDoor.Pure
namespace Go.Proofs.YtcnlmpjoghogbaaDoor.Pure
open Go.RowKit Go.Proofs.YtcnlmpjoghogbaaDoor.Xw Go.Proofs.YtcnlmpjoghogbaaDoor.PAll Go.Proofs.YtcnlmpjoghogbaaDoorW.PrintWords Go.Proofs.YtcnlmpjoghogbaaDoorW.PrintLast Go.Proofs.YtcnlmpjoghogbaaDoorW.PrintMore
open Go.Proofs.YtcnlmpjoghogbaaDoor.Ag (hasF withF zeroF ofF srt splitAll splitStep has_of has_own splitAll_snoc splitAll_len all_of all_len)
def Col (h : Int → Bool) (out : List RunS) : Prop := ∀ r ∈ out, ∀ x, r.f0 ≤ x → x < r.f1 → h x = r.f2
theorem col_step (h : Int → Bool) {out : List RunS} (ok : Col h out) (x : Int) (h0 : 0 ≤ x) (h1 : x ≤ 4096) : Col h (splitStep h out x) := by
  have hw : wrap64 (x + 1) = x + 1 := wrap_id (by omega)
  have new : ∀ y, x ≤ y → y < x + 1 → h y = h x := fun y a b => by rw [show y = x by omega]
  rcases List.eq_nil_or_concat out with rfl | ⟨init, r, rfl⟩
  · rw [split_nil, hw]
    intro r hr
    simp only [List.mem_singleton] at hr
    subst hr
    exact new
  · rw [List.concat_eq_append] at *
    rw [split_snoc]
    split
    · rename_i c
      rw [c.1, hw]
      intro q hq
      simp only [List.mem_append, List.mem_singleton] at hq
      rcases hq with hq | rfl
      · exact ok q (by simp [hq])
      · intro y a b
        by_cases e : y = x
        · subst e; exact c.2.symm
        · exact ok r (by simp) y a (by have : y < x + 1 := b; have := c.1; omega)
    · rw [hw]
      intro q hq
      simp only [List.mem_append, List.mem_singleton] at hq
      rcases hq with hq | rfl
      · exact ok q (by simpa using hq)
      · exact new
theorem col_all (h : Int → Bool) (l : List Int) : ∀ (out : List RunS), Col h out → (∀ x ∈ l, 0 ≤ x ∧ x ≤ 4096) → Col h (l.foldl (splitStep h) out) := by
  induction l with
  | nil => intro out ok _; exact ok
  | cons x l ih => intro out ok hb; exact ih _ (col_step h ok x (hb x (by simp)).1 (hb x (by simp)).2) (fun y hy => hb y (by simp [hy]))
theorem col_split (h : Int → Bool) (l : List Int) : Col h (splitAll h (srt l)) := col_all h (srt l) [] (fun r hr => by simp at hr) (fun x hx => ((srt_mem l x).1 hx).2)
theorem apB_all (l : List RunS) : ∀ p, apB p l = true → ∀ r ∈ l, 0 ≤ r.f0 ∧ r.f0 < r.f1 ∧ r.f1 ≤ 4097 := by
  induction l with
  | nil => intro p _ r hr; simp at hr
  | cons x l ih =>
    intro p h r hr
    rw [apB, Bool.and_eq_true] at h
    rcases List.mem_cons.1 hr with rfl | hr
    · have := h.1
      simp only [okR, Bool.and_eq_true, decide_eq_true_eq] at this
      exact ⟨this.1, this.2.1, this.2.2.1⟩
    · exact ih _ h.2 r hr
theorem slices_filter (h : Int → Bool) (l : List RunS) (hc : Col h l) (hb : ∀ r ∈ l, 0 ≤ r.f0 ∧ r.f0 < r.f1 ∧ r.f1 ≤ 4097) : slicesOf (l.filter fun r => !r.f2) = (slicesOf l).filter fun x => !h x := by
  induction l with
  | nil => rfl
  | cons r l ih =>
    have e2 : slicesOf (r :: l) = rng (fromR r) (sizeR r) ++ slicesOf l := by simp [slicesOf]
    have ih' := ih (fun q hq => hc q (by simp [hq])) (fun q hq => hb q (by simp [hq]))
    obtain ⟨b0, b1, b2⟩ := hb r (by simp)
    have h1 := mx_eq r.f0 0
    have h2 := mn_eq r.f1 4097
    have hx : ∀ x ∈ rng (fromR r) (sizeR r), h x = r.f2 := fun x hx => by
      have := (rng_mem _ _ _).1 hx
      have e : fromR r = r.f0 := by show mx r.f0 0 = r.f0; omega
      have e3 : fromR r + (sizeR r : Int) = r.f1 := by unfold sizeR; show mx r.f0 0 + ((mn r.f1 4097 - mx r.f0 0).toNat : Int) = r.f1; omega
      exact hc r (by simp) x (by omega) (by omega)
    rw [e2, List.filter_append, ← ih']
    cases hq : r.f2 with
    | true =>
      rw [List.filter_cons_of_neg (by simp [hq])]
      have e5 : (rng (fromR r) (sizeR r)).filter (fun x => !h x) = [] := List.filter_eq_nil_iff.2 (fun x hm => by rw [hx x hm, hq]; simp)
      rw [e5, List.nil_append]
    | false =>
      rw [List.filter_cons_of_pos (by simp [hq])]
      have e6 : (rng (fromR r) (sizeR r)).filter (fun x => !h x) = rng (fromR r) (sizeR r) := List.filter_eq_self.2 (fun x hm => by rw [hx x hm, hq]; rfl)
      rw [e6]
      simp [slicesOf]
theorem blk_parts (a : Int) (m : Nat) (hm : 1 ≤ m) (c : Bool) (j : Nat) : ∀ p ∈ blk a m c j, p.f2 = c ∧ a ≤ p.f0 ∧ p.f0 < p.f1 ∧ p.f1 ≤ a + j ∧ p.f1 - p.f0 ≤ m := by
  induction j using Nat.strongRecOn with
  | ind j ih =>
    intro p hp
    cases j with
    | zero => simp [blk] at hp
    | succ j =>
      have hd := Nat.div_add_mod j m
      have hlt := Nat.mod_lt j hm
      have e : j + 1 = j / m * m + (j % m + 1) := by rw [Nat.mul_comm]; omega
      have hb := blk_part a m c (j / m) (j % m + 1) (by omega) (by omega)
      rw [← e] at hb
      rw [hb, List.mem_append, List.mem_singleton] at hp
      rcases hp with hp | rfl
      · obtain ⟨h1, h2, h3, h4, h5⟩ := ih (j / m * m) (by omega) p hp
        exact ⟨h1, h2, h3, by omega, h5⟩
      · refine ⟨rfl, ?_, ?_, ?_, ?_⟩
        · show a ≤ a + ((j / m * m : Nat) : Int); omega
        · show a + ((j / m * m : Nat) : Int) < a + ((j / m * m : Nat) : Int) + ((j % m + 1 : Nat) : Int); omega
        · show a + ((j / m * m : Nat) : Int) + ((j % m + 1 : Nat) : Int) ≤ a + ((j + 1 : Nat) : Int); omega
        · show a + ((j / m * m : Nat) : Int) + ((j % m + 1 : Nat) : Int) - (a + ((j / m * m : Nat) : Int)) ≤ (m : Int); omega
structure FetchOk (need m : List Int) (fetch : List RunS) : Prop where
  parts : ∀ r ∈ fetch, r.f2 = false ∧ 0 ≤ r.f0 ∧ r.f0 < r.f1 ∧ r.f1 ≤ 4097 ∧ r.f1 - r.f0 ≤ 8
  slices : slicesOf fetch = (srt need).filter fun x => !decide (x ∈ m)
theorem fetch_ok (need m : List Int) : FetchOk need m (fetchOf (ofF m) need) := by
  rw [fetch_own]
  have ok := splitAll_ok (fun x => decide (x ∈ m)) need
  have hb := apB_all _ none ok.apart
  have hc := col_split (fun x => decide (x ∈ m)) need
  refine ⟨fun r hr => ?_, ?_⟩
  · simp only [capOf, List.mem_flatMap] at hr
    obtain ⟨q, hq, hr⟩ := hr
    obtain ⟨hq1, hq2⟩ := List.mem_filter.1 hq
    obtain ⟨b0, b1, b2⟩ := hb q hq1
    have h1 := mx_eq q.f0 0
    have h2 := mn_eq q.f1 4097
    obtain ⟨p1, p2, p3, p4, p5⟩ := blk_parts (fromR q) 8 (by decide) q.f2 (sizeR q) r hr
    have e : fromR q = q.f0 := by show mx q.f0 0 = q.f0; omega
    have e3 : fromR q + (sizeR q : Int) = q.f1 := by unfold sizeR; show mx q.f0 0 + ((mn q.f1 4097 - mx q.f0 0).toNat : Int) = q.f1; omega
    exact ⟨by rw [p1]; simpa using hq2, by omega, p3, by omega, p5⟩
  · rw [cap_slices, slices_filter _ _ hc hb, ok.slices]
end Go.Proofs.YtcnlmpjoghogbaaDoor.Pure
namespace Go.Proofs.YtcnlmpjoghogbaaDoor.PAll
open Go.RowKit Go.Proofs.YtcnlmpjoghogbaaDoor.Xw Go.Proofs.YtcnlmpjoghogbaaDoorW.PrintWords Go.Proofs.YtcnlmpjoghogbaaDoorW.PrintLast Go.Proofs.YtcnlmpjoghogbaaDoorW.PrintMore
attribute [local go_sem] max2_int min2_int max_two min_two max_three min_three max_four min_four   -- for this text's walks alone
set_option linter.unusedVariables false
set_option linter.unusedSimpArgs false
def spenceref04_Right.f (a0_0 : Int) (a0_1 : Int) : Option (Bool) := if a0_0 ≥ 0 then (if a0_1 > a0_0 then (some (decide (a0_1 ≤ 4611686018427387903))) else (some false)) else (some false)
mutual
def spenceref04_Meet.j0 : Nat → Bool → Int → Int → Int → Int → Option (Int × Int)
  | 0, _, _, _, _, _ => none
  | k + 1, x12, x405000, x405001, x406000, x406001 => if x12 = true then (some (0, 0)) else (if x406000 > x405000 then (spenceref04_Meet.j1 k x406000 x405001 x406000 x406001) else (spenceref04_Meet.j1 k x405000 x405001 x406000 x406001))
def spenceref04_Meet.j1 : Nat → Int → Int → Int → Int → Option (Int × Int)
  | 0, _, _, _, _ => none
  | k + 1, x405000, x405001, x406000, x406001 => if x406001 < x405001 then (if x405000 ≥ x406001 then (some (0, 0)) else (some (x405000, x406001))) else (if x405000 ≥ x405001 then (some (0, 0)) else (some (x405000, x405001)))
end
def spenceref04_Meet.f (k : Nat) (a0_0 : Int) (a0_1 : Int) (a1_0 : Int) (a1_1 : Int) : Option (Int × Int) := (spenceref04_Right.f a0_0 a0_1).bind fun t407 => (if t407 = true then ((spenceref04_Right.f a1_0 a1_1).bind fun t408 => (spenceref04_Meet.j0 k (!t408) a0_0 a0_1 a1_0 a1_1)) else (spenceref04_Meet.j0 k true a0_0 a0_1 a1_0 a1_1))
theorem spenceref04_Meet.mono_l : ∀ k, (∀ y0 y1 y2 y3 y4, LeO (spenceref04_Meet.j0 k y0 y1 y2 y3 y4) (spenceref04_Meet.j0 (k + 1) y0 y1 y2 y3 y4)) ∧ (∀ y0 y1 y2 y3, LeO (spenceref04_Meet.j1 k y0 y1 y2 y3) (spenceref04_Meet.j1 (k + 1) y0 y1 y2 y3))
  | 0 => ⟨fun _ _ _ _ _ r h => by simp [spenceref04_Meet.j0] at h, fun _ _ _ _ r h => by simp [spenceref04_Meet.j1] at h⟩
  | k + 1 => by
    obtain ⟨ih0, ih1⟩ := spenceref04_Meet.mono_l k
    refine ⟨?_, ?_⟩
    · intro y0 y1 y2 y3 y4
      unfold spenceref04_Meet.j0
      repeat' first
      | (with_reducible exact ih0 _ _ _ _ _)
      | (with_reducible exact ih1 _ _ _ _)
      | (with_reducible exact LeO.refl _)
      | (with_reducible exact LeO.none _)
      | (with_reducible refine LeO.ite ?_ ?_)
      | (with_reducible refine LeO.bind ?_ (fun _ => ?_))
      | exact ih0 _ _ _ _ _
      | exact ih1 _ _ _ _
      | exact LeO.none _
      | refine LeO.ite ?_ ?_
      | refine LeO.bind ?_ (fun _ => ?_)
    · intro y0 y1 y2 y3
      unfold spenceref04_Meet.j1
      repeat' first
      | (with_reducible exact ih0 _ _ _ _ _)
      | (with_reducible exact ih1 _ _ _ _)
      | (with_reducible exact LeO.refl _)
      | (with_reducible exact LeO.none _)
      | (with_reducible refine LeO.ite ?_ ?_)
      | (with_reducible refine LeO.bind ?_ (fun _ => ?_))
      | exact ih0 _ _ _ _ _
      | exact ih1 _ _ _ _
      | exact LeO.none _
      | refine LeO.ite ?_ ?_
      | refine LeO.bind ?_ (fun _ => ?_)
theorem spenceref04_Meet.mono : ∀ a0 a1 a2 a3 k, LeO (spenceref04_Meet.f k a0 a1 a2 a3) (spenceref04_Meet.f (k + 1) a0 a1 a2 a3) := by
  intro a0 a1 a2 a3 k
  obtain ⟨ih0, ih1⟩ := spenceref04_Meet.mono_l k
  unfold spenceref04_Meet.f
  repeat' first
      | (with_reducible exact ih0 _ _ _ _ _)
      | (with_reducible exact ih1 _ _ _ _)
      | (with_reducible exact LeO.refl _)
      | (with_reducible exact LeO.none _)
      | (with_reducible refine LeO.ite ?_ ?_)
      | (with_reducible refine LeO.bind ?_ (fun _ => ?_))
      | exact ih0 _ _ _ _ _
      | exact ih1 _ _ _ _
      | exact LeO.none _
      | refine LeO.ite ?_ ?_
      | refine LeO.bind ?_ (fun _ => ?_)
end Go.Proofs.YtcnlmpjoghogbaaDoor.PAll
namespace Go.Proofs.YtcnlmpjoghogbaaDoor.Pure
open Go.RowKit Go.Proofs.YtcnlmpjoghogbaaDoor.PAll Go.Proofs.YtcnlmpjoghogbaaDoorW.PrintWords Go.Proofs.YtcnlmpjoghogbaaDoorW.PrintLast Go.Proofs.YtcnlmpjoghogbaaDoorW.PrintMore
def CR (n s : Int) : Prop := 0 ≤ n ∧ n ≤ 4096 ∧ 1 ≤ s ∧ s ≤ 64
instance (n s : Int) : Decidable (CR n s) := by unfold CR; infer_instance
theorem right_eq (n s : Int) : cuts_Right.f n s = some (decide (CR n s)) := by
  unfold cuts_Right.f CR
  by_cases h0 : n ≥ 0 <;> by_cases h1 : n ≤ 4096 <;> by_cases h2 : s ≥ 1 <;> by_cases h3 : s ≤ 64 <;> simp [h0, h1, h2, h3] <;> omega
/-- how many slices -/
def cnt (n s : Int) : Int := if CR n s then (n + s - 1) / s else 0
theorem count_eq (n s : Int) : cuts_Count.f n s = some (cnt n s) := by
  unfold cuts_Count.f cnt
  rw [right_eq]
  by_cases h : CR n s
  · simp only [h, decide_true, Option.bind_some, if_true]
    obtain ⟨h0, h1, h2, h3⟩ := h
    rw [if_neg (by omega), wrap_id (x := n + s) (by omega), wrap_id (x := n + s - 1) (by omega), Int.tdiv_eq_ediv_of_nonneg (by omega)]
    have h4 : 0 ≤ (n + s - 1) / s := Int.ediv_nonneg (by omega) (by omega)
    have h5 : (n + s - 1) / s ≤ n + s - 1 := Int.ediv_le_self _ (by omega)
    rw [wrap_id (by omega)]
  · simp [h]
theorem lt_cnt {i n s : Int} (h : CR n s) : i < cnt n s ↔ i * s < n := by
  unfold cnt
  rw [if_pos h]
  obtain ⟨h0, h1, h2, h3⟩ := h
  have h4 : i + 1 ≤ (n + s - 1) / s ↔ (i + 1) * s ≤ n + s - 1 := Int.le_ediv_iff_mul_le (by omega)
  rw [Int.add_mul, Int.one_mul] at h4
  constructor
  · intro h; have := h4.1 (by omega); omega
  · intro h; have := h4.2 (by omega); omega
theorem cnt_bd {n s : Int} (h : CR n s) : 0 ≤ cnt n s ∧ cnt n s ≤ n := by
  have h' := h
  obtain ⟨h0, h1, h2, h3⟩ := h'
  constructor
  · unfold cnt; rw [if_pos h]; exact Int.ediv_nonneg (by omega) (by omega)
  · have := (lt_cnt (i := n) h).1
    have h6 : n ≤ n * s := by have := Int.mul_le_mul_of_nonneg_left h2 h0; omega
    by_cases h5 : n < cnt n s
    · have := this h5; omega
    · omega
/-- slice i: where it begins and ends -/
def bnd (i n s : Int) : Int × Int := if CR n s ∧ 0 ≤ i ∧ i * s < n then (i * s, mn (i * s + s) n) else (0, 0)
theorem mul_bd {i n s : Int} (h : CR n s) (h0 : 0 ≤ i) (h1 : i * s < n) : 0 ≤ i * s ∧ i ≤ i * s ∧ i * s ≤ 4096 := by
  obtain ⟨_, _, h2, _⟩ := h
  have h3 : 0 ≤ i * s := Int.mul_nonneg h0 (by omega)
  have h4 : i * 1 ≤ i * s := Int.mul_le_mul_of_nonneg_left h2 h0
  omega
theorem bounds_eq (i n s : Int) : cuts_Bounds.f i n s = some ((bnd i n s).1, (bnd i n s).2, decide (CR n s ∧ 0 ≤ i ∧ i * s < n)) := by
  unfold cuts_Bounds.f bnd
  by_cases h0 : i < 0
  · rw [if_pos h0, if_neg (by omega)]; simp; omega
  rw [if_neg h0, count_eq]
  simp only [Option.bind_some]
  by_cases hr : CR n s
  · by_cases h1 : i * s < n
    · have h2 := (lt_cnt hr).2 h1
      have hb := mul_bd hr (by omega) h1
      have hm : (i + 1) * s = i * s + s := by rw [Int.add_mul, Int.one_mul]
      have hr' := hr
      obtain ⟨g0, g1, g2, g3⟩ := hr'
      have hc : CR n s ∧ 0 ≤ i ∧ i * s < n := ⟨hr, by omega, h1⟩
      rw [if_neg (by omega), if_pos hc, wrap_id (x := i * s) (by omega), wrap_id (x := i + 1) (by omega), hm, wrap_id (x := i * s + s) (by omega), decide_eq_true hc]
    · have h2 : ¬ i < cnt n s := fun h => h1 ((lt_cnt hr).1 h)
      rw [if_pos (by omega), if_neg (by simp [h1])]; simp; omega
  · have h2 : cnt n s = 0 := by unfold cnt; rw [if_neg hr]
    rw [if_pos (by omega), if_neg (by simp [hr])]; simp [hr]
def SR (a b : Int) : Prop := 0 ≤ a ∧ a < b ∧ b ≤ 4611686018427387903
instance (n s : Int) : Decidable (SR n s) := by unfold SR; infer_instance
theorem span_right_eq (a b : Int) : span_Right.f a b = some (decide (SR a b)) := by
  unfold span_Right.f SR
  by_cases h0 : a ≥ 0 <;> by_cases h1 : a < b <;> by_cases h2 : b ≤ 4611686018427387903 <;> simp [h0, h1, h2] <;> omega
theorem bnd_in {i n s : Int} (h : CR n s ∧ 0 ≤ i ∧ i * s < n) : (bnd i n s).1 = i * s ∧ (bnd i n s).2 = mn (i * s + s) n := by
  unfold bnd; rw [if_pos h]; exact ⟨rfl, rfl⟩
theorem bnd_out {i n s : Int} (h : ¬ (CR n s ∧ 0 ≤ i ∧ i * s < n)) : bnd i n s = (0, 0) := by
  unfold bnd; rw [if_neg h]
theorem bnd_pos (i n s : Int) : (0 < (bnd i n s).2 ↔ (CR n s ∧ 0 ≤ i ∧ i * s < n)) ∧ 0 ≤ (bnd i n s).1 ∧ ((CR n s ∧ 0 ≤ i ∧ i * s < n) → (bnd i n s).1 < (bnd i n s).2 ∧ (bnd i n s).2 ≤ 4096 ∧ (bnd i n s).2 ≤ n) ∧ (¬ (CR n s ∧ 0 ≤ i ∧ i * s < n) → (bnd i n s).2 = 0) := by
  by_cases h : CR n s ∧ 0 ≤ i ∧ i * s < n
  · have hb := bnd_in h
    have hm := mul_bd h.1 h.2.1 h.2.2
    obtain ⟨⟨g0, g1, g2, g3⟩, h1, h2⟩ := h
    have h3 := mn_le (i * s + s) n
    rw [hb.1, hb.2]
    refine ⟨⟨fun _ => ⟨⟨g0, g1, g2, g3⟩, h1, h2⟩, fun _ => by omega⟩, by omega, fun _ => by omega, fun hn => (hn ⟨⟨g0, g1, g2, g3⟩, h1, h2⟩).elim⟩
  · rw [bnd_out h]
    exact ⟨⟨fun h' => by simp at h', fun h' => (h h').elim⟩, by simp, fun h' => (h h').elim, fun _ => rfl⟩
end Go.Proofs.YtcnlmpjoghogbaaDoor.Pure
namespace Go.Proofs.YtcnlmpjoghogbaaDoor.Pure
open Go.RowKit Go.Proofs.YtcnlmpjoghogbaaDoor.PAll Go.Proofs.YtcnlmpjoghogbaaDoorW.PrintWords Go.Proofs.YtcnlmpjoghogbaaDoorW.PrintLast Go.Proofs.YtcnlmpjoghogbaaDoorW.PrintMore
def hits (a0 a1 b0 b1 : Int) : Prop := SR a0 a1 ∧ SR b0 b1 ∧ mx a0 b0 < mn a1 b1
instance (a0 a1 b0 b1 : Int) : Decidable (hits a0 a1 b0 b1) := by unfold hits; infer_instance
def meet (a0 a1 b0 b1 : Int) : Int × Int := if hits a0 a1 b0 b1 then (mx a0 b0, mn a1 b1) else (0, 0)
theorem meet_eq (a0 a1 b0 b1 : Int) : span_Meet.f a0 a1 b0 b1 = some ((meet a0 a1 b0 b1).1, (meet a0 a1 b0 b1).2, decide (hits a0 a1 b0 b1)) := by
  unfold span_Meet.f meet
  simp only [span_right_eq, Option.bind_some]
  by_cases h0 : SR a0 a1
  · by_cases h1 : SR b0 b1
    · by_cases h2 : mx a0 b0 < mn a1 b1
      · have hh : hits a0 a1 b0 b1 := ⟨h0, h1, h2⟩
        have h3 : SR (mx a0 b0) (mn a1 b1) := by
          have := mx_le a0 b0; have := mn_le a1 b1
          unfold SR at *; omega
        simp [h0, h1, h3, hh]
      · have hh : ¬ hits a0 a1 b0 b1 := fun h => h2 h.2.2
        have h3 : ¬ SR (mx a0 b0) (mn a1 b1) := fun h => h2 h.2.1
        simp [h0, h1, h3, hh]
    · have hh : ¬ hits a0 a1 b0 b1 := fun h => h1 h.2.1
      simp [h0, h1, hh]
  · have hh : ¬ hits a0 a1 b0 b1 := fun h => h0 h.1
    simp [h0, hh]
theorem part_eq (a0 a1 i n s : Int) : cuts_Part.f a0 a1 i n s = some ((meet a0 a1 (bnd i n s).1 (bnd i n s).2).1, (meet a0 a1 (bnd i n s).1 (bnd i n s).2).2, decide (hits a0 a1 (bnd i n s).1 (bnd i n s).2)) := by
  unfold cuts_Part.f
  simp only [bounds_eq, Option.bind_some]
  by_cases h : CR n s ∧ 0 ≤ i ∧ i * s < n
  · rw [if_pos (decide_eq_true h)]
    simp only [meet_eq, Option.bind_some]
  · have hd : ¬ (decide (CR n s ∧ 0 ≤ i ∧ i * s < n) = true) := by simpa using h
    rw [if_neg hd, bnd_out h]
    have hh : ¬ hits a0 a1 0 0 := fun h' => by have := h'.2.1.2.1; omega
    unfold meet
    rw [if_neg hh]
    simp [hh]
/-- slice i has a byte of a span -/
def hit (n s i : Int) (x : S53) : Bool := decide (hits x.f0 x.f1 (bnd i n s).1 (bnd i n s).2)
def cov (l : List S53) (n s : Int) : Nat → Int → List Int
  | 0, _ => []
  | d + 1, i => (if l.any (hit n s i) then [i] else []) ++ cov l n s d (i + 1)
theorem rd_at (l : List S53) (j : Int) (h0 : 0 ≤ j) (h1 : j < l.length) : rd_T53 l j = l[j.toNat]'(by omega) := by
  have : j.toNat < l.length := by omega
  simp [rd_T53, this]
theorem drop_any (l : List S53) (p : S53 → Bool) (j : Int) (h0 : 0 ≤ j) (h1 : j < l.length) : (l.drop j.toNat).any p = (p (rd_T53 l j) || (l.drop (j + 1).toNat).any p) := by
  have hj : j.toNat < l.length := by omega
  have e : (j + 1).toNat = j.toNat + 1 := by omega
  rw [List.drop_eq_getElem_cons hj, rd_at l j h0 h1, e]
  simp only [List.any_cons]
theorem cover_in (l : List S53) (n s : Int) (acc : List Int) (i c : Int) (r : List Int) (hl : l.length ≤ 9223372036854775807) (ha : acc.length < 17592186044416) (d : Nat) : ∀ j : Int, 0 ≤ j → j ≤ l.length → (l.length : Int) - j = d →
    Ev (fun k => cuts_Cover.l0 k l n s (if (l.drop j.toNat).any (hit n s i) then acc ++ [i] else acc) c (wrap64 (i + 1))) r →
    Ev (fun k => cuts_Cover.l1 k l n s acc i c i l (l.length : Int) j) r := by
  induction d with
  | zero =>
    intro j h0 h1 hd h
    obtain ⟨K, hK⟩ := h
    refine ⟨K + 1, fun k hk => ?_⟩
    obtain ⟨k, rfl⟩ : ∃ m, k = m + 1 := ⟨k - 1, by omega⟩
    have h := hK k (by omega)
    rw [List.drop_of_length_le (by omega)] at h
    simp only [cuts_Cover.l1]
    rw [if_neg (by omega)]
    simpa using h
  | succ d ih =>
    intro j h0 h1 hd h
    have hj : j < l.length := by omega
    rw [drop_any l _ j h0 hj] at h
    by_cases hh : hit n s i (rd_T53 l j) = true
    · obtain ⟨K, hK⟩ := h
      refine ⟨K + 1, fun k hk => ?_⟩
      obtain ⟨k, rfl⟩ : ∃ m, k = m + 1 := ⟨k - 1, by omega⟩
      have h := hK k (by omega)
      simp only [hh, Bool.true_or, if_true] at h
      simp only [cuts_Cover.l1, part_eq, Option.bind_some]
      rw [if_pos hj, if_pos h0, if_pos hj, if_pos (show decide (hits (rd_T53 l j).f0 (rd_T53 l j).f1 (bnd i n s).1 (bnd i n s).2) = true from hh), if_pos ha]
      exact h
    · have hf : hit n s i (rd_T53 l j) = false := by simpa using hh
      rw [hf, Bool.false_or] at h
      obtain ⟨K, hK⟩ := ih (j + 1) (by omega) (by omega) (by omega) h
      refine ⟨K + 1, fun k hk => ?_⟩
      obtain ⟨k, rfl⟩ : ∃ m, k = m + 1 := ⟨k - 1, by omega⟩
      have h := hK k (by omega)
      simp only [cuts_Cover.l1, part_eq, Option.bind_some]
      rw [if_pos hj, if_pos h0, if_pos hj, if_neg (show ¬ decide (hits (rd_T53 l j).f0 (rd_T53 l j).f1 (bnd i n s).1 (bnd i n s).2) = true from hh), wrap_id (by omega)]
      exact h
theorem cover_loop (l : List S53) (n s : Int) (hl : l.length ≤ 9223372036854775807) (hb : 0 ≤ cnt n s ∧ cnt n s ≤ 4096) (d : Nat) : ∀ (i : Int) (acc : List Int), 0 ≤ i → i ≤ cnt n s → cnt n s - i = d → acc.length ≤ i →
    Ev (fun k => cuts_Cover.l0 k l n s acc (cnt n s) i) (acc ++ cov l n s d i) := by
  induction d with
  | zero =>
    intro i acc h0 h1 hd ha
    refine Ev.pos (fun k => ?_)
    simp only [cuts_Cover.l0]
    rw [if_neg (by omega)]
    simp [cov]
  | succ d ih =>
    intro i acc h0 h1 hd ha
    have hw : wrap64 (i + 1) = i + 1 := wrap_id (by omega)
    have h := ih (i + 1) (if l.any (hit n s i) then acc ++ [i] else acc) (by omega) (by omega) (by omega) (by split <;> (try simp) <;> omega)
    have he : (if l.any (hit n s i) then acc ++ [i] else acc) ++ cov l n s d (i + 1) = acc ++ cov l n s (d + 1) i := by
      simp only [cov]; split <;> simp
    rw [he] at h
    have := cover_in l n s acc i (cnt n s) (acc ++ cov l n s (d + 1) i) hl (by omega) l.length 0 (by omega) (by omega) (by omega) (by simpa only [Int.toNat_zero, List.drop_zero, hw] using h)
    obtain ⟨K, hK⟩ := this
    refine ⟨K + 1, fun k hk => ?_⟩
    obtain ⟨k, rfl⟩ : ∃ m, k = m + 1 := ⟨k - 1, by omega⟩
    simp only [cuts_Cover.l0]
    rw [if_pos (by omega)]
    exact hK k (by omega)
theorem cnt_bd2 (n s : Int) : 0 ≤ cnt n s ∧ cnt n s ≤ 4096 := by
  by_cases hr : CR n s
  · have := cnt_bd hr; obtain ⟨g0, g1, g2, g3⟩ := hr; omega
  · unfold cnt; rw [if_neg hr]; omega
theorem cover_ev (l : List S53) (n s : Int) (hl : l.length ≤ 9223372036854775807) : Ev (fun k => cuts_Cover.f k l n s) (cov l n s (cnt n s).toNat 0) := by
  have hb := cnt_bd2 n s
  have := cover_loop l n s hl hb (cnt n s).toNat 0 [] (by omega) (by omega) (by omega) (by simp)
  unfold cuts_Cover.f
  simp only [count_eq, Option.bind_some]
  simpa using this
end Go.Proofs.YtcnlmpjoghogbaaDoor.Pure
namespace Go.Proofs.YtcnlmpjoghogbaaDoor.Pure
open Go.RowKit Go.Proofs.YtcnlmpjoghogbaaDoor.Xw Go.Proofs.YtcnlmpjoghogbaaDoor.PAll Go.Proofs.YtcnlmpjoghogbaaDoorW.PrintWords Go.Proofs.YtcnlmpjoghogbaaDoorW.PrintLast Go.Proofs.YtcnlmpjoghogbaaDoorW.PrintMore
def bytesOfRun (a b n s : Int) : Int × Int := if a ≥ b then (0, 0) else if (bnd a n s).2 = 0 ∨ (bnd (wrap64 (b - 1)) n s).2 = 0 then (0, 0) else ((bnd a n s).1, (bnd (wrap64 (b - 1)) n s).2)
theorem bnd_nought (i n s : Int) : (bnd i n s).2 = 0 ↔ ¬ (CR n s ∧ 0 ≤ i ∧ i * s < n) := by
  constructor
  · intro h hc
    have := (bnd_pos i n s).1.2 hc
    omega
  · intro h
    rw [bnd_out h]
theorem planBytes_eq (a b : Int) (c : Bool) (n s : Int) : plan_Bytes.f a b c n s = some ((bytesOfRun a b n s).1, (bytesOfRun a b n s).2, decide ((bytesOfRun a b n s).2 > 0)) := by
  unfold plan_Bytes.f bytesOfRun
  by_cases h : a ≥ b
  · rw [if_pos h, if_pos h]; rfl
  rw [if_neg h, if_neg h, bounds_eq, Option.bind_some, bounds_eq, Option.bind_some]
  by_cases h1 : CR n s ∧ 0 ≤ a ∧ a * s < n
  · by_cases h2 : CR n s ∧ 0 ≤ wrap64 (b - 1) ∧ wrap64 (b - 1) * s < n
    · have e1 := bnd_nought a n s
      have e2 := bnd_nought (wrap64 (b - 1)) n s
      have hp := (bnd_pos (wrap64 (b - 1)) n s).1.2 h2
      have hc : ¬ ((bnd a n s).2 = 0 ∨ (bnd (wrap64 (b - 1)) n s).2 = 0) := fun hh => hh.elim (fun x => e1.1 x h1) (fun x => e2.1 x h2)
      simp only [decide_eq_true h1, decide_eq_true h2, if_true, if_neg hc]
      rw [decide_eq_true hp]
    · have e2 := (bnd_nought (wrap64 (b - 1)) n s).2 h2
      have hc : (bnd a n s).2 = 0 ∨ (bnd (wrap64 (b - 1)) n s).2 = 0 := .inr e2
      simp only [decide_eq_true h1, decide_eq_false h2, Bool.false_eq_true, if_true, if_false, if_pos hc]
      rfl
  · have e1 := (bnd_nought a n s).2 h1
    have hc : (bnd a n s).2 = 0 ∨ (bnd (wrap64 (b - 1)) n s).2 = 0 := .inl e1
    simp only [decide_eq_false h1, Bool.false_eq_true, if_false, if_pos hc]
    rfl
end Go.Proofs.YtcnlmpjoghogbaaDoor.Pure
namespace Go.Proofs.YtcnlmpjoghogbaaDoor.Pure
open Go.RowKit Go.Proofs.YtcnlmpjoghogbaaDoor.Xw Go.Proofs.YtcnlmpjoghogbaaDoor.PAll Go.Proofs.YtcnlmpjoghogbaaDoorW.PrintWords Go.Proofs.YtcnlmpjoghogbaaDoorW.PrintLast Go.Proofs.YtcnlmpjoghogbaaDoorW.PrintMore
open Go.Proofs.YtcnlmpjoghogbaaDoor.Ag (hasF withF zeroF ofF srt splitAll splitStep has_of has_own splitAll_snoc splitAll_len all_of all_len)
theorem cov_mem (l : List S53) (n s : Int) : ∀ (d : Nat) (i x : Int), x ∈ cov l n s d i → i ≤ x ∧ x < i + d
  | 0, _, _, h => by simp [cov] at h
  | d + 1, i, x, h => by
    rw [cov, List.mem_append] at h
    rcases h with h | h
    · split at h
      · simp only [List.mem_singleton] at h; omega
      · simp at h
    · have := cov_mem l n s d (i + 1) x h
      omega
theorem slot_in {n s i : Int} (h0 : 0 ≤ i) (h1 : i < cnt n s) : CR n s ∧ 0 ≤ i ∧ i * s < n := by
  have := bounds_eq i n s
  unfold cuts_Bounds.f at this
  rw [if_neg (by omega), count_eq, Option.bind_some, if_neg (by omega)] at this
  simp only [Option.some.injEq, Prod.mk.injEq] at this
  exact of_decide_eq_true this.2.2.symm
theorem of_snoc (m : List Int) (x : Int) : withF (ofF m) x = ofF (m ++ [x]) := by
  show _ = (m ++ [x]).foldl withF zeroF
  rw [List.foldl_append]
  rfl
theorem run_loop (n s : Int) (x12 : Int) (x37 : List RunS) (x38 x39 : Int) (y0 : List Int) (y1 y2 : List RunS) (r : RunS) (b1 : r.f1 ≤ 4097) (d : Nat) : ∀ (i : Int) (now : List Int), 0 ≤ i → i + d = r.f1 → (∀ x, i ≤ x → x < r.f1 → x ∉ now) →
    ∀ res, Ev (fun k => spencelaw28_PlanOnce.l0 k n s x12 x37 x38 (wrap64 (x39 + 1)) y0 y1 y2 (ofF (now ++ rng i d))) res → Ev (fun k => spencelaw28_PlanOnce.l1 k n s x12 i x37 x38 x39 y0 y1 y2 (ofF now) r.f0 r.f1 r.f2) res := by
  induction d with
  | zero =>
    intro i now h0 h1 hn res h
    rw [show rng i 0 = [] by simp [rng], List.append_nil] at h
    refine Ev.step (fun k => ?_) h
    simp only [spencelaw28_PlanOnce.l1]
    rw [if_neg (by omega)]
  | succ d ih =>
    intro i now h0 h1 hn res h
    have e : now ++ rng i (d + 1) = (now ++ [i]) ++ rng (i + 1) d := by
      rw [List.append_assoc]
      congr 1
      simp only [rng, List.range_succ_eq_map, List.map_cons, List.map_map, List.cons_append, List.nil_append]
      congr 1
      · simp
      · refine List.map_congr_left fun j _ => ?_
        simp only [Function.comp_apply]
        push_cast
        omega
    rw [e] at h
    have hx := ih (i + 1) (now ++ [i]) (by omega) (by omega) (fun x a b hm => by
      rcases List.mem_append.1 hm with hm | hm
      · exact hn x (by omega) b hm
      · simp only [List.mem_singleton] at hm; omega) res h
    refine Ev.step (fun k => ?_) hx
    simp only [spencelaw28_PlanOnce.l1]
    rw [if_pos (by omega)]
    unfold bitmap_Map_Has.f bitmap_Map_With.f
    have hf : hasF (ofF now) i = false := by
      rw [has_own, decide_eq_false (hn i (by omega) (by omega)), Bool.and_false]
    rw [Option.bind_some, hf, if_neg (by simp), Option.bind_some, of_snoc, wrap_id (by omega)]
theorem slice_mem (l : List RunS) (r : RunS) (hr : r ∈ l) (h0 : 0 ≤ r.f0) (h1 : r.f1 ≤ 4097) (x : Int) (a : r.f0 ≤ x) (b : x < r.f1) : x ∈ slicesOf l := by
  simp only [slicesOf, List.mem_flatMap]
  refine ⟨r, hr, (rng_mem _ _ _).2 ?_⟩
  have m1 := mx_eq r.f0 0
  have m2 := mn_eq r.f1 4097
  unfold sizeR
  show mx r.f0 0 ≤ x ∧ x < mx r.f0 0 + ((mn r.f1 4097 - mx r.f0 0).toNat : Int)
  omega
theorem slice_rng (r : RunS) (h0 : 0 ≤ r.f0) (h2 : r.f0 < r.f1) (h1 : r.f1 ≤ 4097) : rng (fromR r) (sizeR r) = rng r.f0 (r.f1 - r.f0).toNat := by
  have m1 := mx_eq r.f0 0
  have m2 := mn_eq r.f1 4097
  have e1 : fromR r = r.f0 := by show mx r.f0 0 = r.f0; omega
  have e2 : sizeR r = (r.f1 - r.f0).toNat := by unfold sizeR; show (mn r.f1 4097 - mx r.f0 0).toNat = _; omega
  rw [e1, e2]
theorem once_end (n s x12 : Int) (fetch : List RunS) (need m : List Int) (y1 y2 : List RunS) (ok : FetchOk need m fetch) (hnd : ∀ x ∈ need, 0 ≤ x ∧ x ≤ 4096) :
    Ev (fun k => spencelaw28_PlanOnce.l0 k n s x12 fetch (fetch.length : Int) (fetch.length : Int) need y1 y2 (ofF (m ++ slicesOf fetch))) true := by
  refine Ev.pos fun k => ?_
  simp only [spencelaw28_PlanOnce.l0]
  rw [if_neg (by omega)]
  unfold plan_Ready.f
  rw [Option.bind_some]
  congr 1
  rw [Bool.not_eq_true', List.any_eq_false]
  intro x hx
  have hb := hnd x hx
  rw [has_own, decide_eq_true hb, Bool.true_and]
  by_cases hm : x ∈ m
  · rw [decide_eq_true (by simp [hm])]; simp
  · have : x ∈ slicesOf fetch := by
      rw [ok.slices, List.mem_filter]
      exact ⟨(srt_mem need x).2 ⟨hx, hb⟩, by simp [hm]⟩
    rw [decide_eq_true (by simp [this])]; simp
theorem once_loop (n s : Int) (fetch : List RunS) (need m : List Int) (y1 y2 : List RunS) (ok : FetchOk need m fetch) (hnd : ∀ x ∈ need, 0 ≤ x ∧ x ≤ 4096) (hslot : ∀ x ∈ need, CR n s ∧ 0 ≤ x ∧ x * s < n) (hlen : fetch.length ≤ 1000000 * 4097) (post : List RunS) :
    ∀ (pre : List RunS) (x12 : Int), fetch = pre ++ post → (∀ r rest, post = r :: rest → x12 ≤ r.f0) →
    Ev (fun k => spencelaw28_PlanOnce.l0 k n s x12 fetch (fetch.length : Int) (pre.length : Int) need y1 y2 (ofF (m ++ slicesOf pre))) true := by
  induction post with
  | nil =>
    intro pre x12 h _
    rw [List.append_nil] at h
    subst h
    exact once_end n s x12 _ need m y1 y2 ok hnd
  | cons r rest ih =>
    intro pre x12 h hx12
    have hl : fetch.length = pre.length + (rest.length + 1) := by rw [h]; simp
    have hr : rd_T50 fetch (pre.length : Int) = r := by rw [h]; exact rdR pre r rest _ rfl
    have hrm : r ∈ fetch := by rw [h]; simp
    obtain ⟨c1, c2, c3, c4, c5⟩ := ok.parts r hrm
    have hend := hx12 r rest rfl
    have hp : (slicesOf fetch).Pairwise (· < ·) := by rw [ok.slices]; exact (srt_rise need).filter _
    have hnotm : ∀ x, r.f0 ≤ x → x < r.f1 → x ∈ need ∧ x ∉ m := fun x a b => by
      have := slice_mem fetch r hrm c2 c4 x a b
      rw [ok.slices, List.mem_filter] at this
      refine ⟨((srt_mem need x).1 this.1).1, ?_⟩
      have h2 := this.2
      intro hm
      rw [decide_eq_true hm] at h2
      cases h2
    have hsl : slicesOf fetch = slicesOf pre ++ (rng r.f0 (r.f1 - r.f0).toNat ++ slicesOf rest) := by
      rw [h, slices_append, show slicesOf (r :: rest) = rng (fromR r) (sizeR r) ++ slicesOf rest by simp [slicesOf], slice_rng r c2 c3 c4]
    rw [hsl] at hp
    have hpre : ∀ x, r.f0 ≤ x → x < r.f1 → x ∉ slicesOf pre := fun x a b hm => by
      have := (List.pairwise_append.1 hp).2.2 x hm x (List.mem_append.2 (.inl ((rng_mem _ _ _).2 (by omega))))
      omega
    have hnext : ∀ q rest', rest = q :: rest' → r.f1 ≤ q.f0 := fun q rest' e => by
      obtain ⟨d1, d2, d3, d4, d5⟩ := ok.parts q (by rw [h, e]; simp)
      have hq := slice_mem rest q (by rw [e]; simp) d2 d4 q.f0 (Int.le_refl _) d3
      have h2 := (List.pairwise_append.1 (List.pairwise_append.1 hp).2.1).2.2 (r.f1 - 1) ((rng_mem _ _ _).2 (by omega)) q.f0 hq
      omega
    have hn := ih (pre ++ [r]) r.f1 (by rw [h]; simp) hnext
    have e2 : (((pre ++ [r]).length : Nat) : Int) = wrap64 ((pre.length : Int) + 1) := by rw [wrap_id (by omega)]; simp
    rw [e2, slices_snoc, slice_rng r c2 c3 c4, ← List.append_assoc] at hn
    have hrun := run_loop n s r.f1 fetch (fetch.length : Int) (pre.length : Int) need y1 y2 r c4 (r.f1 - r.f0).toNat r.f0 (m ++ slicesOf pre) c2 (by omega) (fun x a b hm => by
      rcases List.mem_append.1 hm with hm | hm
      · exact (hnotm x a b).2 hm
      · exact hpre x a b hm) true hn
    have s1 := hslot r.f0 (hnotm r.f0 (Int.le_refl _) c3).1
    have s2 := hslot (r.f1 - 1) (hnotm (r.f1 - 1) (by omega) (by omega)).1
    have hw : wrap64 (r.f1 - 1) = r.f1 - 1 := wrap_id (by omega)
    have hby : bytesOfRun r.f0 r.f1 n s = ((bnd r.f0 n s).1, (bnd (r.f1 - 1) n s).2) := by
      unfold bytesOfRun
      rw [hw, if_neg (by omega), if_neg (fun hh => hh.elim (fun e => (bnd_nought _ _ _).1 e s1) (fun e => (bnd_nought _ _ _).1 e s2))]
    have p1 := bnd_pos r.f0 n s
    have p2 := bnd_pos (r.f1 - 1) n s
    have q1 := (bnd_in s1).1
    have q2 := (bnd_in s2).1
    have q3 := p2.2.2.1 s2
    have q4 := p2.1.2 s2
    have hmul : r.f0 * s ≤ (r.f1 - 1) * s := Int.mul_le_mul_of_nonneg_right (by omega) (by have := s1.1; unfold CR at this; omega)
    have h3 : Ev (fun k => spencelaw28_PlanOnce.j3 k n s r.f1 fetch (fetch.length : Int) (pre.length : Int) false need y1 y2 (ofF (m ++ slicesOf pre)) r.f0 r.f1 r.f2) true := by
      refine Ev.step (fun k => ?_) hrun
      simp only [spencelaw28_PlanOnce.j3, Bool.false_eq_true, if_false]
    have h2 : Ev (fun k => spencelaw28_PlanOnce.j2 k n s fetch (fetch.length : Int) (pre.length : Int) false need y1 y2 (ofF (m ++ slicesOf pre)) r.f0 r.f1 r.f2) true := by
      refine Ev.step (fun k => ?_) h3
      simp only [spencelaw28_PlanOnce.j2, Bool.false_eq_true, if_false]
      rw [planBytes_eq, Option.bind_some, hby]
      simp only [decide_eq_true (show (bnd (r.f1 - 1) n s).2 > 0 from q4), if_true]
      rw [if_neg (by omega), if_neg (by omega), decide_eq_false (by omega)]
    refine Ev.step (fun k => ?_) h2
    simp only [spencelaw28_PlanOnce.l0]
    rw [if_pos (by omega), if_pos (by omega), if_pos (by omega), hr, if_neg (by rw [c1]; simp), if_neg (by omega), wrap_id (by omega), if_neg (by omega), if_neg (by omega), decide_eq_false (by omega)]
theorem fetch_len (need m : List Int) : (fetchOf (ofF m) need).length ≤ 1000000 * 4097 := by
  unfold fetchOf
  have a3 := splitAll_len (hasF (ofF m)) (srt need)
  have a4 := srt_len need
  generalize splitAll (hasF (ofF m)) (srt need) = out at a3
  have a1 := cap_len 8 (out.filter fun r => !r.f2)
  have a2 : (out.filter fun r => !r.f2).length ≤ out.length := List.length_filter_le _ _
  generalize (out.filter fun r => !r.f2).length = x at a1 a2
  refine Nat.le_trans a1 (Nat.mul_le_mul_right _ ?_)
  omega
theorem PlanOnce : spencelaw28_PlanOnce.Pure := by
  intro l n s m h1 _ _ _ _ _
  refine Ev.rounds (g := fun k => spencelaw28_PlanOnce.f k l n s m) ?_
  unfold spencelaw28_PlanOnce.f
  refine Ev.bind awake28 ?_
  simp only [if_true]
  have main : ∀ t : Bool, Ev (fun k => spencelaw28_PlanOnce.j0 k l n s m t) true := fun t => by
    refine Ev.succ ?_
    simp only [spencelaw28_PlanOnce.j0]
    cases t with
    | true => simp only [if_true]; exact Ev.now _
    | false =>
      simp only [Bool.false_eq_true, if_false]
      unfold bitmap_Of.f
      simp only [Option.bind_some]
      rw [show m.foldl withF zeroF = ofF m from rfl]
      have hcov := cover_ev l n s (by omega)
      have hc := cnt_bd2 n s
      have hin : ∀ x ∈ cov l n s (cnt n s).toNat 0, 0 ≤ x ∧ x < cnt n s := fun x hx => by have := cov_mem l n s _ 0 x hx; omega
      generalize cov l n s (cnt n s).toNat 0 = need at hcov hin
      refine Ev.bind (planOf_ev l n s (ofF m) need hcov) ?_
      have hok := fetch_ok need m
      have hlen := fetch_len need m
      generalize fetchOf (ofF m) need = fetch at hok hlen
      have := once_loop n s fetch need m (splitAll (hasF (ofF m)) (srt need)) fetch hok (fun x hx => by have := hin x hx; omega) (fun x hx => slot_in (hin x hx).1 (hin x hx).2) hlen fetch [] (-1) (List.nil_append _).symm (fun r rest e => by
        have := hok.parts r (by rw [e]; simp)
        omega)
      have e0 : slicesOf ([] : List RunS) = [] := by simp [slicesOf]
      rw [e0, List.append_nil, show (([] : List RunS).length : Int) = 0 from rfl] at this
      dsimp only
      exact this
  by_cases h : (l.length : Int) > 20
  · simp only [h, if_true]; exact main _
  · simp only [h, if_false]; exact main _
end Go.Proofs.YtcnlmpjoghogbaaDoor.Pure
namespace Go.Proofs.YtcnlmpjoghogbaaDoor.planOnce
open Go.ChangeShapes Go.WideShapes Go.ChangeAt Go.RowKit Go.Proofs.YtcnlmpjoghogbaaDoor.Rd Go.Proofs.YtcnlmpjoghogbaaDoor.PAll Go.Proofs.YtcnlmpjoghogbaaDoorW.PrintWords
open Go.ChangeMaps (open_string shut_string)
set_option linter.unusedVariables false
theorem own : ownKnob Tryd.prog.godebug = none := by kernel_rfl
theorem laidOut : laidOutB Tryd.prog = true := by kernel_rfl
def ok53 (x : S53) : Prop := (Lit.int .i64 x.f0).wf = true ∧ (Lit.int .i64 x.f1).wf = true
theorem o53 : Opens Tryd.prog 53 k53 ok53 := opens_struct Tryd.underlying53 (opensF_cons (opens_int Tryd.underlying3) rfl (by kernel_rfl) rfl (opensF_one (opens_int Tryd.underlying3) rfl (by kernel_rfl))) (by kernel_rfl) (fun x : S53 => (x.f0, x.f1)) (fun p => ⟨p.1, p.2⟩) (fun _ => rfl)
set_option maxRecDepth 100000 in
set_option maxHeartbeats 4000000 in
theorem lifted (os : Os) (started : os.Started) (H : Type) (enc : TypeId × Value → H) :
    ReturnsInHanded {} Tryd.checked os 7 .any (fun w args => (Rows.planOnceSpec.pre enc Tryd.prog Tryd.f7 Rows.planOnceRow.domain false w args ∧ laidMetH Tryd.prog Rows.planOnceRow.laid w) ∧ sizedMet enc Tryd.prog Tryd.f7 (OpenSpec.ofChange Rows.planOnceSpec) false w args) (Rows.planOnceSpec.post enc Tryd.prog Tryd.f7 false true false false) := by
  refine returnsInHanded_of_change_and (C := Tryd.checked) (X := (fun w _ => laidMetH Tryd.prog Rows.planOnceRow.laid w)) (fun _ _ _ hh h => h.of_heap hh) own started (by kernel_rfl) Tryd.func7
    (ChangeSpec.witness_shaped (enc := enc) (C := Tryd.checked) (os := os) (X := (fun w _ => laidMetH Tryd.prog Rows.planOnceRow.laid w)) false (World.laidAll Tryd.prog os Rows.planOnceRow.laid) #[.slice none 0 0, .int .i64 0, .int .i64 0, .slice none 0 0] 8 (World.laidAll_os _ _ _)
      (World.shaped_of_ZipB (by kernel_rfl) (by kernel_rfl)) (by kernel_rfl) (by kernel_rfl) (by kernel_rfl)
      (by rw [MakeChecks.laidMetH_plain _ _ _ (by kernel_rfl)]; exact laidMet_laidAll _ (by kernel_rfl) (by kernel_rfl))) ?_
  intro W base args ds gs before hval0 hW hcnd hsz0 hL_ _
  rw [MakeChecks.laidMetH_plain _ _ _ (by kernel_rfl)] at hL_
  have hT := Ag.tab_of_reads (Lib.laidMet.reads hL_ (.head _))
  have hsz : (DataW.weightsEach Tryd.prog (Tryd.f7.params.toList ++ Rows.planOnceSpec.plain.varTypes Tryd.prog) (ds ++ gs)).all (· ≤ reachBytes) = true := hsz0
  have hval : ∀ (j : Nat) t v, Tryd.f7.params[j]? = some t → args[j]? = some v → Value.okWide Tryd.prog W .any base t v := hval0
  have hW' := hW
  obtain ⟨p, q, hA0, hV, rfl, hfz, hnd⟩ := hW
  have hA : DataW.TrodAll enc Tryd.prog W 0 (fun _ => true) true Tryd.f7.params.toList args.toList ds p := hA0
  rw [Tryd.params7] at hA hval hsz
  obtain ⟨v0, vs0, d0, ds0, p0, q0, hargs, rfl, rfl, h0, r0⟩ := trodAll_cons hA
  obtain ⟨v1, vs1, d1, ds1, p1, q1, rfl, rfl, rfl, h1, r1⟩ := trodAll_cons r0
  obtain ⟨v2, vs2, d2, ds2, p2, q2, rfl, rfl, rfl, h2, r2⟩ := trodAll_cons r1
  obtain ⟨v3, vs3, d3, ds3, p3, q3, rfl, rfl, rfl, h3, r3⟩ := trodAll_cons r2
  obtain ⟨rfl, rfl, rfl⟩ := trodAll_nil r3
  obtain rfl : args = #[v0, v1, v2, v3] := by cases args; simp_all
  obtain ⟨rfl, rfl⟩ := trodVars_none hV
  have k0 := h0
  have lt0 : ∀ x ∈ p0, x.block < W.heap.size := by obtain ⟨m, hm⟩ := k0; exact DataW.trod_lt m _ _ _ hm
  have k1 := h1
  have lt1 : ∀ x ∈ p1, x.block < W.heap.size := by obtain ⟨m, hm⟩ := k1; exact DataW.trod_lt m _ _ _ hm
  have k2 := h2
  have lt2 : ∀ x ∈ p2, x.block < W.heap.size := by obtain ⟨m, hm⟩ := k2; exact DataW.trod_lt m _ _ _ hm
  have k3 := h3
  have lt3 : ∀ x ∈ p3, x.block < W.heap.size := by obtain ⟨m, hm⟩ := k3; exact DataW.trod_lt m _ _ _ hm
  obtain ⟨A0, c0, l0, rfl, hc0, hC0, hok0, hb0⟩ := Rd.open_row Tryd.underlying58 o53 (by kernel_rfl) (hval 0 58 v0 rfl rfl) h0 hsz (j := 0) rfl rfl (B := 16) (by kernel_rfl)
  obtain ⟨a1, rfl, rfl, rfl, w1⟩ := open_int Tryd.underlying3 (hval 1 3 v1 rfl rfl) h1
  obtain ⟨a2, rfl, rfl, rfl, w2⟩ := open_int Tryd.underlying3 (hval 2 3 v2 rfl rfl) h2
  obtain ⟨A3, c3, l3, rfl, hc3, hC3, hok3, hb3⟩ := Rd.open_row Tryd.underlying22 (opens_int Tryd.underlying3) (by kernel_rfl) (hval 3 22 v3 rfl rfl) h3 hsz (j := 3) rfl rfl (B := 8) (by kernel_rfl)
  clear hA0 hval0 hsz0 hsz
  obtain ⟨k, hk⟩ := Pure.PlanOnce l0 a1 a2 l3 hb0 hok0 w1 w2 hb3 hok3
  refine (PAll.spencelaw28_PlanOnce.calls k _ _ l0 a1 a2 _ _ l3 true rfl W hC0 hc0 hC3 hc3 hT hk).mono fun e W' ⟨he, hd⟩ => ?_
  have bel : Below W.heap.size W W' := hd
  subst he
  exact ⟨_, rfl, _, _, _, [], _, [], hW', trodAll_mk1 (shut_bool Tryd.underlying4 _), (trodAll_cons_mk (Below.trod laidOut (by kernel_rfl) (of_decide_eq_true (by kernel_rfl)) k0 bel lt0) (trodAll_cons_mk (shut_int Tryd.underlying3 w1) (trodAll_cons_mk (shut_int Tryd.underlying3 w2) (trodAll_cons_mk (Below.trod laidOut (by kernel_rfl) (of_decide_eq_true (by kernel_rfl)) k3 bel lt3) trodAll_mk0)))), rfl, bel.frame _, fun h => by cases h⟩
theorem over : Rows.planOnceRow.holds Tryd.pinned (OpenSpec.ofChange Rows.planOnceSpec) :=
  OpenClaim.holds_of_wide 7 Tryd.f7 rfl rfl rfl rfl rfl rfl rfl ⟨rfl, rfl, rfl, rfl, rfl⟩ rfl rfl rfl rfl rfl (by kernel_rfl) Tryd.func7 (by kernel_rfl)
    (of_decide_eq_true (by kernel_rfl)) (by unfold Func.isWrapper; first | (rw [if_pos (by decide +kernel)]; kernel_rfl) | (rw [if_neg (by decide +kernel)]; exact ⟨rfl, rfl⟩))
    (fun os started H enc _ => lifted os started H enc)
end Go.Proofs.YtcnlmpjoghogbaaDoor.planOnce
namespace Go.Proofs.YtcnlmpjoghogbaaDoor
theorem planOnce_row : Rows.PlanOnceSaid := planOnce.over
theorem planOnceCard_holds : Rows.PlanOnceCardSaid :=
  Claim7.holds_tied_plain_at .later [] [.data] true (true, "9efb238688faacc68744475846aa2837f64feee42efab19a35a16943659a881b") false planOnce_row (fun _ h => by cases h) (by kernel_rfl) (fun _ h => by cases h) planOnce_row_tie rfl ⟨rfl, rfl⟩ (by kernel_rfl) rfl
    (fun f fn hf hfn => by
      obtain rfl : f = 7 := Option.some.inj ((show Tryd.prog.funcNamed "spence/spencelaw28.PlanOnce" = some 7 by kernel_rfl).symm.trans hf) |>.symm
      obtain rfl : fn = Tryd.f7 := (Option.some.inj (Tryd.func7.symm.trans hfn)).symm
      exact ⟨by kernel_rfl, fun j t ht => by
        rw [Tryd.params7] at ht
        have hm : t ∈ [58, 3, 3, 22] := by simpa using Array.mem_of_getElem? ht
        have hall : ([58, 3, 3, 22].all fun u => !Tryd.prog.wantsStandIn u) = true := by kernel_rfl
        exact (show Tryd.prog.wantsStandIn t = false by simpa using List.all_eq_true.1 hall t hm)⟩)
    (by kernel_rfl)
#print axioms planOnceCard_holds
end Go.Proofs.YtcnlmpjoghogbaaDoor
