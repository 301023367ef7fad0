/- What the law PlanMakes leans on (part 6 of 7): Go functions as plain functions, that the code comes to them, and what these answer. -/
import Derived.Test.YtcnlmpjoghogbaaDoorKPlanMakes1
import Derived.Test.YtcnlmpjoghogbaaDoorKPlanMakes2
import Derived.Test.YtcnlmpjoghogbaaDoorKPlanMakes3
import Derived.Test.YtcnlmpjoghogbaaDoorKPlanMakes4
namespace Go.Proofs.YtcnlmpjoghogbaaDoor.PAll
open Go.Proofs.YtcnlmpjoghogbaaDoor.Ag (row_load row_store ag_gate ag_gate_st row_store2)
open Go.RowKit Go.Proofs.YtcnlmpjoghogbaaDoor.Xw Go.Proofs.YtcnlmpjoghogbaaDoorW.PrintWords Go.Proofs.YtcnlmpjoghogbaaDoorW.PrintLast Go.Proofs.YtcnlmpjoghogbaaDoorW.PrintMore
attribute [local go_sem] max2_int min2_int max_two min_two max_three min_three max_four min_four   -- for this text's walks alone
attribute [local go_sem ↓] Ag.ldMap_eq
set_option linter.unusedVariables false
set_option linter.unusedSimpArgs false
mutual
def spencelaw28_PlanMakes.j0 : Nat → List (S53) → Int → Int → List Int → List Int → Bool → Option (Bool)
  | 0, _, _, _, _, _, _ => none
  | k + 1, x0, x1, x2, x3, x4, x39 => if x39 = true then (some true) else ((bitmap_Of.f x3).bind fun t421 => ((plan_Of.f k x0 x1 x2 t421).bind fun bt423 => ((spenceref04_Cover.f k x0 x1 x2).bind fun t433 => ((spenceref24_Split.f k t433 x3).bind fun t436 => ((plan_With.f k bt423.1 bt423.2.1 bt423.2.2 x4 t421).bind fun bt439 => (if ([] : List Int).length + t433.length < 17592186044416 then ((some (([] : List Int) ++ t433 : List Int)).bind fun y449 => (if y449.length + x4.length < 17592186044416 then ((spenceref24_Split.f k (y449 ++ x4) x3).bind fun t455 => (spencelaw28_PlanMakes.l0 k x1 x2 x3 t433 t436 t455 true t433 (t433.length : Int) 0 t421 bt423.1 bt423.2.1 bt423.2.2 bt439.1 bt439.2.1 bt439.2.2)) else (none))) else (none)))))))
def spencelaw28_PlanMakes.l0 : Nat → Int → Int → List Int → List Int → List (S50) → List (S50) → Bool → List Int → Int → Int → (Nat → Int) → List Int → List (S50) → List (S50) → List Int → List (S50) → List (S50) → Option (Bool)
  | 0, _, _, _, _, _, _, _, _, _, _, _, _, _, _, _, _, _ => none
  | k + 1, x1, x2, x3, x13, x14, x16, x17, x64, x65, x66, x423000, x433000, x433001, x433002, x449000, x449001, x449002 => if x66 < x65 then (if 0 ≤ x66 then (if x66 < (x64.length : Int) then (if x17 = true then ((spenceref01_In.f k x3 (rd x64 x66)).bind fun t459 => (spencelaw28_PlanMakes.l0 k x1 x2 x3 x13 x14 x16 t459 x64 x65 (wrap64 (x66 + 1)) x423000 x433000 x433001 x433002 x449000 x449001 x449002)) else (spencelaw28_PlanMakes.l0 k x1 x2 x3 x13 x14 x16 false x64 x65 (wrap64 (x66 + 1)) x423000 x433000 x433001 x433002 x449000 x449001 x449002)) else (none)) else (none)) else ((spenceref24_Missing.f k x14).bind fun t460 => ((spenceref24_Cap.f k t460 8).bind fun t463 => (spencelaw28_PlanMakes.l1 k x1 x2 x13 x14 x16 x17 0 t463 t463 (t463.length : Int) 0 x423000 x433000 x433001 x433002 x449000 x449001 x449002)))
def spencelaw28_PlanMakes.l1 : Nat → Int → Int → List Int → List (S50) → List (S50) → Bool → Int → List (S50) → List (S50) → Int → Int → (Nat → Int) → List Int → List (S50) → List (S50) → List Int → List (S50) → List (S50) → Option (Bool)
  | 0, _, _, _, _, _, _, _, _, _, _, _, _, _, _, _, _, _, _ => none
  | k + 1, x1, x2, x13, x14, x16, x17, x20, x21, x80, x81, x82, x423000, x433000, x433001, x433002, x449000, x449001, x449002 => if x82 < x81 then (if 0 ≤ x82 then (if x82 < (x80.length : Int) then ((spencelaw28_bytes.f k ((rd_T50 x80 x82).f0) ((rd_T50 x80 x82).f1) ((rd_T50 x80 x82).f2) x1 x2).bind fun bt468 => (spencelaw28_PlanMakes.l1 k x1 x2 x13 x14 x16 x17 (wrap64 (x20 + (wrap64 (bt468.2 - bt468.1)))) x21 x80 x81 (wrap64 (x82 + 1)) x423000 x433000 x433001 x433002 x449000 x449001 x449002)) else (none)) else (none)) else ((spenceref01_Ints.f k x433000 x13).bind fun t471 => (if t471 = true then ((spenceref24_Runs.f k x433001 x14).bind fun t472 => (if t472 = true then ((spenceref24_Runs.f k x433002 x21).bind fun t473 => (if t473 = true then ((spenceref24_Missing.f k x16).bind fun t474 => ((spenceref24_Cap.f k t474 8).bind fun t477 => ((spenceref24_Runs.f k x449002 t477).bind fun t480 => (if t480 = true then ((spenceref01_Ints.f k x449000 x13).bind fun t481 => (if t481 = true then ((plan_Ready.f x433000 x433001 x433002 x423000).bind fun t482 => (if (t482 == x17) = true then ((plan_Steps.f x433000 x433001 x433002).bind fun t483 => (if t483 = (x21.length : Int) then ((plan_Cost.f x433000 x433001 x433002 x1 x2).bind fun t484 => (some (t484 == x20))) else (some false))) else (some false))) else (some false))) else (some false))))) else (some false))) else (some false))) else (some false)))
end
def spencelaw28_PlanMakes.f (k : Nat) (l0 : List (S53)) (a1 : Int) (a2 : Int) (l3 : List Int) (l4 : List Int) : Option (Bool) := (spencelaw28_awake.f k).bind fun t420 => (if t420 = true then (if (l0.length : Int) > 20 then (spencelaw28_PlanMakes.j0 k l0 a1 a2 l3 l4 true) else (if (l3.length : Int) > 60 then (spencelaw28_PlanMakes.j0 k l0 a1 a2 l3 l4 true) else (spencelaw28_PlanMakes.j0 k l0 a1 a2 l3 l4 (decide ((l4.length : Int) > 30))))) else (some false))
theorem spencelaw28_PlanMakes.mono_l : ∀ k, (∀ y0 y1 y2 y3 y4 y5, LeO (spencelaw28_PlanMakes.j0 k y0 y1 y2 y3 y4 y5) (spencelaw28_PlanMakes.j0 (k + 1) y0 y1 y2 y3 y4 y5)) ∧ (∀ y0 y1 y2 y3 y4 y5 y6 y7 y8 y9 y10 y11 y12 y13 y14 y15 y16, LeO (spencelaw28_PlanMakes.l0 k y0 y1 y2 y3 y4 y5 y6 y7 y8 y9 y10 y11 y12 y13 y14 y15 y16) (spencelaw28_PlanMakes.l0 (k + 1) y0 y1 y2 y3 y4 y5 y6 y7 y8 y9 y10 y11 y12 y13 y14 y15 y16)) ∧ (∀ y0 y1 y2 y3 y4 y5 y6 y7 y8 y9 y10 y11 y12 y13 y14 y15 y16 y17, LeO (spencelaw28_PlanMakes.l1 k y0 y1 y2 y3 y4 y5 y6 y7 y8 y9 y10 y11 y12 y13 y14 y15 y16 y17) (spencelaw28_PlanMakes.l1 (k + 1) y0 y1 y2 y3 y4 y5 y6 y7 y8 y9 y10 y11 y12 y13 y14 y15 y16 y17))
  | 0 => ⟨fun _ _ _ _ _ _ r h => by simp [spencelaw28_PlanMakes.j0] at h, fun _ _ _ _ _ _ _ _ _ _ _ _ _ _ _ _ _ r h => by simp [spencelaw28_PlanMakes.l0] at h, fun _ _ _ _ _ _ _ _ _ _ _ _ _ _ _ _ _ _ r h => by simp [spencelaw28_PlanMakes.l1] at h⟩
  | k + 1 => by
    obtain ⟨ih0, ih1, ih2⟩ := spencelaw28_PlanMakes.mono_l k
    refine ⟨?_, ?_, ?_⟩
    · intro y0 y1 y2 y3 y4 y5
      unfold spencelaw28_PlanMakes.j0
      repeat' first
      | (with_reducible exact ih0 _ _ _ _ _ _)
      | (with_reducible exact ih1 _ _ _ _ _ _ _ _ _ _ _ _ _ _ _ _ _)
      | (with_reducible exact ih2 _ _ _ _ _ _ _ _ _ _ _ _ _ _ _ _ _ _)
      | (with_reducible exact plan_Of.mono _ _ _ _ _)
      | (with_reducible exact plan_With.mono _ _ _ _ _ _)
      | (with_reducible exact spencelaw28_awake.mono _)
      | (with_reducible exact spencelaw28_bytes.mono _ _ _ _ _ _)
      | (with_reducible exact spenceref01_In.mono _ _ _)
      | (with_reducible exact spenceref01_Ints.mono _ _ _)
      | (with_reducible exact spenceref04_Cover.mono _ _ _ _)
      | (with_reducible exact spenceref24_Cap.mono _ _ _)
      | (with_reducible exact spenceref24_Missing.mono _ _)
      | (with_reducible exact spenceref24_Runs.mono _ _ _)
      | (with_reducible exact spenceref24_Split.mono _ _ _)
      | (with_reducible exact LeO.refl _)
      | (with_reducible exact LeO.none _)
      | (with_reducible refine LeO.ite ?_ ?_)
      | (with_reducible refine LeO.bind ?_ (fun _ => ?_))
      | exact ih0 _ _ _ _ _ _
      | exact ih1 _ _ _ _ _ _ _ _ _ _ _ _ _ _ _ _ _
      | exact ih2 _ _ _ _ _ _ _ _ _ _ _ _ _ _ _ _ _ _
      | exact plan_Of.mono _ _ _ _ _
      | exact plan_With.mono _ _ _ _ _ _
      | exact spencelaw28_awake.mono _
      | exact spencelaw28_bytes.mono _ _ _ _ _ _
      | exact spenceref01_In.mono _ _ _
      | exact spenceref01_Ints.mono _ _ _
      | exact spenceref04_Cover.mono _ _ _ _
      | exact spenceref24_Cap.mono _ _ _
      | exact spenceref24_Missing.mono _ _
      | exact spenceref24_Runs.mono _ _ _
      | exact spenceref24_Split.mono _ _ _
      | exact LeO.none _
      | refine LeO.ite ?_ ?_
      | refine LeO.bind ?_ (fun _ => ?_)
    · intro y0 y1 y2 y3 y4 y5 y6 y7 y8 y9 y10 y11 y12 y13 y14 y15 y16
      unfold spencelaw28_PlanMakes.l0
      repeat' first
      | (with_reducible exact ih0 _ _ _ _ _ _)
      | (with_reducible exact ih1 _ _ _ _ _ _ _ _ _ _ _ _ _ _ _ _ _)
      | (with_reducible exact ih2 _ _ _ _ _ _ _ _ _ _ _ _ _ _ _ _ _ _)
      | (with_reducible exact plan_Of.mono _ _ _ _ _)
      | (with_reducible exact plan_With.mono _ _ _ _ _ _)
      | (with_reducible exact spencelaw28_awake.mono _)
      | (with_reducible exact spencelaw28_bytes.mono _ _ _ _ _ _)
      | (with_reducible exact spenceref01_In.mono _ _ _)
      | (with_reducible exact spenceref01_Ints.mono _ _ _)
      | (with_reducible exact spenceref04_Cover.mono _ _ _ _)
      | (with_reducible exact spenceref24_Cap.mono _ _ _)
      | (with_reducible exact spenceref24_Missing.mono _ _)
      | (with_reducible exact spenceref24_Runs.mono _ _ _)
      | (with_reducible exact spenceref24_Split.mono _ _ _)
      | (with_reducible exact LeO.refl _)
      | (with_reducible exact LeO.none _)
      | (with_reducible refine LeO.ite ?_ ?_)
      | (with_reducible refine LeO.bind ?_ (fun _ => ?_))
      | exact ih0 _ _ _ _ _ _
      | exact ih1 _ _ _ _ _ _ _ _ _ _ _ _ _ _ _ _ _
      | exact ih2 _ _ _ _ _ _ _ _ _ _ _ _ _ _ _ _ _ _
      | exact plan_Of.mono _ _ _ _ _
      | exact plan_With.mono _ _ _ _ _ _
      | exact spencelaw28_awake.mono _
      | exact spencelaw28_bytes.mono _ _ _ _ _ _
      | exact spenceref01_In.mono _ _ _
      | exact spenceref01_Ints.mono _ _ _
      | exact spenceref04_Cover.mono _ _ _ _
      | exact spenceref24_Cap.mono _ _ _
      | exact spenceref24_Missing.mono _ _
      | exact spenceref24_Runs.mono _ _ _
      | exact spenceref24_Split.mono _ _ _
      | exact LeO.none _
      | refine LeO.ite ?_ ?_
      | refine LeO.bind ?_ (fun _ => ?_)
    · intro y0 y1 y2 y3 y4 y5 y6 y7 y8 y9 y10 y11 y12 y13 y14 y15 y16 y17
      unfold spencelaw28_PlanMakes.l1
      repeat' first
      | (with_reducible exact ih0 _ _ _ _ _ _)
      | (with_reducible exact ih1 _ _ _ _ _ _ _ _ _ _ _ _ _ _ _ _ _)
      | (with_reducible exact ih2 _ _ _ _ _ _ _ _ _ _ _ _ _ _ _ _ _ _)
      | (with_reducible exact plan_Of.mono _ _ _ _ _)
      | (with_reducible exact plan_With.mono _ _ _ _ _ _)
      | (with_reducible exact spencelaw28_awake.mono _)
      | (with_reducible exact spencelaw28_bytes.mono _ _ _ _ _ _)
      | (with_reducible exact spenceref01_In.mono _ _ _)
      | (with_reducible exact spenceref01_Ints.mono _ _ _)
      | (with_reducible exact spenceref04_Cover.mono _ _ _ _)
      | (with_reducible exact spenceref24_Cap.mono _ _ _)
      | (with_reducible exact spenceref24_Missing.mono _ _)
      | (with_reducible exact spenceref24_Runs.mono _ _ _)
      | (with_reducible exact spenceref24_Split.mono _ _ _)
      | (with_reducible exact LeO.refl _)
      | (with_reducible exact LeO.none _)
      | (with_reducible refine LeO.ite ?_ ?_)
      | (with_reducible refine LeO.bind ?_ (fun _ => ?_))
      | exact ih0 _ _ _ _ _ _
      | exact ih1 _ _ _ _ _ _ _ _ _ _ _ _ _ _ _ _ _
      | exact ih2 _ _ _ _ _ _ _ _ _ _ _ _ _ _ _ _ _ _
      | exact plan_Of.mono _ _ _ _ _
      | exact plan_With.mono _ _ _ _ _ _
      | exact spencelaw28_awake.mono _
      | exact spencelaw28_bytes.mono _ _ _ _ _ _
      | exact spenceref01_In.mono _ _ _
      | exact spenceref01_Ints.mono _ _ _
      | exact spenceref04_Cover.mono _ _ _ _
      | exact spenceref24_Cap.mono _ _ _
      | exact spenceref24_Missing.mono _ _
      | exact spenceref24_Runs.mono _ _ _
      | exact spenceref24_Split.mono _ _ _
      | exact LeO.none _
      | refine LeO.ite ?_ ?_
      | refine LeO.bind ?_ (fun _ => ?_)
theorem spencelaw28_PlanMakes.mono : ∀ a0 a1 a2 a3 a4 k, LeO (spencelaw28_PlanMakes.f k a0 a1 a2 a3 a4) (spencelaw28_PlanMakes.f (k + 1) a0 a1 a2 a3 a4) := by
  intro a0 a1 a2 a3 a4 k
  obtain ⟨ih0, ih1, ih2⟩ := spencelaw28_PlanMakes.mono_l k
  unfold spencelaw28_PlanMakes.f
  repeat' first
      | (with_reducible exact ih0 _ _ _ _ _ _)
      | (with_reducible exact ih1 _ _ _ _ _ _ _ _ _ _ _ _ _ _ _ _ _)
      | (with_reducible exact ih2 _ _ _ _ _ _ _ _ _ _ _ _ _ _ _ _ _ _)
      | (with_reducible exact plan_Of.mono _ _ _ _ _)
      | (with_reducible exact plan_With.mono _ _ _ _ _ _)
      | (with_reducible exact spencelaw28_awake.mono _)
      | (with_reducible exact spencelaw28_bytes.mono _ _ _ _ _ _)
      | (with_reducible exact spenceref01_In.mono _ _ _)
      | (with_reducible exact spenceref01_Ints.mono _ _ _)
      | (with_reducible exact spenceref04_Cover.mono _ _ _ _)
      | (with_reducible exact spenceref24_Cap.mono _ _ _)
      | (with_reducible exact spenceref24_Missing.mono _ _)
      | (with_reducible exact spenceref24_Runs.mono _ _ _)
      | (with_reducible exact spenceref24_Split.mono _ _ _)
      | (with_reducible exact LeO.refl _)
      | (with_reducible exact LeO.none _)
      | (with_reducible refine LeO.ite ?_ ?_)
      | (with_reducible refine LeO.bind ?_ (fun _ => ?_))
      | exact ih0 _ _ _ _ _ _
      | exact ih1 _ _ _ _ _ _ _ _ _ _ _ _ _ _ _ _ _
      | exact ih2 _ _ _ _ _ _ _ _ _ _ _ _ _ _ _ _ _ _
      | exact plan_Of.mono _ _ _ _ _
      | exact plan_With.mono _ _ _ _ _ _
      | exact spencelaw28_awake.mono _
      | exact spencelaw28_bytes.mono _ _ _ _ _ _
      | exact spenceref01_In.mono _ _ _
      | exact spenceref01_Ints.mono _ _ _
      | exact spenceref04_Cover.mono _ _ _ _
      | exact spenceref24_Cap.mono _ _ _
      | exact spenceref24_Missing.mono _ _
      | exact spenceref24_Runs.mono _ _ _
      | exact spenceref24_Split.mono _ _ _
      | exact LeO.none _
      | refine LeO.ite ?_ ?_
      | refine LeO.bind ?_ (fun _ => ?_)
def spencelaw28_PlanMakes.T25 : Bool × List (List Nat × List Nat) := (true, [([], []), ([0], [0]), ([], []), ([1, 2], [1, 2]), ([3, 3], [3]), ([4], [4]), ([5, 4], [4, 5]), ([4], [4]), ([6, 7, 4, 4], [4, 6, 7]), ([4, 8], [4, 8]), ([9, 8], [9]), ([10], [10]), ([11, 10], [10, 11]), ([10], [10]), ([12, 13, 10, 10], [10, 12, 13]), ([10, 14], [10, 14]), ([15, 14], [15]), ([16], [16]), ([17, 16], [16, 17]), ([16], [16]), ([19, 16, 16], [16, 19]), ([20, 20, 16], [16, 20]), ([18, 21, 21, 16], [16, 18, 21]), ([16, 22], [16, 22]), ([23, 22], [23]), ([24], [24]), ([25, 24], [24, 25]), ([24], [24]), ([26, 27, 24, 24], [24, 26, 27]), ([24, 28], [24, 28]), ([29, 28], [29]), ([30], [30]), ([30], [30]), ([31, 32, 30, 30], [30, 31, 32]), ([30], [30]), ([33, 34, 30], [30, 33, 34]), ([30, 35], [30, 35]), ([36, 33], [36]), ([37], [37]), ([38, 37, 37], [37, 38]), ([37], [37]), ([40, 37], [37, 40]), ([39, 41, 37], [37, 39, 41]), ([37, 42], [37, 42]), ([43, 39], [43]), ([44], [44]), ([44], [44]), ([44], [44]), ([45, 46, 47, 44, 44], [44, 45, 46, 47]), ([44], [44]), ([48, 49, 44], [44, 48, 49]), ([44, 50], [44, 50]), ([51, 48, 0, 1, 2, 3, 4, 5, 6, 7, 8, 9, 10, 11, 12, 13, 14, 15, 16, 17, 18, 19, 20, 21, 22, 23, 24, 25, 26, 27, 28, 29, 30, 31, 32, 33, 34, 35, 36, 37, 38, 39, 40, 41, 42, 43, 44, 45, 46, 47, 48, 49, 50, 51], [51])])
def spencelaw28_PlanMakes.B25 : List Nat := [0, 1, 0, 7, 15, 31, 63, 31, 255, 511, 1023, 2047, 4095, 2047, 16383, 32767, 65535, 131071, 262143, 131071, 655359, 1703935, 4194303, 8388607, 16777215, 33554431, 67108863, 33554431, 268435455, 536870911, 1073741823, 2147483647, 2147483647, 8589934591, 2147483647, 34359738367, 68719476735, 137438953471, 274877906943, 549755813887, 274877906943, 1374389534719, 4398046511103, 8796093022207, 17592186044415, 35184372088831, 35184372088831, 35184372088831, 281474976710655, 35184372088831, 1125899906842623, 2251799813685247, 4503599627370495]
theorem spencelaw28_PlanMakes.tab25 : rtab .any (opsOf Tryd.f8 25) = spencelaw28_PlanMakes.T25 := by kernel_rfl
theorem spencelaw28_PlanMakes.bits25 : waitsOk spencelaw28_PlanMakes.T25.2 spencelaw28_PlanMakes.B25 = true := by kernel_rfl
set_option maxHeartbeats 8000000 in
set_option maxRecDepth 100000 in
theorem spencelaw28_PlanMakes.calls (k : Nat) (A0 : Option Addr) (c0 : Nat) (l0 : List (S53)) (a1 : Int) (a2 : Int) (A3 : Option Addr) (c3 : Nat) (l3 : List Int) (A4 : Option Addr) (c4 : Nat) (l4 : List Int) (r : Bool) (hrt_ : r = true) (w : World) (hr0 : Kd.C k53 w A0 l0.length l0) (hc0 : l0.length ≤ c0) (hr3 : Kd.C (Kd.int .i64) w A3 l3.length l3) (hc3 : l3.length ≤ c3) (hr4 : Kd.C (Kd.int .i64) w A4 l4.length l4) (hc4 : l4.length ≤ c4) (hT_ : Ag.TabW w) (h : spencelaw28_PlanMakes.f k l0 a1 a2 l3 l4 = some r) :
    Calls Tryd.prog 8 #[.slice A0 l0.length c0, .int .i64 a1, .int .i64 a2, .slice A3 l3.length c3, .slice A4 l4.length c4] w fun e w' => e = .returned (.bool r) ∧ Below w.heap.size w w' := by
  have HRT_ := AsZ.mk hrt_
  clear hrt_
  have hu27 := Tryd.underlying27
  have hu60 := Tryd.underlying60
  have hu50 := Tryd.underlying50
  have hu53 := Tryd.underlying53
  have HR0 := AsZ.mk hr0
  have HC0 := AsZ.mk hc0
  clear hr0 hc0
  have HR3 := AsZ.mk hr3
  have HC3 := AsZ.mk hc3
  clear hr3 hc3
  have HR4 := AsZ.mk hr4
  have HC4 := AsZ.mk hc4
  clear hr4 hc4
  have HB := AsZ.mk (Below.refl w.heap.size w)
  have HTab_ := AsZ.mk hT_
  clear hT_
  have H : ((spencelaw28_awake.f k).bind fun t420 => (if t420 = true then (if (l0.length : Int) > 20 then (spencelaw28_PlanMakes.j0 k l0 a1 a2 l3 l4 true) else (if (l3.length : Int) > 60 then (spencelaw28_PlanMakes.j0 k l0 a1 a2 l3 l4 true) else (spencelaw28_PlanMakes.j0 k l0 a1 a2 l3 l4 (decide ((l4.length : Int) > 30))))) else (some false))) = some r := h
  clear h
  replace H := Option.bind_eq_some_iff.mp H
  obtain ⟨t420, A60, H⟩ := H
  replace H : (if t420 = true then (if (l0.length : Int) > 20 then (spencelaw28_PlanMakes.j0 k l0 a1 a2 l3 l4 true) else (if (l3.length : Int) > 60 then (spencelaw28_PlanMakes.j0 k l0 a1 a2 l3 l4 true) else (spencelaw28_PlanMakes.j0 k l0 a1 a2 l3 l4 (decide ((l4.length : Int) > 30))))) else (some false)) = some r := H
  have A6 := AsZ.mk A60
  clear A60
  by_cases c7 : t420 = true
  · subst c7
    have H1 : (if (l0.length : Int) > 20 then (spencelaw28_PlanMakes.j0 k l0 a1 a2 l3 l4 true) else (if (l3.length : Int) > 60 then (spencelaw28_PlanMakes.j0 k l0 a1 a2 l3 l4 true) else (spencelaw28_PlanMakes.j0 k l0 a1 a2 l3 l4 (decide ((l4.length : Int) > 30))))) = some r := by rw [if_pos rfl] at H; exact H
    clear H
    have H := H1
    clear H1
    have HC8 := AsZ.mk H
    clear H
    go_enter Tryd.func8, Tryd.ntmps8
    go_upto_region 3 with (first | ((with_reducible refine gCa (f := 33) rfl ?_); refine gLl (some 25) rfl rfl Tryd.func33 (by kernel_rfl) rfl #[] rfl (by (try simp only [List.map_toArray, List.map_cons, List.map_nil]); first | done | rfl | (simp only [List.length_drop, List.length_take]; rfl)) ?_; (with_reducible refine (spencelaw28_awake.calls k  true _ (HTab_.out.step (by repeat (first | (with_reducible first | exact HB.out | apply aBl | apply pBd | apply dBl) | exact HB.out))) A6.out).mono ?_); rintro e w9 ⟨rfl, hb⟩; refine ⟨_, rfl, ?_⟩; have n0_ := AsZ.mk (tBl (by repeat (first | (with_reducible first | exact HB.out | apply aBl | apply pBd | apply dBl) | exact HB.out)) hb); clear HB; have HB := n0_; clear n0_; (try clear hb); (try clear hb2); (try clear hk); (try clear hi)))
    (try simp only [Act.put, List.setIfInBounds_toArray, List.set_cons_zero, List.set_cons_succ])
    go_cut [39] (fun v39 wc => ∃ (kq : Nat) (x39_7 : Bool), v39 = .bool x39_7 ∧ AsZ (spencelaw28_PlanMakes.j0 kq l0 a1 a2 l3 l4 x39_7 = some r) ∧ AsZ (kq ≤ k) ∧ AsZ (Below w.heap.size w wc))
    case first =>
      have H := HC8.out
      clear HC8
      by_cases c10 : (l0.length : Int) > 20
      · rw [if_pos c10] at H
        have c10b0 : decide (20 < (l0.length : Int)) = true := decide_eq_true c10
        have c10b1 : decide (20 < l0.length) = true := decide_eq_true (by omega)
        clear c10
        (first | rw [c10b0] | (simp only [i64_w, i32_w]; rw [c10b0]) | skip)
        have H' := AsZ.mk H
        clear H
        go_wp2
        go_meet
        case rel => exact ⟨_, (true), (by first | rfl | (simp; done) | (simp [*]; done)), H', ⟨by first | omega | exact Nat.le_refl _⟩, ⟨by repeat (first | (with_reducible first | exact HB.out | apply aBl | apply pBd | apply dBl) | exact HB.out)⟩⟩
      · rw [if_neg c10] at H
        have c10b0 : decide (20 < (l0.length : Int)) = false := decide_eq_false c10
        have c10b1 : decide (20 < l0.length) = false := decide_eq_false (by omega)
        clear c10
        (first | rw [c10b0] | (simp only [i64_w, i32_w]; rw [c10b0]) | skip)
        by_cases c11 : (l3.length : Int) > 60
        · rw [if_pos c11] at H
          have c11b0 : decide (60 < (l3.length : Int)) = true := decide_eq_true c11
          have c11b1 : decide (60 < l3.length) = true := decide_eq_true (by omega)
          clear c11
          have H' := AsZ.mk H
          clear H
          go_wp2
          go_meet
          case rel => exact ⟨_, (true), (by first | rfl | (simp; done) | (simp [*]; done)), H', ⟨by first | omega | exact Nat.le_refl _⟩, ⟨by repeat (first | (with_reducible first | exact HB.out | apply aBl | apply pBd | apply dBl) | exact HB.out)⟩⟩
        · rw [if_neg c11] at H
          have c11b0 : decide (60 < (l3.length : Int)) = false := decide_eq_false c11
          have c11b1 : decide (60 < l3.length) = false := decide_eq_false (by omega)
          clear c11
          have H' := AsZ.mk H
          clear H
          go_wp2
          go_meet
          case rel => exact ⟨_, (decide ((l4.length : Int) > 30)), (by first | rfl | (simp; done) | (simp [*]; done)), H', ⟨by first | omega | exact Nat.le_refl _⟩, ⟨by repeat (first | (with_reducible first | exact HB.out | apply aBl | apply pBd | apply dBl) | exact HB.out)⟩⟩
    case rest =>
      clear HC8
      try clear c1
      try clear p2
      try clear c3
      try clear c4
      try clear c7
      try clear c8
      try clear c10
      try clear c10b0
      try clear c10b1
      try clear c11
      try clear c11b0
      try clear c11b1
      obtain ⟨kq, x39_7, rfl, HA, HJ7, HB⟩ := hcut
      cases kq with
      | zero => exact absurd HA.out (by simp [spencelaw28_PlanMakes.j0])
      | succ kj7 =>
        have H := HA.out
        clear HA
        simp only [spencelaw28_PlanMakes.j0] at H
        by_cases c12 : x39_7 = true
        · subst c12
          have H1 : (some true) = some r := by rw [if_pos rfl] at H; exact H
          clear H
          have H := H1
          clear H1
          obtain rfl := Option.some.inj H
          go_wp2
          go_ret
          exact ⟨by first | rfl | exact nEm _ | exact eEm _ | (simp [eWn, eWs] <;> rfl) | (simp [*, eWn, eWs] <;> rfl), by repeat (first | (with_reducible first | exact HB.out | apply aBl | apply pBd | apply dBl) | exact HB.out)⟩
        · replace c12 := Bool.eq_false_iff.mpr c12
          subst c12
          have H1 : ((bitmap_Of.f l3).bind fun t421 => ((plan_Of.f kj7 l0 a1 a2 t421).bind fun bt423 => ((spenceref04_Cover.f kj7 l0 a1 a2).bind fun t433 => ((spenceref24_Split.f kj7 t433 l3).bind fun t436 => ((plan_With.f kj7 bt423.1 bt423.2.1 bt423.2.2 l4 t421).bind fun bt439 => (if ([] : List Int).length + t433.length < 17592186044416 then ((some (([] : List Int) ++ t433 : List Int)).bind fun y449 => (if y449.length + l4.length < 17592186044416 then ((spenceref24_Split.f kj7 (y449 ++ l4) l3).bind fun t455 => (spencelaw28_PlanMakes.l0 kj7 a1 a2 l3 t433 t436 t455 true t433 (t433.length : Int) 0 t421 bt423.1 bt423.2.1 bt423.2.2 bt439.1 bt439.2.1 bt439.2.2)) else (none))) else (none))))))) = some r := by rw [if_neg (show ¬ (false = true) by decide)] at H; exact H
          clear H
          have H := H1
          clear H1
          replace H := Option.bind_eq_some_iff.mp H
          obtain ⟨t421, A130, H⟩ := H
          replace H : ((plan_Of.f kj7 l0 a1 a2 t421).bind fun bt423 => ((spenceref04_Cover.f kj7 l0 a1 a2).bind fun t433 => ((spenceref24_Split.f kj7 t433 l3).bind fun t436 => ((plan_With.f kj7 bt423.1 bt423.2.1 bt423.2.2 l4 t421).bind fun bt439 => (if ([] : List Int).length + t433.length < 17592186044416 then ((some (([] : List Int) ++ t433 : List Int)).bind fun y449 => (if y449.length + l4.length < 17592186044416 then ((spenceref24_Split.f kj7 (y449 ++ l4) l3).bind fun t455 => (spencelaw28_PlanMakes.l0 kj7 a1 a2 l3 t433 t436 t455 true t433 (t433.length : Int) 0 t421 bt423.1 bt423.2.1 bt423.2.2 bt439.1 bt439.2.1 bt439.2.2)) else (none))) else (none)))))) = some r := H
          have A13 := AsZ.mk A130
          clear A130
          replace H := Option.bind_eq_some_iff.mp H
          obtain ⟨⟨t423, t426, t429⟩, A140, H⟩ := H
          replace H : ((spenceref04_Cover.f kj7 l0 a1 a2).bind fun t433 => ((spenceref24_Split.f kj7 t433 l3).bind fun t436 => ((plan_With.f kj7 t423 t426 t429 l4 t421).bind fun bt439 => (if ([] : List Int).length + t433.length < 17592186044416 then ((some (([] : List Int) ++ t433 : List Int)).bind fun y449 => (if y449.length + l4.length < 17592186044416 then ((spenceref24_Split.f kj7 (y449 ++ l4) l3).bind fun t455 => (spencelaw28_PlanMakes.l0 kj7 a1 a2 l3 t433 t436 t455 true t433 (t433.length : Int) 0 t421 t423 t426 t429 bt439.1 bt439.2.1 bt439.2.2)) else (none))) else (none))))) = some r := H
          have A14 := AsZ.mk A140
          clear A140
          replace H := Option.bind_eq_some_iff.mp H
          obtain ⟨t433, A150, H⟩ := H
          replace H : ((spenceref24_Split.f kj7 t433 l3).bind fun t436 => ((plan_With.f kj7 t423 t426 t429 l4 t421).bind fun bt439 => (if ([] : List Int).length + t433.length < 17592186044416 then ((some (([] : List Int) ++ t433 : List Int)).bind fun y449 => (if y449.length + l4.length < 17592186044416 then ((spenceref24_Split.f kj7 (y449 ++ l4) l3).bind fun t455 => (spencelaw28_PlanMakes.l0 kj7 a1 a2 l3 t433 t436 t455 true t433 (t433.length : Int) 0 t421 t423 t426 t429 bt439.1 bt439.2.1 bt439.2.2)) else (none))) else (none)))) = some r := H
          have A15 := AsZ.mk A150
          clear A150
          replace H := Option.bind_eq_some_iff.mp H
          obtain ⟨t436, A160, H⟩ := H
          replace H : ((plan_With.f kj7 t423 t426 t429 l4 t421).bind fun bt439 => (if ([] : List Int).length + t433.length < 17592186044416 then ((some (([] : List Int) ++ t433 : List Int)).bind fun y449 => (if y449.length + l4.length < 17592186044416 then ((spenceref24_Split.f kj7 (y449 ++ l4) l3).bind fun t455 => (spencelaw28_PlanMakes.l0 kj7 a1 a2 l3 t433 t436 t455 true t433 (t433.length : Int) 0 t421 t423 t426 t429 bt439.1 bt439.2.1 bt439.2.2)) else (none))) else (none))) = some r := H
          have A16 := AsZ.mk A160
          clear A160
          replace H := Option.bind_eq_some_iff.mp H
          obtain ⟨⟨t439, t442, t445⟩, A170, H⟩ := H
          replace H : (if ([] : List Int).length + t433.length < 17592186044416 then ((some (([] : List Int) ++ t433 : List Int)).bind fun y449 => (if y449.length + l4.length < 17592186044416 then ((spenceref24_Split.f kj7 (y449 ++ l4) l3).bind fun t455 => (spencelaw28_PlanMakes.l0 kj7 a1 a2 l3 t433 t436 t455 true t433 (t433.length : Int) 0 t421 t423 t426 t429 t439 t442 t445)) else (none))) else (none)) = some r := H
          have A17 := AsZ.mk A170
          clear A170
          by_cases c18 : ([] : List Int).length + t433.length < 17592186044416
          · rw [if_pos c18] at H
            have LMc18 := AsZ.mk c18
            clear c18
            obtain ⟨y449, hy449⟩ : ∃ y_ : List Int, y_ = (([] : List Int) ++ t433) := ⟨_, rfl⟩
            replace H : (if y449.length + l4.length < 17592186044416 then ((spenceref24_Split.f kj7 (y449 ++ l4) l3).bind fun t455 => (spencelaw28_PlanMakes.l0 kj7 a1 a2 l3 t433 t436 t455 true t433 (t433.length : Int) 0 t421 t423 t426 t429 t439 t442 t445)) else (none)) = some r := by first | (rw [hy449]; with_reducible exact H) | (have H2_ := (Option.bind_some _ _).symm.trans H; rw [hy449]; with_reducible exact H2_) | (have H2_ := (Option.bind_some _ _).symm.trans H; with_reducible exact H2_) | with_reducible exact H | (rw [hy449]; exact H) | exact H
            have Ny449 := AsZ.mk hy449
            clear hy449
            by_cases c19 : y449.length + l4.length < 17592186044416
            · rw [if_pos c19] at H
              have LMc19 := AsZ.mk c19
              clear c19
              obtain ⟨y452, hy452⟩ : ∃ y_ : List Int, y_ = (y449 ++ l4) := ⟨_, rfl⟩
              replace H : ((spenceref24_Split.f kj7 y452 l3).bind fun t455 => (spencelaw28_PlanMakes.l0 kj7 a1 a2 l3 t433 t436 t455 true t433 (t433.length : Int) 0 t421 t423 t426 t429 t439 t442 t445)) = some r := by first | (rw [hy452]; with_reducible exact H) | (have H2_ := (Option.bind_some _ _).symm.trans H; rw [hy452]; with_reducible exact H2_) | (have H2_ := (Option.bind_some _ _).symm.trans H; with_reducible exact H2_) | with_reducible exact H | (rw [hy452]; exact H) | exact H
              have Ny452 := AsZ.mk hy452
              clear hy452
              replace H := Option.bind_eq_some_iff.mp H
              obtain ⟨t455, A200, H⟩ := H
              replace H : (spencelaw28_PlanMakes.l0 kj7 a1 a2 l3 t433 t436 t455 true t433 (t433.length : Int) 0 t421 t423 t426 t429 t439 t442 t445) = some r := H
              have A20 := AsZ.mk A200
              clear A200
              have H' := AsZ.mk H
              clear H
              go_wp2_with (first | ((with_reducible refine ag_gate (t := 27) rfl ?_); first | refine row_load rfl 27 _ rfl _ rfl .u64 65 _ 27 _ BK422.out Tryd.underlying27 rfl Ag.info_map ?_ | refine row_load rfl 27 _ rfl _ rfl .u64 65 _ 27 _ (by first | exact BK422.out | (repeat (first | exact BK422.out | (with_reducible exact Ag.row_put BK422.out) | (with_reducible refine Ag.row_far ?_ (by assumption) _) | (with_reducible refine bFr ?_ (by assumption) _)))) Tryd.underlying27 rfl Ag.info_map ?_) | ((with_reducible refine ag_gate_st (t := 27) rfl ?_); first | refine row_store2 rfl 27 _ _ rfl rfl _ rfl .u64 65 _ rfl _ 27 BK422.out Ag.info_map (Ag.agC_size _ _ _) ?_ | refine row_store2 rfl 27 _ _ rfl rfl _ rfl .u64 65 _ rfl _ 27 (by first | exact BK422.out | (repeat (first | exact BK422.out | (with_reducible exact Ag.row_put BK422.out) | (with_reducible refine Ag.row_far ?_ (by assumption) _) | (with_reducible refine bFr ?_ (by assumption) _)))) Ag.info_map (Ag.agC_size _ _ _) ?_) | ((with_reducible refine gCa (f := 10) rfl ?_); refine gLl (some 41) rfl rfl Tryd.func10 (by kernel_rfl) rfl #[.slice A3 l3.length c3] rfl (by (try simp only [List.map_toArray, List.map_cons, List.map_nil]); first | done | rfl | (simp only [List.length_drop, List.length_take]; rfl)) ?_; (with_reducible refine (bitmap_Of.calls _ _ l3 t421 _ ?side1 ?side2 A13.out).mono ?_); (case side1 => repeat (first | exact (Kd.C_below HR3.out HB.out) | (with_reducible refine Kd.C_alloc ?_ _) | (with_reducible refine Kd.C_drewN ?_ _) | (with_reducible refine Kd.C_drew ?_))); (case side2 => exact HC3.out); rintro e w21 ⟨rfl, hb⟩; refine ⟨_, rfl, ?_⟩; have n0_ := AsZ.mk (tBl (by repeat (first | (with_reducible first | exact HB.out | apply aBl | apply pBd | apply dBl) | exact HB.out)) hb); clear HB; have HB := n0_; clear n0_; (try clear hb); (try clear hb2); (try clear hk); (try clear hi)) | ((with_reducible refine gDs (N := 11) rfl ?_); (try (refine gate_guard (by rfl) ?_; dsimp only)); refine bEv ?hg (N := 11) ?hd (cs := (Ag.agC .u64 65 (fun _ => 0))) (t := 27) ?hr ?_; (case hd => rfl); (case hg => rfl); (case hr => first | (go_simp; done) | (go_simp; rfl)); intro gb422 hg w22 hbox hb; have n0_ := AsZ.mk (tBl (by repeat (first | (with_reducible first | exact HB.out | apply aBl | apply pBd | apply dBl) | exact HB.out)) hb); have n1_ := AsZ.mk (hbox); have n2_ := AsZ.mk ((by rw [hg]; exact (zBl (by repeat (first | (with_reducible first | exact HB.out | apply aBl | apply pBd | apply dBl) | exact HB.out))) : w.heap.size ≤ gb422)); have n3_ := AsZ.mk ((by rw [hg]; exact (zBl (by repeat (first | (with_reducible first | exact HB.out | apply aBl | apply pBd | apply dBl) | exact HB.out))) : w.heap.size ≤ gb422)); clear HB; have HB := n0_; have BK422 := n1_; have GW422 := n2_; have GE422 := n3_; clear n0_ n1_ n2_ n3_; clear hb hbox hg; have hfz23_0 := fzN1 BK422.out) | ((with_reducible refine gCa (f := 36) rfl ?_); refine gLl (some 46) rfl rfl Tryd.func36 (by kernel_rfl) rfl #[.slice A0 l0.length c0, .int .i64 a1, .int .i64 a2, .agg (Ag.agC .u64 65 t421)] rfl (by (try simp only [List.map_toArray, List.map_cons, List.map_nil]); first | done | rfl | (simp only [List.length_drop, List.length_take]; rfl)) ?_; (with_reducible refine (plan_Of.calls kj7 _ _ l0 a1 a2 t421 t423 t426 t429 _ ?side1 ?side2 (HTab_.out.step (by repeat (first | (with_reducible first | exact HB.out | apply aBl | apply pBd | apply dBl | refine sBl ?_ GE422.out | refine Ag.row_below ?_ GE422.out) | exact HB.out))) A14.out).mono ?_); (case side1 => exact Kd.C_below HR0.out (by repeat (first | (with_reducible first | exact HB.out | apply aBl | apply pBd | apply dBl | refine sBl ?_ GE422.out | refine Ag.row_below ?_ GE422.out) | exact HB.out))); (case side2 => exact HC0.out); rintro e w24 ⟨v424, v427, v430, rfl, ho0, ho1, ho2, hb⟩; refine ⟨_, rfl, ?_⟩; have n0_ := AsZ.mk (Kd.R_lower ho0 (zBl (by repeat (first | (with_reducible first | exact HB.out | apply aBl | apply pBd | apply dBl | refine sBl ?_ GE422.out | refine Ag.row_below ?_ GE422.out) | exact HB.out)))); have n1_ := AsZ.mk (Kd.R_lower ho1 (zBl (by repeat (first | (with_reducible first | exact HB.out | apply aBl | apply pBd | apply dBl | refine sBl ?_ GE422.out | refine Ag.row_below ?_ GE422.out) | exact HB.out)))); have n2_ := AsZ.mk (Kd.R_lower ho2 (zBl (by repeat (first | (with_reducible first | exact HB.out | apply aBl | apply pBd | apply dBl | refine sBl ?_ GE422.out | refine Ag.row_below ?_ GE422.out) | exact HB.out)))); have n3_ := AsZ.mk (bBl (g := gb422) (o := .cells (Ag.agC .u64 65 t421) 27 (0, 0)) (by (with_reducible repeat first | apply bDn | apply bDr | apply bAl); refine Ag.row_put (old := (Ag.agC .u64 65 (fun _ => 0))) ?_; (with_reducible repeat first | apply bDn | apply bDr | apply bAl); exact BK422.out) hb); have n4_ := AsZ.mk (tBl (by repeat (first | (with_reducible first | exact HB.out | apply aBl | apply pBd | apply dBl | refine sBl ?_ GE422.out | refine Ag.row_below ?_ GE422.out) | exact HB.out)) hb); clear BK422; clear HB; have HO425 := n0_; have HO428 := n1_; have HO431 := n2_; have BK422 := n3_; have HB := n4_; clear n0_ n1_ n2_ n3_ n4_; (try clear hb); (try clear hb2); (try clear hk); (try clear hi); (try clear ho0); (try clear ho1); (try clear ho2)) | ((with_reducible refine gDs (N := 12) rfl ?_); (try (refine gate_guard (by rfl) ?_; dsimp only)); refine bEv ?hg (N := 12) ?hd (cs := #[.slice none 0 0, .slice none 0 0, .slice none 0 0]) (t := 60) ?hr ?_; (case hd => rfl); (case hg => rfl); (case hr => first | (go_simp; done) | (go_simp; rfl)); intro gb432 hg w25 hbox hb; have n0_ := AsZ.mk (Kd.R_below (by (with_reducible repeat (first | apply Kd.R_alloc | apply Kd.R_drewN | apply Kd.R_drew)); exact HO425.out) hb); have n1_ := AsZ.mk (Kd.R_below (by (with_reducible repeat (first | apply Kd.R_alloc | apply Kd.R_drewN | apply Kd.R_drew)); exact HO428.out) hb); have n2_ := AsZ.mk (Kd.R_below (by (with_reducible repeat (first | apply Kd.R_alloc | apply Kd.R_drewN | apply Kd.R_drew)); exact HO431.out) hb); have n3_ := AsZ.mk (bBl (g := gb422) (o := .cells (Ag.agC .u64 65 t421) 27 (0, 0)) (by (with_reducible repeat first | apply bDn | apply bDr | apply bAl); exact BK422.out) hb); have n4_ := AsZ.mk (tBl (by repeat (first | (with_reducible first | exact HB.out | apply aBl | apply pBd | apply dBl | refine sBl ?_ GE422.out | refine Ag.row_below ?_ GE422.out) | exact HB.out)) hb); have n5_ := AsZ.mk (hbox); have n6_ := AsZ.mk ((by rw [hg]; exact (zBl (by repeat (first | (with_reducible first | exact HB.out | apply aBl | apply pBd | apply dBl | refine sBl ?_ GE422.out | refine Ag.row_below ?_ GE422.out) | exact HB.out))) : w.heap.size ≤ gb432)); have n7_ := AsZ.mk ((by rw [hg]; exact (zBl (by repeat (first | (with_reducible first | exact HB.out | apply aBl | apply pBd | apply dBl | refine sBl ?_ GE422.out | refine Ag.row_below ?_ GE422.out) | exact HB.out))) : w.heap.size ≤ gb432)); have n8_ := AsZ.mk ((by rw [hg]; exact Nat.ne_of_lt (bLt (g := gb422) (o := .cells (Ag.agC .u64 65 t421) 27 (0, 0)) (by (with_reducible repeat first | apply bDn | apply bDr | apply bAl); exact BK422.out)) : gb422 ≠ gb432)); have n9_ := AsZ.mk ((by rw [hg]; exact Nat.ne_of_gt (bLt (g := gb422) (o := .cells (Ag.agC .u64 65 t421) 27 (0, 0)) (by (with_reducible repeat first | apply bDn | apply bDr | apply bAl); exact BK422.out)) : gb432 ≠ gb422)); clear HO425; clear HO428; clear HO431; clear BK422; clear HB; have HO425 := n0_; have HO428 := n1_; have HO431 := n2_; have BK422 := n3_; have HB := n4_; have BK432 := n5_; have GW432 := n6_; have GE432 := n7_; have NB422_432 := n8_; have NB432_422 := n9_; clear n0_ n1_ n2_ n3_ n4_ n5_ n6_ n7_ n8_ n9_; clear hb hbox hg; obtain ⟨Ao26, co26, eo26⟩ := Kd.R_slice HO425.out; subst eo26; have hnb27 := NB432_422.out; have hnc27 := NB422_432.out; obtain ⟨hcz28_0, hcz28_1, hcz28_2⟩ := celN3 BK432.out; obtain ⟨hfz28_0, hfz28_1, hfz28_2⟩ := fzN3 BK432.out; obtain ⟨Ao29, co29, eo29⟩ := Kd.R_slice HO428.out; subst eo29; obtain ⟨Ao30, co30, eo30⟩ := Kd.R_slice HO431.out; subst eo30) | ((with_reducible refine gCa (f := 38) rfl ?_); refine gLl (some 50) rfl rfl Tryd.func38 (by kernel_rfl) rfl #[.slice A0 l0.length c0, .int .i64 a1, .int .i64 a2] rfl (by (try simp only [List.map_toArray, List.map_cons, List.map_nil]); first | done | rfl | (simp only [List.length_drop, List.length_take]; rfl)) ?_; (with_reducible refine (spenceref04_Cover.calls kj7 _ _ l0 a1 a2 t433 _ ?side1 ?side2 A15.out).mono ?_); (case side1 => exact Kd.C_below HR0.out (by repeat (first | (with_reducible first | exact HB.out | apply aBl | apply pBd | apply dBl | refine sBl ?_ GE422.out | refine Ag.row_below ?_ GE422.out | refine sBl ?_ GE432.out | refine Ag.row_below ?_ GE432.out) | exact HB.out))); (case side2 => exact HC0.out); rintro e w31 ⟨v434, rfl, ho0, hb⟩; refine ⟨_, rfl, ?_⟩; have n0_ := AsZ.mk (Kd.R_elder' (by (with_reducible repeat (first | apply Kd.R_alloc | apply Kd.R_drewN | apply Kd.R_drew)); exact (Kd.R_mono (Kd.R_far (p := ⟨gb432, 2, none⟩) (Kd.R_far (p := ⟨gb432, 1, none⟩) (Kd.R_far (p := ⟨gb432, 0, none⟩) (Kd.R_types HO425.out BK432.out (by decide)) (fun _ hk => hk.2) (.slice Ao26 t423.length co26)) (fun _ hk => hk.2) (.slice Ao29 t426.length co29)) (fun _ hk => hk.2) (.slice Ao30 t429.length co30)) (fun _ h_ => h_.1))) (Kd.R_base ho0) hb); have n1_ := AsZ.mk (Kd.R_below (by (with_reducible repeat (first | apply Kd.R_alloc | apply Kd.R_drewN | apply Kd.R_drew)); exact (Kd.R_mono (Kd.R_far (p := ⟨gb432, 2, none⟩) (Kd.R_far (p := ⟨gb432, 1, none⟩) (Kd.R_far (p := ⟨gb432, 0, none⟩) (Kd.R_types HO428.out BK432.out (by decide)) (fun _ hk => hk.2) (.slice Ao26 t423.length co26)) (fun _ hk => hk.2) (.slice Ao29 t426.length co29)) (fun _ hk => hk.2) (.slice Ao30 t429.length co30)) (fun _ h_ => h_.1))) hb); have n2_ := AsZ.mk (Kd.R_below (by (with_reducible repeat (first | apply Kd.R_alloc | apply Kd.R_drewN | apply Kd.R_drew)); exact (Kd.R_mono (Kd.R_far (p := ⟨gb432, 2, none⟩) (Kd.R_far (p := ⟨gb432, 1, none⟩) (Kd.R_far (p := ⟨gb432, 0, none⟩) (Kd.R_types HO431.out BK432.out (by decide)) (fun _ hk => hk.2) (.slice Ao26 t423.length co26)) (fun _ hk => hk.2) (.slice Ao29 t426.length co29)) (fun _ hk => hk.2) (.slice Ao30 t429.length co30)) (fun _ h_ => h_.1))) hb); have n3_ := AsZ.mk (Kd.R_lower (Kd.R_new' ho0 (Kd.R_lt (by (with_reducible repeat (first | apply Kd.R_alloc | apply Kd.R_drewN | apply Kd.R_drew)); exact (Kd.R_mono (Kd.R_far (p := ⟨gb432, 2, none⟩) (Kd.R_far (p := ⟨gb432, 1, none⟩) (Kd.R_far (p := ⟨gb432, 0, none⟩) (Kd.R_types HO425.out BK432.out (by decide)) (fun _ hk => hk.2) (.slice Ao26 t423.length co26)) (fun _ hk => hk.2) (.slice Ao29 t426.length co29)) (fun _ hk => hk.2) (.slice Ao30 t429.length co30)) (fun _ h_ => h_.1))))) (zBl (by repeat (first | (with_reducible first | exact HB.out | apply aBl | apply pBd | apply dBl | refine sBl ?_ GE422.out | refine Ag.row_below ?_ GE422.out | refine sBl ?_ GE432.out | refine Ag.row_below ?_ GE432.out) | exact HB.out)))); have n4_ := AsZ.mk (bBl (g := gb422) (o := .cells (Ag.agC .u64 65 t421) 27 (0, 0)) (by (with_reducible repeat first | apply bDn | apply bDr | apply bAl); (first | (with_reducible refine Ag.row_far ?_ NB422_432.out _) | refine bFr ?_ NB422_432.out _); (with_reducible repeat first | apply bDn | apply bDr | apply bAl); (first | (with_reducible refine Ag.row_far ?_ NB422_432.out _) | refine bFr ?_ NB422_432.out _); (with_reducible repeat first | apply bDn | apply bDr | apply bAl); (first | (with_reducible refine Ag.row_far ?_ NB422_432.out _) | refine bFr ?_ NB422_432.out _); (with_reducible repeat first | apply bDn | apply bDr | apply bAl); exact BK422.out) hb); have n5_ := AsZ.mk (bBl (g := gb432) (o := .cells #[.slice Ao26 t423.length co26, .slice Ao29 t426.length co29, .slice Ao30 t429.length co30] 60 (0, 0)) (by (with_reducible repeat first | apply bDn | apply bDr | apply bAl); refine bPu (cs := #[.slice Ao26 t423.length co26, .slice Ao29 t426.length co29, .slice none 0 0]) ?_ 2 _ rfl; (with_reducible repeat first | apply bDn | apply bDr | apply bAl); refine bPu (cs := #[.slice Ao26 t423.length co26, .slice none 0 0, .slice none 0 0]) ?_ 1 _ rfl; (with_reducible repeat first | apply bDn | apply bDr | apply bAl); refine bPu (cs := #[.slice none 0 0, .slice none 0 0, .slice none 0 0]) ?_ 0 _ rfl; (with_reducible repeat first | apply bDn | apply bDr | apply bAl); exact BK432.out) hb); have n6_ := AsZ.mk (tBl (by repeat (first | (with_reducible first | exact HB.out | apply aBl | apply pBd | apply dBl | refine sBl ?_ GE422.out | refine Ag.row_below ?_ GE422.out | refine sBl ?_ GE432.out | refine Ag.row_below ?_ GE432.out) | exact HB.out)) hb); clear HO425; clear HO428; clear HO431; clear BK422; clear BK432; clear HB; have HO425 := n0_; have HO428 := n1_; have HO431 := n2_; have HO435 := n3_; have BK422 := n4_; have BK432 := n5_; have HB := n6_; clear n0_ n1_ n2_ n3_ n4_ n5_ n6_; (try clear hb); (try clear hb2); (try clear hk); (try clear hi); (try clear ho0); obtain ⟨Ao32, co32, eo32⟩ := Kd.R_slice HO435.out; subst eo32) | ((with_reducible refine gCa (f := 22) rfl ?_); refine gLl (some 53) rfl rfl Tryd.func22 (by kernel_rfl) rfl #[.slice Ao32 t433.length co32, .slice A3 l3.length c3] rfl (by (try simp only [List.map_toArray, List.map_cons, List.map_nil]); first | done | rfl | (simp only [List.length_drop, List.length_take]; rfl)) ?_; (with_reducible refine (spenceref24_Split.calls kj7 _ _ t433 _ _ l3 t436 _ ?side1 ?side2 ?side3 ?side4 A16.out).mono ?_); (case side1 => repeat (first | exact (Kd.R_reads' HO435.out).2.2 | (with_reducible refine Kd.C_alloc ?_ _) | (with_reducible refine Kd.C_drewN ?_ _) | (with_reducible refine Kd.C_drew ?_))); (case side2 => exact (Kd.R_reads' HO435.out).2.1); (case side3 => repeat (first | exact (Kd.C_below HR3.out HB.out) | (with_reducible refine Kd.C_alloc ?_ _) | (with_reducible refine Kd.C_drewN ?_ _) | (with_reducible refine Kd.C_drew ?_))); (case side4 => exact HC3.out); rintro e w33 ⟨v437, rfl, ho0, hb⟩; refine ⟨_, rfl, ?_⟩; have n0_ := AsZ.mk (Kd.R_below (by (with_reducible repeat (first | apply Kd.R_alloc | apply Kd.R_drewN | apply Kd.R_drew)); exact HO425.out) hb); have n1_ := AsZ.mk (Kd.R_elder' (by (with_reducible repeat (first | apply Kd.R_alloc | apply Kd.R_drewN | apply Kd.R_drew)); exact HO428.out) (Kd.R_base ho0) hb); have n2_ := AsZ.mk (Kd.R_elder' (by (with_reducible repeat (first | apply Kd.R_alloc | apply Kd.R_drewN | apply Kd.R_drew)); exact HO431.out) (Kd.R_base ho0) hb); have n3_ := AsZ.mk (Kd.R_below (by (with_reducible repeat (first | apply Kd.R_alloc | apply Kd.R_drewN | apply Kd.R_drew)); exact HO435.out) hb); have n4_ := AsZ.mk (Kd.R_lower (Kd.R_new' (Kd.R_new' ho0 (Kd.R_lt (by (with_reducible repeat (first | apply Kd.R_alloc | apply Kd.R_drewN | apply Kd.R_drew)); exact HO428.out))) (Kd.R_lt (by (with_reducible repeat (first | apply Kd.R_alloc | apply Kd.R_drewN | apply Kd.R_drew)); exact HO431.out))) (zBl (by repeat (first | (with_reducible first | exact HB.out | apply aBl | apply pBd | apply dBl | refine sBl ?_ GE422.out | refine Ag.row_below ?_ GE422.out | refine sBl ?_ GE432.out | refine Ag.row_below ?_ GE432.out) | exact HB.out)))); have n5_ := AsZ.mk (bBl (g := gb422) (o := .cells (Ag.agC .u64 65 t421) 27 (0, 0)) (by (with_reducible repeat first | apply bDn | apply bDr | apply bAl); exact BK422.out) hb); have n6_ := AsZ.mk (bBl (g := gb432) (o := .cells #[.slice Ao26 t423.length co26, .slice Ao29 t426.length co29, .slice Ao30 t429.length co30] 60 (0, 0)) (by (with_reducible repeat first | apply bDn | apply bDr | apply bAl); exact BK432.out) hb); have n7_ := AsZ.mk (tBl (by repeat (first | (with_reducible first | exact HB.out | apply aBl | apply pBd | apply dBl | refine sBl ?_ GE422.out | refine Ag.row_below ?_ GE422.out | refine sBl ?_ GE432.out | refine Ag.row_below ?_ GE432.out) | exact HB.out)) hb); clear HO425; clear HO428; clear HO431; clear HO435; clear BK422; clear BK432; clear HB; have HO425 := n0_; have HO428 := n1_; have HO431 := n2_; have HO435 := n3_; have HO438 := n4_; have BK422 := n5_; have BK432 := n6_; have HB := n7_; clear n0_ n1_ n2_ n3_ n4_ n5_ n6_ n7_; (try clear hb); (try clear hb2); (try clear hk); (try clear hi); (try clear ho0); obtain ⟨hcz34_0, hcz34_1, hcz34_2⟩ := celN3 BK432.out; obtain ⟨hfz34_0, hfz34_1, hfz34_2⟩ := fzN3 BK432.out; have hfz35_0 := fzN1 BK422.out) | ((with_reducible refine gCa (f := 39) rfl ?_); refine gLl (some 57) rfl rfl Tryd.func39 (by kernel_rfl) rfl #[.agg #[.slice Ao26 t423.length co26, .slice Ao29 t426.length co29, .slice Ao30 t429.length co30], .slice A4 l4.length c4, .agg (Ag.agC .u64 65 t421)] rfl (by (try simp only [List.map_toArray, List.map_cons, List.map_nil]); first | done | rfl | (simp only [List.length_drop, List.length_take]; rfl)) ?_; (with_reducible refine (plan_With.calls kj7 _ _ t423 _ _ t426 _ _ t429 _ _ l4 t421 t439 t442 t445 _ ?side1 ?side2 ?side3 ?side4 ?side5 ?side6 ?side7 ?side8 (HTab_.out.step (by repeat (first | (with_reducible first | exact HB.out | apply aBl | apply pBd | apply dBl | refine sBl ?_ GE422.out | refine Ag.row_below ?_ GE422.out | refine sBl ?_ GE432.out | refine Ag.row_below ?_ GE432.out) | exact HB.out))) A17.out).mono ?_); (case side1 => repeat (first | exact (Kd.R_reads' HO425.out).2.2 | (with_reducible refine Kd.C_alloc ?_ _) | (with_reducible refine Kd.C_drewN ?_ _) | (with_reducible refine Kd.C_drew ?_))); (case side2 => exact (Kd.R_reads' HO425.out).2.1); (case side3 => repeat (first | exact (Kd.R_reads' HO428.out).2.2 | (with_reducible refine Kd.C_alloc ?_ _) | (with_reducible refine Kd.C_drewN ?_ _) | (with_reducible refine Kd.C_drew ?_))); (case side4 => exact (Kd.R_reads' HO428.out).2.1); (case side5 => repeat (first | exact (Kd.R_reads' HO431.out).2.2 | (with_reducible refine Kd.C_alloc ?_ _) | (with_reducible refine Kd.C_drewN ?_ _) | (with_reducible refine Kd.C_drew ?_))); (case side6 => exact (Kd.R_reads' HO431.out).2.1); (case side7 => repeat (first | exact (Kd.C_below HR4.out HB.out) | (with_reducible refine Kd.C_alloc ?_ _) | (with_reducible refine Kd.C_drewN ?_ _) | (with_reducible refine Kd.C_drew ?_))); (case side8 => exact HC4.out); rintro e w36 ⟨v440, v443, v446, rfl, ho0, ho1, ho2, hb⟩; refine ⟨_, rfl, ?_⟩; have n0_ := AsZ.mk (Kd.R_elder' (by (with_reducible repeat (first | apply Kd.R_alloc | apply Kd.R_drewN | apply Kd.R_drew)); exact HO425.out) (Kd.R_base ho0) hb); have n1_ := AsZ.mk (Kd.R_mono (Kd.R_told (Kd.R_told (Kd.R_old (by (with_reducible repeat (first | apply Kd.R_alloc | apply Kd.R_drewN | apply Kd.R_drew)); exact HO428.out) hb) (Kd.R_base ho1)) (Kd.R_base ho2)) (fun _ h_ => h_.1)); have n2_ := AsZ.mk (Kd.R_mono (Kd.R_told (Kd.R_told (Kd.R_old (by (with_reducible repeat (first | apply Kd.R_alloc | apply Kd.R_drewN | apply Kd.R_drew)); exact HO431.out) hb) (Kd.R_base ho1)) (Kd.R_base ho2)) (fun _ h_ => h_.1)); have n3_ := AsZ.mk (Kd.R_elder' (by (with_reducible repeat (first | apply Kd.R_alloc | apply Kd.R_drewN | apply Kd.R_drew)); exact HO435.out) (Kd.R_base ho0) hb); have n4_ := AsZ.mk (Kd.R_mono (Kd.R_told (Kd.R_told (Kd.R_old (by (with_reducible repeat (first | apply Kd.R_alloc | apply Kd.R_drewN | apply Kd.R_drew)); exact HO438.out) hb) (Kd.R_base ho1)) (Kd.R_base ho2)) (fun _ h_ => h_.1)); have n5_ := AsZ.mk (Kd.R_lower (Kd.R_new' (Kd.R_new' ho0 (Kd.R_lt (by (with_reducible repeat (first | apply Kd.R_alloc | apply Kd.R_drewN | apply Kd.R_drew)); exact HO425.out))) (Kd.R_lt (by (with_reducible repeat (first | apply Kd.R_alloc | apply Kd.R_drewN | apply Kd.R_drew)); exact HO435.out))) (zBl (by repeat (first | (with_reducible first | exact HB.out | apply aBl | apply pBd | apply dBl | refine sBl ?_ GE422.out | refine Ag.row_below ?_ GE422.out | refine sBl ?_ GE432.out | refine Ag.row_below ?_ GE432.out) | exact HB.out)))); have n6_ := AsZ.mk (Kd.R_lower (Kd.R_new' (Kd.R_new' (Kd.R_new' ho1 (Kd.R_lt (by (with_reducible repeat (first | apply Kd.R_alloc | apply Kd.R_drewN | apply Kd.R_drew)); exact HO428.out))) (Kd.R_lt (by (with_reducible repeat (first | apply Kd.R_alloc | apply Kd.R_drewN | apply Kd.R_drew)); exact HO431.out))) (Kd.R_lt (by (with_reducible repeat (first | apply Kd.R_alloc | apply Kd.R_drewN | apply Kd.R_drew)); exact HO438.out))) (zBl (by repeat (first | (with_reducible first | exact HB.out | apply aBl | apply pBd | apply dBl | refine sBl ?_ GE422.out | refine Ag.row_below ?_ GE422.out | refine sBl ?_ GE432.out | refine Ag.row_below ?_ GE432.out) | exact HB.out)))); have n7_ := AsZ.mk (Kd.R_lower (Kd.R_new' (Kd.R_new' (Kd.R_new' ho2 (Kd.R_lt (by (with_reducible repeat (first | apply Kd.R_alloc | apply Kd.R_drewN | apply Kd.R_drew)); exact HO428.out))) (Kd.R_lt (by (with_reducible repeat (first | apply Kd.R_alloc | apply Kd.R_drewN | apply Kd.R_drew)); exact HO431.out))) (Kd.R_lt (by (with_reducible repeat (first | apply Kd.R_alloc | apply Kd.R_drewN | apply Kd.R_drew)); exact HO438.out))) (zBl (by repeat (first | (with_reducible first | exact HB.out | apply aBl | apply pBd | apply dBl | refine sBl ?_ GE422.out | refine Ag.row_below ?_ GE422.out | refine sBl ?_ GE432.out | refine Ag.row_below ?_ GE432.out) | exact HB.out)))); have n8_ := AsZ.mk (bBl (g := gb422) (o := .cells (Ag.agC .u64 65 t421) 27 (0, 0)) (by (with_reducible repeat first | apply bDn | apply bDr | apply bAl); exact BK422.out) hb); have n9_ := AsZ.mk (bBl (g := gb432) (o := .cells #[.slice Ao26 t423.length co26, .slice Ao29 t426.length co29, .slice Ao30 t429.length co30] 60 (0, 0)) (by (with_reducible repeat first | apply bDn | apply bDr | apply bAl); exact BK432.out) hb); have n10_ := AsZ.mk (tBl (by repeat (first | (with_reducible first | exact HB.out | apply aBl | apply pBd | apply dBl | refine sBl ?_ GE422.out | refine Ag.row_below ?_ GE422.out | refine sBl ?_ GE432.out | refine Ag.row_below ?_ GE432.out) | exact HB.out)) hb); clear HO425; clear HO428; clear HO431; clear HO435; clear HO438; clear BK422; clear BK432; clear HB; have HO425 := n0_; have HO428 := n1_; have HO431 := n2_; have HO435 := n3_; have HO438 := n4_; have HO441 := n5_; have HO444 := n6_; have HO447 := n7_; have BK422 := n8_; have BK432 := n9_; have HB := n10_; clear n0_ n1_ n2_ n3_ n4_ n5_ n6_ n7_ n8_ n9_ n10_; (try clear hb); (try clear hb2); (try clear hk); (try clear hi); (try clear ho0); (try clear ho1); (try clear ho2)) | ((with_reducible refine gDs (N := 15) rfl ?_); (try (refine gate_guard (by rfl) ?_; dsimp only)); refine bEv ?hg (N := 15) ?hd (cs := #[.slice none 0 0, .slice none 0 0, .slice none 0 0]) (t := 60) ?hr ?_; (case hd => rfl); (case hg => rfl); (case hr => first | (go_simp; done) | (go_simp; rfl)); intro gb448 hg w37 hbox hb; have n0_ := AsZ.mk (Kd.R_below (by (with_reducible repeat (first | apply Kd.R_alloc | apply Kd.R_drewN | apply Kd.R_drew)); exact HO425.out) hb); have n1_ := AsZ.mk (Kd.R_below (by (with_reducible repeat (first | apply Kd.R_alloc | apply Kd.R_drewN | apply Kd.R_drew)); exact HO428.out) hb); have n2_ := AsZ.mk (Kd.R_below (by (with_reducible repeat (first | apply Kd.R_alloc | apply Kd.R_drewN | apply Kd.R_drew)); exact HO431.out) hb); have n3_ := AsZ.mk (Kd.R_below (by (with_reducible repeat (first | apply Kd.R_alloc | apply Kd.R_drewN | apply Kd.R_drew)); exact HO435.out) hb); have n4_ := AsZ.mk (Kd.R_below (by (with_reducible repeat (first | apply Kd.R_alloc | apply Kd.R_drewN | apply Kd.R_drew)); exact HO438.out) hb); have n5_ := AsZ.mk (Kd.R_below (by (with_reducible repeat (first | apply Kd.R_alloc | apply Kd.R_drewN | apply Kd.R_drew)); exact HO441.out) hb); have n6_ := AsZ.mk (Kd.R_below (by (with_reducible repeat (first | apply Kd.R_alloc | apply Kd.R_drewN | apply Kd.R_drew)); exact HO444.out) hb); have n7_ := AsZ.mk (Kd.R_below (by (with_reducible repeat (first | apply Kd.R_alloc | apply Kd.R_drewN | apply Kd.R_drew)); exact HO447.out) hb); have n8_ := AsZ.mk (bBl (g := gb422) (o := .cells (Ag.agC .u64 65 t421) 27 (0, 0)) (by (with_reducible repeat first | apply bDn | apply bDr | apply bAl); exact BK422.out) hb); have n9_ := AsZ.mk (bBl (g := gb432) (o := .cells #[.slice Ao26 t423.length co26, .slice Ao29 t426.length co29, .slice Ao30 t429.length co30] 60 (0, 0)) (by (with_reducible repeat first | apply bDn | apply bDr | apply bAl); exact BK432.out) hb); have n10_ := AsZ.mk (tBl (by repeat (first | (with_reducible first | exact HB.out | apply aBl | apply pBd | apply dBl | refine sBl ?_ GE422.out | refine Ag.row_below ?_ GE422.out | refine sBl ?_ GE432.out | refine Ag.row_below ?_ GE432.out) | exact HB.out)) hb); have n11_ := AsZ.mk (hbox); have n12_ := AsZ.mk ((by rw [hg]; exact (zBl (by repeat (first | (with_reducible first | exact HB.out | apply aBl | apply pBd | apply dBl | refine sBl ?_ GE422.out | refine Ag.row_below ?_ GE422.out | refine sBl ?_ GE432.out | refine Ag.row_below ?_ GE432.out) | exact HB.out))) : w.heap.size ≤ gb448)); have n13_ := AsZ.mk ((by rw [hg]; exact (zBl (by repeat (first | (with_reducible first | exact HB.out | apply aBl | apply pBd | apply dBl | refine sBl ?_ GE422.out | refine Ag.row_below ?_ GE422.out | refine sBl ?_ GE432.out | refine Ag.row_below ?_ GE432.out) | exact HB.out))) : w.heap.size ≤ gb448)); have n14_ := AsZ.mk ((by rw [hg]; exact Nat.ne_of_lt (bLt (g := gb422) (o := .cells (Ag.agC .u64 65 t421) 27 (0, 0)) (by (with_reducible repeat first | apply bDn | apply bDr | apply bAl); exact BK422.out)) : gb422 ≠ gb448)); have n15_ := AsZ.mk ((by rw [hg]; exact Nat.ne_of_gt (bLt (g := gb422) (o := .cells (Ag.agC .u64 65 t421) 27 (0, 0)) (by (with_reducible repeat first | apply bDn | apply bDr | apply bAl); exact BK422.out)) : gb448 ≠ gb422)); have n16_ := AsZ.mk ((by rw [hg]; exact Nat.ne_of_lt (bLt (g := gb432) (o := .cells #[.slice Ao26 t423.length co26, .slice Ao29 t426.length co29, .slice Ao30 t429.length co30] 60 (0, 0)) (by (with_reducible repeat first | apply bDn | apply bDr | apply bAl); exact BK432.out)) : gb432 ≠ gb448)); have n17_ := AsZ.mk ((by rw [hg]; exact Nat.ne_of_gt (bLt (g := gb432) (o := .cells #[.slice Ao26 t423.length co26, .slice Ao29 t426.length co29, .slice Ao30 t429.length co30] 60 (0, 0)) (by (with_reducible repeat first | apply bDn | apply bDr | apply bAl); exact BK432.out)) : gb448 ≠ gb432)); clear HO425; clear HO428; clear HO431; clear HO435; clear HO438; clear HO441; clear HO444; clear HO447; clear BK422; clear BK432; clear HB; have HO425 := n0_; have HO428 := n1_; have HO431 := n2_; have HO435 := n3_; have HO438 := n4_; have HO441 := n5_; have HO444 := n6_; have HO447 := n7_; have BK422 := n8_; have BK432 := n9_; have HB := n10_; have BK448 := n11_; have GW448 := n12_; have GE448 := n13_; have NB422_448 := n14_; have NB448_422 := n15_; have NB432_448 := n16_; have NB448_432 := n17_; clear n0_ n1_ n2_ n3_ n4_ n5_ n6_ n7_ n8_ n9_ n10_ n11_ n12_ n13_ n14_ n15_ n16_ n17_; clear hb hbox hg; obtain ⟨Ao38, co38, eo38⟩ := Kd.R_slice HO441.out; subst eo38; have hnb39 := NB448_422.out; have hnc39 := NB422_448.out; have hnb40 := NB448_432.out; have hnc40 := NB432_448.out; obtain ⟨hcz41_0, hcz41_1, hcz41_2⟩ := celN3 BK448.out; obtain ⟨hfz41_0, hfz41_1, hfz41_2⟩ := fzN3 BK448.out; obtain ⟨Ao42, co42, eo42⟩ := Kd.R_slice HO444.out; subst eo42; obtain ⟨Ao43, co43, eo43⟩ := Kd.R_slice HO447.out; subst eo43) | ((with_reducible refine gate_builtin (b := .append) (xs := #[.const (.slice none 0 0), .tmp 58]) rfl ?_); (try (refine gate_guard (by rfl) ?_; dsimp only)); at_builtin; refine Kd.R_append_rows (Kd.int .i64) (w0 := w) w.heap.size rfl (.const (.slice none 0 0)) (.tmp 58) 22 3 (.int .i64 0) 8 rfl Tryd.underlying22 info3 rfl (by decide) (by omega) (.slice none 0 0) ([] : List Int) t433 _ _ _ (fun k_ => some k_ ≠ (.slice Ao26 t423.length co26 : Value).ownBlock ∧ some k_ ≠ (.slice Ao32 t433.length co32 : Value).ownBlock ∧ some k_ ≠ (.slice Ao38 t439.length co38 : Value).ownBlock) (fun _ => False) rfl rfl ?aO ?aR (fun _ _ h => h) (fun _ h => h.elim) ?aF ?aB ?aS ?aL ?_; (case aR => refine (Kd.R_reads' (e := 3) (base := w.heap.size) (ok := fun k_ => ((True ∧ some k_ ≠ (.slice Ao26 t423.length co26 : Value).ownBlock) ∧ some k_ ≠ (.slice Ao38 t439.length co38 : Value).ownBlock)) (n := t433.length) (c := co32) ?_).2.2; exact (by (with_reducible repeat (first | apply Kd.R_alloc | apply Kd.R_drewN | apply Kd.R_drew)); exact (Kd.R_mono (Kd.R_far (p := ⟨gb448, 2, none⟩) (Kd.R_far (p := ⟨gb448, 1, none⟩) (Kd.R_far (p := ⟨gb448, 0, none⟩) (Kd.R_types HO435.out BK448.out (by decide)) (fun _ hk => hk.2) (.slice Ao38 t439.length co38)) (fun _ hk => hk.2) (.slice Ao42 t442.length co42)) (fun _ hk => hk.2) (.slice Ao43 t445.length co43)) (fun _ h_ => h_.1)))); (case aB => exact (by repeat (first | (with_reducible first | exact HB.out | apply aBl | apply pBd | apply dBl | refine sBl ?_ GE422.out | refine Ag.row_below ?_ GE422.out | refine sBl ?_ GE432.out | refine Ag.row_below ?_ GE432.out | refine sBl ?_ GE448.out | refine Ag.row_below ?_ GE448.out) | exact HB.out))); (case aF => exact (fun k_ hk => ⟨Kd.fresh' (Kd.R_lt (by (with_reducible repeat (first | apply Kd.R_alloc | apply Kd.R_drewN | apply Kd.R_drew)); exact (Kd.R_mono (Kd.R_far (p := ⟨gb448, 2, none⟩) (Kd.R_far (p := ⟨gb448, 1, none⟩) (Kd.R_far (p := ⟨gb448, 0, none⟩) (Kd.R_types HO425.out BK448.out (by decide)) (fun _ hk => hk.2) (.slice Ao38 t439.length co38)) (fun _ hk => hk.2) (.slice Ao42 t442.length co42)) (fun _ hk => hk.2) (.slice Ao43 t445.length co43)) (fun _ h_ => h_.1)))) k_ hk, Kd.fresh' (Kd.R_lt (by (with_reducible repeat (first | apply Kd.R_alloc | apply Kd.R_drewN | apply Kd.R_drew)); exact (Kd.R_mono (Kd.R_far (p := ⟨gb448, 2, none⟩) (Kd.R_far (p := ⟨gb448, 1, none⟩) (Kd.R_far (p := ⟨gb448, 0, none⟩) (Kd.R_types HO435.out BK448.out (by decide)) (fun _ hk => hk.2) (.slice Ao38 t439.length co38)) (fun _ hk => hk.2) (.slice Ao42 t442.length co42)) (fun _ hk => hk.2) (.slice Ao43 t445.length co43)) (fun _ h_ => h_.1)))) k_ hk, Kd.fresh' (Kd.R_lt (by (with_reducible repeat (first | apply Kd.R_alloc | apply Kd.R_drewN | apply Kd.R_drew)); exact (Kd.R_mono (Kd.R_far (p := ⟨gb448, 2, none⟩) (Kd.R_far (p := ⟨gb448, 1, none⟩) (Kd.R_far (p := ⟨gb448, 0, none⟩) (Kd.R_types HO441.out BK448.out (by decide)) (fun _ hk => hk.2) (.slice Ao38 t439.length co38)) (fun _ hk => hk.2) (.slice Ao42 t442.length co42)) (fun _ hk => hk.2) (.slice Ao43 t445.length co43)) (fun _ h_ => h_.1)))) k_ hk⟩)); (case aO => exact ((Kd.R_nil _ _ _ _ (fun k_ => some k_ ≠ (.slice Ao26 t423.length co26 : Value).ownBlock ∧ some k_ ≠ (.slice Ao32 t433.length co32 : Value).ownBlock ∧ some k_ ≠ (.slice Ao38 t439.length co38 : Value).ownBlock)))); (case aS => exact (zBl (by repeat (first | (with_reducible first | exact HB.out | apply aBl | apply pBd | apply dBl | refine sBl ?_ GE422.out | refine Ag.row_below ?_ GE422.out | refine sBl ?_ GE432.out | refine Ag.row_below ?_ GE432.out | refine sBl ?_ GE448.out | refine Ag.row_below ?_ GE448.out) | exact HB.out)))); (case aL => have := LMc18.out; omega); intro v450 w44 ho hb hg hat; rw [← Ny449.out] at ho; have n0_ := AsZ.mk (blk_grown (g := gb422) (o := .cells (Ag.agC .u64 65 t421) 27 (0, 0)) (by (with_reducible repeat first | apply bDn | apply bDr | apply bAl); (first | (with_reducible refine Ag.row_far ?_ NB422_448.out _) | refine bFr ?_ NB422_448.out _); (with_reducible repeat first | apply bDn | apply bDr | apply bAl); (first | (with_reducible refine Ag.row_far ?_ NB422_448.out _) | refine bFr ?_ NB422_448.out _); (with_reducible repeat first | apply bDn | apply bDr | apply bAl); (first | (with_reducible refine Ag.row_far ?_ NB422_448.out _) | refine bFr ?_ NB422_448.out _); (with_reducible repeat first | apply bDn | apply bDr | apply bAl); exact BK422.out) hg (by simp [Value.ownBlock])); have n1_ := AsZ.mk (Kd.R_after (Kd.R_apart_nil (by (with_reducible repeat (first | apply Kd.R_alloc | apply Kd.R_drewN | apply Kd.R_drew)); exact (Kd.R_mono (Kd.R_far (p := ⟨gb448, 2, none⟩) (Kd.R_far (p := ⟨gb448, 1, none⟩) (Kd.R_far (p := ⟨gb448, 0, none⟩) (Kd.R_types HO425.out BK448.out (by decide)) (fun _ hk => hk.2) (.slice Ao38 t439.length co38)) (fun _ hk => hk.2) (.slice Ao42 t442.length co42)) (fun _ hk => hk.2) (.slice Ao43 t445.length co43)) (fun _ h_ => h_.1)))) hg hat); have n2_ := AsZ.mk (Kd.R_grown (by (with_reducible repeat (first | apply Kd.R_alloc | apply Kd.R_drewN | apply Kd.R_drew)); exact (Kd.R_mono (Kd.R_far (p := ⟨gb448, 2, none⟩) (Kd.R_far (p := ⟨gb448, 1, none⟩) (Kd.R_far (p := ⟨gb448, 0, none⟩) (Kd.R_types HO428.out BK448.out (by decide)) (fun _ hk => hk.2) (.slice Ao38 t439.length co38)) (fun _ hk => hk.2) (.slice Ao42 t442.length co42)) (fun _ hk => hk.2) (.slice Ao43 t445.length co43)) (fun _ h_ => h_.1))) hg (fun _ _ => by simp [Value.ownBlock])); have n3_ := AsZ.mk (Kd.R_grown (by (with_reducible repeat (first | apply Kd.R_alloc | apply Kd.R_drewN | apply Kd.R_drew)); exact (Kd.R_mono (Kd.R_far (p := ⟨gb448, 2, none⟩) (Kd.R_far (p := ⟨gb448, 1, none⟩) (Kd.R_far (p := ⟨gb448, 0, none⟩) (Kd.R_types HO431.out BK448.out (by decide)) (fun _ hk => hk.2) (.slice Ao38 t439.length co38)) (fun _ hk => hk.2) (.slice Ao42 t442.length co42)) (fun _ hk => hk.2) (.slice Ao43 t445.length co43)) (fun _ h_ => h_.1))) hg (fun _ _ => by simp [Value.ownBlock])); have n4_ := AsZ.mk (blk_grown (g := gb432) (o := .cells #[.slice Ao26 t423.length co26, .slice Ao29 t426.length co29, .slice Ao30 t429.length co30] 60 (0, 0)) (by (with_reducible repeat first | apply bDn | apply bDr | apply bAl); (first | (with_reducible refine Ag.row_far ?_ NB432_448.out _) | refine bFr ?_ NB432_448.out _); (with_reducible repeat first | apply bDn | apply bDr | apply bAl); (first | (with_reducible refine Ag.row_far ?_ NB432_448.out _) | refine bFr ?_ NB432_448.out _); (with_reducible repeat first | apply bDn | apply bDr | apply bAl); (first | (with_reducible refine Ag.row_far ?_ NB432_448.out _) | refine bFr ?_ NB432_448.out _); (with_reducible repeat first | apply bDn | apply bDr | apply bAl); exact BK432.out) hg (by simp [Value.ownBlock])); have n5_ := AsZ.mk (Kd.R_after (Kd.R_apart_nil (by (with_reducible repeat (first | apply Kd.R_alloc | apply Kd.R_drewN | apply Kd.R_drew)); exact (Kd.R_mono (Kd.R_far (p := ⟨gb448, 2, none⟩) (Kd.R_far (p := ⟨gb448, 1, none⟩) (Kd.R_far (p := ⟨gb448, 0, none⟩) (Kd.R_types HO435.out BK448.out (by decide)) (fun _ hk => hk.2) (.slice Ao38 t439.length co38)) (fun _ hk => hk.2) (.slice Ao42 t442.length co42)) (fun _ hk => hk.2) (.slice Ao43 t445.length co43)) (fun _ h_ => h_.1)))) hg hat); have n6_ := AsZ.mk (Kd.R_grown (by (with_reducible repeat (first | apply Kd.R_alloc | apply Kd.R_drewN | apply Kd.R_drew)); exact (Kd.R_mono (Kd.R_far (p := ⟨gb448, 2, none⟩) (Kd.R_far (p := ⟨gb448, 1, none⟩) (Kd.R_far (p := ⟨gb448, 0, none⟩) (Kd.R_types HO438.out BK448.out (by decide)) (fun _ hk => hk.2) (.slice Ao38 t439.length co38)) (fun _ hk => hk.2) (.slice Ao42 t442.length co42)) (fun _ hk => hk.2) (.slice Ao43 t445.length co43)) (fun _ h_ => h_.1))) hg (fun _ _ => by simp [Value.ownBlock])); have n7_ := AsZ.mk (Kd.R_after (Kd.R_apart_nil (by (with_reducible repeat (first | apply Kd.R_alloc | apply Kd.R_drewN | apply Kd.R_drew)); exact (Kd.R_mono (Kd.R_far (p := ⟨gb448, 2, none⟩) (Kd.R_far (p := ⟨gb448, 1, none⟩) (Kd.R_far (p := ⟨gb448, 0, none⟩) (Kd.R_types HO441.out BK448.out (by decide)) (fun _ hk => hk.2) (.slice Ao38 t439.length co38)) (fun _ hk => hk.2) (.slice Ao42 t442.length co42)) (fun _ hk => hk.2) (.slice Ao43 t445.length co43)) (fun _ h_ => h_.1)))) hg hat); have n8_ := AsZ.mk (Kd.R_grown (by (with_reducible repeat (first | apply Kd.R_alloc | apply Kd.R_drewN | apply Kd.R_drew)); exact (Kd.R_mono (Kd.R_far (p := ⟨gb448, 2, none⟩) (Kd.R_far (p := ⟨gb448, 1, none⟩) (Kd.R_far (p := ⟨gb448, 0, none⟩) (Kd.R_types HO444.out BK448.out (by decide)) (fun _ hk => hk.2) (.slice Ao38 t439.length co38)) (fun _ hk => hk.2) (.slice Ao42 t442.length co42)) (fun _ hk => hk.2) (.slice Ao43 t445.length co43)) (fun _ h_ => h_.1))) hg (fun _ _ => by simp [Value.ownBlock])); have n9_ := AsZ.mk (Kd.R_grown (by (with_reducible repeat (first | apply Kd.R_alloc | apply Kd.R_drewN | apply Kd.R_drew)); exact (Kd.R_mono (Kd.R_far (p := ⟨gb448, 2, none⟩) (Kd.R_far (p := ⟨gb448, 1, none⟩) (Kd.R_far (p := ⟨gb448, 0, none⟩) (Kd.R_types HO447.out BK448.out (by decide)) (fun _ hk => hk.2) (.slice Ao38 t439.length co38)) (fun _ hk => hk.2) (.slice Ao42 t442.length co42)) (fun _ hk => hk.2) (.slice Ao43 t445.length co43)) (fun _ h_ => h_.1))) hg (fun _ _ => by simp [Value.ownBlock])); have n10_ := AsZ.mk (blk_grown (g := gb448) (o := .cells #[.slice Ao38 t439.length co38, .slice Ao42 t442.length co42, .slice Ao43 t445.length co43] 60 (0, 0)) (by (with_reducible repeat first | apply bDn | apply bDr | apply bAl); refine bPu (cs := #[.slice Ao38 t439.length co38, .slice Ao42 t442.length co42, .slice none 0 0]) ?_ 2 _ rfl; (with_reducible repeat first | apply bDn | apply bDr | apply bAl); refine bPu (cs := #[.slice Ao38 t439.length co38, .slice none 0 0, .slice none 0 0]) ?_ 1 _ rfl; (with_reducible repeat first | apply bDn | apply bDr | apply bAl); refine bPu (cs := #[.slice none 0 0, .slice none 0 0, .slice none 0 0]) ?_ 0 _ rfl; (with_reducible repeat first | apply bDn | apply bDr | apply bAl); exact BK448.out) hg (by simp [Value.ownBlock])); have n11_ := AsZ.mk (hb); have n12_ := AsZ.mk (ho); clear BK422; clear HO425; clear HO428; clear HO431; clear BK432; clear HO435; clear HO438; clear HO441; clear HO444; clear HO447; clear BK448; clear HB; have BK422 := n0_; have HO425 := n1_; have HO428 := n2_; have HO431 := n3_; have BK432 := n4_; have HO435 := n5_; have HO438 := n6_; have HO441 := n7_; have HO444 := n8_; have HO447 := n9_; have BK448 := n10_; have HB := n11_; have HO451 := n12_; clear n0_ n1_ n2_ n3_ n4_ n5_ n6_ n7_ n8_ n9_ n10_ n11_ n12_; clear ho hb hg hat) | ((with_reducible refine gate_builtin (b := .append) (xs := #[.tmp 59, .tmp 60]) rfl ?_); (try (refine gate_guard (by rfl) ?_; dsimp only)); at_builtin; refine Kd.R_append_rows (Kd.int .i64) (w0 := w) w.heap.size rfl (.tmp 59) (.tmp 60) 22 3 (.int .i64 0) 8 rfl Tryd.underlying22 info3 rfl (by decide) (by omega) v450 y449 l4 _ _ _ (fun k_ => some k_ ≠ (.slice Ao26 t423.length co26 : Value).ownBlock ∧ some k_ ≠ (.slice Ao32 t433.length co32 : Value).ownBlock ∧ some k_ ≠ (.slice Ao38 t439.length co38 : Value).ownBlock) (fun _ => False) rfl rfl ?aO ?aR (fun _ _ h => h) (fun _ h => h.elim) ?aF ?aB ?aS ?aL ?_; (case aR => repeat (first | exact (Kd.C_below HR4.out HB.out) | (with_reducible refine Kd.C_alloc ?_ _) | (with_reducible refine Kd.C_drewN ?_ _) | (with_reducible refine Kd.C_drew ?_))); (case aB => exact (by repeat (first | (with_reducible first | exact HB.out | apply aBl | apply pBd | apply dBl | refine sBl ?_ GE422.out | refine Ag.row_below ?_ GE422.out | refine sBl ?_ GE432.out | refine Ag.row_below ?_ GE432.out | refine sBl ?_ GE448.out | refine Ag.row_below ?_ GE448.out) | exact HB.out))); (case aF => exact (fun k_ hk => ⟨Kd.fresh' (Kd.R_lt (by (with_reducible repeat (first | apply Kd.R_alloc | apply Kd.R_drewN | apply Kd.R_drew)); exact HO425.out)) k_ hk, Kd.fresh' (Kd.R_lt (by (with_reducible repeat (first | apply Kd.R_alloc | apply Kd.R_drewN | apply Kd.R_drew)); exact HO435.out)) k_ hk, Kd.fresh' (Kd.R_lt (by (with_reducible repeat (first | apply Kd.R_alloc | apply Kd.R_drewN | apply Kd.R_drew)); exact HO441.out)) k_ hk⟩)); (case aO => exact (by (with_reducible repeat (first | apply Kd.R_alloc | apply Kd.R_drewN | apply Kd.R_drew)); exact HO451.out)); (case aS => exact (zBl (by repeat (first | (with_reducible first | exact HB.out | apply aBl | apply pBd | apply dBl | refine sBl ?_ GE422.out | refine Ag.row_below ?_ GE422.out | refine sBl ?_ GE432.out | refine Ag.row_below ?_ GE432.out | refine sBl ?_ GE448.out | refine Ag.row_below ?_ GE448.out) | exact HB.out)))); (case aL => have := LMc19.out; omega); intro v453 w45 ho hb hg hat; rw [← Ny452.out] at ho; have n0_ := AsZ.mk (blk_grown (g := gb422) (o := .cells (Ag.agC .u64 65 t421) 27 (0, 0)) (by (with_reducible repeat first | apply bDn | apply bDr | apply bAl); exact BK422.out) hg (Kd.R_ne HO451.out BK422.out (by decide))); have n1_ := AsZ.mk (Kd.R_after (ok := (fun k_ => some k_ ≠ (.slice Ao32 t433.length co32 : Value).ownBlock ∧ some k_ ≠ (.slice Ao38 t439.length co38 : Value).ownBlock)) (by (with_reducible repeat (first | apply Kd.R_alloc | apply Kd.R_drewN | apply Kd.R_drew)); exact Kd.R_mono HO425.out (fun _ hk => ⟨⟨hk.1.1.2, hk.1.2⟩, hk.2⟩)) hg hat); have n2_ := AsZ.mk (Kd.R_over' (by (with_reducible repeat (first | apply Kd.R_alloc | apply Kd.R_drewN | apply Kd.R_drew)); exact HO428.out) (Kd.R_typed (by (with_reducible repeat (first | apply Kd.R_alloc | apply Kd.R_drewN | apply Kd.R_drew)); exact HO451.out)) (by decide) hg); have n3_ := AsZ.mk (Kd.R_over' (by (with_reducible repeat (first | apply Kd.R_alloc | apply Kd.R_drewN | apply Kd.R_drew)); exact HO431.out) (Kd.R_typed (by (with_reducible repeat (first | apply Kd.R_alloc | apply Kd.R_drewN | apply Kd.R_drew)); exact HO451.out)) (by decide) hg); have n4_ := AsZ.mk (blk_grown (g := gb432) (o := .cells #[.slice Ao26 t423.length co26, .slice Ao29 t426.length co29, .slice Ao30 t429.length co30] 60 (0, 0)) (by (with_reducible repeat first | apply bDn | apply bDr | apply bAl); exact BK432.out) hg (Kd.R_ne HO451.out BK432.out (by decide))); have n5_ := AsZ.mk (Kd.R_after (ok := (fun k_ => some k_ ≠ (.slice Ao26 t423.length co26 : Value).ownBlock ∧ some k_ ≠ (.slice Ao38 t439.length co38 : Value).ownBlock)) (by (with_reducible repeat (first | apply Kd.R_alloc | apply Kd.R_drewN | apply Kd.R_drew)); exact Kd.R_mono HO435.out (fun _ hk => ⟨⟨hk.1.1.2, hk.1.2⟩, hk.2⟩)) hg hat); have n6_ := AsZ.mk (Kd.R_over' (by (with_reducible repeat (first | apply Kd.R_alloc | apply Kd.R_drewN | apply Kd.R_drew)); exact HO438.out) (Kd.R_typed (by (with_reducible repeat (first | apply Kd.R_alloc | apply Kd.R_drewN | apply Kd.R_drew)); exact HO451.out)) (by decide) hg); have n7_ := AsZ.mk (Kd.R_after (ok := (fun k_ => some k_ ≠ (.slice Ao26 t423.length co26 : Value).ownBlock ∧ some k_ ≠ (.slice Ao32 t433.length co32 : Value).ownBlock)) (by (with_reducible repeat (first | apply Kd.R_alloc | apply Kd.R_drewN | apply Kd.R_drew)); exact Kd.R_mono HO441.out (fun _ hk => ⟨⟨hk.1.1.2, hk.1.2⟩, hk.2⟩)) hg hat); have n8_ := AsZ.mk (Kd.R_over' (by (with_reducible repeat (first | apply Kd.R_alloc | apply Kd.R_drewN | apply Kd.R_drew)); exact HO444.out) (Kd.R_typed (by (with_reducible repeat (first | apply Kd.R_alloc | apply Kd.R_drewN | apply Kd.R_drew)); exact HO451.out)) (by decide) hg); have n9_ := AsZ.mk (Kd.R_over' (by (with_reducible repeat (first | apply Kd.R_alloc | apply Kd.R_drewN | apply Kd.R_drew)); exact HO447.out) (Kd.R_typed (by (with_reducible repeat (first | apply Kd.R_alloc | apply Kd.R_drewN | apply Kd.R_drew)); exact HO451.out)) (by decide) hg); have n10_ := AsZ.mk (blk_grown (g := gb448) (o := .cells #[.slice Ao38 t439.length co38, .slice Ao42 t442.length co42, .slice Ao43 t445.length co43] 60 (0, 0)) (by (with_reducible repeat first | apply bDn | apply bDr | apply bAl); exact BK448.out) hg (Kd.R_ne HO451.out BK448.out (by decide))); have n11_ := AsZ.mk (hb); have n12_ := AsZ.mk (ho); clear BK422; clear HO425; clear HO428; clear HO431; clear BK432; clear HO435; clear HO438; clear HO441; clear HO444; clear HO447; clear BK448; clear HB; clear HO451; have BK422 := n0_; have HO425 := n1_; have HO428 := n2_; have HO431 := n3_; have BK432 := n4_; have HO435 := n5_; have HO438 := n6_; have HO441 := n7_; have HO444 := n8_; have HO447 := n9_; have BK448 := n10_; have HB := n11_; have HO454 := n12_; clear n0_ n1_ n2_ n3_ n4_ n5_ n6_ n7_ n8_ n9_ n10_ n11_ n12_; clear ho hb hg hat; obtain ⟨Ao46, co46, eo46⟩ := Kd.R_slice HO454.out; subst eo46) | ((with_reducible refine gCa (f := 22) rfl ?_); refine gLl (some 63) rfl rfl Tryd.func22 (by kernel_rfl) rfl #[.slice Ao46 y452.length co46, .slice A3 l3.length c3] rfl (by (try simp only [List.map_toArray, List.map_cons, List.map_nil]); first | done | rfl | (simp only [List.length_drop, List.length_take]; rfl)) ?_; (with_reducible refine (spenceref24_Split.calls kj7 _ _ y452 _ _ l3 t455 _ ?side1 ?side2 ?side3 ?side4 A20.out).mono ?_); (case side1 => repeat (first | exact (Kd.R_reads' HO454.out).2.2 | (with_reducible refine Kd.C_alloc ?_ _) | (with_reducible refine Kd.C_drewN ?_ _) | (with_reducible refine Kd.C_drew ?_))); (case side2 => exact (Kd.R_reads' HO454.out).2.1); (case side3 => repeat (first | exact (Kd.C_below HR3.out HB.out) | (with_reducible refine Kd.C_alloc ?_ _) | (with_reducible refine Kd.C_drewN ?_ _) | (with_reducible refine Kd.C_drew ?_))); (case side4 => exact HC3.out); rintro e w47 ⟨v456, rfl, ho0, hb⟩; refine ⟨_, rfl, ?_⟩; have n0_ := AsZ.mk (Kd.R_below (by (with_reducible repeat (first | apply Kd.R_alloc | apply Kd.R_drewN | apply Kd.R_drew)); exact HO425.out) hb); have n1_ := AsZ.mk (Kd.R_elder' (by (with_reducible repeat (first | apply Kd.R_alloc | apply Kd.R_drewN | apply Kd.R_drew)); exact HO428.out) (Kd.R_base ho0) hb); have n2_ := AsZ.mk (Kd.R_elder' (by (with_reducible repeat (first | apply Kd.R_alloc | apply Kd.R_drewN | apply Kd.R_drew)); exact HO431.out) (Kd.R_base ho0) hb); have n3_ := AsZ.mk (Kd.R_below (by (with_reducible repeat (first | apply Kd.R_alloc | apply Kd.R_drewN | apply Kd.R_drew)); exact HO435.out) hb); have n4_ := AsZ.mk (Kd.R_elder' (by (with_reducible repeat (first | apply Kd.R_alloc | apply Kd.R_drewN | apply Kd.R_drew)); exact HO438.out) (Kd.R_base ho0) hb); have n5_ := AsZ.mk (Kd.R_below (by (with_reducible repeat (first | apply Kd.R_alloc | apply Kd.R_drewN | apply Kd.R_drew)); exact HO441.out) hb); have n6_ := AsZ.mk (Kd.R_elder' (by (with_reducible repeat (first | apply Kd.R_alloc | apply Kd.R_drewN | apply Kd.R_drew)); exact HO444.out) (Kd.R_base ho0) hb); have n7_ := AsZ.mk (Kd.R_elder' (by (with_reducible repeat (first | apply Kd.R_alloc | apply Kd.R_drewN | apply Kd.R_drew)); exact HO447.out) (Kd.R_base ho0) hb); have n8_ := AsZ.mk (Kd.R_below (by (with_reducible repeat (first | apply Kd.R_alloc | apply Kd.R_drewN | apply Kd.R_drew)); exact HO454.out) hb); have n9_ := AsZ.mk (Kd.R_lower (Kd.R_new' (Kd.R_new' (Kd.R_new' (Kd.R_new' (Kd.R_new' ho0 (Kd.R_lt (by (with_reducible repeat (first | apply Kd.R_alloc | apply Kd.R_drewN | apply Kd.R_drew)); exact HO428.out))) (Kd.R_lt (by (with_reducible repeat (first | apply Kd.R_alloc | apply Kd.R_drewN | apply Kd.R_drew)); exact HO431.out))) (Kd.R_lt (by (with_reducible repeat (first | apply Kd.R_alloc | apply Kd.R_drewN | apply Kd.R_drew)); exact HO438.out))) (Kd.R_lt (by (with_reducible repeat (first | apply Kd.R_alloc | apply Kd.R_drewN | apply Kd.R_drew)); exact HO444.out))) (Kd.R_lt (by (with_reducible repeat (first | apply Kd.R_alloc | apply Kd.R_drewN | apply Kd.R_drew)); exact HO447.out))) (zBl (by repeat (first | (with_reducible first | exact HB.out | apply aBl | apply pBd | apply dBl | refine sBl ?_ GE422.out | refine Ag.row_below ?_ GE422.out | refine sBl ?_ GE432.out | refine Ag.row_below ?_ GE432.out | refine sBl ?_ GE448.out | refine Ag.row_below ?_ GE448.out) | exact HB.out)))); have n10_ := AsZ.mk (bBl (g := gb422) (o := .cells (Ag.agC .u64 65 t421) 27 (0, 0)) (by (with_reducible repeat first | apply bDn | apply bDr | apply bAl); exact BK422.out) hb); have n11_ := AsZ.mk (bBl (g := gb432) (o := .cells #[.slice Ao26 t423.length co26, .slice Ao29 t426.length co29, .slice Ao30 t429.length co30] 60 (0, 0)) (by (with_reducible repeat first | apply bDn | apply bDr | apply bAl); exact BK432.out) hb); have n12_ := AsZ.mk (bBl (g := gb448) (o := .cells #[.slice Ao38 t439.length co38, .slice Ao42 t442.length co42, .slice Ao43 t445.length co43] 60 (0, 0)) (by (with_reducible repeat first | apply bDn | apply bDr | apply bAl); exact BK448.out) hb); have n13_ := AsZ.mk (tBl (by repeat (first | (with_reducible first | exact HB.out | apply aBl | apply pBd | apply dBl | refine sBl ?_ GE422.out | refine Ag.row_below ?_ GE422.out | refine sBl ?_ GE432.out | refine Ag.row_below ?_ GE432.out | refine sBl ?_ GE448.out | refine Ag.row_below ?_ GE448.out) | exact HB.out)) hb); clear HO425; clear HO428; clear HO431; clear HO435; clear HO438; clear HO441; clear HO444; clear HO447; clear HO454; clear BK422; clear BK432; clear BK448; clear HB; have HO425 := n0_; have HO428 := n1_; have HO431 := n2_; have HO435 := n3_; have HO438 := n4_; have HO441 := n5_; have HO444 := n6_; have HO447 := n7_; have HO454 := n8_; have HO457 := n9_; have BK422 := n10_; have BK432 := n11_; have BK448 := n12_; have HB := n13_; clear n0_ n1_ n2_ n3_ n4_ n5_ n6_ n7_ n8_ n9_ n10_ n11_ n12_ n13_; (try clear hb); (try clear hb2); (try clear hk); (try clear hi); (try clear ho0)))
              go_loopg [17, 66] kj7 (fun kq v17 v66 w' => ∃ (x17_2 : Bool) (x66_2 : Int), v17 = .bool x17_2 ∧ v66 = .int .i64 x66_2 ∧ AsZ (spencelaw28_PlanMakes.l0 kq a1 a2 l3 t433 t436 t455 x17_2 t433 (t433.length : Int) x66_2 t421 t423 t426 t429 t439 t442 t445 = some r) ∧ AsZ (kq ≤ kj7) ∧ AsZ (Kd.R (Kd.int .i64) 3 w' w.heap.size (fun k_ => some k_ ≠ ((.slice Ao26 t423.length co26) : Value).ownBlock ∧ some k_ ≠ ((.slice Ao38 t439.length co38) : Value).ownBlock) (.slice Ao32 t433.length co32) t433) ∧ AsZ (Kd.R k50 50 w' w.heap.size (fun k_ => some k_ ≠ (v456 : Value).ownBlock ∧ some k_ ≠ ((.slice Ao29 t426.length co29) : Value).ownBlock ∧ some k_ ≠ ((.slice Ao30 t429.length co30) : Value).ownBlock ∧ some k_ ≠ ((.slice Ao42 t442.length co42) : Value).ownBlock ∧ some k_ ≠ ((.slice Ao43 t445.length co43) : Value).ownBlock) v437 t436) ∧ AsZ (Kd.R k50 50 w' w.heap.size (fun k_ => some k_ ≠ (v437 : Value).ownBlock ∧ some k_ ≠ ((.slice Ao29 t426.length co29) : Value).ownBlock ∧ some k_ ≠ ((.slice Ao30 t429.length co30) : Value).ownBlock ∧ some k_ ≠ ((.slice Ao42 t442.length co42) : Value).ownBlock ∧ some k_ ≠ ((.slice Ao43 t445.length co43) : Value).ownBlock) v456 t455) ∧ AsZ (Kd.R (Kd.int .i64) 3 w' w.heap.size (fun k_ => some k_ ≠ ((.slice Ao26 t423.length co26) : Value).ownBlock ∧ some k_ ≠ ((.slice Ao38 t439.length co38) : Value).ownBlock) (.slice Ao32 t433.length co32) t433) ∧ AsZ (Kd.R (Kd.int .i64) 3 w' w.heap.size (fun k_ => some k_ ≠ ((.slice Ao32 t433.length co32) : Value).ownBlock ∧ some k_ ≠ ((.slice Ao32 t433.length co32) : Value).ownBlock ∧ some k_ ≠ ((.slice Ao38 t439.length co38) : Value).ownBlock) (.slice Ao26 t423.length co26) t423) ∧ AsZ (Kd.R k50 50 w' w.heap.size (fun k_ => some k_ ≠ (v437 : Value).ownBlock ∧ some k_ ≠ (v456 : Value).ownBlock ∧ some k_ ≠ ((.slice Ao30 t429.length co30) : Value).ownBlock ∧ some k_ ≠ ((.slice Ao42 t442.length co42) : Value).ownBlock ∧ some k_ ≠ ((.slice Ao43 t445.length co43) : Value).ownBlock) (.slice Ao29 t426.length co29) t426) ∧ AsZ (Kd.R k50 50 w' w.heap.size (fun k_ => some k_ ≠ (v437 : Value).ownBlock ∧ some k_ ≠ (v456 : Value).ownBlock ∧ some k_ ≠ ((.slice Ao29 t426.length co29) : Value).ownBlock ∧ some k_ ≠ ((.slice Ao42 t442.length co42) : Value).ownBlock ∧ some k_ ≠ ((.slice Ao43 t445.length co43) : Value).ownBlock) (.slice Ao30 t429.length co30) t429) ∧ AsZ (Kd.R (Kd.int .i64) 3 w' w.heap.size (fun k_ => some k_ ≠ ((.slice Ao32 t433.length co32) : Value).ownBlock ∧ some k_ ≠ ((.slice Ao32 t433.length co32) : Value).ownBlock ∧ some k_ ≠ ((.slice Ao26 t423.length co26) : Value).ownBlock) (.slice Ao38 t439.length co38) t439) ∧ AsZ (Kd.R k50 50 w' w.heap.size (fun k_ => some k_ ≠ (v437 : Value).ownBlock ∧ some k_ ≠ (v456 : Value).ownBlock ∧ some k_ ≠ ((.slice Ao29 t426.length co29) : Value).ownBlock ∧ some k_ ≠ ((.slice Ao30 t429.length co30) : Value).ownBlock ∧ some k_ ≠ ((.slice Ao43 t445.length co43) : Value).ownBlock) (.slice Ao42 t442.length co42) t442) ∧ AsZ (Kd.R k50 50 w' w.heap.size (fun k_ => some k_ ≠ (v437 : Value).ownBlock ∧ some k_ ≠ (v456 : Value).ownBlock ∧ some k_ ≠ ((.slice Ao29 t426.length co29) : Value).ownBlock ∧ some k_ ≠ ((.slice Ao30 t429.length co30) : Value).ownBlock ∧ some k_ ≠ ((.slice Ao42 t442.length co42) : Value).ownBlock) (.slice Ao43 t445.length co43) t445) ∧ AsZ (w'.heap[gb422]? = some (.cells (Ag.agC .u64 65 t421) 27 (0, 0))) ∧ AsZ (w'.heap[gb432]? = some (.cells #[(.slice Ao26 t423.length co26), (.slice Ao29 t426.length co29), (.slice Ao30 t429.length co30)] 60 (0, 0))) ∧ AsZ (w'.heap[gb448]? = some (.cells #[(.slice Ao38 t439.length co38), (.slice Ao42 t442.length co42), (.slice Ao43 t445.length co43)] 60 (0, 0))) ∧ AsZ (Below w.heap.size w w'))
              case atStart => exact ⟨(true), (0), (by first | rfl | (simp; done) | (simp [*]; done)), (by first | rfl | (simp; done) | (simp [*]; done)), H', ⟨Nat.le_refl _⟩, ⟨by (with_reducible repeat (first | apply Kd.R_alloc | apply Kd.R_drewN | apply Kd.R_drew)); exact Kd.R_mono HO435.out (fun _ hk => ⟨hk.1.1, hk.1.2⟩)⟩, ⟨by (with_reducible repeat (first | apply Kd.R_alloc | apply Kd.R_drewN | apply Kd.R_drew)); exact Kd.R_mono HO438.out (fun _ hk => ⟨hk.2, ⟨hk.1.1.1.1.2, ⟨hk.1.1.1.2, ⟨hk.1.1.2, hk.1.2⟩⟩⟩⟩)⟩, ⟨by (with_reducible repeat (first | apply Kd.R_alloc | apply Kd.R_drewN | apply Kd.R_drew)); exact Kd.R_mono HO457.out (fun _ hk => ⟨hk.1.1.2, ⟨hk.1.1.1.1.2, ⟨hk.1.1.1.2, ⟨hk.1.2, hk.2⟩⟩⟩⟩)⟩, ⟨by (with_reducible repeat (first | apply Kd.R_alloc | apply Kd.R_drewN | apply Kd.R_drew)); exact Kd.R_mono HO435.out (fun _ hk => ⟨hk.1.1, hk.1.2⟩)⟩, ⟨by (with_reducible repeat (first | apply Kd.R_alloc | apply Kd.R_drewN | apply Kd.R_drew)); exact Kd.R_mono HO425.out (fun _ hk => ⟨hk.1.1, ⟨hk.1.1, hk.1.2⟩⟩)⟩, ⟨by (with_reducible repeat (first | apply Kd.R_alloc | apply Kd.R_drewN | apply Kd.R_drew)); exact Kd.R_mono HO428.out (fun _ hk => ⟨hk.1.1.1.2, ⟨hk.2, ⟨hk.1.1.1.1, ⟨hk.1.1.2, hk.1.2⟩⟩⟩⟩)⟩, ⟨by (with_reducible repeat (first | apply Kd.R_alloc | apply Kd.R_drewN | apply Kd.R_drew)); exact Kd.R_mono HO431.out (fun _ hk => ⟨hk.1.1.1.2, ⟨hk.2, ⟨hk.1.1.1.1, ⟨hk.1.1.2, hk.1.2⟩⟩⟩⟩)⟩, ⟨by (with_reducible repeat (first | apply Kd.R_alloc | apply Kd.R_drewN | apply Kd.R_drew)); exact Kd.R_mono HO441.out (fun _ hk => ⟨hk.1.2, ⟨hk.1.2, hk.1.1⟩⟩)⟩, ⟨by (with_reducible repeat (first | apply Kd.R_alloc | apply Kd.R_drewN | apply Kd.R_drew)); exact Kd.R_mono HO444.out (fun _ hk => ⟨hk.1.2, ⟨hk.2, ⟨hk.1.1.1.2, ⟨hk.1.1.2, hk.1.1.1.1⟩⟩⟩⟩)⟩, ⟨by (with_reducible repeat (first | apply Kd.R_alloc | apply Kd.R_drewN | apply Kd.R_drew)); exact Kd.R_mono HO447.out (fun _ hk => ⟨hk.1.2, ⟨hk.2, ⟨hk.1.1.1.2, ⟨hk.1.1.2, hk.1.1.1.1⟩⟩⟩⟩)⟩, ⟨by (with_reducible repeat first | apply bDn | apply bDr | apply bAl); exact BK422.out⟩, ⟨by (with_reducible repeat first | apply bDn | apply bDr | apply bAl); exact BK432.out⟩, ⟨by (with_reducible repeat first | apply bDn | apply bDr | apply bAl); exact BK448.out⟩, ⟨by repeat (first | (with_reducible first | exact HB.out | apply aBl | apply pBd | apply dBl | refine sBl ?_ GE422.out | refine Ag.row_below ?_ GE422.out | refine sBl ?_ GE432.out | refine Ag.row_below ?_ GE432.out | refine sBl ?_ GE448.out | refine Ag.row_below ?_ GE448.out) | exact HB.out)⟩⟩
              case round =>
                clear H'
                try clear c1
                try clear c2
                try clear p2
                try clear c3
                try clear c4
                try clear c7
                try clear c8
                try clear c10
                try clear c10b0
                try clear c10b1
                try clear c11
                try clear c11b0
                try clear c11b1
                try clear c12
                try clear c18
                try clear c19
                try clear c22
                try clear c27
                try clear c33
                try clear c36
                try clear c38
                try clear c39
                try clear c40
                try clear hcz23_0
                try clear hcz28_0
                try clear hcz28_1
                try clear hcz28_2
                try clear hcz34_0
                try clear hcz34_1
                try clear hcz34_2
                try clear hcz35_0
                try clear hcz41_0
                try clear hcz41_1
                try clear hcz41_2
                try clear hfz23_0
                try clear hfz28_0
                try clear hfz28_1
                try clear hfz28_2
                try clear hfz34_0
                try clear hfz34_1
                try clear hfz34_2
                try clear hfz35_0
                try clear hfz41_0
                try clear hfz41_1
                try clear hfz41_2
                try clear p2
                obtain ⟨x17_2, x66_2, rfl, rfl, HA, HK2, HO_13, HO_14, HO_16, HO_64, HO_433000, HO_433001, HO_433002, HO_449000, HO_449001, HO_449002, BK422, BK432, BK448, HB⟩ := hrel
                cases gk with
                | zero => exact absurd HA.out (by simp [spencelaw28_PlanMakes.l0])
                | succ k2 =>
                  have H := HA.out
                  clear HA
                  simp only [spencelaw28_PlanMakes.l0] at H
                  by_cases c48 : x66_2 < (t433.length : Int)
                  · rw [if_pos c48] at H
                    have c48b0 : decide (x66_2 < (t433.length : Int)) = true := decide_eq_true c48
                    clear c48
                    by_cases c49 : 0 ≤ x66_2
                    · rw [if_pos c49] at H
                      have c49b0 : decide (0 ≤ x66_2) = true := decide_eq_true c49
                      clear c49
                      by_cases c50 : x66_2 < (t433.length : Int)
                      · rw [if_pos c50] at H
                        have c50b0 : decide (x66_2 < (t433.length : Int)) = true := decide_eq_true c50
                        clear c50
                        by_cases c51 : x17_2 = true
                        · subst c51
                          have H1 : ((spenceref01_In.f k2 l3 (rd t433 x66_2)).bind fun t459 => (spencelaw28_PlanMakes.l0 k2 a1 a2 l3 t433 t436 t455 t459 t433 (t433.length : Int) (wrap64 (x66_2 + 1)) t421 t423 t426 t429 t439 t442 t445)) = some r := by rw [if_pos rfl] at H; exact H
                          clear H
                          have H := H1
                          clear H1
                          replace H := Option.bind_eq_some_iff.mp H
                          obtain ⟨t459, A520, H⟩ := H
                          replace H : (spencelaw28_PlanMakes.l0 k2 a1 a2 l3 t433 t436 t455 t459 t433 (t433.length : Int) (wrap64 (x66_2 + 1)) t421 t423 t426 t429 t439 t442 t445) = some r := H
                          have A52 := AsZ.mk A520
                          clear A520
                          have H' := AsZ.mk H
                          clear H
                          have p458 : 0 ≤ (x66_2 : Int) := of_decide_eq_true (by first | (with_reducible assumption) | assumption)
                          have q458 : x66_2 < (t433.length : Int) := of_decide_eq_true (by first | (with_reducible assumption) | assumption)
                          obtain ⟨ad458, e458, hx458_0⟩ := Kd.at_int (Kd.R_reads' HO_64.out).2.2 x66_2 p458 q458
                          cases e458
                          replace p458 := eq_true p458
                          replace q458 := eq_true q458
                          go_wp2_with (first | ((with_reducible refine ag_gate (t := 27) rfl ?_); first | refine row_load rfl 27 _ rfl _ rfl .u64 65 _ 27 _ BK422.out Tryd.underlying27 rfl Ag.info_map ?_ | refine row_load rfl 27 _ rfl _ rfl .u64 65 _ 27 _ (by first | exact BK422.out | (repeat (first | exact BK422.out | (with_reducible exact Ag.row_put BK422.out) | (with_reducible refine Ag.row_far ?_ (by assumption) _) | (with_reducible refine bFr ?_ (by assumption) _)))) Tryd.underlying27 rfl Ag.info_map ?_) | ((with_reducible refine ag_gate_st (t := 27) rfl ?_); first | refine row_store2 rfl 27 _ _ rfl rfl _ rfl .u64 65 _ rfl _ 27 BK422.out Ag.info_map (Ag.agC_size _ _ _) ?_ | refine row_store2 rfl 27 _ _ rfl rfl _ rfl .u64 65 _ rfl _ 27 (by first | exact BK422.out | (repeat (first | exact BK422.out | (with_reducible exact Ag.row_put BK422.out) | (with_reducible refine Ag.row_far ?_ (by assumption) _) | (with_reducible refine bFr ?_ (by assumption) _)))) Ag.info_map (Ag.agC_size _ _ _) ?_) | (go_at_call 13; (with_reducible refine (spenceref01_In.calls k2 _ _ l3 (rd t433 x66_2) t459 _ ?side1 ?side2 A52.out).mono ?_); (case side1 => repeat (first | exact (Kd.C_below HR3.out HB.out) | (with_reducible refine Kd.C_alloc ?_ _) | (with_reducible refine Kd.C_drewN ?_ _) | (with_reducible refine Kd.C_drew ?_))); (case side2 => exact HC3.out); rintro e w' ⟨rfl, ⟨nd, rfl⟩⟩))
                          go_roundg k2
                          case measure => have := HJ7.out; have := HK2.out; omega
                          case rel => exact ⟨(t459), (wrap64 (x66_2 + 1)), (by first | rfl | (simp; done) | (simp [*]; done)), (by first | rfl | (simp; done) | (simp [*]; done)), H', ⟨by have := HJ7.out; have := HK2.out; omega⟩, ⟨by (with_reducible repeat (first | apply Kd.R_alloc | apply Kd.R_drewN | apply Kd.R_drew)); exact HO_13.out⟩, ⟨by (with_reducible repeat (first | apply Kd.R_alloc | apply Kd.R_drewN | apply Kd.R_drew)); exact HO_14.out⟩, ⟨by (with_reducible repeat (first | apply Kd.R_alloc | apply Kd.R_drewN | apply Kd.R_drew)); exact HO_16.out⟩, ⟨by (with_reducible repeat (first | apply Kd.R_alloc | apply Kd.R_drewN | apply Kd.R_drew)); exact HO_64.out⟩, ⟨by (with_reducible repeat (first | apply Kd.R_alloc | apply Kd.R_drewN | apply Kd.R_drew)); exact HO_433000.out⟩, ⟨by (with_reducible repeat (first | apply Kd.R_alloc | apply Kd.R_drewN | apply Kd.R_drew)); exact HO_433001.out⟩, ⟨by (with_reducible repeat (first | apply Kd.R_alloc | apply Kd.R_drewN | apply Kd.R_drew)); exact HO_433002.out⟩, ⟨by (with_reducible repeat (first | apply Kd.R_alloc | apply Kd.R_drewN | apply Kd.R_drew)); exact HO_449000.out⟩, ⟨by (with_reducible repeat (first | apply Kd.R_alloc | apply Kd.R_drewN | apply Kd.R_drew)); exact HO_449001.out⟩, ⟨by (with_reducible repeat (first | apply Kd.R_alloc | apply Kd.R_drewN | apply Kd.R_drew)); exact HO_449002.out⟩, ⟨by (with_reducible repeat first | apply bDn | apply bDr | apply bAl); exact BK422.out⟩, ⟨by (with_reducible repeat first | apply bDn | apply bDr | apply bAl); exact BK432.out⟩, ⟨by (with_reducible repeat first | apply bDn | apply bDr | apply bAl); exact BK448.out⟩, ⟨by repeat (first | (with_reducible first | exact HB.out | apply aBl | apply pBd | apply dBl | refine sBl ?_ GE422.out | refine Ag.row_below ?_ GE422.out | refine sBl ?_ GE432.out | refine Ag.row_below ?_ GE432.out | refine sBl ?_ GE448.out | refine Ag.row_below ?_ GE448.out) | exact HB.out)⟩⟩
                        · replace c51 := Bool.eq_false_iff.mpr c51
                          subst c51
                          have H1 : (spencelaw28_PlanMakes.l0 k2 a1 a2 l3 t433 t436 t455 false t433 (t433.length : Int) (wrap64 (x66_2 + 1)) t421 t423 t426 t429 t439 t442 t445) = some r := by rw [if_neg (show ¬ (false = true) by decide)] at H; exact H
                          clear H
                          have H := H1
                          clear H1
                          have H' := AsZ.mk H
                          clear H
                          have p458 : 0 ≤ (x66_2 : Int) := of_decide_eq_true (by first | (with_reducible assumption) | assumption)
                          have q458 : x66_2 < (t433.length : Int) := of_decide_eq_true (by first | (with_reducible assumption) | assumption)
                          obtain ⟨ad458, e458, hx458_0⟩ := Kd.at_int (Kd.R_reads' HO_64.out).2.2 x66_2 p458 q458
                          cases e458
                          replace p458 := eq_true p458
                          replace q458 := eq_true q458
                          go_wp2_with (first | ((with_reducible refine ag_gate (t := 27) rfl ?_); first | refine row_load rfl 27 _ rfl _ rfl .u64 65 _ 27 _ BK422.out Tryd.underlying27 rfl Ag.info_map ?_ | refine row_load rfl 27 _ rfl _ rfl .u64 65 _ 27 _ (by first | exact BK422.out | (repeat (first | exact BK422.out | (with_reducible exact Ag.row_put BK422.out) | (with_reducible refine Ag.row_far ?_ (by assumption) _) | (with_reducible refine bFr ?_ (by assumption) _)))) Tryd.underlying27 rfl Ag.info_map ?_) | ((with_reducible refine ag_gate_st (t := 27) rfl ?_); first | refine row_store2 rfl 27 _ _ rfl rfl _ rfl .u64 65 _ rfl _ 27 BK422.out Ag.info_map (Ag.agC_size _ _ _) ?_ | refine row_store2 rfl 27 _ _ rfl rfl _ rfl .u64 65 _ rfl _ 27 (by first | exact BK422.out | (repeat (first | exact BK422.out | (with_reducible exact Ag.row_put BK422.out) | (with_reducible refine Ag.row_far ?_ (by assumption) _) | (with_reducible refine bFr ?_ (by assumption) _)))) Ag.info_map (Ag.agC_size _ _ _) ?_))
                          go_roundg k2
                          case measure => have := HJ7.out; have := HK2.out; omega
                          case rel => exact ⟨(false), (wrap64 (x66_2 + 1)), (by first | rfl | (simp; done) | (simp [*]; done)), (by first | rfl | (simp; done) | (simp [*]; done)), H', ⟨by have := HJ7.out; have := HK2.out; omega⟩, ⟨by (with_reducible repeat (first | apply Kd.R_alloc | apply Kd.R_drewN | apply Kd.R_drew)); exact HO_13.out⟩, ⟨by (with_reducible repeat (first | apply Kd.R_alloc | apply Kd.R_drewN | apply Kd.R_drew)); exact HO_14.out⟩, ⟨by (with_reducible repeat (first | apply Kd.R_alloc | apply Kd.R_drewN | apply Kd.R_drew)); exact HO_16.out⟩, ⟨by (with_reducible repeat (first | apply Kd.R_alloc | apply Kd.R_drewN | apply Kd.R_drew)); exact HO_64.out⟩, ⟨by (with_reducible repeat (first | apply Kd.R_alloc | apply Kd.R_drewN | apply Kd.R_drew)); exact HO_433000.out⟩, ⟨by (with_reducible repeat (first | apply Kd.R_alloc | apply Kd.R_drewN | apply Kd.R_drew)); exact HO_433001.out⟩, ⟨by (with_reducible repeat (first | apply Kd.R_alloc | apply Kd.R_drewN | apply Kd.R_drew)); exact HO_433002.out⟩, ⟨by (with_reducible repeat (first | apply Kd.R_alloc | apply Kd.R_drewN | apply Kd.R_drew)); exact HO_449000.out⟩, ⟨by (with_reducible repeat (first | apply Kd.R_alloc | apply Kd.R_drewN | apply Kd.R_drew)); exact HO_449001.out⟩, ⟨by (with_reducible repeat (first | apply Kd.R_alloc | apply Kd.R_drewN | apply Kd.R_drew)); exact HO_449002.out⟩, ⟨by (with_reducible repeat first | apply bDn | apply bDr | apply bAl); exact BK422.out⟩, ⟨by (with_reducible repeat first | apply bDn | apply bDr | apply bAl); exact BK432.out⟩, ⟨by (with_reducible repeat first | apply bDn | apply bDr | apply bAl); exact BK448.out⟩, ⟨by repeat (first | (with_reducible first | exact HB.out | apply aBl | apply pBd | apply dBl | refine sBl ?_ GE422.out | refine Ag.row_below ?_ GE422.out | refine sBl ?_ GE432.out | refine Ag.row_below ?_ GE432.out | refine sBl ?_ GE448.out | refine Ag.row_below ?_ GE448.out) | exact HB.out)⟩⟩
                      · rw [if_neg c50] at H
                        exact absurd H (by simp)
                    · rw [if_neg c49] at H
                      exact absurd H (by simp)
                  · rw [if_neg c48] at H
                    have c48b0 : decide (x66_2 < (t433.length : Int)) = false := decide_eq_false c48
                    clear c48
                    replace H := Option.bind_eq_some_iff.mp H
                    obtain ⟨t460, A530, H⟩ := H
                    replace H : ((spenceref24_Cap.f k2 t460 8).bind fun t463 => (spencelaw28_PlanMakes.l1 k2 a1 a2 t433 t436 t455 x17_2 0 t463 t463 (t463.length : Int) 0 t421 t423 t426 t429 t439 t442 t445)) = some r := H
                    have A53 := AsZ.mk A530
                    clear A530
                    replace H := Option.bind_eq_some_iff.mp H
                    obtain ⟨t463, A540, H⟩ := H
                    replace H : (spencelaw28_PlanMakes.l1 k2 a1 a2 t433 t436 t455 x17_2 0 t463 t463 (t463.length : Int) 0 t421 t423 t426 t429 t439 t442 t445) = some r := H
                    have A54 := AsZ.mk A540
                    clear A540
                    have H' := AsZ.mk H
                    clear H
                    obtain ⟨Ao55, co55, eo55⟩ := Kd.R_slice HO_14.out
                    subst eo55
                    go_wp2_with (first | ((with_reducible refine ag_gate (t := 27) rfl ?_); first | refine row_load rfl 27 _ rfl _ rfl .u64 65 _ 27 _ BK422.out Tryd.underlying27 rfl Ag.info_map ?_ | refine row_load rfl 27 _ rfl _ rfl .u64 65 _ 27 _ (by first | exact BK422.out | (repeat (first | exact BK422.out | (with_reducible exact Ag.row_put BK422.out) | (with_reducible refine Ag.row_far ?_ (by assumption) _) | (with_reducible refine bFr ?_ (by assumption) _)))) Tryd.underlying27 rfl Ag.info_map ?_) | ((with_reducible refine ag_gate_st (t := 27) rfl ?_); first | refine row_store2 rfl 27 _ _ rfl rfl _ rfl .u64 65 _ rfl _ 27 BK422.out Ag.info_map (Ag.agC_size _ _ _) ?_ | refine row_store2 rfl 27 _ _ rfl rfl _ rfl .u64 65 _ rfl _ 27 (by first | exact BK422.out | (repeat (first | exact BK422.out | (with_reducible exact Ag.row_put BK422.out) | (with_reducible refine Ag.row_far ?_ (by assumption) _) | (with_reducible refine bFr ?_ (by assumption) _)))) Ag.info_map (Ag.agC_size _ _ _) ?_) | ((with_reducible refine gCa (f := 25) rfl ?_); refine gLl (some 78) rfl rfl Tryd.func25 (by kernel_rfl) rfl #[.slice Ao55 t436.length co55] rfl (by (try simp only [List.map_toArray, List.map_cons, List.map_nil]); first | done | rfl | (simp only [List.length_drop, List.length_take]; rfl)) ?_; (with_reducible refine (spenceref24_Missing.calls k2 _ _ t436 t460 _ ?side1 ?side2 A53.out).mono ?_); (case side1 => repeat (first | exact (Kd.R_reads' HO_14.out).2.2 | (with_reducible refine Kd.C_alloc ?_ _) | (with_reducible refine Kd.C_drewN ?_ _) | (with_reducible refine Kd.C_drew ?_))); (case side2 => exact (Kd.R_reads' HO_14.out).2.1); rintro e w56 ⟨v461, rfl, ho0, hb⟩; refine ⟨_, rfl, ?_⟩; have n0_ := AsZ.mk (Kd.R_below (by (with_reducible repeat (first | apply Kd.R_alloc | apply Kd.R_drewN | apply Kd.R_drew)); exact HO_13.out) hb); have n1_ := AsZ.mk (Kd.R_elder' (by (with_reducible repeat (first | apply Kd.R_alloc | apply Kd.R_drewN | apply Kd.R_drew)); exact HO_14.out) (Kd.R_base ho0) hb); have n2_ := AsZ.mk (Kd.R_elder' (by (with_reducible repeat (first | apply Kd.R_alloc | apply Kd.R_drewN | apply Kd.R_drew)); exact HO_16.out) (Kd.R_base ho0) hb); have n3_ := AsZ.mk (Kd.R_below (by (with_reducible repeat (first | apply Kd.R_alloc | apply Kd.R_drewN | apply Kd.R_drew)); exact HO_64.out) hb); have n4_ := AsZ.mk (Kd.R_below (by (with_reducible repeat (first | apply Kd.R_alloc | apply Kd.R_drewN | apply Kd.R_drew)); exact HO_433000.out) hb); have n5_ := AsZ.mk (Kd.R_elder' (by (with_reducible repeat (first | apply Kd.R_alloc | apply Kd.R_drewN | apply Kd.R_drew)); exact HO_433001.out) (Kd.R_base ho0) hb); have n6_ := AsZ.mk (Kd.R_elder' (by (with_reducible repeat (first | apply Kd.R_alloc | apply Kd.R_drewN | apply Kd.R_drew)); exact HO_433002.out) (Kd.R_base ho0) hb); have n7_ := AsZ.mk (Kd.R_below (by (with_reducible repeat (first | apply Kd.R_alloc | apply Kd.R_drewN | apply Kd.R_drew)); exact HO_449000.out) hb); have n8_ := AsZ.mk (Kd.R_elder' (by (with_reducible repeat (first | apply Kd.R_alloc | apply Kd.R_drewN | apply Kd.R_drew)); exact HO_449001.out) (Kd.R_base ho0) hb); have n9_ := AsZ.mk (Kd.R_elder' (by (with_reducible repeat (first | apply Kd.R_alloc | apply Kd.R_drewN | apply Kd.R_drew)); exact HO_449002.out) (Kd.R_base ho0) hb); have n10_ := AsZ.mk (Kd.R_lower (Kd.R_new' (Kd.R_new' (Kd.R_new' (Kd.R_new' (Kd.R_new' (Kd.R_new' ho0 (Kd.R_lt (by (with_reducible repeat (first | apply Kd.R_alloc | apply Kd.R_drewN | apply Kd.R_drew)); exact HO_14.out))) (Kd.R_lt (by (with_reducible repeat (first | apply Kd.R_alloc | apply Kd.R_drewN | apply Kd.R_drew)); exact HO_16.out))) (Kd.R_lt (by (with_reducible repeat (first | apply Kd.R_alloc | apply Kd.R_drewN | apply Kd.R_drew)); exact HO_433001.out))) (Kd.R_lt (by (with_reducible repeat (first | apply Kd.R_alloc | apply Kd.R_drewN | apply Kd.R_drew)); exact HO_433002.out))) (Kd.R_lt (by (with_reducible repeat (first | apply Kd.R_alloc | apply Kd.R_drewN | apply Kd.R_drew)); exact HO_449001.out))) (Kd.R_lt (by (with_reducible repeat (first | apply Kd.R_alloc | apply Kd.R_drewN | apply Kd.R_drew)); exact HO_449002.out))) (zBl (by repeat (first | (with_reducible first | exact HB.out | apply aBl | apply pBd | apply dBl | refine sBl ?_ GE422.out | refine Ag.row_below ?_ GE422.out | refine sBl ?_ GE432.out | refine Ag.row_below ?_ GE432.out | refine sBl ?_ GE448.out | refine Ag.row_below ?_ GE448.out) | exact HB.out)))); have n11_ := AsZ.mk (bBl (g := gb422) (o := .cells (Ag.agC .u64 65 t421) 27 (0, 0)) (by (with_reducible repeat first | apply bDn | apply bDr | apply bAl); exact BK422.out) hb); have n12_ := AsZ.mk (bBl (g := gb432) (o := .cells #[.slice Ao26 t423.length co26, .slice Ao29 t426.length co29, .slice Ao30 t429.length co30] 60 (0, 0)) (by (with_reducible repeat first | apply bDn | apply bDr | apply bAl); exact BK432.out) hb); have n13_ := AsZ.mk (bBl (g := gb448) (o := .cells #[.slice Ao38 t439.length co38, .slice Ao42 t442.length co42, .slice Ao43 t445.length co43] 60 (0, 0)) (by (with_reducible repeat first | apply bDn | apply bDr | apply bAl); exact BK448.out) hb); have n14_ := AsZ.mk (tBl (by repeat (first | (with_reducible first | exact HB.out | apply aBl | apply pBd | apply dBl | refine sBl ?_ GE422.out | refine Ag.row_below ?_ GE422.out | refine sBl ?_ GE432.out | refine Ag.row_below ?_ GE432.out | refine sBl ?_ GE448.out | refine Ag.row_below ?_ GE448.out) | exact HB.out)) hb); clear HO_13; clear HO_14; clear HO_16; clear HO_64; clear HO_433000; clear HO_433001; clear HO_433002; clear HO_449000; clear HO_449001; clear HO_449002; clear BK422; clear BK432; clear BK448; clear HB; have HO_13 := n0_; have HO_14 := n1_; have HO_16 := n2_; have HO_64 := n3_; have HO_433000 := n4_; have HO_433001 := n5_; have HO_433002 := n6_; have HO_449000 := n7_; have HO_449001 := n8_; have HO_449002 := n9_; have HO462 := n10_; have BK422 := n11_; have BK432 := n12_; have BK448 := n13_; have HB := n14_; clear n0_ n1_ n2_ n3_ n4_ n5_ n6_ n7_ n8_ n9_ n10_ n11_ n12_ n13_ n14_; (try clear hb); (try clear hb2); (try clear hk); (try clear hi); (try clear ho0); obtain ⟨Ao57, co57, eo57⟩ := Kd.R_slice HO462.out; subst eo57) | ((with_reducible refine gCa (f := 32) rfl ?_); refine gLl (some 79) rfl rfl Tryd.func32 (by kernel_rfl) rfl #[.slice Ao57 t460.length co57, .int .i64 8] rfl (by (try simp only [List.map_toArray, List.map_cons, List.map_nil]); first | done | rfl | (simp only [List.length_drop, List.length_take]; rfl)) ?_; (with_reducible refine (spenceref24_Cap.calls k2 _ _ t460 8 t463 _ ?side1 ?side2 A54.out).mono ?_); (case side1 => repeat (first | exact (Kd.R_reads' HO462.out).2.2 | (with_reducible refine Kd.C_alloc ?_ _) | (with_reducible refine Kd.C_drewN ?_ _) | (with_reducible refine Kd.C_drew ?_))); (case side2 => exact (Kd.R_reads' HO462.out).2.1); rintro e w58 ⟨v464, rfl, ho0, hb⟩; refine ⟨_, rfl, ?_⟩; have n0_ := AsZ.mk (Kd.R_below (by (with_reducible repeat (first | apply Kd.R_alloc | apply Kd.R_drewN | apply Kd.R_drew)); exact HO_13.out) hb); have n1_ := AsZ.mk (Kd.R_elder' (by (with_reducible repeat (first | apply Kd.R_alloc | apply Kd.R_drewN | apply Kd.R_drew)); exact HO_14.out) (Kd.R_base ho0) hb); have n2_ := AsZ.mk (Kd.R_elder' (by (with_reducible repeat (first | apply Kd.R_alloc | apply Kd.R_drewN | apply Kd.R_drew)); exact HO_16.out) (Kd.R_base ho0) hb); have n3_ := AsZ.mk (Kd.R_below (by (with_reducible repeat (first | apply Kd.R_alloc | apply Kd.R_drewN | apply Kd.R_drew)); exact HO_64.out) hb); have n4_ := AsZ.mk (Kd.R_below (by (with_reducible repeat (first | apply Kd.R_alloc | apply Kd.R_drewN | apply Kd.R_drew)); exact HO_433000.out) hb); have n5_ := AsZ.mk (Kd.R_elder' (by (with_reducible repeat (first | apply Kd.R_alloc | apply Kd.R_drewN | apply Kd.R_drew)); exact HO_433001.out) (Kd.R_base ho0) hb); have n6_ := AsZ.mk (Kd.R_elder' (by (with_reducible repeat (first | apply Kd.R_alloc | apply Kd.R_drewN | apply Kd.R_drew)); exact HO_433002.out) (Kd.R_base ho0) hb); have n7_ := AsZ.mk (Kd.R_below (by (with_reducible repeat (first | apply Kd.R_alloc | apply Kd.R_drewN | apply Kd.R_drew)); exact HO_449000.out) hb); have n8_ := AsZ.mk (Kd.R_elder' (by (with_reducible repeat (first | apply Kd.R_alloc | apply Kd.R_drewN | apply Kd.R_drew)); exact HO_449001.out) (Kd.R_base ho0) hb); have n9_ := AsZ.mk (Kd.R_elder' (by (with_reducible repeat (first | apply Kd.R_alloc | apply Kd.R_drewN | apply Kd.R_drew)); exact HO_449002.out) (Kd.R_base ho0) hb); have n10_ := AsZ.mk (Kd.R_elder' (by (with_reducible repeat (first | apply Kd.R_alloc | apply Kd.R_drewN | apply Kd.R_drew)); exact HO462.out) (Kd.R_base ho0) hb); have n11_ := AsZ.mk (Kd.R_lower (Kd.R_new' (Kd.R_new' (Kd.R_new' (Kd.R_new' (Kd.R_new' (Kd.R_new' (Kd.R_new' ho0 (Kd.R_lt (by (with_reducible repeat (first | apply Kd.R_alloc | apply Kd.R_drewN | apply Kd.R_drew)); exact HO_14.out))) (Kd.R_lt (by (with_reducible repeat (first | apply Kd.R_alloc | apply Kd.R_drewN | apply Kd.R_drew)); exact HO_16.out))) (Kd.R_lt (by (with_reducible repeat (first | apply Kd.R_alloc | apply Kd.R_drewN | apply Kd.R_drew)); exact HO_433001.out))) (Kd.R_lt (by (with_reducible repeat (first | apply Kd.R_alloc | apply Kd.R_drewN | apply Kd.R_drew)); exact HO_433002.out))) (Kd.R_lt (by (with_reducible repeat (first | apply Kd.R_alloc | apply Kd.R_drewN | apply Kd.R_drew)); exact HO_449001.out))) (Kd.R_lt (by (with_reducible repeat (first | apply Kd.R_alloc | apply Kd.R_drewN | apply Kd.R_drew)); exact HO_449002.out))) (Kd.R_lt (by (with_reducible repeat (first | apply Kd.R_alloc | apply Kd.R_drewN | apply Kd.R_drew)); exact HO462.out))) (zBl (by repeat (first | (with_reducible first | exact HB.out | apply aBl | apply pBd | apply dBl | refine sBl ?_ GE422.out | refine Ag.row_below ?_ GE422.out | refine sBl ?_ GE432.out | refine Ag.row_below ?_ GE432.out | refine sBl ?_ GE448.out | refine Ag.row_below ?_ GE448.out) | exact HB.out)))); have n12_ := AsZ.mk (bBl (g := gb422) (o := .cells (Ag.agC .u64 65 t421) 27 (0, 0)) (by (with_reducible repeat first | apply bDn | apply bDr | apply bAl); exact BK422.out) hb); have n13_ := AsZ.mk (bBl (g := gb432) (o := .cells #[.slice Ao26 t423.length co26, .slice Ao29 t426.length co29, .slice Ao30 t429.length co30] 60 (0, 0)) (by (with_reducible repeat first | apply bDn | apply bDr | apply bAl); exact BK432.out) hb); have n14_ := AsZ.mk (bBl (g := gb448) (o := .cells #[.slice Ao38 t439.length co38, .slice Ao42 t442.length co42, .slice Ao43 t445.length co43] 60 (0, 0)) (by (with_reducible repeat first | apply bDn | apply bDr | apply bAl); exact BK448.out) hb); have n15_ := AsZ.mk (tBl (by repeat (first | (with_reducible first | exact HB.out | apply aBl | apply pBd | apply dBl | refine sBl ?_ GE422.out | refine Ag.row_below ?_ GE422.out | refine sBl ?_ GE432.out | refine Ag.row_below ?_ GE432.out | refine sBl ?_ GE448.out | refine Ag.row_below ?_ GE448.out) | exact HB.out)) hb); clear HO_13; clear HO_14; clear HO_16; clear HO_64; clear HO_433000; clear HO_433001; clear HO_433002; clear HO_449000; clear HO_449001; clear HO_449002; clear HO462; clear BK422; clear BK432; clear BK448; clear HB; have HO_13 := n0_; have HO_14 := n1_; have HO_16 := n2_; have HO_64 := n3_; have HO_433000 := n4_; have HO_433001 := n5_; have HO_433002 := n6_; have HO_449000 := n7_; have HO_449001 := n8_; have HO_449002 := n9_; have HO462 := n10_; have HO465 := n11_; have BK422 := n12_; have BK432 := n13_; have BK448 := n14_; have HB := n15_; clear n0_ n1_ n2_ n3_ n4_ n5_ n6_ n7_ n8_ n9_ n10_ n11_ n12_ n13_ n14_ n15_; (try clear hb); (try clear hb2); (try clear hk); (try clear hi); (try clear ho0); obtain ⟨Ao59, co59, eo59⟩ := Kd.R_slice HO465.out; subst eo59))
                    go_loopg [20, 82] k2 (fun kq v20 v82 w' => ∃ (x20_3 : Int) (x82_3 : Int), v20 = .int .i64 x20_3 ∧ v82 = .int .i64 x82_3 ∧ AsZ (spencelaw28_PlanMakes.l1 kq a1 a2 t433 t436 t455 x17_2 x20_3 t463 t463 (t463.length : Int) x82_3 t421 t423 t426 t429 t439 t442 t445 = some r) ∧ AsZ (kq ≤ k2) ∧ AsZ (Kd.R (Kd.int .i64) 3 w' w.heap.size (fun k_ => some k_ ≠ ((.slice Ao26 t423.length co26) : Value).ownBlock ∧ some k_ ≠ ((.slice Ao38 t439.length co38) : Value).ownBlock) (.slice Ao32 t433.length co32) t433) ∧ AsZ (Kd.R k50 50 w' w.heap.size (fun k_ => some k_ ≠ (v456 : Value).ownBlock ∧ some k_ ≠ ((.slice Ao59 t463.length co59) : Value).ownBlock ∧ some k_ ≠ ((.slice Ao59 t463.length co59) : Value).ownBlock ∧ some k_ ≠ ((.slice Ao29 t426.length co29) : Value).ownBlock ∧ some k_ ≠ ((.slice Ao30 t429.length co30) : Value).ownBlock ∧ some k_ ≠ ((.slice Ao42 t442.length co42) : Value).ownBlock ∧ some k_ ≠ ((.slice Ao43 t445.length co43) : Value).ownBlock) (.slice Ao55 t436.length co55) t436) ∧ AsZ (Kd.R k50 50 w' w.heap.size (fun k_ => some k_ ≠ ((.slice Ao55 t436.length co55) : Value).ownBlock ∧ some k_ ≠ ((.slice Ao59 t463.length co59) : Value).ownBlock ∧ some k_ ≠ ((.slice Ao59 t463.length co59) : Value).ownBlock ∧ some k_ ≠ ((.slice Ao29 t426.length co29) : Value).ownBlock ∧ some k_ ≠ ((.slice Ao30 t429.length co30) : Value).ownBlock ∧ some k_ ≠ ((.slice Ao42 t442.length co42) : Value).ownBlock ∧ some k_ ≠ ((.slice Ao43 t445.length co43) : Value).ownBlock) v456 t455) ∧ AsZ (Kd.R k50 50 w' w.heap.size (fun k_ => some k_ ≠ ((.slice Ao55 t436.length co55) : Value).ownBlock ∧ some k_ ≠ (v456 : Value).ownBlock ∧ some k_ ≠ ((.slice Ao29 t426.length co29) : Value).ownBlock ∧ some k_ ≠ ((.slice Ao30 t429.length co30) : Value).ownBlock ∧ some k_ ≠ ((.slice Ao42 t442.length co42) : Value).ownBlock ∧ some k_ ≠ ((.slice Ao43 t445.length co43) : Value).ownBlock) (.slice Ao59 t463.length co59) t463) ∧ AsZ (Kd.R k50 50 w' w.heap.size (fun k_ => some k_ ≠ ((.slice Ao55 t436.length co55) : Value).ownBlock ∧ some k_ ≠ (v456 : Value).ownBlock ∧ some k_ ≠ ((.slice Ao29 t426.length co29) : Value).ownBlock ∧ some k_ ≠ ((.slice Ao30 t429.length co30) : Value).ownBlock ∧ some k_ ≠ ((.slice Ao42 t442.length co42) : Value).ownBlock ∧ some k_ ≠ ((.slice Ao43 t445.length co43) : Value).ownBlock) (.slice Ao59 t463.length co59) t463) ∧ AsZ (Kd.R (Kd.int .i64) 3 w' w.heap.size (fun k_ => some k_ ≠ ((.slice Ao32 t433.length co32) : Value).ownBlock ∧ some k_ ≠ ((.slice Ao38 t439.length co38) : Value).ownBlock) (.slice Ao26 t423.length co26) t423) ∧ AsZ (Kd.R k50 50 w' w.heap.size (fun k_ => some k_ ≠ ((.slice Ao55 t436.length co55) : Value).ownBlock ∧ some k_ ≠ (v456 : Value).ownBlock ∧ some k_ ≠ ((.slice Ao59 t463.length co59) : Value).ownBlock ∧ some k_ ≠ ((.slice Ao59 t463.length co59) : Value).ownBlock ∧ some k_ ≠ ((.slice Ao30 t429.length co30) : Value).ownBlock ∧ some k_ ≠ ((.slice Ao42 t442.length co42) : Value).ownBlock ∧ some k_ ≠ ((.slice Ao43 t445.length co43) : Value).ownBlock) (.slice Ao29 t426.length co29) t426) ∧ AsZ (Kd.R k50 50 w' w.heap.size (fun k_ => some k_ ≠ ((.slice Ao55 t436.length co55) : Value).ownBlock ∧ some k_ ≠ (v456 : Value).ownBlock ∧ some k_ ≠ ((.slice Ao59 t463.length co59) : Value).ownBlock ∧ some k_ ≠ ((.slice Ao59 t463.length co59) : Value).ownBlock ∧ some k_ ≠ ((.slice Ao29 t426.length co29) : Value).ownBlock ∧ some k_ ≠ ((.slice Ao42 t442.length co42) : Value).ownBlock ∧ some k_ ≠ ((.slice Ao43 t445.length co43) : Value).ownBlock) (.slice Ao30 t429.length co30) t429) ∧ AsZ (Kd.R (Kd.int .i64) 3 w' w.heap.size (fun k_ => some k_ ≠ ((.slice Ao32 t433.length co32) : Value).ownBlock ∧ some k_ ≠ ((.slice Ao26 t423.length co26) : Value).ownBlock) (.slice Ao38 t439.length co38) t439) ∧ AsZ (Kd.R k50 50 w' w.heap.size (fun k_ => some k_ ≠ ((.slice Ao55 t436.length co55) : Value).ownBlock ∧ some k_ ≠ (v456 : Value).ownBlock ∧ some k_ ≠ ((.slice Ao59 t463.length co59) : Value).ownBlock ∧ some k_ ≠ ((.slice Ao59 t463.length co59) : Value).ownBlock ∧ some k_ ≠ ((.slice Ao29 t426.length co29) : Value).ownBlock ∧ some k_ ≠ ((.slice Ao30 t429.length co30) : Value).ownBlock ∧ some k_ ≠ ((.slice Ao43 t445.length co43) : Value).ownBlock) (.slice Ao42 t442.length co42) t442) ∧ AsZ (Kd.R k50 50 w' w.heap.size (fun k_ => some k_ ≠ ((.slice Ao55 t436.length co55) : Value).ownBlock ∧ some k_ ≠ (v456 : Value).ownBlock ∧ some k_ ≠ ((.slice Ao59 t463.length co59) : Value).ownBlock ∧ some k_ ≠ ((.slice Ao59 t463.length co59) : Value).ownBlock ∧ some k_ ≠ ((.slice Ao29 t426.length co29) : Value).ownBlock ∧ some k_ ≠ ((.slice Ao30 t429.length co30) : Value).ownBlock ∧ some k_ ≠ ((.slice Ao42 t442.length co42) : Value).ownBlock) (.slice Ao43 t445.length co43) t445) ∧ AsZ (w'.heap[gb422]? = some (.cells (Ag.agC .u64 65 t421) 27 (0, 0))) ∧ AsZ (w'.heap[gb432]? = some (.cells #[(.slice Ao26 t423.length co26), (.slice Ao29 t426.length co29), (.slice Ao30 t429.length co30)] 60 (0, 0))) ∧ AsZ (w'.heap[gb448]? = some (.cells #[(.slice Ao38 t439.length co38), (.slice Ao42 t442.length co42), (.slice Ao43 t445.length co43)] 60 (0, 0))) ∧ AsZ (Below w.heap.size w w'))
                    case atStart => exact ⟨(0), (0), (by first | rfl | (simp; done) | (simp [*]; done)), (by first | rfl | (simp; done) | (simp [*]; done)), H', ⟨Nat.le_refl _⟩, ⟨by (with_reducible repeat (first | apply Kd.R_alloc | apply Kd.R_drewN | apply Kd.R_drew)); exact HO_13.out⟩, ⟨by (with_reducible repeat (first | apply Kd.R_alloc | apply Kd.R_drewN | apply Kd.R_drew)); exact Kd.R_mono HO_14.out (fun _ hk => ⟨hk.1.1.1, ⟨hk.2, ⟨hk.2, ⟨hk.1.1.2.1, ⟨hk.1.1.2.2.1, ⟨hk.1.1.2.2.2.1, hk.1.1.2.2.2.2⟩⟩⟩⟩⟩⟩)⟩, ⟨by (with_reducible repeat (first | apply Kd.R_alloc | apply Kd.R_drewN | apply Kd.R_drew)); exact Kd.R_mono HO_16.out (fun _ hk => ⟨hk.1.1.1, ⟨hk.2, ⟨hk.2, ⟨hk.1.1.2.1, ⟨hk.1.1.2.2.1, ⟨hk.1.1.2.2.2.1, hk.1.1.2.2.2.2⟩⟩⟩⟩⟩⟩)⟩, ⟨by (with_reducible repeat (first | apply Kd.R_alloc | apply Kd.R_drewN | apply Kd.R_drew)); exact Kd.R_mono HO465.out (fun _ hk => ⟨hk.1.1.1.1.1.1.2, ⟨hk.1.1.1.1.1.2, ⟨hk.1.1.1.1.2, ⟨hk.1.1.1.2, ⟨hk.1.1.2, hk.1.2⟩⟩⟩⟩⟩)⟩, ⟨by (with_reducible repeat (first | apply Kd.R_alloc | apply Kd.R_drewN | apply Kd.R_drew)); exact Kd.R_mono HO465.out (fun _ hk => ⟨hk.1.1.1.1.1.1.2, ⟨hk.1.1.1.1.1.2, ⟨hk.1.1.1.1.2, ⟨hk.1.1.1.2, ⟨hk.1.1.2, hk.1.2⟩⟩⟩⟩⟩)⟩, ⟨by (with_reducible repeat (first | apply Kd.R_alloc | apply Kd.R_drewN | apply Kd.R_drew)); exact Kd.R_mono HO_433000.out (fun _ hk => ⟨hk.1, hk.2.2⟩)⟩, ⟨by (with_reducible repeat (first | apply Kd.R_alloc | apply Kd.R_drewN | apply Kd.R_drew)); exact Kd.R_mono HO_433001.out (fun _ hk => ⟨hk.1.1.1, ⟨hk.1.1.2.1, ⟨hk.2, ⟨hk.2, ⟨hk.1.1.2.2.1, ⟨hk.1.1.2.2.2.1, hk.1.1.2.2.2.2⟩⟩⟩⟩⟩⟩)⟩, ⟨by (with_reducible repeat (first | apply Kd.R_alloc | apply Kd.R_drewN | apply Kd.R_drew)); exact Kd.R_mono HO_433002.out (fun _ hk => ⟨hk.1.1.1, ⟨hk.1.1.2.1, ⟨hk.2, ⟨hk.2, ⟨hk.1.1.2.2.1, ⟨hk.1.1.2.2.2.1, hk.1.1.2.2.2.2⟩⟩⟩⟩⟩⟩)⟩, ⟨by (with_reducible repeat (first | apply Kd.R_alloc | apply Kd.R_drewN | apply Kd.R_drew)); exact Kd.R_mono HO_449000.out (fun _ hk => ⟨hk.1, hk.2.2⟩)⟩, ⟨by (with_reducible repeat (first | apply Kd.R_alloc | apply Kd.R_drewN | apply Kd.R_drew)); exact Kd.R_mono HO_449001.out (fun _ hk => ⟨hk.1.1.1, ⟨hk.1.1.2.1, ⟨hk.2, ⟨hk.2, ⟨hk.1.1.2.2.1, ⟨hk.1.1.2.2.2.1, hk.1.1.2.2.2.2⟩⟩⟩⟩⟩⟩)⟩, ⟨by (with_reducible repeat (first | apply Kd.R_alloc | apply Kd.R_drewN | apply Kd.R_drew)); exact Kd.R_mono HO_449002.out (fun _ hk => ⟨hk.1.1.1, ⟨hk.1.1.2.1, ⟨hk.2, ⟨hk.2, ⟨hk.1.1.2.2.1, ⟨hk.1.1.2.2.2.1, hk.1.1.2.2.2.2⟩⟩⟩⟩⟩⟩)⟩, ⟨by (with_reducible repeat first | apply bDn | apply bDr | apply bAl); exact BK422.out⟩, ⟨by (with_reducible repeat first | apply bDn | apply bDr | apply bAl); exact BK432.out⟩, ⟨by (with_reducible repeat first | apply bDn | apply bDr | apply bAl); exact BK448.out⟩, ⟨by repeat (first | (with_reducible first | exact HB.out | apply aBl | apply pBd | apply dBl | refine sBl ?_ GE422.out | refine Ag.row_below ?_ GE422.out | refine sBl ?_ GE432.out | refine Ag.row_below ?_ GE432.out | refine sBl ?_ GE448.out | refine Ag.row_below ?_ GE448.out) | exact HB.out)⟩⟩
                    case round =>
                      clear H'
                      try clear c1
                      try clear c2
                      try clear p2
                      try clear c3
                      try clear c4
                      try clear p4
                      try clear q4
                      try clear hx4
                      try clear c5
                      try clear p6
                      try clear c7
                      try clear c8
                      try clear c10
                      try clear c10b0
                      try clear c10b1
                      try clear c11
                      try clear c11b0
                      try clear c11b1
                      try clear c12
                      try clear c18
                      try clear c19
                      try clear c22
                      try clear c25
                      try clear c27
                      try clear c32
                      try clear c33
                      try clear c36
                      try clear c38
                      try clear c39
                      try clear c40
                      try clear p45
                      try clear q45
                      try clear hx45
                      try clear c48
                      try clear c48b0
                      try clear c49
                      try clear c49b0
                      try clear c50
                      try clear c50b0
                      try clear c51
                      try clear hcz23_0
                      try clear hcz28_0
                      try clear hcz28_1
                      try clear hcz28_2
                      try clear hcz34_0
                      try clear hcz34_1
                      try clear hcz34_2
                      try clear hcz35_0
                      try clear hcz41_0
                      try clear hcz41_1
                      try clear hcz41_2
                      try clear hfz23_0
                      try clear hfz28_0
                      try clear hfz28_1
                      try clear hfz28_2
                      try clear hfz34_0
                      try clear hfz34_1
                      try clear hfz34_2
                      try clear hfz35_0
                      try clear hfz41_0
                      try clear hfz41_1
                      try clear hfz41_2
                      try clear hx458_0
                      try clear p2
                      try clear p458
                      try clear q458
                      obtain ⟨x20_3, x82_3, rfl, rfl, HA, HK3, HO_13, HO_14, HO_16, HO_21, HO_80, HO_433000, HO_433001, HO_433002, HO_449000, HO_449001, HO_449002, BK422, BK432, BK448, HB⟩ := hrel
                      cases gk with
                      | zero => exact absurd HA.out (by simp [spencelaw28_PlanMakes.l1])
                      | succ k3 =>
                        have H := HA.out
                        clear HA
                        simp only [spencelaw28_PlanMakes.l1] at H
                        by_cases c60 : x82_3 < (t463.length : Int)
                        · rw [if_pos c60] at H
                          have c60b0 : decide (x82_3 < (t463.length : Int)) = true := decide_eq_true c60
                          clear c60
                          by_cases c61 : 0 ≤ x82_3
                          · rw [if_pos c61] at H
                            have c61b0 : decide (0 ≤ x82_3) = true := decide_eq_true c61
                            clear c61
                            by_cases c62 : x82_3 < (t463.length : Int)
                            · rw [if_pos c62] at H
                              have c62b0 : decide (x82_3 < (t463.length : Int)) = true := decide_eq_true c62
                              clear c62
                              replace H := Option.bind_eq_some_iff.mp H
                              obtain ⟨⟨t468, t469⟩, A630, H⟩ := H
                              replace H : (spencelaw28_PlanMakes.l1 k3 a1 a2 t433 t436 t455 x17_2 (wrap64 (x20_3 + (wrap64 (t469 - t468)))) t463 t463 (t463.length : Int) (wrap64 (x82_3 + 1)) t421 t423 t426 t429 t439 t442 t445) = some r := H
                              have A63 := AsZ.mk A630
                              clear A630
                              have H' := AsZ.mk H
                              clear H
                              have p466 : 0 ≤ (x82_3 : Int) := of_decide_eq_true (by first | (with_reducible assumption) | assumption)
                              have q466 : x82_3 < (t463.length : Int) := of_decide_eq_true (by first | (with_reducible assumption) | assumption)
                              obtain ⟨ad466, e466, hx466_0, hx466_1, hx466_2⟩ := at_T50 (Kd.R_reads' HO_80.out).2.2 x82_3 p466 q466
                              cases e466
                              replace p466 := eq_true p466
                              replace q466 := eq_true q466
                              go_wp2_with (first | ((with_reducible refine ag_gate (t := 27) rfl ?_); first | refine row_load rfl 27 _ rfl _ rfl .u64 65 _ 27 _ BK422.out Tryd.underlying27 rfl Ag.info_map ?_ | refine row_load rfl 27 _ rfl _ rfl .u64 65 _ 27 _ (by first | exact BK422.out | (repeat (first | exact BK422.out | (with_reducible exact Ag.row_put BK422.out) | (with_reducible refine Ag.row_far ?_ (by assumption) _) | (with_reducible refine bFr ?_ (by assumption) _)))) Tryd.underlying27 rfl Ag.info_map ?_) | ((with_reducible refine ag_gate_st (t := 27) rfl ?_); first | refine row_store2 rfl 27 _ _ rfl rfl _ rfl .u64 65 _ rfl _ 27 BK422.out Ag.info_map (Ag.agC_size _ _ _) ?_ | refine row_store2 rfl 27 _ _ rfl rfl _ rfl .u64 65 _ rfl _ 27 (by first | exact BK422.out | (repeat (first | exact BK422.out | (with_reducible exact Ag.row_put BK422.out) | (with_reducible refine Ag.row_far ?_ (by assumption) _) | (with_reducible refine bFr ?_ (by assumption) _)))) Ag.info_map (Ag.agC_size _ _ _) ?_) | ((with_reducible refine gDs (N := 23) rfl ?_); (try (refine gate_guard (by rfl) ?_; dsimp only)); refine bEv ?hg (N := 23) ?hd (cs := #[.int .i64 0, .int .i64 0, .bool false]) (t := 50) ?hr ?_; (case hd => rfl); (case hg => rfl); (case hr => first | (go_simp; done) | (go_simp; rfl)); intro gb467 hg w64 hbox hb; have n0_ := AsZ.mk (Kd.R_below (by (with_reducible repeat (first | apply Kd.R_alloc | apply Kd.R_drewN | apply Kd.R_drew)); exact HO_13.out) hb); have n1_ := AsZ.mk (Kd.R_below (Kd.R_elderB (by (with_reducible repeat (first | apply Kd.R_alloc | apply Kd.R_drewN | apply Kd.R_drew)); exact HO_14.out) gb467 (Nat.le_of_eq hg.symm)) hb); have n2_ := AsZ.mk (Kd.R_below (Kd.R_elderB (by (with_reducible repeat (first | apply Kd.R_alloc | apply Kd.R_drewN | apply Kd.R_drew)); exact HO_16.out) gb467 (Nat.le_of_eq hg.symm)) hb); have n3_ := AsZ.mk (Kd.R_below (Kd.R_elderB (by (with_reducible repeat (first | apply Kd.R_alloc | apply Kd.R_drewN | apply Kd.R_drew)); exact HO_21.out) gb467 (Nat.le_of_eq hg.symm)) hb); have n4_ := AsZ.mk (Kd.R_below (Kd.R_elderB (by (with_reducible repeat (first | apply Kd.R_alloc | apply Kd.R_drewN | apply Kd.R_drew)); exact HO_80.out) gb467 (Nat.le_of_eq hg.symm)) hb); have n5_ := AsZ.mk (Kd.R_below (by (with_reducible repeat (first | apply Kd.R_alloc | apply Kd.R_drewN | apply Kd.R_drew)); exact HO_433000.out) hb); have n6_ := AsZ.mk (Kd.R_below (Kd.R_elderB (by (with_reducible repeat (first | apply Kd.R_alloc | apply Kd.R_drewN | apply Kd.R_drew)); exact HO_433001.out) gb467 (Nat.le_of_eq hg.symm)) hb); have n7_ := AsZ.mk (Kd.R_below (Kd.R_elderB (by (with_reducible repeat (first | apply Kd.R_alloc | apply Kd.R_drewN | apply Kd.R_drew)); exact HO_433002.out) gb467 (Nat.le_of_eq hg.symm)) hb); have n8_ := AsZ.mk (Kd.R_below (by (with_reducible repeat (first | apply Kd.R_alloc | apply Kd.R_drewN | apply Kd.R_drew)); exact HO_449000.out) hb); have n9_ := AsZ.mk (Kd.R_below (Kd.R_elderB (by (with_reducible repeat (first | apply Kd.R_alloc | apply Kd.R_drewN | apply Kd.R_drew)); exact HO_449001.out) gb467 (Nat.le_of_eq hg.symm)) hb); have n10_ := AsZ.mk (Kd.R_below (Kd.R_elderB (by (with_reducible repeat (first | apply Kd.R_alloc | apply Kd.R_drewN | apply Kd.R_drew)); exact HO_449002.out) gb467 (Nat.le_of_eq hg.symm)) hb); have n11_ := AsZ.mk (bBl (g := gb422) (o := .cells (Ag.agC .u64 65 t421) 27 (0, 0)) (by (with_reducible repeat first | apply bDn | apply bDr | apply bAl); exact BK422.out) hb); have n12_ := AsZ.mk (bBl (g := gb432) (o := .cells #[.slice Ao26 t423.length co26, .slice Ao29 t426.length co29, .slice Ao30 t429.length co30] 60 (0, 0)) (by (with_reducible repeat first | apply bDn | apply bDr | apply bAl); exact BK432.out) hb); have n13_ := AsZ.mk (bBl (g := gb448) (o := .cells #[.slice Ao38 t439.length co38, .slice Ao42 t442.length co42, .slice Ao43 t445.length co43] 60 (0, 0)) (by (with_reducible repeat first | apply bDn | apply bDr | apply bAl); exact BK448.out) hb); have n14_ := AsZ.mk (tBl (by repeat (first | (with_reducible first | exact HB.out | apply aBl | apply pBd | apply dBl | refine sBl ?_ GE422.out | refine Ag.row_below ?_ GE422.out | refine sBl ?_ GE432.out | refine Ag.row_below ?_ GE432.out | refine sBl ?_ GE448.out | refine Ag.row_below ?_ GE448.out) | exact HB.out)) hb); have n15_ := AsZ.mk (hbox); have n16_ := AsZ.mk ((by rw [hg]; exact (zBl (by repeat (first | (with_reducible first | exact HB.out | apply aBl | apply pBd | apply dBl | refine sBl ?_ GE422.out | refine Ag.row_below ?_ GE422.out | refine sBl ?_ GE432.out | refine Ag.row_below ?_ GE432.out | refine sBl ?_ GE448.out | refine Ag.row_below ?_ GE448.out) | exact HB.out))) : w.heap.size ≤ gb467)); have n17_ := AsZ.mk ((by rw [hg]; exact (zBl (by repeat (first | (with_reducible first | exact HB.out | apply aBl | apply pBd | apply dBl | refine sBl ?_ GE422.out | refine Ag.row_below ?_ GE422.out | refine sBl ?_ GE432.out | refine Ag.row_below ?_ GE432.out | refine sBl ?_ GE448.out | refine Ag.row_below ?_ GE448.out) | exact HB.out))) : w.heap.size ≤ gb467)); have n18_ := AsZ.mk ((by rw [hg]; exact Nat.ne_of_lt (bLt (g := gb422) (o := .cells (Ag.agC .u64 65 t421) 27 (0, 0)) (by (with_reducible repeat first | apply bDn | apply bDr | apply bAl); exact BK422.out)) : gb422 ≠ gb467)); have n19_ := AsZ.mk ((by rw [hg]; exact Nat.ne_of_gt (bLt (g := gb422) (o := .cells (Ag.agC .u64 65 t421) 27 (0, 0)) (by (with_reducible repeat first | apply bDn | apply bDr | apply bAl); exact BK422.out)) : gb467 ≠ gb422)); have n20_ := AsZ.mk ((by rw [hg]; exact Nat.ne_of_lt (bLt (g := gb432) (o := .cells #[.slice Ao26 t423.length co26, .slice Ao29 t426.length co29, .slice Ao30 t429.length co30] 60 (0, 0)) (by (with_reducible repeat first | apply bDn | apply bDr | apply bAl); exact BK432.out)) : gb432 ≠ gb467)); have n21_ := AsZ.mk ((by rw [hg]; exact Nat.ne_of_gt (bLt (g := gb432) (o := .cells #[.slice Ao26 t423.length co26, .slice Ao29 t426.length co29, .slice Ao30 t429.length co30] 60 (0, 0)) (by (with_reducible repeat first | apply bDn | apply bDr | apply bAl); exact BK432.out)) : gb467 ≠ gb432)); have n22_ := AsZ.mk ((by rw [hg]; exact Nat.ne_of_lt (bLt (g := gb448) (o := .cells #[.slice Ao38 t439.length co38, .slice Ao42 t442.length co42, .slice Ao43 t445.length co43] 60 (0, 0)) (by (with_reducible repeat first | apply bDn | apply bDr | apply bAl); exact BK448.out)) : gb448 ≠ gb467)); have n23_ := AsZ.mk ((by rw [hg]; exact Nat.ne_of_gt (bLt (g := gb448) (o := .cells #[.slice Ao38 t439.length co38, .slice Ao42 t442.length co42, .slice Ao43 t445.length co43] 60 (0, 0)) (by (with_reducible repeat first | apply bDn | apply bDr | apply bAl); exact BK448.out)) : gb467 ≠ gb448)); clear HO_13; clear HO_14; clear HO_16; clear HO_21; clear HO_80; clear HO_433000; clear HO_433001; clear HO_433002; clear HO_449000; clear HO_449001; clear HO_449002; clear BK422; clear BK432; clear BK448; clear HB; have HO_13 := n0_; have HO_14 := n1_; have HO_16 := n2_; have HO_21 := n3_; have HO_80 := n4_; have HO_433000 := n5_; have HO_433001 := n6_; have HO_433002 := n7_; have HO_449000 := n8_; have HO_449001 := n9_; have HO_449002 := n10_; have BK422 := n11_; have BK432 := n12_; have BK448 := n13_; have HB := n14_; have BK467 := n15_; have GW467 := n16_; have GE467 := n17_; have NB422_467 := n18_; have NB467_422 := n19_; have NB432_467 := n20_; have NB467_432 := n21_; have NB448_467 := n22_; have NB467_448 := n23_; clear n0_ n1_ n2_ n3_ n4_ n5_ n6_ n7_ n8_ n9_ n10_ n11_ n12_ n13_ n14_ n15_ n16_ n17_ n18_ n19_ n20_ n21_ n22_ n23_; clear hb hbox hg; have hnb65 := NB467_422.out; have hnc65 := NB422_467.out; have hnb66 := NB467_432.out; have hnc66 := NB432_467.out; have hnb67 := NB467_448.out; have hnc67 := NB448_467.out; obtain ⟨hcz68_0, hcz68_1, hcz68_2⟩ := celN3 BK467.out; obtain ⟨hfz68_0, hfz68_1, hfz68_2⟩ := fzN3 BK467.out) | ((with_reducible refine gCa (f := 35) rfl ?_); refine gLl (some 89) rfl rfl Tryd.func35 (by kernel_rfl) rfl #[.agg #[.int .i64 ((rd_T50 t463 x82_3).f0), .int .i64 ((rd_T50 t463 x82_3).f1), .bool ((rd_T50 t463 x82_3).f2)], .int .i64 a1, .int .i64 a2] rfl (by (try simp only [List.map_toArray, List.map_cons, List.map_nil]); first | done | rfl | (simp only [List.length_drop, List.length_take]; rfl)) ?_; (with_reducible refine (spencelaw28_bytes.calls k3 ((rd_T50 t463 x82_3).f0) ((rd_T50 t463 x82_3).f1) ((rd_T50 t463 x82_3).f2) a1 a2 t468 t469 _ A63.out).mono ?_); rintro e w69 ⟨rfl, hb⟩; refine ⟨_, rfl, ?_⟩; have n0_ := AsZ.mk (Kd.R_below (by (with_reducible repeat (first | apply Kd.R_alloc | apply Kd.R_drewN | apply Kd.R_drew)); exact (Kd.R_mono (Kd.R_far (p := ⟨gb467, 2, none⟩) (Kd.R_far (p := ⟨gb467, 1, none⟩) (Kd.R_far (p := ⟨gb467, 0, none⟩) (Kd.R_types HO_13.out BK467.out (by decide)) (fun _ hk => hk.2) (.int .i64 ((rd_T50 t463 x82_3).f0))) (fun _ hk => hk.2) (.int .i64 ((rd_T50 t463 x82_3).f1))) (fun _ hk => hk.2) (.bool ((rd_T50 t463 x82_3).f2))) (fun _ h_ => h_.1))) hb); have n1_ := AsZ.mk (Kd.R_below (by (with_reducible repeat (first | apply Kd.R_alloc | apply Kd.R_drewN | apply Kd.R_drew)); exact (Kd.R_mono (Kd.R_far (p := ⟨gb467, 2, none⟩) (Kd.R_far (p := ⟨gb467, 1, none⟩) (Kd.R_far (p := ⟨gb467, 0, none⟩) (Kd.R_mono HO_14.out (fun k_ hk => (⟨hk, hk.2⟩ : _ ∧ k_ ≠ gb467))) (fun _ hk => hk.2) (.int .i64 ((rd_T50 t463 x82_3).f0))) (fun _ hk => hk.2) (.int .i64 ((rd_T50 t463 x82_3).f1))) (fun _ hk => hk.2) (.bool ((rd_T50 t463 x82_3).f2))) (fun _ h_ => h_.1))) hb); have n2_ := AsZ.mk (Kd.R_below (by (with_reducible repeat (first | apply Kd.R_alloc | apply Kd.R_drewN | apply Kd.R_drew)); exact (Kd.R_mono (Kd.R_far (p := ⟨gb467, 2, none⟩) (Kd.R_far (p := ⟨gb467, 1, none⟩) (Kd.R_far (p := ⟨gb467, 0, none⟩) (Kd.R_mono HO_16.out (fun k_ hk => (⟨hk, hk.2⟩ : _ ∧ k_ ≠ gb467))) (fun _ hk => hk.2) (.int .i64 ((rd_T50 t463 x82_3).f0))) (fun _ hk => hk.2) (.int .i64 ((rd_T50 t463 x82_3).f1))) (fun _ hk => hk.2) (.bool ((rd_T50 t463 x82_3).f2))) (fun _ h_ => h_.1))) hb); have n3_ := AsZ.mk (Kd.R_below (by (with_reducible repeat (first | apply Kd.R_alloc | apply Kd.R_drewN | apply Kd.R_drew)); exact (Kd.R_mono (Kd.R_far (p := ⟨gb467, 2, none⟩) (Kd.R_far (p := ⟨gb467, 1, none⟩) (Kd.R_far (p := ⟨gb467, 0, none⟩) (Kd.R_mono HO_21.out (fun k_ hk => (⟨hk, hk.2⟩ : _ ∧ k_ ≠ gb467))) (fun _ hk => hk.2) (.int .i64 ((rd_T50 t463 x82_3).f0))) (fun _ hk => hk.2) (.int .i64 ((rd_T50 t463 x82_3).f1))) (fun _ hk => hk.2) (.bool ((rd_T50 t463 x82_3).f2))) (fun _ h_ => h_.1))) hb); have n4_ := AsZ.mk (Kd.R_below (by (with_reducible repeat (first | apply Kd.R_alloc | apply Kd.R_drewN | apply Kd.R_drew)); exact (Kd.R_mono (Kd.R_far (p := ⟨gb467, 2, none⟩) (Kd.R_far (p := ⟨gb467, 1, none⟩) (Kd.R_far (p := ⟨gb467, 0, none⟩) (Kd.R_mono HO_80.out (fun k_ hk => (⟨hk, hk.2⟩ : _ ∧ k_ ≠ gb467))) (fun _ hk => hk.2) (.int .i64 ((rd_T50 t463 x82_3).f0))) (fun _ hk => hk.2) (.int .i64 ((rd_T50 t463 x82_3).f1))) (fun _ hk => hk.2) (.bool ((rd_T50 t463 x82_3).f2))) (fun _ h_ => h_.1))) hb); have n5_ := AsZ.mk (Kd.R_below (by (with_reducible repeat (first | apply Kd.R_alloc | apply Kd.R_drewN | apply Kd.R_drew)); exact (Kd.R_mono (Kd.R_far (p := ⟨gb467, 2, none⟩) (Kd.R_far (p := ⟨gb467, 1, none⟩) (Kd.R_far (p := ⟨gb467, 0, none⟩) (Kd.R_types HO_433000.out BK467.out (by decide)) (fun _ hk => hk.2) (.int .i64 ((rd_T50 t463 x82_3).f0))) (fun _ hk => hk.2) (.int .i64 ((rd_T50 t463 x82_3).f1))) (fun _ hk => hk.2) (.bool ((rd_T50 t463 x82_3).f2))) (fun _ h_ => h_.1))) hb); have n6_ := AsZ.mk (Kd.R_below (by (with_reducible repeat (first | apply Kd.R_alloc | apply Kd.R_drewN | apply Kd.R_drew)); exact (Kd.R_mono (Kd.R_far (p := ⟨gb467, 2, none⟩) (Kd.R_far (p := ⟨gb467, 1, none⟩) (Kd.R_far (p := ⟨gb467, 0, none⟩) (Kd.R_mono HO_433001.out (fun k_ hk => (⟨hk, hk.2⟩ : _ ∧ k_ ≠ gb467))) (fun _ hk => hk.2) (.int .i64 ((rd_T50 t463 x82_3).f0))) (fun _ hk => hk.2) (.int .i64 ((rd_T50 t463 x82_3).f1))) (fun _ hk => hk.2) (.bool ((rd_T50 t463 x82_3).f2))) (fun _ h_ => h_.1))) hb); have n7_ := AsZ.mk (Kd.R_below (by (with_reducible repeat (first | apply Kd.R_alloc | apply Kd.R_drewN | apply Kd.R_drew)); exact (Kd.R_mono (Kd.R_far (p := ⟨gb467, 2, none⟩) (Kd.R_far (p := ⟨gb467, 1, none⟩) (Kd.R_far (p := ⟨gb467, 0, none⟩) (Kd.R_mono HO_433002.out (fun k_ hk => (⟨hk, hk.2⟩ : _ ∧ k_ ≠ gb467))) (fun _ hk => hk.2) (.int .i64 ((rd_T50 t463 x82_3).f0))) (fun _ hk => hk.2) (.int .i64 ((rd_T50 t463 x82_3).f1))) (fun _ hk => hk.2) (.bool ((rd_T50 t463 x82_3).f2))) (fun _ h_ => h_.1))) hb); have n8_ := AsZ.mk (Kd.R_below (by (with_reducible repeat (first | apply Kd.R_alloc | apply Kd.R_drewN | apply Kd.R_drew)); exact (Kd.R_mono (Kd.R_far (p := ⟨gb467, 2, none⟩) (Kd.R_far (p := ⟨gb467, 1, none⟩) (Kd.R_far (p := ⟨gb467, 0, none⟩) (Kd.R_types HO_449000.out BK467.out (by decide)) (fun _ hk => hk.2) (.int .i64 ((rd_T50 t463 x82_3).f0))) (fun _ hk => hk.2) (.int .i64 ((rd_T50 t463 x82_3).f1))) (fun _ hk => hk.2) (.bool ((rd_T50 t463 x82_3).f2))) (fun _ h_ => h_.1))) hb); have n9_ := AsZ.mk (Kd.R_below (by (with_reducible repeat (first | apply Kd.R_alloc | apply Kd.R_drewN | apply Kd.R_drew)); exact (Kd.R_mono (Kd.R_far (p := ⟨gb467, 2, none⟩) (Kd.R_far (p := ⟨gb467, 1, none⟩) (Kd.R_far (p := ⟨gb467, 0, none⟩) (Kd.R_mono HO_449001.out (fun k_ hk => (⟨hk, hk.2⟩ : _ ∧ k_ ≠ gb467))) (fun _ hk => hk.2) (.int .i64 ((rd_T50 t463 x82_3).f0))) (fun _ hk => hk.2) (.int .i64 ((rd_T50 t463 x82_3).f1))) (fun _ hk => hk.2) (.bool ((rd_T50 t463 x82_3).f2))) (fun _ h_ => h_.1))) hb); have n10_ := AsZ.mk (Kd.R_below (by (with_reducible repeat (first | apply Kd.R_alloc | apply Kd.R_drewN | apply Kd.R_drew)); exact (Kd.R_mono (Kd.R_far (p := ⟨gb467, 2, none⟩) (Kd.R_far (p := ⟨gb467, 1, none⟩) (Kd.R_far (p := ⟨gb467, 0, none⟩) (Kd.R_mono HO_449002.out (fun k_ hk => (⟨hk, hk.2⟩ : _ ∧ k_ ≠ gb467))) (fun _ hk => hk.2) (.int .i64 ((rd_T50 t463 x82_3).f0))) (fun _ hk => hk.2) (.int .i64 ((rd_T50 t463 x82_3).f1))) (fun _ hk => hk.2) (.bool ((rd_T50 t463 x82_3).f2))) (fun _ h_ => h_.1))) hb); have n11_ := AsZ.mk (bBl (g := gb422) (o := .cells (Ag.agC .u64 65 t421) 27 (0, 0)) (by (with_reducible repeat first | apply bDn | apply bDr | apply bAl); (first | (with_reducible refine Ag.row_far ?_ NB422_467.out _) | refine bFr ?_ NB422_467.out _); (with_reducible repeat first | apply bDn | apply bDr | apply bAl); (first | (with_reducible refine Ag.row_far ?_ NB422_467.out _) | refine bFr ?_ NB422_467.out _); (with_reducible repeat first | apply bDn | apply bDr | apply bAl); (first | (with_reducible refine Ag.row_far ?_ NB422_467.out _) | refine bFr ?_ NB422_467.out _); (with_reducible repeat first | apply bDn | apply bDr | apply bAl); exact BK422.out) hb); have n12_ := AsZ.mk (bBl (g := gb432) (o := .cells #[.slice Ao26 t423.length co26, .slice Ao29 t426.length co29, .slice Ao30 t429.length co30] 60 (0, 0)) (by (with_reducible repeat first | apply bDn | apply bDr | apply bAl); (first | (with_reducible refine Ag.row_far ?_ NB432_467.out _) | refine bFr ?_ NB432_467.out _); (with_reducible repeat first | apply bDn | apply bDr | apply bAl); (first | (with_reducible refine Ag.row_far ?_ NB432_467.out _) | refine bFr ?_ NB432_467.out _); (with_reducible repeat first | apply bDn | apply bDr | apply bAl); (first | (with_reducible refine Ag.row_far ?_ NB432_467.out _) | refine bFr ?_ NB432_467.out _); (with_reducible repeat first | apply bDn | apply bDr | apply bAl); exact BK432.out) hb); have n13_ := AsZ.mk (bBl (g := gb448) (o := .cells #[.slice Ao38 t439.length co38, .slice Ao42 t442.length co42, .slice Ao43 t445.length co43] 60 (0, 0)) (by (with_reducible repeat first | apply bDn | apply bDr | apply bAl); (first | (with_reducible refine Ag.row_far ?_ NB448_467.out _) | refine bFr ?_ NB448_467.out _); (with_reducible repeat first | apply bDn | apply bDr | apply bAl); (first | (with_reducible refine Ag.row_far ?_ NB448_467.out _) | refine bFr ?_ NB448_467.out _); (with_reducible repeat first | apply bDn | apply bDr | apply bAl); (first | (with_reducible refine Ag.row_far ?_ NB448_467.out _) | refine bFr ?_ NB448_467.out _); (with_reducible repeat first | apply bDn | apply bDr | apply bAl); exact BK448.out) hb); have n14_ := AsZ.mk (bBl (g := gb467) (o := .cells #[.int .i64 ((rd_T50 t463 x82_3).f0), .int .i64 ((rd_T50 t463 x82_3).f1), .bool ((rd_T50 t463 x82_3).f2)] 50 (0, 0)) (by (with_reducible repeat first | apply bDn | apply bDr | apply bAl); refine bPu (cs := #[.int .i64 ((rd_T50 t463 x82_3).f0), .int .i64 ((rd_T50 t463 x82_3).f1), .bool false]) ?_ 2 _ rfl; (with_reducible repeat first | apply bDn | apply bDr | apply bAl); refine bPu (cs := #[.int .i64 ((rd_T50 t463 x82_3).f0), .int .i64 0, .bool false]) ?_ 1 _ rfl; (with_reducible repeat first | apply bDn | apply bDr | apply bAl); refine bPu (cs := #[.int .i64 0, .int .i64 0, .bool false]) ?_ 0 _ rfl; (with_reducible repeat first | apply bDn | apply bDr | apply bAl); exact BK467.out) hb); have n15_ := AsZ.mk (tBl (by repeat (first | (with_reducible first | exact HB.out | apply aBl | apply pBd | apply dBl | refine sBl ?_ GE422.out | refine Ag.row_below ?_ GE422.out | refine sBl ?_ GE432.out | refine Ag.row_below ?_ GE432.out | refine sBl ?_ GE448.out | refine Ag.row_below ?_ GE448.out | refine sBl ?_ GE467.out | refine Ag.row_below ?_ GE467.out) | exact HB.out)) hb); clear HO_13; clear HO_14; clear HO_16; clear HO_21; clear HO_80; clear HO_433000; clear HO_433001; clear HO_433002; clear HO_449000; clear HO_449001; clear HO_449002; clear BK422; clear BK432; clear BK448; clear BK467; clear HB; have HO_13 := n0_; have HO_14 := n1_; have HO_16 := n2_; have HO_21 := n3_; have HO_80 := n4_; have HO_433000 := n5_; have HO_433001 := n6_; have HO_433002 := n7_; have HO_449000 := n8_; have HO_449001 := n9_; have HO_449002 := n10_; have BK422 := n11_; have BK432 := n12_; have BK448 := n13_; have BK467 := n14_; have HB := n15_; clear n0_ n1_ n2_ n3_ n4_ n5_ n6_ n7_ n8_ n9_ n10_ n11_ n12_ n13_ n14_ n15_; (try clear hb); (try clear hb2); (try clear hk); (try clear hi)) | ((with_reducible refine gDs (N := 24) rfl ?_); (try (refine gate_guard (by rfl) ?_; dsimp only)); refine bEv ?hg (N := 24) ?hd (cs := #[.int .i64 0, .int .i64 0]) (t := 53) ?hr ?_; (case hd => rfl); (case hg => rfl); (case hr => first | (go_simp; done) | (go_simp; rfl)); intro gb470 hg w70 hbox hb; have n0_ := AsZ.mk (Kd.R_below (by (with_reducible repeat (first | apply Kd.R_alloc | apply Kd.R_drewN | apply Kd.R_drew)); exact HO_13.out) hb); have n1_ := AsZ.mk (Kd.R_below (by (with_reducible repeat (first | apply Kd.R_alloc | apply Kd.R_drewN | apply Kd.R_drew)); exact HO_14.out) hb); have n2_ := AsZ.mk (Kd.R_below (by (with_reducible repeat (first | apply Kd.R_alloc | apply Kd.R_drewN | apply Kd.R_drew)); exact HO_16.out) hb); have n3_ := AsZ.mk (Kd.R_below (by (with_reducible repeat (first | apply Kd.R_alloc | apply Kd.R_drewN | apply Kd.R_drew)); exact HO_21.out) hb); have n4_ := AsZ.mk (Kd.R_below (by (with_reducible repeat (first | apply Kd.R_alloc | apply Kd.R_drewN | apply Kd.R_drew)); exact HO_80.out) hb); have n5_ := AsZ.mk (Kd.R_below (by (with_reducible repeat (first | apply Kd.R_alloc | apply Kd.R_drewN | apply Kd.R_drew)); exact HO_433000.out) hb); have n6_ := AsZ.mk (Kd.R_below (by (with_reducible repeat (first | apply Kd.R_alloc | apply Kd.R_drewN | apply Kd.R_drew)); exact HO_433001.out) hb); have n7_ := AsZ.mk (Kd.R_below (by (with_reducible repeat (first | apply Kd.R_alloc | apply Kd.R_drewN | apply Kd.R_drew)); exact HO_433002.out) hb); have n8_ := AsZ.mk (Kd.R_below (by (with_reducible repeat (first | apply Kd.R_alloc | apply Kd.R_drewN | apply Kd.R_drew)); exact HO_449000.out) hb); have n9_ := AsZ.mk (Kd.R_below (by (with_reducible repeat (first | apply Kd.R_alloc | apply Kd.R_drewN | apply Kd.R_drew)); exact HO_449001.out) hb); have n10_ := AsZ.mk (Kd.R_below (by (with_reducible repeat (first | apply Kd.R_alloc | apply Kd.R_drewN | apply Kd.R_drew)); exact HO_449002.out) hb); have n11_ := AsZ.mk (bBl (g := gb422) (o := .cells (Ag.agC .u64 65 t421) 27 (0, 0)) (by (with_reducible repeat first | apply bDn | apply bDr | apply bAl); exact BK422.out) hb); have n12_ := AsZ.mk (bBl (g := gb432) (o := .cells #[.slice Ao26 t423.length co26, .slice Ao29 t426.length co29, .slice Ao30 t429.length co30] 60 (0, 0)) (by (with_reducible repeat first | apply bDn | apply bDr | apply bAl); exact BK432.out) hb); have n13_ := AsZ.mk (bBl (g := gb448) (o := .cells #[.slice Ao38 t439.length co38, .slice Ao42 t442.length co42, .slice Ao43 t445.length co43] 60 (0, 0)) (by (with_reducible repeat first | apply bDn | apply bDr | apply bAl); exact BK448.out) hb); have n14_ := AsZ.mk (bBl (g := gb467) (o := .cells #[.int .i64 ((rd_T50 t463 x82_3).f0), .int .i64 ((rd_T50 t463 x82_3).f1), .bool ((rd_T50 t463 x82_3).f2)] 50 (0, 0)) (by (with_reducible repeat first | apply bDn | apply bDr | apply bAl); exact BK467.out) hb); have n15_ := AsZ.mk (tBl (by repeat (first | (with_reducible first | exact HB.out | apply aBl | apply pBd | apply dBl | refine sBl ?_ GE422.out | refine Ag.row_below ?_ GE422.out | refine sBl ?_ GE432.out | refine Ag.row_below ?_ GE432.out | refine sBl ?_ GE448.out | refine Ag.row_below ?_ GE448.out | refine sBl ?_ GE467.out | refine Ag.row_below ?_ GE467.out) | exact HB.out)) hb); have n16_ := AsZ.mk (hbox); have n17_ := AsZ.mk ((by rw [hg]; exact (zBl (by repeat (first | (with_reducible first | exact HB.out | apply aBl | apply pBd | apply dBl | refine sBl ?_ GE422.out | refine Ag.row_below ?_ GE422.out | refine sBl ?_ GE432.out | refine Ag.row_below ?_ GE432.out | refine sBl ?_ GE448.out | refine Ag.row_below ?_ GE448.out | refine sBl ?_ GE467.out | refine Ag.row_below ?_ GE467.out) | exact HB.out))) : w.heap.size ≤ gb470)); have n18_ := AsZ.mk ((by rw [hg]; exact (zBl (by repeat (first | (with_reducible first | exact HB.out | apply aBl | apply pBd | apply dBl | refine sBl ?_ GE422.out | refine Ag.row_below ?_ GE422.out | refine sBl ?_ GE432.out | refine Ag.row_below ?_ GE432.out | refine sBl ?_ GE448.out | refine Ag.row_below ?_ GE448.out | refine sBl ?_ GE467.out | refine Ag.row_below ?_ GE467.out) | exact HB.out))) : w.heap.size ≤ gb470)); have n19_ := AsZ.mk ((by rw [hg]; exact Nat.ne_of_lt (bLt (g := gb422) (o := .cells (Ag.agC .u64 65 t421) 27 (0, 0)) (by (with_reducible repeat first | apply bDn | apply bDr | apply bAl); exact BK422.out)) : gb422 ≠ gb470)); have n20_ := AsZ.mk ((by rw [hg]; exact Nat.ne_of_gt (bLt (g := gb422) (o := .cells (Ag.agC .u64 65 t421) 27 (0, 0)) (by (with_reducible repeat first | apply bDn | apply bDr | apply bAl); exact BK422.out)) : gb470 ≠ gb422)); have n21_ := AsZ.mk ((by rw [hg]; exact Nat.ne_of_lt (bLt (g := gb432) (o := .cells #[.slice Ao26 t423.length co26, .slice Ao29 t426.length co29, .slice Ao30 t429.length co30] 60 (0, 0)) (by (with_reducible repeat first | apply bDn | apply bDr | apply bAl); exact BK432.out)) : gb432 ≠ gb470)); have n22_ := AsZ.mk ((by rw [hg]; exact Nat.ne_of_gt (bLt (g := gb432) (o := .cells #[.slice Ao26 t423.length co26, .slice Ao29 t426.length co29, .slice Ao30 t429.length co30] 60 (0, 0)) (by (with_reducible repeat first | apply bDn | apply bDr | apply bAl); exact BK432.out)) : gb470 ≠ gb432)); have n23_ := AsZ.mk ((by rw [hg]; exact Nat.ne_of_lt (bLt (g := gb448) (o := .cells #[.slice Ao38 t439.length co38, .slice Ao42 t442.length co42, .slice Ao43 t445.length co43] 60 (0, 0)) (by (with_reducible repeat first | apply bDn | apply bDr | apply bAl); exact BK448.out)) : gb448 ≠ gb470)); have n24_ := AsZ.mk ((by rw [hg]; exact Nat.ne_of_gt (bLt (g := gb448) (o := .cells #[.slice Ao38 t439.length co38, .slice Ao42 t442.length co42, .slice Ao43 t445.length co43] 60 (0, 0)) (by (with_reducible repeat first | apply bDn | apply bDr | apply bAl); exact BK448.out)) : gb470 ≠ gb448)); have n25_ := AsZ.mk ((by rw [hg]; exact Nat.ne_of_lt (bLt (g := gb467) (o := .cells #[.int .i64 ((rd_T50 t463 x82_3).f0), .int .i64 ((rd_T50 t463 x82_3).f1), .bool ((rd_T50 t463 x82_3).f2)] 50 (0, 0)) (by (with_reducible repeat first | apply bDn | apply bDr | apply bAl); exact BK467.out)) : gb467 ≠ gb470)); have n26_ := AsZ.mk ((by rw [hg]; exact Nat.ne_of_gt (bLt (g := gb467) (o := .cells #[.int .i64 ((rd_T50 t463 x82_3).f0), .int .i64 ((rd_T50 t463 x82_3).f1), .bool ((rd_T50 t463 x82_3).f2)] 50 (0, 0)) (by (with_reducible repeat first | apply bDn | apply bDr | apply bAl); exact BK467.out)) : gb470 ≠ gb467)); clear HO_13; clear HO_14; clear HO_16; clear HO_21; clear HO_80; clear HO_433000; clear HO_433001; clear HO_433002; clear HO_449000; clear HO_449001; clear HO_449002; clear BK422; clear BK432; clear BK448; clear BK467; clear HB; have HO_13 := n0_; have HO_14 := n1_; have HO_16 := n2_; have HO_21 := n3_; have HO_80 := n4_; have HO_433000 := n5_; have HO_433001 := n6_; have HO_433002 := n7_; have HO_449000 := n8_; have HO_449001 := n9_; have HO_449002 := n10_; have BK422 := n11_; have BK432 := n12_; have BK448 := n13_; have BK467 := n14_; have HB := n15_; have BK470 := n16_; have GW470 := n17_; have GE470 := n18_; have NB422_470 := n19_; have NB470_422 := n20_; have NB432_470 := n21_; have NB470_432 := n22_; have NB448_470 := n23_; have NB470_448 := n24_; have NB467_470 := n25_; have NB470_467 := n26_; clear n0_ n1_ n2_ n3_ n4_ n5_ n6_ n7_ n8_ n9_ n10_ n11_ n12_ n13_ n14_ n15_ n16_ n17_ n18_ n19_ n20_ n21_ n22_ n23_ n24_ n25_ n26_; clear hb hbox hg; have hnb71 := NB470_422.out; have hnc71 := NB422_470.out; have hnb72 := NB470_432.out; have hnc72 := NB432_470.out; have hnb73 := NB470_448.out; have hnc73 := NB448_470.out; have hnb74 := NB470_467.out; have hnc74 := NB467_470.out; obtain ⟨hcz75_0, hcz75_1⟩ := celN2 BK470.out; obtain ⟨hfz75_0, hfz75_1⟩ := fzN2 BK470.out))
                              go_roundg k3
                              case measure => have := HJ7.out; have := HK2.out; have := HK3.out; omega
                              case rel => exact ⟨(wrap64 (x20_3 + (wrap64 (t469 - t468)))), (wrap64 (x82_3 + 1)), (by first | rfl | (simp; done) | (simp [*]; done)), (by first | rfl | (simp; done) | (simp [*]; done)), H', ⟨by have := HJ7.out; have := HK2.out; have := HK3.out; omega⟩, ⟨by (with_reducible repeat (first | apply Kd.R_alloc | apply Kd.R_drewN | apply Kd.R_drew)); exact Kd.R_mono (Kd.R_far (p := ⟨gb470, 1, none⟩) (Kd.R_far (p := ⟨gb470, 0, none⟩) (Kd.R_types HO_13.out BK470.out (by decide)) (fun _ hk => hk.2) (.int .i64 t468)) (fun _ hk => hk.2) (.int .i64 t469)) (fun _ hk => ⟨hk.1.1, hk.1.2⟩)⟩, ⟨by (with_reducible repeat (first | apply Kd.R_alloc | apply Kd.R_drewN | apply Kd.R_drew)); exact Kd.R_mono (Kd.R_far (p := ⟨gb470, 1, none⟩) (Kd.R_far (p := ⟨gb470, 0, none⟩) (Kd.R_types HO_14.out BK470.out (by decide)) (fun _ hk => hk.2) (.int .i64 t468)) (fun _ hk => hk.2) (.int .i64 t469)) (fun _ hk => ⟨hk.1.1.1, ⟨hk.1.1.2.1, ⟨hk.1.1.2.2.1, ⟨hk.1.1.2.2.2.1, ⟨hk.1.1.2.2.2.2.1, ⟨hk.1.1.2.2.2.2.2.1, hk.1.1.2.2.2.2.2.2⟩⟩⟩⟩⟩⟩)⟩, ⟨by (with_reducible repeat (first | apply Kd.R_alloc | apply Kd.R_drewN | apply Kd.R_drew)); exact Kd.R_mono (Kd.R_far (p := ⟨gb470, 1, none⟩) (Kd.R_far (p := ⟨gb470, 0, none⟩) (Kd.R_types HO_16.out BK470.out (by decide)) (fun _ hk => hk.2) (.int .i64 t468)) (fun _ hk => hk.2) (.int .i64 t469)) (fun _ hk => ⟨hk.1.1.1, ⟨hk.1.1.2.1, ⟨hk.1.1.2.2.1, ⟨hk.1.1.2.2.2.1, ⟨hk.1.1.2.2.2.2.1, ⟨hk.1.1.2.2.2.2.2.1, hk.1.1.2.2.2.2.2.2⟩⟩⟩⟩⟩⟩)⟩, ⟨by (with_reducible repeat (first | apply Kd.R_alloc | apply Kd.R_drewN | apply Kd.R_drew)); exact Kd.R_mono (Kd.R_far (p := ⟨gb470, 1, none⟩) (Kd.R_far (p := ⟨gb470, 0, none⟩) (Kd.R_types HO_21.out BK470.out (by decide)) (fun _ hk => hk.2) (.int .i64 t468)) (fun _ hk => hk.2) (.int .i64 t469)) (fun _ hk => ⟨hk.1.1.1, ⟨hk.1.1.2.1, ⟨hk.1.1.2.2.1, ⟨hk.1.1.2.2.2.1, ⟨hk.1.1.2.2.2.2.1, hk.1.1.2.2.2.2.2⟩⟩⟩⟩⟩)⟩, ⟨by (with_reducible repeat (first | apply Kd.R_alloc | apply Kd.R_drewN | apply Kd.R_drew)); exact Kd.R_mono (Kd.R_far (p := ⟨gb470, 1, none⟩) (Kd.R_far (p := ⟨gb470, 0, none⟩) (Kd.R_types HO_80.out BK470.out (by decide)) (fun _ hk => hk.2) (.int .i64 t468)) (fun _ hk => hk.2) (.int .i64 t469)) (fun _ hk => ⟨hk.1.1.1, ⟨hk.1.1.2.1, ⟨hk.1.1.2.2.1, ⟨hk.1.1.2.2.2.1, ⟨hk.1.1.2.2.2.2.1, hk.1.1.2.2.2.2.2⟩⟩⟩⟩⟩)⟩, ⟨by (with_reducible repeat (first | apply Kd.R_alloc | apply Kd.R_drewN | apply Kd.R_drew)); exact Kd.R_mono (Kd.R_far (p := ⟨gb470, 1, none⟩) (Kd.R_far (p := ⟨gb470, 0, none⟩) (Kd.R_types HO_433000.out BK470.out (by decide)) (fun _ hk => hk.2) (.int .i64 t468)) (fun _ hk => hk.2) (.int .i64 t469)) (fun _ hk => ⟨hk.1.1, hk.1.2⟩)⟩, ⟨by (with_reducible repeat (first | apply Kd.R_alloc | apply Kd.R_drewN | apply Kd.R_drew)); exact Kd.R_mono (Kd.R_far (p := ⟨gb470, 1, none⟩) (Kd.R_far (p := ⟨gb470, 0, none⟩) (Kd.R_types HO_433001.out BK470.out (by decide)) (fun _ hk => hk.2) (.int .i64 t468)) (fun _ hk => hk.2) (.int .i64 t469)) (fun _ hk => ⟨hk.1.1.1, ⟨hk.1.1.2.1, ⟨hk.1.1.2.2.1, ⟨hk.1.1.2.2.2.1, ⟨hk.1.1.2.2.2.2.1, ⟨hk.1.1.2.2.2.2.2.1, hk.1.1.2.2.2.2.2.2⟩⟩⟩⟩⟩⟩)⟩, ⟨by (with_reducible repeat (first | apply Kd.R_alloc | apply Kd.R_drewN | apply Kd.R_drew)); exact Kd.R_mono (Kd.R_far (p := ⟨gb470, 1, none⟩) (Kd.R_far (p := ⟨gb470, 0, none⟩) (Kd.R_types HO_433002.out BK470.out (by decide)) (fun _ hk => hk.2) (.int .i64 t468)) (fun _ hk => hk.2) (.int .i64 t469)) (fun _ hk => ⟨hk.1.1.1, ⟨hk.1.1.2.1, ⟨hk.1.1.2.2.1, ⟨hk.1.1.2.2.2.1, ⟨hk.1.1.2.2.2.2.1, ⟨hk.1.1.2.2.2.2.2.1, hk.1.1.2.2.2.2.2.2⟩⟩⟩⟩⟩⟩)⟩, ⟨by (with_reducible repeat (first | apply Kd.R_alloc | apply Kd.R_drewN | apply Kd.R_drew)); exact Kd.R_mono (Kd.R_far (p := ⟨gb470, 1, none⟩) (Kd.R_far (p := ⟨gb470, 0, none⟩) (Kd.R_types HO_449000.out BK470.out (by decide)) (fun _ hk => hk.2) (.int .i64 t468)) (fun _ hk => hk.2) (.int .i64 t469)) (fun _ hk => ⟨hk.1.1, hk.1.2⟩)⟩, ⟨by (with_reducible repeat (first | apply Kd.R_alloc | apply Kd.R_drewN | apply Kd.R_drew)); exact Kd.R_mono (Kd.R_far (p := ⟨gb470, 1, none⟩) (Kd.R_far (p := ⟨gb470, 0, none⟩) (Kd.R_types HO_449001.out BK470.out (by decide)) (fun _ hk => hk.2) (.int .i64 t468)) (fun _ hk => hk.2) (.int .i64 t469)) (fun _ hk => ⟨hk.1.1.1, ⟨hk.1.1.2.1, ⟨hk.1.1.2.2.1, ⟨hk.1.1.2.2.2.1, ⟨hk.1.1.2.2.2.2.1, ⟨hk.1.1.2.2.2.2.2.1, hk.1.1.2.2.2.2.2.2⟩⟩⟩⟩⟩⟩)⟩, ⟨by (with_reducible repeat (first | apply Kd.R_alloc | apply Kd.R_drewN | apply Kd.R_drew)); exact Kd.R_mono (Kd.R_far (p := ⟨gb470, 1, none⟩) (Kd.R_far (p := ⟨gb470, 0, none⟩) (Kd.R_types HO_449002.out BK470.out (by decide)) (fun _ hk => hk.2) (.int .i64 t468)) (fun _ hk => hk.2) (.int .i64 t469)) (fun _ hk => ⟨hk.1.1.1, ⟨hk.1.1.2.1, ⟨hk.1.1.2.2.1, ⟨hk.1.1.2.2.2.1, ⟨hk.1.1.2.2.2.2.1, ⟨hk.1.1.2.2.2.2.2.1, hk.1.1.2.2.2.2.2.2⟩⟩⟩⟩⟩⟩)⟩, ⟨by (with_reducible repeat first | apply bDn | apply bDr | apply bAl); (first | (with_reducible refine Ag.row_far ?_ NB422_470.out _) | refine bFr ?_ NB422_470.out _); (with_reducible repeat first | apply bDn | apply bDr | apply bAl); (first | (with_reducible refine Ag.row_far ?_ NB422_470.out _) | refine bFr ?_ NB422_470.out _); (with_reducible repeat first | apply bDn | apply bDr | apply bAl); exact BK422.out⟩, ⟨by (with_reducible repeat first | apply bDn | apply bDr | apply bAl); (first | (with_reducible refine Ag.row_far ?_ NB432_470.out _) | refine bFr ?_ NB432_470.out _); (with_reducible repeat first | apply bDn | apply bDr | apply bAl); (first | (with_reducible refine Ag.row_far ?_ NB432_470.out _) | refine bFr ?_ NB432_470.out _); (with_reducible repeat first | apply bDn | apply bDr | apply bAl); exact BK432.out⟩, ⟨by (with_reducible repeat first | apply bDn | apply bDr | apply bAl); (first | (with_reducible refine Ag.row_far ?_ NB448_470.out _) | refine bFr ?_ NB448_470.out _); (with_reducible repeat first | apply bDn | apply bDr | apply bAl); (first | (with_reducible refine Ag.row_far ?_ NB448_470.out _) | refine bFr ?_ NB448_470.out _); (with_reducible repeat first | apply bDn | apply bDr | apply bAl); exact BK448.out⟩, ⟨by repeat (first | (with_reducible first | exact HB.out | apply aBl | apply pBd | apply dBl | refine sBl ?_ GE422.out | refine Ag.row_below ?_ GE422.out | refine sBl ?_ GE432.out | refine Ag.row_below ?_ GE432.out | refine sBl ?_ GE448.out | refine Ag.row_below ?_ GE448.out | refine sBl ?_ GE467.out | refine Ag.row_below ?_ GE467.out | refine sBl ?_ GE470.out | refine Ag.row_below ?_ GE470.out) | exact HB.out)⟩⟩
                            · rw [if_neg c62] at H
                              exact absurd H (by simp)
                          · rw [if_neg c61] at H
                            exact absurd H (by simp)
                        · rw [if_neg c60] at H
                          have c60b0 : decide (x82_3 < (t463.length : Int)) = false := decide_eq_false c60
                          clear c60
                          replace H := Option.bind_eq_some_iff.mp H
                          obtain ⟨t471, A760, H⟩ := H
                          replace H : (if t471 = true then ((spenceref24_Runs.f k3 t426 t436).bind fun t472 => (if t472 = true then ((spenceref24_Runs.f k3 t429 t463).bind fun t473 => (if t473 = true then ((spenceref24_Missing.f k3 t455).bind fun t474 => ((spenceref24_Cap.f k3 t474 8).bind fun t477 => ((spenceref24_Runs.f k3 t445 t477).bind fun t480 => (if t480 = true then ((spenceref01_Ints.f k3 t439 t433).bind fun t481 => (if t481 = true then ((plan_Ready.f t423 t426 t429 t421).bind fun t482 => (if (t482 == x17_2) = true then ((plan_Steps.f t423 t426 t429).bind fun t483 => (if t483 = (t463.length : Int) then ((plan_Cost.f t423 t426 t429 a1 a2).bind fun t484 => (some (t484 == x20_3))) else (some false))) else (some false))) else (some false))) else (some false))))) else (some false))) else (some false))) else (some false)) = some r := H
                          have A76 := AsZ.mk A760
                          clear A760
                          by_cases c77 : t471 = true
                          · subst c77
                            have H1 : ((spenceref24_Runs.f k3 t426 t436).bind fun t472 => (if t472 = true then ((spenceref24_Runs.f k3 t429 t463).bind fun t473 => (if t473 = true then ((spenceref24_Missing.f k3 t455).bind fun t474 => ((spenceref24_Cap.f k3 t474 8).bind fun t477 => ((spenceref24_Runs.f k3 t445 t477).bind fun t480 => (if t480 = true then ((spenceref01_Ints.f k3 t439 t433).bind fun t481 => (if t481 = true then ((plan_Ready.f t423 t426 t429 t421).bind fun t482 => (if (t482 == x17_2) = true then ((plan_Steps.f t423 t426 t429).bind fun t483 => (if t483 = (t463.length : Int) then ((plan_Cost.f t423 t426 t429 a1 a2).bind fun t484 => (some (t484 == x20_3))) else (some false))) else (some false))) else (some false))) else (some false))))) else (some false))) else (some false))) = some r := by rw [if_pos rfl] at H; exact H
                            clear H
                            have H := H1
                            clear H1
                            replace H := Option.bind_eq_some_iff.mp H
                            obtain ⟨t472, A780, H⟩ := H
                            replace H : (if t472 = true then ((spenceref24_Runs.f k3 t429 t463).bind fun t473 => (if t473 = true then ((spenceref24_Missing.f k3 t455).bind fun t474 => ((spenceref24_Cap.f k3 t474 8).bind fun t477 => ((spenceref24_Runs.f k3 t445 t477).bind fun t480 => (if t480 = true then ((spenceref01_Ints.f k3 t439 t433).bind fun t481 => (if t481 = true then ((plan_Ready.f t423 t426 t429 t421).bind fun t482 => (if (t482 == x17_2) = true then ((plan_Steps.f t423 t426 t429).bind fun t483 => (if t483 = (t463.length : Int) then ((plan_Cost.f t423 t426 t429 a1 a2).bind fun t484 => (some (t484 == x20_3))) else (some false))) else (some false))) else (some false))) else (some false))))) else (some false))) else (some false)) = some r := H
                            have A78 := AsZ.mk A780
                            clear A780
                            by_cases c79 : t472 = true
                            · subst c79
                              have H1 : ((spenceref24_Runs.f k3 t429 t463).bind fun t473 => (if t473 = true then ((spenceref24_Missing.f k3 t455).bind fun t474 => ((spenceref24_Cap.f k3 t474 8).bind fun t477 => ((spenceref24_Runs.f k3 t445 t477).bind fun t480 => (if t480 = true then ((spenceref01_Ints.f k3 t439 t433).bind fun t481 => (if t481 = true then ((plan_Ready.f t423 t426 t429 t421).bind fun t482 => (if (t482 == x17_2) = true then ((plan_Steps.f t423 t426 t429).bind fun t483 => (if t483 = (t463.length : Int) then ((plan_Cost.f t423 t426 t429 a1 a2).bind fun t484 => (some (t484 == x20_3))) else (some false))) else (some false))) else (some false))) else (some false))))) else (some false))) = some r := by rw [if_pos rfl] at H; exact H
                              clear H
                              have H := H1
                              clear H1
                              replace H := Option.bind_eq_some_iff.mp H
                              obtain ⟨t473, A800, H⟩ := H
                              replace H : (if t473 = true then ((spenceref24_Missing.f k3 t455).bind fun t474 => ((spenceref24_Cap.f k3 t474 8).bind fun t477 => ((spenceref24_Runs.f k3 t445 t477).bind fun t480 => (if t480 = true then ((spenceref01_Ints.f k3 t439 t433).bind fun t481 => (if t481 = true then ((plan_Ready.f t423 t426 t429 t421).bind fun t482 => (if (t482 == x17_2) = true then ((plan_Steps.f t423 t426 t429).bind fun t483 => (if t483 = (t463.length : Int) then ((plan_Cost.f t423 t426 t429 a1 a2).bind fun t484 => (some (t484 == x20_3))) else (some false))) else (some false))) else (some false))) else (some false))))) else (some false)) = some r := H
                              have A80 := AsZ.mk A800
                              clear A800
                              by_cases c81 : t473 = true
                              · subst c81
                                have H1 : ((spenceref24_Missing.f k3 t455).bind fun t474 => ((spenceref24_Cap.f k3 t474 8).bind fun t477 => ((spenceref24_Runs.f k3 t445 t477).bind fun t480 => (if t480 = true then ((spenceref01_Ints.f k3 t439 t433).bind fun t481 => (if t481 = true then ((plan_Ready.f t423 t426 t429 t421).bind fun t482 => (if (t482 == x17_2) = true then ((plan_Steps.f t423 t426 t429).bind fun t483 => (if t483 = (t463.length : Int) then ((plan_Cost.f t423 t426 t429 a1 a2).bind fun t484 => (some (t484 == x20_3))) else (some false))) else (some false))) else (some false))) else (some false))))) = some r := by rw [if_pos rfl] at H; exact H
                                clear H
                                have H := H1
                                clear H1
                                replace H := Option.bind_eq_some_iff.mp H
                                obtain ⟨t474, A820, H⟩ := H
                                replace H : ((spenceref24_Cap.f k3 t474 8).bind fun t477 => ((spenceref24_Runs.f k3 t445 t477).bind fun t480 => (if t480 = true then ((spenceref01_Ints.f k3 t439 t433).bind fun t481 => (if t481 = true then ((plan_Ready.f t423 t426 t429 t421).bind fun t482 => (if (t482 == x17_2) = true then ((plan_Steps.f t423 t426 t429).bind fun t483 => (if t483 = (t463.length : Int) then ((plan_Cost.f t423 t426 t429 a1 a2).bind fun t484 => (some (t484 == x20_3))) else (some false))) else (some false))) else (some false))) else (some false)))) = some r := H
                                have A82 := AsZ.mk A820
                                clear A820
                                replace H := Option.bind_eq_some_iff.mp H
                                obtain ⟨t477, A830, H⟩ := H
                                replace H : ((spenceref24_Runs.f k3 t445 t477).bind fun t480 => (if t480 = true then ((spenceref01_Ints.f k3 t439 t433).bind fun t481 => (if t481 = true then ((plan_Ready.f t423 t426 t429 t421).bind fun t482 => (if (t482 == x17_2) = true then ((plan_Steps.f t423 t426 t429).bind fun t483 => (if t483 = (t463.length : Int) then ((plan_Cost.f t423 t426 t429 a1 a2).bind fun t484 => (some (t484 == x20_3))) else (some false))) else (some false))) else (some false))) else (some false))) = some r := H
                                have A83 := AsZ.mk A830
                                clear A830
                                replace H := Option.bind_eq_some_iff.mp H
                                obtain ⟨t480, A840, H⟩ := H
                                replace H : (if t480 = true then ((spenceref01_Ints.f k3 t439 t433).bind fun t481 => (if t481 = true then ((plan_Ready.f t423 t426 t429 t421).bind fun t482 => (if (t482 == x17_2) = true then ((plan_Steps.f t423 t426 t429).bind fun t483 => (if t483 = (t463.length : Int) then ((plan_Cost.f t423 t426 t429 a1 a2).bind fun t484 => (some (t484 == x20_3))) else (some false))) else (some false))) else (some false))) else (some false)) = some r := H
                                have A84 := AsZ.mk A840
                                clear A840
                                by_cases c85 : t480 = true
                                · subst c85
                                  have H1 : ((spenceref01_Ints.f k3 t439 t433).bind fun t481 => (if t481 = true then ((plan_Ready.f t423 t426 t429 t421).bind fun t482 => (if (t482 == x17_2) = true then ((plan_Steps.f t423 t426 t429).bind fun t483 => (if t483 = (t463.length : Int) then ((plan_Cost.f t423 t426 t429 a1 a2).bind fun t484 => (some (t484 == x20_3))) else (some false))) else (some false))) else (some false))) = some r := by rw [if_pos rfl] at H; exact H
                                  clear H
                                  have H := H1
                                  clear H1
                                  replace H := Option.bind_eq_some_iff.mp H
                                  obtain ⟨t481, A860, H⟩ := H
                                  replace H : (if t481 = true then ((plan_Ready.f t423 t426 t429 t421).bind fun t482 => (if (t482 == x17_2) = true then ((plan_Steps.f t423 t426 t429).bind fun t483 => (if t483 = (t463.length : Int) then ((plan_Cost.f t423 t426 t429 a1 a2).bind fun t484 => (some (t484 == x20_3))) else (some false))) else (some false))) else (some false)) = some r := H
                                  have A86 := AsZ.mk A860
                                  clear A860
                                  by_cases c87 : t481 = true
                                  · subst c87
                                    have H1 : ((plan_Ready.f t423 t426 t429 t421).bind fun t482 => (if (t482 == x17_2) = true then ((plan_Steps.f t423 t426 t429).bind fun t483 => (if t483 = (t463.length : Int) then ((plan_Cost.f t423 t426 t429 a1 a2).bind fun t484 => (some (t484 == x20_3))) else (some false))) else (some false))) = some r := by rw [if_pos rfl] at H; exact H
                                    clear H
                                    have H := H1
                                    clear H1
                                    replace H := Option.bind_eq_some_iff.mp H
                                    obtain ⟨t482, A880, H⟩ := H
                                    replace H : (if (t482 == x17_2) = true then ((plan_Steps.f t423 t426 t429).bind fun t483 => (if t483 = (t463.length : Int) then ((plan_Cost.f t423 t426 t429 a1 a2).bind fun t484 => (some (t484 == x20_3))) else (some false))) else (some false)) = some r := H
                                    have A88 := AsZ.mk A880
                                    clear A880
                                    by_cases c89 : (t482 == x17_2) = true
                                    · rw [if_pos c89] at H
                                      have c89b0 : (t482 == x17_2) = true := c89
                                      (try (have c89b1 : decide (t482 = x17_2) = true := by simpa using c89))
                                      (try (have c89b2 : (t482 == x17_2) = true := by simpa using c89))
                                      clear c89
                                      replace H := Option.bind_eq_some_iff.mp H
                                      obtain ⟨t483, A900, H⟩ := H
                                      replace H : (if t483 = (t463.length : Int) then ((plan_Cost.f t423 t426 t429 a1 a2).bind fun t484 => (some (t484 == x20_3))) else (some false)) = some r := H
                                      have A90 := AsZ.mk A900
                                      clear A900
                                      by_cases c91 : t483 = (t463.length : Int)
                                      · rw [if_pos c91] at H
                                        have c91b0 : (t483 == (t463.length : Int)) = true := beq_iff_eq.mpr c91
                                        have c91b1 : (t483 != (t463.length : Int)) = false := bne_eq_false_iff_eq.mpr c91
                                        clear c91
                                        replace H := Option.bind_eq_some_iff.mp H
                                        obtain ⟨t484, A920, H⟩ := H
                                        replace H : (some (t484 == x20_3)) = some r := H
                                        have A92 := AsZ.mk A920
                                        clear A920
                                        obtain rfl := Option.some.inj H
                                        try go_wp2
                                        have n0_ := AsZ.mk (Kd.R_drew HO_13.out)
                                        have n1_ := AsZ.mk (Kd.R_drew HO_14.out)
                                        have n2_ := AsZ.mk (Kd.R_drew HO_16.out)
                                        have n3_ := AsZ.mk (Kd.R_drew HO_21.out)
                                        have n4_ := AsZ.mk (Kd.R_drew HO_80.out)
                                        have n5_ := AsZ.mk (Kd.R_drew HO_433000.out)
                                        have n6_ := AsZ.mk (Kd.R_drew HO_433001.out)
                                        have n7_ := AsZ.mk (Kd.R_drew HO_433002.out)
                                        have n8_ := AsZ.mk (Kd.R_drew HO_449000.out)
                                        have n9_ := AsZ.mk (Kd.R_drew HO_449001.out)
                                        have n10_ := AsZ.mk (Kd.R_drew HO_449002.out)
                                        have n11_ := AsZ.mk (bDr BK422.out)
                                        have n12_ := AsZ.mk (bDr BK432.out)
                                        have n13_ := AsZ.mk (bDr BK448.out)
                                        have n14_ := AsZ.mk (dBl HB.out)
                                        clear HO_13
                                        clear HO_14
                                        clear HO_16
                                        clear HO_21
                                        clear HO_80
                                        clear HO_433000
                                        clear HO_433001
                                        clear HO_433002
                                        clear HO_449000
                                        clear HO_449001
                                        clear HO_449002
                                        clear BK422
                                        clear BK432
                                        clear BK448
                                        clear HB
                                        have HO_13 := n0_
                                        have HO_14 := n1_
                                        have HO_16 := n2_
                                        have HO_21 := n3_
                                        have HO_80 := n4_
                                        have HO_433000 := n5_
                                        have HO_433001 := n6_
                                        have HO_433002 := n7_
                                        have HO_449000 := n8_
                                        have HO_449001 := n9_
                                        have HO_449002 := n10_
                                        have BK422 := n11_
                                        have BK432 := n12_
                                        have BK448 := n13_
                                        have HB := n14_
                                        clear n0_ n1_ n2_ n3_ n4_ n5_ n6_ n7_ n8_ n9_ n10_ n11_ n12_ n13_ n14_
                                        refine start_ (n := 53) (S := fun w' => w'.cell? ⟨gb432, 0, none⟩ = some (.slice Ao26 t423.length co26) ∧ w'.cell? ⟨gb432, 1, none⟩ = some (.slice Ao29 t426.length co29) ∧ w'.cell? ⟨gb432, 2, none⟩ = some (.slice Ao30 t429.length co30) ∧ w'.cell? ⟨gb448, 0, none⟩ = some (.slice Ao38 t439.length co38) ∧ w'.cell? ⟨gb448, 1, none⟩ = some (.slice Ao42 t442.length co42) ∧ w'.cell? ⟨gb448, 2, none⟩ = some (.slice Ao43 t445.length co43) ∧ (Ag.ldMap (.pointer (some ⟨gb422, 0, none⟩))).run Tryd.prog w' = .ok (.agg (Ag.agC .u64 65 t421)) w') (ds := []) #[false, false, false, false, false, false, false, false, false, false, false, false, false, false, false, false, false, false, false, false, false, false, false, false, false, false, false, false, false, false, false, false, false, false, false, false, false, false, false, false, false, false, false, false, false, false, false, false, false, false, false, false, false] (by kernel_rfl) rfl rfl ⟨(bCe BK432.out 0).trans rfl, (bCe BK432.out 1).trans rfl, (bCe BK432.out 2).trans rfl, (bCe BK448.out 0).trans rfl, (bCe BK448.out 1).trans rfl, (bCe BK448.out 2).trans rfl, Ag.ldMap_run BK422.out⟩ (fun hHeld => ?_); refine with_tabW spencelaw28_PlanMakes.tab25 spencelaw28_PlanMakes.bits25 (fun HT_ HW_ => ?_)
                                        generalize wr.drew = w93 at HO_13 HO_14 HO_16 HO_21 HO_80 HO_433000 HO_433001 HO_433002 HO_449000 HO_449001 HO_449002 BK422 BK432 BK448 HB hHeld ⊢
                                        refine pure_ (i := 0) (N := some 98) (v := ?_) (a' := ?_) #[true, false, false, false, false, false, false, false, false, false, false, false, false, false, false, false, false, false, false, false, false, false, false, false, false, false, false, false, false, false, false, false, false, false, false, false, false, false, false, false, false, false, false, false, false, false, false, false, false, false, false, false, false] rfl rfl (any_of HT_.out (by kernel_rfl)) (fun _ _ _ h => h) (Or.inl ⟨by rfl, ?_⟩) ?_ ?_
                                        rotate_left
                                        · intro w'
                                          go_simp
                                          with_reducible rfl
                                        rotate_left
                                        · simp only [Act.put, List.setIfInBounds_toArray, List.set_cons_zero, List.set_cons_succ, i64_w, i32_w]
                                          rfl
                                        refine pure_ (i := 2) (N := some 100) (v := ?_) (a' := ?_) #[true, false, true, false, false, false, false, false, false, false, false, false, false, false, false, false, false, false, false, false, false, false, false, false, false, false, false, false, false, false, false, false, false, false, false, false, false, false, false, false, false, false, false, false, false, false, false, false, false, false, false, false, false] rfl rfl (any_of HT_.out (by kernel_rfl)) (fun _ _ _ h => h) (Or.inl ⟨by rfl, ?_⟩) ?_ ?_
                                        rotate_left
                                        · intro w'
                                          go_simp
                                          with_reducible rfl
                                        rotate_left
                                        · simp only [Act.put, List.setIfInBounds_toArray, List.set_cons_zero, List.set_cons_succ, i64_w, i32_w]
                                          rfl
                                        refine take_ (i := 1) (N := some 99) (v := ?_) (a' := ?_) #[true, true, true, false, false, false, false, false, false, false, false, false, false, false, false, false, false, false, false, false, false, false, false, false, false, false, false, false, false, false, false, false, false, false, false, false, false, false, false, false, false, false, false, false, false, false, false, false, false, false, false, false, false] rfl rfl (take_ofW HT_.out HW_.out (by kernel_rfl)) (fun _ _ _ h => h) (Or.inl ⟨by rfl, ?_⟩) hHeld ?_ ?_
                                        rotate_left
                                        · rintro w' ⟨s0, s1, s2, s3, s4, s5, s6⟩
                                          go_simp
                                          with_reducible rfl
                                        rotate_left
                                        · simp only [Act.put, List.setIfInBounds_toArray, List.set_cons_zero, List.set_cons_succ, i64_w, i32_w]
                                          rfl
                                        refine one_ (i := 3) (N := some 101) #[true, true, true, true, false, false, false, false, false, false, false, false, false, false, false, false, false, false, false, false, false, false, false, false, false, false, false, false, false, false, false, false, false, false, false, false, false, false, false, false, false, false, false, false, false, false, false, false, false, false, false, false, false] rfl rfl (one_of HT_.out (by kernel_rfl)) (by decide) (fun K hK => ?_)
                                        refine goes_ Tryd.func14 (by kernel_rfl) rfl #[.slice Ao26 t423.length co26, .slice Ao32 t433.length co32] (by rfl) rfl rfl (by (try simp only [List.map_toArray, List.map_cons, List.map_nil]); first | done | rfl | (simp only [List.length_drop, List.length_take]; rfl)) ?_
                                        with_reducible refine (spenceref01_Ints.calls k3 _ _ t423 _ _ t433 true _ ?side1 ?side2 ?side3 ?side4 A76.out).mono ?_
                                        (case side1 => repeat (first | exact (Kd.R_reads' HO_433000.out).2.2 | (with_reducible refine Kd.C_alloc ?_ _) | (with_reducible refine Kd.C_drewN ?_ _) | (with_reducible refine Kd.C_drew ?_)))
                                        (case side2 => exact (Kd.R_reads' HO_433000.out).2.1)
                                        (case side3 => repeat (first | exact (Kd.R_reads' HO_13.out).2.2 | (with_reducible refine Kd.C_alloc ?_ _) | (with_reducible refine Kd.C_drewN ?_ _) | (with_reducible refine Kd.C_drew ?_)))
                                        (case side4 => exact (Kd.R_reads' HO_13.out).2.1)
                                        rintro e w' ⟨rfl, ⟨nd, rfl⟩⟩
                                        refine ⟨_, rfl, ?_⟩
                                        refine hK.out _ _ ⟨(bCe BK432.out 0).trans rfl, (bCe BK432.out 1).trans rfl, (bCe BK432.out 2).trans rfl, (bCe BK448.out 0).trans rfl, (bCe BK448.out 1).trans rfl, (bCe BK448.out 2).trans rfl, Ag.ldMap_run BK422.out⟩ (fun hHeld => ?_)
                                        clear hK K
                                        refine norm_ (a' := ?_) ?_ ?_
                                        rotate_left
                                        · show Act.put _ (some 101) _ = _
                                          simp only [Act.put, List.setIfInBounds_toArray, List.set_cons_zero, List.set_cons_succ, i64_w, i32_w]
                                          rfl
                                        refine pure_ (i := 4) (N := some 102) (v := ?_) (a' := ?_) #[true, true, true, true, true, false, false, false, false, false, false, false, false, false, false, false, false, false, false, false, false, false, false, false, false, false, false, false, false, false, false, false, false, false, false, false, false, false, false, false, false, false, false, false, false, false, false, false, false, false, false, false, false] rfl rfl (any_of HT_.out (by kernel_rfl)) (fun _ _ _ h => h) (Or.inl ⟨by rfl, ?_⟩) ?_ ?_
                                        rotate_left
                                        · intro w'
                                          go_simp
                                          with_reducible rfl
                                        rotate_left
                                        · simp only [Act.put, List.setIfInBounds_toArray, List.set_cons_zero, List.set_cons_succ, i64_w, i32_w]
                                          rfl
                                        refine pure_ (i := 5) (N := some 103) (v := ?_) (a' := ?_) #[true, true, true, true, true, true, false, false, false, false, false, false, false, false, false, false, false, false, false, false, false, false, false, false, false, false, false, false, false, false, false, false, false, false, false, false, false, false, false, false, false, false, false, false, false, false, false, false, false, false, false, false, false] rfl rfl (any_of HT_.out (by kernel_rfl)) (fun _ _ _ h => h) (Or.inl ⟨by rfl, ?_⟩) ?_ ?_
                                        rotate_left
                                        · intro w'
                                          go_simp
                                          with_reducible rfl
                                        rotate_left
                                        · simp only [Act.put, List.setIfInBounds_toArray, List.set_cons_zero, List.set_cons_succ, i64_w, i32_w]
                                          rfl
                                        refine pure_ (i := 7) (N := some 105) (v := ?_) (a' := ?_) #[true, true, true, true, true, true, false, true, false, false, false, false, false, false, false, false, false, false, false, false, false, false, false, false, false, false, false, false, false, false, false, false, false, false, false, false, false, false, false, false, false, false, false, false, false, false, false, false, false, false, false, false, false] rfl rfl (any_of HT_.out (by kernel_rfl)) (fun _ _ _ h => h) (Or.inl ⟨by rfl, ?_⟩) ?_ ?_
                                        rotate_left
                                        · intro w'
                                          go_simp
                                          with_reducible rfl
                                        rotate_left
                                        · simp only [Act.put, List.setIfInBounds_toArray, List.set_cons_zero, List.set_cons_succ, i64_w, i32_w]
                                          rfl
                                        refine take_ (i := 6) (N := some 104) (v := ?_) (a' := ?_) #[true, true, true, true, true, true, true, true, false, false, false, false, false, false, false, false, false, false, false, false, false, false, false, false, false, false, false, false, false, false, false, false, false, false, false, false, false, false, false, false, false, false, false, false, false, false, false, false, false, false, false, false, false] rfl rfl (take_ofW HT_.out HW_.out (by kernel_rfl)) (fun _ _ _ h => h) (Or.inl ⟨by rfl, ?_⟩) hHeld ?_ ?_
                                        rotate_left
                                        · rintro w' ⟨s0, s1, s2, s3, s4, s5, s6⟩
                                          go_simp
                                          with_reducible rfl
                                        rotate_left
                                        · simp only [Act.put, List.setIfInBounds_toArray, List.set_cons_zero, List.set_cons_succ, i64_w, i32_w]
                                          rfl
                                        refine one_ (i := 8) (N := some 106) #[true, true, true, true, true, true, true, true, true, false, false, false, false, false, false, false, false, false, false, false, false, false, false, false, false, false, false, false, false, false, false, false, false, false, false, false, false, false, false, false, false, false, false, false, false, false, false, false, false, false, false, false, false] rfl rfl (one_of HT_.out (by kernel_rfl)) (by decide) (fun K hK => ?_)
                                        refine goes_ Tryd.func23 (by kernel_rfl) rfl #[.slice Ao29 t426.length co29, .slice Ao55 t436.length co55] (by rfl) rfl rfl (by (try simp only [List.map_toArray, List.map_cons, List.map_nil]); first | done | rfl | (simp only [List.length_drop, List.length_take]; rfl)) ?_
                                        with_reducible refine (spenceref24_Runs.calls k3 _ _ t426 _ _ t436 true _ ?side1 ?side2 ?side3 ?side4 A78.out).mono ?_
                                        (case side1 => repeat (first | exact (Kd.R_reads' HO_433001.out).2.2 | (with_reducible refine Kd.C_alloc ?_ _) | (with_reducible refine Kd.C_drewN ?_ _) | (with_reducible refine Kd.C_drew ?_)))
                                        (case side2 => exact (Kd.R_reads' HO_433001.out).2.1)
                                        (case side3 => repeat (first | exact (Kd.R_reads' HO_14.out).2.2 | (with_reducible refine Kd.C_alloc ?_ _) | (with_reducible refine Kd.C_drewN ?_ _) | (with_reducible refine Kd.C_drew ?_)))
                                        (case side4 => exact (Kd.R_reads' HO_14.out).2.1)
                                        rintro e w' ⟨rfl, ⟨nd, rfl⟩⟩
                                        refine ⟨_, rfl, ?_⟩
                                        refine hK.out _ _ ⟨(bCe BK432.out 0).trans rfl, (bCe BK432.out 1).trans rfl, (bCe BK432.out 2).trans rfl, (bCe BK448.out 0).trans rfl, (bCe BK448.out 1).trans rfl, (bCe BK448.out 2).trans rfl, Ag.ldMap_run BK422.out⟩ (fun hHeld => ?_)
                                        clear hK K
                                        refine norm_ (a' := ?_) ?_ ?_
                                        rotate_left
                                        · show Act.put _ (some 106) _ = _
                                          simp only [Act.put, List.setIfInBounds_toArray, List.set_cons_zero, List.set_cons_succ, i64_w, i32_w]
                                          rfl
                                        refine pure_ (i := 9) (N := some 107) (v := ?_) (a' := ?_) #[true, true, true, true, true, true, true, true, true, true, false, false, false, false, false, false, false, false, false, false, false, false, false, false, false, false, false, false, false, false, false, false, false, false, false, false, false, false, false, false, false, false, false, false, false, false, false, false, false, false, false, false, false] rfl rfl (any_of HT_.out (by kernel_rfl)) (fun _ _ _ h => h) (Or.inl ⟨by rfl, ?_⟩) ?_ ?_
                                        rotate_left
                                        · intro w'
                                          go_simp
                                          with_reducible rfl
                                        rotate_left
                                        · simp only [Act.put, List.setIfInBounds_toArray, List.set_cons_zero, List.set_cons_succ, i64_w, i32_w]
                                          rfl
                                        refine pure_ (i := 10) (N := some 108) (v := ?_) (a' := ?_) #[true, true, true, true, true, true, true, true, true, true, true, false, false, false, false, false, false, false, false, false, false, false, false, false, false, false, false, false, false, false, false, false, false, false, false, false, false, false, false, false, false, false, false, false, false, false, false, false, false, false, false, false, false] rfl rfl (any_of HT_.out (by kernel_rfl)) (fun _ _ _ h => h) (Or.inl ⟨by rfl, ?_⟩) ?_ ?_
                                        rotate_left
                                        · intro w'
                                          go_simp
                                          with_reducible rfl
                                        rotate_left
                                        · simp only [Act.put, List.setIfInBounds_toArray, List.set_cons_zero, List.set_cons_succ, i64_w, i32_w]
                                          rfl
                                        refine pure_ (i := 11) (N := some 109) (v := ?_) (a' := ?_) #[true, true, true, true, true, true, true, true, true, true, true, true, false, false, false, false, false, false, false, false, false, false, false, false, false, false, false, false, false, false, false, false, false, false, false, false, false, false, false, false, false, false, false, false, false, false, false, false, false, false, false, false, false] rfl rfl (any_of HT_.out (by kernel_rfl)) (fun _ _ _ h => h) (Or.inl ⟨by rfl, ?_⟩) ?_ ?_
                                        rotate_left
                                        · intro w'
                                          go_simp
                                          with_reducible rfl
                                        rotate_left
                                        · simp only [Act.put, List.setIfInBounds_toArray, List.set_cons_zero, List.set_cons_succ, i64_w, i32_w]
                                          rfl
                                        refine pure_ (i := 13) (N := some 111) (v := ?_) (a' := ?_) #[true, true, true, true, true, true, true, true, true, true, true, true, false, true, false, false, false, false, false, false, false, false, false, false, false, false, false, false, false, false, false, false, false, false, false, false, false, false, false, false, false, false, false, false, false, false, false, false, false, false, false, false, false] rfl rfl (any_of HT_.out (by kernel_rfl)) (fun _ _ _ h => h) (Or.inl ⟨by rfl, ?_⟩) ?_ ?_
                                        rotate_left
                                        · intro w'
                                          go_simp
                                          with_reducible rfl
                                        rotate_left
                                        · simp only [Act.put, List.setIfInBounds_toArray, List.set_cons_zero, List.set_cons_succ, i64_w, i32_w]
                                          rfl
                                        refine take_ (i := 12) (N := some 110) (v := ?_) (a' := ?_) #[true, true, true, true, true, true, true, true, true, true, true, true, true, true, false, false, false, false, false, false, false, false, false, false, false, false, false, false, false, false, false, false, false, false, false, false, false, false, false, false, false, false, false, false, false, false, false, false, false, false, false, false, false] rfl rfl (take_ofW HT_.out HW_.out (by kernel_rfl)) (fun _ _ _ h => h) (Or.inl ⟨by rfl, ?_⟩) hHeld ?_ ?_
                                        rotate_left
                                        · rintro w' ⟨s0, s1, s2, s3, s4, s5, s6⟩
                                          go_simp
                                          with_reducible rfl
                                        rotate_left
                                        · simp only [Act.put, List.setIfInBounds_toArray, List.set_cons_zero, List.set_cons_succ, i64_w, i32_w]
                                          rfl
                                        refine one_ (i := 14) (N := some 112) #[true, true, true, true, true, true, true, true, true, true, true, true, true, true, true, false, false, false, false, false, false, false, false, false, false, false, false, false, false, false, false, false, false, false, false, false, false, false, false, false, false, false, false, false, false, false, false, false, false, false, false, false, false] rfl rfl (one_of HT_.out (by kernel_rfl)) (by decide) (fun K hK => ?_)
                                        refine goes_ Tryd.func23 (by kernel_rfl) rfl #[.slice Ao30 t429.length co30, .slice Ao59 t463.length co59] (by rfl) rfl rfl (by (try simp only [List.map_toArray, List.map_cons, List.map_nil]); first | done | rfl | (simp only [List.length_drop, List.length_take]; rfl)) ?_
                                        with_reducible refine (spenceref24_Runs.calls k3 _ _ t429 _ _ t463 true _ ?side1 ?side2 ?side3 ?side4 A80.out).mono ?_
                                        (case side1 => repeat (first | exact (Kd.R_reads' HO_433002.out).2.2 | (with_reducible refine Kd.C_alloc ?_ _) | (with_reducible refine Kd.C_drewN ?_ _) | (with_reducible refine Kd.C_drew ?_)))
                                        (case side2 => exact (Kd.R_reads' HO_433002.out).2.1)
                                        (case side3 => repeat (first | exact (Kd.R_reads' HO_21.out).2.2 | (with_reducible refine Kd.C_alloc ?_ _) | (with_reducible refine Kd.C_drewN ?_ _) | (with_reducible refine Kd.C_drew ?_)))
                                        (case side4 => exact (Kd.R_reads' HO_21.out).2.1)
                                        rintro e w' ⟨rfl, ⟨nd, rfl⟩⟩
                                        refine ⟨_, rfl, ?_⟩
                                        obtain ⟨Ao94, co94, eo94⟩ := Kd.R_slice HO_16.out
                                        (first | subst eo94 | (injection eo94 with f1_ f2_ f3_; have f4_ := f1_.symm; have f5_ := f3_.symm; clear f1_ f2_ f3_; subst f4_; subst f5_))
                                        refine hK.out _ _ ⟨(bCe BK432.out 0).trans rfl, (bCe BK432.out 1).trans rfl, (bCe BK432.out 2).trans rfl, (bCe BK448.out 0).trans rfl, (bCe BK448.out 1).trans rfl, (bCe BK448.out 2).trans rfl, Ag.ldMap_run BK422.out⟩ (fun hHeld => ?_)
                                        clear hK K
                                        refine norm_ (a' := ?_) ?_ ?_
                                        rotate_left
                                        · show Act.put _ (some 112) _ = _
                                          simp only [Act.put, List.setIfInBounds_toArray, List.set_cons_zero, List.set_cons_succ, i64_w, i32_w]
                                          rfl
                                        refine pure_ (i := 15) (N := some 113) (v := ?_) (a' := ?_) #[true, true, true, true, true, true, true, true, true, true, true, true, true, true, true, true, false, false, false, false, false, false, false, false, false, false, false, false, false, false, false, false, false, false, false, false, false, false, false, false, false, false, false, false, false, false, false, false, false, false, false, false, false] rfl rfl (any_of HT_.out (by kernel_rfl)) (fun _ _ _ h => h) (Or.inl ⟨by rfl, ?_⟩) ?_ ?_
                                        rotate_left
                                        · intro w'
                                          go_simp
                                          with_reducible rfl
                                        rotate_left
                                        · simp only [Act.put, List.setIfInBounds_toArray, List.set_cons_zero, List.set_cons_succ, i64_w, i32_w]
                                          rfl
                                        refine pure_ (i := 16) (N := some 114) (v := ?_) (a' := ?_) #[true, true, true, true, true, true, true, true, true, true, true, true, true, true, true, true, true, false, false, false, false, false, false, false, false, false, false, false, false, false, false, false, false, false, false, false, false, false, false, false, false, false, false, false, false, false, false, false, false, false, false, false, false] rfl rfl (any_of HT_.out (by kernel_rfl)) (fun _ _ _ h => h) (Or.inl ⟨by rfl, ?_⟩) ?_ ?_
                                        rotate_left
                                        · intro w'
                                          go_simp
                                          with_reducible rfl
                                        rotate_left
                                        · simp only [Act.put, List.setIfInBounds_toArray, List.set_cons_zero, List.set_cons_succ, i64_w, i32_w]
                                          rfl
                                        refine pure_ (i := 17) (N := some 115) (v := ?_) (a' := ?_) #[true, true, true, true, true, true, true, true, true, true, true, true, true, true, true, true, true, true, false, false, false, false, false, false, false, false, false, false, false, false, false, false, false, false, false, false, false, false, false, false, false, false, false, false, false, false, false, false, false, false, false, false, false] rfl rfl (any_of HT_.out (by kernel_rfl)) (fun _ _ _ h => h) (Or.inl ⟨by rfl, ?_⟩) ?_ ?_
                                        rotate_left
                                        · intro w'
                                          go_simp
                                          with_reducible rfl
                                        rotate_left
                                        · simp only [Act.put, List.setIfInBounds_toArray, List.set_cons_zero, List.set_cons_succ, i64_w, i32_w]
                                          rfl
                                        refine pure_ (i := 19) (N := some 117) (v := ?_) (a' := ?_) #[true, true, true, true, true, true, true, true, true, true, true, true, true, true, true, true, true, true, false, true, false, false, false, false, false, false, false, false, false, false, false, false, false, false, false, false, false, false, false, false, false, false, false, false, false, false, false, false, false, false, false, false, false] rfl rfl (any_of HT_.out (by kernel_rfl)) (fun _ _ _ h => h) (Or.inl ⟨by rfl, ?_⟩) ?_ ?_
                                        rotate_left
                                        · intro w'
                                          go_simp
                                          with_reducible rfl
                                        rotate_left
                                        · simp only [Act.put, List.setIfInBounds_toArray, List.set_cons_zero, List.set_cons_succ, i64_w, i32_w]
                                          rfl
                                        refine take_ (i := 18) (N := some 116) (v := ?_) (a' := ?_) #[true, true, true, true, true, true, true, true, true, true, true, true, true, true, true, true, true, true, true, true, false, false, false, false, false, false, false, false, false, false, false, false, false, false, false, false, false, false, false, false, false, false, false, false, false, false, false, false, false, false, false, false, false] rfl rfl (take_ofW HT_.out HW_.out (by kernel_rfl)) (fun _ _ _ h => h) (Or.inl ⟨by rfl, ?_⟩) hHeld ?_ ?_
                                        rotate_left
                                        · rintro w' ⟨s0, s1, s2, s3, s4, s5, s6⟩
                                          go_simp
                                          with_reducible rfl
                                        rotate_left
                                        · simp only [Act.put, List.setIfInBounds_toArray, List.set_cons_zero, List.set_cons_succ, i64_w, i32_w]
                                          rfl
                                        refine one_ (i := 20) (N := some 118) #[true, true, true, true, true, true, true, true, true, true, true, true, true, true, true, true, true, true, true, true, true, false, false, false, false, false, false, false, false, false, false, false, false, false, false, false, false, false, false, false, false, false, false, false, false, false, false, false, false, false, false, false, false] rfl rfl (one_of HT_.out (by kernel_rfl)) (by decide) (fun K hK => ?_)
                                        refine goes_ Tryd.func25 (by kernel_rfl) rfl #[.slice Ao94 t455.length co94] (by rfl) rfl rfl (by (try simp only [List.map_toArray, List.map_cons, List.map_nil]); first | done | rfl | (simp only [List.length_drop, List.length_take]; rfl)) ?_
                                        with_reducible refine (spenceref24_Missing.calls k3 _ _ t455 t474 _ ?side1 ?side2 A82.out).mono ?_
                                        (case side1 => repeat (first | exact (Kd.R_reads' HO_16.out).2.2 | (with_reducible refine Kd.C_alloc ?_ _) | (with_reducible refine Kd.C_drewN ?_ _) | (with_reducible refine Kd.C_drew ?_)))
                                        (case side2 => exact (Kd.R_reads' HO_16.out).2.1)
                                        rintro e w95 ⟨v475, rfl, ho0, hb⟩
                                        refine ⟨_, rfl, ?_⟩
                                        have n0_ := AsZ.mk (Kd.R_below (by (with_reducible repeat (first | apply Kd.R_alloc | apply Kd.R_drewN | apply Kd.R_drew)); exact HO_13.out) hb)
                                        have n1_ := AsZ.mk (Kd.R_elder' (by (with_reducible repeat (first | apply Kd.R_alloc | apply Kd.R_drewN | apply Kd.R_drew)); exact HO_14.out) (Kd.R_base ho0) hb)
                                        have n2_ := AsZ.mk (Kd.R_elder' (by (with_reducible repeat (first | apply Kd.R_alloc | apply Kd.R_drewN | apply Kd.R_drew)); exact HO_16.out) (Kd.R_base ho0) hb)
                                        have n3_ := AsZ.mk (Kd.R_elder' (by (with_reducible repeat (first | apply Kd.R_alloc | apply Kd.R_drewN | apply Kd.R_drew)); exact HO_21.out) (Kd.R_base ho0) hb)
                                        have n4_ := AsZ.mk (Kd.R_elder' (by (with_reducible repeat (first | apply Kd.R_alloc | apply Kd.R_drewN | apply Kd.R_drew)); exact HO_80.out) (Kd.R_base ho0) hb)
                                        have n5_ := AsZ.mk (Kd.R_below (by (with_reducible repeat (first | apply Kd.R_alloc | apply Kd.R_drewN | apply Kd.R_drew)); exact HO_433000.out) hb)
                                        have n6_ := AsZ.mk (Kd.R_elder' (by (with_reducible repeat (first | apply Kd.R_alloc | apply Kd.R_drewN | apply Kd.R_drew)); exact HO_433001.out) (Kd.R_base ho0) hb)
                                        have n7_ := AsZ.mk (Kd.R_elder' (by (with_reducible repeat (first | apply Kd.R_alloc | apply Kd.R_drewN | apply Kd.R_drew)); exact HO_433002.out) (Kd.R_base ho0) hb)
                                        have n8_ := AsZ.mk (Kd.R_below (by (with_reducible repeat (first | apply Kd.R_alloc | apply Kd.R_drewN | apply Kd.R_drew)); exact HO_449000.out) hb)
                                        have n9_ := AsZ.mk (Kd.R_elder' (by (with_reducible repeat (first | apply Kd.R_alloc | apply Kd.R_drewN | apply Kd.R_drew)); exact HO_449001.out) (Kd.R_base ho0) hb)
                                        have n10_ := AsZ.mk (Kd.R_elder' (by (with_reducible repeat (first | apply Kd.R_alloc | apply Kd.R_drewN | apply Kd.R_drew)); exact HO_449002.out) (Kd.R_base ho0) hb)
                                        have n11_ := AsZ.mk (Kd.R_lower (Kd.R_new' (Kd.R_new' (Kd.R_new' (Kd.R_new' (Kd.R_new' (Kd.R_new' (Kd.R_new' (Kd.R_new' ho0 (Kd.R_lt (by (with_reducible repeat (first | apply Kd.R_alloc | apply Kd.R_drewN | apply Kd.R_drew)); exact HO_14.out))) (Kd.R_lt (by (with_reducible repeat (first | apply Kd.R_alloc | apply Kd.R_drewN | apply Kd.R_drew)); exact HO_16.out))) (Kd.R_lt (by (with_reducible repeat (first | apply Kd.R_alloc | apply Kd.R_drewN | apply Kd.R_drew)); exact HO_21.out))) (Kd.R_lt (by (with_reducible repeat (first | apply Kd.R_alloc | apply Kd.R_drewN | apply Kd.R_drew)); exact HO_80.out))) (Kd.R_lt (by (with_reducible repeat (first | apply Kd.R_alloc | apply Kd.R_drewN | apply Kd.R_drew)); exact HO_433001.out))) (Kd.R_lt (by (with_reducible repeat (first | apply Kd.R_alloc | apply Kd.R_drewN | apply Kd.R_drew)); exact HO_433002.out))) (Kd.R_lt (by (with_reducible repeat (first | apply Kd.R_alloc | apply Kd.R_drewN | apply Kd.R_drew)); exact HO_449001.out))) (Kd.R_lt (by (with_reducible repeat (first | apply Kd.R_alloc | apply Kd.R_drewN | apply Kd.R_drew)); exact HO_449002.out))) (zBl (by repeat (first | (with_reducible first | exact HB.out | apply aBl | apply pBd | apply dBl | refine sBl ?_ GE422.out | refine Ag.row_below ?_ GE422.out | refine sBl ?_ GE432.out | refine Ag.row_below ?_ GE432.out | refine sBl ?_ GE448.out | refine Ag.row_below ?_ GE448.out) | exact HB.out))))
                                        have n12_ := AsZ.mk (bBl (g := gb422) (o := .cells (Ag.agC .u64 65 t421) 27 (0, 0)) (by (with_reducible repeat first | apply bDn | apply bDr | apply bAl); exact BK422.out) hb)
                                        have n13_ := AsZ.mk (bBl (g := gb432) (o := .cells #[.slice Ao26 t423.length co26, .slice Ao29 t426.length co29, .slice Ao30 t429.length co30] 60 (0, 0)) (by (with_reducible repeat first | apply bDn | apply bDr | apply bAl); exact BK432.out) hb)
                                        have n14_ := AsZ.mk (bBl (g := gb448) (o := .cells #[.slice Ao38 t439.length co38, .slice Ao42 t442.length co42, .slice Ao43 t445.length co43] 60 (0, 0)) (by (with_reducible repeat first | apply bDn | apply bDr | apply bAl); exact BK448.out) hb)
                                        have n15_ := AsZ.mk (tBl (by repeat (first | (with_reducible first | exact HB.out | apply aBl | apply pBd | apply dBl | refine sBl ?_ GE422.out | refine Ag.row_below ?_ GE422.out | refine sBl ?_ GE432.out | refine Ag.row_below ?_ GE432.out | refine sBl ?_ GE448.out | refine Ag.row_below ?_ GE448.out) | exact HB.out)) hb)
                                        clear HO_13
                                        clear HO_14
                                        clear HO_16
                                        clear HO_21
                                        clear HO_80
                                        clear HO_433000
                                        clear HO_433001
                                        clear HO_433002
                                        clear HO_449000
                                        clear HO_449001
                                        clear HO_449002
                                        clear BK422
                                        clear BK432
                                        clear BK448
                                        clear HB
                                        have HO_13 := n0_
                                        have HO_14 := n1_
                                        have HO_16 := n2_
                                        have HO_21 := n3_
                                        have HO_80 := n4_
                                        have HO_433000 := n5_
                                        have HO_433001 := n6_
                                        have HO_433002 := n7_
                                        have HO_449000 := n8_
                                        have HO_449001 := n9_
                                        have HO_449002 := n10_
                                        have HO476 := n11_
                                        have BK422 := n12_
                                        have BK432 := n13_
                                        have BK448 := n14_
                                        have HB := n15_
                                        clear n0_ n1_ n2_ n3_ n4_ n5_ n6_ n7_ n8_ n9_ n10_ n11_ n12_ n13_ n14_ n15_
                                        (try clear hb)
                                        (try clear hb2)
                                        (try clear hk)
                                        (try clear hi)
                                        (try clear ho0)
                                        obtain ⟨Ao96, co96, eo96⟩ := Kd.R_slice HO476.out
                                        (first | subst eo96 | (injection eo96 with f1_ f2_ f3_; have f4_ := f1_.symm; have f5_ := f3_.symm; clear f1_ f2_ f3_; subst f4_; subst f5_))
                                        refine hK.out _ _ ⟨(bCe BK432.out 0).trans rfl, (bCe BK432.out 1).trans rfl, (bCe BK432.out 2).trans rfl, (bCe BK448.out 0).trans rfl, (bCe BK448.out 1).trans rfl, (bCe BK448.out 2).trans rfl, Ag.ldMap_run BK422.out⟩ (fun hHeld => ?_)
                                        clear hK K
                                        refine norm_ (a' := ?_) ?_ ?_
                                        rotate_left
                                        · show Act.put _ (some 118) _ = _
                                          simp only [Act.put, List.setIfInBounds_toArray, List.set_cons_zero, List.set_cons_succ, i64_w, i32_w]
                                          rfl
                                        refine one_ (i := 21) (N := some 119) #[true, true, true, true, true, true, true, true, true, true, true, true, true, true, true, true, true, true, true, true, true, true, false, false, false, false, false, false, false, false, false, false, false, false, false, false, false, false, false, false, false, false, false, false, false, false, false, false, false, false, false, false, false] rfl rfl (one_of HT_.out (by kernel_rfl)) (by decide) (fun K hK => ?_)
                                        refine goes_ Tryd.func32 (by kernel_rfl) rfl #[.slice Ao96 t474.length co96, .int .i64 8] (by rfl) rfl rfl (by (try simp only [List.map_toArray, List.map_cons, List.map_nil]); first | done | rfl | (simp only [List.length_drop, List.length_take]; rfl)) ?_
                                        with_reducible refine (spenceref24_Cap.calls k3 _ _ t474 8 t477 _ ?side1 ?side2 A83.out).mono ?_
                                        (case side1 => repeat (first | exact (Kd.R_reads' HO476.out).2.2 | (with_reducible refine Kd.C_alloc ?_ _) | (with_reducible refine Kd.C_drewN ?_ _) | (with_reducible refine Kd.C_drew ?_)))
                                        (case side2 => exact (Kd.R_reads' HO476.out).2.1)
                                        rintro e w97 ⟨v478, rfl, ho0, hb⟩
                                        refine ⟨_, rfl, ?_⟩
                                        have n0_ := AsZ.mk (Kd.R_below (by (with_reducible repeat (first | apply Kd.R_alloc | apply Kd.R_drewN | apply Kd.R_drew)); exact HO_13.out) hb)
                                        have n1_ := AsZ.mk (Kd.R_elder' (by (with_reducible repeat (first | apply Kd.R_alloc | apply Kd.R_drewN | apply Kd.R_drew)); exact HO_14.out) (Kd.R_base ho0) hb)
                                        have n2_ := AsZ.mk (Kd.R_elder' (by (with_reducible repeat (first | apply Kd.R_alloc | apply Kd.R_drewN | apply Kd.R_drew)); exact HO_16.out) (Kd.R_base ho0) hb)
                                        have n3_ := AsZ.mk (Kd.R_elder' (by (with_reducible repeat (first | apply Kd.R_alloc | apply Kd.R_drewN | apply Kd.R_drew)); exact HO_21.out) (Kd.R_base ho0) hb)
                                        have n4_ := AsZ.mk (Kd.R_elder' (by (with_reducible repeat (first | apply Kd.R_alloc | apply Kd.R_drewN | apply Kd.R_drew)); exact HO_80.out) (Kd.R_base ho0) hb)
                                        have n5_ := AsZ.mk (Kd.R_below (by (with_reducible repeat (first | apply Kd.R_alloc | apply Kd.R_drewN | apply Kd.R_drew)); exact HO_433000.out) hb)
                                        have n6_ := AsZ.mk (Kd.R_elder' (by (with_reducible repeat (first | apply Kd.R_alloc | apply Kd.R_drewN | apply Kd.R_drew)); exact HO_433001.out) (Kd.R_base ho0) hb)
                                        have n7_ := AsZ.mk (Kd.R_elder' (by (with_reducible repeat (first | apply Kd.R_alloc | apply Kd.R_drewN | apply Kd.R_drew)); exact HO_433002.out) (Kd.R_base ho0) hb)
                                        have n8_ := AsZ.mk (Kd.R_below (by (with_reducible repeat (first | apply Kd.R_alloc | apply Kd.R_drewN | apply Kd.R_drew)); exact HO_449000.out) hb)
                                        have n9_ := AsZ.mk (Kd.R_elder' (by (with_reducible repeat (first | apply Kd.R_alloc | apply Kd.R_drewN | apply Kd.R_drew)); exact HO_449001.out) (Kd.R_base ho0) hb)
                                        have n10_ := AsZ.mk (Kd.R_elder' (by (with_reducible repeat (first | apply Kd.R_alloc | apply Kd.R_drewN | apply Kd.R_drew)); exact HO_449002.out) (Kd.R_base ho0) hb)
                                        have n11_ := AsZ.mk (Kd.R_elder' (by (with_reducible repeat (first | apply Kd.R_alloc | apply Kd.R_drewN | apply Kd.R_drew)); exact HO476.out) (Kd.R_base ho0) hb)
                                        have n12_ := AsZ.mk (Kd.R_lower (Kd.R_new' (Kd.R_new' (Kd.R_new' (Kd.R_new' (Kd.R_new' (Kd.R_new' (Kd.R_new' (Kd.R_new' (Kd.R_new' ho0 (Kd.R_lt (by (with_reducible repeat (first | apply Kd.R_alloc | apply Kd.R_drewN | apply Kd.R_drew)); exact HO_14.out))) (Kd.R_lt (by (with_reducible repeat (first | apply Kd.R_alloc | apply Kd.R_drewN | apply Kd.R_drew)); exact HO_16.out))) (Kd.R_lt (by (with_reducible repeat (first | apply Kd.R_alloc | apply Kd.R_drewN | apply Kd.R_drew)); exact HO_21.out))) (Kd.R_lt (by (with_reducible repeat (first | apply Kd.R_alloc | apply Kd.R_drewN | apply Kd.R_drew)); exact HO_80.out))) (Kd.R_lt (by (with_reducible repeat (first | apply Kd.R_alloc | apply Kd.R_drewN | apply Kd.R_drew)); exact HO_433001.out))) (Kd.R_lt (by (with_reducible repeat (first | apply Kd.R_alloc | apply Kd.R_drewN | apply Kd.R_drew)); exact HO_433002.out))) (Kd.R_lt (by (with_reducible repeat (first | apply Kd.R_alloc | apply Kd.R_drewN | apply Kd.R_drew)); exact HO_449001.out))) (Kd.R_lt (by (with_reducible repeat (first | apply Kd.R_alloc | apply Kd.R_drewN | apply Kd.R_drew)); exact HO_449002.out))) (Kd.R_lt (by (with_reducible repeat (first | apply Kd.R_alloc | apply Kd.R_drewN | apply Kd.R_drew)); exact HO476.out))) (zBl (by repeat (first | (with_reducible first | exact HB.out | apply aBl | apply pBd | apply dBl | refine sBl ?_ GE422.out | refine Ag.row_below ?_ GE422.out | refine sBl ?_ GE432.out | refine Ag.row_below ?_ GE432.out | refine sBl ?_ GE448.out | refine Ag.row_below ?_ GE448.out) | exact HB.out))))
                                        have n13_ := AsZ.mk (bBl (g := gb422) (o := .cells (Ag.agC .u64 65 t421) 27 (0, 0)) (by (with_reducible repeat first | apply bDn | apply bDr | apply bAl); exact BK422.out) hb)
                                        have n14_ := AsZ.mk (bBl (g := gb432) (o := .cells #[.slice Ao26 t423.length co26, .slice Ao29 t426.length co29, .slice Ao30 t429.length co30] 60 (0, 0)) (by (with_reducible repeat first | apply bDn | apply bDr | apply bAl); exact BK432.out) hb)
                                        have n15_ := AsZ.mk (bBl (g := gb448) (o := .cells #[.slice Ao38 t439.length co38, .slice Ao42 t442.length co42, .slice Ao43 t445.length co43] 60 (0, 0)) (by (with_reducible repeat first | apply bDn | apply bDr | apply bAl); exact BK448.out) hb)
                                        have n16_ := AsZ.mk (tBl (by repeat (first | (with_reducible first | exact HB.out | apply aBl | apply pBd | apply dBl | refine sBl ?_ GE422.out | refine Ag.row_below ?_ GE422.out | refine sBl ?_ GE432.out | refine Ag.row_below ?_ GE432.out | refine sBl ?_ GE448.out | refine Ag.row_below ?_ GE448.out) | exact HB.out)) hb)
                                        clear HO_13
                                        clear HO_14
                                        clear HO_16
                                        clear HO_21
                                        clear HO_80
                                        clear HO_433000
                                        clear HO_433001
                                        clear HO_433002
                                        clear HO_449000
                                        clear HO_449001
                                        clear HO_449002
                                        clear HO476
                                        clear BK422
                                        clear BK432
                                        clear BK448
                                        clear HB
                                        have HO_13 := n0_
                                        have HO_14 := n1_
                                        have HO_16 := n2_
                                        have HO_21 := n3_
                                        have HO_80 := n4_
                                        have HO_433000 := n5_
                                        have HO_433001 := n6_
                                        have HO_433002 := n7_
                                        have HO_449000 := n8_
                                        have HO_449001 := n9_
                                        have HO_449002 := n10_
                                        have HO476 := n11_
                                        have HO479 := n12_
                                        have BK422 := n13_
                                        have BK432 := n14_
                                        have BK448 := n15_
                                        have HB := n16_
                                        clear n0_ n1_ n2_ n3_ n4_ n5_ n6_ n7_ n8_ n9_ n10_ n11_ n12_ n13_ n14_ n15_ n16_
                                        (try clear hb)
                                        (try clear hb2)
                                        (try clear hk)
                                        (try clear hi)
                                        (try clear ho0)
                                        obtain ⟨Ao98, co98, eo98⟩ := Kd.R_slice HO479.out
                                        (first | subst eo98 | (injection eo98 with f1_ f2_ f3_; have f4_ := f1_.symm; have f5_ := f3_.symm; clear f1_ f2_ f3_; subst f4_; subst f5_))
                                        refine hK.out _ _ ⟨(bCe BK432.out 0).trans rfl, (bCe BK432.out 1).trans rfl, (bCe BK432.out 2).trans rfl, (bCe BK448.out 0).trans rfl, (bCe BK448.out 1).trans rfl, (bCe BK448.out 2).trans rfl, Ag.ldMap_run BK422.out⟩ (fun hHeld => ?_)
                                        clear hK K
                                        refine norm_ (a' := ?_) ?_ ?_
                                        rotate_left
                                        · show Act.put _ (some 119) _ = _
                                          simp only [Act.put, List.setIfInBounds_toArray, List.set_cons_zero, List.set_cons_succ, i64_w, i32_w]
                                          rfl
                                        refine one_ (i := 22) (N := some 120) #[true, true, true, true, true, true, true, true, true, true, true, true, true, true, true, true, true, true, true, true, true, true, true, false, false, false, false, false, false, false, false, false, false, false, false, false, false, false, false, false, false, false, false, false, false, false, false, false, false, false, false, false, false] rfl rfl (one_of HT_.out (by kernel_rfl)) (by decide) (fun K hK => ?_)
                                        refine goes_ Tryd.func23 (by kernel_rfl) rfl #[.slice Ao43 t445.length co43, .slice Ao98 t477.length co98] (by rfl) rfl rfl (by (try simp only [List.map_toArray, List.map_cons, List.map_nil]); first | done | rfl | (simp only [List.length_drop, List.length_take]; rfl)) ?_
                                        with_reducible refine (spenceref24_Runs.calls k3 _ _ t445 _ _ t477 true _ ?side1 ?side2 ?side3 ?side4 A84.out).mono ?_
                                        (case side1 => repeat (first | exact (Kd.R_reads' HO_449002.out).2.2 | (with_reducible refine Kd.C_alloc ?_ _) | (with_reducible refine Kd.C_drewN ?_ _) | (with_reducible refine Kd.C_drew ?_)))
                                        (case side2 => exact (Kd.R_reads' HO_449002.out).2.1)
                                        (case side3 => repeat (first | exact (Kd.R_reads' HO479.out).2.2 | (with_reducible refine Kd.C_alloc ?_ _) | (with_reducible refine Kd.C_drewN ?_ _) | (with_reducible refine Kd.C_drew ?_)))
                                        (case side4 => exact (Kd.R_reads' HO479.out).2.1)
                                        rintro e w' ⟨rfl, ⟨nd, rfl⟩⟩
                                        refine ⟨_, rfl, ?_⟩
                                        refine hK.out _ _ ⟨(bCe BK432.out 0).trans rfl, (bCe BK432.out 1).trans rfl, (bCe BK432.out 2).trans rfl, (bCe BK448.out 0).trans rfl, (bCe BK448.out 1).trans rfl, (bCe BK448.out 2).trans rfl, Ag.ldMap_run BK422.out⟩ (fun hHeld => ?_)
                                        clear hK K
                                        refine norm_ (a' := ?_) ?_ ?_
                                        rotate_left
                                        · show Act.put _ (some 120) _ = _
                                          simp only [Act.put, List.setIfInBounds_toArray, List.set_cons_zero, List.set_cons_succ, i64_w, i32_w]
                                          rfl
                                        refine pure_ (i := 23) (N := some 121) (v := ?_) (a' := ?_) #[true, true, true, true, true, true, true, true, true, true, true, true, true, true, true, true, true, true, true, true, true, true, true, true, false, false, false, false, false, false, false, false, false, false, false, false, false, false, false, false, false, false, false, false, false, false, false, false, false, false, false, false, false] rfl rfl (any_of HT_.out (by kernel_rfl)) (fun _ _ _ h => h) (Or.inl ⟨by rfl, ?_⟩) ?_ ?_
                                        rotate_left
                                        · intro w'
                                          go_simp
                                          with_reducible rfl
                                        rotate_left
                                        · simp only [Act.put, List.setIfInBounds_toArray, List.set_cons_zero, List.set_cons_succ, i64_w, i32_w]
                                          rfl
                                        refine pure_ (i := 24) (N := some 122) (v := ?_) (a' := ?_) #[true, true, true, true, true, true, true, true, true, true, true, true, true, true, true, true, true, true, true, true, true, true, true, true, true, false, false, false, false, false, false, false, false, false, false, false, false, false, false, false, false, false, false, false, false, false, false, false, false, false, false, false, false] rfl rfl (any_of HT_.out (by kernel_rfl)) (fun _ _ _ h => h) (Or.inl ⟨by rfl, ?_⟩) ?_ ?_
                                        rotate_left
                                        · intro w'
                                          go_simp
                                          with_reducible rfl
                                        rotate_left
                                        · simp only [Act.put, List.setIfInBounds_toArray, List.set_cons_zero, List.set_cons_succ, i64_w, i32_w]
                                          rfl
                                        refine pure_ (i := 25) (N := some 123) (v := ?_) (a' := ?_) #[true, true, true, true, true, true, true, true, true, true, true, true, true, true, true, true, true, true, true, true, true, true, true, true, true, true, false, false, false, false, false, false, false, false, false, false, false, false, false, false, false, false, false, false, false, false, false, false, false, false, false, false, false] rfl rfl (any_of HT_.out (by kernel_rfl)) (fun _ _ _ h => h) (Or.inl ⟨by rfl, ?_⟩) ?_ ?_
                                        rotate_left
                                        · intro w'
                                          go_simp
                                          with_reducible rfl
                                        rotate_left
                                        · simp only [Act.put, List.setIfInBounds_toArray, List.set_cons_zero, List.set_cons_succ, i64_w, i32_w]
                                          rfl
                                        refine pure_ (i := 27) (N := some 125) (v := ?_) (a' := ?_) #[true, true, true, true, true, true, true, true, true, true, true, true, true, true, true, true, true, true, true, true, true, true, true, true, true, true, false, true, false, false, false, false, false, false, false, false, false, false, false, false, false, false, false, false, false, false, false, false, false, false, false, false, false] rfl rfl (any_of HT_.out (by kernel_rfl)) (fun _ _ _ h => h) (Or.inl ⟨by rfl, ?_⟩) ?_ ?_
                                        rotate_left
                                        · intro w'
                                          go_simp
                                          with_reducible rfl
                                        rotate_left
                                        · simp only [Act.put, List.setIfInBounds_toArray, List.set_cons_zero, List.set_cons_succ, i64_w, i32_w]
                                          rfl
                                        refine take_ (i := 26) (N := some 124) (v := ?_) (a' := ?_) #[true, true, true, true, true, true, true, true, true, true, true, true, true, true, true, true, true, true, true, true, true, true, true, true, true, true, true, true, false, false, false, false, false, false, false, false, false, false, false, false, false, false, false, false, false, false, false, false, false, false, false, false, false] rfl rfl (take_ofW HT_.out HW_.out (by kernel_rfl)) (fun _ _ _ h => h) (Or.inl ⟨by rfl, ?_⟩) hHeld ?_ ?_
                                        rotate_left
                                        · rintro w' ⟨s0, s1, s2, s3, s4, s5, s6⟩
                                          go_simp
                                          with_reducible rfl
                                        rotate_left
                                        · simp only [Act.put, List.setIfInBounds_toArray, List.set_cons_zero, List.set_cons_succ, i64_w, i32_w]
                                          rfl
                                        refine one_ (i := 28) (N := some 126) #[true, true, true, true, true, true, true, true, true, true, true, true, true, true, true, true, true, true, true, true, true, true, true, true, true, true, true, true, true, false, false, false, false, false, false, false, false, false, false, false, false, false, false, false, false, false, false, false, false, false, false, false, false] rfl rfl (one_of HT_.out (by kernel_rfl)) (by decide) (fun K hK => ?_)
                                        refine goes_ Tryd.func14 (by kernel_rfl) rfl #[.slice Ao38 t439.length co38, .slice Ao32 t433.length co32] (by rfl) rfl rfl (by (try simp only [List.map_toArray, List.map_cons, List.map_nil]); first | done | rfl | (simp only [List.length_drop, List.length_take]; rfl)) ?_
                                        with_reducible refine (spenceref01_Ints.calls k3 _ _ t439 _ _ t433 true _ ?side1 ?side2 ?side3 ?side4 A86.out).mono ?_
                                        (case side1 => repeat (first | exact (Kd.R_reads' HO_449000.out).2.2 | (with_reducible refine Kd.C_alloc ?_ _) | (with_reducible refine Kd.C_drewN ?_ _) | (with_reducible refine Kd.C_drew ?_)))
                                        (case side2 => exact (Kd.R_reads' HO_449000.out).2.1)
                                        (case side3 => repeat (first | exact (Kd.R_reads' HO_13.out).2.2 | (with_reducible refine Kd.C_alloc ?_ _) | (with_reducible refine Kd.C_drewN ?_ _) | (with_reducible refine Kd.C_drew ?_)))
                                        (case side4 => exact (Kd.R_reads' HO_13.out).2.1)
                                        rintro e w' ⟨rfl, ⟨nd, rfl⟩⟩
                                        refine ⟨_, rfl, ?_⟩
                                        refine hK.out _ _ ⟨(bCe BK432.out 0).trans rfl, (bCe BK432.out 1).trans rfl, (bCe BK432.out 2).trans rfl, (bCe BK448.out 0).trans rfl, (bCe BK448.out 1).trans rfl, (bCe BK448.out 2).trans rfl, Ag.ldMap_run BK422.out⟩ (fun hHeld => ?_)
                                        clear hK K
                                        refine norm_ (a' := ?_) ?_ ?_
                                        rotate_left
                                        · show Act.put _ (some 126) _ = _
                                          simp only [Act.put, List.setIfInBounds_toArray, List.set_cons_zero, List.set_cons_succ, i64_w, i32_w]
                                          rfl
                                        refine pure_ (i := 29) (N := some 127) (v := ?_) (a' := ?_) #[true, true, true, true, true, true, true, true, true, true, true, true, true, true, true, true, true, true, true, true, true, true, true, true, true, true, true, true, true, true, false, false, false, false, false, false, false, false, false, false, false, false, false, false, false, false, false, false, false, false, false, false, false] rfl rfl (any_of HT_.out (by kernel_rfl)) (fun _ _ _ h => h) (Or.inl ⟨by rfl, ?_⟩) ?_ ?_
                                        rotate_left
                                        · intro w'
                                          go_simp
                                          with_reducible rfl
                                        rotate_left
                                        · simp only [Act.put, List.setIfInBounds_toArray, List.set_cons_zero, List.set_cons_succ, i64_w, i32_w]
                                          rfl
                                        refine pure_ (i := 30) (N := some 128) (v := ?_) (a' := ?_) #[true, true, true, true, true, true, true, true, true, true, true, true, true, true, true, true, true, true, true, true, true, true, true, true, true, true, true, true, true, true, true, false, false, false, false, false, false, false, false, false, false, false, false, false, false, false, false, false, false, false, false, false, false] rfl rfl (any_of HT_.out (by kernel_rfl)) (fun _ _ _ h => h) (Or.inl ⟨by rfl, ?_⟩) ?_ ?_
                                        rotate_left
                                        · intro w'
                                          go_simp
                                          with_reducible rfl
                                        rotate_left
                                        · simp only [Act.put, List.setIfInBounds_toArray, List.set_cons_zero, List.set_cons_succ, i64_w, i32_w]
                                          rfl
                                        refine pure_ (i := 34) (N := some 132) (v := ?_) (a' := ?_) #[true, true, true, true, true, true, true, true, true, true, true, true, true, true, true, true, true, true, true, true, true, true, true, true, true, true, true, true, true, true, true, false, false, false, true, false, false, false, false, false, false, false, false, false, false, false, false, false, false, false, false, false, false] rfl rfl (any_of HT_.out (by kernel_rfl)) (fun _ _ _ h => h) (Or.inl ⟨by rfl, ?_⟩) ?_ ?_
                                        rotate_left
                                        · intro w'
                                          go_simp
                                          with_reducible rfl
                                        rotate_left
                                        · simp only [Act.put, List.setIfInBounds_toArray, List.set_cons_zero, List.set_cons_succ, i64_w, i32_w]
                                          rfl
                                        refine take_ (i := 31) (N := some 129) (v := ?_) (a' := ?_) #[true, true, true, true, true, true, true, true, true, true, true, true, true, true, true, true, true, true, true, true, true, true, true, true, true, true, true, true, true, true, true, true, false, false, true, false, false, false, false, false, false, false, false, false, false, false, false, false, false, false, false, false, false] rfl rfl (take_ofW HT_.out HW_.out (by kernel_rfl)) (fun _ _ _ h => h) (Or.inl ⟨by rfl, ?_⟩) hHeld ?_ ?_
                                        rotate_left
                                        · rintro w' ⟨s0, s1, s2, s3, s4, s5, s6⟩
                                          go_simp
                                          with_reducible rfl
                                        rotate_left
                                        · simp only [Act.put, List.setIfInBounds_toArray, List.set_cons_zero, List.set_cons_succ, i64_w, i32_w]
                                          rfl
                                        refine take_ (i := 32) (N := some 130) (v := ?_) (a' := ?_) #[true, true, true, true, true, true, true, true, true, true, true, true, true, true, true, true, true, true, true, true, true, true, true, true, true, true, true, true, true, true, true, true, true, false, true, false, false, false, false, false, false, false, false, false, false, false, false, false, false, false, false, false, false] rfl rfl (take_ofW HT_.out HW_.out (by kernel_rfl)) (fun _ _ _ h => h) (Or.inl ⟨by rfl, ?_⟩) hHeld ?_ ?_
                                        rotate_left
                                        · rintro w' ⟨s0, s1, s2, s3, s4, s5, s6⟩
                                          go_simp
                                          with_reducible rfl
                                        rotate_left
                                        · simp only [Act.put, List.setIfInBounds_toArray, List.set_cons_zero, List.set_cons_succ, i64_w, i32_w]
                                          rfl
                                        refine one_ (i := 33) (N := some 131) #[true, true, true, true, true, true, true, true, true, true, true, true, true, true, true, true, true, true, true, true, true, true, true, true, true, true, true, true, true, true, true, true, true, true, true, false, false, false, false, false, false, false, false, false, false, false, false, false, false, false, false, false, false] rfl rfl (one_of HT_.out (by kernel_rfl)) (by decide) (fun K hK => ?_)
                                        refine goes_ Tryd.func37 (by kernel_rfl) rfl #[.agg #[.slice Ao26 t423.length co26, .slice Ao29 t426.length co29, .slice Ao30 t429.length co30], .agg (Ag.agC .u64 65 t421)] (by rfl) rfl rfl (by (try simp only [List.map_toArray, List.map_cons, List.map_nil]); first | done | rfl | (simp only [List.length_drop, List.length_take]; rfl)) ?_
                                        with_reducible refine (plan_Ready.calls _ _ t423 _ _ t426 _ _ t429 t421 t482 _ ?side1 ?side2 ?side3 ?side4 ?side5 ?side6 A88.out).mono ?_
                                        (case side1 => repeat (first | exact (Kd.R_reads' HO_433000.out).2.2 | (with_reducible refine Kd.C_alloc ?_ _) | (with_reducible refine Kd.C_drewN ?_ _) | (with_reducible refine Kd.C_drew ?_)))
                                        (case side2 => exact (Kd.R_reads' HO_433000.out).2.1)
                                        (case side3 => repeat (first | exact (Kd.R_reads' HO_433001.out).2.2 | (with_reducible refine Kd.C_alloc ?_ _) | (with_reducible refine Kd.C_drewN ?_ _) | (with_reducible refine Kd.C_drew ?_)))
                                        (case side4 => exact (Kd.R_reads' HO_433001.out).2.1)
                                        (case side5 => repeat (first | exact (Kd.R_reads' HO_433002.out).2.2 | (with_reducible refine Kd.C_alloc ?_ _) | (with_reducible refine Kd.C_drewN ?_ _) | (with_reducible refine Kd.C_drew ?_)))
                                        (case side6 => exact (Kd.R_reads' HO_433002.out).2.1)
                                        rintro e w99 ⟨rfl, hb⟩
                                        refine ⟨_, rfl, ?_⟩
                                        have n0_ := AsZ.mk (Kd.R_below (by (with_reducible repeat (first | apply Kd.R_alloc | apply Kd.R_drewN | apply Kd.R_drew)); exact HO_13.out) hb)
                                        have n1_ := AsZ.mk (Kd.R_below (by (with_reducible repeat (first | apply Kd.R_alloc | apply Kd.R_drewN | apply Kd.R_drew)); exact HO_14.out) hb)
                                        have n2_ := AsZ.mk (Kd.R_below (by (with_reducible repeat (first | apply Kd.R_alloc | apply Kd.R_drewN | apply Kd.R_drew)); exact HO_16.out) hb)
                                        have n3_ := AsZ.mk (Kd.R_below (by (with_reducible repeat (first | apply Kd.R_alloc | apply Kd.R_drewN | apply Kd.R_drew)); exact HO_21.out) hb)
                                        have n4_ := AsZ.mk (Kd.R_below (by (with_reducible repeat (first | apply Kd.R_alloc | apply Kd.R_drewN | apply Kd.R_drew)); exact HO_80.out) hb)
                                        have n5_ := AsZ.mk (Kd.R_below (by (with_reducible repeat (first | apply Kd.R_alloc | apply Kd.R_drewN | apply Kd.R_drew)); exact HO_433000.out) hb)
                                        have n6_ := AsZ.mk (Kd.R_below (by (with_reducible repeat (first | apply Kd.R_alloc | apply Kd.R_drewN | apply Kd.R_drew)); exact HO_433001.out) hb)
                                        have n7_ := AsZ.mk (Kd.R_below (by (with_reducible repeat (first | apply Kd.R_alloc | apply Kd.R_drewN | apply Kd.R_drew)); exact HO_433002.out) hb)
                                        have n8_ := AsZ.mk (Kd.R_below (by (with_reducible repeat (first | apply Kd.R_alloc | apply Kd.R_drewN | apply Kd.R_drew)); exact HO_449000.out) hb)
                                        have n9_ := AsZ.mk (Kd.R_below (by (with_reducible repeat (first | apply Kd.R_alloc | apply Kd.R_drewN | apply Kd.R_drew)); exact HO_449001.out) hb)
                                        have n10_ := AsZ.mk (Kd.R_below (by (with_reducible repeat (first | apply Kd.R_alloc | apply Kd.R_drewN | apply Kd.R_drew)); exact HO_449002.out) hb)
                                        have n11_ := AsZ.mk (Kd.R_below (by (with_reducible repeat (first | apply Kd.R_alloc | apply Kd.R_drewN | apply Kd.R_drew)); exact HO476.out) hb)
                                        have n12_ := AsZ.mk (Kd.R_below (by (with_reducible repeat (first | apply Kd.R_alloc | apply Kd.R_drewN | apply Kd.R_drew)); exact HO479.out) hb)
                                        have n13_ := AsZ.mk (bBl (g := gb422) (o := .cells (Ag.agC .u64 65 t421) 27 (0, 0)) (by (with_reducible repeat first | apply bDn | apply bDr | apply bAl); exact BK422.out) hb)
                                        have n14_ := AsZ.mk (bBl (g := gb432) (o := .cells #[.slice Ao26 t423.length co26, .slice Ao29 t426.length co29, .slice Ao30 t429.length co30] 60 (0, 0)) (by (with_reducible repeat first | apply bDn | apply bDr | apply bAl); exact BK432.out) hb)
                                        have n15_ := AsZ.mk (bBl (g := gb448) (o := .cells #[.slice Ao38 t439.length co38, .slice Ao42 t442.length co42, .slice Ao43 t445.length co43] 60 (0, 0)) (by (with_reducible repeat first | apply bDn | apply bDr | apply bAl); exact BK448.out) hb)
                                        have n16_ := AsZ.mk (tBl (by repeat (first | (with_reducible first | exact HB.out | apply aBl | apply pBd | apply dBl | refine sBl ?_ GE422.out | refine Ag.row_below ?_ GE422.out | refine sBl ?_ GE432.out | refine Ag.row_below ?_ GE432.out | refine sBl ?_ GE448.out | refine Ag.row_below ?_ GE448.out) | exact HB.out)) hb)
                                        clear HO_13
                                        clear HO_14
                                        clear HO_16
                                        clear HO_21
                                        clear HO_80
                                        clear HO_433000
                                        clear HO_433001
                                        clear HO_433002
                                        clear HO_449000
                                        clear HO_449001
                                        clear HO_449002
                                        clear HO476
                                        clear HO479
                                        clear BK422
                                        clear BK432
                                        clear BK448
                                        clear HB
                                        have HO_13 := n0_
                                        have HO_14 := n1_
                                        have HO_16 := n2_
                                        have HO_21 := n3_
                                        have HO_80 := n4_
                                        have HO_433000 := n5_
                                        have HO_433001 := n6_
                                        have HO_433002 := n7_
                                        have HO_449000 := n8_
                                        have HO_449001 := n9_
                                        have HO_449002 := n10_
                                        have HO476 := n11_
                                        have HO479 := n12_
                                        have BK422 := n13_
                                        have BK432 := n14_
                                        have BK448 := n15_
                                        have HB := n16_
                                        clear n0_ n1_ n2_ n3_ n4_ n5_ n6_ n7_ n8_ n9_ n10_ n11_ n12_ n13_ n14_ n15_ n16_
                                        (try clear hb)
                                        (try clear hb2)
                                        (try clear hk)
                                        (try clear hi)
                                        refine hK.out _ _ ⟨(bCe BK432.out 0).trans rfl, (bCe BK432.out 1).trans rfl, (bCe BK432.out 2).trans rfl, (bCe BK448.out 0).trans rfl, (bCe BK448.out 1).trans rfl, (bCe BK448.out 2).trans rfl, Ag.ldMap_run BK422.out⟩ (fun hHeld => ?_)
                                        clear hK K
                                        refine norm_ (a' := ?_) ?_ ?_
                                        rotate_left
                                        · show Act.put _ (some 131) _ = _
                                          simp only [Act.put, List.setIfInBounds_toArray, List.set_cons_zero, List.set_cons_succ, i64_w, i32_w]
                                          rfl
                                        refine pure_ (i := 35) (N := some 133) (v := ?_) (a' := ?_) #[true, true, true, true, true, true, true, true, true, true, true, true, true, true, true, true, true, true, true, true, true, true, true, true, true, true, true, true, true, true, true, true, true, true, true, true, false, false, false, false, false, false, false, false, false, false, false, false, false, false, false, false, false] rfl rfl (any_of HT_.out (by kernel_rfl)) (fun _ _ _ h => h) (Or.inl ⟨by rfl, ?_⟩) ?_ ?_
                                        rotate_left
                                        · intro w'
                                          go_simp
                                          with_reducible rfl
                                        rotate_left
                                        · simp only [Act.put, List.setIfInBounds_toArray, List.set_cons_zero, List.set_cons_succ, i64_w, i32_w]
                                          rfl
                                        refine pure_ (i := 36) (N := some 134) (v := ?_) (a' := ?_) #[true, true, true, true, true, true, true, true, true, true, true, true, true, true, true, true, true, true, true, true, true, true, true, true, true, true, true, true, true, true, true, true, true, true, true, true, true, false, false, false, false, false, false, false, false, false, false, false, false, false, false, false, false] rfl rfl (any_of HT_.out (by kernel_rfl)) (fun _ _ _ h => h) (Or.inl ⟨by rfl, ?_⟩) ?_ ?_
                                        rotate_left
                                        · intro w'
                                          go_simp
                                          with_reducible rfl
                                        rotate_left
                                        · simp only [Act.put, List.setIfInBounds_toArray, List.set_cons_zero, List.set_cons_succ, i64_w, i32_w]
                                          rfl
                                        refine pure_ (i := 37) (N := some 135) (v := ?_) (a' := ?_) #[true, true, true, true, true, true, true, true, true, true, true, true, true, true, true, true, true, true, true, true, true, true, true, true, true, true, true, true, true, true, true, true, true, true, true, true, true, true, false, false, false, false, false, false, false, false, false, false, false, false, false, false, false] rfl rfl (any_of HT_.out (by kernel_rfl)) (fun _ _ _ h => h) (Or.inl ⟨by rfl, ?_⟩) ?_ ?_
                                        rotate_left
                                        · intro w'
                                          go_simp
                                          with_reducible rfl
                                        rotate_left
                                        · simp only [Act.put, List.setIfInBounds_toArray, List.set_cons_zero, List.set_cons_succ, i64_w, i32_w]
                                          rfl
                                        refine pure_ (i := 40) (N := some 138) (v := ?_) (a' := ?_) #[true, true, true, true, true, true, true, true, true, true, true, true, true, true, true, true, true, true, true, true, true, true, true, true, true, true, true, true, true, true, true, true, true, true, true, true, true, true, false, false, true, false, false, false, false, false, false, false, false, false, false, false, false] rfl rfl (any_of HT_.out (by kernel_rfl)) (fun _ _ _ h => h) (Or.inl ⟨by rfl, ?_⟩) ?_ ?_
                                        rotate_left
                                        · intro w'
                                          go_simp
                                          with_reducible rfl
                                        rotate_left
                                        · simp only [Act.put, List.setIfInBounds_toArray, List.set_cons_zero, List.set_cons_succ, i64_w, i32_w]
                                          rfl
                                        refine pure_ (i := 41) (N := some 139) (v := ?_) (a' := ?_) #[true, true, true, true, true, true, true, true, true, true, true, true, true, true, true, true, true, true, true, true, true, true, true, true, true, true, true, true, true, true, true, true, true, true, true, true, true, true, false, false, true, true, false, false, false, false, false, false, false, false, false, false, false] rfl rfl (any_of HT_.out (by kernel_rfl)) (fun _ _ _ h => h) (Or.inl ⟨by rfl, ?_⟩) ?_ ?_
                                        rotate_left
                                        · intro w'
                                          go_simp
                                          with_reducible rfl
                                        rotate_left
                                        · simp only [Act.put, List.setIfInBounds_toArray, List.set_cons_zero, List.set_cons_succ, i64_w, i32_w]
                                          rfl
                                        refine take_ (i := 38) (N := some 136) (v := ?_) (a' := ?_) #[true, true, true, true, true, true, true, true, true, true, true, true, true, true, true, true, true, true, true, true, true, true, true, true, true, true, true, true, true, true, true, true, true, true, true, true, true, true, true, false, true, true, false, false, false, false, false, false, false, false, false, false, false] rfl rfl (take_ofW HT_.out HW_.out (by kernel_rfl)) (fun _ _ _ h => h) (Or.inl ⟨by rfl, ?_⟩) hHeld ?_ ?_
                                        rotate_left
                                        · rintro w' ⟨s0, s1, s2, s3, s4, s5, s6⟩
                                          go_simp
                                          with_reducible rfl
                                        rotate_left
                                        · simp only [Act.put, List.setIfInBounds_toArray, List.set_cons_zero, List.set_cons_succ, i64_w, i32_w]
                                          rfl
                                        refine one_ (i := 39) (N := some 137) #[true, true, true, true, true, true, true, true, true, true, true, true, true, true, true, true, true, true, true, true, true, true, true, true, true, true, true, true, true, true, true, true, true, true, true, true, true, true, true, true, true, true, false, false, false, false, false, false, false, false, false, false, false] rfl rfl (one_of HT_.out (by kernel_rfl)) (by decide) (fun K hK => ?_)
                                        refine goes_ Tryd.func40 (by kernel_rfl) rfl #[.agg #[.slice Ao26 t423.length co26, .slice Ao29 t426.length co29, .slice Ao30 t429.length co30]] (by rfl) rfl rfl (by (try simp only [List.map_toArray, List.map_cons, List.map_nil]); first | done | rfl | (simp only [List.length_drop, List.length_take]; rfl)) ?_
                                        with_reducible refine (plan_Steps.calls _ _ t423 _ _ t426 _ _ t429 t483 _ ?side1 ?side2 ?side3 ?side4 ?side5 ?side6 A90.out).mono ?_
                                        (case side1 => repeat (first | exact (Kd.R_reads' HO_433000.out).2.2 | (with_reducible refine Kd.C_alloc ?_ _) | (with_reducible refine Kd.C_drewN ?_ _) | (with_reducible refine Kd.C_drew ?_)))
                                        (case side2 => exact (Kd.R_reads' HO_433000.out).2.1)
                                        (case side3 => repeat (first | exact (Kd.R_reads' HO_433001.out).2.2 | (with_reducible refine Kd.C_alloc ?_ _) | (with_reducible refine Kd.C_drewN ?_ _) | (with_reducible refine Kd.C_drew ?_)))
                                        (case side4 => exact (Kd.R_reads' HO_433001.out).2.1)
                                        (case side5 => repeat (first | exact (Kd.R_reads' HO_433002.out).2.2 | (with_reducible refine Kd.C_alloc ?_ _) | (with_reducible refine Kd.C_drewN ?_ _) | (with_reducible refine Kd.C_drew ?_)))
                                        (case side6 => exact (Kd.R_reads' HO_433002.out).2.1)
                                        rintro e w100 ⟨rfl, hb⟩
                                        refine ⟨_, rfl, ?_⟩
                                        have n0_ := AsZ.mk (Kd.R_below (by (with_reducible repeat (first | apply Kd.R_alloc | apply Kd.R_drewN | apply Kd.R_drew)); exact HO_13.out) hb)
                                        have n1_ := AsZ.mk (Kd.R_below (by (with_reducible repeat (first | apply Kd.R_alloc | apply Kd.R_drewN | apply Kd.R_drew)); exact HO_14.out) hb)
                                        have n2_ := AsZ.mk (Kd.R_below (by (with_reducible repeat (first | apply Kd.R_alloc | apply Kd.R_drewN | apply Kd.R_drew)); exact HO_16.out) hb)
                                        have n3_ := AsZ.mk (Kd.R_below (by (with_reducible repeat (first | apply Kd.R_alloc | apply Kd.R_drewN | apply Kd.R_drew)); exact HO_21.out) hb)
                                        have n4_ := AsZ.mk (Kd.R_below (by (with_reducible repeat (first | apply Kd.R_alloc | apply Kd.R_drewN | apply Kd.R_drew)); exact HO_80.out) hb)
                                        have n5_ := AsZ.mk (Kd.R_below (by (with_reducible repeat (first | apply Kd.R_alloc | apply Kd.R_drewN | apply Kd.R_drew)); exact HO_433000.out) hb)
                                        have n6_ := AsZ.mk (Kd.R_below (by (with_reducible repeat (first | apply Kd.R_alloc | apply Kd.R_drewN | apply Kd.R_drew)); exact HO_433001.out) hb)
                                        have n7_ := AsZ.mk (Kd.R_below (by (with_reducible repeat (first | apply Kd.R_alloc | apply Kd.R_drewN | apply Kd.R_drew)); exact HO_433002.out) hb)
                                        have n8_ := AsZ.mk (Kd.R_below (by (with_reducible repeat (first | apply Kd.R_alloc | apply Kd.R_drewN | apply Kd.R_drew)); exact HO_449000.out) hb)
                                        have n9_ := AsZ.mk (Kd.R_below (by (with_reducible repeat (first | apply Kd.R_alloc | apply Kd.R_drewN | apply Kd.R_drew)); exact HO_449001.out) hb)
                                        have n10_ := AsZ.mk (Kd.R_below (by (with_reducible repeat (first | apply Kd.R_alloc | apply Kd.R_drewN | apply Kd.R_drew)); exact HO_449002.out) hb)
                                        have n11_ := AsZ.mk (Kd.R_below (by (with_reducible repeat (first | apply Kd.R_alloc | apply Kd.R_drewN | apply Kd.R_drew)); exact HO476.out) hb)
                                        have n12_ := AsZ.mk (Kd.R_below (by (with_reducible repeat (first | apply Kd.R_alloc | apply Kd.R_drewN | apply Kd.R_drew)); exact HO479.out) hb)
                                        have n13_ := AsZ.mk (bBl (g := gb422) (o := .cells (Ag.agC .u64 65 t421) 27 (0, 0)) (by (with_reducible repeat first | apply bDn | apply bDr | apply bAl); exact BK422.out) hb)
                                        have n14_ := AsZ.mk (bBl (g := gb432) (o := .cells #[.slice Ao26 t423.length co26, .slice Ao29 t426.length co29, .slice Ao30 t429.length co30] 60 (0, 0)) (by (with_reducible repeat first | apply bDn | apply bDr | apply bAl); exact BK432.out) hb)
                                        have n15_ := AsZ.mk (bBl (g := gb448) (o := .cells #[.slice Ao38 t439.length co38, .slice Ao42 t442.length co42, .slice Ao43 t445.length co43] 60 (0, 0)) (by (with_reducible repeat first | apply bDn | apply bDr | apply bAl); exact BK448.out) hb)
                                        have n16_ := AsZ.mk (tBl (by repeat (first | (with_reducible first | exact HB.out | apply aBl | apply pBd | apply dBl | refine sBl ?_ GE422.out | refine Ag.row_below ?_ GE422.out | refine sBl ?_ GE432.out | refine Ag.row_below ?_ GE432.out | refine sBl ?_ GE448.out | refine Ag.row_below ?_ GE448.out) | exact HB.out)) hb)
                                        clear HO_13
                                        clear HO_14
                                        clear HO_16
                                        clear HO_21
                                        clear HO_80
                                        clear HO_433000
                                        clear HO_433001
                                        clear HO_433002
                                        clear HO_449000
                                        clear HO_449001
                                        clear HO_449002
                                        clear HO476
                                        clear HO479
                                        clear BK422
                                        clear BK432
                                        clear BK448
                                        clear HB
                                        have HO_13 := n0_
                                        have HO_14 := n1_
                                        have HO_16 := n2_
                                        have HO_21 := n3_
                                        have HO_80 := n4_
                                        have HO_433000 := n5_
                                        have HO_433001 := n6_
                                        have HO_433002 := n7_
                                        have HO_449000 := n8_
                                        have HO_449001 := n9_
                                        have HO_449002 := n10_
                                        have HO476 := n11_
                                        have HO479 := n12_
                                        have BK422 := n13_
                                        have BK432 := n14_
                                        have BK448 := n15_
                                        have HB := n16_
                                        clear n0_ n1_ n2_ n3_ n4_ n5_ n6_ n7_ n8_ n9_ n10_ n11_ n12_ n13_ n14_ n15_ n16_
                                        (try clear hb)
                                        (try clear hb2)
                                        (try clear hk)
                                        (try clear hi)
                                        refine hK.out _ _ ⟨(bCe BK432.out 0).trans rfl, (bCe BK432.out 1).trans rfl, (bCe BK432.out 2).trans rfl, (bCe BK448.out 0).trans rfl, (bCe BK448.out 1).trans rfl, (bCe BK448.out 2).trans rfl, Ag.ldMap_run BK422.out⟩ (fun hHeld => ?_)
                                        clear hK K
                                        refine norm_ (a' := ?_) ?_ ?_
                                        rotate_left
                                        · show Act.put _ (some 137) _ = _
                                          simp only [Act.put, List.setIfInBounds_toArray, List.set_cons_zero, List.set_cons_succ, i64_w, i32_w]
                                          rfl
                                        refine pure_ (i := 42) (N := some 140) (v := ?_) (a' := ?_) #[true, true, true, true, true, true, true, true, true, true, true, true, true, true, true, true, true, true, true, true, true, true, true, true, true, true, true, true, true, true, true, true, true, true, true, true, true, true, true, true, true, true, true, false, false, false, false, false, false, false, false, false, false] rfl rfl (any_of HT_.out (by kernel_rfl)) (fun _ _ _ h => h) (Or.inl ⟨by rfl, ?_⟩) ?_ ?_
                                        rotate_left
                                        · intro w'
                                          go_simp
                                          with_reducible rfl
                                        rotate_left
                                        · simp only [Act.put, List.setIfInBounds_toArray, List.set_cons_zero, List.set_cons_succ, i64_w, i32_w]
                                          rfl
                                        refine pure_ (i := 43) (N := some 141) (v := ?_) (a' := ?_) #[true, true, true, true, true, true, true, true, true, true, true, true, true, true, true, true, true, true, true, true, true, true, true, true, true, true, true, true, true, true, true, true, true, true, true, true, true, true, true, true, true, true, true, true, false, false, false, false, false, false, false, false, false] rfl rfl (any_of HT_.out (by kernel_rfl)) (fun _ _ _ h => h) (Or.inl ⟨by rfl, ?_⟩) ?_ ?_
                                        rotate_left
                                        · intro w'
                                          go_simp
                                          with_reducible rfl
                                        rotate_left
                                        · simp only [Act.put, List.setIfInBounds_toArray, List.set_cons_zero, List.set_cons_succ, i64_w, i32_w]
                                          rfl
                                        refine pure_ (i := 44) (N := some 142) (v := ?_) (a' := ?_) #[true, true, true, true, true, true, true, true, true, true, true, true, true, true, true, true, true, true, true, true, true, true, true, true, true, true, true, true, true, true, true, true, true, true, true, true, true, true, true, true, true, true, true, true, true, false, false, false, false, false, false, false, false] rfl rfl (any_of HT_.out (by kernel_rfl)) (fun _ _ _ h => h) (Or.inl ⟨by rfl, ?_⟩) ?_ ?_
                                        rotate_left
                                        · intro w'
                                          go_simp
                                          with_reducible rfl
                                        rotate_left
                                        · simp only [Act.put, List.setIfInBounds_toArray, List.set_cons_zero, List.set_cons_succ, i64_w, i32_w]
                                          rfl
                                        refine pure_ (i := 46) (N := some 144) (v := ?_) (a' := ?_) #[true, true, true, true, true, true, true, true, true, true, true, true, true, true, true, true, true, true, true, true, true, true, true, true, true, true, true, true, true, true, true, true, true, true, true, true, true, true, true, true, true, true, true, true, true, false, true, false, false, false, false, false, false] rfl rfl (any_of HT_.out (by kernel_rfl)) (fun _ _ _ h => h) (Or.inl ⟨by rfl, ?_⟩) ?_ ?_
                                        rotate_left
                                        · intro w'
                                          go_simp
                                          with_reducible rfl
                                        rotate_left
                                        · simp only [Act.put, List.setIfInBounds_toArray, List.set_cons_zero, List.set_cons_succ, i64_w, i32_w]
                                          rfl
                                        refine pure_ (i := 47) (N := some 145) (v := ?_) (a' := ?_) #[true, true, true, true, true, true, true, true, true, true, true, true, true, true, true, true, true, true, true, true, true, true, true, true, true, true, true, true, true, true, true, true, true, true, true, true, true, true, true, true, true, true, true, true, true, false, true, true, false, false, false, false, false] rfl rfl (any_of HT_.out (by kernel_rfl)) (fun _ _ _ h => h) (Or.inl ⟨by rfl, ?_⟩) ?_ ?_
                                        rotate_left
                                        · intro w'
                                          go_simp
                                          with_reducible rfl
                                        rotate_left
                                        · simp only [Act.put, List.setIfInBounds_toArray, List.set_cons_zero, List.set_cons_succ, i64_w, i32_w]
                                          rfl
                                        refine pure_ (i := 49) (N := some 147) (v := ?_) (a' := ?_) #[true, true, true, true, true, true, true, true, true, true, true, true, true, true, true, true, true, true, true, true, true, true, true, true, true, true, true, true, true, true, true, true, true, true, true, true, true, true, true, true, true, true, true, true, true, false, true, true, false, true, false, false, false] rfl rfl (any_of HT_.out (by kernel_rfl)) (fun _ _ _ h => h) (Or.inl ⟨by rfl, ?_⟩) ?_ ?_
                                        rotate_left
                                        · intro w'
                                          go_simp
                                          with_reducible rfl
                                        rotate_left
                                        · simp only [Act.put, List.setIfInBounds_toArray, List.set_cons_zero, List.set_cons_succ, i64_w, i32_w]
                                          rfl
                                        refine take_ (i := 45) (N := some 143) (v := ?_) (a' := ?_) #[true, true, true, true, true, true, true, true, true, true, true, true, true, true, true, true, true, true, true, true, true, true, true, true, true, true, true, true, true, true, true, true, true, true, true, true, true, true, true, true, true, true, true, true, true, true, true, true, false, true, false, false, false] rfl rfl (take_ofW HT_.out HW_.out (by kernel_rfl)) (fun _ _ _ h => h) (Or.inl ⟨by rfl, ?_⟩) hHeld ?_ ?_
                                        rotate_left
                                        · rintro w' ⟨s0, s1, s2, s3, s4, s5, s6⟩
                                          go_simp
                                          with_reducible rfl
                                        rotate_left
                                        · simp only [Act.put, List.setIfInBounds_toArray, List.set_cons_zero, List.set_cons_succ, i64_w, i32_w]
                                          rfl
                                        refine one_ (i := 48) (N := some 146) #[true, true, true, true, true, true, true, true, true, true, true, true, true, true, true, true, true, true, true, true, true, true, true, true, true, true, true, true, true, true, true, true, true, true, true, true, true, true, true, true, true, true, true, true, true, true, true, true, true, true, false, false, false] rfl rfl (one_of HT_.out (by kernel_rfl)) (by decide) (fun K hK => ?_)
                                        refine goes_ Tryd.func41 (by kernel_rfl) rfl #[.agg #[.slice Ao26 t423.length co26, .slice Ao29 t426.length co29, .slice Ao30 t429.length co30], .int .i64 a1, .int .i64 a2] (by rfl) rfl rfl (by (try simp only [List.map_toArray, List.map_cons, List.map_nil]); first | done | rfl | (simp only [List.length_drop, List.length_take]; rfl)) ?_
                                        with_reducible refine (plan_Cost.calls _ _ t423 _ _ t426 _ _ t429 a1 a2 t484 _ ?side1 ?side2 ?side3 ?side4 ?side5 ?side6 A92.out).mono ?_
                                        (case side1 => repeat (first | exact (Kd.R_reads' HO_433000.out).2.2 | (with_reducible refine Kd.C_alloc ?_ _) | (with_reducible refine Kd.C_drewN ?_ _) | (with_reducible refine Kd.C_drew ?_)))
                                        (case side2 => exact (Kd.R_reads' HO_433000.out).2.1)
                                        (case side3 => repeat (first | exact (Kd.R_reads' HO_433001.out).2.2 | (with_reducible refine Kd.C_alloc ?_ _) | (with_reducible refine Kd.C_drewN ?_ _) | (with_reducible refine Kd.C_drew ?_)))
                                        (case side4 => exact (Kd.R_reads' HO_433001.out).2.1)
                                        (case side5 => repeat (first | exact (Kd.R_reads' HO_433002.out).2.2 | (with_reducible refine Kd.C_alloc ?_ _) | (with_reducible refine Kd.C_drewN ?_ _) | (with_reducible refine Kd.C_drew ?_)))
                                        (case side6 => exact (Kd.R_reads' HO_433002.out).2.1)
                                        rintro e w101 ⟨rfl, hb⟩
                                        refine ⟨_, rfl, ?_⟩
                                        have n0_ := AsZ.mk (Kd.R_below (by (with_reducible repeat (first | apply Kd.R_alloc | apply Kd.R_drewN | apply Kd.R_drew)); exact HO_13.out) hb)
                                        have n1_ := AsZ.mk (Kd.R_below (by (with_reducible repeat (first | apply Kd.R_alloc | apply Kd.R_drewN | apply Kd.R_drew)); exact HO_14.out) hb)
                                        have n2_ := AsZ.mk (Kd.R_below (by (with_reducible repeat (first | apply Kd.R_alloc | apply Kd.R_drewN | apply Kd.R_drew)); exact HO_16.out) hb)
                                        have n3_ := AsZ.mk (Kd.R_below (by (with_reducible repeat (first | apply Kd.R_alloc | apply Kd.R_drewN | apply Kd.R_drew)); exact HO_21.out) hb)
                                        have n4_ := AsZ.mk (Kd.R_below (by (with_reducible repeat (first | apply Kd.R_alloc | apply Kd.R_drewN | apply Kd.R_drew)); exact HO_80.out) hb)
                                        have n5_ := AsZ.mk (Kd.R_below (by (with_reducible repeat (first | apply Kd.R_alloc | apply Kd.R_drewN | apply Kd.R_drew)); exact HO_433000.out) hb)
                                        have n6_ := AsZ.mk (Kd.R_below (by (with_reducible repeat (first | apply Kd.R_alloc | apply Kd.R_drewN | apply Kd.R_drew)); exact HO_433001.out) hb)
                                        have n7_ := AsZ.mk (Kd.R_below (by (with_reducible repeat (first | apply Kd.R_alloc | apply Kd.R_drewN | apply Kd.R_drew)); exact HO_433002.out) hb)
                                        have n8_ := AsZ.mk (Kd.R_below (by (with_reducible repeat (first | apply Kd.R_alloc | apply Kd.R_drewN | apply Kd.R_drew)); exact HO_449000.out) hb)
                                        have n9_ := AsZ.mk (Kd.R_below (by (with_reducible repeat (first | apply Kd.R_alloc | apply Kd.R_drewN | apply Kd.R_drew)); exact HO_449001.out) hb)
                                        have n10_ := AsZ.mk (Kd.R_below (by (with_reducible repeat (first | apply Kd.R_alloc | apply Kd.R_drewN | apply Kd.R_drew)); exact HO_449002.out) hb)
                                        have n11_ := AsZ.mk (Kd.R_below (by (with_reducible repeat (first | apply Kd.R_alloc | apply Kd.R_drewN | apply Kd.R_drew)); exact HO476.out) hb)
                                        have n12_ := AsZ.mk (Kd.R_below (by (with_reducible repeat (first | apply Kd.R_alloc | apply Kd.R_drewN | apply Kd.R_drew)); exact HO479.out) hb)
                                        have n13_ := AsZ.mk (bBl (g := gb422) (o := .cells (Ag.agC .u64 65 t421) 27 (0, 0)) (by (with_reducible repeat first | apply bDn | apply bDr | apply bAl); exact BK422.out) hb)
                                        have n14_ := AsZ.mk (bBl (g := gb432) (o := .cells #[.slice Ao26 t423.length co26, .slice Ao29 t426.length co29, .slice Ao30 t429.length co30] 60 (0, 0)) (by (with_reducible repeat first | apply bDn | apply bDr | apply bAl); exact BK432.out) hb)
                                        have n15_ := AsZ.mk (bBl (g := gb448) (o := .cells #[.slice Ao38 t439.length co38, .slice Ao42 t442.length co42, .slice Ao43 t445.length co43] 60 (0, 0)) (by (with_reducible repeat first | apply bDn | apply bDr | apply bAl); exact BK448.out) hb)
                                        have n16_ := AsZ.mk (tBl (by repeat (first | (with_reducible first | exact HB.out | apply aBl | apply pBd | apply dBl | refine sBl ?_ GE422.out | refine Ag.row_below ?_ GE422.out | refine sBl ?_ GE432.out | refine Ag.row_below ?_ GE432.out | refine sBl ?_ GE448.out | refine Ag.row_below ?_ GE448.out) | exact HB.out)) hb)
                                        clear HO_13
                                        clear HO_14
                                        clear HO_16
                                        clear HO_21
                                        clear HO_80
                                        clear HO_433000
                                        clear HO_433001
                                        clear HO_433002
                                        clear HO_449000
                                        clear HO_449001
                                        clear HO_449002
                                        clear HO476
                                        clear HO479
                                        clear BK422
                                        clear BK432
                                        clear BK448
                                        clear HB
                                        have HO_13 := n0_
                                        have HO_14 := n1_
                                        have HO_16 := n2_
                                        have HO_21 := n3_
                                        have HO_80 := n4_
                                        have HO_433000 := n5_
                                        have HO_433001 := n6_
                                        have HO_433002 := n7_
                                        have HO_449000 := n8_
                                        have HO_449001 := n9_
                                        have HO_449002 := n10_
                                        have HO476 := n11_
                                        have HO479 := n12_
                                        have BK422 := n13_
                                        have BK432 := n14_
                                        have BK448 := n15_
                                        have HB := n16_
                                        clear n0_ n1_ n2_ n3_ n4_ n5_ n6_ n7_ n8_ n9_ n10_ n11_ n12_ n13_ n14_ n15_ n16_
                                        (try clear hb)
                                        (try clear hb2)
                                        (try clear hk)
                                        (try clear hi)
                                        refine hK.out _ _ ⟨(bCe BK432.out 0).trans rfl, (bCe BK432.out 1).trans rfl, (bCe BK432.out 2).trans rfl, (bCe BK448.out 0).trans rfl, (bCe BK448.out 1).trans rfl, (bCe BK448.out 2).trans rfl, Ag.ldMap_run BK422.out⟩ (fun hHeld => ?_)
                                        clear hK K
                                        refine norm_ (a' := ?_) ?_ ?_
                                        rotate_left
                                        · show Act.put _ (some 146) _ = _
                                          simp only [Act.put, List.setIfInBounds_toArray, List.set_cons_zero, List.set_cons_succ, i64_w, i32_w]
                                          rfl
                                        refine pure_ (i := 50) (N := some 148) (v := ?_) (a' := ?_) #[true, true, true, true, true, true, true, true, true, true, true, true, true, true, true, true, true, true, true, true, true, true, true, true, true, true, true, true, true, true, true, true, true, true, true, true, true, true, true, true, true, true, true, true, true, true, true, true, true, true, true, false, false] rfl rfl (any_of HT_.out (by kernel_rfl)) (fun _ _ _ h => h) (Or.inl ⟨by rfl, ?_⟩) ?_ ?_
                                        rotate_left
                                        · intro w'
                                          go_simp
                                          with_reducible rfl
                                        rotate_left
                                        · simp only [Act.put, List.setIfInBounds_toArray, List.set_cons_zero, List.set_cons_succ, i64_w, i32_w]
                                          rfl
                                        refine pure_ (i := 51) (N := some 149) (v := ?_) (a' := ?_) #[true, true, true, true, true, true, true, true, true, true, true, true, true, true, true, true, true, true, true, true, true, true, true, true, true, true, true, true, true, true, true, true, true, true, true, true, true, true, true, true, true, true, true, true, true, true, true, true, true, true, true, true, false] rfl rfl (any_of HT_.out (by kernel_rfl)) (fun _ _ _ h => h) (Or.inl ⟨by rfl, ?_⟩) ?_ ?_
                                        rotate_left
                                        · intro w'
                                          go_simp
                                          with_reducible rfl
                                        rotate_left
                                        · simp only [Act.put, List.setIfInBounds_toArray, List.set_cons_zero, List.set_cons_succ, i64_w, i32_w]
                                          rfl
                                        refine pure_ (i := 52) (N := some 10) (v := ?_) (a' := ?_) #[true, true, true, true, true, true, true, true, true, true, true, true, true, true, true, true, true, true, true, true, true, true, true, true, true, true, true, true, true, true, true, true, true, true, true, true, true, true, true, true, true, true, true, true, true, true, true, true, true, true, true, true, true] rfl rfl (any_of HT_.out (by kernel_rfl)) (fun _ _ _ h => h) (Or.inl ⟨by rfl, ?_⟩) ?_ ?_
                                        rotate_left
                                        · intro w'
                                          go_simp
                                          with_reducible rfl
                                        rotate_left
                                        · simp only [Act.put, List.setIfInBounds_toArray, List.set_cons_zero, List.set_cons_succ, i64_w, i32_w]
                                          rfl
                                        refine done_ (done_of HT_.out (by kernel_rfl)) ?_
                                        try go_wp2
                                        go_ret
                                        exact ⟨by first | rfl | exact nEm _ | exact eEm _ | (simp [eWn, eWs] <;> rfl) | (simp [*, eWn, eWs] <;> rfl), by repeat (first | (with_reducible first | exact HB.out | apply aBl | apply pBd | apply dBl | refine sBl ?_ GE422.out | refine Ag.row_below ?_ GE422.out | refine sBl ?_ GE432.out | refine Ag.row_below ?_ GE432.out | refine sBl ?_ GE448.out | refine Ag.row_below ?_ GE448.out) | exact HB.out)⟩
                                      · rw [if_neg c91] at H
                                        have c91b0 : (t483 == (t463.length : Int)) = false := beq_eq_false_iff_ne.mpr c91
                                        have c91b1 : (t483 != (t463.length : Int)) = true := bne_iff_ne.mpr c91
                                        exact absurd H (by rw [HRT_.out]; simp)
                                    · rw [if_neg c89] at H
                                      have c89b0 : (t482 == x17_2) = false := by simpa using c89
                                      (try (have c89b1 : decide (t482 = x17_2) = false := by simpa using c89))
                                      (try (have c89b2 : (t482 == x17_2) = false := by simpa using c89))
                                      (try (have c89b3 : ¬ (t482 = x17_2) := by simpa using c89))
                                      clear c89
                                      exact absurd H (by rw [HRT_.out]; simp)
                                  · replace c87 := Bool.eq_false_iff.mpr c87
                                    subst c87
                                    have H1 : (some false) = some r := by rw [if_neg (show ¬ (false = true) by decide)] at H; exact H
                                    clear H
                                    have H := H1
                                    clear H1
                                    exact absurd H (by rw [HRT_.out]; simp)
                                · replace c85 := Bool.eq_false_iff.mpr c85
                                  subst c85
                                  have H1 : (some false) = some r := by rw [if_neg (show ¬ (false = true) by decide)] at H; exact H
                                  clear H
                                  have H := H1
                                  clear H1
                                  exact absurd H (by rw [HRT_.out]; simp)
                              · replace c81 := Bool.eq_false_iff.mpr c81
                                subst c81
                                have H1 : (some false) = some r := by rw [if_neg (show ¬ (false = true) by decide)] at H; exact H
                                clear H
                                have H := H1
                                clear H1
                                exact absurd H (by rw [HRT_.out]; simp)
                            · replace c79 := Bool.eq_false_iff.mpr c79
                              subst c79
                              have H1 : (some false) = some r := by rw [if_neg (show ¬ (false = true) by decide)] at H; exact H
                              clear H
                              have H := H1
                              clear H1
                              exact absurd H (by rw [HRT_.out]; simp)
                          · replace c77 := Bool.eq_false_iff.mpr c77
                            subst c77
                            have H1 : (some false) = some r := by rw [if_neg (show ¬ (false = true) by decide)] at H; exact H
                            clear H
                            have H := H1
                            clear H1
                            exact absurd H (by rw [HRT_.out]; simp)
            · rw [if_neg c19] at H
              exact absurd H (by simp)
          · rw [if_neg c18] at H
            exact absurd H (by simp)
  · replace c7 := Bool.eq_false_iff.mpr c7
    subst c7
    have H1 : (some false) = some r := by rw [if_neg (show ¬ (false = true) by decide)] at H; exact H
    clear H
    have H := H1
    clear H1
    exact absurd H (by rw [HRT_.out]; simp)
/-- THE ONE PURE STATEMENT of spencelaw28_PlanMakes. -/
def spencelaw28_PlanMakes.Pure : Prop := ∀ (l0 : List (S53)) (a1 : Int) (a2 : Int) (l3 : List Int) (l4 : List Int), l0.length * 16 ≤ 140737488351232 → (∀ x ∈ l0, ((Lit.int .i64 x.f0).wf = true ∧ (Lit.int .i64 x.f1).wf = true)) → (Lit.int .i64 a1).wf = true → (Lit.int .i64 a2).wf = true → l3.length * 8 ≤ 140737488351232 → (∀ x ∈ l3, (Lit.int .i64 x).wf = true) → l4.length * 8 ≤ 140737488351232 → (∀ x ∈ l4, (Lit.int .i64 x).wf = true) → ∃ k, spencelaw28_PlanMakes.f k l0 a1 a2 l3 l4 = some true
end Go.Proofs.YtcnlmpjoghogbaaDoor.PAll
namespace Go.Proofs.YtcnlmpjoghogbaaDoor.Pure
open Go.RowKit Go.Proofs.YtcnlmpjoghogbaaDoor.Xw Go.Proofs.YtcnlmpjoghogbaaDoor.PAll Go.Proofs.YtcnlmpjoghogbaaDoorW.PrintWords Go.Proofs.YtcnlmpjoghogbaaDoorW.PrintLast Go.Proofs.YtcnlmpjoghogbaaDoorW.PrintMore
open Go.Proofs.YtcnlmpjoghogbaaDoor.Ag (hasF withF zeroF has_of)
abbrev RunS := S50
theorem in_loop (l : List Int) (x : Int) (hl : l.length ≤ 100000) (d : Nat) : ∀ i : Int, 0 ≤ i → i ≤ l.length → (l.length : Int) - i = d → Ev (fun k => spenceref01_In.l0 k x l l.length i) (decide (x ∈ l.drop i.toNat)) := by
  induction d with
  | zero =>
    intro i h0 h1 hd
    refine Ev.pos (fun k => ?_)
    simp only [spenceref01_In.l0]
    rw [if_neg (by omega), List.drop_of_length_le (by omega)]; simp
  | succ d ih =>
    intro i h0 h1 hd
    have hi : i.toNat < l.length := by omega
    have e1 : (i + 1).toNat = i.toNat + 1 := by omega
    have hn := ih (i + 1) (by omega) (by omega) (by omega)
    rw [e1] at hn
    have hr : rd l i = l[i.toNat] := by unfold rd; simp [List.getD_eq_getElem?_getD, List.getElem?_eq_getElem hi]
    rw [List.drop_eq_getElem_cons hi]
    generalize l[i.toNat] = y at hr
    refine Ev.succ ?_
    simp only [spenceref01_In.l0, show i < (l.length : Int) by omega, h0, if_true, hr]
    by_cases hy : y = x
    · simp only [hy, if_true]; rw [decide_eq_true List.mem_cons_self]; exact Ev.now _
    · simp only [hy, if_false]
      rw [wrap_id (by omega)]
      have : decide (x ∈ y :: l.drop (i.toNat + 1)) = decide (x ∈ l.drop (i.toNat + 1)) := by
        rw [decide_eq_decide, List.mem_cons]
        exact ⟨fun h => h.resolve_left (fun e => hy e.symm), .inr⟩
      rw [this]; exact hn
theorem in_ev (l : List Int) (x : Int) (hl : l.length ≤ 100000) : Ev (fun k => spenceref01_In.f k l x) (decide (x ∈ l)) := by
  have := in_loop l x hl l.length 0 (by omega) (by omega) (by omega)
  rwa [Int.toNat_zero, List.drop_zero] at this
def rng (a : Int) (n : Nat) : List Int := (List.range n).map fun j : Nat => a + (j : Int)
theorem rng_len (a : Int) (n : Nat) : (rng a n).length = n := by simp [rng]
theorem rng_succ (a : Int) (n : Nat) : rng a (n + 1) = rng a n ++ [a + (n : Int)] := by simp [rng, List.range_succ]
theorem rng_mem (a x : Int) (n : Nat) : x ∈ rng a n ↔ a ≤ x ∧ x < a + n := by
  simp only [rng, List.mem_map, List.mem_range]
  constructor
  · rintro ⟨j, hj, rfl⟩; omega
  · rintro ⟨h1, h2⟩; exact ⟨(x - a).toNat, by omega, by omega⟩
theorem rng_rd (a : Int) (n : Nat) (i : Int) (h0 : 0 ≤ i) (h1 : i < n) : rd (rng a n) i = a + i := by
  have : i.toNat < n := by omega
  unfold rd rng
  simp [List.getD_eq_getElem?_getD, this]
  omega
theorem same_runs_loop (l : List RunS) (hl : l.length ≤ 100000) (d : Nat) : ∀ i : Int, 0 ≤ i → i ≤ l.length → (l.length : Int) - i = d → Ev (fun k => spenceref24_Runs.l0 k l l l.length i) true := by
  induction d with
  | zero => intro i h0 h1 hd; exact Ev.pos (fun k => by simp only [spenceref24_Runs.l0]; rw [if_neg (by omega)])
  | succ d ih =>
    intro i h0 h1 hd
    refine Ev.step (fun k => ?_) (ih (i + 1) (by omega) (by omega) (by omega))
    simp only [spenceref24_Runs.l0, beq_self_eq_true, Bool.not_true, Bool.or_self, Bool.false_eq_true, if_false]
    rw [if_pos (by omega), if_pos h0, if_pos (by omega), if_pos (by omega), wrap_id (by omega)]
theorem same_runs (l : List RunS) (hl : l.length ≤ 100000) : Ev (fun k => spenceref24_Runs.f k l l) true := by
  unfold spenceref24_Runs.f
  simp only [if_true]
  exact same_runs_loop l hl l.length 0 (by omega) (by omega) (by omega)
end Go.Proofs.YtcnlmpjoghogbaaDoor.Pure
