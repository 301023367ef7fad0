/- The law PlanBytes: for every input the call returns true, and each argument reads behind the call as it read before. No condition. (The row, and the plain law ahead of it.) -/
import Derived.Test.YtcnlmpjoghogbaaDoorKPlanBytes1
import Derived.Test.YtcnlmpjoghogbaaDoorKPlanBytes3
import Derived.Test.YtcnlmpjoghogbaaDoorKPlanBytes2
import Derived.Test.YtcnlmpjoghogbaaDoorRows
import Derived.Test.YtcnlmpjoghogbaaDoorCards
import Derived.Test.YtcnlmpjoghogbaaDoorTie
import Derived.LaidMore
import Derived.Lay
import Derived.SevenTiedAt
import Derived.Stop.Joined
import Derived.WalkKit
import Derived.ProofKit
import Derived.OpenShut
import Derived.ShutString
import Derived.ChangeOld
import Derived.Below
import Derived.SizedLaws
namespace Go.Proofs.YtcnlmpjoghogbaaDoor.PAll
open Go.Proofs.YtcnlmpjoghogbaaDoor.Ag (row_load row_store ag_gate ag_gate_st row_store2)
open Go.RowKit Go.Proofs.YtcnlmpjoghogbaaDoor.Xw Go.Proofs.YtcnlmpjoghogbaaDoorW.PrintWords Go.Proofs.YtcnlmpjoghogbaaDoorW.PrintLast Go.Proofs.YtcnlmpjoghogbaaDoorW.PrintMore
attribute [local go_sem] max2_int min2_int max_two min_two max_three min_three max_four min_four   -- for this text's walks alone
attribute [local go_sem ↓] Ag.ldMap_eq
set_option linter.unusedVariables false
set_option linter.unusedSimpArgs false
attribute [local go_sem high] eqA53
def spencelaw28_bytes.f (k : Nat) (a0_0 a0_1 : Int) (_a0_2 : Bool) (a1 a2 : Int) : Option (Int × Int) := if a0_0 ≥ a0_1 then some (0, 0) else (spenceref04_Bounds.f k a0_0 a1 a2).bind fun a => (spenceref04_Bounds.f k (wrap64 (a0_1 - 1)) a1 a2).bind fun b => some (if a.2 = 0 ∨ b.2 = 0 then (0, 0) else (a.1, b.2))
theorem spencelaw28_bytes.mono : ∀ a0 a1 a2 a3 a4 k, LeO (spencelaw28_bytes.f k a0 a1 a2 a3 a4) (spencelaw28_bytes.f (k + 1) a0 a1 a2 a3 a4) := by
  intro a0 a1 a2 a3 a4 k r h
  unfold spencelaw28_bytes.f at h ⊢
  by_cases c : a0 ≥ a1
  · rw [if_pos c] at h ⊢; exact h
  · rw [if_neg c] at h ⊢
    obtain ⟨a, ha, h⟩ := Option.bind_eq_some_iff.1 h
    obtain ⟨b, hb, h⟩ := Option.bind_eq_some_iff.1 h
    rw [spenceref04_Bounds.mono _ _ _ k a ha, Option.bind_some, spenceref04_Bounds.mono _ _ _ k b hb, Option.bind_some]
    exact h
theorem spencelaw28_bytes.calls (k : Nat) (a0_0 a0_1 : Int) (a0_2 : Bool) (a1 a2 : Int) (r1 r2 : Int) (w : World) (h : spencelaw28_bytes.f k a0_0 a0_1 a0_2 a1 a2 = some (r1, r2)) :
    Calls Tryd.prog 35 #[.agg #[.int .i64 a0_0, .int .i64 a0_1, .bool a0_2], .int .i64 a1, .int .i64 a2] w fun e w' => e = .returned (.agg #[.int .i64 r1, .int .i64 r2]) ∧ Below w.heap.size w w' := by
  unfold spencelaw28_bytes.f at h
  by_cases c : a0_0 ≥ a0_1
  · rw [if_pos c] at h
    obtain ⟨rfl, rfl⟩ := Prod.mk.inj (Option.some.inj h)
    exact Ag.bytes_none a0_0 a0_1 a0_2 a1 a2 c w
  · rw [if_neg c] at h
    obtain ⟨⟨x1, x2⟩, ha, h⟩ := Option.bind_eq_some_iff.1 h
    obtain ⟨⟨y1, y2⟩, hb, h⟩ := Option.bind_eq_some_iff.1 h
    exact Ag.bytes_calls a0_0 a0_1 a0_2 a1 a2 _ x1 x2 y1 y2 rfl c r1 r2 (Option.some.inj h) (fun X => spenceref04_Bounds.calls k a0_0 a1 a2 x1 x2 X ha) (fun X => spenceref04_Bounds.calls k _ a1 a2 y1 y2 X hb) w
def spencelaw28_PlanBytes.j0 : Nat → Int → Int → Bool → Int → Int → Bool → Option (Bool)
  | 0, _, _, _, _, _, _ => none
  | k + 1, x1, x2, x19, x371000, x371001, x371002 => if x19 = true then (some true) else ((plan_Bytes.f x371000 x371001 x371002 x1 x2).bind fun bt372 => ((spencelaw28_bytes.f k x371000 x371001 x371002 x1 x2).bind fun bt376 => (if (bt372.1 == bt376.1 && (bt372.2.1 == bt376.2)) = true then (some (bt372.2.2 == (decide (bt376.2 > 0)))) else (some false))))
def spencelaw28_PlanBytes.f (k : Nat) (a0_0 : Int) (a0_1 : Int) (a0_2 : Bool) (a1 : Int) (a2 : Int) : Option (Bool) := (spencelaw28_awake.f k).bind fun t371 => (if t371 = true then (if a0_1 < (-1099511627776) then (spencelaw28_PlanBytes.j0 k a1 a2 true a0_0 a0_1 a0_2) else (spencelaw28_PlanBytes.j0 k a1 a2 (decide (a0_1 > 1099511627776)) a0_0 a0_1 a0_2)) else (some false))
theorem spencelaw28_PlanBytes.mono_l : ∀ k, (∀ y0 y1 y2 y3 y4 y5, LeO (spencelaw28_PlanBytes.j0 k y0 y1 y2 y3 y4 y5) (spencelaw28_PlanBytes.j0 (k + 1) y0 y1 y2 y3 y4 y5))
  | 0 => fun _ _ _ _ _ _ r h => by simp [spencelaw28_PlanBytes.j0] at h
  | k + 1 => by
    have ih0 := spencelaw28_PlanBytes.mono_l k
    · intro y0 y1 y2 y3 y4 y5
      unfold spencelaw28_PlanBytes.j0
      repeat' first
      | (with_reducible exact ih0 _ _ _ _ _ _)
      | (with_reducible exact spencelaw28_awake.mono _)
      | (with_reducible exact spencelaw28_bytes.mono _ _ _ _ _ _)
      | (with_reducible exact LeO.refl _)
      | (with_reducible exact LeO.none _)
      | (with_reducible refine LeO.ite ?_ ?_)
      | (with_reducible refine LeO.bind ?_ (fun _ => ?_))
      | exact ih0 _ _ _ _ _ _
      | exact spencelaw28_awake.mono _
      | exact spencelaw28_bytes.mono _ _ _ _ _ _
      | exact LeO.none _
      | refine LeO.ite ?_ ?_
      | refine LeO.bind ?_ (fun _ => ?_)
theorem spencelaw28_PlanBytes.mono : ∀ a0 a1 a2 a3 a4 k, LeO (spencelaw28_PlanBytes.f k a0 a1 a2 a3 a4) (spencelaw28_PlanBytes.f (k + 1) a0 a1 a2 a3 a4) := by
  intro a0 a1 a2 a3 a4 k
  have ih0 := spencelaw28_PlanBytes.mono_l k
  unfold spencelaw28_PlanBytes.f
  repeat' first
      | (with_reducible exact ih0 _ _ _ _ _ _)
      | (with_reducible exact spencelaw28_awake.mono _)
      | (with_reducible exact spencelaw28_bytes.mono _ _ _ _ _ _)
      | (with_reducible exact LeO.refl _)
      | (with_reducible exact LeO.none _)
      | (with_reducible refine LeO.ite ?_ ?_)
      | (with_reducible refine LeO.bind ?_ (fun _ => ?_))
      | exact ih0 _ _ _ _ _ _
      | exact spencelaw28_awake.mono _
      | exact spencelaw28_bytes.mono _ _ _ _ _ _
      | exact LeO.none _
      | refine LeO.ite ?_ ?_
      | refine LeO.bind ?_ (fun _ => ?_)
set_option maxHeartbeats 8000000 in
set_option maxRecDepth 100000 in
theorem spencelaw28_PlanBytes.calls (k : Nat) (a0_0 : Int) (a0_1 : Int) (a0_2 : Bool) (a1 : Int) (a2 : Int) (r : Bool) (w : World) (hT_ : Ag.TabW w) (h : spencelaw28_PlanBytes.f k a0_0 a0_1 a0_2 a1 a2 = some r) :
    Calls Tryd.prog 6 #[.agg #[.int .i64 a0_0, .int .i64 a0_1, .bool a0_2], .int .i64 a1, .int .i64 a2] w fun e w' => e = .returned (.bool r) ∧ Below w.heap.size w w' := by
  have hu50 := Tryd.underlying50
  have hu53 := Tryd.underlying53
  have HB := Aside0.mk (Below.refl w.heap.size w)
  have HTab_ := Aside0.mk hT_
  clear hT_
  have H : ((spencelaw28_awake.f k).bind fun t371 => (if t371 = true then (if a0_1 < (-1099511627776) then (spencelaw28_PlanBytes.j0 k a1 a2 true a0_0 a0_1 a0_2) else (spencelaw28_PlanBytes.j0 k a1 a2 (decide (a0_1 > 1099511627776)) a0_0 a0_1 a0_2)) else (some false))) = some r := h
  clear h
  replace H := Option.bind_eq_some_iff.mp H
  obtain ⟨t371, A40, H⟩ := H
  replace H : (if t371 = true then (if a0_1 < (-1099511627776) then (spencelaw28_PlanBytes.j0 k a1 a2 true a0_0 a0_1 a0_2) else (spencelaw28_PlanBytes.j0 k a1 a2 (decide (a0_1 > 1099511627776)) a0_0 a0_1 a0_2)) else (some false)) = some r := H
  have A4 := Aside0.mk A40
  clear A40
  by_cases c5 : t371 = true
  · subst c5
    have H1 : (if a0_1 < (-1099511627776) then (spencelaw28_PlanBytes.j0 k a1 a2 true a0_0 a0_1 a0_2) else (spencelaw28_PlanBytes.j0 k a1 a2 (decide (a0_1 > 1099511627776)) a0_0 a0_1 a0_2)) = some r := by rw [if_pos rfl] at H; exact H
    clear H
    have H := H1
    clear H1
    have HC6 := Aside0.mk H
    clear H
    go_enter Tryd.func6, Tryd.ntmps6
    go_upto_region 3 with (first | ((with_reducible refine gate_dst (N := 3) rfl ?_); refine box_event ?hg (N := 3) ?hd (cs := #[.int .i64 a0_0, .int .i64 a0_1, .bool a0_2]) (t := 50) ?hr ?_; (case hd => rfl); (case hg => rfl); (case hr => first | (go_simp; done) | (go_simp; rfl)); intro gb370 hg w7 hbox hb; have n0_ := Aside0.mk (below_step (by repeat (first | (with_reducible first | exact HB.out | apply below_alloc | apply pw_below_drewN | apply below_drew1) | exact HB.out)) hb); have n1_ := Aside0.mk (hbox); have n2_ := Aside0.mk ((by rw [hg]; exact (below_size (by repeat (first | (with_reducible first | exact HB.out | apply below_alloc | apply pw_below_drewN | apply below_drew1) | exact HB.out))) : w.heap.size ≤ gb370)); have n3_ := Aside0.mk ((by rw [hg]; exact (below_size (by repeat (first | (with_reducible first | exact HB.out | apply below_alloc | apply pw_below_drewN | apply below_drew1) | exact HB.out))) : w.heap.size ≤ gb370)); clear HB; have HB := n0_; have BK370 := n1_; have GW370 := n2_; have GE370 := n3_; clear n0_ n1_ n2_ n3_; clear hb hbox hg) | ((with_reducible refine gate_callee (f := 33) rfl ?_); refine goesL_ (some 10) rfl rfl Tryd.func33 (by kernel_rfl) rfl #[] rfl (by (try simp only [List.map_toArray, List.map_cons, List.map_nil]); first | done | rfl | (simp only [List.length_drop, List.length_take]; rfl)) ?_; (with_reducible refine (spencelaw28_awake.calls k  true _ (HTab_.out.step (by repeat (first | (with_reducible first | exact HB.out | apply below_alloc | apply pw_below_drewN | apply below_drew1) | exact HB.out))) A4.out).mono ?_); rintro e w8 ⟨rfl, hb⟩; refine ⟨_, rfl, ?_⟩; have n0_ := Aside0.mk (blk_below (g := gb370) (o := .cells #[.int .i64 a0_0, .int .i64 a0_1, .bool a0_2] 50 (0, 0)) (by (with_reducible repeat (first | refine blk_drewN ?_ _ | refine blk_drew ?_ | refine blk_alloc ?_ _)); exact BK370.out) hb); have n1_ := Aside0.mk (below_step (by repeat (first | (with_reducible first | exact HB.out | apply below_alloc | apply pw_below_drewN | apply below_drew1 | refine below_set ?_ GE370.out) | exact HB.out)) hb); clear BK370; clear HB; have BK370 := n0_; have HB := n1_; clear n0_ n1_; (try clear hb); (try clear hb2); (try clear hk); (try clear hi)))
    (try simp only [Act.put, List.setIfInBounds_toArray, List.set_cons_zero, List.set_cons_succ])
    go_cut [19] (fun v19 wc => ∃ (kq : Nat) (x19_5 : Bool), v19 = .bool x19_5 ∧ Aside0 (spencelaw28_PlanBytes.j0 kq a1 a2 x19_5 a0_0 a0_1 a0_2 = some r) ∧ Aside0 (kq ≤ k) ∧ Aside0 (wc.heap[gb370]? = some (.cells #[.int .i64 a0_0, .int .i64 a0_1, .bool a0_2] 50 (0, 0))) ∧ Aside0 (Below w.heap.size w wc))
    case first =>
      have H := HC6.out
      clear HC6
      by_cases c9 : a0_1 < (-1099511627776)
      · rw [if_pos c9] at H
        have c9b0 : decide (a0_1 < (-1099511627776)) = true := decide_eq_true c9
        clear c9
        (first | rw [c9b0] | (simp only [i64_w, i32_w]; rw [c9b0]) | skip)
        have H' := Aside0.mk H
        clear H
        have hcz10_0 : w8.cell? ⟨gb370, 0, none⟩ = some (.int .i64 a0_0) := (blk_cell BK370.out 0).trans rfl
        have hcz10_1 : w8.cell? ⟨gb370, 1, none⟩ = some (.int .i64 a0_1) := (blk_cell BK370.out 1).trans rfl
        have hcz10_2 : w8.cell? ⟨gb370, 2, none⟩ = some (.bool a0_2) := (blk_cell BK370.out 2).trans rfl
        have hfz10_0 := blk_frozen BK370.out 0
        have hfz10_1 := blk_frozen BK370.out 1
        have hfz10_2 := blk_frozen BK370.out 2
        go_wp2
        go_meet
        case rel => exact ⟨_, (true), (by first | rfl | (simp; done) | (simp [*]; done)), H', ⟨by first | omega | exact Nat.le_refl _⟩, ⟨by (with_reducible repeat (first | refine blk_drewN ?_ _ | refine blk_drew ?_ | refine blk_alloc ?_ _)); exact BK370.out⟩, ⟨by repeat (first | (with_reducible first | exact HB.out | apply below_alloc | apply pw_below_drewN | apply below_drew1 | refine below_set ?_ GE370.out) | exact HB.out)⟩⟩
      · rw [if_neg c9] at H
        have c9b0 : decide (a0_1 < (-1099511627776)) = false := decide_eq_false c9
        clear c9
        (first | rw [c9b0] | (simp only [i64_w, i32_w]; rw [c9b0]) | skip)
        have H' := Aside0.mk H
        clear H
        have hcz11_0 : w8.cell? ⟨gb370, 0, none⟩ = some (.int .i64 a0_0) := (blk_cell BK370.out 0).trans rfl
        have hcz11_1 : w8.cell? ⟨gb370, 1, none⟩ = some (.int .i64 a0_1) := (blk_cell BK370.out 1).trans rfl
        have hcz11_2 : w8.cell? ⟨gb370, 2, none⟩ = some (.bool a0_2) := (blk_cell BK370.out 2).trans rfl
        have hfz11_0 := blk_frozen BK370.out 0
        have hfz11_1 := blk_frozen BK370.out 1
        have hfz11_2 := blk_frozen BK370.out 2
        go_wp2
        go_meet
        case rel => exact ⟨_, (decide (a0_1 > 1099511627776)), (by first | rfl | (simp; done) | (simp [*]; done)), H', ⟨by first | omega | exact Nat.le_refl _⟩, ⟨by (with_reducible repeat (first | refine blk_drewN ?_ _ | refine blk_drew ?_ | refine blk_alloc ?_ _)); exact BK370.out⟩, ⟨by repeat (first | (with_reducible first | exact HB.out | apply below_alloc | apply pw_below_drewN | apply below_drew1 | refine below_set ?_ GE370.out) | exact HB.out)⟩⟩
    case rest =>
      clear HC6
      try clear p2
      try clear c3
      try clear c5
      try clear c6
      try clear c9
      try clear c9b0
      try clear hcz10_0
      try clear hcz10_1
      try clear hcz10_2
      try clear hcz11_0
      try clear hcz11_1
      try clear hcz11_2
      try clear hfz10_0
      try clear hfz10_1
      try clear hfz10_2
      try clear hfz11_0
      try clear hfz11_1
      try clear hfz11_2
      obtain ⟨kq, x19_5, rfl, HA, HJ5, BK370, HB⟩ := hcut
      cases kq with
      | zero => exact absurd HA.out (by simp [spencelaw28_PlanBytes.j0])
      | succ kj5 =>
        have H := HA.out
        clear HA
        simp only [spencelaw28_PlanBytes.j0] at H
        by_cases c12 : x19_5 = true
        · subst c12
          have H1 : (some true) = some r := by rw [if_pos rfl] at H; exact H
          clear H
          have H := H1
          clear H1
          obtain rfl := Option.some.inj H
          go_wp2
          go_ret
          exact ⟨by first | rfl | exact ne_empty _ | exact eq_empty _ | (simp [errW_none, errW_some] <;> rfl) | (simp [*, errW_none, errW_some] <;> rfl), by repeat (first | (with_reducible first | exact HB.out | apply below_alloc | apply pw_below_drewN | apply below_drew1 | refine below_set ?_ GE370.out) | exact HB.out)⟩
        · replace c12 := Bool.eq_false_iff.mpr c12
          subst c12
          have H1 : ((plan_Bytes.f a0_0 a0_1 a0_2 a1 a2).bind fun bt372 => ((spencelaw28_bytes.f kj5 a0_0 a0_1 a0_2 a1 a2).bind fun bt376 => (if (bt372.1 == bt376.1 && (bt372.2.1 == bt376.2)) = true then (some (bt372.2.2 == (decide (bt376.2 > 0)))) else (some false)))) = some r := by rw [if_neg (show ¬ (false = true) by decide)] at H; exact H
          clear H
          have H := H1
          clear H1
          replace H := Option.bind_eq_some_iff.mp H
          obtain ⟨⟨t372, t373, t374⟩, A130, H⟩ := H
          replace H : ((spencelaw28_bytes.f kj5 a0_0 a0_1 a0_2 a1 a2).bind fun bt376 => (if (t372 == bt376.1 && (t373 == bt376.2)) = true then (some (t374 == (decide (bt376.2 > 0)))) else (some false))) = some r := H
          have A13 := Aside0.mk A130
          clear A130
          replace H := Option.bind_eq_some_iff.mp H
          obtain ⟨⟨t376, t377⟩, A140, H⟩ := H
          replace H : (if (t372 == t376 && (t373 == t377)) = true then (some (t374 == (decide (t377 > 0)))) else (some false)) = some r := H
          have A14 := Aside0.mk A140
          clear A140
          by_cases c15 : (t372 == t376 && (t373 == t377)) = true
          · rw [if_pos c15] at H
            have c15b0 : (t372 == t376 && (t373 == t377)) = true := c15
            (try (have c15b1 : decide (t372 = t376 && (t373 == t377)) = true := by simpa using c15))
            (try (have c15b2 : (t372 == t376 && (t373 == t377)) = true := by simpa using c15))
            clear c15
            obtain rfl := Option.some.inj H
            have hcz16_0 : wc.cell? ⟨gb370, 0, none⟩ = some (.int .i64 a0_0) := (blk_cell BK370.out 0).trans rfl
            have hcz16_1 : wc.cell? ⟨gb370, 1, none⟩ = some (.int .i64 a0_1) := (blk_cell BK370.out 1).trans rfl
            have hcz16_2 : wc.cell? ⟨gb370, 2, none⟩ = some (.bool a0_2) := (blk_cell BK370.out 2).trans rfl
            have hfz16_0 := blk_frozen BK370.out 0
            have hfz16_1 := blk_frozen BK370.out 1
            have hfz16_2 := blk_frozen BK370.out 2
            go_wp2_with (first | ((with_reducible refine gate_callee (f := 34) rfl ?_); refine goesL_ (some 24) rfl rfl Tryd.func34 (by kernel_rfl) rfl #[.agg #[.int .i64 a0_0, .int .i64 a0_1, .bool a0_2], .int .i64 a1, .int .i64 a2] rfl (by (try simp only [List.map_toArray, List.map_cons, List.map_nil]); first | done | rfl | (simp only [List.length_drop, List.length_take]; rfl)) ?_; (with_reducible refine (plan_Bytes.calls a0_0 a0_1 a0_2 a1 a2 t372 t373 t374 _ A13.out).mono ?_); rintro e w17 ⟨rfl, hb⟩; refine ⟨_, rfl, ?_⟩; have n0_ := Aside0.mk (blk_below (g := gb370) (o := .cells #[.int .i64 a0_0, .int .i64 a0_1, .bool a0_2] 50 (0, 0)) (by (with_reducible repeat (first | refine blk_drewN ?_ _ | refine blk_drew ?_ | refine blk_alloc ?_ _)); exact BK370.out) hb); have n1_ := Aside0.mk (below_step (by repeat (first | (with_reducible first | exact HB.out | apply below_alloc | apply pw_below_drewN | apply below_drew1 | refine below_set ?_ GE370.out) | exact HB.out)) hb); clear BK370; clear HB; have BK370 := n0_; have HB := n1_; clear n0_ n1_; (try clear hb); (try clear hb2); (try clear hk); (try clear hi)) | ((with_reducible refine gate_dst (N := 7) rfl ?_); refine box_event ?hg (N := 7) ?hd (cs := #[.int .i64 0, .int .i64 0]) (t := 53) ?hr ?_; (case hd => rfl); (case hg => rfl); (case hr => first | (go_simp; done) | (go_simp; rfl)); intro gb375 hg w18 hbox hb; have n0_ := Aside0.mk (blk_below (g := gb370) (o := .cells #[.int .i64 a0_0, .int .i64 a0_1, .bool a0_2] 50 (0, 0)) (by (with_reducible repeat (first | refine blk_drewN ?_ _ | refine blk_drew ?_ | refine blk_alloc ?_ _)); exact BK370.out) hb); have n1_ := Aside0.mk (below_step (by repeat (first | (with_reducible first | exact HB.out | apply below_alloc | apply pw_below_drewN | apply below_drew1 | refine below_set ?_ GE370.out) | exact HB.out)) hb); have n2_ := Aside0.mk (hbox); have n3_ := Aside0.mk ((by rw [hg]; exact (below_size (by repeat (first | (with_reducible first | exact HB.out | apply below_alloc | apply pw_below_drewN | apply below_drew1 | refine below_set ?_ GE370.out) | exact HB.out))) : w.heap.size ≤ gb375)); have n4_ := Aside0.mk ((by rw [hg]; exact (below_size (by repeat (first | (with_reducible first | exact HB.out | apply below_alloc | apply pw_below_drewN | apply below_drew1 | refine below_set ?_ GE370.out) | exact HB.out))) : w.heap.size ≤ gb375)); have n5_ := Aside0.mk ((by rw [hg]; exact Nat.ne_of_lt (blk_lt (g := gb370) (o := .cells #[.int .i64 a0_0, .int .i64 a0_1, .bool a0_2] 50 (0, 0)) (by (with_reducible repeat (first | refine blk_drewN ?_ _ | refine blk_drew ?_ | refine blk_alloc ?_ _)); exact BK370.out)) : gb370 ≠ gb375)); have n6_ := Aside0.mk ((by rw [hg]; exact Nat.ne_of_gt (blk_lt (g := gb370) (o := .cells #[.int .i64 a0_0, .int .i64 a0_1, .bool a0_2] 50 (0, 0)) (by (with_reducible repeat (first | refine blk_drewN ?_ _ | refine blk_drew ?_ | refine blk_alloc ?_ _)); exact BK370.out)) : gb375 ≠ gb370)); clear BK370; clear HB; have BK370 := n0_; have HB := n1_; have BK375 := n2_; have GW375 := n3_; have GE375 := n4_; have NB370_375 := n5_; have NB375_370 := n6_; clear n0_ n1_ n2_ n3_ n4_ n5_ n6_; clear hb hbox hg; have hnb19 := NB375_370.out; have hnc19 := NB370_375.out; have hcz20_0 : w18.cell? ⟨gb375, 0, none⟩ = some (.int .i64 0) := (blk_cell BK375.out 0).trans rfl; have hcz20_1 : w18.cell? ⟨gb375, 1, none⟩ = some (.int .i64 0) := (blk_cell BK375.out 1).trans rfl; have hfz20_0 := blk_frozen BK375.out 0; have hfz20_1 := blk_frozen BK375.out 1; have hcz21_0 : w18.cell? ⟨gb370, 0, none⟩ = some (.int .i64 a0_0) := (blk_cell BK370.out 0).trans rfl; have hcz21_1 : w18.cell? ⟨gb370, 1, none⟩ = some (.int .i64 a0_1) := (blk_cell BK370.out 1).trans rfl; have hcz21_2 : w18.cell? ⟨gb370, 2, none⟩ = some (.bool a0_2) := (blk_cell BK370.out 2).trans rfl; have hfz21_0 := blk_frozen BK370.out 0; have hfz21_1 := blk_frozen BK370.out 1; have hfz21_2 := blk_frozen BK370.out 2) | ((with_reducible refine gate_callee (f := 35) rfl ?_); refine goesL_ (some 30) rfl rfl Tryd.func35 (by kernel_rfl) rfl #[.agg #[.int .i64 a0_0, .int .i64 a0_1, .bool a0_2], .int .i64 a1, .int .i64 a2] rfl (by (try simp only [List.map_toArray, List.map_cons, List.map_nil]); first | done | rfl | (simp only [List.length_drop, List.length_take]; rfl)) ?_; (with_reducible refine (spencelaw28_bytes.calls kj5 a0_0 a0_1 a0_2 a1 a2 t376 t377 _ A14.out).mono ?_); rintro e w22 ⟨rfl, hb⟩; refine ⟨_, rfl, ?_⟩; have n0_ := Aside0.mk (blk_below (g := gb370) (o := .cells #[.int .i64 a0_0, .int .i64 a0_1, .bool a0_2] 50 (0, 0)) (by (with_reducible repeat (first | refine blk_drewN ?_ _ | refine blk_drew ?_ | refine blk_alloc ?_ _)); refine blk_far ?_ NB370_375.out _; (with_reducible repeat (first | refine blk_drewN ?_ _ | refine blk_drew ?_ | refine blk_alloc ?_ _)); refine blk_far ?_ NB370_375.out _; (with_reducible repeat (first | refine blk_drewN ?_ _ | refine blk_drew ?_ | refine blk_alloc ?_ _)); exact BK370.out) hb); have n1_ := Aside0.mk (blk_below (g := gb375) (o := .cells #[.int .i64 t372, .int .i64 t373] 53 (0, 0)) (by (with_reducible repeat (first | refine blk_drewN ?_ _ | refine blk_drew ?_ | refine blk_alloc ?_ _)); refine blk_put (cs := #[.int .i64 t372, .int .i64 0]) ?_ 1 _ rfl; (with_reducible repeat (first | refine blk_drewN ?_ _ | refine blk_drew ?_ | refine blk_alloc ?_ _)); refine blk_put (cs := #[.int .i64 0, .int .i64 0]) ?_ 0 _ rfl; (with_reducible repeat (first | refine blk_drewN ?_ _ | refine blk_drew ?_ | refine blk_alloc ?_ _)); exact BK375.out) hb); have n2_ := Aside0.mk (below_step (by repeat (first | (with_reducible first | exact HB.out | apply below_alloc | apply pw_below_drewN | apply below_drew1 | refine below_set ?_ GE370.out | refine below_set ?_ GE375.out) | exact HB.out)) hb); clear BK370; clear BK375; clear HB; have BK370 := n0_; have BK375 := n1_; have HB := n2_; clear n0_ n1_ n2_; (try clear hb); (try clear hb2); (try clear hk); (try clear hi)) | ((with_reducible refine gate_dst (N := 9) rfl ?_); refine box_event ?hg (N := 9) ?hd (cs := #[.int .i64 0, .int .i64 0]) (t := 53) ?hr ?_; (case hd => rfl); (case hg => rfl); (case hr => first | (go_simp; done) | (go_simp; rfl)); intro gb378 hg w23 hbox hb; have n0_ := Aside0.mk (blk_below (g := gb370) (o := .cells #[.int .i64 a0_0, .int .i64 a0_1, .bool a0_2] 50 (0, 0)) (by (with_reducible repeat (first | refine blk_drewN ?_ _ | refine blk_drew ?_ | refine blk_alloc ?_ _)); exact BK370.out) hb); have n1_ := Aside0.mk (blk_below (g := gb375) (o := .cells #[.int .i64 t372, .int .i64 t373] 53 (0, 0)) (by (with_reducible repeat (first | refine blk_drewN ?_ _ | refine blk_drew ?_ | refine blk_alloc ?_ _)); exact BK375.out) hb); have n2_ := Aside0.mk (below_step (by repeat (first | (with_reducible first | exact HB.out | apply below_alloc | apply pw_below_drewN | apply below_drew1 | refine below_set ?_ GE370.out | refine below_set ?_ GE375.out) | exact HB.out)) hb); have n3_ := Aside0.mk (hbox); have n4_ := Aside0.mk ((by rw [hg]; exact (below_size (by repeat (first | (with_reducible first | exact HB.out | apply below_alloc | apply pw_below_drewN | apply below_drew1 | refine below_set ?_ GE370.out | refine below_set ?_ GE375.out) | exact HB.out))) : w.heap.size ≤ gb378)); have n5_ := Aside0.mk ((by rw [hg]; exact (below_size (by repeat (first | (with_reducible first | exact HB.out | apply below_alloc | apply pw_below_drewN | apply below_drew1 | refine below_set ?_ GE370.out | refine below_set ?_ GE375.out) | exact HB.out))) : w.heap.size ≤ gb378)); have n6_ := Aside0.mk ((by rw [hg]; exact Nat.ne_of_lt (blk_lt (g := gb370) (o := .cells #[.int .i64 a0_0, .int .i64 a0_1, .bool a0_2] 50 (0, 0)) (by (with_reducible repeat (first | refine blk_drewN ?_ _ | refine blk_drew ?_ | refine blk_alloc ?_ _)); exact BK370.out)) : gb370 ≠ gb378)); have n7_ := Aside0.mk ((by rw [hg]; exact Nat.ne_of_gt (blk_lt (g := gb370) (o := .cells #[.int .i64 a0_0, .int .i64 a0_1, .bool a0_2] 50 (0, 0)) (by (with_reducible repeat (first | refine blk_drewN ?_ _ | refine blk_drew ?_ | refine blk_alloc ?_ _)); exact BK370.out)) : gb378 ≠ gb370)); have n8_ := Aside0.mk ((by rw [hg]; exact Nat.ne_of_lt (blk_lt (g := gb375) (o := .cells #[.int .i64 t372, .int .i64 t373] 53 (0, 0)) (by (with_reducible repeat (first | refine blk_drewN ?_ _ | refine blk_drew ?_ | refine blk_alloc ?_ _)); exact BK375.out)) : gb375 ≠ gb378)); have n9_ := Aside0.mk ((by rw [hg]; exact Nat.ne_of_gt (blk_lt (g := gb375) (o := .cells #[.int .i64 t372, .int .i64 t373] 53 (0, 0)) (by (with_reducible repeat (first | refine blk_drewN ?_ _ | refine blk_drew ?_ | refine blk_alloc ?_ _)); exact BK375.out)) : gb378 ≠ gb375)); clear BK370; clear BK375; clear HB; have BK370 := n0_; have BK375 := n1_; have HB := n2_; have BK378 := n3_; have GW378 := n4_; have GE378 := n5_; have NB370_378 := n6_; have NB378_370 := n7_; have NB375_378 := n8_; have NB378_375 := n9_; clear n0_ n1_ n2_ n3_ n4_ n5_ n6_ n7_ n8_ n9_; clear hb hbox hg; have hnb24 := NB378_370.out; have hnc24 := NB370_378.out; have hnb25 := NB378_375.out; have hnc25 := NB375_378.out; have hcz26_0 : w23.cell? ⟨gb378, 0, none⟩ = some (.int .i64 0) := (blk_cell BK378.out 0).trans rfl; have hcz26_1 : w23.cell? ⟨gb378, 1, none⟩ = some (.int .i64 0) := (blk_cell BK378.out 1).trans rfl; have hfz26_0 := blk_frozen BK378.out 0; have hfz26_1 := blk_frozen BK378.out 1; have hcz27_0 : w23.cell? ⟨gb375, 0, none⟩ = some (.int .i64 t372) := (blk_cell BK375.out 0).trans rfl; have hcz27_1 : w23.cell? ⟨gb375, 1, none⟩ = some (.int .i64 t373) := (blk_cell BK375.out 1).trans rfl; have hfz27_0 := blk_frozen BK375.out 0; have hfz27_1 := blk_frozen BK375.out 1))
            go_ret
            exact ⟨by first | rfl | exact ne_empty _ | exact eq_empty _ | (simp [errW_none, errW_some] <;> rfl) | (simp [*, errW_none, errW_some] <;> rfl), by repeat (first | (with_reducible first | exact HB.out | apply below_alloc | apply pw_below_drewN | apply below_drew1 | refine below_set ?_ GE370.out | refine below_set ?_ GE375.out | refine below_set ?_ GE378.out) | exact HB.out)⟩
          · rw [if_neg c15] at H
            have c15b0 : (t372 == t376 && (t373 == t377)) = false := by simpa using c15
            (try (have c15b1 : decide (t372 = t376 && (t373 == t377)) = false := by simpa using c15))
            (try (have c15b2 : (t372 == t376 && (t373 == t377)) = false := by simpa using c15))
            (try (have c15b3 : ¬ (t372 = t376 && (t373 == t377)) := by simpa using c15))
            clear c15
            obtain rfl := Option.some.inj H
            have hcz28_0 : wc.cell? ⟨gb370, 0, none⟩ = some (.int .i64 a0_0) := (blk_cell BK370.out 0).trans rfl
            have hcz28_1 : wc.cell? ⟨gb370, 1, none⟩ = some (.int .i64 a0_1) := (blk_cell BK370.out 1).trans rfl
            have hcz28_2 : wc.cell? ⟨gb370, 2, none⟩ = some (.bool a0_2) := (blk_cell BK370.out 2).trans rfl
            have hfz28_0 := blk_frozen BK370.out 0
            have hfz28_1 := blk_frozen BK370.out 1
            have hfz28_2 := blk_frozen BK370.out 2
            go_wp2_with (first | ((with_reducible refine gate_callee (f := 34) rfl ?_); refine goesL_ (some 24) rfl rfl Tryd.func34 (by kernel_rfl) rfl #[.agg #[.int .i64 a0_0, .int .i64 a0_1, .bool a0_2], .int .i64 a1, .int .i64 a2] rfl (by (try simp only [List.map_toArray, List.map_cons, List.map_nil]); first | done | rfl | (simp only [List.length_drop, List.length_take]; rfl)) ?_; (with_reducible refine (plan_Bytes.calls a0_0 a0_1 a0_2 a1 a2 t372 t373 t374 _ A13.out).mono ?_); rintro e w29 ⟨rfl, hb⟩; refine ⟨_, rfl, ?_⟩; have n0_ := Aside0.mk (blk_below (g := gb370) (o := .cells #[.int .i64 a0_0, .int .i64 a0_1, .bool a0_2] 50 (0, 0)) (by (with_reducible repeat (first | refine blk_drewN ?_ _ | refine blk_drew ?_ | refine blk_alloc ?_ _)); exact BK370.out) hb); have n1_ := Aside0.mk (below_step (by repeat (first | (with_reducible first | exact HB.out | apply below_alloc | apply pw_below_drewN | apply below_drew1 | refine below_set ?_ GE370.out) | exact HB.out)) hb); clear BK370; clear HB; have BK370 := n0_; have HB := n1_; clear n0_ n1_; (try clear hb); (try clear hb2); (try clear hk); (try clear hi)) | ((with_reducible refine gate_dst (N := 7) rfl ?_); refine box_event ?hg (N := 7) ?hd (cs := #[.int .i64 0, .int .i64 0]) (t := 53) ?hr ?_; (case hd => rfl); (case hg => rfl); (case hr => first | (go_simp; done) | (go_simp; rfl)); intro gb375 hg w30 hbox hb; have n0_ := Aside0.mk (blk_below (g := gb370) (o := .cells #[.int .i64 a0_0, .int .i64 a0_1, .bool a0_2] 50 (0, 0)) (by (with_reducible repeat (first | refine blk_drewN ?_ _ | refine blk_drew ?_ | refine blk_alloc ?_ _)); exact BK370.out) hb); have n1_ := Aside0.mk (below_step (by repeat (first | (with_reducible first | exact HB.out | apply below_alloc | apply pw_below_drewN | apply below_drew1 | refine below_set ?_ GE370.out) | exact HB.out)) hb); have n2_ := Aside0.mk (hbox); have n3_ := Aside0.mk ((by rw [hg]; exact (below_size (by repeat (first | (with_reducible first | exact HB.out | apply below_alloc | apply pw_below_drewN | apply below_drew1 | refine below_set ?_ GE370.out) | exact HB.out))) : w.heap.size ≤ gb375)); have n4_ := Aside0.mk ((by rw [hg]; exact (below_size (by repeat (first | (with_reducible first | exact HB.out | apply below_alloc | apply pw_below_drewN | apply below_drew1 | refine below_set ?_ GE370.out) | exact HB.out))) : w.heap.size ≤ gb375)); have n5_ := Aside0.mk ((by rw [hg]; exact Nat.ne_of_lt (blk_lt (g := gb370) (o := .cells #[.int .i64 a0_0, .int .i64 a0_1, .bool a0_2] 50 (0, 0)) (by (with_reducible repeat (first | refine blk_drewN ?_ _ | refine blk_drew ?_ | refine blk_alloc ?_ _)); exact BK370.out)) : gb370 ≠ gb375)); have n6_ := Aside0.mk ((by rw [hg]; exact Nat.ne_of_gt (blk_lt (g := gb370) (o := .cells #[.int .i64 a0_0, .int .i64 a0_1, .bool a0_2] 50 (0, 0)) (by (with_reducible repeat (first | refine blk_drewN ?_ _ | refine blk_drew ?_ | refine blk_alloc ?_ _)); exact BK370.out)) : gb375 ≠ gb370)); clear BK370; clear HB; have BK370 := n0_; have HB := n1_; have BK375 := n2_; have GW375 := n3_; have GE375 := n4_; have NB370_375 := n5_; have NB375_370 := n6_; clear n0_ n1_ n2_ n3_ n4_ n5_ n6_; clear hb hbox hg; have hnb31 := NB375_370.out; have hnc31 := NB370_375.out; have hcz32_0 : w30.cell? ⟨gb375, 0, none⟩ = some (.int .i64 0) := (blk_cell BK375.out 0).trans rfl; have hcz32_1 : w30.cell? ⟨gb375, 1, none⟩ = some (.int .i64 0) := (blk_cell BK375.out 1).trans rfl; have hfz32_0 := blk_frozen BK375.out 0; have hfz32_1 := blk_frozen BK375.out 1; have hcz33_0 : w30.cell? ⟨gb370, 0, none⟩ = some (.int .i64 a0_0) := (blk_cell BK370.out 0).trans rfl; have hcz33_1 : w30.cell? ⟨gb370, 1, none⟩ = some (.int .i64 a0_1) := (blk_cell BK370.out 1).trans rfl; have hcz33_2 : w30.cell? ⟨gb370, 2, none⟩ = some (.bool a0_2) := (blk_cell BK370.out 2).trans rfl; have hfz33_0 := blk_frozen BK370.out 0; have hfz33_1 := blk_frozen BK370.out 1; have hfz33_2 := blk_frozen BK370.out 2) | ((with_reducible refine gate_callee (f := 35) rfl ?_); refine goesL_ (some 30) rfl rfl Tryd.func35 (by kernel_rfl) rfl #[.agg #[.int .i64 a0_0, .int .i64 a0_1, .bool a0_2], .int .i64 a1, .int .i64 a2] rfl (by (try simp only [List.map_toArray, List.map_cons, List.map_nil]); first | done | rfl | (simp only [List.length_drop, List.length_take]; rfl)) ?_; (with_reducible refine (spencelaw28_bytes.calls kj5 a0_0 a0_1 a0_2 a1 a2 t376 t377 _ A14.out).mono ?_); rintro e w34 ⟨rfl, hb⟩; refine ⟨_, rfl, ?_⟩; have n0_ := Aside0.mk (blk_below (g := gb370) (o := .cells #[.int .i64 a0_0, .int .i64 a0_1, .bool a0_2] 50 (0, 0)) (by (with_reducible repeat (first | refine blk_drewN ?_ _ | refine blk_drew ?_ | refine blk_alloc ?_ _)); refine blk_far ?_ NB370_375.out _; (with_reducible repeat (first | refine blk_drewN ?_ _ | refine blk_drew ?_ | refine blk_alloc ?_ _)); refine blk_far ?_ NB370_375.out _; (with_reducible repeat (first | refine blk_drewN ?_ _ | refine blk_drew ?_ | refine blk_alloc ?_ _)); exact BK370.out) hb); have n1_ := Aside0.mk (blk_below (g := gb375) (o := .cells #[.int .i64 t372, .int .i64 t373] 53 (0, 0)) (by (with_reducible repeat (first | refine blk_drewN ?_ _ | refine blk_drew ?_ | refine blk_alloc ?_ _)); refine blk_put (cs := #[.int .i64 t372, .int .i64 0]) ?_ 1 _ rfl; (with_reducible repeat (first | refine blk_drewN ?_ _ | refine blk_drew ?_ | refine blk_alloc ?_ _)); refine blk_put (cs := #[.int .i64 0, .int .i64 0]) ?_ 0 _ rfl; (with_reducible repeat (first | refine blk_drewN ?_ _ | refine blk_drew ?_ | refine blk_alloc ?_ _)); exact BK375.out) hb); have n2_ := Aside0.mk (below_step (by repeat (first | (with_reducible first | exact HB.out | apply below_alloc | apply pw_below_drewN | apply below_drew1 | refine below_set ?_ GE370.out | refine below_set ?_ GE375.out) | exact HB.out)) hb); clear BK370; clear BK375; clear HB; have BK370 := n0_; have BK375 := n1_; have HB := n2_; clear n0_ n1_ n2_; (try clear hb); (try clear hb2); (try clear hk); (try clear hi)) | ((with_reducible refine gate_dst (N := 9) rfl ?_); refine box_event ?hg (N := 9) ?hd (cs := #[.int .i64 0, .int .i64 0]) (t := 53) ?hr ?_; (case hd => rfl); (case hg => rfl); (case hr => first | (go_simp; done) | (go_simp; rfl)); intro gb378 hg w35 hbox hb; have n0_ := Aside0.mk (blk_below (g := gb370) (o := .cells #[.int .i64 a0_0, .int .i64 a0_1, .bool a0_2] 50 (0, 0)) (by (with_reducible repeat (first | refine blk_drewN ?_ _ | refine blk_drew ?_ | refine blk_alloc ?_ _)); exact BK370.out) hb); have n1_ := Aside0.mk (blk_below (g := gb375) (o := .cells #[.int .i64 t372, .int .i64 t373] 53 (0, 0)) (by (with_reducible repeat (first | refine blk_drewN ?_ _ | refine blk_drew ?_ | refine blk_alloc ?_ _)); exact BK375.out) hb); have n2_ := Aside0.mk (below_step (by repeat (first | (with_reducible first | exact HB.out | apply below_alloc | apply pw_below_drewN | apply below_drew1 | refine below_set ?_ GE370.out | refine below_set ?_ GE375.out) | exact HB.out)) hb); have n3_ := Aside0.mk (hbox); have n4_ := Aside0.mk ((by rw [hg]; exact (below_size (by repeat (first | (with_reducible first | exact HB.out | apply below_alloc | apply pw_below_drewN | apply below_drew1 | refine below_set ?_ GE370.out | refine below_set ?_ GE375.out) | exact HB.out))) : w.heap.size ≤ gb378)); have n5_ := Aside0.mk ((by rw [hg]; exact (below_size (by repeat (first | (with_reducible first | exact HB.out | apply below_alloc | apply pw_below_drewN | apply below_drew1 | refine below_set ?_ GE370.out | refine below_set ?_ GE375.out) | exact HB.out))) : w.heap.size ≤ gb378)); have n6_ := Aside0.mk ((by rw [hg]; exact Nat.ne_of_lt (blk_lt (g := gb370) (o := .cells #[.int .i64 a0_0, .int .i64 a0_1, .bool a0_2] 50 (0, 0)) (by (with_reducible repeat (first | refine blk_drewN ?_ _ | refine blk_drew ?_ | refine blk_alloc ?_ _)); exact BK370.out)) : gb370 ≠ gb378)); have n7_ := Aside0.mk ((by rw [hg]; exact Nat.ne_of_gt (blk_lt (g := gb370) (o := .cells #[.int .i64 a0_0, .int .i64 a0_1, .bool a0_2] 50 (0, 0)) (by (with_reducible repeat (first | refine blk_drewN ?_ _ | refine blk_drew ?_ | refine blk_alloc ?_ _)); exact BK370.out)) : gb378 ≠ gb370)); have n8_ := Aside0.mk ((by rw [hg]; exact Nat.ne_of_lt (blk_lt (g := gb375) (o := .cells #[.int .i64 t372, .int .i64 t373] 53 (0, 0)) (by (with_reducible repeat (first | refine blk_drewN ?_ _ | refine blk_drew ?_ | refine blk_alloc ?_ _)); exact BK375.out)) : gb375 ≠ gb378)); have n9_ := Aside0.mk ((by rw [hg]; exact Nat.ne_of_gt (blk_lt (g := gb375) (o := .cells #[.int .i64 t372, .int .i64 t373] 53 (0, 0)) (by (with_reducible repeat (first | refine blk_drewN ?_ _ | refine blk_drew ?_ | refine blk_alloc ?_ _)); exact BK375.out)) : gb378 ≠ gb375)); clear BK370; clear BK375; clear HB; have BK370 := n0_; have BK375 := n1_; have HB := n2_; have BK378 := n3_; have GW378 := n4_; have GE378 := n5_; have NB370_378 := n6_; have NB378_370 := n7_; have NB375_378 := n8_; have NB378_375 := n9_; clear n0_ n1_ n2_ n3_ n4_ n5_ n6_ n7_ n8_ n9_; clear hb hbox hg; have hnb36 := NB378_370.out; have hnc36 := NB370_378.out; have hnb37 := NB378_375.out; have hnc37 := NB375_378.out; have hcz38_0 : w35.cell? ⟨gb378, 0, none⟩ = some (.int .i64 0) := (blk_cell BK378.out 0).trans rfl; have hcz38_1 : w35.cell? ⟨gb378, 1, none⟩ = some (.int .i64 0) := (blk_cell BK378.out 1).trans rfl; have hfz38_0 := blk_frozen BK378.out 0; have hfz38_1 := blk_frozen BK378.out 1; have hcz39_0 : w35.cell? ⟨gb375, 0, none⟩ = some (.int .i64 t372) := (blk_cell BK375.out 0).trans rfl; have hcz39_1 : w35.cell? ⟨gb375, 1, none⟩ = some (.int .i64 t373) := (blk_cell BK375.out 1).trans rfl; have hfz39_0 := blk_frozen BK375.out 0; have hfz39_1 := blk_frozen BK375.out 1))
            go_ret
            exact ⟨by first | rfl | exact ne_empty _ | exact eq_empty _ | (simp [errW_none, errW_some] <;> rfl) | (simp [*, errW_none, errW_some] <;> rfl), by repeat (first | (with_reducible first | exact HB.out | apply below_alloc | apply pw_below_drewN | apply below_drew1 | refine below_set ?_ GE370.out | refine below_set ?_ GE375.out | refine below_set ?_ GE378.out) | exact HB.out)⟩
  · replace c5 := Bool.eq_false_iff.mpr c5
    subst c5
    have H1 : (some false) = some r := by rw [if_neg (show ¬ (false = true) by decide)] at H; exact H
    clear H
    have H := H1
    clear H1
    obtain rfl := Option.some.inj H
    go_enter Tryd.func6, Tryd.ntmps6
    go_wp2_with (first | ((with_reducible refine gate_dst (N := 3) rfl ?_); refine box_event ?hg (N := 3) ?hd (cs := #[.int .i64 a0_0, .int .i64 a0_1, .bool a0_2]) (t := 50) ?hr ?_; (case hd => rfl); (case hg => rfl); (case hr => first | (go_simp; done) | (go_simp; rfl)); intro gb370 hg w40 hbox hb; have n0_ := Aside0.mk (below_step (by repeat (first | (with_reducible first | exact HB.out | apply below_alloc | apply pw_below_drewN | apply below_drew1) | exact HB.out)) hb); have n1_ := Aside0.mk (hbox); have n2_ := Aside0.mk ((by rw [hg]; exact (below_size (by repeat (first | (with_reducible first | exact HB.out | apply below_alloc | apply pw_below_drewN | apply below_drew1) | exact HB.out))) : w.heap.size ≤ gb370)); have n3_ := Aside0.mk ((by rw [hg]; exact (below_size (by repeat (first | (with_reducible first | exact HB.out | apply below_alloc | apply pw_below_drewN | apply below_drew1) | exact HB.out))) : w.heap.size ≤ gb370)); clear HB; have HB := n0_; have BK370 := n1_; have GW370 := n2_; have GE370 := n3_; clear n0_ n1_ n2_ n3_; clear hb hbox hg) | ((with_reducible refine gate_callee (f := 33) rfl ?_); refine goesL_ (some 10) rfl rfl Tryd.func33 (by kernel_rfl) rfl #[] rfl (by (try simp only [List.map_toArray, List.map_cons, List.map_nil]); first | done | rfl | (simp only [List.length_drop, List.length_take]; rfl)) ?_; (with_reducible refine (spencelaw28_awake.calls k  false _ (HTab_.out.step (by repeat (first | (with_reducible first | exact HB.out | apply below_alloc | apply pw_below_drewN | apply below_drew1) | exact HB.out))) A4.out).mono ?_); rintro e w41 ⟨rfl, hb⟩; refine ⟨_, rfl, ?_⟩; have n0_ := Aside0.mk (blk_below (g := gb370) (o := .cells #[.int .i64 a0_0, .int .i64 a0_1, .bool a0_2] 50 (0, 0)) (by (with_reducible repeat (first | refine blk_drewN ?_ _ | refine blk_drew ?_ | refine blk_alloc ?_ _)); exact BK370.out) hb); have n1_ := Aside0.mk (below_step (by repeat (first | (with_reducible first | exact HB.out | apply below_alloc | apply pw_below_drewN | apply below_drew1 | refine below_set ?_ GE370.out) | exact HB.out)) hb); clear BK370; clear HB; have BK370 := n0_; have HB := n1_; clear n0_ n1_; (try clear hb); (try clear hb2); (try clear hk); (try clear hi)))
    go_ret
    exact ⟨by first | rfl | exact ne_empty _ | exact eq_empty _ | (simp [errW_none, errW_some] <;> rfl) | (simp [*, errW_none, errW_some] <;> rfl), by repeat (first | (with_reducible first | exact HB.out | apply below_alloc | apply pw_below_drewN | apply below_drew1 | refine below_set ?_ GE370.out) | exact HB.out)⟩
/-- THE ONE PURE STATEMENT of spencelaw28_PlanBytes. -/
def spencelaw28_PlanBytes.Pure : Prop := ∀ (a0_0 : Int) (a0_1 : Int) (a0_2 : Bool) (a1 : Int) (a2 : Int), (Lit.int .i64 a0_0).wf = true → (Lit.int .i64 a0_1).wf = true → (Lit.int .i64 a1).wf = true → (Lit.int .i64 a2).wf = true → ∃ k, spencelaw28_PlanBytes.f k a0_0 a0_1 a0_2 a1 a2 = some true
def plan_Ready.f (l0_0 : List Int) (_l0_1 : List S50) (_l0_2 : List S50) (a1_0 : Nat → Int) : Option Bool := some (!l0_0.any fun x => !Ag.hasF a1_0 x)
end Go.Proofs.YtcnlmpjoghogbaaDoor.PAll
namespace Go.Proofs.YtcnlmpjoghogbaaDoor.Pure
open Go.RowKit Go.Proofs.YtcnlmpjoghogbaaDoor.Xw Go.Proofs.YtcnlmpjoghogbaaDoor.PAll Go.Proofs.YtcnlmpjoghogbaaDoorW.PrintWords Go.Proofs.YtcnlmpjoghogbaaDoorW.PrintLast Go.Proofs.YtcnlmpjoghogbaaDoorW.PrintMore
open Go.Proofs.YtcnlmpjoghogbaaDoor.Ag (hasF withF zeroF has_of)
abbrev RunS := S50
def rng (a : Int) (n : Nat) : List Int := (List.range n).map fun j : Nat => a + (j : Int)
end Go.Proofs.YtcnlmpjoghogbaaDoor.Pure


namespace Go.Proofs.YtcnlmpjoghogbaaDoor.Ag
open Go.RowKit
theorem has_own (l : List Int) (i : Int) : hasF (ofF l) i = (decide (0 ≤ i ∧ i ≤ 4096) && decide (i ∈ l)) := has_of l i
end Go.Proofs.YtcnlmpjoghogbaaDoor.Ag

namespace Go.Proofs.YtcnlmpjoghogbaaDoor.Pure
open Go.RowKit Go.Proofs.YtcnlmpjoghogbaaDoor.Xw Go.Proofs.YtcnlmpjoghogbaaDoor.PAll Go.Proofs.YtcnlmpjoghogbaaDoorW.PrintWords Go.Proofs.YtcnlmpjoghogbaaDoorW.PrintLast Go.Proofs.YtcnlmpjoghogbaaDoorW.PrintMore
open Go.Proofs.YtcnlmpjoghogbaaDoor.Ag (hasF withF zeroF ofF srt splitAll splitStep has_of has_own)
theorem rdR (pre : List RunS) (r : RunS) (rest : List RunS) (i : Int) (h : i = pre.length) : rd_T50 (pre ++ r :: rest) i = r := by
  subst h
  unfold rd_T50
  simp [List.getD_eq_getElem?_getD]
abbrev fromR (r : RunS) : Int := mx r.f0 0
abbrev toR (r : RunS) : Int := mn r.f1 4097
def sizeR (r : RunS) : Nat := (toR r - fromR r).toNat
def slicesOf (l : List RunS) : List Int := l.flatMap fun r => rng (fromR r) (sizeR r)
theorem size_le (r : RunS) : sizeR r ≤ 4097 := by
  have h1 := mx_eq r.f0 0
  have h2 := mn_eq r.f1 4097
  unfold sizeR
  show (mn r.f1 4097 - mx r.f0 0).toNat ≤ 4097
  omega
def Fit (r : RunS) : Prop := -1000000 ≤ r.f0 ∧ r.f0 ≤ 1000000 ∧ -1000000 ≤ r.f1 ∧ r.f1 ≤ 1000000
def okR (p : Option Int) (r : RunS) : Bool := decide (0 ≤ r.f0) && (decide (r.f0 < r.f1) && (decide (r.f1 ≤ 4097) && (match p with | none => true | some t => decide (t ≤ r.f0))))
def apB : Option Int → List RunS → Bool
  | _, [] => true
  | p, r :: l => okR p r && apB (some r.f1) l
/-- What is true of the runs of rising numbers. -/
structure SplitOk (out : List RunS) (xs : List Int) : Prop where
  slices : slicesOf out = xs
  apart : apB none out = true
  last : ∀ init r, out = init ++ [r] → ∃ x ∈ xs, r.f1 = x + 1 ∧ 0 ≤ r.f0 ∧ r.f0 < r.f1
  fit : ∀ r ∈ out, Fit r
theorem srt_mem (l : List Int) (x : Int) : x ∈ srt l ↔ x ∈ l ∧ 0 ≤ x ∧ x ≤ 4096 := by
  unfold srt
  simp only [List.mem_map, List.mem_filter, List.mem_range, decide_eq_true_eq]
  constructor
  · rintro ⟨i, ⟨h1, h2⟩, rfl⟩; exact ⟨h2, by omega, by omega⟩
  · rintro ⟨h1, h2, h3⟩; exact ⟨x.toNat, ⟨by omega, by rwa [Int.toNat_of_nonneg h2]⟩, by omega⟩
theorem splitAll_congr (h h' : Int → Bool) (l : List Int) (hh : ∀ x ∈ l, h x = h' x) : splitAll h l = splitAll h' l := by
  have go : ∀ (l : List Int) (out : List RunS), (∀ x ∈ l, h x = h' x) → l.foldl (splitStep h) out = l.foldl (splitStep h') out := by
    intro l
    induction l with
    | nil => intro _ _; rfl
    | cons x l ih =>
      intro out hx
      have e : splitStep h out x = splitStep h' out x := by unfold splitStep; rw [hx x (by simp)]
      rw [List.foldl_cons, List.foldl_cons, e, ih _ (fun y hy => hx y (by simp [hy]))]
  exact go l [] hh
theorem split_own (l m : List Int) : splitAll (hasF (ofF m)) (srt l) = splitAll (fun x => decide (x ∈ m)) (srt l) :=
  splitAll_congr _ _ _ fun x hx => by rw [has_own, decide_eq_true ((srt_mem l x).1 hx).2, Bool.true_and]
end Go.Proofs.YtcnlmpjoghogbaaDoor.Pure
namespace Go.Proofs.YtcnlmpjoghogbaaDoor.Pure
open Go.RowKit Go.Proofs.YtcnlmpjoghogbaaDoor.Xw Go.Proofs.YtcnlmpjoghogbaaDoor.PAll Go.Proofs.YtcnlmpjoghogbaaDoorW.PrintWords Go.Proofs.YtcnlmpjoghogbaaDoorW.PrintLast Go.Proofs.YtcnlmpjoghogbaaDoorW.PrintMore
open Go.Proofs.YtcnlmpjoghogbaaDoor.Ag (hasF withF zeroF ofF srt splitAll splitStep has_of has_own splitAll_snoc splitAll_len all_of all_len)
theorem srt_len (l : List Int) : (srt l).length ≤ 4160 := by rw [← all_of]; exact all_len _
end Go.Proofs.YtcnlmpjoghogbaaDoor.Pure
namespace Go.Proofs.YtcnlmpjoghogbaaDoor.Pure
open Go.RowKit Go.Proofs.YtcnlmpjoghogbaaDoor.Xw Go.Proofs.YtcnlmpjoghogbaaDoor.PAll Go.Proofs.YtcnlmpjoghogbaaDoorW.PrintWords Go.Proofs.YtcnlmpjoghogbaaDoorW.PrintLast Go.Proofs.YtcnlmpjoghogbaaDoorW.PrintMore
/-- the numbers from a on, j of them, in parts of m -/
def blk (a : Int) (m : Nat) (c : Bool) : Nat → List RunS
  | 0 => []
  | j + 1 => if j % m = 0 then blk a m c j ++ [⟨a + j, a + j + 1, c⟩] else (blk a m c j).dropLast ++ [⟨((blk a m c j).getLast?.getD ⟨0, 0, c⟩).f0, a + j + 1, c⟩]
theorem blk_part (a : Int) (m : Nat) (c : Bool) (q : Nat) : ∀ s : Nat, 1 ≤ s → s ≤ m → blk a m c (q * m + s) = blk a m c (q * m) ++ [⟨a + (q * m : Nat), a + (q * m : Nat) + s, c⟩]
  | 0, h, _ => by omega
  | 1, _, h2 => by
    show (if (q * m) % m = 0 then _ else _) = _
    rw [if_pos (Nat.mul_mod_left q m)]
    rfl
  | s + 2, _, h2 => by
    have ih := blk_part a m c q (s + 1) (by omega) (by omega)
    show (if (q * m + (s + 1)) % m = 0 then blk a m c (q * m + (s + 1)) ++ [⟨a + (q * m + (s + 1) : Nat), a + (q * m + (s + 1) : Nat) + 1, c⟩] else (blk a m c (q * m + (s + 1))).dropLast ++ [⟨((blk a m c (q * m + (s + 1))).getLast?.getD ⟨0, 0, c⟩).f0, a + (q * m + (s + 1) : Nat) + 1, c⟩]) = _
    have e : (q * m + (s + 1)) % m = s + 1 := by rw [Nat.add_comm, Nat.add_mul_mod_self_right, Nat.mod_eq_of_lt (by omega)]
    rw [if_neg (by omega), ih]
    simp only [List.dropLast_concat, List.getLast?_concat, Option.getD_some]
    congr 3
    push_cast
    omega
theorem blk_len (a : Int) (m : Nat) (c : Bool) : ∀ j, (blk a m c j).length ≤ j
  | 0 => by simp [blk]
  | j + 1 => by
    have ih := blk_len a m c j
    rw [blk]
    split
    · simp; omega
    · simp; omega
def capOf (m : Nat) (l : List RunS) : List RunS := l.flatMap fun r => blk (fromR r) m r.f2 (sizeR r)
theorem cap_snoc (m : Nat) (l : List RunS) (r : RunS) : capOf m (l ++ [r]) = capOf m l ++ blk (fromR r) m r.f2 (sizeR r) := by simp [capOf]
theorem cap_len (m : Nat) (l : List RunS) : (capOf m l).length ≤ l.length * 4097 := by
  induction l with
  | nil => simp [capOf]
  | cons r l ih =>
    have h1 := size_le r
    have h2 := blk_len (fromR r) m r.f2 (sizeR r)
    have e : capOf m (r :: l) = blk (fromR r) m r.f2 (sizeR r) ++ capOf m l := by simp [capOf]
    rw [e, List.length_append, List.length_cons, Nat.succ_mul]
    omega
theorem to_eq (r : RunS) (h : 0 < sizeR r) : toR r = fromR r + sizeR r := by
  unfold sizeR at h ⊢
  show mn r.f1 4097 = mx r.f0 0 + ((mn r.f1 4097 - mx r.f0 0).toNat : Int)
  have h' : 0 < (mn r.f1 4097 - mx r.f0 0).toNat := h
  omega
theorem cap_in (m : Nat) (hm : 1 ≤ m) (hmb : (m : Int) ≤ 9223372036854775807) (r : RunS) (x13 : List RunS) (x14 x15 : Int) (out : List RunS) (ho : out.length ≤ 1000000000) (a : Int) (n : Nat) (ha : 0 ≤ a) (hn : a + n ≤ 4097) (d : Nat) : ∀ q : Nat, q * m < n → n - q * m ≤ d →
    ∀ res, Ev (fun k => runs_Cap.l0 k (m : Int) (out ++ blk a m r.f2 n) x13 x14 (wrap64 (x15 + 1))) res → Ev (fun k => runs_Cap.l1 k (m : Int) (out ++ blk a m r.f2 (q * m)) (a + (q * m : Nat)) (a + n) x13 x14 x15 r.f0 r.f1 r.f2) res := by
  induction d with
  | zero => intro q h1 h2; omega
  | succ d ih =>
    intro q h1 h2 res h
    have hbl := blk_len a m r.f2 (q * m)
    have hol : (out ++ blk a m r.f2 (q * m)).length < 5864062014805 := by rw [List.length_append]; omega
    have hw : wrap64 (a + (n : Int) - (a + ((q * m : Nat) : Int))) = (n : Int) - ((q * m : Nat) : Int) := by rw [wrap_id (by omega)]; omega
    refine Ev.succ ?_
    simp only [runs_Cap.l1, show a + ((q * m : Nat) : Int) < a + (n : Int) by omega, if_true, hw, hol]
    by_cases c1 : (m : Int) < (n : Int) - ((q * m : Nat) : Int)
    · simp only [c1, if_true]
      have e : (q + 1) * m = q * m + m := Nat.succ_mul q m
      have hp := blk_part a m r.f2 q m hm (Nat.le_refl _)
      have hnx := ih (q + 1) (by omega) (by omega) res h
      rw [e, hp] at hnx
      have hw2 : wrap64 (a + ((q * m : Nat) : Int) + (m : Int)) = a + ((q * m : Nat) : Int) + (m : Int) := wrap_id (by omega)
      have e3 : a + ((q * m + m : Nat) : Int) = a + ((q * m : Nat) : Int) + (m : Int) := by push_cast; omega
      rw [hw2]
      rw [e3, ← List.append_assoc] at hnx
      exact hnx
    · simp only [c1, if_false]
      have hp := blk_part a m r.f2 q (n - q * m) (by omega) (by omega)
      rw [show q * m + (n - q * m) = n by omega] at hp
      have e3 : a + ((q * m : Nat) : Int) + ((n - q * m : Nat) : Int) = a + (n : Int) := by omega
      rw [e3] at hp
      rw [hp, ← List.append_assoc] at h
      refine Ev.step (fun k => ?_) h
      simp only [runs_Cap.l1]
      rw [if_neg (by omega)]
theorem cap_loop (m : Nat) (hm : 1 ≤ m) (hmb : (m : Int) ≤ 9223372036854775807) (l : List RunS) (hl : l.length ≤ 100000) (post : List RunS) : ∀ (pre : List RunS), l = pre ++ post → Ev (fun k => runs_Cap.l0 k (m : Int) (capOf m pre) l (l.length : Int) (pre.length : Int)) (capOf m l) := by
  induction post with
  | nil =>
    intro pre h
    rw [List.append_nil] at h
    subst h
    exact Ev.pos fun k => by simp only [runs_Cap.l0]; rw [if_neg (by omega)]
  | cons r rest ih =>
    intro pre h
    have hlen : l.length = pre.length + (rest.length + 1) := by rw [h]; simp
    have hnx := ih (pre ++ [r]) (by rw [h]; simp)
    have e2 : (((pre ++ [r]).length : Nat) : Int) = wrap64 ((pre.length : Int) + 1) := by rw [wrap_id (by omega)]; simp
    rw [cap_snoc, e2] at hnx
    have hc := cap_len m pre
    have hr : rd_T50 l (pre.length : Int) = r := by rw [h]; exact rdR pre r rest _ rfl
    have h1 := mx_eq r.f0 0
    have h2 := mn_eq r.f1 4097
    have head : ∀ k, runs_Cap.l0 (k + 1) (m : Int) (capOf m pre) l (l.length : Int) (pre.length : Int) = (if fromR r ≥ toR r then (runs_Cap.l0 k (m : Int) (capOf m pre) l (l.length : Int) (wrap64 ((pre.length : Int) + 1))) else (runs_Cap.l1 k (m : Int) (capOf m pre) (fromR r) (toR r) l (l.length : Int) (pre.length : Int) r.f0 r.f1 r.f2)) := fun k => by
      simp only [runs_Cap.l0]
      rw [if_pos (by omega), if_pos (by omega), if_pos (by omega), hr]
      rfl
    rcases Nat.eq_zero_or_pos (sizeR r) with h0 | h0
    · rw [h0, show blk (fromR r) m r.f2 0 = [] from rfl, List.append_nil] at hnx
      refine Ev.step (fun k => ?_) hnx
      rw [head, if_pos]
      unfold sizeR at h0
      show mx r.f0 0 ≥ mn r.f1 4097
      have h0' : (mn r.f1 4097 - mx r.f0 0).toNat = 0 := h0
      omega
    · have ht := to_eq r h0
      have hx := cap_in m hm hmb r l (l.length : Int) (pre.length : Int) (capOf m pre) (by omega) (fromR r) (sizeR r) (by show 0 ≤ mx r.f0 0; omega) (by rw [← ht]; show mn r.f1 4097 ≤ 4097; omega) (sizeR r) 0 (by omega) (by omega) _ hnx
      rw [Nat.zero_mul, show blk (fromR r) m r.f2 0 = [] from rfl, List.append_nil, show fromR r + ((0 : Nat) : Int) = fromR r by omega, ← ht] at hx
      refine Ev.step (fun k => ?_) hx
      rw [head, if_neg (by omega)]
theorem cap_ev (m : Nat) (a1 : Int) (h : mx a1 1 = m) (hb : a1 ≤ 9223372036854775807) (l : List RunS) (hl : l.length ≤ 100000) : Ev (fun k => runs_Cap.f k l a1) (capOf m l) := by
  have h1 := mx_eq a1 1
  unfold runs_Cap.f
  rw [h]
  exact cap_loop m (by omega) (by omega) l hl l [] rfl
end Go.Proofs.YtcnlmpjoghogbaaDoor.Pure
namespace Go.Proofs.YtcnlmpjoghogbaaDoor.Pure
open Go.RowKit Go.Proofs.YtcnlmpjoghogbaaDoor.Xw Go.Proofs.YtcnlmpjoghogbaaDoor.PAll Go.Proofs.YtcnlmpjoghogbaaDoorW.PrintWords Go.Proofs.YtcnlmpjoghogbaaDoorW.PrintLast Go.Proofs.YtcnlmpjoghogbaaDoorW.PrintMore
open Go.Proofs.YtcnlmpjoghogbaaDoor.Ag (hasF withF zeroF ofF srt splitAll splitStep has_of has_own splitAll_snoc splitAll_len all_of all_len)
theorem ev_of {α : Type} {g : Nat → Option α} {r : α} (mono : ∀ k, LeO (g k) (g (k + 1))) {k0 : Nat} (h : g k0 = some r) : Ev g r := ⟨k0, fun k hk => by
  obtain ⟨d, rfl⟩ : ∃ d, k = k0 + d := ⟨k - k0, by omega⟩
  clear hk
  induction d with
  | zero => exact h
  | succ d ih => exact mono _ _ ih⟩
def fetchOf (F : Nat → Int) (need : List Int) : List RunS := capOf 8 ((splitAll (hasF F) (srt need)).filter fun r => !r.f2)
theorem fetch_ev (need : List Int) (F : Nat → Int) : Ev (fun k => plan_fetch.f k need F) (fetchOf F need) := by
  have h1 := splitAll_len (hasF F) (srt need)
  have h2 := srt_len need
  have h3 : ((splitAll (hasF F) (srt need)).filter fun r => !r.f2).length ≤ (splitAll (hasF F) (srt need)).length := List.length_filter_le _ _
  unfold plan_fetch.f runs_Split.f
  simp only [Option.bind_some]
  unfold runs_Missing.f
  rw [if_pos (by omega)]
  simp only [Option.bind_some]
  exact Ev.bind (cap_ev 8 8 (by decide) (by decide) _ (by omega)) (Ev.now _)
theorem planOf_ev (l : List S53) (n s : Int) (F : Nat → Int) (need : List Int) (hn : Ev (fun k => cuts_Cover.f k l n s) need) : Ev (fun k => plan_Of.f k l n s F) (need, splitAll (hasF F) (srt need), fetchOf F need) := by
  refine Ev.bind hn ?_
  unfold runs_Split.f
  simp only [Option.bind_some]
  exact Ev.bind (fetch_ev need F) (Ev.now _)
theorem fetch_own (need m : List Int) : fetchOf (ofF m) need = capOf 8 ((splitAll (fun x => decide (x ∈ m)) (srt need)).filter fun r => !r.f2) := by unfold fetchOf; rw [split_own]
theorem awake28 : Ev (fun k => spencelaw28_awake.f k) true := by
  unfold spencelaw28_awake.f bitmap_Of.f
  simp only [Option.bind_some]
  have hc : Ev (fun k => cuts_Cover.f k [⟨0, 5⟩] 10 4) [0, 1] := ev_of (k0 := 40) (fun k => cuts_Cover.mono _ _ _ k) (by kernel_rfl)
  refine Ev.bind (planOf_ev _ _ _ _ _ hc) ?_
  rw [show ([0] : List Int).foldl withF zeroF = ofF [0] from rfl]
  have e : fetchOf (ofF [0]) [0, 1] = [⟨1, 2, false⟩] := by
    rw [fetch_own]
    have e1 : srt [0, 1] = [0, 1] := by kernel_rfl
    rw [e1]
    show capOf 8 _ = _
    kernel_rfl
  rw [e]
  exact Ev.now _
end Go.Proofs.YtcnlmpjoghogbaaDoor.Pure
namespace Go.Proofs.YtcnlmpjoghogbaaDoor.PAll
open Go.RowKit Go.Proofs.YtcnlmpjoghogbaaDoor.Xw Go.Proofs.YtcnlmpjoghogbaaDoorW.PrintWords Go.Proofs.YtcnlmpjoghogbaaDoorW.PrintLast Go.Proofs.YtcnlmpjoghogbaaDoorW.PrintMore
attribute [local go_sem] max2_int min2_int max_two min_two max_three min_three max_four min_four   -- for this text's walks alone
set_option linter.unusedVariables false
set_option linter.unusedSimpArgs false
def spenceref04_Right.f (a0_0 : Int) (a0_1 : Int) : Option (Bool) := if a0_0 ≥ 0 then (if a0_1 > a0_0 then (some (decide (a0_1 ≤ 4611686018427387903))) else (some false)) else (some false)
mutual
def spenceref04_Meet.j0 : Nat → Bool → Int → Int → Int → Int → Option (Int × Int)
  | 0, _, _, _, _, _ => none
  | k + 1, x12, x405000, x405001, x406000, x406001 => if x12 = true then (some (0, 0)) else (if x406000 > x405000 then (spenceref04_Meet.j1 k x406000 x405001 x406000 x406001) else (spenceref04_Meet.j1 k x405000 x405001 x406000 x406001))
def spenceref04_Meet.j1 : Nat → Int → Int → Int → Int → Option (Int × Int)
  | 0, _, _, _, _ => none
  | k + 1, x405000, x405001, x406000, x406001 => if x406001 < x405001 then (if x405000 ≥ x406001 then (some (0, 0)) else (some (x405000, x406001))) else (if x405000 ≥ x405001 then (some (0, 0)) else (some (x405000, x405001)))
end
def spenceref04_Meet.f (k : Nat) (a0_0 : Int) (a0_1 : Int) (a1_0 : Int) (a1_1 : Int) : Option (Int × Int) := (spenceref04_Right.f a0_0 a0_1).bind fun t407 => (if t407 = true then ((spenceref04_Right.f a1_0 a1_1).bind fun t408 => (spenceref04_Meet.j0 k (!t408) a0_0 a0_1 a1_0 a1_1)) else (spenceref04_Meet.j0 k true a0_0 a0_1 a1_0 a1_1))
theorem spenceref04_Meet.mono_l : ∀ k, (∀ y0 y1 y2 y3 y4, LeO (spenceref04_Meet.j0 k y0 y1 y2 y3 y4) (spenceref04_Meet.j0 (k + 1) y0 y1 y2 y3 y4)) ∧ (∀ y0 y1 y2 y3, LeO (spenceref04_Meet.j1 k y0 y1 y2 y3) (spenceref04_Meet.j1 (k + 1) y0 y1 y2 y3))
  | 0 => ⟨fun _ _ _ _ _ r h => by simp [spenceref04_Meet.j0] at h, fun _ _ _ _ r h => by simp [spenceref04_Meet.j1] at h⟩
  | k + 1 => by
    obtain ⟨ih0, ih1⟩ := spenceref04_Meet.mono_l k
    refine ⟨?_, ?_⟩
    · intro y0 y1 y2 y3 y4
      unfold spenceref04_Meet.j0
      repeat' first
      | (with_reducible exact ih0 _ _ _ _ _)
      | (with_reducible exact ih1 _ _ _ _)
      | (with_reducible exact LeO.refl _)
      | (with_reducible exact LeO.none _)
      | (with_reducible refine LeO.ite ?_ ?_)
      | (with_reducible refine LeO.bind ?_ (fun _ => ?_))
      | exact ih0 _ _ _ _ _
      | exact ih1 _ _ _ _
      | exact LeO.none _
      | refine LeO.ite ?_ ?_
      | refine LeO.bind ?_ (fun _ => ?_)
    · intro y0 y1 y2 y3
      unfold spenceref04_Meet.j1
      repeat' first
      | (with_reducible exact ih0 _ _ _ _ _)
      | (with_reducible exact ih1 _ _ _ _)
      | (with_reducible exact LeO.refl _)
      | (with_reducible exact LeO.none _)
      | (with_reducible refine LeO.ite ?_ ?_)
      | (with_reducible refine LeO.bind ?_ (fun _ => ?_))
      | exact ih0 _ _ _ _ _
      | exact ih1 _ _ _ _
      | exact LeO.none _
      | refine LeO.ite ?_ ?_
      | refine LeO.bind ?_ (fun _ => ?_)
theorem spenceref04_Meet.mono : ∀ a0 a1 a2 a3 k, LeO (spenceref04_Meet.f k a0 a1 a2 a3) (spenceref04_Meet.f (k + 1) a0 a1 a2 a3) := by
  intro a0 a1 a2 a3 k
  obtain ⟨ih0, ih1⟩ := spenceref04_Meet.mono_l k
  unfold spenceref04_Meet.f
  repeat' first
      | (with_reducible exact ih0 _ _ _ _ _)
      | (with_reducible exact ih1 _ _ _ _)
      | (with_reducible exact LeO.refl _)
      | (with_reducible exact LeO.none _)
      | (with_reducible refine LeO.ite ?_ ?_)
      | (with_reducible refine LeO.bind ?_ (fun _ => ?_))
      | exact ih0 _ _ _ _ _
      | exact ih1 _ _ _ _
      | exact LeO.none _
      | refine LeO.ite ?_ ?_
      | refine LeO.bind ?_ (fun _ => ?_)
end Go.Proofs.YtcnlmpjoghogbaaDoor.PAll
namespace Go.Proofs.YtcnlmpjoghogbaaDoor.Pure
open Go.RowKit Go.Proofs.YtcnlmpjoghogbaaDoor.PAll Go.Proofs.YtcnlmpjoghogbaaDoorW.PrintWords Go.Proofs.YtcnlmpjoghogbaaDoorW.PrintLast Go.Proofs.YtcnlmpjoghogbaaDoorW.PrintMore
def CR (n s : Int) : Prop := 0 ≤ n ∧ n ≤ 4096 ∧ 1 ≤ s ∧ s ≤ 64
instance (n s : Int) : Decidable (CR n s) := by unfold CR; infer_instance
theorem right_eq (n s : Int) : cuts_Right.f n s = some (decide (CR n s)) := by
  unfold cuts_Right.f CR
  by_cases h0 : n ≥ 0 <;> by_cases h1 : n ≤ 4096 <;> by_cases h2 : s ≥ 1 <;> by_cases h3 : s ≤ 64 <;> simp [h0, h1, h2, h3] <;> omega
theorem ref_cuts_eq (n s : Int) : spenceref04_Cuts.f n s = some (decide (CR n s)) := right_eq n s
/-- how many slices -/
def cnt (n s : Int) : Int := if CR n s then (n + s - 1) / s else 0
theorem count_eq (n s : Int) : cuts_Count.f n s = some (cnt n s) := by
  unfold cuts_Count.f cnt
  rw [right_eq]
  by_cases h : CR n s
  · simp only [h, decide_true, Option.bind_some, if_true]
    obtain ⟨h0, h1, h2, h3⟩ := h
    rw [if_neg (by omega), wrap_id (x := n + s) (by omega), wrap_id (x := n + s - 1) (by omega), Int.tdiv_eq_ediv_of_nonneg (by omega)]
    have h4 : 0 ≤ (n + s - 1) / s := Int.ediv_nonneg (by omega) (by omega)
    have h5 : (n + s - 1) / s ≤ n + s - 1 := Int.ediv_le_self _ (by omega)
    rw [wrap_id (by omega)]
  · simp [h]
theorem lt_cnt {i n s : Int} (h : CR n s) : i < cnt n s ↔ i * s < n := by
  unfold cnt
  rw [if_pos h]
  obtain ⟨h0, h1, h2, h3⟩ := h
  have h4 : i + 1 ≤ (n + s - 1) / s ↔ (i + 1) * s ≤ n + s - 1 := Int.le_ediv_iff_mul_le (by omega)
  rw [Int.add_mul, Int.one_mul] at h4
  constructor
  · intro h; have := h4.1 (by omega); omega
  · intro h; have := h4.2 (by omega); omega
/-- slice i: where it begins and ends -/
def bnd (i n s : Int) : Int × Int := if CR n s ∧ 0 ≤ i ∧ i * s < n then (i * s, mn (i * s + s) n) else (0, 0)
theorem mul_bd {i n s : Int} (h : CR n s) (h0 : 0 ≤ i) (h1 : i * s < n) : 0 ≤ i * s ∧ i ≤ i * s ∧ i * s ≤ 4096 := by
  obtain ⟨_, _, h2, _⟩ := h
  have h3 : 0 ≤ i * s := Int.mul_nonneg h0 (by omega)
  have h4 : i * 1 ≤ i * s := Int.mul_le_mul_of_nonneg_left h2 h0
  omega
theorem bounds_eq (i n s : Int) : cuts_Bounds.f i n s = some ((bnd i n s).1, (bnd i n s).2, decide (CR n s ∧ 0 ≤ i ∧ i * s < n)) := by
  unfold cuts_Bounds.f bnd
  by_cases h0 : i < 0
  · rw [if_pos h0, if_neg (by omega)]; simp; omega
  rw [if_neg h0, count_eq]
  simp only [Option.bind_some]
  by_cases hr : CR n s
  · by_cases h1 : i * s < n
    · have h2 := (lt_cnt hr).2 h1
      have hb := mul_bd hr (by omega) h1
      have hm : (i + 1) * s = i * s + s := by rw [Int.add_mul, Int.one_mul]
      have hr' := hr
      obtain ⟨g0, g1, g2, g3⟩ := hr'
      have hc : CR n s ∧ 0 ≤ i ∧ i * s < n := ⟨hr, by omega, h1⟩
      rw [if_neg (by omega), if_pos hc, wrap_id (x := i * s) (by omega), wrap_id (x := i + 1) (by omega), hm, wrap_id (x := i * s + s) (by omega), decide_eq_true hc]
    · have h2 : ¬ i < cnt n s := fun h => h1 ((lt_cnt hr).1 h)
      rw [if_pos (by omega), if_neg (by simp [h1])]; simp; omega
  · have h2 : cnt n s = 0 := by unfold cnt; rw [if_neg hr]
    rw [if_pos (by omega), if_neg (by simp [hr])]; simp [hr]
theorem ref_bounds_eq (k : Nat) (i n s : Int) : spenceref04_Bounds.f (k + 1) i n s = some (bnd i n s) := by
  unfold spenceref04_Bounds.f bnd
  rw [ref_cuts_eq]
  by_cases hr : CR n s
  · have hr' := hr
    obtain ⟨g0, g1, g2, g3⟩ := hr'
    simp only [hr, decide_true, Option.bind_some, if_true, spenceref04_Bounds.j0, true_and]
    by_cases h0 : i < 0
    · rw [if_pos h0, if_neg (by omega)]
    rw [if_neg h0]
    by_cases h1 : i * s < n
    · have hb := mul_bd hr (by omega) h1
      have hc : 0 ≤ i ∧ i * s < n := ⟨by omega, h1⟩
      rw [if_neg (by omega), wrap_id (x := i * s) (by omega), wrap_id (x := i * s + s) (by omega), if_pos hc]
      simp only [ge_iff_le, decide_eq_true_eq]
      rw [if_neg (by omega)]
      unfold mn
      by_cases h2 : i * s + s > n
      · rw [if_pos h2, if_pos h2]
      · rw [if_neg h2, if_neg h2]
    · by_cases h2 : i > 4096
      · rw [if_pos h2, if_neg (by simp [h1])]
      · have hb : 0 ≤ i * s ∧ i * s ≤ i * 64 := ⟨Int.mul_nonneg (by omega) (by omega), Int.mul_le_mul_of_nonneg_left g3 (by omega)⟩
        have hc : ¬ (0 ≤ i ∧ i * s < n) := fun h => h1 h.2
        rw [if_neg h2, wrap_id (x := i * s) (by omega), if_neg hc, if_pos (decide_eq_true (by omega))]
  · simp only [hr, decide_false, Option.bind_some, spenceref04_Bounds.j0]
    simp
theorem ref_bounds_ev (i n s : Int) : Ev (fun k => spenceref04_Bounds.f k i n s) (bnd i n s) := Ev.pos (fun k => ref_bounds_eq k i n s)
theorem bnd_in {i n s : Int} (h : CR n s ∧ 0 ≤ i ∧ i * s < n) : (bnd i n s).1 = i * s ∧ (bnd i n s).2 = mn (i * s + s) n := by
  unfold bnd; rw [if_pos h]; exact ⟨rfl, rfl⟩
theorem bnd_out {i n s : Int} (h : ¬ (CR n s ∧ 0 ≤ i ∧ i * s < n)) : bnd i n s = (0, 0) := by
  unfold bnd; rw [if_neg h]
theorem bnd_pos (i n s : Int) : (0 < (bnd i n s).2 ↔ (CR n s ∧ 0 ≤ i ∧ i * s < n)) ∧ 0 ≤ (bnd i n s).1 ∧ ((CR n s ∧ 0 ≤ i ∧ i * s < n) → (bnd i n s).1 < (bnd i n s).2 ∧ (bnd i n s).2 ≤ 4096 ∧ (bnd i n s).2 ≤ n) ∧ (¬ (CR n s ∧ 0 ≤ i ∧ i * s < n) → (bnd i n s).2 = 0) := by
  by_cases h : CR n s ∧ 0 ≤ i ∧ i * s < n
  · have hb := bnd_in h
    have hm := mul_bd h.1 h.2.1 h.2.2
    obtain ⟨⟨g0, g1, g2, g3⟩, h1, h2⟩ := h
    have h3 := mn_le (i * s + s) n
    rw [hb.1, hb.2]
    refine ⟨⟨fun _ => ⟨⟨g0, g1, g2, g3⟩, h1, h2⟩, fun _ => by omega⟩, by omega, fun _ => by omega, fun hn => (hn ⟨⟨g0, g1, g2, g3⟩, h1, h2⟩).elim⟩
  · rw [bnd_out h]
    exact ⟨⟨fun h' => by simp at h', fun h' => (h h').elim⟩, by simp, fun h' => (h h').elim, fun _ => rfl⟩
end Go.Proofs.YtcnlmpjoghogbaaDoor.Pure
namespace Go.Proofs.YtcnlmpjoghogbaaDoor.Pure
open Go.RowKit Go.Proofs.YtcnlmpjoghogbaaDoor.Xw Go.Proofs.YtcnlmpjoghogbaaDoor.PAll Go.Proofs.YtcnlmpjoghogbaaDoorW.PrintWords Go.Proofs.YtcnlmpjoghogbaaDoorW.PrintLast Go.Proofs.YtcnlmpjoghogbaaDoorW.PrintMore
def bytesOfRun (a b n s : Int) : Int × Int := if a ≥ b then (0, 0) else if (bnd a n s).2 = 0 ∨ (bnd (wrap64 (b - 1)) n s).2 = 0 then (0, 0) else ((bnd a n s).1, (bnd (wrap64 (b - 1)) n s).2)
theorem bnd_nought (i n s : Int) : (bnd i n s).2 = 0 ↔ ¬ (CR n s ∧ 0 ≤ i ∧ i * s < n) := by
  constructor
  · intro h hc
    have := (bnd_pos i n s).1.2 hc
    omega
  · intro h
    rw [bnd_out h]
theorem planBytes_eq (a b : Int) (c : Bool) (n s : Int) : plan_Bytes.f a b c n s = some ((bytesOfRun a b n s).1, (bytesOfRun a b n s).2, decide ((bytesOfRun a b n s).2 > 0)) := by
  unfold plan_Bytes.f bytesOfRun
  by_cases h : a ≥ b
  · rw [if_pos h, if_pos h]; rfl
  rw [if_neg h, if_neg h, bounds_eq, Option.bind_some, bounds_eq, Option.bind_some]
  by_cases h1 : CR n s ∧ 0 ≤ a ∧ a * s < n
  · by_cases h2 : CR n s ∧ 0 ≤ wrap64 (b - 1) ∧ wrap64 (b - 1) * s < n
    · have e1 := bnd_nought a n s
      have e2 := bnd_nought (wrap64 (b - 1)) n s
      have hp := (bnd_pos (wrap64 (b - 1)) n s).1.2 h2
      have hc : ¬ ((bnd a n s).2 = 0 ∨ (bnd (wrap64 (b - 1)) n s).2 = 0) := fun hh => hh.elim (fun x => e1.1 x h1) (fun x => e2.1 x h2)
      simp only [decide_eq_true h1, decide_eq_true h2, if_true, if_neg hc]
      rw [decide_eq_true hp]
    · have e2 := (bnd_nought (wrap64 (b - 1)) n s).2 h2
      have hc : (bnd a n s).2 = 0 ∨ (bnd (wrap64 (b - 1)) n s).2 = 0 := .inr e2
      simp only [decide_eq_true h1, decide_eq_false h2, Bool.false_eq_true, if_true, if_false, if_pos hc]
      rfl
  · have e1 := (bnd_nought a n s).2 h1
    have hc : (bnd a n s).2 = 0 ∨ (bnd (wrap64 (b - 1)) n s).2 = 0 := .inl e1
    simp only [decide_eq_false h1, Bool.false_eq_true, if_false, if_pos hc]
    rfl
theorem bytes_ev (a b : Int) (c : Bool) (n s : Int) : Ev (fun k => spencelaw28_bytes.f k a b c n s) (bytesOfRun a b n s) := by
  unfold spencelaw28_bytes.f bytesOfRun
  by_cases h : a ≥ b
  · simp only [h, if_true]; exact Ev.now _
  · simp only [h, if_false]
    exact Ev.bind (ref_bounds_ev a n s) (Ev.bind (ref_bounds_ev _ n s) (Ev.now _))
end Go.Proofs.YtcnlmpjoghogbaaDoor.Pure
namespace Go.Proofs.YtcnlmpjoghogbaaDoor.Pure
open Go.RowKit Go.Proofs.YtcnlmpjoghogbaaDoor.Xw Go.Proofs.YtcnlmpjoghogbaaDoor.PAll Go.Proofs.YtcnlmpjoghogbaaDoorW.PrintWords Go.Proofs.YtcnlmpjoghogbaaDoorW.PrintLast Go.Proofs.YtcnlmpjoghogbaaDoorW.PrintMore
theorem PlanBytes : spencelaw28_PlanBytes.Pure := by
  intro a b c n s _ _ _ _
  refine Ev.rounds (g := fun k => spencelaw28_PlanBytes.f k a b c n s) ?_
  unfold spencelaw28_PlanBytes.f
  refine Ev.bind awake28 ?_
  simp only [if_true]
  have main : ∀ t : Bool, Ev (fun k => spencelaw28_PlanBytes.j0 k n s t a b c) true := fun t => by
    refine Ev.succ ?_
    simp only [spencelaw28_PlanBytes.j0]
    cases t with
    | true => simp only [if_true]; exact Ev.now _
    | false =>
      simp only [Bool.false_eq_true, if_false]
      rw [planBytes_eq]
      simp only [Option.bind_some]
      refine Ev.bind (bytes_ev a b c n s) ?_
      simp only [beq_self_eq_true, Bool.and_self, if_true]
      exact Ev.now _
  by_cases h : b < -1099511627776
  · simp only [h, if_true]; exact main _
  · simp only [h, if_false]; exact main _
end Go.Proofs.YtcnlmpjoghogbaaDoor.Pure
namespace Go.Proofs.YtcnlmpjoghogbaaDoor.planBytes
open Go.ChangeShapes Go.WideShapes Go.ChangeAt Go.RowKit Go.Proofs.YtcnlmpjoghogbaaDoor.Rd Go.Proofs.YtcnlmpjoghogbaaDoor.PAll Go.Proofs.YtcnlmpjoghogbaaDoorW.PrintWords
open Go.ChangeMaps (open_string shut_string)
set_option linter.unusedVariables false
theorem own : ownKnob Tryd.prog.godebug = none := by kernel_rfl
theorem laidOut : laidOutB Tryd.prog = true := by kernel_rfl
def ok50 (x : S50) : Prop := (Lit.int .i64 x.f0).wf = true ∧ (Lit.int .i64 x.f1).wf = true ∧ True
theorem o50 : Opens Tryd.prog 50 k50 ok50 := opens_struct Tryd.underlying50 (opensF_cons (opens_int Tryd.underlying3) rfl (by kernel_rfl) rfl (opensF_cons (opens_int Tryd.underlying3) rfl (by kernel_rfl) rfl (opensF_one (opens_bool Tryd.underlying4) rfl (by kernel_rfl)))) (by kernel_rfl) (fun x : S50 => (x.f0, x.f1, x.f2)) (fun p => ⟨p.1, p.2.1, p.2.2⟩) (fun _ => rfl)
set_option maxRecDepth 100000 in
set_option maxHeartbeats 4000000 in
theorem lifted (os : Os) (started : os.Started) (H : Type) (enc : TypeId × Value → H) :
    ReturnsInHanded {} Tryd.checked os 6 .any (fun w args => (Rows.planBytesSpec.pre enc Tryd.prog Tryd.f6 Rows.planBytesRow.domain false w args ∧ laidMetH Tryd.prog Rows.planBytesRow.laid w) ∧ sizedMet enc Tryd.prog Tryd.f6 (OpenSpec.ofChange Rows.planBytesSpec) false w args) (Rows.planBytesSpec.post enc Tryd.prog Tryd.f6 false true false false) := by
  refine returnsInHanded_of_change_and (C := Tryd.checked) (X := (fun w _ => laidMetH Tryd.prog Rows.planBytesRow.laid w)) (fun _ _ _ hh h => h.of_heap hh) own started (by kernel_rfl) Tryd.func6
    (ChangeSpec.witness_shaped (enc := enc) (C := Tryd.checked) (os := os) (X := (fun w _ => laidMetH Tryd.prog Rows.planBytesRow.laid w)) false (World.laidAll Tryd.prog os Rows.planBytesRow.laid) #[.agg #[.int .i64 0, .int .i64 0, .bool false], .int .i64 0, .int .i64 0] 8 (World.laidAll_os _ _ _)
      (World.shaped_of_ZipB (by kernel_rfl) (by kernel_rfl)) (by kernel_rfl) (by kernel_rfl) (by kernel_rfl)
      (by rw [MakeChecks.laidMetH_plain _ _ _ (by kernel_rfl)]; exact laidMet_laidAll _ (by kernel_rfl) (by kernel_rfl))) ?_
  intro W base args ds gs before hval0 hW hcnd hsz0 hL_ _
  rw [MakeChecks.laidMetH_plain _ _ _ (by kernel_rfl)] at hL_
  have hT := Ag.tab_of_reads (Lib.laidMet.reads hL_ (.head _))
  have hsz : (DataW.weightsEach Tryd.prog (Tryd.f6.params.toList ++ Rows.planBytesSpec.plain.varTypes Tryd.prog) (ds ++ gs)).all (· ≤ reachBytes) = true := hsz0
  have hval : ∀ (j : Nat) t v, Tryd.f6.params[j]? = some t → args[j]? = some v → Value.okWide Tryd.prog W .any base t v := hval0
  have hW' := hW
  obtain ⟨p, q, hA0, hV, rfl, hfz, hnd⟩ := hW
  have hA : DataW.TrodAll enc Tryd.prog W 0 (fun _ => true) true Tryd.f6.params.toList args.toList ds p := hA0
  rw [Tryd.params6] at hA hval hsz
  obtain ⟨v0, vs0, d0, ds0, p0, q0, hargs, rfl, rfl, h0, r0⟩ := trodAll_cons hA
  obtain ⟨v1, vs1, d1, ds1, p1, q1, rfl, rfl, rfl, h1, r1⟩ := trodAll_cons r0
  obtain ⟨v2, vs2, d2, ds2, p2, q2, rfl, rfl, rfl, h2, r2⟩ := trodAll_cons r1
  obtain ⟨rfl, rfl, rfl⟩ := trodAll_nil r2
  obtain rfl : args = #[v0, v1, v2] := by cases args; simp_all
  obtain ⟨rfl, rfl⟩ := trodVars_none hV
  have k0 := h0
  have lt0 : ∀ x ∈ p0, x.block < W.heap.size := by obtain ⟨m, hm⟩ := k0; exact DataW.trod_lt m _ _ _ hm
  have k1 := h1
  have lt1 : ∀ x ∈ p1, x.block < W.heap.size := by obtain ⟨m, hm⟩ := k1; exact DataW.trod_lt m _ _ _ hm
  have k2 := h2
  have lt2 : ∀ x ∈ p2, x.block < W.heap.size := by obtain ⟨m, hm⟩ := k2; exact DataW.trod_lt m _ _ _ hm
  obtain ⟨L0, x0, rfl, hK0, hok0⟩ := open_agg Tryd.underlying50 o50 (hval 0 50 v0 rfl rfl) h0
  obtain rfl := k50_open hK0
  obtain ⟨a1, rfl, rfl, rfl, w1⟩ := open_int Tryd.underlying3 (hval 1 3 v1 rfl rfl) h1
  obtain ⟨a2, rfl, rfl, rfl, w2⟩ := open_int Tryd.underlying3 (hval 2 3 v2 rfl rfl) h2
  clear hA0 hval0 hsz0 hsz
  obtain ⟨k, hk⟩ := Pure.PlanBytes x0.f0 x0.f1 x0.f2 a1 a2 (hok0.1) (hok0.2.1) w1 w2
  refine (PAll.spencelaw28_PlanBytes.calls k x0.f0 x0.f1 x0.f2 a1 a2 true W  hT hk).mono fun e W' ⟨he, hd⟩ => ?_
  have bel : Below W.heap.size W W' := hd
  subst he
  exact ⟨_, rfl, _, _, _, [], _, [], hW', trodAll_mk1 (shut_bool Tryd.underlying4 _), (trodAll_cons_mk (Below.trod laidOut (by kernel_rfl) (of_decide_eq_true (by kernel_rfl)) k0 bel lt0) (trodAll_cons_mk (shut_int Tryd.underlying3 w1) (trodAll_cons_mk (shut_int Tryd.underlying3 w2) trodAll_mk0))), rfl, bel.frame _, fun h => by cases h⟩
theorem over : Rows.planBytesRow.holds Tryd.pinned (OpenSpec.ofChange Rows.planBytesSpec) :=
  OpenClaim.holds_of_wide 6 Tryd.f6 rfl rfl rfl rfl rfl rfl rfl ⟨rfl, rfl, rfl, rfl, rfl⟩ rfl rfl rfl rfl rfl (by kernel_rfl) Tryd.func6 (by kernel_rfl)
    (of_decide_eq_true (by kernel_rfl)) (by unfold Func.isWrapper; first | (rw [if_pos (by decide +kernel)]; kernel_rfl) | (rw [if_neg (by decide +kernel)]; exact ⟨rfl, rfl⟩))
    (fun os started H enc _ => lifted os started H enc)
end Go.Proofs.YtcnlmpjoghogbaaDoor.planBytes
namespace Go.Proofs.YtcnlmpjoghogbaaDoor
theorem planBytes_row : Rows.PlanBytesSaid := planBytes.over
theorem planBytesCard_holds : Rows.PlanBytesCardSaid :=
  Claim7.holds_tied_plain_at .later [] [.data] true (true, "9efb238688faacc68744475846aa2837f64feee42efab19a35a16943659a881b") false planBytes_row (fun _ h => by cases h) (by kernel_rfl) (fun _ h => by cases h) planBytes_row_tie rfl ⟨rfl, rfl⟩ (by kernel_rfl) rfl
    (fun f fn hf hfn => by
      obtain rfl : f = 6 := Option.some.inj ((show Tryd.prog.funcNamed "spence/spencelaw28.PlanBytes" = some 6 by kernel_rfl).symm.trans hf) |>.symm
      obtain rfl : fn = Tryd.f6 := (Option.some.inj (Tryd.func6.symm.trans hfn)).symm
      exact ⟨by kernel_rfl, fun j t ht => by
        rw [Tryd.params6] at ht
        have hm : t ∈ [50, 3, 3] := by simpa using Array.mem_of_getElem? ht
        have hall : ([50, 3, 3].all fun u => !Tryd.prog.wantsStandIn u) = true := by kernel_rfl
        exact (show Tryd.prog.wantsStandIn t = false by simpa using List.all_eq_true.1 hall t hm)⟩)
    (by kernel_rfl)
#print axioms planBytesCard_holds
end Go.Proofs.YtcnlmpjoghogbaaDoor
