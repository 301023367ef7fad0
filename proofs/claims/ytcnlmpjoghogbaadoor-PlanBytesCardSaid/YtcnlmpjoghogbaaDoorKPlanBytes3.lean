/- What the law PlanBytes leans on (part 4 of 5): Go functions as plain functions, that the code comes to them, and what these answer. -/
import Derived.Test.YtcnlmpjoghogbaaDoorKPlanBytes1
import Derived.Test.YtcnlmpjoghogbaaDoorKPlanBytes2
import Derived.Deep.RegionHeld3
import Derived.Deep.DrawnRows
namespace Go.Proofs.YtcnlmpjoghogbaaDoor.PAll
open Go.Proofs.YtcnlmpjoghogbaaDoor.Ag (row_load row_store ag_gate ag_gate_st row_store2)
open Go.RowKit Go.Proofs.YtcnlmpjoghogbaaDoor.Xw Go.Proofs.YtcnlmpjoghogbaaDoorW.PrintWords Go.Proofs.YtcnlmpjoghogbaaDoorW.PrintLast Go.Proofs.YtcnlmpjoghogbaaDoorW.PrintMore
attribute [local go_sem] max2_int min2_int max_two min_two max_three min_three max_four min_four   -- for this text's walks alone
attribute [local go_sem ↓] Ag.ldMap_eq
set_option linter.unusedVariables false
set_option linter.unusedSimpArgs false
attribute [local go_sem high] eqA50
def plan_Of.f (k : Nat) (l0 : List (S53)) (a1 : Int) (a2 : Int) (a3_0 : (Nat → Int)) : Option (List Int × (List (S50)) × (List (S50))) := (cuts_Cover.f k l0 a1 a2).bind fun t328 => ((runs_Split.f t328 a3_0).bind fun t331 => ((plan_fetch.f k t328 a3_0).bind fun t334 => (some (t328, t331, t334))))
theorem plan_Of.mono : ∀ a0 a1 a2 a3 k, LeO (plan_Of.f k a0 a1 a2 a3) (plan_Of.f (k + 1) a0 a1 a2 a3) := by
  intro a0 a1 a2 a3 k
  unfold plan_Of.f
  repeat' first
      | (with_reducible exact cuts_Cover.mono _ _ _ _)
      | (with_reducible exact plan_fetch.mono _ _ _)
      | (with_reducible exact LeO.refl _)
      | (with_reducible exact LeO.none _)
      | (with_reducible refine LeO.ite ?_ ?_)
      | (with_reducible refine LeO.bind ?_ (fun _ => ?_))
      | exact cuts_Cover.mono _ _ _ _
      | exact plan_fetch.mono _ _ _
      | exact LeO.none _
      | refine LeO.ite ?_ ?_
      | refine LeO.bind ?_ (fun _ => ?_)
def plan_Of.T2 : Bool × List (List Nat × List Nat) := (true, [([], []), ([], []), ([], []), ([1, 2], [1, 2]), ([], []), ([], []), ([4, 5, 3], [4, 5]), ([0, 3, 6], [0, 3, 6]), ([7, 6, 0, 1, 2, 3, 4, 5, 6, 7], [7])])
def plan_Of.B2 : List Nat := [0, 0, 0, 6, 0, 0, 62, 127, 255]
theorem plan_Of.tab2 : rtab .any (opsOf Tryd.f36 2) = plan_Of.T2 := by kernel_rfl
theorem plan_Of.bits2 : waitsOk plan_Of.T2.2 plan_Of.B2 = true := by kernel_rfl
set_option maxHeartbeats 8000000 in
set_option maxRecDepth 100000 in
theorem plan_Of.calls (k : Nat) (A0 : Option Addr) (c0 : Nat) (l0 : List (S53)) (a1 : Int) (a2 : Int) (a3_0 : (Nat → Int)) (r1 : List Int) (r2 : List (S50)) (r3 : List (S50)) (w : World) (hr0 : Kd.C k53 w A0 l0.length l0) (hc0 : l0.length ≤ c0) (hT_ : Ag.TabW w) (h : plan_Of.f k l0 a1 a2 a3_0 = some (r1, r2, r3)) :
    Calls Tryd.prog 36 #[.slice A0 l0.length c0, .int .i64 a1, .int .i64 a2, .agg (Ag.agC .u64 65 a3_0)] w fun e w' => ∃ v0_ v1_ v2_ : Value, e = .returned (.agg #[v0_, v1_, v2_]) ∧ Kd.R (Kd.int .i64) 3 w' w.heap.size (fun _ => True) v0_ r1 ∧ Kd.R k50 50 w' w.heap.size (fun k_ => some k_ ≠ (v2_ : Value).ownBlock) v1_ r2 ∧ Kd.R k50 50 w' w.heap.size (fun k_ => some k_ ≠ (v1_ : Value).ownBlock) v2_ r3 ∧ Below w.heap.size w w' := by
  have hu27 := Tryd.underlying27
  have hu60 := Tryd.underlying60
  have HR0 := Aside0.mk hr0
  have HC0 := Aside0.mk hc0
  clear hr0 hc0
  have HB := Aside0.mk (Below.refl w.heap.size w)
  have HTab_ := Aside0.mk hT_
  clear hT_
  have H : ((cuts_Cover.f k l0 a1 a2).bind fun t328 => ((runs_Split.f t328 a3_0).bind fun t331 => ((plan_fetch.f k t328 a3_0).bind fun t334 => (some (t328, t331, t334))))) = some (r1, r2, r3) := h
  clear h
  replace H := Option.bind_eq_some_iff.mp H
  obtain ⟨t328, A50, H⟩ := H
  replace H : ((runs_Split.f t328 a3_0).bind fun t331 => ((plan_fetch.f k t328 a3_0).bind fun t334 => (some (t328, t331, t334)))) = some (r1, r2, r3) := H
  have A5 := Aside0.mk A50
  clear A50
  replace H := Option.bind_eq_some_iff.mp H
  obtain ⟨t331, A60, H⟩ := H
  replace H : ((plan_fetch.f k t328 a3_0).bind fun t334 => (some (t328, t331, t334))) = some (r1, r2, r3) := H
  have A6 := Aside0.mk A60
  clear A60
  replace H := Option.bind_eq_some_iff.mp H
  obtain ⟨t334, A70, H⟩ := H
  replace H : (some (t328, t331, t334)) = some (r1, r2, r3) := H
  have A7 := Aside0.mk A70
  clear A70
  simp only [Option.some.injEq, Prod.mk.injEq] at H
  obtain ⟨rfl, rfl, rfl⟩ := H
  go_enter Tryd.func36, Tryd.ntmps36
  try go_wp2_with (first | ((with_reducible refine ag_gate (t := 27) rfl ?_); first | refine row_load rfl 27 _ rfl _ rfl .u64 65 _ 27 _ BK326.out Tryd.underlying27 rfl Ag.info_map ?_ | refine row_load rfl 27 _ rfl _ rfl .u64 65 _ 27 _ (by first | exact BK326.out | (repeat (first | exact BK326.out | refine blk_far ?_ (by assumption) _ | refine Ag.row_far ?_ (by assumption) _))) Tryd.underlying27 rfl Ag.info_map ?_) | ((with_reducible refine ag_gate_st (t := 27) rfl ?_); first | refine row_store2 rfl 27 _ _ rfl rfl _ rfl .u64 65 _ rfl _ 27 BK326.out Ag.info_map (Ag.agC_size _ _ _) ?_ | refine row_store2 rfl 27 _ _ rfl rfl _ rfl .u64 65 _ rfl _ 27 (by first | exact BK326.out | (repeat (first | exact BK326.out | refine blk_far ?_ (by assumption) _ | refine Ag.row_far ?_ (by assumption) _))) Ag.info_map (Ag.agC_size _ _ _) ?_) | ((with_reducible refine gate_dst (N := 7) rfl ?_); refine box_event ?hg (N := 7) ?hd (cs := (Ag.agC .u64 65 a3_0)) (t := 27) ?hr ?_; (case hd => rfl); (case hg => rfl); (case hr => first | (go_simp; done) | (go_simp; rfl)); intro gb326 hg w8 hbox hb; have n0_ := Aside0.mk (below_step (by repeat (first | (with_reducible first | exact HB.out | apply below_alloc | apply pw_below_drewN | apply below_drew1) | exact HB.out)) hb); have n1_ := Aside0.mk (hbox); have n2_ := Aside0.mk ((by rw [hg]; exact (below_size (by repeat (first | (with_reducible first | exact HB.out | apply below_alloc | apply pw_below_drewN | apply below_drew1) | exact HB.out))) : w.heap.size ≤ gb326)); have n3_ := Aside0.mk ((by rw [hg]; exact (below_size (by repeat (first | (with_reducible first | exact HB.out | apply below_alloc | apply pw_below_drewN | apply below_drew1) | exact HB.out))) : w.heap.size ≤ gb326)); clear HB; have HB := n0_; have BK326 := n1_; have GW326 := n2_; have GE326 := n3_; clear n0_ n1_ n2_ n3_; clear hb hbox hg) | ((with_reducible refine gate_dst (N := 8) rfl ?_); refine box_event ?hg (N := 8) ?hd (cs := #[.slice none 0 0, .slice none 0 0, .slice none 0 0]) (t := 60) ?hr ?_; (case hd => rfl); (case hg => rfl); (case hr => first | (go_simp; done) | (go_simp; rfl)); intro gb327 hg w9 hbox hb; have n0_ := Aside0.mk (blk_below (g := gb326) (o := .cells (Ag.agC .u64 65 a3_0) 27 (0, 0)) (by (with_reducible repeat (first | refine blk_drewN ?_ _ | refine blk_drew ?_ | refine blk_alloc ?_ _)); exact BK326.out) hb); have n1_ := Aside0.mk (below_step (by repeat (first | (with_reducible first | exact HB.out | apply below_alloc | apply pw_below_drewN | apply below_drew1 | refine below_set ?_ GE326.out | refine Ag.row_below ?_ GE326.out) | exact HB.out)) hb); have n2_ := Aside0.mk (hbox); have n3_ := Aside0.mk ((by rw [hg]; exact (below_size (by repeat (first | (with_reducible first | exact HB.out | apply below_alloc | apply pw_below_drewN | apply below_drew1 | refine below_set ?_ GE326.out | refine Ag.row_below ?_ GE326.out) | exact HB.out))) : w.heap.size ≤ gb327)); have n4_ := Aside0.mk ((by rw [hg]; exact (below_size (by repeat (first | (with_reducible first | exact HB.out | apply below_alloc | apply pw_below_drewN | apply below_drew1 | refine below_set ?_ GE326.out | refine Ag.row_below ?_ GE326.out) | exact HB.out))) : w.heap.size ≤ gb327)); have n5_ := Aside0.mk ((by rw [hg]; exact Nat.ne_of_lt (blk_lt (g := gb326) (o := .cells (Ag.agC .u64 65 a3_0) 27 (0, 0)) (by (with_reducible repeat (first | refine blk_drewN ?_ _ | refine blk_drew ?_ | refine blk_alloc ?_ _)); exact BK326.out)) : gb326 ≠ gb327)); have n6_ := Aside0.mk ((by rw [hg]; exact Nat.ne_of_gt (blk_lt (g := gb326) (o := .cells (Ag.agC .u64 65 a3_0) 27 (0, 0)) (by (with_reducible repeat (first | refine blk_drewN ?_ _ | refine blk_drew ?_ | refine blk_alloc ?_ _)); exact BK326.out)) : gb327 ≠ gb326)); clear BK326; clear HB; have BK326 := n0_; have HB := n1_; have BK327 := n2_; have GW327 := n3_; have GE327 := n4_; have NB326_327 := n5_; have NB327_326 := n6_; clear n0_ n1_ n2_ n3_ n4_ n5_ n6_; clear hb hbox hg) | ((with_reducible refine gate_callee (f := 53) rfl ?_); refine goesL_ (some 13) rfl rfl Tryd.func53 (by kernel_rfl) rfl #[.slice A0 l0.length c0, .int .i64 a1, .int .i64 a2] rfl (by (try simp only [List.map_toArray, List.map_cons, List.map_nil]); first | done | rfl | (simp only [List.length_drop, List.length_take]; rfl)) ?_; (with_reducible refine (cuts_Cover.calls k _ _ l0 a1 a2 t328 _ ?side1 ?side2 A5.out).mono ?_); (case side1 => repeat (first | exact (Kd.C_below HR0.out HB.out) | (with_reducible refine Kd.C_alloc ?_ _) | (with_reducible refine Kd.C_drewN ?_ _) | (with_reducible refine Kd.C_drew ?_))); (case side2 => exact HC0.out); rintro e w10 ⟨v329, rfl, ho0, hb⟩; refine ⟨_, rfl, ?_⟩; have n0_ := Aside0.mk (Kd.R_lower ho0 (below_size (by repeat (first | (with_reducible first | exact HB.out | apply below_alloc | apply pw_below_drewN | apply below_drew1 | refine below_set ?_ GE326.out | refine Ag.row_below ?_ GE326.out | refine below_set ?_ GE327.out | refine Ag.row_below ?_ GE327.out) | exact HB.out)))); have n1_ := Aside0.mk (blk_below (g := gb326) (o := .cells (Ag.agC .u64 65 a3_0) 27 (0, 0)) (by (with_reducible repeat (first | refine blk_drewN ?_ _ | refine blk_drew ?_ | refine blk_alloc ?_ _)); exact BK326.out) hb); have n2_ := Aside0.mk (blk_below (g := gb327) (o := .cells #[.slice none 0 0, .slice none 0 0, .slice none 0 0] 60 (0, 0)) (by (with_reducible repeat (first | refine blk_drewN ?_ _ | refine blk_drew ?_ | refine blk_alloc ?_ _)); exact BK327.out) hb); have n3_ := Aside0.mk (below_step (by repeat (first | (with_reducible first | exact HB.out | apply below_alloc | apply pw_below_drewN | apply below_drew1 | refine below_set ?_ GE326.out | refine Ag.row_below ?_ GE326.out | refine below_set ?_ GE327.out | refine Ag.row_below ?_ GE327.out) | exact HB.out)) hb); clear BK326; clear BK327; clear HB; have HO330 := n0_; have BK326 := n1_; have BK327 := n2_; have HB := n3_; clear n0_ n1_ n2_ n3_; (try clear hb); (try clear hb2); (try clear hk); (try clear hi); (try clear ho0)))
  have n0_ := Aside0.mk (Kd.R_drew HO330.out)
  have n1_ := Aside0.mk (blk_drew BK326.out)
  have n2_ := Aside0.mk (blk_drew BK327.out)
  have n3_ := Aside0.mk (below_drew1 HB.out)
  clear HO330
  clear BK326
  clear BK327
  clear HB
  have HO330 := n0_
  have BK326 := n1_
  have BK327 := n2_
  have HB := n3_
  clear n0_ n1_ n2_ n3_
  obtain ⟨Ao12, co12, eo12⟩ := Kd.R_slice HO330.out
  (first | subst eo12 | (injection eo12 with f1_ f2_ f3_; have f4_ := f1_.symm; have f5_ := f3_.symm; clear f1_ f2_ f3_; subst f4_; subst f5_))
  refine start_ (n := 9) (S := fun w' => (Ag.ldMap (.pointer (some ⟨gb326, 0, none⟩))).run Tryd.prog w' = .ok (.agg (Ag.agC .u64 65 a3_0)) w') (ds := []) #[false, false, false, false, false, false, false, false, false] (by kernel_rfl) rfl rfl (Ag.ldMap_run BK326.out) (fun hHeld => ?_); refine with_tabW plan_Of.tab2 plan_Of.bits2 (fun HT_ HW_ => ?_)
  generalize w10.drew = w11 at HO330 BK326 BK327 HB hHeld ⊢
  refine pure_ (i := 0) (N := some 14) (v := ?_) (a' := ?_) #[true, false, false, false, false, false, false, false, false] rfl rfl (any_of HT_.out (by kernel_rfl)) (fun _ _ _ h => h) (Or.inl ⟨by rfl, ?_⟩) ?_ ?_
  rotate_left
  · intro w'
    go_simp
    with_reducible rfl
  rotate_left
  · simp only [Act.put, List.setIfInBounds_toArray, List.set_cons_zero, List.set_cons_succ, i64_w, i32_w]
    rfl
  refine pure_ (i := 1) (N := some 15) (v := ?_) (a' := ?_) #[true, true, false, false, false, false, false, false, false] rfl rfl (any_of HT_.out (by kernel_rfl)) (fun _ _ _ h => h) (Or.inl ⟨by rfl, ?_⟩) ?_ ?_
  rotate_left
  · intro w'
    go_simp
    with_reducible rfl
  rotate_left
  · simp only [Act.put, List.setIfInBounds_toArray, List.set_cons_zero, List.set_cons_succ, i64_w, i32_w]
    rfl
  refine pure_ (i := 4) (N := some 18) (v := ?_) (a' := ?_) #[true, true, false, false, true, false, false, false, false] rfl rfl (any_of HT_.out (by kernel_rfl)) (fun _ _ _ h => h) (Or.inl ⟨by rfl, ?_⟩) ?_ ?_
  rotate_left
  · intro w'
    go_simp
    with_reducible rfl
  rotate_left
  · simp only [Act.put, List.setIfInBounds_toArray, List.set_cons_zero, List.set_cons_succ, i64_w, i32_w]
    rfl
  refine take_ (i := 2) (N := some 16) (v := ?_) (a' := ?_) #[true, true, true, false, true, false, false, false, false] rfl rfl (take_ofW HT_.out HW_.out (by kernel_rfl)) (fun _ _ _ h => h) (Or.inl ⟨by rfl, ?_⟩) hHeld ?_ ?_
  rotate_left
  · intro w' s0
    go_simp
    with_reducible rfl
  rotate_left
  · simp only [Act.put, List.setIfInBounds_toArray, List.set_cons_zero, List.set_cons_succ, i64_w, i32_w]
    rfl
  refine take_ (i := 5) (N := some 19) (v := ?_) (a' := ?_) #[true, true, true, false, true, true, false, false, false] rfl rfl (take_ofW HT_.out HW_.out (by kernel_rfl)) (fun _ _ _ h => h) (Or.inl ⟨by rfl, ?_⟩) hHeld ?_ ?_
  rotate_left
  · intro w' s0
    go_simp
    with_reducible rfl
  rotate_left
  · simp only [Act.put, List.setIfInBounds_toArray, List.set_cons_zero, List.set_cons_succ, i64_w, i32_w]
    rfl
  refine one_ (i := 3) (N := some 17) #[true, true, true, true, true, true, false, false, false] rfl rfl (one_of HT_.out (by kernel_rfl)) (by decide) (fun K hK => ?_)
  refine goes_ Tryd.func21 (by kernel_rfl) rfl #[.slice Ao12 t328.length co12, .agg (Ag.agC .u64 65 a3_0)] (by rfl) rfl rfl (by (try simp only [List.map_toArray, List.map_cons, List.map_nil]); first | done | rfl | (simp only [List.length_drop, List.length_take]; rfl)) ?_
  with_reducible refine (runs_Split.calls _ _ t328 a3_0 t331 _ ?side1 ?side2 (HTab_.out.step (by repeat (first | (with_reducible first | exact HB.out | apply below_alloc | apply pw_below_drewN | apply below_drew1) | exact HB.out))) A6.out).mono ?_
  (case side1 => repeat (first | exact (Kd.R_reads' HO330.out).2.2 | (with_reducible refine Kd.C_alloc ?_ _) | (with_reducible refine Kd.C_drewN ?_ _) | (with_reducible refine Kd.C_drew ?_)))
  (case side2 => exact (Kd.R_reads' HO330.out).2.1)
  rintro e w13 ⟨v332, rfl, ho0, hb⟩
  refine ⟨_, rfl, ?_⟩
  have n0_ := Aside0.mk (Kd.R_below (by (with_reducible repeat (first | apply Kd.R_alloc | apply Kd.R_drewN | apply Kd.R_drew)); exact HO330.out) hb)
  have n1_ := Aside0.mk (Kd.R_lower ho0 (below_size (by repeat (first | (with_reducible first | exact HB.out | apply below_alloc | apply pw_below_drewN | apply below_drew1 | refine below_set ?_ GE326.out | refine Ag.row_below ?_ GE326.out | refine below_set ?_ GE327.out | refine Ag.row_below ?_ GE327.out) | exact HB.out))))
  have n2_ := Aside0.mk (blk_below (g := gb326) (o := .cells (Ag.agC .u64 65 a3_0) 27 (0, 0)) (by (with_reducible repeat (first | refine blk_drewN ?_ _ | refine blk_drew ?_ | refine blk_alloc ?_ _)); exact BK326.out) hb)
  have n3_ := Aside0.mk (blk_below (g := gb327) (o := .cells #[.slice none 0 0, .slice none 0 0, .slice none 0 0] 60 (0, 0)) (by (with_reducible repeat (first | refine blk_drewN ?_ _ | refine blk_drew ?_ | refine blk_alloc ?_ _)); exact BK327.out) hb)
  have n4_ := Aside0.mk (below_step (by repeat (first | (with_reducible first | exact HB.out | apply below_alloc | apply pw_below_drewN | apply below_drew1 | refine below_set ?_ GE326.out | refine Ag.row_below ?_ GE326.out | refine below_set ?_ GE327.out | refine Ag.row_below ?_ GE327.out) | exact HB.out)) hb)
  clear HO330
  clear BK326
  clear BK327
  clear HB
  have HO330 := n0_
  have HO333 := n1_
  have BK326 := n2_
  have BK327 := n3_
  have HB := n4_
  clear n0_ n1_ n2_ n3_ n4_
  (try clear hb)
  (try clear hb2)
  (try clear hk)
  (try clear hi)
  (try clear ho0)
  refine hK.out _ _ (Ag.ldMap_run BK326.out) (fun hHeld => ?_)
  clear hK K
  refine norm_ (a' := ?_) ?_ ?_
  rotate_left
  · show Act.put _ (some 17) _ = _
    simp only [Act.put, List.setIfInBounds_toArray, List.set_cons_zero, List.set_cons_succ, i64_w, i32_w]
    rfl
  refine one_ (i := 6) (N := some 20) #[true, true, true, true, true, true, true, false, false] rfl rfl (one_of HT_.out (by kernel_rfl)) (by decide) (fun K hK => ?_)
  refine goes_ Tryd.func54 (by kernel_rfl) rfl #[.slice Ao12 t328.length co12, .agg (Ag.agC .u64 65 a3_0)] (by rfl) rfl rfl (by (try simp only [List.map_toArray, List.map_cons, List.map_nil]); first | done | rfl | (simp only [List.length_drop, List.length_take]; rfl)) ?_
  with_reducible refine (plan_fetch.calls k _ _ t328 a3_0 t334 _ ?side1 ?side2 (HTab_.out.step (by repeat (first | (with_reducible first | exact HB.out | apply below_alloc | apply pw_below_drewN | apply below_drew1) | exact HB.out))) A7.out).mono ?_
  (case side1 => repeat (first | exact (Kd.R_reads' HO330.out).2.2 | (with_reducible refine Kd.C_alloc ?_ _) | (with_reducible refine Kd.C_drewN ?_ _) | (with_reducible refine Kd.C_drew ?_)))
  (case side2 => exact (Kd.R_reads' HO330.out).2.1)
  rintro e w14 ⟨v335, rfl, ho0, hb⟩
  refine ⟨_, rfl, ?_⟩
  have n0_ := Aside0.mk (Kd.R_below (by (with_reducible repeat (first | apply Kd.R_alloc | apply Kd.R_drewN | apply Kd.R_drew)); exact HO330.out) hb)
  have n1_ := Aside0.mk (Kd.R_elder' (by (with_reducible repeat (first | apply Kd.R_alloc | apply Kd.R_drewN | apply Kd.R_drew)); exact HO333.out) (Kd.R_base ho0) hb)
  have n2_ := Aside0.mk (Kd.R_lower (Kd.R_new' ho0 (Kd.R_lt (by (with_reducible repeat (first | apply Kd.R_alloc | apply Kd.R_drewN | apply Kd.R_drew)); exact HO333.out))) (below_size (by repeat (first | (with_reducible first | exact HB.out | apply below_alloc | apply pw_below_drewN | apply below_drew1 | refine below_set ?_ GE326.out | refine Ag.row_below ?_ GE326.out | refine below_set ?_ GE327.out | refine Ag.row_below ?_ GE327.out) | exact HB.out))))
  have n3_ := Aside0.mk (blk_below (g := gb326) (o := .cells (Ag.agC .u64 65 a3_0) 27 (0, 0)) (by (with_reducible repeat (first | refine blk_drewN ?_ _ | refine blk_drew ?_ | refine blk_alloc ?_ _)); exact BK326.out) hb)
  have n4_ := Aside0.mk (blk_below (g := gb327) (o := .cells #[.slice none 0 0, .slice none 0 0, .slice none 0 0] 60 (0, 0)) (by (with_reducible repeat (first | refine blk_drewN ?_ _ | refine blk_drew ?_ | refine blk_alloc ?_ _)); exact BK327.out) hb)
  have n5_ := Aside0.mk (below_step (by repeat (first | (with_reducible first | exact HB.out | apply below_alloc | apply pw_below_drewN | apply below_drew1 | refine below_set ?_ GE326.out | refine Ag.row_below ?_ GE326.out | refine below_set ?_ GE327.out | refine Ag.row_below ?_ GE327.out) | exact HB.out)) hb)
  clear HO330
  clear HO333
  clear BK326
  clear BK327
  clear HB
  have HO330 := n0_
  have HO333 := n1_
  have HO336 := n2_
  have BK326 := n3_
  have BK327 := n4_
  have HB := n5_
  clear n0_ n1_ n2_ n3_ n4_ n5_
  (try clear hb)
  (try clear hb2)
  (try clear hk)
  (try clear hi)
  (try clear ho0)
  obtain ⟨Ao15, co15, eo15⟩ := Kd.R_slice HO336.out
  (first | subst eo15 | (injection eo15 with f1_ f2_ f3_; have f4_ := f1_.symm; have f5_ := f3_.symm; clear f1_ f2_ f3_; subst f4_; subst f5_))
  obtain ⟨Ao16, co16, eo16⟩ := Kd.R_slice HO333.out
  (first | subst eo16 | (injection eo16 with f1_ f2_ f3_; have f4_ := f1_.symm; have f5_ := f3_.symm; clear f1_ f2_ f3_; subst f4_; subst f5_))
  refine hK.out _ _ (Ag.ldMap_run BK326.out) (fun hHeld => ?_)
  clear hK K
  refine norm_ (a' := ?_) ?_ ?_
  rotate_left
  · show Act.put _ (some 20) _ = _
    simp only [Act.put, List.setIfInBounds_toArray, List.set_cons_zero, List.set_cons_succ, i64_w, i32_w]
    rfl
  refine pure_ (i := 7) (N := some 21) (v := ?_) (a' := ?_) #[true, true, true, true, true, true, true, true, false] rfl rfl (any_of HT_.out (by kernel_rfl)) (fun _ _ _ h => h) (Or.inl ⟨by rfl, ?_⟩) ?_ ?_
  rotate_left
  · intro w'
    go_simp
    with_reducible rfl
  rotate_left
  · simp only [Act.put, List.setIfInBounds_toArray, List.set_cons_zero, List.set_cons_succ, i64_w, i32_w]
    rfl
  refine one_ (i := 8) (N := none) #[true, true, true, true, true, true, true, true, true] rfl rfl (one_of HT_.out (by kernel_rfl)) (by decide) (fun K hK => ?_)
  have hs17 : w14.cell? ⟨gb327, 0, none⟩ = some (.slice none 0 0) := (blk_cell BK327.out 0).trans rfl
  have hfs17 := blk_frozen BK327.out 0
  have hns17_0 := NB326_327.out
  have hms17_0 := NB327_326.out
  have hs18 : w14.cell? ⟨gb327, 1, none⟩ = some (.slice none 0 0) := (blk_cell BK327.out 1).trans rfl
  have hfs18 := blk_frozen BK327.out 1
  have hns18_0 := NB326_327.out
  have hms18_0 := NB327_326.out
  have hs19 : w14.cell? ⟨gb327, 2, none⟩ = some (.slice none 0 0) := (blk_cell BK327.out 2).trans rfl
  have hfs19 := blk_frozen BK327.out 2
  have hns19_0 := NB326_327.out
  have hms19_0 := NB327_326.out
  refine skip_ (w1 := ?_) (by rfl) rfl ?_ ?_
  rotate_left
  · go_simp
    rfl
  refine hK.out _ _ (Ag.ldMap_run (by repeat (first | exact BK326.out | refine blk_far (p := ⟨gb327, _, none⟩) ?_ NB326_327.out _))) (fun hHeld => ?_)
  clear hK K
  refine done_ (done_of HT_.out (by kernel_rfl)) ?_
  try go_wp2
  refine bodyPost_ret (results_cell_row rfl _ _ gb327 60 #[.slice Ao12 t328.length co12, .slice Ao16 t331.length co16, .slice Ao15 t334.length co15] (0, 0) _ rfl (by (with_reducible repeat (first | refine blk_drewN ?_ _ | refine blk_drew ?_ | refine blk_alloc ?_ _)); refine blk_put (cs := #[.slice Ao12 t328.length co12, .slice Ao16 t331.length co16, .slice none 0 0]) ?_ 2 _ rfl; (with_reducible repeat (first | refine blk_drewN ?_ _ | refine blk_drew ?_ | refine blk_alloc ?_ _)); refine blk_put (cs := #[.slice Ao12 t328.length co12, .slice none 0 0, .slice none 0 0]) ?_ 1 _ rfl; (with_reducible repeat (first | refine blk_drewN ?_ _ | refine blk_drew ?_ | refine blk_alloc ?_ _)); refine blk_put (cs := #[.slice none 0 0, .slice none 0 0, .slice none 0 0]) ?_ 0 _ rfl; (with_reducible repeat (first | refine blk_drewN ?_ _ | refine blk_drew ?_ | refine blk_alloc ?_ _)); exact BK327.out) Tryd.underlying60 rfl (by kernel_rfl)) rfl ?_
  exact ⟨_, _, _, by first | rfl | (simp [errW_none, errW_some] <;> rfl) | (simp [*, errW_none, errW_some] <;> rfl), by (with_reducible repeat (first | apply Kd.R_alloc | apply Kd.R_drewN | apply Kd.R_drew)); exact Kd.R_mono (Kd.R_far (p := ⟨gb327, 2, none⟩) (Kd.R_far (p := ⟨gb327, 1, none⟩) (Kd.R_far (p := ⟨gb327, 0, none⟩) (Kd.R_types HO330.out BK327.out (by decide)) (fun _ hk => hk.2) (.slice Ao12 t328.length co12)) (fun _ hk => hk.2) (.slice Ao16 t331.length co16)) (fun _ hk => hk.2) (.slice Ao15 t334.length co15)) (fun _ hk => trivial), by (with_reducible repeat (first | apply Kd.R_alloc | apply Kd.R_drewN | apply Kd.R_drew)); exact Kd.R_mono (Kd.R_far (p := ⟨gb327, 2, none⟩) (Kd.R_far (p := ⟨gb327, 1, none⟩) (Kd.R_far (p := ⟨gb327, 0, none⟩) (Kd.R_types HO333.out BK327.out (by decide)) (fun _ hk => hk.2) (.slice Ao12 t328.length co12)) (fun _ hk => hk.2) (.slice Ao16 t331.length co16)) (fun _ hk => hk.2) (.slice Ao15 t334.length co15)) (fun _ hk => hk.1.2), by (with_reducible repeat (first | apply Kd.R_alloc | apply Kd.R_drewN | apply Kd.R_drew)); exact Kd.R_mono (Kd.R_far (p := ⟨gb327, 2, none⟩) (Kd.R_far (p := ⟨gb327, 1, none⟩) (Kd.R_far (p := ⟨gb327, 0, none⟩) (Kd.R_types HO336.out BK327.out (by decide)) (fun _ hk => hk.2) (.slice Ao12 t328.length co12)) (fun _ hk => hk.2) (.slice Ao16 t331.length co16)) (fun _ hk => hk.2) (.slice Ao15 t334.length co15)) (fun _ hk => hk.1.2), by repeat (first | (with_reducible first | exact HB.out | apply below_alloc | apply pw_below_drewN | apply below_drew1 | refine below_set ?_ GE326.out | refine Ag.row_below ?_ GE326.out | refine below_set ?_ GE327.out | refine Ag.row_below ?_ GE327.out) | exact HB.out)⟩
def plan_Steps.f (l0_0 : List Int) (l0_1 : List (S50)) (l0_2 : List (S50)) : Option (Int) := some (l0_2.length : Int)
set_option maxHeartbeats 8000000 in
set_option maxRecDepth 100000 in
theorem plan_Steps.calls (A0_0 : Option Addr) (c0_0 : Nat) (l0_0 : List Int) (A0_1 : Option Addr) (c0_1 : Nat) (l0_1 : List (S50)) (A0_2 : Option Addr) (c0_2 : Nat) (l0_2 : List (S50)) (r : Int) (w : World) (hr0_0 : Kd.C (Kd.int .i64) w A0_0 l0_0.length l0_0) (hc0_0 : l0_0.length ≤ c0_0) (hr0_1 : Kd.C k50 w A0_1 l0_1.length l0_1) (hc0_1 : l0_1.length ≤ c0_1) (hr0_2 : Kd.C k50 w A0_2 l0_2.length l0_2) (hc0_2 : l0_2.length ≤ c0_2) (h : plan_Steps.f l0_0 l0_1 l0_2 = some r) :
    Calls Tryd.prog 40 #[.agg #[.slice A0_0 l0_0.length c0_0, .slice A0_1 l0_1.length c0_1, .slice A0_2 l0_2.length c0_2]] w fun e w' => e = .returned (.int .i64 r) ∧ Below w.heap.size w w' := by
  have hu60 := Tryd.underlying60
  have HR0_0 := Aside0.mk hr0_0
  have HC0_0 := Aside0.mk hc0_0
  clear hr0_0 hc0_0
  have HR0_1 := Aside0.mk hr0_1
  have HC0_1 := Aside0.mk hc0_1
  clear hr0_1 hc0_1
  have HR0_2 := Aside0.mk hr0_2
  have HC0_2 := Aside0.mk hc0_2
  clear hr0_2 hc0_2
  have HB := Aside0.mk (Below.refl w.heap.size w)
  have H : (some (l0_2.length : Int)) = some r := h
  clear h
  obtain rfl := Option.some.inj H
  go_enter Tryd.func40, Tryd.ntmps40
  go_wp2_with (first | ((with_reducible refine gate_dst (N := 1) rfl ?_); refine box_event ?hg (N := 1) ?hd (cs := #[.slice A0_0 l0_0.length c0_0, .slice A0_1 l0_1.length c0_1, .slice A0_2 l0_2.length c0_2]) (t := 60) ?hr ?_; (case hd => rfl); (case hg => rfl); (case hr => first | (go_simp; done) | (go_simp; rfl)); intro gb337 hg w2 hbox hb; have n0_ := Aside0.mk (below_step (by repeat (first | (with_reducible first | exact HB.out | apply below_alloc | apply pw_below_drewN | apply below_drew1) | exact HB.out)) hb); have n1_ := Aside0.mk (hbox); have n2_ := Aside0.mk ((by rw [hg]; exact (below_size (by repeat (first | (with_reducible first | exact HB.out | apply below_alloc | apply pw_below_drewN | apply below_drew1) | exact HB.out))) : w.heap.size ≤ gb337)); have n3_ := Aside0.mk ((by rw [hg]; exact (below_size (by repeat (first | (with_reducible first | exact HB.out | apply below_alloc | apply pw_below_drewN | apply below_drew1) | exact HB.out))) : w.heap.size ≤ gb337)); clear HB; have HB := n0_; have BK337 := n1_; have GW337 := n2_; have GE337 := n3_; clear n0_ n1_ n2_ n3_; clear hb hbox hg; have hcz3_0 : w2.cell? ⟨gb337, 0, none⟩ = some (.slice A0_0 l0_0.length c0_0) := (blk_cell BK337.out 0).trans rfl; have hcz3_1 : w2.cell? ⟨gb337, 1, none⟩ = some (.slice A0_1 l0_1.length c0_1) := (blk_cell BK337.out 1).trans rfl; have hcz3_2 : w2.cell? ⟨gb337, 2, none⟩ = some (.slice A0_2 l0_2.length c0_2) := (blk_cell BK337.out 2).trans rfl; have hfz3_0 := blk_frozen BK337.out 0; have hfz3_1 := blk_frozen BK337.out 1; have hfz3_2 := blk_frozen BK337.out 2))
  go_ret
  exact ⟨by first | rfl | exact ne_empty _ | exact eq_empty _ | (simp [errW_none, errW_some] <;> rfl) | (simp [*, errW_none, errW_some] <;> rfl), by repeat (first | (with_reducible first | exact HB.out | apply below_alloc | apply pw_below_drewN | apply below_drew1 | refine below_set ?_ GE337.out) | exact HB.out)⟩
def spencelaw28_awake.f (k : Nat)  : Option (Bool) := (bitmap_Of.f (([0] : List Int))).bind fun t344 => ((plan_Of.f k (([(⟨0, 5⟩ : S53)] : List (S53))) 10 4 t344).bind fun bt345 => ((plan_Steps.f bt345.1 bt345.2.1 bt345.2.2).bind fun t355 => (if t355 = 1 then (if 0 < (bt345.2.2.length : Int) then (some (((rd_T50 bt345.2.2 0).f0) == 1 && (((rd_T50 bt345.2.2 0).f1) == 2 && (!((rd_T50 bt345.2.2 0).f2))))) else (none)) else (some false))))
theorem spencelaw28_awake.mono : ∀ k, LeO (spencelaw28_awake.f k ) (spencelaw28_awake.f (k + 1) ) := by
  intro  k
  unfold spencelaw28_awake.f
  repeat' first
      | (with_reducible exact plan_Of.mono _ _ _ _ _)
      | (with_reducible exact LeO.refl _)
      | (with_reducible exact LeO.none _)
      | (with_reducible refine LeO.ite ?_ ?_)
      | (with_reducible refine LeO.bind ?_ (fun _ => ?_))
      | exact plan_Of.mono _ _ _ _ _
      | exact LeO.none _
      | refine LeO.ite ?_ ?_
      | refine LeO.bind ?_ (fun _ => ?_)
set_option maxHeartbeats 8000000 in
set_option maxRecDepth 100000 in
theorem spencelaw28_awake.calls (k : Nat)  (r : Bool) (w : World) (hT_ : Ag.TabW w) (h : spencelaw28_awake.f k  = some r) :
    Calls Tryd.prog 33 #[] w fun e w' => e = .returned (.bool r) ∧ Below w.heap.size w w' := by
  have hu53 := Tryd.underlying53
  have hu60 := Tryd.underlying60
  have hu50 := Tryd.underlying50
  have HB := Aside0.mk (Below.refl w.heap.size w)
  have HTab_ := Aside0.mk hT_
  clear hT_
  have H : ((bitmap_Of.f (([0] : List Int))).bind fun t344 => ((plan_Of.f k (([(⟨0, 5⟩ : S53)] : List (S53))) 10 4 t344).bind fun bt345 => ((plan_Steps.f bt345.1 bt345.2.1 bt345.2.2).bind fun t355 => (if t355 = 1 then (if 0 < (bt345.2.2.length : Int) then (some (((rd_T50 bt345.2.2 0).f0) == 1 && (((rd_T50 bt345.2.2 0).f1) == 2 && (!((rd_T50 bt345.2.2 0).f2))))) else (none)) else (some false))))) = some r := h
  clear h
  obtain ⟨y338, hy338⟩ : ∃ y_ : List (S53), y_ = (([(⟨0, 5⟩ : S53)] : List (S53))) := ⟨_, rfl⟩
  replace H : ((bitmap_Of.f (([0] : List Int))).bind fun t344 => ((plan_Of.f k y338 10 4 t344).bind fun bt345 => ((plan_Steps.f bt345.1 bt345.2.1 bt345.2.2).bind fun t355 => (if t355 = 1 then (if 0 < (bt345.2.2.length : Int) then (some (((rd_T50 bt345.2.2 0).f0) == 1 && (((rd_T50 bt345.2.2 0).f1) == 2 && (!((rd_T50 bt345.2.2 0).f2))))) else (none)) else (some false))))) = some r := by first | (rw [hy338]; with_reducible exact H) | (have H2_ := (Option.bind_some _ _).symm.trans H; rw [hy338]; with_reducible exact H2_) | (have H2_ := (Option.bind_some _ _).symm.trans H; with_reducible exact H2_) | with_reducible exact H | (rw [hy338]; exact H) | exact H
  have Ny338 := Aside0.mk hy338
  clear hy338
  obtain ⟨y341, hy341⟩ : ∃ y_ : List Int, y_ = (([0] : List Int)) := ⟨_, rfl⟩
  replace H : ((bitmap_Of.f y341).bind fun t344 => ((plan_Of.f k y338 10 4 t344).bind fun bt345 => ((plan_Steps.f bt345.1 bt345.2.1 bt345.2.2).bind fun t355 => (if t355 = 1 then (if 0 < (bt345.2.2.length : Int) then (some (((rd_T50 bt345.2.2 0).f0) == 1 && (((rd_T50 bt345.2.2 0).f1) == 2 && (!((rd_T50 bt345.2.2 0).f2))))) else (none)) else (some false))))) = some r := by first | (rw [hy341]; with_reducible exact H) | (have H2_ := (Option.bind_some _ _).symm.trans H; rw [hy341]; with_reducible exact H2_) | (have H2_ := (Option.bind_some _ _).symm.trans H; with_reducible exact H2_) | with_reducible exact H | (rw [hy341]; exact H) | exact H
  have Ny341 := Aside0.mk hy341
  clear hy341
  replace H := Option.bind_eq_some_iff.mp H
  obtain ⟨t344, A10, H⟩ := H
  replace H : ((plan_Of.f k y338 10 4 t344).bind fun bt345 => ((plan_Steps.f bt345.1 bt345.2.1 bt345.2.2).bind fun t355 => (if t355 = 1 then (if 0 < (bt345.2.2.length : Int) then (some (((rd_T50 bt345.2.2 0).f0) == 1 && (((rd_T50 bt345.2.2 0).f1) == 2 && (!((rd_T50 bt345.2.2 0).f2))))) else (none)) else (some false)))) = some r := H
  have A1 := Aside0.mk A10
  clear A10
  replace H := Option.bind_eq_some_iff.mp H
  obtain ⟨⟨t345, t348, t351⟩, A20, H⟩ := H
  replace H : ((plan_Steps.f t345 t348 t351).bind fun t355 => (if t355 = 1 then (if 0 < (t351.length : Int) then (some (((rd_T50 t351 0).f0) == 1 && (((rd_T50 t351 0).f1) == 2 && (!((rd_T50 t351 0).f2))))) else (none)) else (some false))) = some r := H
  have A2 := Aside0.mk A20
  clear A20
  replace H := Option.bind_eq_some_iff.mp H
  obtain ⟨t355, A30, H⟩ := H
  replace H : (if t355 = 1 then (if 0 < (t351.length : Int) then (some (((rd_T50 t351 0).f0) == 1 && (((rd_T50 t351 0).f1) == 2 && (!((rd_T50 t351 0).f2))))) else (none)) else (some false)) = some r := H
  have A3 := Aside0.mk A30
  clear A30
  by_cases c4 : t355 = 1
  · rw [if_pos c4] at H
    have c4b0 : (t355 == 1) = true := beq_iff_eq.mpr c4
    have c4b1 : (t355 != 1) = false := bne_eq_false_iff_eq.mpr c4
    clear c4
    by_cases c5 : 0 < (t351.length : Int)
    · rw [if_pos c5] at H
      have c5b0 : decide (0 < (t351.length : Int)) = true := decide_eq_true c5
      have c5b1 : decide (0 < t351.length) = true := decide_eq_true (by omega)
      clear c5
      obtain rfl := Option.some.inj H
      go_enter Tryd.func33, Tryd.ntmps33
      go_wp2_with (first | ((with_reducible refine gate_dst (N := 3) rfl ?_); refine Kd.R_lit k53 _ 53 ?hg (N := 3) ?hd (xs := ([(⟨0, 5⟩ : S53)] : List (S53))) (inner := [.int .i64 0, .int .i64 5]) (ok := fun _ => True) (okp := fun _ => True) ?hr ?hp (fun _ hk => hk) trivial (Below.refl _ _) (Nat.le_refl _) (by simp) ?_; (case hd => rfl); (case hg => rfl); (case hr => first | (go_simp; done) | (go_simp; rfl)); (case hp => exact (Reps.c2 (show Kd.M k53 _ _ _ (⟨0, 5⟩ : S53) [.int .i64 0, .int .i64 5] from (k53_mkM _ _ _ (⟨0, 5⟩ : S53) )) (Reps.none _ _))); intro v339 w6 ho7 hb hg_ hnew_; clear hg_ hnew_; (first | rw [← Ny338.out] at ho7 | (simp only [Int.reduceToNat] at ho7; rw [← Ny338.out] at ho7)); have n0_ := Aside0.mk (Kd.R_lower ho7 (below_size (by repeat (first | (with_reducible first | exact HB.out | apply below_alloc | apply pw_below_drewN | apply below_drew1) | exact HB.out)))); have n1_ := Aside0.mk (below_step (by repeat (first | (with_reducible first | exact HB.out | apply below_alloc | apply pw_below_drewN | apply below_drew1) | exact HB.out)) hb); clear HB; have HO340 := n0_; have HB := n1_; clear n0_ n1_; clear hb ho7) | ((with_reducible refine gate_dst (N := 4) rfl ?_); refine Kd.R_lit (Kd.int .i64) _ 3 ?hg (N := 4) ?hd (xs := ([0] : List Int)) (inner := [.int .i64 0]) (ok := fun _ => True) (okp := fun _ => True) ?hr ?hp (fun _ hk => hk) trivial (Below.refl _ _) (Nat.le_refl _) (by simp) ?_; (case hd => rfl); (case hg => rfl); (case hr => first | (go_simp; done) | (go_simp; rfl)); (case hp => exact (Reps.one (show Kd.M (Kd.int .i64) _ _ _ 0 [.int .i64 0] from rfl) (Reps.none _ _))); intro v342 w8 ho9 hb hg_ hnew_; clear hg_ hnew_; (first | rw [← Ny341.out] at ho9 | (simp only [Int.reduceToNat] at ho9; rw [← Ny341.out] at ho9)); have n0_ := Aside0.mk (Kd.R_below (by (with_reducible repeat (first | apply Kd.R_alloc | apply Kd.R_drewN | apply Kd.R_drew)); exact HO340.out) hb); have n1_ := Aside0.mk (Kd.R_lower ho9 (below_size (by repeat (first | (with_reducible first | exact HB.out | apply below_alloc | apply pw_below_drewN | apply below_drew1) | exact HB.out)))); have n2_ := Aside0.mk (below_step (by repeat (first | (with_reducible first | exact HB.out | apply below_alloc | apply pw_below_drewN | apply below_drew1) | exact HB.out)) hb); clear HO340; clear HB; have HO340 := n0_; have HO343 := n1_; have HB := n2_; clear n0_ n1_ n2_; clear hb ho9; obtain ⟨Ao10, co10, eo10⟩ := Kd.R_slice HO343.out; subst eo10) | ((with_reducible refine gate_callee (f := 10) rfl ?_); refine goesL_ (some 5) rfl rfl Tryd.func10 (by kernel_rfl) rfl #[.slice Ao10 y341.length co10] rfl (by (try simp only [List.map_toArray, List.map_cons, List.map_nil]); first | done | rfl | (simp only [List.length_drop, List.length_take]; rfl)) ?_; (with_reducible refine (bitmap_Of.calls _ _ y341 t344 _ ?side1 ?side2 A1.out).mono ?_); (case side1 => repeat (first | exact (Kd.R_reads' HO343.out).2.2 | (with_reducible refine Kd.C_alloc ?_ _) | (with_reducible refine Kd.C_drewN ?_ _) | (with_reducible refine Kd.C_drew ?_))); (case side2 => exact (Kd.R_reads' HO343.out).2.1); rintro e w11 ⟨rfl, hb⟩; refine ⟨_, rfl, ?_⟩; have n0_ := Aside0.mk (Kd.R_below (by (with_reducible repeat (first | apply Kd.R_alloc | apply Kd.R_drewN | apply Kd.R_drew)); exact HO340.out) hb); have n1_ := Aside0.mk (Kd.R_below (by (with_reducible repeat (first | apply Kd.R_alloc | apply Kd.R_drewN | apply Kd.R_drew)); exact HO343.out) hb); have n2_ := Aside0.mk (below_step (by repeat (first | (with_reducible first | exact HB.out | apply below_alloc | apply pw_below_drewN | apply below_drew1) | exact HB.out)) hb); clear HO340; clear HO343; clear HB; have HO340 := n0_; have HO343 := n1_; have HB := n2_; clear n0_ n1_ n2_; (try clear hb); (try clear hb2); (try clear hk); (try clear hi); obtain ⟨Ao12, co12, eo12⟩ := Kd.R_slice HO340.out; subst eo12) | ((with_reducible refine gate_callee (f := 36) rfl ?_); refine goesL_ (some 6) rfl rfl Tryd.func36 (by kernel_rfl) rfl #[.slice Ao12 y338.length co12, .int .i64 10, .int .i64 4, .agg (Ag.agC .u64 65 t344)] rfl (by (try simp only [List.map_toArray, List.map_cons, List.map_nil]); first | done | rfl | (simp only [List.length_drop, List.length_take]; rfl)) ?_; (with_reducible refine (plan_Of.calls k _ _ y338 10 4 t344 t345 t348 t351 _ ?side1 ?side2 (HTab_.out.step (by repeat (first | (with_reducible first | exact HB.out | apply below_alloc | apply pw_below_drewN | apply below_drew1) | exact HB.out))) A2.out).mono ?_); (case side1 => repeat (first | exact (Kd.R_reads' HO340.out).2.2 | (with_reducible refine Kd.C_alloc ?_ _) | (with_reducible refine Kd.C_drewN ?_ _) | (with_reducible refine Kd.C_drew ?_))); (case side2 => exact (Kd.R_reads' HO340.out).2.1); rintro e w13 ⟨v346, v349, v352, rfl, ho0, ho1, ho2, hb⟩; refine ⟨_, rfl, ?_⟩; have n0_ := Aside0.mk (Kd.R_below (by (with_reducible repeat (first | apply Kd.R_alloc | apply Kd.R_drewN | apply Kd.R_drew)); exact HO340.out) hb); have n1_ := Aside0.mk (Kd.R_elder' (by (with_reducible repeat (first | apply Kd.R_alloc | apply Kd.R_drewN | apply Kd.R_drew)); exact HO343.out) (Kd.R_base ho0) hb); have n2_ := Aside0.mk (Kd.R_lower (Kd.R_new' ho0 (Kd.R_lt (by (with_reducible repeat (first | apply Kd.R_alloc | apply Kd.R_drewN | apply Kd.R_drew)); exact HO343.out))) (below_size (by repeat (first | (with_reducible first | exact HB.out | apply below_alloc | apply pw_below_drewN | apply below_drew1) | exact HB.out)))); have n3_ := Aside0.mk (Kd.R_lower ho1 (below_size (by repeat (first | (with_reducible first | exact HB.out | apply below_alloc | apply pw_below_drewN | apply below_drew1) | exact HB.out)))); have n4_ := Aside0.mk (Kd.R_lower ho2 (below_size (by repeat (first | (with_reducible first | exact HB.out | apply below_alloc | apply pw_below_drewN | apply below_drew1) | exact HB.out)))); have n5_ := Aside0.mk (below_step (by repeat (first | (with_reducible first | exact HB.out | apply below_alloc | apply pw_below_drewN | apply below_drew1) | exact HB.out)) hb); clear HO340; clear HO343; clear HB; have HO340 := n0_; have HO343 := n1_; have HO347 := n2_; have HO350 := n3_; have HO353 := n4_; have HB := n5_; clear n0_ n1_ n2_ n3_ n4_ n5_; (try clear hb); (try clear hb2); (try clear hk); (try clear hi); (try clear ho0); (try clear ho1); (try clear ho2)) | ((with_reducible refine gate_dst (N := 1) rfl ?_); refine box_event ?hg (N := 1) ?hd (cs := #[.slice none 0 0, .slice none 0 0, .slice none 0 0]) (t := 60) ?hr ?_; (case hd => rfl); (case hg => rfl); (case hr => first | (go_simp; done) | (go_simp; rfl)); intro gb354 hg w14 hbox hb; have n0_ := Aside0.mk (Kd.R_below (by (with_reducible repeat (first | apply Kd.R_alloc | apply Kd.R_drewN | apply Kd.R_drew)); exact HO340.out) hb); have n1_ := Aside0.mk (Kd.R_below (by (with_reducible repeat (first | apply Kd.R_alloc | apply Kd.R_drewN | apply Kd.R_drew)); exact HO343.out) hb); have n2_ := Aside0.mk (Kd.R_below (by (with_reducible repeat (first | apply Kd.R_alloc | apply Kd.R_drewN | apply Kd.R_drew)); exact HO347.out) hb); have n3_ := Aside0.mk (Kd.R_below (by (with_reducible repeat (first | apply Kd.R_alloc | apply Kd.R_drewN | apply Kd.R_drew)); exact HO350.out) hb); have n4_ := Aside0.mk (Kd.R_below (by (with_reducible repeat (first | apply Kd.R_alloc | apply Kd.R_drewN | apply Kd.R_drew)); exact HO353.out) hb); have n5_ := Aside0.mk (below_step (by repeat (first | (with_reducible first | exact HB.out | apply below_alloc | apply pw_below_drewN | apply below_drew1) | exact HB.out)) hb); have n6_ := Aside0.mk (hbox); have n7_ := Aside0.mk ((by rw [hg]; exact (below_size (by repeat (first | (with_reducible first | exact HB.out | apply below_alloc | apply pw_below_drewN | apply below_drew1) | exact HB.out))) : w.heap.size ≤ gb354)); have n8_ := Aside0.mk ((by rw [hg]; exact (below_size (by repeat (first | (with_reducible first | exact HB.out | apply below_alloc | apply pw_below_drewN | apply below_drew1) | exact HB.out))) : w.heap.size ≤ gb354)); clear HO340; clear HO343; clear HO347; clear HO350; clear HO353; clear HB; have HO340 := n0_; have HO343 := n1_; have HO347 := n2_; have HO350 := n3_; have HO353 := n4_; have HB := n5_; have BK354 := n6_; have GW354 := n7_; have GE354 := n8_; clear n0_ n1_ n2_ n3_ n4_ n5_ n6_ n7_ n8_; clear hb hbox hg; obtain ⟨Ao15, co15, eo15⟩ := Kd.R_slice HO347.out; subst eo15; have hcz16_0 : w14.cell? ⟨gb354, 0, none⟩ = some (.slice none 0 0) := (blk_cell BK354.out 0).trans rfl; have hcz16_1 : w14.cell? ⟨gb354, 1, none⟩ = some (.slice none 0 0) := (blk_cell BK354.out 1).trans rfl; have hcz16_2 : w14.cell? ⟨gb354, 2, none⟩ = some (.slice none 0 0) := (blk_cell BK354.out 2).trans rfl; have hfz16_0 := blk_frozen BK354.out 0; have hfz16_1 := blk_frozen BK354.out 1; have hfz16_2 := blk_frozen BK354.out 2; obtain ⟨Ao17, co17, eo17⟩ := Kd.R_slice HO350.out; subst eo17; obtain ⟨Ao18, co18, eo18⟩ := Kd.R_slice HO353.out; subst eo18) | ((with_reducible refine gate_callee (f := 40) rfl ?_); refine goesL_ (some 8) rfl rfl Tryd.func40 (by kernel_rfl) rfl #[.agg #[.slice Ao15 t345.length co15, .slice Ao17 t348.length co17, .slice Ao18 t351.length co18]] rfl (by (try simp only [List.map_toArray, List.map_cons, List.map_nil]); first | done | rfl | (simp only [List.length_drop, List.length_take]; rfl)) ?_; (with_reducible refine (plan_Steps.calls _ _ t345 _ _ t348 _ _ t351 t355 _ ?side1 ?side2 ?side3 ?side4 ?side5 ?side6 A3.out).mono ?_); (case side1 => refine (Kd.R_reads' (e := 3) (base := w.heap.size) (ok := fun k_ => (True ∧ some k_ ≠ (.slice Ao10 y341.length co10 : Value).ownBlock)) (n := t345.length) (c := co15) ?_).2.2; exact (by (with_reducible repeat (first | apply Kd.R_alloc | apply Kd.R_drewN | apply Kd.R_drew)); exact (Kd.R_mono (Kd.R_far (p := ⟨gb354, 2, none⟩) (Kd.R_far (p := ⟨gb354, 1, none⟩) (Kd.R_far (p := ⟨gb354, 0, none⟩) (Kd.R_types HO347.out BK354.out (by decide)) (fun _ hk => hk.2) (.slice Ao15 t345.length co15)) (fun _ hk => hk.2) (.slice Ao17 t348.length co17)) (fun _ hk => hk.2) (.slice Ao18 t351.length co18)) (fun _ h_ => h_.1)))); (case side2 => exact (Kd.R_reads' HO347.out).2.1); (case side3 => refine (Kd.R_reads' (e := 50) (base := w.heap.size) (ok := fun k_ => some k_ ≠ (.slice Ao18 t351.length co18 : Value).ownBlock) (n := t348.length) (c := co17) ?_).2.2; exact (by (with_reducible repeat (first | apply Kd.R_alloc | apply Kd.R_drewN | apply Kd.R_drew)); exact (Kd.R_mono (Kd.R_far (p := ⟨gb354, 2, none⟩) (Kd.R_far (p := ⟨gb354, 1, none⟩) (Kd.R_far (p := ⟨gb354, 0, none⟩) (Kd.R_types HO350.out BK354.out (by decide)) (fun _ hk => hk.2) (.slice Ao15 t345.length co15)) (fun _ hk => hk.2) (.slice Ao17 t348.length co17)) (fun _ hk => hk.2) (.slice Ao18 t351.length co18)) (fun _ h_ => h_.1)))); (case side4 => exact (Kd.R_reads' HO350.out).2.1); (case side5 => refine (Kd.R_reads' (e := 50) (base := w.heap.size) (ok := fun k_ => some k_ ≠ (.slice Ao17 t348.length co17 : Value).ownBlock) (n := t351.length) (c := co18) ?_).2.2; exact (by (with_reducible repeat (first | apply Kd.R_alloc | apply Kd.R_drewN | apply Kd.R_drew)); exact (Kd.R_mono (Kd.R_far (p := ⟨gb354, 2, none⟩) (Kd.R_far (p := ⟨gb354, 1, none⟩) (Kd.R_far (p := ⟨gb354, 0, none⟩) (Kd.R_types HO353.out BK354.out (by decide)) (fun _ hk => hk.2) (.slice Ao15 t345.length co15)) (fun _ hk => hk.2) (.slice Ao17 t348.length co17)) (fun _ hk => hk.2) (.slice Ao18 t351.length co18)) (fun _ h_ => h_.1)))); (case side6 => exact (Kd.R_reads' HO353.out).2.1); rintro e w19 ⟨rfl, hb⟩; refine ⟨_, rfl, ?_⟩; have n0_ := Aside0.mk (Kd.R_below (by (with_reducible repeat (first | apply Kd.R_alloc | apply Kd.R_drewN | apply Kd.R_drew)); exact (Kd.R_mono (Kd.R_far (p := ⟨gb354, 2, none⟩) (Kd.R_far (p := ⟨gb354, 1, none⟩) (Kd.R_far (p := ⟨gb354, 0, none⟩) (Kd.R_types HO340.out BK354.out (by decide)) (fun _ hk => hk.2) (.slice Ao15 t345.length co15)) (fun _ hk => hk.2) (.slice Ao17 t348.length co17)) (fun _ hk => hk.2) (.slice Ao18 t351.length co18)) (fun _ h_ => h_.1))) hb); have n1_ := Aside0.mk (Kd.R_below (by (with_reducible repeat (first | apply Kd.R_alloc | apply Kd.R_drewN | apply Kd.R_drew)); exact (Kd.R_mono (Kd.R_far (p := ⟨gb354, 2, none⟩) (Kd.R_far (p := ⟨gb354, 1, none⟩) (Kd.R_far (p := ⟨gb354, 0, none⟩) (Kd.R_types HO343.out BK354.out (by decide)) (fun _ hk => hk.2) (.slice Ao15 t345.length co15)) (fun _ hk => hk.2) (.slice Ao17 t348.length co17)) (fun _ hk => hk.2) (.slice Ao18 t351.length co18)) (fun _ h_ => h_.1))) hb); have n2_ := Aside0.mk (Kd.R_below (by (with_reducible repeat (first | apply Kd.R_alloc | apply Kd.R_drewN | apply Kd.R_drew)); exact (Kd.R_mono (Kd.R_far (p := ⟨gb354, 2, none⟩) (Kd.R_far (p := ⟨gb354, 1, none⟩) (Kd.R_far (p := ⟨gb354, 0, none⟩) (Kd.R_types HO347.out BK354.out (by decide)) (fun _ hk => hk.2) (.slice Ao15 t345.length co15)) (fun _ hk => hk.2) (.slice Ao17 t348.length co17)) (fun _ hk => hk.2) (.slice Ao18 t351.length co18)) (fun _ h_ => h_.1))) hb); have n3_ := Aside0.mk (Kd.R_below (by (with_reducible repeat (first | apply Kd.R_alloc | apply Kd.R_drewN | apply Kd.R_drew)); exact (Kd.R_mono (Kd.R_far (p := ⟨gb354, 2, none⟩) (Kd.R_far (p := ⟨gb354, 1, none⟩) (Kd.R_far (p := ⟨gb354, 0, none⟩) (Kd.R_types HO350.out BK354.out (by decide)) (fun _ hk => hk.2) (.slice Ao15 t345.length co15)) (fun _ hk => hk.2) (.slice Ao17 t348.length co17)) (fun _ hk => hk.2) (.slice Ao18 t351.length co18)) (fun _ h_ => h_.1))) hb); have n4_ := Aside0.mk (Kd.R_below (by (with_reducible repeat (first | apply Kd.R_alloc | apply Kd.R_drewN | apply Kd.R_drew)); exact (Kd.R_mono (Kd.R_far (p := ⟨gb354, 2, none⟩) (Kd.R_far (p := ⟨gb354, 1, none⟩) (Kd.R_far (p := ⟨gb354, 0, none⟩) (Kd.R_types HO353.out BK354.out (by decide)) (fun _ hk => hk.2) (.slice Ao15 t345.length co15)) (fun _ hk => hk.2) (.slice Ao17 t348.length co17)) (fun _ hk => hk.2) (.slice Ao18 t351.length co18)) (fun _ h_ => h_.1))) hb); have n5_ := Aside0.mk (blk_below (g := gb354) (o := .cells #[.slice Ao15 t345.length co15, .slice Ao17 t348.length co17, .slice Ao18 t351.length co18] 60 (0, 0)) (by (with_reducible repeat (first | refine blk_drewN ?_ _ | refine blk_drew ?_ | refine blk_alloc ?_ _)); refine blk_put (cs := #[.slice Ao15 t345.length co15, .slice Ao17 t348.length co17, .slice none 0 0]) ?_ 2 _ rfl; (with_reducible repeat (first | refine blk_drewN ?_ _ | refine blk_drew ?_ | refine blk_alloc ?_ _)); refine blk_put (cs := #[.slice Ao15 t345.length co15, .slice none 0 0, .slice none 0 0]) ?_ 1 _ rfl; (with_reducible repeat (first | refine blk_drewN ?_ _ | refine blk_drew ?_ | refine blk_alloc ?_ _)); refine blk_put (cs := #[.slice none 0 0, .slice none 0 0, .slice none 0 0]) ?_ 0 _ rfl; (with_reducible repeat (first | refine blk_drewN ?_ _ | refine blk_drew ?_ | refine blk_alloc ?_ _)); exact BK354.out) hb); have n6_ := Aside0.mk (below_step (by repeat (first | (with_reducible first | exact HB.out | apply below_alloc | apply pw_below_drewN | apply below_drew1 | refine below_set ?_ GE354.out | refine Ag.row_below ?_ GE354.out) | exact HB.out)) hb); clear HO340; clear HO343; clear HO347; clear HO350; clear HO353; clear BK354; clear HB; have HO340 := n0_; have HO343 := n1_; have HO347 := n2_; have HO350 := n3_; have HO353 := n4_; have BK354 := n5_; have HB := n6_; clear n0_ n1_ n2_ n3_ n4_ n5_ n6_; (try clear hb); (try clear hb2); (try clear hk); (try clear hi); have hcz20_0 : w19.cell? ⟨gb354, 0, none⟩ = some (.slice Ao15 t345.length co15) := (blk_cell BK354.out 0).trans rfl; have hcz20_1 : w19.cell? ⟨gb354, 1, none⟩ = some (.slice Ao17 t348.length co17) := (blk_cell BK354.out 1).trans rfl; have hcz20_2 : w19.cell? ⟨gb354, 2, none⟩ = some (.slice Ao18 t351.length co18) := (blk_cell BK354.out 2).trans rfl; have hfz20_0 := blk_frozen BK354.out 0; have hfz20_1 := blk_frozen BK354.out 1; have hfz20_2 := blk_frozen BK354.out 2; have p356 : 0 ≤ (0 : Int) := (by omega); have q356 : 0 < (t351.length : Int) := of_decide_eq_true (by first | (with_reducible assumption) | assumption); obtain ⟨ad356, e356, hx356_0, hx356_1, hx356_2⟩ := at_T50 (Kd.R_reads' HO353.out).2.2 0 p356 q356; cases e356; have qi356 : (0 < t351.length) = True := eq_true (by omega); (try rw [show ((0 : Int)).toNat = 0 from rfl] at hx356_0); (try rw [show 0 * 3 = 0 from rfl] at hx356_0); (try rw [Addr.add_zero'] at hx356_0); (try rw [show ((0 : Int)).toNat = 0 from rfl] at hx356_1); (try rw [show 0 * 3 = 0 from rfl] at hx356_1); (try rw [Addr.add_zero'] at hx356_1); (try rw [show ((0 : Int)).toNat = 0 from rfl] at hx356_2); (try rw [show 0 * 3 = 0 from rfl] at hx356_2); (try rw [Addr.add_zero'] at hx356_2); replace p356 := eq_true p356; replace q356 := eq_true q356))
      go_ret
      exact ⟨by first | rfl | exact ne_empty _ | exact eq_empty _ | (simp [errW_none, errW_some] <;> rfl) | (simp [*, errW_none, errW_some] <;> rfl), by repeat (first | (with_reducible first | exact HB.out | apply below_alloc | apply pw_below_drewN | apply below_drew1 | refine below_set ?_ GE354.out | refine Ag.row_below ?_ GE354.out) | exact HB.out)⟩
    · rw [if_neg c5] at H
      exact absurd H (by simp)
  · rw [if_neg c4] at H
    have c4b0 : (t355 == 1) = false := beq_eq_false_iff_ne.mpr c4
    have c4b1 : (t355 != 1) = true := bne_iff_ne.mpr c4
    obtain rfl := Option.some.inj H
    go_enter Tryd.func33, Tryd.ntmps33
    go_wp2_with (first | ((with_reducible refine gate_dst (N := 3) rfl ?_); refine Kd.R_lit k53 _ 53 ?hg (N := 3) ?hd (xs := ([(⟨0, 5⟩ : S53)] : List (S53))) (inner := [.int .i64 0, .int .i64 5]) (ok := fun _ => True) (okp := fun _ => True) ?hr ?hp (fun _ hk => hk) trivial (Below.refl _ _) (Nat.le_refl _) (by simp) ?_; (case hd => rfl); (case hg => rfl); (case hr => first | (go_simp; done) | (go_simp; rfl)); (case hp => exact (Reps.c2 (show Kd.M k53 _ _ _ (⟨0, 5⟩ : S53) [.int .i64 0, .int .i64 5] from (k53_mkM _ _ _ (⟨0, 5⟩ : S53) )) (Reps.none _ _))); intro v339 w21 ho22 hb hg_ hnew_; clear hg_ hnew_; (first | rw [← Ny338.out] at ho22 | (simp only [Int.reduceToNat] at ho22; rw [← Ny338.out] at ho22)); have n0_ := Aside0.mk (Kd.R_lower ho22 (below_size (by repeat (first | (with_reducible first | exact HB.out | apply below_alloc | apply pw_below_drewN | apply below_drew1) | exact HB.out)))); have n1_ := Aside0.mk (below_step (by repeat (first | (with_reducible first | exact HB.out | apply below_alloc | apply pw_below_drewN | apply below_drew1) | exact HB.out)) hb); clear HB; have HO340 := n0_; have HB := n1_; clear n0_ n1_; clear hb ho22) | ((with_reducible refine gate_dst (N := 4) rfl ?_); refine Kd.R_lit (Kd.int .i64) _ 3 ?hg (N := 4) ?hd (xs := ([0] : List Int)) (inner := [.int .i64 0]) (ok := fun _ => True) (okp := fun _ => True) ?hr ?hp (fun _ hk => hk) trivial (Below.refl _ _) (Nat.le_refl _) (by simp) ?_; (case hd => rfl); (case hg => rfl); (case hr => first | (go_simp; done) | (go_simp; rfl)); (case hp => exact (Reps.one (show Kd.M (Kd.int .i64) _ _ _ 0 [.int .i64 0] from rfl) (Reps.none _ _))); intro v342 w23 ho24 hb hg_ hnew_; clear hg_ hnew_; (first | rw [← Ny341.out] at ho24 | (simp only [Int.reduceToNat] at ho24; rw [← Ny341.out] at ho24)); have n0_ := Aside0.mk (Kd.R_below (by (with_reducible repeat (first | apply Kd.R_alloc | apply Kd.R_drewN | apply Kd.R_drew)); exact HO340.out) hb); have n1_ := Aside0.mk (Kd.R_lower ho24 (below_size (by repeat (first | (with_reducible first | exact HB.out | apply below_alloc | apply pw_below_drewN | apply below_drew1) | exact HB.out)))); have n2_ := Aside0.mk (below_step (by repeat (first | (with_reducible first | exact HB.out | apply below_alloc | apply pw_below_drewN | apply below_drew1) | exact HB.out)) hb); clear HO340; clear HB; have HO340 := n0_; have HO343 := n1_; have HB := n2_; clear n0_ n1_ n2_; clear hb ho24; obtain ⟨Ao25, co25, eo25⟩ := Kd.R_slice HO343.out; subst eo25) | ((with_reducible refine gate_callee (f := 10) rfl ?_); refine goesL_ (some 5) rfl rfl Tryd.func10 (by kernel_rfl) rfl #[.slice Ao25 y341.length co25] rfl (by (try simp only [List.map_toArray, List.map_cons, List.map_nil]); first | done | rfl | (simp only [List.length_drop, List.length_take]; rfl)) ?_; (with_reducible refine (bitmap_Of.calls _ _ y341 t344 _ ?side1 ?side2 A1.out).mono ?_); (case side1 => repeat (first | exact (Kd.R_reads' HO343.out).2.2 | (with_reducible refine Kd.C_alloc ?_ _) | (with_reducible refine Kd.C_drewN ?_ _) | (with_reducible refine Kd.C_drew ?_))); (case side2 => exact (Kd.R_reads' HO343.out).2.1); rintro e w26 ⟨rfl, hb⟩; refine ⟨_, rfl, ?_⟩; have n0_ := Aside0.mk (Kd.R_below (by (with_reducible repeat (first | apply Kd.R_alloc | apply Kd.R_drewN | apply Kd.R_drew)); exact HO340.out) hb); have n1_ := Aside0.mk (Kd.R_below (by (with_reducible repeat (first | apply Kd.R_alloc | apply Kd.R_drewN | apply Kd.R_drew)); exact HO343.out) hb); have n2_ := Aside0.mk (below_step (by repeat (first | (with_reducible first | exact HB.out | apply below_alloc | apply pw_below_drewN | apply below_drew1) | exact HB.out)) hb); clear HO340; clear HO343; clear HB; have HO340 := n0_; have HO343 := n1_; have HB := n2_; clear n0_ n1_ n2_; (try clear hb); (try clear hb2); (try clear hk); (try clear hi); obtain ⟨Ao27, co27, eo27⟩ := Kd.R_slice HO340.out; subst eo27) | ((with_reducible refine gate_callee (f := 36) rfl ?_); refine goesL_ (some 6) rfl rfl Tryd.func36 (by kernel_rfl) rfl #[.slice Ao27 y338.length co27, .int .i64 10, .int .i64 4, .agg (Ag.agC .u64 65 t344)] rfl (by (try simp only [List.map_toArray, List.map_cons, List.map_nil]); first | done | rfl | (simp only [List.length_drop, List.length_take]; rfl)) ?_; (with_reducible refine (plan_Of.calls k _ _ y338 10 4 t344 t345 t348 t351 _ ?side1 ?side2 (HTab_.out.step (by repeat (first | (with_reducible first | exact HB.out | apply below_alloc | apply pw_below_drewN | apply below_drew1) | exact HB.out))) A2.out).mono ?_); (case side1 => repeat (first | exact (Kd.R_reads' HO340.out).2.2 | (with_reducible refine Kd.C_alloc ?_ _) | (with_reducible refine Kd.C_drewN ?_ _) | (with_reducible refine Kd.C_drew ?_))); (case side2 => exact (Kd.R_reads' HO340.out).2.1); rintro e w28 ⟨v346, v349, v352, rfl, ho0, ho1, ho2, hb⟩; refine ⟨_, rfl, ?_⟩; have n0_ := Aside0.mk (Kd.R_below (by (with_reducible repeat (first | apply Kd.R_alloc | apply Kd.R_drewN | apply Kd.R_drew)); exact HO340.out) hb); have n1_ := Aside0.mk (Kd.R_elder' (by (with_reducible repeat (first | apply Kd.R_alloc | apply Kd.R_drewN | apply Kd.R_drew)); exact HO343.out) (Kd.R_base ho0) hb); have n2_ := Aside0.mk (Kd.R_lower (Kd.R_new' ho0 (Kd.R_lt (by (with_reducible repeat (first | apply Kd.R_alloc | apply Kd.R_drewN | apply Kd.R_drew)); exact HO343.out))) (below_size (by repeat (first | (with_reducible first | exact HB.out | apply below_alloc | apply pw_below_drewN | apply below_drew1) | exact HB.out)))); have n3_ := Aside0.mk (Kd.R_lower ho1 (below_size (by repeat (first | (with_reducible first | exact HB.out | apply below_alloc | apply pw_below_drewN | apply below_drew1) | exact HB.out)))); have n4_ := Aside0.mk (Kd.R_lower ho2 (below_size (by repeat (first | (with_reducible first | exact HB.out | apply below_alloc | apply pw_below_drewN | apply below_drew1) | exact HB.out)))); have n5_ := Aside0.mk (below_step (by repeat (first | (with_reducible first | exact HB.out | apply below_alloc | apply pw_below_drewN | apply below_drew1) | exact HB.out)) hb); clear HO340; clear HO343; clear HB; have HO340 := n0_; have HO343 := n1_; have HO347 := n2_; have HO350 := n3_; have HO353 := n4_; have HB := n5_; clear n0_ n1_ n2_ n3_ n4_ n5_; (try clear hb); (try clear hb2); (try clear hk); (try clear hi); (try clear ho0); (try clear ho1); (try clear ho2)) | ((with_reducible refine gate_dst (N := 1) rfl ?_); refine box_event ?hg (N := 1) ?hd (cs := #[.slice none 0 0, .slice none 0 0, .slice none 0 0]) (t := 60) ?hr ?_; (case hd => rfl); (case hg => rfl); (case hr => first | (go_simp; done) | (go_simp; rfl)); intro gb354 hg w29 hbox hb; have n0_ := Aside0.mk (Kd.R_below (by (with_reducible repeat (first | apply Kd.R_alloc | apply Kd.R_drewN | apply Kd.R_drew)); exact HO340.out) hb); have n1_ := Aside0.mk (Kd.R_below (by (with_reducible repeat (first | apply Kd.R_alloc | apply Kd.R_drewN | apply Kd.R_drew)); exact HO343.out) hb); have n2_ := Aside0.mk (Kd.R_below (by (with_reducible repeat (first | apply Kd.R_alloc | apply Kd.R_drewN | apply Kd.R_drew)); exact HO347.out) hb); have n3_ := Aside0.mk (Kd.R_below (by (with_reducible repeat (first | apply Kd.R_alloc | apply Kd.R_drewN | apply Kd.R_drew)); exact HO350.out) hb); have n4_ := Aside0.mk (Kd.R_below (by (with_reducible repeat (first | apply Kd.R_alloc | apply Kd.R_drewN | apply Kd.R_drew)); exact HO353.out) hb); have n5_ := Aside0.mk (below_step (by repeat (first | (with_reducible first | exact HB.out | apply below_alloc | apply pw_below_drewN | apply below_drew1) | exact HB.out)) hb); have n6_ := Aside0.mk (hbox); have n7_ := Aside0.mk ((by rw [hg]; exact (below_size (by repeat (first | (with_reducible first | exact HB.out | apply below_alloc | apply pw_below_drewN | apply below_drew1) | exact HB.out))) : w.heap.size ≤ gb354)); have n8_ := Aside0.mk ((by rw [hg]; exact (below_size (by repeat (first | (with_reducible first | exact HB.out | apply below_alloc | apply pw_below_drewN | apply below_drew1) | exact HB.out))) : w.heap.size ≤ gb354)); clear HO340; clear HO343; clear HO347; clear HO350; clear HO353; clear HB; have HO340 := n0_; have HO343 := n1_; have HO347 := n2_; have HO350 := n3_; have HO353 := n4_; have HB := n5_; have BK354 := n6_; have GW354 := n7_; have GE354 := n8_; clear n0_ n1_ n2_ n3_ n4_ n5_ n6_ n7_ n8_; clear hb hbox hg; obtain ⟨Ao30, co30, eo30⟩ := Kd.R_slice HO347.out; subst eo30; have hcz31_0 : w29.cell? ⟨gb354, 0, none⟩ = some (.slice none 0 0) := (blk_cell BK354.out 0).trans rfl; have hcz31_1 : w29.cell? ⟨gb354, 1, none⟩ = some (.slice none 0 0) := (blk_cell BK354.out 1).trans rfl; have hcz31_2 : w29.cell? ⟨gb354, 2, none⟩ = some (.slice none 0 0) := (blk_cell BK354.out 2).trans rfl; have hfz31_0 := blk_frozen BK354.out 0; have hfz31_1 := blk_frozen BK354.out 1; have hfz31_2 := blk_frozen BK354.out 2; obtain ⟨Ao32, co32, eo32⟩ := Kd.R_slice HO350.out; subst eo32; obtain ⟨Ao33, co33, eo33⟩ := Kd.R_slice HO353.out; subst eo33) | ((with_reducible refine gate_callee (f := 40) rfl ?_); refine goesL_ (some 8) rfl rfl Tryd.func40 (by kernel_rfl) rfl #[.agg #[.slice Ao30 t345.length co30, .slice Ao32 t348.length co32, .slice Ao33 t351.length co33]] rfl (by (try simp only [List.map_toArray, List.map_cons, List.map_nil]); first | done | rfl | (simp only [List.length_drop, List.length_take]; rfl)) ?_; (with_reducible refine (plan_Steps.calls _ _ t345 _ _ t348 _ _ t351 t355 _ ?side1 ?side2 ?side3 ?side4 ?side5 ?side6 A3.out).mono ?_); (case side1 => refine (Kd.R_reads' (e := 3) (base := w.heap.size) (ok := fun k_ => (True ∧ some k_ ≠ (.slice Ao25 y341.length co25 : Value).ownBlock)) (n := t345.length) (c := co30) ?_).2.2; exact (by (with_reducible repeat (first | apply Kd.R_alloc | apply Kd.R_drewN | apply Kd.R_drew)); exact (Kd.R_mono (Kd.R_far (p := ⟨gb354, 2, none⟩) (Kd.R_far (p := ⟨gb354, 1, none⟩) (Kd.R_far (p := ⟨gb354, 0, none⟩) (Kd.R_types HO347.out BK354.out (by decide)) (fun _ hk => hk.2) (.slice Ao30 t345.length co30)) (fun _ hk => hk.2) (.slice Ao32 t348.length co32)) (fun _ hk => hk.2) (.slice Ao33 t351.length co33)) (fun _ h_ => h_.1)))); (case side2 => exact (Kd.R_reads' HO347.out).2.1); (case side3 => refine (Kd.R_reads' (e := 50) (base := w.heap.size) (ok := fun k_ => some k_ ≠ (.slice Ao33 t351.length co33 : Value).ownBlock) (n := t348.length) (c := co32) ?_).2.2; exact (by (with_reducible repeat (first | apply Kd.R_alloc | apply Kd.R_drewN | apply Kd.R_drew)); exact (Kd.R_mono (Kd.R_far (p := ⟨gb354, 2, none⟩) (Kd.R_far (p := ⟨gb354, 1, none⟩) (Kd.R_far (p := ⟨gb354, 0, none⟩) (Kd.R_types HO350.out BK354.out (by decide)) (fun _ hk => hk.2) (.slice Ao30 t345.length co30)) (fun _ hk => hk.2) (.slice Ao32 t348.length co32)) (fun _ hk => hk.2) (.slice Ao33 t351.length co33)) (fun _ h_ => h_.1)))); (case side4 => exact (Kd.R_reads' HO350.out).2.1); (case side5 => refine (Kd.R_reads' (e := 50) (base := w.heap.size) (ok := fun k_ => some k_ ≠ (.slice Ao32 t348.length co32 : Value).ownBlock) (n := t351.length) (c := co33) ?_).2.2; exact (by (with_reducible repeat (first | apply Kd.R_alloc | apply Kd.R_drewN | apply Kd.R_drew)); exact (Kd.R_mono (Kd.R_far (p := ⟨gb354, 2, none⟩) (Kd.R_far (p := ⟨gb354, 1, none⟩) (Kd.R_far (p := ⟨gb354, 0, none⟩) (Kd.R_types HO353.out BK354.out (by decide)) (fun _ hk => hk.2) (.slice Ao30 t345.length co30)) (fun _ hk => hk.2) (.slice Ao32 t348.length co32)) (fun _ hk => hk.2) (.slice Ao33 t351.length co33)) (fun _ h_ => h_.1)))); (case side6 => exact (Kd.R_reads' HO353.out).2.1); rintro e w34 ⟨rfl, hb⟩; refine ⟨_, rfl, ?_⟩; have n0_ := Aside0.mk (Kd.R_below (by (with_reducible repeat (first | apply Kd.R_alloc | apply Kd.R_drewN | apply Kd.R_drew)); exact (Kd.R_mono (Kd.R_far (p := ⟨gb354, 2, none⟩) (Kd.R_far (p := ⟨gb354, 1, none⟩) (Kd.R_far (p := ⟨gb354, 0, none⟩) (Kd.R_types HO340.out BK354.out (by decide)) (fun _ hk => hk.2) (.slice Ao30 t345.length co30)) (fun _ hk => hk.2) (.slice Ao32 t348.length co32)) (fun _ hk => hk.2) (.slice Ao33 t351.length co33)) (fun _ h_ => h_.1))) hb); have n1_ := Aside0.mk (Kd.R_below (by (with_reducible repeat (first | apply Kd.R_alloc | apply Kd.R_drewN | apply Kd.R_drew)); exact (Kd.R_mono (Kd.R_far (p := ⟨gb354, 2, none⟩) (Kd.R_far (p := ⟨gb354, 1, none⟩) (Kd.R_far (p := ⟨gb354, 0, none⟩) (Kd.R_types HO343.out BK354.out (by decide)) (fun _ hk => hk.2) (.slice Ao30 t345.length co30)) (fun _ hk => hk.2) (.slice Ao32 t348.length co32)) (fun _ hk => hk.2) (.slice Ao33 t351.length co33)) (fun _ h_ => h_.1))) hb); have n2_ := Aside0.mk (Kd.R_below (by (with_reducible repeat (first | apply Kd.R_alloc | apply Kd.R_drewN | apply Kd.R_drew)); exact (Kd.R_mono (Kd.R_far (p := ⟨gb354, 2, none⟩) (Kd.R_far (p := ⟨gb354, 1, none⟩) (Kd.R_far (p := ⟨gb354, 0, none⟩) (Kd.R_types HO347.out BK354.out (by decide)) (fun _ hk => hk.2) (.slice Ao30 t345.length co30)) (fun _ hk => hk.2) (.slice Ao32 t348.length co32)) (fun _ hk => hk.2) (.slice Ao33 t351.length co33)) (fun _ h_ => h_.1))) hb); have n3_ := Aside0.mk (Kd.R_below (by (with_reducible repeat (first | apply Kd.R_alloc | apply Kd.R_drewN | apply Kd.R_drew)); exact (Kd.R_mono (Kd.R_far (p := ⟨gb354, 2, none⟩) (Kd.R_far (p := ⟨gb354, 1, none⟩) (Kd.R_far (p := ⟨gb354, 0, none⟩) (Kd.R_types HO350.out BK354.out (by decide)) (fun _ hk => hk.2) (.slice Ao30 t345.length co30)) (fun _ hk => hk.2) (.slice Ao32 t348.length co32)) (fun _ hk => hk.2) (.slice Ao33 t351.length co33)) (fun _ h_ => h_.1))) hb); have n4_ := Aside0.mk (Kd.R_below (by (with_reducible repeat (first | apply Kd.R_alloc | apply Kd.R_drewN | apply Kd.R_drew)); exact (Kd.R_mono (Kd.R_far (p := ⟨gb354, 2, none⟩) (Kd.R_far (p := ⟨gb354, 1, none⟩) (Kd.R_far (p := ⟨gb354, 0, none⟩) (Kd.R_types HO353.out BK354.out (by decide)) (fun _ hk => hk.2) (.slice Ao30 t345.length co30)) (fun _ hk => hk.2) (.slice Ao32 t348.length co32)) (fun _ hk => hk.2) (.slice Ao33 t351.length co33)) (fun _ h_ => h_.1))) hb); have n5_ := Aside0.mk (blk_below (g := gb354) (o := .cells #[.slice Ao30 t345.length co30, .slice Ao32 t348.length co32, .slice Ao33 t351.length co33] 60 (0, 0)) (by (with_reducible repeat (first | refine blk_drewN ?_ _ | refine blk_drew ?_ | refine blk_alloc ?_ _)); refine blk_put (cs := #[.slice Ao30 t345.length co30, .slice Ao32 t348.length co32, .slice none 0 0]) ?_ 2 _ rfl; (with_reducible repeat (first | refine blk_drewN ?_ _ | refine blk_drew ?_ | refine blk_alloc ?_ _)); refine blk_put (cs := #[.slice Ao30 t345.length co30, .slice none 0 0, .slice none 0 0]) ?_ 1 _ rfl; (with_reducible repeat (first | refine blk_drewN ?_ _ | refine blk_drew ?_ | refine blk_alloc ?_ _)); refine blk_put (cs := #[.slice none 0 0, .slice none 0 0, .slice none 0 0]) ?_ 0 _ rfl; (with_reducible repeat (first | refine blk_drewN ?_ _ | refine blk_drew ?_ | refine blk_alloc ?_ _)); exact BK354.out) hb); have n6_ := Aside0.mk (below_step (by repeat (first | (with_reducible first | exact HB.out | apply below_alloc | apply pw_below_drewN | apply below_drew1 | refine below_set ?_ GE354.out | refine Ag.row_below ?_ GE354.out) | exact HB.out)) hb); clear HO340; clear HO343; clear HO347; clear HO350; clear HO353; clear BK354; clear HB; have HO340 := n0_; have HO343 := n1_; have HO347 := n2_; have HO350 := n3_; have HO353 := n4_; have BK354 := n5_; have HB := n6_; clear n0_ n1_ n2_ n3_ n4_ n5_ n6_; (try clear hb); (try clear hb2); (try clear hk); (try clear hi)))
    go_ret
    exact ⟨by first | rfl | exact ne_empty _ | exact eq_empty _ | (simp [errW_none, errW_some] <;> rfl) | (simp [*, errW_none, errW_some] <;> rfl), by repeat (first | (with_reducible first | exact HB.out | apply below_alloc | apply pw_below_drewN | apply below_drew1 | refine below_set ?_ GE354.out | refine Ag.row_below ?_ GE354.out) | exact HB.out)⟩
def plan_Bytes.f (a0_0 : Int) (a0_1 : Int) (a0_2 : Bool) (a1 : Int) (a2 : Int) : Option (Int × Int × Bool) := if a0_0 ≥ a0_1 then (some (0, 0, false)) else ((cuts_Bounds.f a0_0 a1 a2).bind fun bt359 => ((cuts_Bounds.f (wrap64 (a0_1 - 1)) a1 a2).bind fun bt363 => (if bt359.2.2 = true then (if bt363.2.2 = true then (some (bt359.1, bt363.2.1, true)) else (some (0, 0, false))) else (some (0, 0, false)))))
set_option maxHeartbeats 8000000 in
set_option maxRecDepth 100000 in
theorem plan_Bytes.calls (a0_0 : Int) (a0_1 : Int) (a0_2 : Bool) (a1 : Int) (a2 : Int) (r1 : Int) (r2 : Int) (r3 : Bool) (w : World) (h : plan_Bytes.f a0_0 a0_1 a0_2 a1 a2 = some (r1, r2, r3)) :
    Calls Tryd.prog 34 #[.agg #[.int .i64 a0_0, .int .i64 a0_1, .bool a0_2], .int .i64 a1, .int .i64 a2] w fun e w' => e = .returned (.tuple #[.agg #[.int .i64 r1, .int .i64 r2], .bool r3]) ∧ Below w.heap.size w w' := by
  have hu50 := Tryd.underlying50
  have hu53 := Tryd.underlying53
  have HB := Aside0.mk (Below.refl w.heap.size w)
  have H : (if a0_0 ≥ a0_1 then (some (0, 0, false)) else ((cuts_Bounds.f a0_0 a1 a2).bind fun bt359 => ((cuts_Bounds.f (wrap64 (a0_1 - 1)) a1 a2).bind fun bt363 => (if bt359.2.2 = true then (if bt363.2.2 = true then (some (bt359.1, bt363.2.1, true)) else (some (0, 0, false))) else (some (0, 0, false)))))) = some (r1, r2, r3) := h
  clear h
  by_cases c4 : a0_0 ≥ a0_1
  · rw [if_pos c4] at H
    have c4b0 : decide (a0_1 ≤ a0_0) = true := decide_eq_true c4
    clear c4
    simp only [Option.some.injEq, Prod.mk.injEq] at H
    obtain ⟨rfl, rfl, rfl⟩ := H
    go_enter Tryd.func34, Tryd.ntmps34
    go_wp2_with (first | ((with_reducible refine gate_dst (N := 3) rfl ?_); refine box_event ?hg (N := 3) ?hd (cs := #[.int .i64 a0_0, .int .i64 a0_1, .bool a0_2]) (t := 50) ?hr ?_; (case hd => rfl); (case hg => rfl); (case hr => first | (go_simp; done) | (go_simp; rfl)); intro gb357 hg w5 hbox hb; have n0_ := Aside0.mk (below_step (by repeat (first | (with_reducible first | exact HB.out | apply below_alloc | apply pw_below_drewN | apply below_drew1) | exact HB.out)) hb); have n1_ := Aside0.mk (hbox); have n2_ := Aside0.mk ((by rw [hg]; exact (below_size (by repeat (first | (with_reducible first | exact HB.out | apply below_alloc | apply pw_below_drewN | apply below_drew1) | exact HB.out))) : w.heap.size ≤ gb357)); have n3_ := Aside0.mk ((by rw [hg]; exact (below_size (by repeat (first | (with_reducible first | exact HB.out | apply below_alloc | apply pw_below_drewN | apply below_drew1) | exact HB.out))) : w.heap.size ≤ gb357)); clear HB; have HB := n0_; have BK357 := n1_; have GW357 := n2_; have GE357 := n3_; clear n0_ n1_ n2_ n3_; clear hb hbox hg) | ((with_reducible refine gate_dst (N := 6) rfl ?_); refine box_event ?hg (N := 6) ?hd (cs := #[.int .i64 0, .int .i64 0]) (t := 53) ?hr ?_; (case hd => rfl); (case hg => rfl); (case hr => first | (go_simp; done) | (go_simp; rfl)); intro gb358 hg w6 hbox hb; have n0_ := Aside0.mk (blk_below (g := gb357) (o := .cells #[.int .i64 a0_0, .int .i64 a0_1, .bool a0_2] 50 (0, 0)) (by (with_reducible repeat (first | refine blk_drewN ?_ _ | refine blk_drew ?_ | refine blk_alloc ?_ _)); exact BK357.out) hb); have n1_ := Aside0.mk (below_step (by repeat (first | (with_reducible first | exact HB.out | apply below_alloc | apply pw_below_drewN | apply below_drew1 | refine below_set ?_ GE357.out) | exact HB.out)) hb); have n2_ := Aside0.mk (hbox); have n3_ := Aside0.mk ((by rw [hg]; exact (below_size (by repeat (first | (with_reducible first | exact HB.out | apply below_alloc | apply pw_below_drewN | apply below_drew1 | refine below_set ?_ GE357.out) | exact HB.out))) : w.heap.size ≤ gb358)); have n4_ := Aside0.mk ((by rw [hg]; exact (below_size (by repeat (first | (with_reducible first | exact HB.out | apply below_alloc | apply pw_below_drewN | apply below_drew1 | refine below_set ?_ GE357.out) | exact HB.out))) : w.heap.size ≤ gb358)); have n5_ := Aside0.mk ((by rw [hg]; exact Nat.ne_of_lt (blk_lt (g := gb357) (o := .cells #[.int .i64 a0_0, .int .i64 a0_1, .bool a0_2] 50 (0, 0)) (by (with_reducible repeat (first | refine blk_drewN ?_ _ | refine blk_drew ?_ | refine blk_alloc ?_ _)); exact BK357.out)) : gb357 ≠ gb358)); have n6_ := Aside0.mk ((by rw [hg]; exact Nat.ne_of_gt (blk_lt (g := gb357) (o := .cells #[.int .i64 a0_0, .int .i64 a0_1, .bool a0_2] 50 (0, 0)) (by (with_reducible repeat (first | refine blk_drewN ?_ _ | refine blk_drew ?_ | refine blk_alloc ?_ _)); exact BK357.out)) : gb358 ≠ gb357)); clear BK357; clear HB; have BK357 := n0_; have HB := n1_; have BK358 := n2_; have GW358 := n3_; have GE358 := n4_; have NB357_358 := n5_; have NB358_357 := n6_; clear n0_ n1_ n2_ n3_ n4_ n5_ n6_; clear hb hbox hg; have hnb7 := NB357_358.out; have hnc7 := NB358_357.out; have hcz8_0 : w6.cell? ⟨gb357, 0, none⟩ = some (.int .i64 a0_0) := (blk_cell BK357.out 0).trans rfl; have hcz8_1 : w6.cell? ⟨gb357, 1, none⟩ = some (.int .i64 a0_1) := (blk_cell BK357.out 1).trans rfl; have hcz8_2 : w6.cell? ⟨gb357, 2, none⟩ = some (.bool a0_2) := (blk_cell BK357.out 2).trans rfl; have hfz8_0 := blk_frozen BK357.out 0; have hfz8_1 := blk_frozen BK357.out 1; have hfz8_2 := blk_frozen BK357.out 2; have hcz9_0 : w6.cell? ⟨gb358, 0, none⟩ = some (.int .i64 0) := (blk_cell BK358.out 0).trans rfl; have hcz9_1 : w6.cell? ⟨gb358, 1, none⟩ = some (.int .i64 0) := (blk_cell BK358.out 1).trans rfl; have hfz9_0 := blk_frozen BK358.out 0; have hfz9_1 := blk_frozen BK358.out 1))
    refine bodyPost_ret (results_ct rfl _ _ gb358 53 #[.int .i64 0, .int .i64 0] (0, 0) _ rfl (by (with_reducible repeat (first | refine blk_drewN ?_ _ | refine blk_drew ?_ | refine blk_alloc ?_ _)); refine blk_put (cs := #[.int .i64 0, .int .i64 0]) ?_ 1 _ rfl; (with_reducible repeat (first | refine blk_drewN ?_ _ | refine blk_drew ?_ | refine blk_alloc ?_ _)); refine blk_put (cs := #[.int .i64 0, .int .i64 0]) ?_ 0 _ rfl; (with_reducible repeat (first | refine blk_drewN ?_ _ | refine blk_drew ?_ | refine blk_alloc ?_ _)); exact BK358.out) Tryd.underlying53 rfl (by kernel_rfl)) rfl ?_
    exact ⟨by first | rfl | exact ne_empty _ | exact eq_empty _ | (simp [errW_none, errW_some] <;> rfl) | (simp [*, errW_none, errW_some] <;> rfl), by repeat (first | (with_reducible first | exact HB.out | apply below_alloc | apply pw_below_drewN | apply below_drew1 | refine below_set ?_ GE357.out | refine below_set ?_ GE358.out) | exact HB.out)⟩
  · rw [if_neg c4] at H
    have c4b0 : decide (a0_1 ≤ a0_0) = false := decide_eq_false c4
    clear c4
    replace H := Option.bind_eq_some_iff.mp H
    obtain ⟨⟨t359, t360, t361⟩, A100, H⟩ := H
    replace H : ((cuts_Bounds.f (wrap64 (a0_1 - 1)) a1 a2).bind fun bt363 => (if t361 = true then (if bt363.2.2 = true then (some (t359, bt363.2.1, true)) else (some (0, 0, false))) else (some (0, 0, false)))) = some (r1, r2, r3) := H
    have A10 := Aside0.mk A100
    clear A100
    replace H := Option.bind_eq_some_iff.mp H
    obtain ⟨⟨t363, t364, t365⟩, A110, H⟩ := H
    replace H : (if t361 = true then (if t365 = true then (some (t359, t364, true)) else (some (0, 0, false))) else (some (0, 0, false))) = some (r1, r2, r3) := H
    have A11 := Aside0.mk A110
    clear A110
    by_cases c12 : t361 = true
    · subst c12
      have H1 : (if t365 = true then (some (t359, t364, true)) else (some (0, 0, false))) = some (r1, r2, r3) := by rw [if_pos rfl] at H; exact H
      clear H
      have H := H1
      clear H1
      by_cases c13 : t365 = true
      · subst c13
        have H1 : (some (t359, t364, true)) = some (r1, r2, r3) := by rw [if_pos rfl] at H; exact H
        clear H
        have H := H1
        clear H1
        simp only [Option.some.injEq, Prod.mk.injEq] at H
        obtain ⟨rfl, rfl, rfl⟩ := H
        go_enter Tryd.func34, Tryd.ntmps34
        go_wp2_with (first | ((with_reducible refine gate_dst (N := 3) rfl ?_); refine box_event ?hg (N := 3) ?hd (cs := #[.int .i64 a0_0, .int .i64 a0_1, .bool a0_2]) (t := 50) ?hr ?_; (case hd => rfl); (case hg => rfl); (case hr => first | (go_simp; done) | (go_simp; rfl)); intro gb357 hg w14 hbox hb; have n0_ := Aside0.mk (below_step (by repeat (first | (with_reducible first | exact HB.out | apply below_alloc | apply pw_below_drewN | apply below_drew1) | exact HB.out)) hb); have n1_ := Aside0.mk (hbox); have n2_ := Aside0.mk ((by rw [hg]; exact (below_size (by repeat (first | (with_reducible first | exact HB.out | apply below_alloc | apply pw_below_drewN | apply below_drew1) | exact HB.out))) : w.heap.size ≤ gb357)); have n3_ := Aside0.mk ((by rw [hg]; exact (below_size (by repeat (first | (with_reducible first | exact HB.out | apply below_alloc | apply pw_below_drewN | apply below_drew1) | exact HB.out))) : w.heap.size ≤ gb357)); clear HB; have HB := n0_; have BK357 := n1_; have GW357 := n2_; have GE357 := n3_; clear n0_ n1_ n2_ n3_; clear hb hbox hg) | ((with_reducible refine gate_dst (N := 6) rfl ?_); refine box_event ?hg (N := 6) ?hd (cs := #[.int .i64 0, .int .i64 0]) (t := 53) ?hr ?_; (case hd => rfl); (case hg => rfl); (case hr => first | (go_simp; done) | (go_simp; rfl)); intro gb358 hg w15 hbox hb; have n0_ := Aside0.mk (blk_below (g := gb357) (o := .cells #[.int .i64 a0_0, .int .i64 a0_1, .bool a0_2] 50 (0, 0)) (by (with_reducible repeat (first | refine blk_drewN ?_ _ | refine blk_drew ?_ | refine blk_alloc ?_ _)); exact BK357.out) hb); have n1_ := Aside0.mk (below_step (by repeat (first | (with_reducible first | exact HB.out | apply below_alloc | apply pw_below_drewN | apply below_drew1 | refine below_set ?_ GE357.out) | exact HB.out)) hb); have n2_ := Aside0.mk (hbox); have n3_ := Aside0.mk ((by rw [hg]; exact (below_size (by repeat (first | (with_reducible first | exact HB.out | apply below_alloc | apply pw_below_drewN | apply below_drew1 | refine below_set ?_ GE357.out) | exact HB.out))) : w.heap.size ≤ gb358)); have n4_ := Aside0.mk ((by rw [hg]; exact (below_size (by repeat (first | (with_reducible first | exact HB.out | apply below_alloc | apply pw_below_drewN | apply below_drew1 | refine below_set ?_ GE357.out) | exact HB.out))) : w.heap.size ≤ gb358)); have n5_ := Aside0.mk ((by rw [hg]; exact Nat.ne_of_lt (blk_lt (g := gb357) (o := .cells #[.int .i64 a0_0, .int .i64 a0_1, .bool a0_2] 50 (0, 0)) (by (with_reducible repeat (first | refine blk_drewN ?_ _ | refine blk_drew ?_ | refine blk_alloc ?_ _)); exact BK357.out)) : gb357 ≠ gb358)); have n6_ := Aside0.mk ((by rw [hg]; exact Nat.ne_of_gt (blk_lt (g := gb357) (o := .cells #[.int .i64 a0_0, .int .i64 a0_1, .bool a0_2] 50 (0, 0)) (by (with_reducible repeat (first | refine blk_drewN ?_ _ | refine blk_drew ?_ | refine blk_alloc ?_ _)); exact BK357.out)) : gb358 ≠ gb357)); clear BK357; clear HB; have BK357 := n0_; have HB := n1_; have BK358 := n2_; have GW358 := n3_; have GE358 := n4_; have NB357_358 := n5_; have NB358_357 := n6_; clear n0_ n1_ n2_ n3_ n4_ n5_ n6_; clear hb hbox hg; have hnb16 := NB357_358.out; have hnc16 := NB358_357.out; have hcz17_0 : w15.cell? ⟨gb357, 0, none⟩ = some (.int .i64 a0_0) := (blk_cell BK357.out 0).trans rfl; have hcz17_1 : w15.cell? ⟨gb357, 1, none⟩ = some (.int .i64 a0_1) := (blk_cell BK357.out 1).trans rfl; have hcz17_2 : w15.cell? ⟨gb357, 2, none⟩ = some (.bool a0_2) := (blk_cell BK357.out 2).trans rfl; have hfz17_0 := blk_frozen BK357.out 0; have hfz17_1 := blk_frozen BK357.out 1; have hfz17_2 := blk_frozen BK357.out 2) | ((with_reducible refine gate_callee (f := 51) rfl ?_); refine goesL_ (some 23) rfl rfl Tryd.func51 (by kernel_rfl) rfl #[.int .i64 a0_0, .int .i64 a1, .int .i64 a2] rfl (by (try simp only [List.map_toArray, List.map_cons, List.map_nil]); first | done | rfl | (simp only [List.length_drop, List.length_take]; rfl)) ?_; (with_reducible refine (cuts_Bounds.calls a0_0 a1 a2 t359 t360 true _ A10.out).mono ?_); rintro e w18 ⟨rfl, hb⟩; refine ⟨_, rfl, ?_⟩; have n0_ := Aside0.mk (blk_below (g := gb357) (o := .cells #[.int .i64 a0_0, .int .i64 a0_1, .bool a0_2] 50 (0, 0)) (by (with_reducible repeat (first | refine blk_drewN ?_ _ | refine blk_drew ?_ | refine blk_alloc ?_ _)); exact BK357.out) hb); have n1_ := Aside0.mk (blk_below (g := gb358) (o := .cells #[.int .i64 0, .int .i64 0] 53 (0, 0)) (by (with_reducible repeat (first | refine blk_drewN ?_ _ | refine blk_drew ?_ | refine blk_alloc ?_ _)); exact BK358.out) hb); have n2_ := Aside0.mk (below_step (by repeat (first | (with_reducible first | exact HB.out | apply below_alloc | apply pw_below_drewN | apply below_drew1 | refine below_set ?_ GE357.out | refine below_set ?_ GE358.out) | exact HB.out)) hb); clear BK357; clear BK358; clear HB; have BK357 := n0_; have BK358 := n1_; have HB := n2_; clear n0_ n1_ n2_; (try clear hb); (try clear hb2); (try clear hk); (try clear hi)) | ((with_reducible refine gate_dst (N := 8) rfl ?_); refine box_event ?hg (N := 8) ?hd (cs := #[.int .i64 0, .int .i64 0]) (t := 53) ?hr ?_; (case hd => rfl); (case hg => rfl); (case hr => first | (go_simp; done) | (go_simp; rfl)); intro gb362 hg w19 hbox hb; have n0_ := Aside0.mk (blk_below (g := gb357) (o := .cells #[.int .i64 a0_0, .int .i64 a0_1, .bool a0_2] 50 (0, 0)) (by (with_reducible repeat (first | refine blk_drewN ?_ _ | refine blk_drew ?_ | refine blk_alloc ?_ _)); exact BK357.out) hb); have n1_ := Aside0.mk (blk_below (g := gb358) (o := .cells #[.int .i64 0, .int .i64 0] 53 (0, 0)) (by (with_reducible repeat (first | refine blk_drewN ?_ _ | refine blk_drew ?_ | refine blk_alloc ?_ _)); exact BK358.out) hb); have n2_ := Aside0.mk (below_step (by repeat (first | (with_reducible first | exact HB.out | apply below_alloc | apply pw_below_drewN | apply below_drew1 | refine below_set ?_ GE357.out | refine below_set ?_ GE358.out) | exact HB.out)) hb); have n3_ := Aside0.mk (hbox); have n4_ := Aside0.mk ((by rw [hg]; exact (below_size (by repeat (first | (with_reducible first | exact HB.out | apply below_alloc | apply pw_below_drewN | apply below_drew1 | refine below_set ?_ GE357.out | refine below_set ?_ GE358.out) | exact HB.out))) : w.heap.size ≤ gb362)); have n5_ := Aside0.mk ((by rw [hg]; exact (below_size (by repeat (first | (with_reducible first | exact HB.out | apply below_alloc | apply pw_below_drewN | apply below_drew1 | refine below_set ?_ GE357.out | refine below_set ?_ GE358.out) | exact HB.out))) : w.heap.size ≤ gb362)); have n6_ := Aside0.mk ((by rw [hg]; exact Nat.ne_of_lt (blk_lt (g := gb357) (o := .cells #[.int .i64 a0_0, .int .i64 a0_1, .bool a0_2] 50 (0, 0)) (by (with_reducible repeat (first | refine blk_drewN ?_ _ | refine blk_drew ?_ | refine blk_alloc ?_ _)); exact BK357.out)) : gb357 ≠ gb362)); have n7_ := Aside0.mk ((by rw [hg]; exact Nat.ne_of_gt (blk_lt (g := gb357) (o := .cells #[.int .i64 a0_0, .int .i64 a0_1, .bool a0_2] 50 (0, 0)) (by (with_reducible repeat (first | refine blk_drewN ?_ _ | refine blk_drew ?_ | refine blk_alloc ?_ _)); exact BK357.out)) : gb362 ≠ gb357)); have n8_ := Aside0.mk ((by rw [hg]; exact Nat.ne_of_lt (blk_lt (g := gb358) (o := .cells #[.int .i64 0, .int .i64 0] 53 (0, 0)) (by (with_reducible repeat (first | refine blk_drewN ?_ _ | refine blk_drew ?_ | refine blk_alloc ?_ _)); exact BK358.out)) : gb358 ≠ gb362)); have n9_ := Aside0.mk ((by rw [hg]; exact Nat.ne_of_gt (blk_lt (g := gb358) (o := .cells #[.int .i64 0, .int .i64 0] 53 (0, 0)) (by (with_reducible repeat (first | refine blk_drewN ?_ _ | refine blk_drew ?_ | refine blk_alloc ?_ _)); exact BK358.out)) : gb362 ≠ gb358)); clear BK357; clear BK358; clear HB; have BK357 := n0_; have BK358 := n1_; have HB := n2_; have BK362 := n3_; have GW362 := n4_; have GE362 := n5_; have NB357_362 := n6_; have NB362_357 := n7_; have NB358_362 := n8_; have NB362_358 := n9_; clear n0_ n1_ n2_ n3_ n4_ n5_ n6_ n7_ n8_ n9_; clear hb hbox hg; have hnb20 := NB362_357.out; have hnc20 := NB357_362.out; have hnb21 := NB362_358.out; have hnc21 := NB358_362.out; have hcz22_0 : w19.cell? ⟨gb362, 0, none⟩ = some (.int .i64 0) := (blk_cell BK362.out 0).trans rfl; have hcz22_1 : w19.cell? ⟨gb362, 1, none⟩ = some (.int .i64 0) := (blk_cell BK362.out 1).trans rfl; have hfz22_0 := blk_frozen BK362.out 0; have hfz22_1 := blk_frozen BK362.out 1; have hcz23_0 : w19.cell? ⟨gb357, 0, none⟩ = some (.int .i64 a0_0) := (blk_cell BK357.out 0).trans rfl; have hcz23_1 : w19.cell? ⟨gb357, 1, none⟩ = some (.int .i64 a0_1) := (blk_cell BK357.out 1).trans rfl; have hcz23_2 : w19.cell? ⟨gb357, 2, none⟩ = some (.bool a0_2) := (blk_cell BK357.out 2).trans rfl; have hfz23_0 := blk_frozen BK357.out 0; have hfz23_1 := blk_frozen BK357.out 1; have hfz23_2 := blk_frozen BK357.out 2) | ((with_reducible refine gate_callee (f := 51) rfl ?_); refine goesL_ (some 32) rfl rfl Tryd.func51 (by kernel_rfl) rfl #[.int .i64 (wrap64 (a0_1 - 1)), .int .i64 a1, .int .i64 a2] rfl (by (try simp only [List.map_toArray, List.map_cons, List.map_nil]); first | done | rfl | (simp only [List.length_drop, List.length_take]; rfl)) ?_; (with_reducible refine (cuts_Bounds.calls (wrap64 (a0_1 - 1)) a1 a2 t363 t364 true _ A11.out).mono ?_); rintro e w24 ⟨rfl, hb⟩; refine ⟨_, rfl, ?_⟩; have n0_ := Aside0.mk (blk_below (g := gb357) (o := .cells #[.int .i64 a0_0, .int .i64 a0_1, .bool a0_2] 50 (0, 0)) (by (with_reducible repeat (first | refine blk_drewN ?_ _ | refine blk_drew ?_ | refine blk_alloc ?_ _)); refine blk_far ?_ NB357_362.out _; (with_reducible repeat (first | refine blk_drewN ?_ _ | refine blk_drew ?_ | refine blk_alloc ?_ _)); refine blk_far ?_ NB357_362.out _; (with_reducible repeat (first | refine blk_drewN ?_ _ | refine blk_drew ?_ | refine blk_alloc ?_ _)); exact BK357.out) hb); have n1_ := Aside0.mk (blk_below (g := gb358) (o := .cells #[.int .i64 0, .int .i64 0] 53 (0, 0)) (by (with_reducible repeat (first | refine blk_drewN ?_ _ | refine blk_drew ?_ | refine blk_alloc ?_ _)); refine blk_far ?_ NB358_362.out _; (with_reducible repeat (first | refine blk_drewN ?_ _ | refine blk_drew ?_ | refine blk_alloc ?_ _)); refine blk_far ?_ NB358_362.out _; (with_reducible repeat (first | refine blk_drewN ?_ _ | refine blk_drew ?_ | refine blk_alloc ?_ _)); exact BK358.out) hb); have n2_ := Aside0.mk (blk_below (g := gb362) (o := .cells #[.int .i64 t359, .int .i64 t360] 53 (0, 0)) (by (with_reducible repeat (first | refine blk_drewN ?_ _ | refine blk_drew ?_ | refine blk_alloc ?_ _)); refine blk_put (cs := #[.int .i64 t359, .int .i64 0]) ?_ 1 _ rfl; (with_reducible repeat (first | refine blk_drewN ?_ _ | refine blk_drew ?_ | refine blk_alloc ?_ _)); refine blk_put (cs := #[.int .i64 0, .int .i64 0]) ?_ 0 _ rfl; (with_reducible repeat (first | refine blk_drewN ?_ _ | refine blk_drew ?_ | refine blk_alloc ?_ _)); exact BK362.out) hb); have n3_ := Aside0.mk (below_step (by repeat (first | (with_reducible first | exact HB.out | apply below_alloc | apply pw_below_drewN | apply below_drew1 | refine below_set ?_ GE357.out | refine below_set ?_ GE358.out | refine below_set ?_ GE362.out) | exact HB.out)) hb); clear BK357; clear BK358; clear BK362; clear HB; have BK357 := n0_; have BK358 := n1_; have BK362 := n2_; have HB := n3_; clear n0_ n1_ n2_ n3_; (try clear hb); (try clear hb2); (try clear hk); (try clear hi)) | ((with_reducible refine gate_dst (N := 10) rfl ?_); refine box_event ?hg (N := 10) ?hd (cs := #[.int .i64 0, .int .i64 0]) (t := 53) ?hr ?_; (case hd => rfl); (case hg => rfl); (case hr => first | (go_simp; done) | (go_simp; rfl)); intro gb366 hg w25 hbox hb; have n0_ := Aside0.mk (blk_below (g := gb357) (o := .cells #[.int .i64 a0_0, .int .i64 a0_1, .bool a0_2] 50 (0, 0)) (by (with_reducible repeat (first | refine blk_drewN ?_ _ | refine blk_drew ?_ | refine blk_alloc ?_ _)); exact BK357.out) hb); have n1_ := Aside0.mk (blk_below (g := gb358) (o := .cells #[.int .i64 0, .int .i64 0] 53 (0, 0)) (by (with_reducible repeat (first | refine blk_drewN ?_ _ | refine blk_drew ?_ | refine blk_alloc ?_ _)); exact BK358.out) hb); have n2_ := Aside0.mk (blk_below (g := gb362) (o := .cells #[.int .i64 t359, .int .i64 t360] 53 (0, 0)) (by (with_reducible repeat (first | refine blk_drewN ?_ _ | refine blk_drew ?_ | refine blk_alloc ?_ _)); exact BK362.out) hb); have n3_ := Aside0.mk (below_step (by repeat (first | (with_reducible first | exact HB.out | apply below_alloc | apply pw_below_drewN | apply below_drew1 | refine below_set ?_ GE357.out | refine below_set ?_ GE358.out | refine below_set ?_ GE362.out) | exact HB.out)) hb); have n4_ := Aside0.mk (hbox); have n5_ := Aside0.mk ((by rw [hg]; exact (below_size (by repeat (first | (with_reducible first | exact HB.out | apply below_alloc | apply pw_below_drewN | apply below_drew1 | refine below_set ?_ GE357.out | refine below_set ?_ GE358.out | refine below_set ?_ GE362.out) | exact HB.out))) : w.heap.size ≤ gb366)); have n6_ := Aside0.mk ((by rw [hg]; exact (below_size (by repeat (first | (with_reducible first | exact HB.out | apply below_alloc | apply pw_below_drewN | apply below_drew1 | refine below_set ?_ GE357.out | refine below_set ?_ GE358.out | refine below_set ?_ GE362.out) | exact HB.out))) : w.heap.size ≤ gb366)); have n7_ := Aside0.mk ((by rw [hg]; exact Nat.ne_of_lt (blk_lt (g := gb357) (o := .cells #[.int .i64 a0_0, .int .i64 a0_1, .bool a0_2] 50 (0, 0)) (by (with_reducible repeat (first | refine blk_drewN ?_ _ | refine blk_drew ?_ | refine blk_alloc ?_ _)); exact BK357.out)) : gb357 ≠ gb366)); have n8_ := Aside0.mk ((by rw [hg]; exact Nat.ne_of_gt (blk_lt (g := gb357) (o := .cells #[.int .i64 a0_0, .int .i64 a0_1, .bool a0_2] 50 (0, 0)) (by (with_reducible repeat (first | refine blk_drewN ?_ _ | refine blk_drew ?_ | refine blk_alloc ?_ _)); exact BK357.out)) : gb366 ≠ gb357)); have n9_ := Aside0.mk ((by rw [hg]; exact Nat.ne_of_lt (blk_lt (g := gb358) (o := .cells #[.int .i64 0, .int .i64 0] 53 (0, 0)) (by (with_reducible repeat (first | refine blk_drewN ?_ _ | refine blk_drew ?_ | refine blk_alloc ?_ _)); exact BK358.out)) : gb358 ≠ gb366)); have n10_ := Aside0.mk ((by rw [hg]; exact Nat.ne_of_gt (blk_lt (g := gb358) (o := .cells #[.int .i64 0, .int .i64 0] 53 (0, 0)) (by (with_reducible repeat (first | refine blk_drewN ?_ _ | refine blk_drew ?_ | refine blk_alloc ?_ _)); exact BK358.out)) : gb366 ≠ gb358)); have n11_ := Aside0.mk ((by rw [hg]; exact Nat.ne_of_lt (blk_lt (g := gb362) (o := .cells #[.int .i64 t359, .int .i64 t360] 53 (0, 0)) (by (with_reducible repeat (first | refine blk_drewN ?_ _ | refine blk_drew ?_ | refine blk_alloc ?_ _)); exact BK362.out)) : gb362 ≠ gb366)); have n12_ := Aside0.mk ((by rw [hg]; exact Nat.ne_of_gt (blk_lt (g := gb362) (o := .cells #[.int .i64 t359, .int .i64 t360] 53 (0, 0)) (by (with_reducible repeat (first | refine blk_drewN ?_ _ | refine blk_drew ?_ | refine blk_alloc ?_ _)); exact BK362.out)) : gb366 ≠ gb362)); clear BK357; clear BK358; clear BK362; clear HB; have BK357 := n0_; have BK358 := n1_; have BK362 := n2_; have HB := n3_; have BK366 := n4_; have GW366 := n5_; have GE366 := n6_; have NB357_366 := n7_; have NB366_357 := n8_; have NB358_366 := n9_; have NB366_358 := n10_; have NB362_366 := n11_; have NB366_362 := n12_; clear n0_ n1_ n2_ n3_ n4_ n5_ n6_ n7_ n8_ n9_ n10_ n11_ n12_; clear hb hbox hg; have hnb26 := NB366_357.out; have hnc26 := NB357_366.out; have hnb27 := NB366_358.out; have hnc27 := NB358_366.out; have hnb28 := NB366_362.out; have hnc28 := NB362_366.out; have hcz29_0 : w25.cell? ⟨gb366, 0, none⟩ = some (.int .i64 0) := (blk_cell BK366.out 0).trans rfl; have hcz29_1 : w25.cell? ⟨gb366, 1, none⟩ = some (.int .i64 0) := (blk_cell BK366.out 1).trans rfl; have hfz29_0 := blk_frozen BK366.out 0; have hfz29_1 := blk_frozen BK366.out 1; have hcz30_0 : w25.cell? ⟨gb362, 0, none⟩ = some (.int .i64 t359) := (blk_cell BK362.out 0).trans rfl; have hcz30_1 : w25.cell? ⟨gb362, 1, none⟩ = some (.int .i64 t360) := (blk_cell BK362.out 1).trans rfl; have hfz30_0 := blk_frozen BK362.out 0; have hfz30_1 := blk_frozen BK362.out 1; have hcz31_0 : w25.cell? ⟨gb358, 0, none⟩ = some (.int .i64 0) := (blk_cell BK358.out 0).trans rfl; have hcz31_1 : w25.cell? ⟨gb358, 1, none⟩ = some (.int .i64 0) := (blk_cell BK358.out 1).trans rfl; have hfz31_0 := blk_frozen BK358.out 0; have hfz31_1 := blk_frozen BK358.out 1))
        refine bodyPost_ret (results_ct rfl _ _ gb358 53 #[.int .i64 t359, .int .i64 t364] (0, 0) _ rfl (by (with_reducible repeat (first | refine blk_drewN ?_ _ | refine blk_drew ?_ | refine blk_alloc ?_ _)); refine blk_put (cs := #[.int .i64 t359, .int .i64 0]) ?_ 1 _ rfl; (with_reducible repeat (first | refine blk_drewN ?_ _ | refine blk_drew ?_ | refine blk_alloc ?_ _)); refine blk_put (cs := #[.int .i64 0, .int .i64 0]) ?_ 0 _ rfl; (with_reducible repeat (first | refine blk_drewN ?_ _ | refine blk_drew ?_ | refine blk_alloc ?_ _)); refine blk_far ?_ NB358_366.out _; (with_reducible repeat (first | refine blk_drewN ?_ _ | refine blk_drew ?_ | refine blk_alloc ?_ _)); refine blk_far ?_ NB358_366.out _; (with_reducible repeat (first | refine blk_drewN ?_ _ | refine blk_drew ?_ | refine blk_alloc ?_ _)); exact BK358.out) Tryd.underlying53 rfl (by kernel_rfl)) rfl ?_
        exact ⟨by first | rfl | exact ne_empty _ | exact eq_empty _ | (simp [errW_none, errW_some] <;> rfl) | (simp [*, errW_none, errW_some] <;> rfl), by repeat (first | (with_reducible first | exact HB.out | apply below_alloc | apply pw_below_drewN | apply below_drew1 | refine below_set ?_ GE357.out | refine below_set ?_ GE358.out | refine below_set ?_ GE362.out | refine below_set ?_ GE366.out) | exact HB.out)⟩
      · replace c13 := Bool.eq_false_iff.mpr c13
        subst c13
        have H1 : (some (0, 0, false)) = some (r1, r2, r3) := by rw [if_neg (show ¬ (false = true) by decide)] at H; exact H
        clear H
        have H := H1
        clear H1
        simp only [Option.some.injEq, Prod.mk.injEq] at H
        obtain ⟨rfl, rfl, rfl⟩ := H
        go_enter Tryd.func34, Tryd.ntmps34
        go_wp2_with (first | ((with_reducible refine gate_dst (N := 3) rfl ?_); refine box_event ?hg (N := 3) ?hd (cs := #[.int .i64 a0_0, .int .i64 a0_1, .bool a0_2]) (t := 50) ?hr ?_; (case hd => rfl); (case hg => rfl); (case hr => first | (go_simp; done) | (go_simp; rfl)); intro gb357 hg w32 hbox hb; have n0_ := Aside0.mk (below_step (by repeat (first | (with_reducible first | exact HB.out | apply below_alloc | apply pw_below_drewN | apply below_drew1) | exact HB.out)) hb); have n1_ := Aside0.mk (hbox); have n2_ := Aside0.mk ((by rw [hg]; exact (below_size (by repeat (first | (with_reducible first | exact HB.out | apply below_alloc | apply pw_below_drewN | apply below_drew1) | exact HB.out))) : w.heap.size ≤ gb357)); have n3_ := Aside0.mk ((by rw [hg]; exact (below_size (by repeat (first | (with_reducible first | exact HB.out | apply below_alloc | apply pw_below_drewN | apply below_drew1) | exact HB.out))) : w.heap.size ≤ gb357)); clear HB; have HB := n0_; have BK357 := n1_; have GW357 := n2_; have GE357 := n3_; clear n0_ n1_ n2_ n3_; clear hb hbox hg) | ((with_reducible refine gate_dst (N := 6) rfl ?_); refine box_event ?hg (N := 6) ?hd (cs := #[.int .i64 0, .int .i64 0]) (t := 53) ?hr ?_; (case hd => rfl); (case hg => rfl); (case hr => first | (go_simp; done) | (go_simp; rfl)); intro gb358 hg w33 hbox hb; have n0_ := Aside0.mk (blk_below (g := gb357) (o := .cells #[.int .i64 a0_0, .int .i64 a0_1, .bool a0_2] 50 (0, 0)) (by (with_reducible repeat (first | refine blk_drewN ?_ _ | refine blk_drew ?_ | refine blk_alloc ?_ _)); exact BK357.out) hb); have n1_ := Aside0.mk (below_step (by repeat (first | (with_reducible first | exact HB.out | apply below_alloc | apply pw_below_drewN | apply below_drew1 | refine below_set ?_ GE357.out) | exact HB.out)) hb); have n2_ := Aside0.mk (hbox); have n3_ := Aside0.mk ((by rw [hg]; exact (below_size (by repeat (first | (with_reducible first | exact HB.out | apply below_alloc | apply pw_below_drewN | apply below_drew1 | refine below_set ?_ GE357.out) | exact HB.out))) : w.heap.size ≤ gb358)); have n4_ := Aside0.mk ((by rw [hg]; exact (below_size (by repeat (first | (with_reducible first | exact HB.out | apply below_alloc | apply pw_below_drewN | apply below_drew1 | refine below_set ?_ GE357.out) | exact HB.out))) : w.heap.size ≤ gb358)); have n5_ := Aside0.mk ((by rw [hg]; exact Nat.ne_of_lt (blk_lt (g := gb357) (o := .cells #[.int .i64 a0_0, .int .i64 a0_1, .bool a0_2] 50 (0, 0)) (by (with_reducible repeat (first | refine blk_drewN ?_ _ | refine blk_drew ?_ | refine blk_alloc ?_ _)); exact BK357.out)) : gb357 ≠ gb358)); have n6_ := Aside0.mk ((by rw [hg]; exact Nat.ne_of_gt (blk_lt (g := gb357) (o := .cells #[.int .i64 a0_0, .int .i64 a0_1, .bool a0_2] 50 (0, 0)) (by (with_reducible repeat (first | refine blk_drewN ?_ _ | refine blk_drew ?_ | refine blk_alloc ?_ _)); exact BK357.out)) : gb358 ≠ gb357)); clear BK357; clear HB; have BK357 := n0_; have HB := n1_; have BK358 := n2_; have GW358 := n3_; have GE358 := n4_; have NB357_358 := n5_; have NB358_357 := n6_; clear n0_ n1_ n2_ n3_ n4_ n5_ n6_; clear hb hbox hg; have hnb34 := NB357_358.out; have hnc34 := NB358_357.out; have hcz35_0 : w33.cell? ⟨gb357, 0, none⟩ = some (.int .i64 a0_0) := (blk_cell BK357.out 0).trans rfl; have hcz35_1 : w33.cell? ⟨gb357, 1, none⟩ = some (.int .i64 a0_1) := (blk_cell BK357.out 1).trans rfl; have hcz35_2 : w33.cell? ⟨gb357, 2, none⟩ = some (.bool a0_2) := (blk_cell BK357.out 2).trans rfl; have hfz35_0 := blk_frozen BK357.out 0; have hfz35_1 := blk_frozen BK357.out 1; have hfz35_2 := blk_frozen BK357.out 2) | ((with_reducible refine gate_callee (f := 51) rfl ?_); refine goesL_ (some 23) rfl rfl Tryd.func51 (by kernel_rfl) rfl #[.int .i64 a0_0, .int .i64 a1, .int .i64 a2] rfl (by (try simp only [List.map_toArray, List.map_cons, List.map_nil]); first | done | rfl | (simp only [List.length_drop, List.length_take]; rfl)) ?_; (with_reducible refine (cuts_Bounds.calls a0_0 a1 a2 t359 t360 true _ A10.out).mono ?_); rintro e w36 ⟨rfl, hb⟩; refine ⟨_, rfl, ?_⟩; have n0_ := Aside0.mk (blk_below (g := gb357) (o := .cells #[.int .i64 a0_0, .int .i64 a0_1, .bool a0_2] 50 (0, 0)) (by (with_reducible repeat (first | refine blk_drewN ?_ _ | refine blk_drew ?_ | refine blk_alloc ?_ _)); exact BK357.out) hb); have n1_ := Aside0.mk (blk_below (g := gb358) (o := .cells #[.int .i64 0, .int .i64 0] 53 (0, 0)) (by (with_reducible repeat (first | refine blk_drewN ?_ _ | refine blk_drew ?_ | refine blk_alloc ?_ _)); exact BK358.out) hb); have n2_ := Aside0.mk (below_step (by repeat (first | (with_reducible first | exact HB.out | apply below_alloc | apply pw_below_drewN | apply below_drew1 | refine below_set ?_ GE357.out | refine below_set ?_ GE358.out) | exact HB.out)) hb); clear BK357; clear BK358; clear HB; have BK357 := n0_; have BK358 := n1_; have HB := n2_; clear n0_ n1_ n2_; (try clear hb); (try clear hb2); (try clear hk); (try clear hi)) | ((with_reducible refine gate_dst (N := 8) rfl ?_); refine box_event ?hg (N := 8) ?hd (cs := #[.int .i64 0, .int .i64 0]) (t := 53) ?hr ?_; (case hd => rfl); (case hg => rfl); (case hr => first | (go_simp; done) | (go_simp; rfl)); intro gb362 hg w37 hbox hb; have n0_ := Aside0.mk (blk_below (g := gb357) (o := .cells #[.int .i64 a0_0, .int .i64 a0_1, .bool a0_2] 50 (0, 0)) (by (with_reducible repeat (first | refine blk_drewN ?_ _ | refine blk_drew ?_ | refine blk_alloc ?_ _)); exact BK357.out) hb); have n1_ := Aside0.mk (blk_below (g := gb358) (o := .cells #[.int .i64 0, .int .i64 0] 53 (0, 0)) (by (with_reducible repeat (first | refine blk_drewN ?_ _ | refine blk_drew ?_ | refine blk_alloc ?_ _)); exact BK358.out) hb); have n2_ := Aside0.mk (below_step (by repeat (first | (with_reducible first | exact HB.out | apply below_alloc | apply pw_below_drewN | apply below_drew1 | refine below_set ?_ GE357.out | refine below_set ?_ GE358.out) | exact HB.out)) hb); have n3_ := Aside0.mk (hbox); have n4_ := Aside0.mk ((by rw [hg]; exact (below_size (by repeat (first | (with_reducible first | exact HB.out | apply below_alloc | apply pw_below_drewN | apply below_drew1 | refine below_set ?_ GE357.out | refine below_set ?_ GE358.out) | exact HB.out))) : w.heap.size ≤ gb362)); have n5_ := Aside0.mk ((by rw [hg]; exact (below_size (by repeat (first | (with_reducible first | exact HB.out | apply below_alloc | apply pw_below_drewN | apply below_drew1 | refine below_set ?_ GE357.out | refine below_set ?_ GE358.out) | exact HB.out))) : w.heap.size ≤ gb362)); have n6_ := Aside0.mk ((by rw [hg]; exact Nat.ne_of_lt (blk_lt (g := gb357) (o := .cells #[.int .i64 a0_0, .int .i64 a0_1, .bool a0_2] 50 (0, 0)) (by (with_reducible repeat (first | refine blk_drewN ?_ _ | refine blk_drew ?_ | refine blk_alloc ?_ _)); exact BK357.out)) : gb357 ≠ gb362)); have n7_ := Aside0.mk ((by rw [hg]; exact Nat.ne_of_gt (blk_lt (g := gb357) (o := .cells #[.int .i64 a0_0, .int .i64 a0_1, .bool a0_2] 50 (0, 0)) (by (with_reducible repeat (first | refine blk_drewN ?_ _ | refine blk_drew ?_ | refine blk_alloc ?_ _)); exact BK357.out)) : gb362 ≠ gb357)); have n8_ := Aside0.mk ((by rw [hg]; exact Nat.ne_of_lt (blk_lt (g := gb358) (o := .cells #[.int .i64 0, .int .i64 0] 53 (0, 0)) (by (with_reducible repeat (first | refine blk_drewN ?_ _ | refine blk_drew ?_ | refine blk_alloc ?_ _)); exact BK358.out)) : gb358 ≠ gb362)); have n9_ := Aside0.mk ((by rw [hg]; exact Nat.ne_of_gt (blk_lt (g := gb358) (o := .cells #[.int .i64 0, .int .i64 0] 53 (0, 0)) (by (with_reducible repeat (first | refine blk_drewN ?_ _ | refine blk_drew ?_ | refine blk_alloc ?_ _)); exact BK358.out)) : gb362 ≠ gb358)); clear BK357; clear BK358; clear HB; have BK357 := n0_; have BK358 := n1_; have HB := n2_; have BK362 := n3_; have GW362 := n4_; have GE362 := n5_; have NB357_362 := n6_; have NB362_357 := n7_; have NB358_362 := n8_; have NB362_358 := n9_; clear n0_ n1_ n2_ n3_ n4_ n5_ n6_ n7_ n8_ n9_; clear hb hbox hg; have hnb38 := NB362_357.out; have hnc38 := NB357_362.out; have hnb39 := NB362_358.out; have hnc39 := NB358_362.out; have hcz40_0 : w37.cell? ⟨gb362, 0, none⟩ = some (.int .i64 0) := (blk_cell BK362.out 0).trans rfl; have hcz40_1 : w37.cell? ⟨gb362, 1, none⟩ = some (.int .i64 0) := (blk_cell BK362.out 1).trans rfl; have hfz40_0 := blk_frozen BK362.out 0; have hfz40_1 := blk_frozen BK362.out 1; have hcz41_0 : w37.cell? ⟨gb357, 0, none⟩ = some (.int .i64 a0_0) := (blk_cell BK357.out 0).trans rfl; have hcz41_1 : w37.cell? ⟨gb357, 1, none⟩ = some (.int .i64 a0_1) := (blk_cell BK357.out 1).trans rfl; have hcz41_2 : w37.cell? ⟨gb357, 2, none⟩ = some (.bool a0_2) := (blk_cell BK357.out 2).trans rfl; have hfz41_0 := blk_frozen BK357.out 0; have hfz41_1 := blk_frozen BK357.out 1; have hfz41_2 := blk_frozen BK357.out 2) | ((with_reducible refine gate_callee (f := 51) rfl ?_); refine goesL_ (some 32) rfl rfl Tryd.func51 (by kernel_rfl) rfl #[.int .i64 (wrap64 (a0_1 - 1)), .int .i64 a1, .int .i64 a2] rfl (by (try simp only [List.map_toArray, List.map_cons, List.map_nil]); first | done | rfl | (simp only [List.length_drop, List.length_take]; rfl)) ?_; (with_reducible refine (cuts_Bounds.calls (wrap64 (a0_1 - 1)) a1 a2 t363 t364 false _ A11.out).mono ?_); rintro e w42 ⟨rfl, hb⟩; refine ⟨_, rfl, ?_⟩; have n0_ := Aside0.mk (blk_below (g := gb357) (o := .cells #[.int .i64 a0_0, .int .i64 a0_1, .bool a0_2] 50 (0, 0)) (by (with_reducible repeat (first | refine blk_drewN ?_ _ | refine blk_drew ?_ | refine blk_alloc ?_ _)); refine blk_far ?_ NB357_362.out _; (with_reducible repeat (first | refine blk_drewN ?_ _ | refine blk_drew ?_ | refine blk_alloc ?_ _)); refine blk_far ?_ NB357_362.out _; (with_reducible repeat (first | refine blk_drewN ?_ _ | refine blk_drew ?_ | refine blk_alloc ?_ _)); exact BK357.out) hb); have n1_ := Aside0.mk (blk_below (g := gb358) (o := .cells #[.int .i64 0, .int .i64 0] 53 (0, 0)) (by (with_reducible repeat (first | refine blk_drewN ?_ _ | refine blk_drew ?_ | refine blk_alloc ?_ _)); refine blk_far ?_ NB358_362.out _; (with_reducible repeat (first | refine blk_drewN ?_ _ | refine blk_drew ?_ | refine blk_alloc ?_ _)); refine blk_far ?_ NB358_362.out _; (with_reducible repeat (first | refine blk_drewN ?_ _ | refine blk_drew ?_ | refine blk_alloc ?_ _)); exact BK358.out) hb); have n2_ := Aside0.mk (blk_below (g := gb362) (o := .cells #[.int .i64 t359, .int .i64 t360] 53 (0, 0)) (by (with_reducible repeat (first | refine blk_drewN ?_ _ | refine blk_drew ?_ | refine blk_alloc ?_ _)); refine blk_put (cs := #[.int .i64 t359, .int .i64 0]) ?_ 1 _ rfl; (with_reducible repeat (first | refine blk_drewN ?_ _ | refine blk_drew ?_ | refine blk_alloc ?_ _)); refine blk_put (cs := #[.int .i64 0, .int .i64 0]) ?_ 0 _ rfl; (with_reducible repeat (first | refine blk_drewN ?_ _ | refine blk_drew ?_ | refine blk_alloc ?_ _)); exact BK362.out) hb); have n3_ := Aside0.mk (below_step (by repeat (first | (with_reducible first | exact HB.out | apply below_alloc | apply pw_below_drewN | apply below_drew1 | refine below_set ?_ GE357.out | refine below_set ?_ GE358.out | refine below_set ?_ GE362.out) | exact HB.out)) hb); clear BK357; clear BK358; clear BK362; clear HB; have BK357 := n0_; have BK358 := n1_; have BK362 := n2_; have HB := n3_; clear n0_ n1_ n2_ n3_; (try clear hb); (try clear hb2); (try clear hk); (try clear hi)) | ((with_reducible refine gate_dst (N := 10) rfl ?_); refine box_event ?hg (N := 10) ?hd (cs := #[.int .i64 0, .int .i64 0]) (t := 53) ?hr ?_; (case hd => rfl); (case hg => rfl); (case hr => first | (go_simp; done) | (go_simp; rfl)); intro gb366 hg w43 hbox hb; have n0_ := Aside0.mk (blk_below (g := gb357) (o := .cells #[.int .i64 a0_0, .int .i64 a0_1, .bool a0_2] 50 (0, 0)) (by (with_reducible repeat (first | refine blk_drewN ?_ _ | refine blk_drew ?_ | refine blk_alloc ?_ _)); exact BK357.out) hb); have n1_ := Aside0.mk (blk_below (g := gb358) (o := .cells #[.int .i64 0, .int .i64 0] 53 (0, 0)) (by (with_reducible repeat (first | refine blk_drewN ?_ _ | refine blk_drew ?_ | refine blk_alloc ?_ _)); exact BK358.out) hb); have n2_ := Aside0.mk (blk_below (g := gb362) (o := .cells #[.int .i64 t359, .int .i64 t360] 53 (0, 0)) (by (with_reducible repeat (first | refine blk_drewN ?_ _ | refine blk_drew ?_ | refine blk_alloc ?_ _)); exact BK362.out) hb); have n3_ := Aside0.mk (below_step (by repeat (first | (with_reducible first | exact HB.out | apply below_alloc | apply pw_below_drewN | apply below_drew1 | refine below_set ?_ GE357.out | refine below_set ?_ GE358.out | refine below_set ?_ GE362.out) | exact HB.out)) hb); have n4_ := Aside0.mk (hbox); have n5_ := Aside0.mk ((by rw [hg]; exact (below_size (by repeat (first | (with_reducible first | exact HB.out | apply below_alloc | apply pw_below_drewN | apply below_drew1 | refine below_set ?_ GE357.out | refine below_set ?_ GE358.out | refine below_set ?_ GE362.out) | exact HB.out))) : w.heap.size ≤ gb366)); have n6_ := Aside0.mk ((by rw [hg]; exact (below_size (by repeat (first | (with_reducible first | exact HB.out | apply below_alloc | apply pw_below_drewN | apply below_drew1 | refine below_set ?_ GE357.out | refine below_set ?_ GE358.out | refine below_set ?_ GE362.out) | exact HB.out))) : w.heap.size ≤ gb366)); have n7_ := Aside0.mk ((by rw [hg]; exact Nat.ne_of_lt (blk_lt (g := gb357) (o := .cells #[.int .i64 a0_0, .int .i64 a0_1, .bool a0_2] 50 (0, 0)) (by (with_reducible repeat (first | refine blk_drewN ?_ _ | refine blk_drew ?_ | refine blk_alloc ?_ _)); exact BK357.out)) : gb357 ≠ gb366)); have n8_ := Aside0.mk ((by rw [hg]; exact Nat.ne_of_gt (blk_lt (g := gb357) (o := .cells #[.int .i64 a0_0, .int .i64 a0_1, .bool a0_2] 50 (0, 0)) (by (with_reducible repeat (first | refine blk_drewN ?_ _ | refine blk_drew ?_ | refine blk_alloc ?_ _)); exact BK357.out)) : gb366 ≠ gb357)); have n9_ := Aside0.mk ((by rw [hg]; exact Nat.ne_of_lt (blk_lt (g := gb358) (o := .cells #[.int .i64 0, .int .i64 0] 53 (0, 0)) (by (with_reducible repeat (first | refine blk_drewN ?_ _ | refine blk_drew ?_ | refine blk_alloc ?_ _)); exact BK358.out)) : gb358 ≠ gb366)); have n10_ := Aside0.mk ((by rw [hg]; exact Nat.ne_of_gt (blk_lt (g := gb358) (o := .cells #[.int .i64 0, .int .i64 0] 53 (0, 0)) (by (with_reducible repeat (first | refine blk_drewN ?_ _ | refine blk_drew ?_ | refine blk_alloc ?_ _)); exact BK358.out)) : gb366 ≠ gb358)); have n11_ := Aside0.mk ((by rw [hg]; exact Nat.ne_of_lt (blk_lt (g := gb362) (o := .cells #[.int .i64 t359, .int .i64 t360] 53 (0, 0)) (by (with_reducible repeat (first | refine blk_drewN ?_ _ | refine blk_drew ?_ | refine blk_alloc ?_ _)); exact BK362.out)) : gb362 ≠ gb366)); have n12_ := Aside0.mk ((by rw [hg]; exact Nat.ne_of_gt (blk_lt (g := gb362) (o := .cells #[.int .i64 t359, .int .i64 t360] 53 (0, 0)) (by (with_reducible repeat (first | refine blk_drewN ?_ _ | refine blk_drew ?_ | refine blk_alloc ?_ _)); exact BK362.out)) : gb366 ≠ gb362)); clear BK357; clear BK358; clear BK362; clear HB; have BK357 := n0_; have BK358 := n1_; have BK362 := n2_; have HB := n3_; have BK366 := n4_; have GW366 := n5_; have GE366 := n6_; have NB357_366 := n7_; have NB366_357 := n8_; have NB358_366 := n9_; have NB366_358 := n10_; have NB362_366 := n11_; have NB366_362 := n12_; clear n0_ n1_ n2_ n3_ n4_ n5_ n6_ n7_ n8_ n9_ n10_ n11_ n12_; clear hb hbox hg; have hnb44 := NB366_357.out; have hnc44 := NB357_366.out; have hnb45 := NB366_358.out; have hnc45 := NB358_366.out; have hnb46 := NB366_362.out; have hnc46 := NB362_366.out; have hcz47_0 : w43.cell? ⟨gb366, 0, none⟩ = some (.int .i64 0) := (blk_cell BK366.out 0).trans rfl; have hcz47_1 : w43.cell? ⟨gb366, 1, none⟩ = some (.int .i64 0) := (blk_cell BK366.out 1).trans rfl; have hfz47_0 := blk_frozen BK366.out 0; have hfz47_1 := blk_frozen BK366.out 1; have hcz48_0 : w43.cell? ⟨gb358, 0, none⟩ = some (.int .i64 0) := (blk_cell BK358.out 0).trans rfl; have hcz48_1 : w43.cell? ⟨gb358, 1, none⟩ = some (.int .i64 0) := (blk_cell BK358.out 1).trans rfl; have hfz48_0 := blk_frozen BK358.out 0; have hfz48_1 := blk_frozen BK358.out 1))
        refine bodyPost_ret (results_ct rfl _ _ gb358 53 #[.int .i64 0, .int .i64 0] (0, 0) _ rfl (by (with_reducible repeat (first | refine blk_drewN ?_ _ | refine blk_drew ?_ | refine blk_alloc ?_ _)); refine blk_put (cs := #[.int .i64 0, .int .i64 0]) ?_ 1 _ rfl; (with_reducible repeat (first | refine blk_drewN ?_ _ | refine blk_drew ?_ | refine blk_alloc ?_ _)); refine blk_put (cs := #[.int .i64 0, .int .i64 0]) ?_ 0 _ rfl; (with_reducible repeat (first | refine blk_drewN ?_ _ | refine blk_drew ?_ | refine blk_alloc ?_ _)); refine blk_far ?_ NB358_366.out _; (with_reducible repeat (first | refine blk_drewN ?_ _ | refine blk_drew ?_ | refine blk_alloc ?_ _)); refine blk_far ?_ NB358_366.out _; (with_reducible repeat (first | refine blk_drewN ?_ _ | refine blk_drew ?_ | refine blk_alloc ?_ _)); exact BK358.out) Tryd.underlying53 rfl (by kernel_rfl)) rfl ?_
        exact ⟨by first | rfl | exact ne_empty _ | exact eq_empty _ | (simp [errW_none, errW_some] <;> rfl) | (simp [*, errW_none, errW_some] <;> rfl), by repeat (first | (with_reducible first | exact HB.out | apply below_alloc | apply pw_below_drewN | apply below_drew1 | refine below_set ?_ GE357.out | refine below_set ?_ GE358.out | refine below_set ?_ GE362.out | refine below_set ?_ GE366.out) | exact HB.out)⟩
    · replace c12 := Bool.eq_false_iff.mpr c12
      subst c12
      have H1 : (some (0, 0, false)) = some (r1, r2, r3) := by rw [if_neg (show ¬ (false = true) by decide)] at H; exact H
      clear H
      have H := H1
      clear H1
      simp only [Option.some.injEq, Prod.mk.injEq] at H
      obtain ⟨rfl, rfl, rfl⟩ := H
      go_enter Tryd.func34, Tryd.ntmps34
      go_wp2_with (first | ((with_reducible refine gate_dst (N := 3) rfl ?_); refine box_event ?hg (N := 3) ?hd (cs := #[.int .i64 a0_0, .int .i64 a0_1, .bool a0_2]) (t := 50) ?hr ?_; (case hd => rfl); (case hg => rfl); (case hr => first | (go_simp; done) | (go_simp; rfl)); intro gb357 hg w49 hbox hb; have n0_ := Aside0.mk (below_step (by repeat (first | (with_reducible first | exact HB.out | apply below_alloc | apply pw_below_drewN | apply below_drew1) | exact HB.out)) hb); have n1_ := Aside0.mk (hbox); have n2_ := Aside0.mk ((by rw [hg]; exact (below_size (by repeat (first | (with_reducible first | exact HB.out | apply below_alloc | apply pw_below_drewN | apply below_drew1) | exact HB.out))) : w.heap.size ≤ gb357)); have n3_ := Aside0.mk ((by rw [hg]; exact (below_size (by repeat (first | (with_reducible first | exact HB.out | apply below_alloc | apply pw_below_drewN | apply below_drew1) | exact HB.out))) : w.heap.size ≤ gb357)); clear HB; have HB := n0_; have BK357 := n1_; have GW357 := n2_; have GE357 := n3_; clear n0_ n1_ n2_ n3_; clear hb hbox hg) | ((with_reducible refine gate_dst (N := 6) rfl ?_); refine box_event ?hg (N := 6) ?hd (cs := #[.int .i64 0, .int .i64 0]) (t := 53) ?hr ?_; (case hd => rfl); (case hg => rfl); (case hr => first | (go_simp; done) | (go_simp; rfl)); intro gb358 hg w50 hbox hb; have n0_ := Aside0.mk (blk_below (g := gb357) (o := .cells #[.int .i64 a0_0, .int .i64 a0_1, .bool a0_2] 50 (0, 0)) (by (with_reducible repeat (first | refine blk_drewN ?_ _ | refine blk_drew ?_ | refine blk_alloc ?_ _)); exact BK357.out) hb); have n1_ := Aside0.mk (below_step (by repeat (first | (with_reducible first | exact HB.out | apply below_alloc | apply pw_below_drewN | apply below_drew1 | refine below_set ?_ GE357.out) | exact HB.out)) hb); have n2_ := Aside0.mk (hbox); have n3_ := Aside0.mk ((by rw [hg]; exact (below_size (by repeat (first | (with_reducible first | exact HB.out | apply below_alloc | apply pw_below_drewN | apply below_drew1 | refine below_set ?_ GE357.out) | exact HB.out))) : w.heap.size ≤ gb358)); have n4_ := Aside0.mk ((by rw [hg]; exact (below_size (by repeat (first | (with_reducible first | exact HB.out | apply below_alloc | apply pw_below_drewN | apply below_drew1 | refine below_set ?_ GE357.out) | exact HB.out))) : w.heap.size ≤ gb358)); have n5_ := Aside0.mk ((by rw [hg]; exact Nat.ne_of_lt (blk_lt (g := gb357) (o := .cells #[.int .i64 a0_0, .int .i64 a0_1, .bool a0_2] 50 (0, 0)) (by (with_reducible repeat (first | refine blk_drewN ?_ _ | refine blk_drew ?_ | refine blk_alloc ?_ _)); exact BK357.out)) : gb357 ≠ gb358)); have n6_ := Aside0.mk ((by rw [hg]; exact Nat.ne_of_gt (blk_lt (g := gb357) (o := .cells #[.int .i64 a0_0, .int .i64 a0_1, .bool a0_2] 50 (0, 0)) (by (with_reducible repeat (first | refine blk_drewN ?_ _ | refine blk_drew ?_ | refine blk_alloc ?_ _)); exact BK357.out)) : gb358 ≠ gb357)); clear BK357; clear HB; have BK357 := n0_; have HB := n1_; have BK358 := n2_; have GW358 := n3_; have GE358 := n4_; have NB357_358 := n5_; have NB358_357 := n6_; clear n0_ n1_ n2_ n3_ n4_ n5_ n6_; clear hb hbox hg; have hnb51 := NB357_358.out; have hnc51 := NB358_357.out; have hcz52_0 : w50.cell? ⟨gb357, 0, none⟩ = some (.int .i64 a0_0) := (blk_cell BK357.out 0).trans rfl; have hcz52_1 : w50.cell? ⟨gb357, 1, none⟩ = some (.int .i64 a0_1) := (blk_cell BK357.out 1).trans rfl; have hcz52_2 : w50.cell? ⟨gb357, 2, none⟩ = some (.bool a0_2) := (blk_cell BK357.out 2).trans rfl; have hfz52_0 := blk_frozen BK357.out 0; have hfz52_1 := blk_frozen BK357.out 1; have hfz52_2 := blk_frozen BK357.out 2) | ((with_reducible refine gate_callee (f := 51) rfl ?_); refine goesL_ (some 23) rfl rfl Tryd.func51 (by kernel_rfl) rfl #[.int .i64 a0_0, .int .i64 a1, .int .i64 a2] rfl (by (try simp only [List.map_toArray, List.map_cons, List.map_nil]); first | done | rfl | (simp only [List.length_drop, List.length_take]; rfl)) ?_; (with_reducible refine (cuts_Bounds.calls a0_0 a1 a2 t359 t360 false _ A10.out).mono ?_); rintro e w53 ⟨rfl, hb⟩; refine ⟨_, rfl, ?_⟩; have n0_ := Aside0.mk (blk_below (g := gb357) (o := .cells #[.int .i64 a0_0, .int .i64 a0_1, .bool a0_2] 50 (0, 0)) (by (with_reducible repeat (first | refine blk_drewN ?_ _ | refine blk_drew ?_ | refine blk_alloc ?_ _)); exact BK357.out) hb); have n1_ := Aside0.mk (blk_below (g := gb358) (o := .cells #[.int .i64 0, .int .i64 0] 53 (0, 0)) (by (with_reducible repeat (first | refine blk_drewN ?_ _ | refine blk_drew ?_ | refine blk_alloc ?_ _)); exact BK358.out) hb); have n2_ := Aside0.mk (below_step (by repeat (first | (with_reducible first | exact HB.out | apply below_alloc | apply pw_below_drewN | apply below_drew1 | refine below_set ?_ GE357.out | refine below_set ?_ GE358.out) | exact HB.out)) hb); clear BK357; clear BK358; clear HB; have BK357 := n0_; have BK358 := n1_; have HB := n2_; clear n0_ n1_ n2_; (try clear hb); (try clear hb2); (try clear hk); (try clear hi)) | ((with_reducible refine gate_dst (N := 8) rfl ?_); refine box_event ?hg (N := 8) ?hd (cs := #[.int .i64 0, .int .i64 0]) (t := 53) ?hr ?_; (case hd => rfl); (case hg => rfl); (case hr => first | (go_simp; done) | (go_simp; rfl)); intro gb362 hg w54 hbox hb; have n0_ := Aside0.mk (blk_below (g := gb357) (o := .cells #[.int .i64 a0_0, .int .i64 a0_1, .bool a0_2] 50 (0, 0)) (by (with_reducible repeat (first | refine blk_drewN ?_ _ | refine blk_drew ?_ | refine blk_alloc ?_ _)); exact BK357.out) hb); have n1_ := Aside0.mk (blk_below (g := gb358) (o := .cells #[.int .i64 0, .int .i64 0] 53 (0, 0)) (by (with_reducible repeat (first | refine blk_drewN ?_ _ | refine blk_drew ?_ | refine blk_alloc ?_ _)); exact BK358.out) hb); have n2_ := Aside0.mk (below_step (by repeat (first | (with_reducible first | exact HB.out | apply below_alloc | apply pw_below_drewN | apply below_drew1 | refine below_set ?_ GE357.out | refine below_set ?_ GE358.out) | exact HB.out)) hb); have n3_ := Aside0.mk (hbox); have n4_ := Aside0.mk ((by rw [hg]; exact (below_size (by repeat (first | (with_reducible first | exact HB.out | apply below_alloc | apply pw_below_drewN | apply below_drew1 | refine below_set ?_ GE357.out | refine below_set ?_ GE358.out) | exact HB.out))) : w.heap.size ≤ gb362)); have n5_ := Aside0.mk ((by rw [hg]; exact (below_size (by repeat (first | (with_reducible first | exact HB.out | apply below_alloc | apply pw_below_drewN | apply below_drew1 | refine below_set ?_ GE357.out | refine below_set ?_ GE358.out) | exact HB.out))) : w.heap.size ≤ gb362)); have n6_ := Aside0.mk ((by rw [hg]; exact Nat.ne_of_lt (blk_lt (g := gb357) (o := .cells #[.int .i64 a0_0, .int .i64 a0_1, .bool a0_2] 50 (0, 0)) (by (with_reducible repeat (first | refine blk_drewN ?_ _ | refine blk_drew ?_ | refine blk_alloc ?_ _)); exact BK357.out)) : gb357 ≠ gb362)); have n7_ := Aside0.mk ((by rw [hg]; exact Nat.ne_of_gt (blk_lt (g := gb357) (o := .cells #[.int .i64 a0_0, .int .i64 a0_1, .bool a0_2] 50 (0, 0)) (by (with_reducible repeat (first | refine blk_drewN ?_ _ | refine blk_drew ?_ | refine blk_alloc ?_ _)); exact BK357.out)) : gb362 ≠ gb357)); have n8_ := Aside0.mk ((by rw [hg]; exact Nat.ne_of_lt (blk_lt (g := gb358) (o := .cells #[.int .i64 0, .int .i64 0] 53 (0, 0)) (by (with_reducible repeat (first | refine blk_drewN ?_ _ | refine blk_drew ?_ | refine blk_alloc ?_ _)); exact BK358.out)) : gb358 ≠ gb362)); have n9_ := Aside0.mk ((by rw [hg]; exact Nat.ne_of_gt (blk_lt (g := gb358) (o := .cells #[.int .i64 0, .int .i64 0] 53 (0, 0)) (by (with_reducible repeat (first | refine blk_drewN ?_ _ | refine blk_drew ?_ | refine blk_alloc ?_ _)); exact BK358.out)) : gb362 ≠ gb358)); clear BK357; clear BK358; clear HB; have BK357 := n0_; have BK358 := n1_; have HB := n2_; have BK362 := n3_; have GW362 := n4_; have GE362 := n5_; have NB357_362 := n6_; have NB362_357 := n7_; have NB358_362 := n8_; have NB362_358 := n9_; clear n0_ n1_ n2_ n3_ n4_ n5_ n6_ n7_ n8_ n9_; clear hb hbox hg; have hnb55 := NB362_357.out; have hnc55 := NB357_362.out; have hnb56 := NB362_358.out; have hnc56 := NB358_362.out; have hcz57_0 : w54.cell? ⟨gb362, 0, none⟩ = some (.int .i64 0) := (blk_cell BK362.out 0).trans rfl; have hcz57_1 : w54.cell? ⟨gb362, 1, none⟩ = some (.int .i64 0) := (blk_cell BK362.out 1).trans rfl; have hfz57_0 := blk_frozen BK362.out 0; have hfz57_1 := blk_frozen BK362.out 1; have hcz58_0 : w54.cell? ⟨gb357, 0, none⟩ = some (.int .i64 a0_0) := (blk_cell BK357.out 0).trans rfl; have hcz58_1 : w54.cell? ⟨gb357, 1, none⟩ = some (.int .i64 a0_1) := (blk_cell BK357.out 1).trans rfl; have hcz58_2 : w54.cell? ⟨gb357, 2, none⟩ = some (.bool a0_2) := (blk_cell BK357.out 2).trans rfl; have hfz58_0 := blk_frozen BK357.out 0; have hfz58_1 := blk_frozen BK357.out 1; have hfz58_2 := blk_frozen BK357.out 2) | ((with_reducible refine gate_callee (f := 51) rfl ?_); refine goesL_ (some 32) rfl rfl Tryd.func51 (by kernel_rfl) rfl #[.int .i64 (wrap64 (a0_1 - 1)), .int .i64 a1, .int .i64 a2] rfl (by (try simp only [List.map_toArray, List.map_cons, List.map_nil]); first | done | rfl | (simp only [List.length_drop, List.length_take]; rfl)) ?_; (with_reducible refine (cuts_Bounds.calls (wrap64 (a0_1 - 1)) a1 a2 t363 t364 t365 _ A11.out).mono ?_); rintro e w59 ⟨rfl, hb⟩; refine ⟨_, rfl, ?_⟩; have n0_ := Aside0.mk (blk_below (g := gb357) (o := .cells #[.int .i64 a0_0, .int .i64 a0_1, .bool a0_2] 50 (0, 0)) (by (with_reducible repeat (first | refine blk_drewN ?_ _ | refine blk_drew ?_ | refine blk_alloc ?_ _)); refine blk_far ?_ NB357_362.out _; (with_reducible repeat (first | refine blk_drewN ?_ _ | refine blk_drew ?_ | refine blk_alloc ?_ _)); refine blk_far ?_ NB357_362.out _; (with_reducible repeat (first | refine blk_drewN ?_ _ | refine blk_drew ?_ | refine blk_alloc ?_ _)); exact BK357.out) hb); have n1_ := Aside0.mk (blk_below (g := gb358) (o := .cells #[.int .i64 0, .int .i64 0] 53 (0, 0)) (by (with_reducible repeat (first | refine blk_drewN ?_ _ | refine blk_drew ?_ | refine blk_alloc ?_ _)); refine blk_far ?_ NB358_362.out _; (with_reducible repeat (first | refine blk_drewN ?_ _ | refine blk_drew ?_ | refine blk_alloc ?_ _)); refine blk_far ?_ NB358_362.out _; (with_reducible repeat (first | refine blk_drewN ?_ _ | refine blk_drew ?_ | refine blk_alloc ?_ _)); exact BK358.out) hb); have n2_ := Aside0.mk (blk_below (g := gb362) (o := .cells #[.int .i64 t359, .int .i64 t360] 53 (0, 0)) (by (with_reducible repeat (first | refine blk_drewN ?_ _ | refine blk_drew ?_ | refine blk_alloc ?_ _)); refine blk_put (cs := #[.int .i64 t359, .int .i64 0]) ?_ 1 _ rfl; (with_reducible repeat (first | refine blk_drewN ?_ _ | refine blk_drew ?_ | refine blk_alloc ?_ _)); refine blk_put (cs := #[.int .i64 0, .int .i64 0]) ?_ 0 _ rfl; (with_reducible repeat (first | refine blk_drewN ?_ _ | refine blk_drew ?_ | refine blk_alloc ?_ _)); exact BK362.out) hb); have n3_ := Aside0.mk (below_step (by repeat (first | (with_reducible first | exact HB.out | apply below_alloc | apply pw_below_drewN | apply below_drew1 | refine below_set ?_ GE357.out | refine below_set ?_ GE358.out | refine below_set ?_ GE362.out) | exact HB.out)) hb); clear BK357; clear BK358; clear BK362; clear HB; have BK357 := n0_; have BK358 := n1_; have BK362 := n2_; have HB := n3_; clear n0_ n1_ n2_ n3_; (try clear hb); (try clear hb2); (try clear hk); (try clear hi)) | ((with_reducible refine gate_dst (N := 10) rfl ?_); refine box_event ?hg (N := 10) ?hd (cs := #[.int .i64 0, .int .i64 0]) (t := 53) ?hr ?_; (case hd => rfl); (case hg => rfl); (case hr => first | (go_simp; done) | (go_simp; rfl)); intro gb366 hg w60 hbox hb; have n0_ := Aside0.mk (blk_below (g := gb357) (o := .cells #[.int .i64 a0_0, .int .i64 a0_1, .bool a0_2] 50 (0, 0)) (by (with_reducible repeat (first | refine blk_drewN ?_ _ | refine blk_drew ?_ | refine blk_alloc ?_ _)); exact BK357.out) hb); have n1_ := Aside0.mk (blk_below (g := gb358) (o := .cells #[.int .i64 0, .int .i64 0] 53 (0, 0)) (by (with_reducible repeat (first | refine blk_drewN ?_ _ | refine blk_drew ?_ | refine blk_alloc ?_ _)); exact BK358.out) hb); have n2_ := Aside0.mk (blk_below (g := gb362) (o := .cells #[.int .i64 t359, .int .i64 t360] 53 (0, 0)) (by (with_reducible repeat (first | refine blk_drewN ?_ _ | refine blk_drew ?_ | refine blk_alloc ?_ _)); exact BK362.out) hb); have n3_ := Aside0.mk (below_step (by repeat (first | (with_reducible first | exact HB.out | apply below_alloc | apply pw_below_drewN | apply below_drew1 | refine below_set ?_ GE357.out | refine below_set ?_ GE358.out | refine below_set ?_ GE362.out) | exact HB.out)) hb); have n4_ := Aside0.mk (hbox); have n5_ := Aside0.mk ((by rw [hg]; exact (below_size (by repeat (first | (with_reducible first | exact HB.out | apply below_alloc | apply pw_below_drewN | apply below_drew1 | refine below_set ?_ GE357.out | refine below_set ?_ GE358.out | refine below_set ?_ GE362.out) | exact HB.out))) : w.heap.size ≤ gb366)); have n6_ := Aside0.mk ((by rw [hg]; exact (below_size (by repeat (first | (with_reducible first | exact HB.out | apply below_alloc | apply pw_below_drewN | apply below_drew1 | refine below_set ?_ GE357.out | refine below_set ?_ GE358.out | refine below_set ?_ GE362.out) | exact HB.out))) : w.heap.size ≤ gb366)); have n7_ := Aside0.mk ((by rw [hg]; exact Nat.ne_of_lt (blk_lt (g := gb357) (o := .cells #[.int .i64 a0_0, .int .i64 a0_1, .bool a0_2] 50 (0, 0)) (by (with_reducible repeat (first | refine blk_drewN ?_ _ | refine blk_drew ?_ | refine blk_alloc ?_ _)); exact BK357.out)) : gb357 ≠ gb366)); have n8_ := Aside0.mk ((by rw [hg]; exact Nat.ne_of_gt (blk_lt (g := gb357) (o := .cells #[.int .i64 a0_0, .int .i64 a0_1, .bool a0_2] 50 (0, 0)) (by (with_reducible repeat (first | refine blk_drewN ?_ _ | refine blk_drew ?_ | refine blk_alloc ?_ _)); exact BK357.out)) : gb366 ≠ gb357)); have n9_ := Aside0.mk ((by rw [hg]; exact Nat.ne_of_lt (blk_lt (g := gb358) (o := .cells #[.int .i64 0, .int .i64 0] 53 (0, 0)) (by (with_reducible repeat (first | refine blk_drewN ?_ _ | refine blk_drew ?_ | refine blk_alloc ?_ _)); exact BK358.out)) : gb358 ≠ gb366)); have n10_ := Aside0.mk ((by rw [hg]; exact Nat.ne_of_gt (blk_lt (g := gb358) (o := .cells #[.int .i64 0, .int .i64 0] 53 (0, 0)) (by (with_reducible repeat (first | refine blk_drewN ?_ _ | refine blk_drew ?_ | refine blk_alloc ?_ _)); exact BK358.out)) : gb366 ≠ gb358)); have n11_ := Aside0.mk ((by rw [hg]; exact Nat.ne_of_lt (blk_lt (g := gb362) (o := .cells #[.int .i64 t359, .int .i64 t360] 53 (0, 0)) (by (with_reducible repeat (first | refine blk_drewN ?_ _ | refine blk_drew ?_ | refine blk_alloc ?_ _)); exact BK362.out)) : gb362 ≠ gb366)); have n12_ := Aside0.mk ((by rw [hg]; exact Nat.ne_of_gt (blk_lt (g := gb362) (o := .cells #[.int .i64 t359, .int .i64 t360] 53 (0, 0)) (by (with_reducible repeat (first | refine blk_drewN ?_ _ | refine blk_drew ?_ | refine blk_alloc ?_ _)); exact BK362.out)) : gb366 ≠ gb362)); clear BK357; clear BK358; clear BK362; clear HB; have BK357 := n0_; have BK358 := n1_; have BK362 := n2_; have HB := n3_; have BK366 := n4_; have GW366 := n5_; have GE366 := n6_; have NB357_366 := n7_; have NB366_357 := n8_; have NB358_366 := n9_; have NB366_358 := n10_; have NB362_366 := n11_; have NB366_362 := n12_; clear n0_ n1_ n2_ n3_ n4_ n5_ n6_ n7_ n8_ n9_ n10_ n11_ n12_; clear hb hbox hg; have hnb61 := NB366_357.out; have hnc61 := NB357_366.out; have hnb62 := NB366_358.out; have hnc62 := NB358_366.out; have hnb63 := NB366_362.out; have hnc63 := NB362_366.out; have hcz64_0 : w60.cell? ⟨gb366, 0, none⟩ = some (.int .i64 0) := (blk_cell BK366.out 0).trans rfl; have hcz64_1 : w60.cell? ⟨gb366, 1, none⟩ = some (.int .i64 0) := (blk_cell BK366.out 1).trans rfl; have hfz64_0 := blk_frozen BK366.out 0; have hfz64_1 := blk_frozen BK366.out 1; have hcz65_0 : w60.cell? ⟨gb358, 0, none⟩ = some (.int .i64 0) := (blk_cell BK358.out 0).trans rfl; have hcz65_1 : w60.cell? ⟨gb358, 1, none⟩ = some (.int .i64 0) := (blk_cell BK358.out 1).trans rfl; have hfz65_0 := blk_frozen BK358.out 0; have hfz65_1 := blk_frozen BK358.out 1))
      refine bodyPost_ret (results_ct rfl _ _ gb358 53 #[.int .i64 0, .int .i64 0] (0, 0) _ rfl (by (with_reducible repeat (first | refine blk_drewN ?_ _ | refine blk_drew ?_ | refine blk_alloc ?_ _)); refine blk_put (cs := #[.int .i64 0, .int .i64 0]) ?_ 1 _ rfl; (with_reducible repeat (first | refine blk_drewN ?_ _ | refine blk_drew ?_ | refine blk_alloc ?_ _)); refine blk_put (cs := #[.int .i64 0, .int .i64 0]) ?_ 0 _ rfl; (with_reducible repeat (first | refine blk_drewN ?_ _ | refine blk_drew ?_ | refine blk_alloc ?_ _)); refine blk_far ?_ NB358_366.out _; (with_reducible repeat (first | refine blk_drewN ?_ _ | refine blk_drew ?_ | refine blk_alloc ?_ _)); refine blk_far ?_ NB358_366.out _; (with_reducible repeat (first | refine blk_drewN ?_ _ | refine blk_drew ?_ | refine blk_alloc ?_ _)); exact BK358.out) Tryd.underlying53 rfl (by kernel_rfl)) rfl ?_
      exact ⟨by first | rfl | exact ne_empty _ | exact eq_empty _ | (simp [errW_none, errW_some] <;> rfl) | (simp [*, errW_none, errW_some] <;> rfl), by repeat (first | (with_reducible first | exact HB.out | apply below_alloc | apply pw_below_drewN | apply below_drew1 | refine below_set ?_ GE357.out | refine below_set ?_ GE358.out | refine below_set ?_ GE362.out | refine below_set ?_ GE366.out) | exact HB.out)⟩
def spenceref04_Cuts.f (a0 : Int) (a1 : Int) : Option (Bool) := if a0 ≥ 0 then (if a0 ≤ 4096 then (if a1 ≥ 1 then (some (decide (a1 ≤ 64))) else (some false)) else (some false)) else (some false)
set_option maxHeartbeats 8000000 in
set_option maxRecDepth 100000 in
theorem spenceref04_Cuts.calls (a0 : Int) (a1 : Int) (r : Bool) (w : World) (h : spenceref04_Cuts.f a0 a1 = some r) :
    Calls Tryd.prog 65 #[.int .i64 a0, .int .i64 a1] w fun e w' => e = .returned (.bool r) ∧ Drawn0 w w' := by
  have H : (if a0 ≥ 0 then (if a0 ≤ 4096 then (if a1 ≥ 1 then (some (decide (a1 ≤ 64))) else (some false)) else (some false)) else (some false)) = some r := h
  clear h
  by_cases c3 : a0 ≥ 0
  · rw [if_pos c3] at H
    have c3b0 : decide (0 ≤ a0) = true := decide_eq_true c3
    clear c3
    by_cases c4 : a0 ≤ 4096
    · rw [if_pos c4] at H
      have c4b0 : decide (a0 ≤ 4096) = true := decide_eq_true c4
      clear c4
      by_cases c5 : a1 ≥ 1
      · rw [if_pos c5] at H
        have c5b0 : decide (1 ≤ a1) = true := decide_eq_true c5
        clear c5
        obtain rfl := Option.some.inj H
        go_enter Tryd.func65, Tryd.ntmps65
        go_wp2
        go_ret
        exact ⟨by first | rfl | (simp; done) | (simp [*]; done) | exact ne_empty _ | exact eq_empty _, by repeat (first | exact Drawn0.refl _ | apply Drawn0.step)⟩
      · rw [if_neg c5] at H
        have c5b0 : decide (1 ≤ a1) = false := decide_eq_false c5
        clear c5
        obtain rfl := Option.some.inj H
        go_enter Tryd.func65, Tryd.ntmps65
        go_wp2
        go_ret
        exact ⟨by first | rfl | (simp; done) | (simp [*]; done) | exact ne_empty _ | exact eq_empty _, by repeat (first | exact Drawn0.refl _ | apply Drawn0.step)⟩
    · rw [if_neg c4] at H
      have c4b0 : decide (a0 ≤ 4096) = false := decide_eq_false c4
      clear c4
      obtain rfl := Option.some.inj H
      go_enter Tryd.func65, Tryd.ntmps65
      go_wp2
      go_ret
      exact ⟨by first | rfl | (simp; done) | (simp [*]; done) | exact ne_empty _ | exact eq_empty _, by repeat (first | exact Drawn0.refl _ | apply Drawn0.step)⟩
  · rw [if_neg c3] at H
    have c3b0 : decide (0 ≤ a0) = false := decide_eq_false c3
    clear c3
    obtain rfl := Option.some.inj H
    go_enter Tryd.func65, Tryd.ntmps65
    go_wp2
    go_ret
    exact ⟨by first | rfl | (simp; done) | (simp [*]; done) | exact ne_empty _ | exact eq_empty _, by repeat (first | exact Drawn0.refl _ | apply Drawn0.step)⟩
def spenceref04_Bounds.j0 : Nat → Int → Int → Int → Bool → Option (Int × Int)
  | 0, _, _, _, _ => none
  | k + 1, x0, x1, x2, x26 => if x26 = true then (some (0, 0)) else (if (wrap64 ((wrap64 (x0 * x2)) + x2)) > x1 then (some (wrap64 (x0 * x2), x1)) else (some (wrap64 (x0 * x2), wrap64 ((wrap64 (x0 * x2)) + x2))))
def spenceref04_Bounds.f (k : Nat) (a0 : Int) (a1 : Int) (a2 : Int) : Option (Int × Int) := (spenceref04_Cuts.f a1 a2).bind fun t368 => (if t368 = true then (if a0 < 0 then (spenceref04_Bounds.j0 k a0 a1 a2 true) else (if a0 > 4096 then (spenceref04_Bounds.j0 k a0 a1 a2 true) else (spenceref04_Bounds.j0 k a0 a1 a2 (decide ((wrap64 (a0 * a2)) ≥ a1))))) else (spenceref04_Bounds.j0 k a0 a1 a2 true))
theorem spenceref04_Bounds.mono_l : ∀ k, (∀ y0 y1 y2 y3, LeO (spenceref04_Bounds.j0 k y0 y1 y2 y3) (spenceref04_Bounds.j0 (k + 1) y0 y1 y2 y3))
  | 0 => fun _ _ _ _ r h => by simp [spenceref04_Bounds.j0] at h
  | k + 1 => by
    have ih0 := spenceref04_Bounds.mono_l k
    · intro y0 y1 y2 y3
      unfold spenceref04_Bounds.j0
      repeat' first
      | (with_reducible exact ih0 _ _ _ _)
      | (with_reducible exact LeO.refl _)
      | (with_reducible exact LeO.none _)
      | (with_reducible refine LeO.ite ?_ ?_)
      | (with_reducible refine LeO.bind ?_ (fun _ => ?_))
      | exact ih0 _ _ _ _
      | exact LeO.none _
      | refine LeO.ite ?_ ?_
      | refine LeO.bind ?_ (fun _ => ?_)
theorem spenceref04_Bounds.mono : ∀ a0 a1 a2 k, LeO (spenceref04_Bounds.f k a0 a1 a2) (spenceref04_Bounds.f (k + 1) a0 a1 a2) := by
  intro a0 a1 a2 k
  have ih0 := spenceref04_Bounds.mono_l k
  unfold spenceref04_Bounds.f
  repeat' first
      | (with_reducible exact ih0 _ _ _ _)
      | (with_reducible exact LeO.refl _)
      | (with_reducible exact LeO.none _)
      | (with_reducible refine LeO.ite ?_ ?_)
      | (with_reducible refine LeO.bind ?_ (fun _ => ?_))
      | exact ih0 _ _ _ _
      | exact LeO.none _
      | refine LeO.ite ?_ ?_
      | refine LeO.bind ?_ (fun _ => ?_)
set_option maxHeartbeats 8000000 in
set_option maxRecDepth 100000 in
theorem spenceref04_Bounds.calls (k : Nat) (a0 : Int) (a1 : Int) (a2 : Int) (r1 : Int) (r2 : Int) (w : World) (h : spenceref04_Bounds.f k a0 a1 a2 = some (r1, r2)) :
    Calls Tryd.prog 52 #[.int .i64 a0, .int .i64 a1, .int .i64 a2] w fun e w' => e = .returned (.agg #[.int .i64 r1, .int .i64 r2]) ∧ Below w.heap.size w w' := by
  have hu53 := Tryd.underlying53
  have HB := Aside0.mk (Below.refl w.heap.size w)
  have H : ((spenceref04_Cuts.f a1 a2).bind fun t368 => (if t368 = true then (if a0 < 0 then (spenceref04_Bounds.j0 k a0 a1 a2 true) else (if a0 > 4096 then (spenceref04_Bounds.j0 k a0 a1 a2 true) else (spenceref04_Bounds.j0 k a0 a1 a2 (decide ((wrap64 (a0 * a2)) ≥ a1))))) else (spenceref04_Bounds.j0 k a0 a1 a2 true))) = some (r1, r2) := h
  clear h
  have HC4 := Aside0.mk H
  clear H
  go_enter Tryd.func52, Tryd.ntmps52
  go_upto_region 1 with (first | ((with_reducible refine gate_dst (N := 6) rfl ?_); refine box_event ?hg (N := 6) ?hd (cs := #[.int .i64 0, .int .i64 0]) (t := 53) ?hr ?_; (case hd => rfl); (case hg => rfl); (case hr => first | (go_simp; done) | (go_simp; rfl)); intro gb367 hg w5 hbox hb; have n0_ := Aside0.mk (below_step (by repeat (first | (with_reducible first | exact HB.out | apply below_alloc | apply pw_below_drewN | apply below_drew1) | exact HB.out)) hb); have n1_ := Aside0.mk (hbox); have n2_ := Aside0.mk ((by rw [hg]; exact (below_size (by repeat (first | (with_reducible first | exact HB.out | apply below_alloc | apply pw_below_drewN | apply below_drew1) | exact HB.out))) : w.heap.size ≤ gb367)); have n3_ := Aside0.mk ((by rw [hg]; exact (below_size (by repeat (first | (with_reducible first | exact HB.out | apply below_alloc | apply pw_below_drewN | apply below_drew1) | exact HB.out))) : w.heap.size ≤ gb367)); clear HB; have HB := n0_; have BK367 := n1_; have GW367 := n2_; have GE367 := n3_; clear n0_ n1_ n2_ n3_; clear hb hbox hg))
  (try simp only [Act.put, List.setIfInBounds_toArray, List.set_cons_zero, List.set_cons_succ])
  go_cut [26] (fun v26 wc => ∃ (kq : Nat) (x26_3 : Bool), v26 = .bool x26_3 ∧ Aside0 (spenceref04_Bounds.j0 kq a0 a1 a2 x26_3 = some (r1, r2)) ∧ Aside0 (kq ≤ k) ∧ Aside0 (wc.heap[gb367]? = some (.cells #[.int .i64 0, .int .i64 0] 53 (0, 0))) ∧ Aside0 (Below w.heap.size w wc))
  case first =>
    have H := HC4.out
    clear HC4
    replace H := Option.bind_eq_some_iff.mp H
    obtain ⟨t368, A60, H⟩ := H
    replace H : (if t368 = true then (if a0 < 0 then (spenceref04_Bounds.j0 k a0 a1 a2 true) else (if a0 > 4096 then (spenceref04_Bounds.j0 k a0 a1 a2 true) else (spenceref04_Bounds.j0 k a0 a1 a2 (decide ((wrap64 (a0 * a2)) ≥ a1))))) else (spenceref04_Bounds.j0 k a0 a1 a2 true)) = some (r1, r2) := H
    have A6 := Aside0.mk A60
    clear A60
    by_cases c7 : t368 = true
    · subst c7
      have H1 : (if a0 < 0 then (spenceref04_Bounds.j0 k a0 a1 a2 true) else (if a0 > 4096 then (spenceref04_Bounds.j0 k a0 a1 a2 true) else (spenceref04_Bounds.j0 k a0 a1 a2 (decide ((wrap64 (a0 * a2)) ≥ a1))))) = some (r1, r2) := by rw [if_pos rfl] at H; exact H
      clear H
      have H := H1
      clear H1
      by_cases c8 : a0 < 0
      · rw [if_pos c8] at H
        have c8b0 : decide (a0 < 0) = true := decide_eq_true c8
        clear c8
        (first | rw [c8b0] | (simp only [i64_w, i32_w]; rw [c8b0]) | skip)
        have H' := Aside0.mk H
        clear H
        go_wp2_with (first | ((with_reducible refine gate_callee (f := 65) rfl ?_); refine goesL_ (some 10) rfl rfl Tryd.func65 (by kernel_rfl) rfl #[.int .i64 a1, .int .i64 a2] rfl (by (try simp only [List.map_toArray, List.map_cons, List.map_nil]); first | done | rfl | (simp only [List.length_drop, List.length_take]; rfl)) ?_; (with_reducible refine (spenceref04_Cuts.calls a1 a2 true _ A6.out).mono ?_); rintro e w' ⟨rfl, ⟨nd, rfl⟩⟩; refine ⟨_, rfl, ?_⟩))
        go_meet
        case rel => exact ⟨_, (true), (by first | rfl | (simp; done) | (simp [*]; done)), H', ⟨by first | omega | exact Nat.le_refl _⟩, ⟨by (with_reducible repeat (first | refine blk_drewN ?_ _ | refine blk_drew ?_ | refine blk_alloc ?_ _)); exact BK367.out⟩, ⟨by repeat (first | (with_reducible first | exact HB.out | apply below_alloc | apply pw_below_drewN | apply below_drew1 | refine below_set ?_ GE367.out) | exact HB.out)⟩⟩
      · rw [if_neg c8] at H
        have c8b0 : decide (a0 < 0) = false := decide_eq_false c8
        clear c8
        (first | rw [c8b0] | (simp only [i64_w, i32_w]; rw [c8b0]) | skip)
        by_cases c9 : a0 > 4096
        · rw [if_pos c9] at H
          have c9b0 : decide (4096 < a0) = true := decide_eq_true c9
          clear c9
          have H' := Aside0.mk H
          clear H
          go_wp2_with (first | ((with_reducible refine gate_callee (f := 65) rfl ?_); refine goesL_ (some 10) rfl rfl Tryd.func65 (by kernel_rfl) rfl #[.int .i64 a1, .int .i64 a2] rfl (by (try simp only [List.map_toArray, List.map_cons, List.map_nil]); first | done | rfl | (simp only [List.length_drop, List.length_take]; rfl)) ?_; (with_reducible refine (spenceref04_Cuts.calls a1 a2 true _ A6.out).mono ?_); rintro e w' ⟨rfl, ⟨nd, rfl⟩⟩; refine ⟨_, rfl, ?_⟩))
          go_meet
          case rel => exact ⟨_, (true), (by first | rfl | (simp; done) | (simp [*]; done)), H', ⟨by first | omega | exact Nat.le_refl _⟩, ⟨by (with_reducible repeat (first | refine blk_drewN ?_ _ | refine blk_drew ?_ | refine blk_alloc ?_ _)); exact BK367.out⟩, ⟨by repeat (first | (with_reducible first | exact HB.out | apply below_alloc | apply pw_below_drewN | apply below_drew1 | refine below_set ?_ GE367.out) | exact HB.out)⟩⟩
        · rw [if_neg c9] at H
          have c9b0 : decide (4096 < a0) = false := decide_eq_false c9
          clear c9
          have H' := Aside0.mk H
          clear H
          go_wp2_with (first | ((with_reducible refine gate_callee (f := 65) rfl ?_); refine goesL_ (some 10) rfl rfl Tryd.func65 (by kernel_rfl) rfl #[.int .i64 a1, .int .i64 a2] rfl (by (try simp only [List.map_toArray, List.map_cons, List.map_nil]); first | done | rfl | (simp only [List.length_drop, List.length_take]; rfl)) ?_; (with_reducible refine (spenceref04_Cuts.calls a1 a2 true _ A6.out).mono ?_); rintro e w' ⟨rfl, ⟨nd, rfl⟩⟩; refine ⟨_, rfl, ?_⟩))
          go_meet
          case rel => exact ⟨_, (decide ((wrap64 (a0 * a2)) ≥ a1)), (by first | rfl | (simp; done) | (simp [*]; done)), H', ⟨by first | omega | exact Nat.le_refl _⟩, ⟨by (with_reducible repeat (first | refine blk_drewN ?_ _ | refine blk_drew ?_ | refine blk_alloc ?_ _)); exact BK367.out⟩, ⟨by repeat (first | (with_reducible first | exact HB.out | apply below_alloc | apply pw_below_drewN | apply below_drew1 | refine below_set ?_ GE367.out) | exact HB.out)⟩⟩
    · replace c7 := Bool.eq_false_iff.mpr c7
      subst c7
      have H1 : (spenceref04_Bounds.j0 k a0 a1 a2 true) = some (r1, r2) := by rw [if_neg (show ¬ (false = true) by decide)] at H; exact H
      clear H
      have H := H1
      clear H1
      have H' := Aside0.mk H
      clear H
      go_wp2_with (first | ((with_reducible refine gate_callee (f := 65) rfl ?_); refine goesL_ (some 10) rfl rfl Tryd.func65 (by kernel_rfl) rfl #[.int .i64 a1, .int .i64 a2] rfl (by (try simp only [List.map_toArray, List.map_cons, List.map_nil]); first | done | rfl | (simp only [List.length_drop, List.length_take]; rfl)) ?_; (with_reducible refine (spenceref04_Cuts.calls a1 a2 false _ A6.out).mono ?_); rintro e w' ⟨rfl, ⟨nd, rfl⟩⟩; refine ⟨_, rfl, ?_⟩))
      go_meet
      case rel => exact ⟨_, (true), (by first | rfl | (simp; done) | (simp [*]; done)), H', ⟨by first | omega | exact Nat.le_refl _⟩, ⟨by (with_reducible repeat (first | refine blk_drewN ?_ _ | refine blk_drew ?_ | refine blk_alloc ?_ _)); exact BK367.out⟩, ⟨by repeat (first | (with_reducible first | exact HB.out | apply below_alloc | apply pw_below_drewN | apply below_drew1 | refine below_set ?_ GE367.out) | exact HB.out)⟩⟩
  case rest =>
    clear HC4
    try clear p2
    try clear c5
    try clear c6
    try clear p6
    try clear c7
    try clear c8
    try clear c8b0
    try clear c9
    try clear c9b0
    obtain ⟨kq, x26_3, rfl, HA, HJ3, BK367, HB⟩ := hcut
    cases kq with
    | zero => exact absurd HA.out (by simp [spenceref04_Bounds.j0])
    | succ kj3 =>
      have H := HA.out
      clear HA
      simp only [spenceref04_Bounds.j0] at H
      by_cases c10 : x26_3 = true
      · subst c10
        have H1 : (some (0, 0)) = some (r1, r2) := by rw [if_pos rfl] at H; exact H
        clear H
        have H := H1
        clear H1
        simp only [Option.some.injEq, Prod.mk.injEq] at H
        obtain ⟨rfl, rfl⟩ := H
        have hcz11_0 : wc.cell? ⟨gb367, 0, none⟩ = some (.int .i64 0) := (blk_cell BK367.out 0).trans rfl
        have hcz11_1 : wc.cell? ⟨gb367, 1, none⟩ = some (.int .i64 0) := (blk_cell BK367.out 1).trans rfl
        have hfz11_0 := blk_frozen BK367.out 0
        have hfz11_1 := blk_frozen BK367.out 1
        go_wp2
        refine bodyPost_ret (results_cell_row rfl _ _ gb367 53 #[.int .i64 0, .int .i64 0] (0, 0) _ rfl (by (with_reducible repeat (first | refine blk_drewN ?_ _ | refine blk_drew ?_ | refine blk_alloc ?_ _)); refine blk_put (cs := #[.int .i64 0, .int .i64 0]) ?_ 1 _ rfl; (with_reducible repeat (first | refine blk_drewN ?_ _ | refine blk_drew ?_ | refine blk_alloc ?_ _)); refine blk_put (cs := #[.int .i64 0, .int .i64 0]) ?_ 0 _ rfl; (with_reducible repeat (first | refine blk_drewN ?_ _ | refine blk_drew ?_ | refine blk_alloc ?_ _)); exact BK367.out) Tryd.underlying53 rfl (by kernel_rfl)) rfl ?_
        exact ⟨by first | rfl | exact ne_empty _ | exact eq_empty _ | (simp [errW_none, errW_some] <;> rfl) | (simp [*, errW_none, errW_some] <;> rfl), by repeat (first | (with_reducible first | exact HB.out | apply below_alloc | apply pw_below_drewN | apply below_drew1 | refine below_set ?_ GE367.out) | exact HB.out)⟩
      · replace c10 := Bool.eq_false_iff.mpr c10
        subst c10
        have H1 : (if (wrap64 ((wrap64 (a0 * a2)) + a2)) > a1 then (some (wrap64 (a0 * a2), a1)) else (some (wrap64 (a0 * a2), wrap64 ((wrap64 (a0 * a2)) + a2)))) = some (r1, r2) := by rw [if_neg (show ¬ (false = true) by decide)] at H; exact H
        clear H
        have H := H1
        clear H1
        by_cases c12 : (wrap64 ((wrap64 (a0 * a2)) + a2)) > a1
        · rw [if_pos c12] at H
          have c12b0 : decide (a1 < (wrap64 ((wrap64 (a0 * a2)) + a2))) = true := decide_eq_true c12
          clear c12
          simp only [Option.some.injEq, Prod.mk.injEq] at H
          obtain ⟨rfl, rfl⟩ := H
          go_wp2_with (first | ((with_reducible refine gate_dst (N := 7) rfl ?_); refine box_event ?hg (N := 7) ?hd (cs := #[.int .i64 0, .int .i64 0]) (t := 53) ?hr ?_; (case hd => rfl); (case hg => rfl); (case hr => first | (go_simp; done) | (go_simp; rfl)); intro gb369 hg w13 hbox hb; have n0_ := Aside0.mk (blk_below (g := gb367) (o := .cells #[.int .i64 0, .int .i64 0] 53 (0, 0)) (by (with_reducible repeat (first | refine blk_drewN ?_ _ | refine blk_drew ?_ | refine blk_alloc ?_ _)); exact BK367.out) hb); have n1_ := Aside0.mk (below_step (by repeat (first | (with_reducible first | exact HB.out | apply below_alloc | apply pw_below_drewN | apply below_drew1 | refine below_set ?_ GE367.out) | exact HB.out)) hb); have n2_ := Aside0.mk (hbox); have n3_ := Aside0.mk ((by rw [hg]; exact (below_size (by repeat (first | (with_reducible first | exact HB.out | apply below_alloc | apply pw_below_drewN | apply below_drew1 | refine below_set ?_ GE367.out) | exact HB.out))) : w.heap.size ≤ gb369)); have n4_ := Aside0.mk ((by rw [hg]; exact (below_size (by repeat (first | (with_reducible first | exact HB.out | apply below_alloc | apply pw_below_drewN | apply below_drew1 | refine below_set ?_ GE367.out) | exact HB.out))) : w.heap.size ≤ gb369)); have n5_ := Aside0.mk ((by rw [hg]; exact Nat.ne_of_lt (blk_lt (g := gb367) (o := .cells #[.int .i64 0, .int .i64 0] 53 (0, 0)) (by (with_reducible repeat (first | refine blk_drewN ?_ _ | refine blk_drew ?_ | refine blk_alloc ?_ _)); exact BK367.out)) : gb367 ≠ gb369)); have n6_ := Aside0.mk ((by rw [hg]; exact Nat.ne_of_gt (blk_lt (g := gb367) (o := .cells #[.int .i64 0, .int .i64 0] 53 (0, 0)) (by (with_reducible repeat (first | refine blk_drewN ?_ _ | refine blk_drew ?_ | refine blk_alloc ?_ _)); exact BK367.out)) : gb369 ≠ gb367)); clear BK367; clear HB; have BK367 := n0_; have HB := n1_; have BK369 := n2_; have GW369 := n3_; have GE369 := n4_; have NB367_369 := n5_; have NB369_367 := n6_; clear n0_ n1_ n2_ n3_ n4_ n5_ n6_; clear hb hbox hg; have hnb14 := NB369_367.out; have hnc14 := NB367_369.out; have hcz15_0 : w13.cell? ⟨gb369, 0, none⟩ = some (.int .i64 0) := (blk_cell BK369.out 0).trans rfl; have hcz15_1 : w13.cell? ⟨gb369, 1, none⟩ = some (.int .i64 0) := (blk_cell BK369.out 1).trans rfl; have hfz15_0 := blk_frozen BK369.out 0; have hfz15_1 := blk_frozen BK369.out 1; have hcz16_0 : w13.cell? ⟨gb367, 0, none⟩ = some (.int .i64 0) := (blk_cell BK367.out 0).trans rfl; have hcz16_1 : w13.cell? ⟨gb367, 1, none⟩ = some (.int .i64 0) := (blk_cell BK367.out 1).trans rfl; have hfz16_0 := blk_frozen BK367.out 0; have hfz16_1 := blk_frozen BK367.out 1))
          refine bodyPost_ret (results_cell_row rfl _ _ gb367 53 #[.int .i64 (wrap64 (a0 * a2)), .int .i64 a1] (0, 0) _ rfl (by (with_reducible repeat (first | refine blk_drewN ?_ _ | refine blk_drew ?_ | refine blk_alloc ?_ _)); refine blk_put (cs := #[.int .i64 (wrap64 (a0 * a2)), .int .i64 0]) ?_ 1 _ rfl; (with_reducible repeat (first | refine blk_drewN ?_ _ | refine blk_drew ?_ | refine blk_alloc ?_ _)); refine blk_put (cs := #[.int .i64 0, .int .i64 0]) ?_ 0 _ rfl; (with_reducible repeat (first | refine blk_drewN ?_ _ | refine blk_drew ?_ | refine blk_alloc ?_ _)); refine blk_far ?_ NB367_369.out _; (with_reducible repeat (first | refine blk_drewN ?_ _ | refine blk_drew ?_ | refine blk_alloc ?_ _)); refine blk_far ?_ NB367_369.out _; (with_reducible repeat (first | refine blk_drewN ?_ _ | refine blk_drew ?_ | refine blk_alloc ?_ _)); refine blk_far ?_ NB367_369.out _; (with_reducible repeat (first | refine blk_drewN ?_ _ | refine blk_drew ?_ | refine blk_alloc ?_ _)); exact BK367.out) Tryd.underlying53 rfl (by kernel_rfl)) rfl ?_
          exact ⟨by first | rfl | exact ne_empty _ | exact eq_empty _ | (simp [errW_none, errW_some] <;> rfl) | (simp [*, errW_none, errW_some] <;> rfl), by repeat (first | (with_reducible first | exact HB.out | apply below_alloc | apply pw_below_drewN | apply below_drew1 | refine below_set ?_ GE367.out | refine below_set ?_ GE369.out) | exact HB.out)⟩
        · rw [if_neg c12] at H
          have c12b0 : decide (a1 < (wrap64 ((wrap64 (a0 * a2)) + a2))) = false := decide_eq_false c12
          clear c12
          simp only [Option.some.injEq, Prod.mk.injEq] at H
          obtain ⟨rfl, rfl⟩ := H
          go_wp2_with (first | ((with_reducible refine gate_dst (N := 7) rfl ?_); refine box_event ?hg (N := 7) ?hd (cs := #[.int .i64 0, .int .i64 0]) (t := 53) ?hr ?_; (case hd => rfl); (case hg => rfl); (case hr => first | (go_simp; done) | (go_simp; rfl)); intro gb369 hg w17 hbox hb; have n0_ := Aside0.mk (blk_below (g := gb367) (o := .cells #[.int .i64 0, .int .i64 0] 53 (0, 0)) (by (with_reducible repeat (first | refine blk_drewN ?_ _ | refine blk_drew ?_ | refine blk_alloc ?_ _)); exact BK367.out) hb); have n1_ := Aside0.mk (below_step (by repeat (first | (with_reducible first | exact HB.out | apply below_alloc | apply pw_below_drewN | apply below_drew1 | refine below_set ?_ GE367.out) | exact HB.out)) hb); have n2_ := Aside0.mk (hbox); have n3_ := Aside0.mk ((by rw [hg]; exact (below_size (by repeat (first | (with_reducible first | exact HB.out | apply below_alloc | apply pw_below_drewN | apply below_drew1 | refine below_set ?_ GE367.out) | exact HB.out))) : w.heap.size ≤ gb369)); have n4_ := Aside0.mk ((by rw [hg]; exact (below_size (by repeat (first | (with_reducible first | exact HB.out | apply below_alloc | apply pw_below_drewN | apply below_drew1 | refine below_set ?_ GE367.out) | exact HB.out))) : w.heap.size ≤ gb369)); have n5_ := Aside0.mk ((by rw [hg]; exact Nat.ne_of_lt (blk_lt (g := gb367) (o := .cells #[.int .i64 0, .int .i64 0] 53 (0, 0)) (by (with_reducible repeat (first | refine blk_drewN ?_ _ | refine blk_drew ?_ | refine blk_alloc ?_ _)); exact BK367.out)) : gb367 ≠ gb369)); have n6_ := Aside0.mk ((by rw [hg]; exact Nat.ne_of_gt (blk_lt (g := gb367) (o := .cells #[.int .i64 0, .int .i64 0] 53 (0, 0)) (by (with_reducible repeat (first | refine blk_drewN ?_ _ | refine blk_drew ?_ | refine blk_alloc ?_ _)); exact BK367.out)) : gb369 ≠ gb367)); clear BK367; clear HB; have BK367 := n0_; have HB := n1_; have BK369 := n2_; have GW369 := n3_; have GE369 := n4_; have NB367_369 := n5_; have NB369_367 := n6_; clear n0_ n1_ n2_ n3_ n4_ n5_ n6_; clear hb hbox hg; have hnb18 := NB369_367.out; have hnc18 := NB367_369.out; have hcz19_0 : w17.cell? ⟨gb369, 0, none⟩ = some (.int .i64 0) := (blk_cell BK369.out 0).trans rfl; have hcz19_1 : w17.cell? ⟨gb369, 1, none⟩ = some (.int .i64 0) := (blk_cell BK369.out 1).trans rfl; have hfz19_0 := blk_frozen BK369.out 0; have hfz19_1 := blk_frozen BK369.out 1; have hcz20_0 : w17.cell? ⟨gb367, 0, none⟩ = some (.int .i64 0) := (blk_cell BK367.out 0).trans rfl; have hcz20_1 : w17.cell? ⟨gb367, 1, none⟩ = some (.int .i64 0) := (blk_cell BK367.out 1).trans rfl; have hfz20_0 := blk_frozen BK367.out 0; have hfz20_1 := blk_frozen BK367.out 1))
          refine bodyPost_ret (results_cell_row rfl _ _ gb367 53 #[.int .i64 (wrap64 (a0 * a2)), .int .i64 (wrap64 ((wrap64 (a0 * a2)) + a2))] (0, 0) _ rfl (by (with_reducible repeat (first | refine blk_drewN ?_ _ | refine blk_drew ?_ | refine blk_alloc ?_ _)); refine blk_put (cs := #[.int .i64 (wrap64 (a0 * a2)), .int .i64 0]) ?_ 1 _ rfl; (with_reducible repeat (first | refine blk_drewN ?_ _ | refine blk_drew ?_ | refine blk_alloc ?_ _)); refine blk_put (cs := #[.int .i64 0, .int .i64 0]) ?_ 0 _ rfl; (with_reducible repeat (first | refine blk_drewN ?_ _ | refine blk_drew ?_ | refine blk_alloc ?_ _)); refine blk_far ?_ NB367_369.out _; (with_reducible repeat (first | refine blk_drewN ?_ _ | refine blk_drew ?_ | refine blk_alloc ?_ _)); refine blk_far ?_ NB367_369.out _; (with_reducible repeat (first | refine blk_drewN ?_ _ | refine blk_drew ?_ | refine blk_alloc ?_ _)); exact BK367.out) Tryd.underlying53 rfl (by kernel_rfl)) rfl ?_
          exact ⟨by first | rfl | exact ne_empty _ | exact eq_empty _ | (simp [errW_none, errW_some] <;> rfl) | (simp [*, errW_none, errW_some] <;> rfl), by repeat (first | (with_reducible first | exact HB.out | apply below_alloc | apply pw_below_drewN | apply below_drew1 | refine below_set ?_ GE367.out | refine below_set ?_ GE369.out) | exact HB.out)⟩
end Go.Proofs.YtcnlmpjoghogbaaDoor.PAll
namespace Go.Proofs.YtcnlmpjoghogbaaDoor.Ag
open Go Go.RowKit Go.Shelf Go.Proofs Go.Proofs.YtcnlmpjoghogbaaDoor.Xw Go.Proofs.YtcnlmpjoghogbaaDoor.PAll Go.Proofs.YtcnlmpjoghogbaaDoorW.PrintWords Go.Proofs.YtcnlmpjoghogbaaDoorW.PrintLast Go.Proofs.YtcnlmpjoghogbaaDoorW.PrintMore
attribute [local go_sem] Oper.semAt_some
theorem alloc_abs {w X : World} (h : Below w.heap.size w X) (o : Obj) : ∃ g Y, X.heap.size = g ∧ X.alloc o = Y ∧ Y.heap[g]? = some o ∧ Below w.heap.size w Y ∧ w.heap.size ≤ g ∧ ∀ i o', X.heap[i]? = some o' → Y.heap[i]? = some o' ∧ i ≠ g :=
  ⟨_, _, rfl, rfl, blk_new X o, below_step h (below_alloc (Below.refl _ _) o), h.size, fun _ _ hi => ⟨blk_alloc hi o, Nat.ne_of_lt (blk_lt hi)⟩⟩
set_option linter.unusedSimpArgs false in
set_option linter.unusedVariables false in
set_option maxRecDepth 100000 in
set_option maxHeartbeats 8000000 in
theorem bytes_calls (a0 a1 : Int) (c : Bool) (n s b1 x1 x2 y1 y2 : Int) (hb1 : wrap64 (a1 - 1) = b1) (hlt : ¬ a0 ≥ a1) (r1 r2 : Int) (hr : (if x2 = 0 ∨ y2 = 0 then ((0 : Int), (0 : Int)) else (x1, y2)) = (r1, r2))
    (hA : ∀ X, Calls Tryd.prog 52 #[.int .i64 a0, .int .i64 n, .int .i64 s] X fun e X' => e = .returned (.agg #[.int .i64 x1, .int .i64 x2]) ∧ Below X.heap.size X X')
    (hB : ∀ X, Calls Tryd.prog 52 #[.int .i64 b1, .int .i64 n, .int .i64 s] X fun e X' => e = .returned (.agg #[.int .i64 y1, .int .i64 y2]) ∧ Below X.heap.size X X') (w : World) :
    Calls Tryd.prog 35 #[.agg #[.int .i64 a0, .int .i64 a1, .bool c], .int .i64 n, .int .i64 s] w fun e w' => e = .returned (.agg #[.int .i64 r1, .int .i64 r2]) ∧ Below w.heap.size w w' := by
  have HR := Aside0.mk hr
  clear hr
  have CA := Aside0.mk hA
  have CB := Aside0.mk hB
  clear hA hB
  have hbw : IntKind.i64.wrap (a1 - 1) = b1 := (i64_w _).trans hb1
  clear hb1
  have d0 : decide (a0 ≥ a1) = false := decide_eq_false hlt
  have d0' : decide (a1 ≤ a0) = false := decide_eq_false hlt
  clear hlt
  go_enter Tryd.func35, Tryd.ntmps35
  have KP := blk_alloc (blk_new w (.cells #[.int .i64 a0, .int .i64 a1, .bool c] 50 (0, 0))) (.cells #[.int .i64 0, .int .i64 0] 53 (0, 0))
  have KR := blk_new (w.alloc (.cells #[.int .i64 a0, .int .i64 a1, .bool c] 50 (0, 0))) (.cells #[.int .i64 0, .int .i64 0] 53 (0, 0))
  rw [alloc_size] at KR
  have HB := below_alloc (below_alloc (Below.refl w.heap.size w) (.cells #[.int .i64 a0, .int .i64 a1, .bool c] 50 (0, 0))) (.cells #[.int .i64 0, .int .i64 0] 53 (0, 0))
  replace KP := Aside0.mk KP
  replace KR := Aside0.mk KR
  replace HB := Aside0.mk HB
  go_wp2_with (fail)
  obtain ⟨wA, hwA⟩ : ∃ x, (w.alloc (.cells #[.int .i64 a0, .int .i64 a1, .bool c] 50 (0, 0))).alloc (.cells #[.int .i64 0, .int .i64 0] 53 (0, 0)) = x := ⟨_, rfl⟩
  rw [hwA] at KP KR HB ⊢
  clear hwA
  rename_i Kz hKz
  replace hKz := Aside0.mk hKz
  have hS0 : ∀ X, Below wA.heap.size wA X → X.cell? ⟨w.heap.size, 0, none⟩ = some (.int .i64 a0) := fun X h => (blk_cell (blk_below KP.out h) 0).trans rfl
  have hS1 : ∀ X, Below wA.heap.size wA X → X.cell? ⟨w.heap.size, 1, none⟩ = some (.int .i64 a1) := fun X h => (blk_cell (blk_below KP.out h) 1).trans rfl
  have hX : Below wA.heap.size wA wA := Below.refl _ _
  refine wp_region_noPanic ?_
  refine wp_region_held_drew (S := fun X => Below wA.heap.size wA X) (by kernel_rfl) (below_drew hX) (fun hHeld => ?_)
  replace hX := Aside0.mk (below_drew hX)
  refine wpAnyH_take (i := 0) (oi := { dst := some 15, op := Go.Op.fieldAddr 50 (Go.Operand.tmp 3) 0, type := 0, pos := "law.go:24", after := #[], guard := none }) (v := ?_) rfl (by kernel_rfl) (by kernel_rfl) (by kernel_rfl) (fun _ _ _ h => h) (Or.inl ⟨by kernel_rfl, ?_⟩) (by assumption) ?_
  rotate_left
  · intro W hSw; go_simp; first | done | with_reducible rfl
  try simp only [Act.put, List.setIfInBounds_toArray, List.set_cons_zero, List.set_cons_succ]
  refine wpAnyH_take (i := 1) (oi := { dst := some 16, op := Go.Op.load 3 (Go.Operand.tmp 15), type := 3, pos := "law.go:24", after := #[{ on := 0, ground := Go.Ground.data }], guard := none }) (v := ?_) rfl (by kernel_rfl) (by kernel_rfl) (by kernel_rfl) (fun _ _ _ h => h) (Or.inl ⟨by kernel_rfl, ?_⟩) (by assumption) ?_
  rotate_left
  · intro W hSw; go_simp; first | done | with_reducible rfl
  try simp only [Act.put, List.setIfInBounds_toArray, List.set_cons_zero, List.set_cons_succ]
  refine wpAnyH_take (i := 2) (oi := { dst := some 17, op := Go.Op.move (Go.Operand.tmp 1), type := 3, pos := "law.go:24", after := #[], guard := none }) (v := ?_) rfl (by kernel_rfl) (by kernel_rfl) (by kernel_rfl) (fun _ _ _ h => h) (Or.inl ⟨by kernel_rfl, ?_⟩) (by assumption) ?_
  rotate_left
  · intro W hSw; go_simp; first | done | with_reducible rfl
  try simp only [Act.put, List.setIfInBounds_toArray, List.set_cons_zero, List.set_cons_succ]
  refine wpAnyH_take (i := 3) (oi := { dst := some 18, op := Go.Op.move (Go.Operand.tmp 2), type := 3, pos := "law.go:24", after := #[], guard := none }) (v := ?_) rfl (by kernel_rfl) (by kernel_rfl) (by kernel_rfl) (fun _ _ _ h => h) (Or.inl ⟨by kernel_rfl, ?_⟩) (by assumption) ?_
  rotate_left
  · intro W hSw; go_simp; first | done | with_reducible rfl
  try simp only [Act.put, List.setIfInBounds_toArray, List.set_cons_zero, List.set_cons_succ]
  refine wpAnyH_take (i := 5) (oi := { dst := some 20, op := Go.Op.fieldAddr 50 (Go.Operand.tmp 3) 1, type := 0, pos := "law.go:24", after := #[], guard := none }) (v := ?_) rfl (by kernel_rfl) (by kernel_rfl) (by kernel_rfl) (fun _ _ _ h => h) (Or.inl ⟨by kernel_rfl, ?_⟩) (by assumption) ?_
  rotate_left
  · intro W hSw; go_simp; first | done | with_reducible rfl
  try simp only [Act.put, List.setIfInBounds_toArray, List.set_cons_zero, List.set_cons_succ]
  refine wpAnyH_take (i := 6) (oi := { dst := some 21, op := Go.Op.load 3 (Go.Operand.tmp 20), type := 3, pos := "law.go:24", after := #[{ on := 5, ground := Go.Ground.data }], guard := none }) (v := ?_) rfl (by kernel_rfl) (by kernel_rfl) (by kernel_rfl) (fun _ _ _ h => h) (Or.inl ⟨by kernel_rfl, ?_⟩) (by assumption) ?_
  rotate_left
  · intro W hSw; go_simp; first | done | with_reducible rfl
  try simp only [Act.put, List.setIfInBounds_toArray, List.set_cons_zero, List.set_cons_succ]
  refine wpAnyH_take (i := 7) (oi := { dst := some 22, op := Go.Op.binOp Go.BinOp.sub 3 (Go.Operand.tmp 21) (Go.Operand.const (Go.Value.int Go.IntKind.i64 1)) 3, type := 3, pos := "law.go:24", after := #[{ on := 6, ground := Go.Ground.data }], guard := none }) (v := ?_) rfl (by kernel_rfl) (by kernel_rfl) (by kernel_rfl) (fun _ _ _ h => h) (Or.inl ⟨by kernel_rfl, ?_⟩) (by assumption) ?_
  rotate_left
  · intro W hSw; go_simp; first | done | with_reducible rfl
  try simp only [Act.put, List.setIfInBounds_toArray, List.set_cons_zero, List.set_cons_succ]
  refine wpAnyH_take (i := 8) (oi := { dst := some 23, op := Go.Op.move (Go.Operand.tmp 1), type := 3, pos := "law.go:24", after := #[], guard := none }) (v := ?_) rfl (by kernel_rfl) (by kernel_rfl) (by kernel_rfl) (fun _ _ _ h => h) (Or.inl ⟨by kernel_rfl, ?_⟩) (by assumption) ?_
  rotate_left
  · intro W hSw; go_simp; first | done | with_reducible rfl
  try simp only [Act.put, List.setIfInBounds_toArray, List.set_cons_zero, List.set_cons_succ]
  refine wpAnyH_take (i := 9) (oi := { dst := some 24, op := Go.Op.move (Go.Operand.tmp 2), type := 3, pos := "law.go:24", after := #[], guard := none }) (v := ?_) rfl (by kernel_rfl) (by kernel_rfl) (by kernel_rfl) (fun _ _ _ h => h) (Or.inl ⟨by kernel_rfl, ?_⟩) (by assumption) ?_
  rotate_left
  · intro W hSw; go_simp; first | done | with_reducible rfl
  try simp only [Act.put, List.setIfInBounds_toArray, List.set_cons_zero, List.set_cons_succ]
  refine wpAnyH_ready (rs := [4, 11, 12]) (by kernel_rfl) (by simp) ?_
  refine AllReadyH.cons (o := { dst := some 19, op := Go.Op.call { callee := Go.Callee.value (Go.Operand.func 52), args := #[Go.Operand.tmp 16, Go.Operand.tmp 17, Go.Operand.tmp 18], argTypes := #[3, 3, 3] }, type := 53, pos := "law.go:24", after := #[{ on := 1, ground := Go.Ground.data }, { on := 2, ground := Go.Ground.data }, { on := 3, ground := Go.Ground.data }], guard := none }) rfl (fun K hK => ?_) (AllReadyH.cons (o := { dst := some 7, op := Go.Op.alloc 53, type := 0, pos := "law.go:24", after := #[], guard := none }) rfl (fun K hK => ?_) (AllReadyH.cons (o := { dst := some 8, op := Go.Op.alloc 53, type := 0, pos := "law.go:24", after := #[], guard := none }) rfl (fun K hK => ?_) AllReadyH.nil))
  · refine goes_ (N := some 19) («as» := #[.tmp 16, .tmp 17, .tmp 18]) Tryd.func52 (by kernel_rfl) rfl #[.int .i64 a0, .int .i64 n, .int .i64 s] (by kernel_rfl) rfl rfl (by kernel_rfl) ?_
    with_reducible refine (CA.out _).mono ?_
    rintro e X ⟨rfl, hb⟩
    refine ⟨_, rfl, ?_⟩
    (try replace G7 := Aside0.mk (blk_below G7.out hb))
    (try replace G8 := Aside0.mk (blk_below G8.out hb))
    replace hX := Aside0.mk (below_step hX.out hb)
    clear hb
    refine hK.out _ _ ?_ (fun hHeld => ?_)
    · exact hX.out
    clear hK K
    try simp only [Act.put, List.setIfInBounds_toArray, List.set_cons_zero, List.set_cons_succ]
    refine wpAnyH_ready (rs := [10, 11, 12]) (by kernel_rfl) (by simp) ?_
    refine AllReadyH.cons (o := { dst := some 25, op := Go.Op.call { callee := Go.Callee.value (Go.Operand.func 52), args := #[Go.Operand.tmp 22, Go.Operand.tmp 23, Go.Operand.tmp 24], argTypes := #[3, 3, 3] }, type := 53, pos := "law.go:24", after := #[{ on := 7, ground := Go.Ground.data }, { on := 8, ground := Go.Ground.data }, { on := 9, ground := Go.Ground.data }, { on := 4, ground := Go.Ground.chain }], guard := none }) rfl (fun K hK => ?_) (AllReadyH.cons (o := { dst := some 7, op := Go.Op.alloc 53, type := 0, pos := "law.go:24", after := #[], guard := none }) rfl (fun K hK => ?_) (AllReadyH.cons (o := { dst := some 8, op := Go.Op.alloc 53, type := 0, pos := "law.go:24", after := #[], guard := none }) rfl (fun K hK => ?_) AllReadyH.nil))
    · refine goes_ (N := some 25) («as» := #[.tmp 22, .tmp 23, .tmp 24]) Tryd.func52 (by kernel_rfl) rfl #[.int .i64 b1, .int .i64 n, .int .i64 s] (by kernel_rfl) rfl rfl (by kernel_rfl) ?_
      with_reducible refine (CB.out _).mono ?_
      rintro e X ⟨rfl, hb⟩
      refine ⟨_, rfl, ?_⟩
      (try replace G7 := Aside0.mk (blk_below G7.out hb))
      (try replace G8 := Aside0.mk (blk_below G8.out hb))
      replace hX := Aside0.mk (below_step hX.out hb)
      clear hb
      refine hK.out _ _ ?_ (fun hHeld => ?_)
      · exact hX.out
      clear hK K
      try simp only [Act.put, List.setIfInBounds_toArray, List.set_cons_zero, List.set_cons_succ]
      refine wpAnyH_ready (rs := [11, 12]) (by kernel_rfl) (by simp) ?_
      refine AllReadyH.cons (o := { dst := some 7, op := Go.Op.alloc 53, type := 0, pos := "law.go:24", after := #[], guard := none }) rfl (fun K hK => ?_) (AllReadyH.cons (o := { dst := some 8, op := Go.Op.alloc 53, type := 0, pos := "law.go:24", after := #[], guard := none }) rfl (fun K hK => ?_) AllReadyH.nil)
      · obtain ⟨g7, Y, e_, eY, hG, hB, hge7, hold⟩ := alloc_abs hX.out (.cells #[.int .i64 0, .int .i64 0] 53 (0, 0))
        go_simp
        (try simp only [e_, eY])
        (try have N8 := Aside0.mk (hold _ _ G8.out).2)
        (try replace G8 := Aside0.mk (hold _ _ G8.out).1)
        replace hX := Aside0.mk hB
        have G7 := Aside0.mk hG
        replace hge7 := Aside0.mk hge7
        clear hold hG hB e_ eY
        refine hK.out _ _ ?_ (fun hHeld => ?_)
        · exact hX.out
        clear hK K
        try simp only [Act.put, List.setIfInBounds_toArray, List.set_cons_zero, List.set_cons_succ]
        refine wpAnyH_ready (rs := [12]) (by kernel_rfl) (by simp) ?_
        refine AllReadyH.cons (o := { dst := some 8, op := Go.Op.alloc 53, type := 0, pos := "law.go:24", after := #[], guard := none }) rfl (fun K hK => ?_) AllReadyH.nil
        obtain ⟨g8, Y, e_, eY, hG, hB, hge8, hold⟩ := alloc_abs hX.out (.cells #[.int .i64 0, .int .i64 0] 53 (0, 0))
        go_simp
        (try simp only [e_, eY])
        (try have N7 := Aside0.mk (hold _ _ G7.out).2)
        (try replace G7 := Aside0.mk (hold _ _ G7.out).1)
        replace hX := Aside0.mk hB
        have G8 := Aside0.mk hG
        replace hge8 := Aside0.mk hge8
        clear hold hG hB e_ eY
        refine hK.out _ _ ?_ (fun hHeld => ?_)
        · exact hX.out
        clear hK K
        try simp only [Act.put, List.setIfInBounds_toArray, List.set_cons_zero, List.set_cons_succ]
        refine wpAnyH_ready (rs := [13]) (by kernel_rfl) (by simp) ?_
        refine AllReadyH.cons (o := { dst := none, op := Go.Op.store 53 (Go.Operand.tmp 7) (Go.Operand.tmp 19), type := 0, pos := "law.go:24", after := #[{ on := 11, ground := Go.Ground.data }, { on := 4, ground := Go.Ground.data }, { on := 10, ground := Go.Ground.chain }, { on := 0, ground := Go.Ground.phase }, { on := 1, ground := Go.Ground.phase }, { on := 2, ground := Go.Ground.phase }, { on := 3, ground := Go.Ground.phase }, { on := 4, ground := Go.Ground.phase }, { on := 5, ground := Go.Ground.textOnly Go.Departure.lateStores }, { on := 6, ground := Go.Ground.textOnly Go.Departure.lateStores }, { on := 7, ground := Go.Ground.textOnly Go.Departure.lateStores }, { on := 8, ground := Go.Ground.textOnly Go.Departure.lateStores }, { on := 9, ground := Go.Ground.textOnly Go.Departure.lateStores }, { on := 10, ground := Go.Ground.textOnly Go.Departure.lateStoresUnsure }, { on := 11, ground := Go.Ground.phase }, { on := 12, ground := Go.Ground.phase }], guard := none }) rfl (fun K hK => ?_) AllReadyH.nil
        (first | have N78 := Aside0.mk N7.out | have N78 := Aside0.mk N8.out.symm)
        have N87 := Aside0.mk N78.out.symm
        have hq0 := (blk_cell G7.out 0).trans rfl
        have hq1 := (blk_cell G7.out 1).trans rfl
        have hf0 := blk_frozen G7.out 0
        have hf1 := blk_frozen G7.out 1
        simp only [List.getElem?_toArray, List.getElem?_cons_zero, List.getElem?_cons_succ] at hq0 hq1
        go_simp
        replace G8 := Aside0.mk (blk_far (p := ⟨g7, 1, none⟩) (blk_far (p := ⟨g7, 0, none⟩) G8.out N87.out (.int .i64 x1)) N87.out (.int .i64 x2))
        replace G7 := Aside0.mk (blk_set (blk_set G7.out 0 (.int .i64 x1)) 1 (.int .i64 x2))
        replace hX := Aside0.mk ((hX.out.setCell (p := ⟨g7, 0, none⟩) hge7.out (.int .i64 x1)).setCell (p := ⟨g7, 1, none⟩) hge7.out (.int .i64 x2))
        clear hq0 hq1 hf0 hf1
        refine hK.out _ _ ?_ (fun hHeld => ?_)
        · exact hX.out
        clear hK K
        try simp only [Act.put, List.setIfInBounds_toArray, List.set_cons_zero, List.set_cons_succ]
        refine wpAnyH_ready (rs := [14]) (by kernel_rfl) (by simp) ?_
        refine AllReadyH.cons (o := { dst := none, op := Go.Op.store 53 (Go.Operand.tmp 8) (Go.Operand.tmp 25), type := 0, pos := "law.go:24", after := #[{ on := 12, ground := Go.Ground.data }, { on := 10, ground := Go.Ground.data }, { on := 13, ground := Go.Ground.chain }, { on := 0, ground := Go.Ground.phase }, { on := 1, ground := Go.Ground.phase }, { on := 2, ground := Go.Ground.phase }, { on := 3, ground := Go.Ground.phase }, { on := 4, ground := Go.Ground.phase }, { on := 5, ground := Go.Ground.phase }, { on := 6, ground := Go.Ground.phase }, { on := 7, ground := Go.Ground.phase }, { on := 8, ground := Go.Ground.phase }, { on := 9, ground := Go.Ground.phase }, { on := 10, ground := Go.Ground.phase }, { on := 11, ground := Go.Ground.phase }, { on := 12, ground := Go.Ground.phase }, { on := 13, ground := Go.Ground.phase }], guard := none }) rfl (fun K hK => ?_) AllReadyH.nil
        have hq0 := (blk_cell G8.out 0).trans rfl
        have hq1 := (blk_cell G8.out 1).trans rfl
        have hf0 := blk_frozen G8.out 0
        have hf1 := blk_frozen G8.out 1
        simp only [List.getElem?_toArray, List.getElem?_cons_zero, List.getElem?_cons_succ] at hq0 hq1
        go_simp
        replace G7 := Aside0.mk (blk_far (p := ⟨g8, 1, none⟩) (blk_far (p := ⟨g8, 0, none⟩) G7.out N78.out (.int .i64 y1)) N78.out (.int .i64 y2))
        replace G8 := Aside0.mk (blk_set (blk_set G8.out 0 (.int .i64 y1)) 1 (.int .i64 y2))
        replace hX := Aside0.mk ((hX.out.setCell (p := ⟨g8, 0, none⟩) hge8.out (.int .i64 y1)).setCell (p := ⟨g8, 1, none⟩) hge8.out (.int .i64 y2))
        clear hq0 hq1 hf0 hf1
        refine hK.out _ _ ?_ (fun hHeld => ?_)
        · exact hX.out
        clear hK K
        try simp only [Act.put, List.setIfInBounds_toArray, List.set_cons_zero, List.set_cons_succ]
        refine wpAnyH_done (by kernel_rfl) ?_ _
        try simp only [Act.put, List.setIfInBounds_toArray, List.set_cons_zero, List.set_cons_succ, List.getElem_toArray, List.getElem_cons_zero, List.getElem_cons_succ]
        refine NoPanic.normal ?_
        (try dsimp only [Exit.then])
        refine hKz.out _ _ ?_
        clear hHeld
        generalize World.setCell _ _ _ = Z at G7 G8 hX ⊢
        have h70 : Z.cell? ⟨g7, 0, none⟩ = some (.int .i64 x1) := (blk_cell G7.out 0).trans rfl
        have h71 : Z.cell? ⟨g7, 1, none⟩ = some (.int .i64 x2) := (blk_cell G7.out 1).trans rfl
        have h81 : Z.cell? ⟨g8, 1, none⟩ = some (.int .i64 y2) := (blk_cell G8.out 1).trans rfl
        have hr0 : Z.cell? ⟨w.heap.size + 1, 0, none⟩ = some (.int .i64 0) := (blk_cell (blk_below KR.out hX.out) 0).trans rfl
        have hr1 : Z.cell? ⟨w.heap.size + 1, 1, none⟩ = some (.int .i64 0) := (blk_cell (blk_below KR.out hX.out) 1).trans rfl
        have fr0 := blk_frozen (blk_below KR.out hX.out) 0
        have fr1 := blk_frozen (blk_below KR.out hX.out) 1
        clear G7 G8 hS0 hS1
        by_cases c7 : x2 = 0
        · have d7 : (x2 == 0) = true := by simp [c7]
          have hh := HR.out
          rw [if_pos (.inl c7)] at hh
          obtain ⟨rfl, rfl⟩ := Prod.mk.inj hh
          clear hh HR
          replace c7 := Aside0.mk c7
          go_wp2
          refine bodyPost_ret (results_cell_row rfl _ _ (w.heap.size + 1) 53 #[.int .i64 0, .int .i64 0] (0, 0) _ rfl (blk_set (blk_set (blk_below KR.out hX.out) 0 (.int .i64 0)) 1 (.int .i64 0)) Tryd.underlying53 rfl (by kernel_rfl)) rfl ?_
          exact ⟨by first | rfl | simp, ((below_step HB.out hX.out).setCell (p := ⟨w.heap.size + 1, 0, none⟩) (Nat.le_succ _) _).setCell (p := ⟨w.heap.size + 1, 1, none⟩) (Nat.le_succ _) _⟩
        · have d7 : (x2 == 0) = false := by simp [c7]
          by_cases c8 : y2 = 0
          · have d8 : (y2 == 0) = true := by simp [c8]
            have hh := HR.out
            rw [if_pos (.inr c8)] at hh
            obtain ⟨rfl, rfl⟩ := Prod.mk.inj hh
            clear hh HR
            replace c7 := Aside0.mk c7
            replace c8 := Aside0.mk c8
            go_wp2
            refine bodyPost_ret (results_cell_row rfl _ _ (w.heap.size + 1) 53 #[.int .i64 0, .int .i64 0] (0, 0) _ rfl (blk_set (blk_set (blk_below KR.out hX.out) 0 (.int .i64 0)) 1 (.int .i64 0)) Tryd.underlying53 rfl (by kernel_rfl)) rfl ?_
            exact ⟨by first | rfl | simp, ((below_step HB.out hX.out).setCell (p := ⟨w.heap.size + 1, 0, none⟩) (Nat.le_succ _) _).setCell (p := ⟨w.heap.size + 1, 1, none⟩) (Nat.le_succ _) _⟩
          · have d8 : (y2 == 0) = false := by simp [c8]
            have hh := HR.out
            rw [if_neg (fun h => h.elim c7 c8)] at hh
            obtain ⟨rfl, rfl⟩ := Prod.mk.inj hh
            clear hh HR
            replace c7 := Aside0.mk c7
            replace c8 := Aside0.mk c8
            go_wp2
            refine bodyPost_ret (results_cell_row rfl _ _ (w.heap.size + 1) 53 #[.int .i64 x1, .int .i64 y2] (0, 0) _ rfl (blk_set (blk_set (blk_below KR.out hX.out) 0 (.int .i64 x1)) 1 (.int .i64 y2)) Tryd.underlying53 rfl (by kernel_rfl)) rfl ?_
            exact ⟨by first | rfl | simp, ((below_step HB.out hX.out).setCell (p := ⟨w.heap.size + 1, 0, none⟩) (Nat.le_succ _) _).setCell (p := ⟨w.heap.size + 1, 1, none⟩) (Nat.le_succ _) _⟩
      · obtain ⟨g8, Y, e_, eY, hG, hB, hge8, hold⟩ := alloc_abs hX.out (.cells #[.int .i64 0, .int .i64 0] 53 (0, 0))
        go_simp
        (try simp only [e_, eY])
        (try have N7 := Aside0.mk (hold _ _ G7.out).2)
        (try replace G7 := Aside0.mk (hold _ _ G7.out).1)
        replace hX := Aside0.mk hB
        have G8 := Aside0.mk hG
        replace hge8 := Aside0.mk hge8
        clear hold hG hB e_ eY
        refine hK.out _ _ ?_ (fun hHeld => ?_)
        · exact hX.out
        clear hK K
        try simp only [Act.put, List.setIfInBounds_toArray, List.set_cons_zero, List.set_cons_succ]
        refine wpAnyH_ready (rs := [11]) (by kernel_rfl) (by simp) ?_
        refine AllReadyH.cons (o := { dst := some 7, op := Go.Op.alloc 53, type := 0, pos := "law.go:24", after := #[], guard := none }) rfl (fun K hK => ?_) AllReadyH.nil
        obtain ⟨g7, Y, e_, eY, hG, hB, hge7, hold⟩ := alloc_abs hX.out (.cells #[.int .i64 0, .int .i64 0] 53 (0, 0))
        go_simp
        (try simp only [e_, eY])
        (try have N8 := Aside0.mk (hold _ _ G8.out).2)
        (try replace G8 := Aside0.mk (hold _ _ G8.out).1)
        replace hX := Aside0.mk hB
        have G7 := Aside0.mk hG
        replace hge7 := Aside0.mk hge7
        clear hold hG hB e_ eY
        refine hK.out _ _ ?_ (fun hHeld => ?_)
        · exact hX.out
        clear hK K
        try simp only [Act.put, List.setIfInBounds_toArray, List.set_cons_zero, List.set_cons_succ]
        refine wpAnyH_ready (rs := [13]) (by kernel_rfl) (by simp) ?_
        refine AllReadyH.cons (o := { dst := none, op := Go.Op.store 53 (Go.Operand.tmp 7) (Go.Operand.tmp 19), type := 0, pos := "law.go:24", after := #[{ on := 11, ground := Go.Ground.data }, { on := 4, ground := Go.Ground.data }, { on := 10, ground := Go.Ground.chain }, { on := 0, ground := Go.Ground.phase }, { on := 1, ground := Go.Ground.phase }, { on := 2, ground := Go.Ground.phase }, { on := 3, ground := Go.Ground.phase }, { on := 4, ground := Go.Ground.phase }, { on := 5, ground := Go.Ground.textOnly Go.Departure.lateStores }, { on := 6, ground := Go.Ground.textOnly Go.Departure.lateStores }, { on := 7, ground := Go.Ground.textOnly Go.Departure.lateStores }, { on := 8, ground := Go.Ground.textOnly Go.Departure.lateStores }, { on := 9, ground := Go.Ground.textOnly Go.Departure.lateStores }, { on := 10, ground := Go.Ground.textOnly Go.Departure.lateStoresUnsure }, { on := 11, ground := Go.Ground.phase }, { on := 12, ground := Go.Ground.phase }], guard := none }) rfl (fun K hK => ?_) AllReadyH.nil
        (first | have N78 := Aside0.mk N7.out | have N78 := Aside0.mk N8.out.symm)
        have N87 := Aside0.mk N78.out.symm
        have hq0 := (blk_cell G7.out 0).trans rfl
        have hq1 := (blk_cell G7.out 1).trans rfl
        have hf0 := blk_frozen G7.out 0
        have hf1 := blk_frozen G7.out 1
        simp only [List.getElem?_toArray, List.getElem?_cons_zero, List.getElem?_cons_succ] at hq0 hq1
        go_simp
        replace G8 := Aside0.mk (blk_far (p := ⟨g7, 1, none⟩) (blk_far (p := ⟨g7, 0, none⟩) G8.out N87.out (.int .i64 x1)) N87.out (.int .i64 x2))
        replace G7 := Aside0.mk (blk_set (blk_set G7.out 0 (.int .i64 x1)) 1 (.int .i64 x2))
        replace hX := Aside0.mk ((hX.out.setCell (p := ⟨g7, 0, none⟩) hge7.out (.int .i64 x1)).setCell (p := ⟨g7, 1, none⟩) hge7.out (.int .i64 x2))
        clear hq0 hq1 hf0 hf1
        refine hK.out _ _ ?_ (fun hHeld => ?_)
        · exact hX.out
        clear hK K
        try simp only [Act.put, List.setIfInBounds_toArray, List.set_cons_zero, List.set_cons_succ]
        refine wpAnyH_ready (rs := [14]) (by kernel_rfl) (by simp) ?_
        refine AllReadyH.cons (o := { dst := none, op := Go.Op.store 53 (Go.Operand.tmp 8) (Go.Operand.tmp 25), type := 0, pos := "law.go:24", after := #[{ on := 12, ground := Go.Ground.data }, { on := 10, ground := Go.Ground.data }, { on := 13, ground := Go.Ground.chain }, { on := 0, ground := Go.Ground.phase }, { on := 1, ground := Go.Ground.phase }, { on := 2, ground := Go.Ground.phase }, { on := 3, ground := Go.Ground.phase }, { on := 4, ground := Go.Ground.phase }, { on := 5, ground := Go.Ground.phase }, { on := 6, ground := Go.Ground.phase }, { on := 7, ground := Go.Ground.phase }, { on := 8, ground := Go.Ground.phase }, { on := 9, ground := Go.Ground.phase }, { on := 10, ground := Go.Ground.phase }, { on := 11, ground := Go.Ground.phase }, { on := 12, ground := Go.Ground.phase }, { on := 13, ground := Go.Ground.phase }], guard := none }) rfl (fun K hK => ?_) AllReadyH.nil
        have hq0 := (blk_cell G8.out 0).trans rfl
        have hq1 := (blk_cell G8.out 1).trans rfl
        have hf0 := blk_frozen G8.out 0
        have hf1 := blk_frozen G8.out 1
        simp only [List.getElem?_toArray, List.getElem?_cons_zero, List.getElem?_cons_succ] at hq0 hq1
        go_simp
        replace G7 := Aside0.mk (blk_far (p := ⟨g8, 1, none⟩) (blk_far (p := ⟨g8, 0, none⟩) G7.out N78.out (.int .i64 y1)) N78.out (.int .i64 y2))
        replace G8 := Aside0.mk (blk_set (blk_set G8.out 0 (.int .i64 y1)) 1 (.int .i64 y2))
        replace hX := Aside0.mk ((hX.out.setCell (p := ⟨g8, 0, none⟩) hge8.out (.int .i64 y1)).setCell (p := ⟨g8, 1, none⟩) hge8.out (.int .i64 y2))
        clear hq0 hq1 hf0 hf1
        refine hK.out _ _ ?_ (fun hHeld => ?_)
        · exact hX.out
        clear hK K
        try simp only [Act.put, List.setIfInBounds_toArray, List.set_cons_zero, List.set_cons_succ]
        refine wpAnyH_done (by kernel_rfl) ?_ _
        try simp only [Act.put, List.setIfInBounds_toArray, List.set_cons_zero, List.set_cons_succ, List.getElem_toArray, List.getElem_cons_zero, List.getElem_cons_succ]
        refine NoPanic.normal ?_
        (try dsimp only [Exit.then])
        refine hKz.out _ _ ?_
        clear hHeld
        generalize World.setCell _ _ _ = Z at G7 G8 hX ⊢
        have h70 : Z.cell? ⟨g7, 0, none⟩ = some (.int .i64 x1) := (blk_cell G7.out 0).trans rfl
        have h71 : Z.cell? ⟨g7, 1, none⟩ = some (.int .i64 x2) := (blk_cell G7.out 1).trans rfl
        have h81 : Z.cell? ⟨g8, 1, none⟩ = some (.int .i64 y2) := (blk_cell G8.out 1).trans rfl
        have hr0 : Z.cell? ⟨w.heap.size + 1, 0, none⟩ = some (.int .i64 0) := (blk_cell (blk_below KR.out hX.out) 0).trans rfl
        have hr1 : Z.cell? ⟨w.heap.size + 1, 1, none⟩ = some (.int .i64 0) := (blk_cell (blk_below KR.out hX.out) 1).trans rfl
        have fr0 := blk_frozen (blk_below KR.out hX.out) 0
        have fr1 := blk_frozen (blk_below KR.out hX.out) 1
        clear G7 G8 hS0 hS1
        by_cases c7 : x2 = 0
        · have d7 : (x2 == 0) = true := by simp [c7]
          have hh := HR.out
          rw [if_pos (.inl c7)] at hh
          obtain ⟨rfl, rfl⟩ := Prod.mk.inj hh
          clear hh HR
          replace c7 := Aside0.mk c7
          go_wp2
          refine bodyPost_ret (results_cell_row rfl _ _ (w.heap.size + 1) 53 #[.int .i64 0, .int .i64 0] (0, 0) _ rfl (blk_set (blk_set (blk_below KR.out hX.out) 0 (.int .i64 0)) 1 (.int .i64 0)) Tryd.underlying53 rfl (by kernel_rfl)) rfl ?_
          exact ⟨by first | rfl | simp, ((below_step HB.out hX.out).setCell (p := ⟨w.heap.size + 1, 0, none⟩) (Nat.le_succ _) _).setCell (p := ⟨w.heap.size + 1, 1, none⟩) (Nat.le_succ _) _⟩
        · have d7 : (x2 == 0) = false := by simp [c7]
          by_cases c8 : y2 = 0
          · have d8 : (y2 == 0) = true := by simp [c8]
            have hh := HR.out
            rw [if_pos (.inr c8)] at hh
            obtain ⟨rfl, rfl⟩ := Prod.mk.inj hh
            clear hh HR
            replace c7 := Aside0.mk c7
            replace c8 := Aside0.mk c8
            go_wp2
            refine bodyPost_ret (results_cell_row rfl _ _ (w.heap.size + 1) 53 #[.int .i64 0, .int .i64 0] (0, 0) _ rfl (blk_set (blk_set (blk_below KR.out hX.out) 0 (.int .i64 0)) 1 (.int .i64 0)) Tryd.underlying53 rfl (by kernel_rfl)) rfl ?_
            exact ⟨by first | rfl | simp, ((below_step HB.out hX.out).setCell (p := ⟨w.heap.size + 1, 0, none⟩) (Nat.le_succ _) _).setCell (p := ⟨w.heap.size + 1, 1, none⟩) (Nat.le_succ _) _⟩
          · have d8 : (y2 == 0) = false := by simp [c8]
            have hh := HR.out
            rw [if_neg (fun h => h.elim c7 c8)] at hh
            obtain ⟨rfl, rfl⟩ := Prod.mk.inj hh
            clear hh HR
            replace c7 := Aside0.mk c7
            replace c8 := Aside0.mk c8
            go_wp2
            refine bodyPost_ret (results_cell_row rfl _ _ (w.heap.size + 1) 53 #[.int .i64 x1, .int .i64 y2] (0, 0) _ rfl (blk_set (blk_set (blk_below KR.out hX.out) 0 (.int .i64 x1)) 1 (.int .i64 y2)) Tryd.underlying53 rfl (by kernel_rfl)) rfl ?_
            exact ⟨by first | rfl | simp, ((below_step HB.out hX.out).setCell (p := ⟨w.heap.size + 1, 0, none⟩) (Nat.le_succ _) _).setCell (p := ⟨w.heap.size + 1, 1, none⟩) (Nat.le_succ _) _⟩
    · obtain ⟨g7, Y, e_, eY, hG, hB, hge7, hold⟩ := alloc_abs hX.out (.cells #[.int .i64 0, .int .i64 0] 53 (0, 0))
      go_simp
      (try simp only [e_, eY])
      (try have N8 := Aside0.mk (hold _ _ G8.out).2)
      (try replace G8 := Aside0.mk (hold _ _ G8.out).1)
      replace hX := Aside0.mk hB
      have G7 := Aside0.mk hG
      replace hge7 := Aside0.mk hge7
      clear hold hG hB e_ eY
      refine hK.out _ _ ?_ (fun hHeld => ?_)
      · exact hX.out
      clear hK K
      try simp only [Act.put, List.setIfInBounds_toArray, List.set_cons_zero, List.set_cons_succ]
      refine wpAnyH_ready (rs := [10, 12]) (by kernel_rfl) (by simp) ?_
      refine AllReadyH.cons (o := { dst := some 25, op := Go.Op.call { callee := Go.Callee.value (Go.Operand.func 52), args := #[Go.Operand.tmp 22, Go.Operand.tmp 23, Go.Operand.tmp 24], argTypes := #[3, 3, 3] }, type := 53, pos := "law.go:24", after := #[{ on := 7, ground := Go.Ground.data }, { on := 8, ground := Go.Ground.data }, { on := 9, ground := Go.Ground.data }, { on := 4, ground := Go.Ground.chain }], guard := none }) rfl (fun K hK => ?_) (AllReadyH.cons (o := { dst := some 8, op := Go.Op.alloc 53, type := 0, pos := "law.go:24", after := #[], guard := none }) rfl (fun K hK => ?_) AllReadyH.nil)
      · refine goes_ (N := some 25) («as» := #[.tmp 22, .tmp 23, .tmp 24]) Tryd.func52 (by kernel_rfl) rfl #[.int .i64 b1, .int .i64 n, .int .i64 s] (by kernel_rfl) rfl rfl (by kernel_rfl) ?_
        with_reducible refine (CB.out _).mono ?_
        rintro e X ⟨rfl, hb⟩
        refine ⟨_, rfl, ?_⟩
        (try replace G7 := Aside0.mk (blk_below G7.out hb))
        (try replace G8 := Aside0.mk (blk_below G8.out hb))
        replace hX := Aside0.mk (below_step hX.out hb)
        clear hb
        refine hK.out _ _ ?_ (fun hHeld => ?_)
        · exact hX.out
        clear hK K
        try simp only [Act.put, List.setIfInBounds_toArray, List.set_cons_zero, List.set_cons_succ]
        refine wpAnyH_ready (rs := [12]) (by kernel_rfl) (by simp) ?_
        refine AllReadyH.cons (o := { dst := some 8, op := Go.Op.alloc 53, type := 0, pos := "law.go:24", after := #[], guard := none }) rfl (fun K hK => ?_) AllReadyH.nil
        obtain ⟨g8, Y, e_, eY, hG, hB, hge8, hold⟩ := alloc_abs hX.out (.cells #[.int .i64 0, .int .i64 0] 53 (0, 0))
        go_simp
        (try simp only [e_, eY])
        (try have N7 := Aside0.mk (hold _ _ G7.out).2)
        (try replace G7 := Aside0.mk (hold _ _ G7.out).1)
        replace hX := Aside0.mk hB
        have G8 := Aside0.mk hG
        replace hge8 := Aside0.mk hge8
        clear hold hG hB e_ eY
        refine hK.out _ _ ?_ (fun hHeld => ?_)
        · exact hX.out
        clear hK K
        try simp only [Act.put, List.setIfInBounds_toArray, List.set_cons_zero, List.set_cons_succ]
        refine wpAnyH_ready (rs := [13]) (by kernel_rfl) (by simp) ?_
        refine AllReadyH.cons (o := { dst := none, op := Go.Op.store 53 (Go.Operand.tmp 7) (Go.Operand.tmp 19), type := 0, pos := "law.go:24", after := #[{ on := 11, ground := Go.Ground.data }, { on := 4, ground := Go.Ground.data }, { on := 10, ground := Go.Ground.chain }, { on := 0, ground := Go.Ground.phase }, { on := 1, ground := Go.Ground.phase }, { on := 2, ground := Go.Ground.phase }, { on := 3, ground := Go.Ground.phase }, { on := 4, ground := Go.Ground.phase }, { on := 5, ground := Go.Ground.textOnly Go.Departure.lateStores }, { on := 6, ground := Go.Ground.textOnly Go.Departure.lateStores }, { on := 7, ground := Go.Ground.textOnly Go.Departure.lateStores }, { on := 8, ground := Go.Ground.textOnly Go.Departure.lateStores }, { on := 9, ground := Go.Ground.textOnly Go.Departure.lateStores }, { on := 10, ground := Go.Ground.textOnly Go.Departure.lateStoresUnsure }, { on := 11, ground := Go.Ground.phase }, { on := 12, ground := Go.Ground.phase }], guard := none }) rfl (fun K hK => ?_) AllReadyH.nil
        (first | have N78 := Aside0.mk N7.out | have N78 := Aside0.mk N8.out.symm)
        have N87 := Aside0.mk N78.out.symm
        have hq0 := (blk_cell G7.out 0).trans rfl
        have hq1 := (blk_cell G7.out 1).trans rfl
        have hf0 := blk_frozen G7.out 0
        have hf1 := blk_frozen G7.out 1
        simp only [List.getElem?_toArray, List.getElem?_cons_zero, List.getElem?_cons_succ] at hq0 hq1
        go_simp
        replace G8 := Aside0.mk (blk_far (p := ⟨g7, 1, none⟩) (blk_far (p := ⟨g7, 0, none⟩) G8.out N87.out (.int .i64 x1)) N87.out (.int .i64 x2))
        replace G7 := Aside0.mk (blk_set (blk_set G7.out 0 (.int .i64 x1)) 1 (.int .i64 x2))
        replace hX := Aside0.mk ((hX.out.setCell (p := ⟨g7, 0, none⟩) hge7.out (.int .i64 x1)).setCell (p := ⟨g7, 1, none⟩) hge7.out (.int .i64 x2))
        clear hq0 hq1 hf0 hf1
        refine hK.out _ _ ?_ (fun hHeld => ?_)
        · exact hX.out
        clear hK K
        try simp only [Act.put, List.setIfInBounds_toArray, List.set_cons_zero, List.set_cons_succ]
        refine wpAnyH_ready (rs := [14]) (by kernel_rfl) (by simp) ?_
        refine AllReadyH.cons (o := { dst := none, op := Go.Op.store 53 (Go.Operand.tmp 8) (Go.Operand.tmp 25), type := 0, pos := "law.go:24", after := #[{ on := 12, ground := Go.Ground.data }, { on := 10, ground := Go.Ground.data }, { on := 13, ground := Go.Ground.chain }, { on := 0, ground := Go.Ground.phase }, { on := 1, ground := Go.Ground.phase }, { on := 2, ground := Go.Ground.phase }, { on := 3, ground := Go.Ground.phase }, { on := 4, ground := Go.Ground.phase }, { on := 5, ground := Go.Ground.phase }, { on := 6, ground := Go.Ground.phase }, { on := 7, ground := Go.Ground.phase }, { on := 8, ground := Go.Ground.phase }, { on := 9, ground := Go.Ground.phase }, { on := 10, ground := Go.Ground.phase }, { on := 11, ground := Go.Ground.phase }, { on := 12, ground := Go.Ground.phase }, { on := 13, ground := Go.Ground.phase }], guard := none }) rfl (fun K hK => ?_) AllReadyH.nil
        have hq0 := (blk_cell G8.out 0).trans rfl
        have hq1 := (blk_cell G8.out 1).trans rfl
        have hf0 := blk_frozen G8.out 0
        have hf1 := blk_frozen G8.out 1
        simp only [List.getElem?_toArray, List.getElem?_cons_zero, List.getElem?_cons_succ] at hq0 hq1
        go_simp
        replace G7 := Aside0.mk (blk_far (p := ⟨g8, 1, none⟩) (blk_far (p := ⟨g8, 0, none⟩) G7.out N78.out (.int .i64 y1)) N78.out (.int .i64 y2))
        replace G8 := Aside0.mk (blk_set (blk_set G8.out 0 (.int .i64 y1)) 1 (.int .i64 y2))
        replace hX := Aside0.mk ((hX.out.setCell (p := ⟨g8, 0, none⟩) hge8.out (.int .i64 y1)).setCell (p := ⟨g8, 1, none⟩) hge8.out (.int .i64 y2))
        clear hq0 hq1 hf0 hf1
        refine hK.out _ _ ?_ (fun hHeld => ?_)
        · exact hX.out
        clear hK K
        try simp only [Act.put, List.setIfInBounds_toArray, List.set_cons_zero, List.set_cons_succ]
        refine wpAnyH_done (by kernel_rfl) ?_ _
        try simp only [Act.put, List.setIfInBounds_toArray, List.set_cons_zero, List.set_cons_succ, List.getElem_toArray, List.getElem_cons_zero, List.getElem_cons_succ]
        refine NoPanic.normal ?_
        (try dsimp only [Exit.then])
        refine hKz.out _ _ ?_
        clear hHeld
        generalize World.setCell _ _ _ = Z at G7 G8 hX ⊢
        have h70 : Z.cell? ⟨g7, 0, none⟩ = some (.int .i64 x1) := (blk_cell G7.out 0).trans rfl
        have h71 : Z.cell? ⟨g7, 1, none⟩ = some (.int .i64 x2) := (blk_cell G7.out 1).trans rfl
        have h81 : Z.cell? ⟨g8, 1, none⟩ = some (.int .i64 y2) := (blk_cell G8.out 1).trans rfl
        have hr0 : Z.cell? ⟨w.heap.size + 1, 0, none⟩ = some (.int .i64 0) := (blk_cell (blk_below KR.out hX.out) 0).trans rfl
        have hr1 : Z.cell? ⟨w.heap.size + 1, 1, none⟩ = some (.int .i64 0) := (blk_cell (blk_below KR.out hX.out) 1).trans rfl
        have fr0 := blk_frozen (blk_below KR.out hX.out) 0
        have fr1 := blk_frozen (blk_below KR.out hX.out) 1
        clear G7 G8 hS0 hS1
        by_cases c7 : x2 = 0
        · have d7 : (x2 == 0) = true := by simp [c7]
          have hh := HR.out
          rw [if_pos (.inl c7)] at hh
          obtain ⟨rfl, rfl⟩ := Prod.mk.inj hh
          clear hh HR
          replace c7 := Aside0.mk c7
          go_wp2
          refine bodyPost_ret (results_cell_row rfl _ _ (w.heap.size + 1) 53 #[.int .i64 0, .int .i64 0] (0, 0) _ rfl (blk_set (blk_set (blk_below KR.out hX.out) 0 (.int .i64 0)) 1 (.int .i64 0)) Tryd.underlying53 rfl (by kernel_rfl)) rfl ?_
          exact ⟨by first | rfl | simp, ((below_step HB.out hX.out).setCell (p := ⟨w.heap.size + 1, 0, none⟩) (Nat.le_succ _) _).setCell (p := ⟨w.heap.size + 1, 1, none⟩) (Nat.le_succ _) _⟩
        · have d7 : (x2 == 0) = false := by simp [c7]
          by_cases c8 : y2 = 0
          · have d8 : (y2 == 0) = true := by simp [c8]
            have hh := HR.out
            rw [if_pos (.inr c8)] at hh
            obtain ⟨rfl, rfl⟩ := Prod.mk.inj hh
            clear hh HR
            replace c7 := Aside0.mk c7
            replace c8 := Aside0.mk c8
            go_wp2
            refine bodyPost_ret (results_cell_row rfl _ _ (w.heap.size + 1) 53 #[.int .i64 0, .int .i64 0] (0, 0) _ rfl (blk_set (blk_set (blk_below KR.out hX.out) 0 (.int .i64 0)) 1 (.int .i64 0)) Tryd.underlying53 rfl (by kernel_rfl)) rfl ?_
            exact ⟨by first | rfl | simp, ((below_step HB.out hX.out).setCell (p := ⟨w.heap.size + 1, 0, none⟩) (Nat.le_succ _) _).setCell (p := ⟨w.heap.size + 1, 1, none⟩) (Nat.le_succ _) _⟩
          · have d8 : (y2 == 0) = false := by simp [c8]
            have hh := HR.out
            rw [if_neg (fun h => h.elim c7 c8)] at hh
            obtain ⟨rfl, rfl⟩ := Prod.mk.inj hh
            clear hh HR
            replace c7 := Aside0.mk c7
            replace c8 := Aside0.mk c8
            go_wp2
            refine bodyPost_ret (results_cell_row rfl _ _ (w.heap.size + 1) 53 #[.int .i64 x1, .int .i64 y2] (0, 0) _ rfl (blk_set (blk_set (blk_below KR.out hX.out) 0 (.int .i64 x1)) 1 (.int .i64 y2)) Tryd.underlying53 rfl (by kernel_rfl)) rfl ?_
            exact ⟨by first | rfl | simp, ((below_step HB.out hX.out).setCell (p := ⟨w.heap.size + 1, 0, none⟩) (Nat.le_succ _) _).setCell (p := ⟨w.heap.size + 1, 1, none⟩) (Nat.le_succ _) _⟩
      · obtain ⟨g8, Y, e_, eY, hG, hB, hge8, hold⟩ := alloc_abs hX.out (.cells #[.int .i64 0, .int .i64 0] 53 (0, 0))
        go_simp
        (try simp only [e_, eY])
        (try have N7 := Aside0.mk (hold _ _ G7.out).2)
        (try replace G7 := Aside0.mk (hold _ _ G7.out).1)
        replace hX := Aside0.mk hB
        have G8 := Aside0.mk hG
        replace hge8 := Aside0.mk hge8
        clear hold hG hB e_ eY
        refine hK.out _ _ ?_ (fun hHeld => ?_)
        · exact hX.out
        clear hK K
        try simp only [Act.put, List.setIfInBounds_toArray, List.set_cons_zero, List.set_cons_succ]
        refine wpAnyH_ready (rs := [10]) (by kernel_rfl) (by simp) ?_
        refine AllReadyH.cons (o := { dst := some 25, op := Go.Op.call { callee := Go.Callee.value (Go.Operand.func 52), args := #[Go.Operand.tmp 22, Go.Operand.tmp 23, Go.Operand.tmp 24], argTypes := #[3, 3, 3] }, type := 53, pos := "law.go:24", after := #[{ on := 7, ground := Go.Ground.data }, { on := 8, ground := Go.Ground.data }, { on := 9, ground := Go.Ground.data }, { on := 4, ground := Go.Ground.chain }], guard := none }) rfl (fun K hK => ?_) AllReadyH.nil
        refine goes_ (N := some 25) («as» := #[.tmp 22, .tmp 23, .tmp 24]) Tryd.func52 (by kernel_rfl) rfl #[.int .i64 b1, .int .i64 n, .int .i64 s] (by kernel_rfl) rfl rfl (by kernel_rfl) ?_
        with_reducible refine (CB.out _).mono ?_
        rintro e X ⟨rfl, hb⟩
        refine ⟨_, rfl, ?_⟩
        (try replace G7 := Aside0.mk (blk_below G7.out hb))
        (try replace G8 := Aside0.mk (blk_below G8.out hb))
        replace hX := Aside0.mk (below_step hX.out hb)
        clear hb
        refine hK.out _ _ ?_ (fun hHeld => ?_)
        · exact hX.out
        clear hK K
        try simp only [Act.put, List.setIfInBounds_toArray, List.set_cons_zero, List.set_cons_succ]
        refine wpAnyH_ready (rs := [13]) (by kernel_rfl) (by simp) ?_
        refine AllReadyH.cons (o := { dst := none, op := Go.Op.store 53 (Go.Operand.tmp 7) (Go.Operand.tmp 19), type := 0, pos := "law.go:24", after := #[{ on := 11, ground := Go.Ground.data }, { on := 4, ground := Go.Ground.data }, { on := 10, ground := Go.Ground.chain }, { on := 0, ground := Go.Ground.phase }, { on := 1, ground := Go.Ground.phase }, { on := 2, ground := Go.Ground.phase }, { on := 3, ground := Go.Ground.phase }, { on := 4, ground := Go.Ground.phase }, { on := 5, ground := Go.Ground.textOnly Go.Departure.lateStores }, { on := 6, ground := Go.Ground.textOnly Go.Departure.lateStores }, { on := 7, ground := Go.Ground.textOnly Go.Departure.lateStores }, { on := 8, ground := Go.Ground.textOnly Go.Departure.lateStores }, { on := 9, ground := Go.Ground.textOnly Go.Departure.lateStores }, { on := 10, ground := Go.Ground.textOnly Go.Departure.lateStoresUnsure }, { on := 11, ground := Go.Ground.phase }, { on := 12, ground := Go.Ground.phase }], guard := none }) rfl (fun K hK => ?_) AllReadyH.nil
        (first | have N78 := Aside0.mk N7.out | have N78 := Aside0.mk N8.out.symm)
        have N87 := Aside0.mk N78.out.symm
        have hq0 := (blk_cell G7.out 0).trans rfl
        have hq1 := (blk_cell G7.out 1).trans rfl
        have hf0 := blk_frozen G7.out 0
        have hf1 := blk_frozen G7.out 1
        simp only [List.getElem?_toArray, List.getElem?_cons_zero, List.getElem?_cons_succ] at hq0 hq1
        go_simp
        replace G8 := Aside0.mk (blk_far (p := ⟨g7, 1, none⟩) (blk_far (p := ⟨g7, 0, none⟩) G8.out N87.out (.int .i64 x1)) N87.out (.int .i64 x2))
        replace G7 := Aside0.mk (blk_set (blk_set G7.out 0 (.int .i64 x1)) 1 (.int .i64 x2))
        replace hX := Aside0.mk ((hX.out.setCell (p := ⟨g7, 0, none⟩) hge7.out (.int .i64 x1)).setCell (p := ⟨g7, 1, none⟩) hge7.out (.int .i64 x2))
        clear hq0 hq1 hf0 hf1
        refine hK.out _ _ ?_ (fun hHeld => ?_)
        · exact hX.out
        clear hK K
        try simp only [Act.put, List.setIfInBounds_toArray, List.set_cons_zero, List.set_cons_succ]
        refine wpAnyH_ready (rs := [14]) (by kernel_rfl) (by simp) ?_
        refine AllReadyH.cons (o := { dst := none, op := Go.Op.store 53 (Go.Operand.tmp 8) (Go.Operand.tmp 25), type := 0, pos := "law.go:24", after := #[{ on := 12, ground := Go.Ground.data }, { on := 10, ground := Go.Ground.data }, { on := 13, ground := Go.Ground.chain }, { on := 0, ground := Go.Ground.phase }, { on := 1, ground := Go.Ground.phase }, { on := 2, ground := Go.Ground.phase }, { on := 3, ground := Go.Ground.phase }, { on := 4, ground := Go.Ground.phase }, { on := 5, ground := Go.Ground.phase }, { on := 6, ground := Go.Ground.phase }, { on := 7, ground := Go.Ground.phase }, { on := 8, ground := Go.Ground.phase }, { on := 9, ground := Go.Ground.phase }, { on := 10, ground := Go.Ground.phase }, { on := 11, ground := Go.Ground.phase }, { on := 12, ground := Go.Ground.phase }, { on := 13, ground := Go.Ground.phase }], guard := none }) rfl (fun K hK => ?_) AllReadyH.nil
        have hq0 := (blk_cell G8.out 0).trans rfl
        have hq1 := (blk_cell G8.out 1).trans rfl
        have hf0 := blk_frozen G8.out 0
        have hf1 := blk_frozen G8.out 1
        simp only [List.getElem?_toArray, List.getElem?_cons_zero, List.getElem?_cons_succ] at hq0 hq1
        go_simp
        replace G7 := Aside0.mk (blk_far (p := ⟨g8, 1, none⟩) (blk_far (p := ⟨g8, 0, none⟩) G7.out N78.out (.int .i64 y1)) N78.out (.int .i64 y2))
        replace G8 := Aside0.mk (blk_set (blk_set G8.out 0 (.int .i64 y1)) 1 (.int .i64 y2))
        replace hX := Aside0.mk ((hX.out.setCell (p := ⟨g8, 0, none⟩) hge8.out (.int .i64 y1)).setCell (p := ⟨g8, 1, none⟩) hge8.out (.int .i64 y2))
        clear hq0 hq1 hf0 hf1
        refine hK.out _ _ ?_ (fun hHeld => ?_)
        · exact hX.out
        clear hK K
        try simp only [Act.put, List.setIfInBounds_toArray, List.set_cons_zero, List.set_cons_succ]
        refine wpAnyH_done (by kernel_rfl) ?_ _
        try simp only [Act.put, List.setIfInBounds_toArray, List.set_cons_zero, List.set_cons_succ, List.getElem_toArray, List.getElem_cons_zero, List.getElem_cons_succ]
        refine NoPanic.normal ?_
        (try dsimp only [Exit.then])
        refine hKz.out _ _ ?_
        clear hHeld
        generalize World.setCell _ _ _ = Z at G7 G8 hX ⊢
        have h70 : Z.cell? ⟨g7, 0, none⟩ = some (.int .i64 x1) := (blk_cell G7.out 0).trans rfl
        have h71 : Z.cell? ⟨g7, 1, none⟩ = some (.int .i64 x2) := (blk_cell G7.out 1).trans rfl
        have h81 : Z.cell? ⟨g8, 1, none⟩ = some (.int .i64 y2) := (blk_cell G8.out 1).trans rfl
        have hr0 : Z.cell? ⟨w.heap.size + 1, 0, none⟩ = some (.int .i64 0) := (blk_cell (blk_below KR.out hX.out) 0).trans rfl
        have hr1 : Z.cell? ⟨w.heap.size + 1, 1, none⟩ = some (.int .i64 0) := (blk_cell (blk_below KR.out hX.out) 1).trans rfl
        have fr0 := blk_frozen (blk_below KR.out hX.out) 0
        have fr1 := blk_frozen (blk_below KR.out hX.out) 1
        clear G7 G8 hS0 hS1
        by_cases c7 : x2 = 0
        · have d7 : (x2 == 0) = true := by simp [c7]
          have hh := HR.out
          rw [if_pos (.inl c7)] at hh
          obtain ⟨rfl, rfl⟩ := Prod.mk.inj hh
          clear hh HR
          replace c7 := Aside0.mk c7
          go_wp2
          refine bodyPost_ret (results_cell_row rfl _ _ (w.heap.size + 1) 53 #[.int .i64 0, .int .i64 0] (0, 0) _ rfl (blk_set (blk_set (blk_below KR.out hX.out) 0 (.int .i64 0)) 1 (.int .i64 0)) Tryd.underlying53 rfl (by kernel_rfl)) rfl ?_
          exact ⟨by first | rfl | simp, ((below_step HB.out hX.out).setCell (p := ⟨w.heap.size + 1, 0, none⟩) (Nat.le_succ _) _).setCell (p := ⟨w.heap.size + 1, 1, none⟩) (Nat.le_succ _) _⟩
        · have d7 : (x2 == 0) = false := by simp [c7]
          by_cases c8 : y2 = 0
          · have d8 : (y2 == 0) = true := by simp [c8]
            have hh := HR.out
            rw [if_pos (.inr c8)] at hh
            obtain ⟨rfl, rfl⟩ := Prod.mk.inj hh
            clear hh HR
            replace c7 := Aside0.mk c7
            replace c8 := Aside0.mk c8
            go_wp2
            refine bodyPost_ret (results_cell_row rfl _ _ (w.heap.size + 1) 53 #[.int .i64 0, .int .i64 0] (0, 0) _ rfl (blk_set (blk_set (blk_below KR.out hX.out) 0 (.int .i64 0)) 1 (.int .i64 0)) Tryd.underlying53 rfl (by kernel_rfl)) rfl ?_
            exact ⟨by first | rfl | simp, ((below_step HB.out hX.out).setCell (p := ⟨w.heap.size + 1, 0, none⟩) (Nat.le_succ _) _).setCell (p := ⟨w.heap.size + 1, 1, none⟩) (Nat.le_succ _) _⟩
          · have d8 : (y2 == 0) = false := by simp [c8]
            have hh := HR.out
            rw [if_neg (fun h => h.elim c7 c8)] at hh
            obtain ⟨rfl, rfl⟩ := Prod.mk.inj hh
            clear hh HR
            replace c7 := Aside0.mk c7
            replace c8 := Aside0.mk c8
            go_wp2
            refine bodyPost_ret (results_cell_row rfl _ _ (w.heap.size + 1) 53 #[.int .i64 x1, .int .i64 y2] (0, 0) _ rfl (blk_set (blk_set (blk_below KR.out hX.out) 0 (.int .i64 x1)) 1 (.int .i64 y2)) Tryd.underlying53 rfl (by kernel_rfl)) rfl ?_
            exact ⟨by first | rfl | simp, ((below_step HB.out hX.out).setCell (p := ⟨w.heap.size + 1, 0, none⟩) (Nat.le_succ _) _).setCell (p := ⟨w.heap.size + 1, 1, none⟩) (Nat.le_succ _) _⟩
    · obtain ⟨g8, Y, e_, eY, hG, hB, hge8, hold⟩ := alloc_abs hX.out (.cells #[.int .i64 0, .int .i64 0] 53 (0, 0))
      go_simp
      (try simp only [e_, eY])
      (try have N7 := Aside0.mk (hold _ _ G7.out).2)
      (try replace G7 := Aside0.mk (hold _ _ G7.out).1)
      replace hX := Aside0.mk hB
      have G8 := Aside0.mk hG
      replace hge8 := Aside0.mk hge8
      clear hold hG hB e_ eY
      refine hK.out _ _ ?_ (fun hHeld => ?_)
      · exact hX.out
      clear hK K
      try simp only [Act.put, List.setIfInBounds_toArray, List.set_cons_zero, List.set_cons_succ]
      refine wpAnyH_ready (rs := [10, 11]) (by kernel_rfl) (by simp) ?_
      refine AllReadyH.cons (o := { dst := some 25, op := Go.Op.call { callee := Go.Callee.value (Go.Operand.func 52), args := #[Go.Operand.tmp 22, Go.Operand.tmp 23, Go.Operand.tmp 24], argTypes := #[3, 3, 3] }, type := 53, pos := "law.go:24", after := #[{ on := 7, ground := Go.Ground.data }, { on := 8, ground := Go.Ground.data }, { on := 9, ground := Go.Ground.data }, { on := 4, ground := Go.Ground.chain }], guard := none }) rfl (fun K hK => ?_) (AllReadyH.cons (o := { dst := some 7, op := Go.Op.alloc 53, type := 0, pos := "law.go:24", after := #[], guard := none }) rfl (fun K hK => ?_) AllReadyH.nil)
      · refine goes_ (N := some 25) («as» := #[.tmp 22, .tmp 23, .tmp 24]) Tryd.func52 (by kernel_rfl) rfl #[.int .i64 b1, .int .i64 n, .int .i64 s] (by kernel_rfl) rfl rfl (by kernel_rfl) ?_
        with_reducible refine (CB.out _).mono ?_
        rintro e X ⟨rfl, hb⟩
        refine ⟨_, rfl, ?_⟩
        (try replace G7 := Aside0.mk (blk_below G7.out hb))
        (try replace G8 := Aside0.mk (blk_below G8.out hb))
        replace hX := Aside0.mk (below_step hX.out hb)
        clear hb
        refine hK.out _ _ ?_ (fun hHeld => ?_)
        · exact hX.out
        clear hK K
        try simp only [Act.put, List.setIfInBounds_toArray, List.set_cons_zero, List.set_cons_succ]
        refine wpAnyH_ready (rs := [11]) (by kernel_rfl) (by simp) ?_
        refine AllReadyH.cons (o := { dst := some 7, op := Go.Op.alloc 53, type := 0, pos := "law.go:24", after := #[], guard := none }) rfl (fun K hK => ?_) AllReadyH.nil
        obtain ⟨g7, Y, e_, eY, hG, hB, hge7, hold⟩ := alloc_abs hX.out (.cells #[.int .i64 0, .int .i64 0] 53 (0, 0))
        go_simp
        (try simp only [e_, eY])
        (try have N8 := Aside0.mk (hold _ _ G8.out).2)
        (try replace G8 := Aside0.mk (hold _ _ G8.out).1)
        replace hX := Aside0.mk hB
        have G7 := Aside0.mk hG
        replace hge7 := Aside0.mk hge7
        clear hold hG hB e_ eY
        refine hK.out _ _ ?_ (fun hHeld => ?_)
        · exact hX.out
        clear hK K
        try simp only [Act.put, List.setIfInBounds_toArray, List.set_cons_zero, List.set_cons_succ]
        refine wpAnyH_ready (rs := [13]) (by kernel_rfl) (by simp) ?_
        refine AllReadyH.cons (o := { dst := none, op := Go.Op.store 53 (Go.Operand.tmp 7) (Go.Operand.tmp 19), type := 0, pos := "law.go:24", after := #[{ on := 11, ground := Go.Ground.data }, { on := 4, ground := Go.Ground.data }, { on := 10, ground := Go.Ground.chain }, { on := 0, ground := Go.Ground.phase }, { on := 1, ground := Go.Ground.phase }, { on := 2, ground := Go.Ground.phase }, { on := 3, ground := Go.Ground.phase }, { on := 4, ground := Go.Ground.phase }, { on := 5, ground := Go.Ground.textOnly Go.Departure.lateStores }, { on := 6, ground := Go.Ground.textOnly Go.Departure.lateStores }, { on := 7, ground := Go.Ground.textOnly Go.Departure.lateStores }, { on := 8, ground := Go.Ground.textOnly Go.Departure.lateStores }, { on := 9, ground := Go.Ground.textOnly Go.Departure.lateStores }, { on := 10, ground := Go.Ground.textOnly Go.Departure.lateStoresUnsure }, { on := 11, ground := Go.Ground.phase }, { on := 12, ground := Go.Ground.phase }], guard := none }) rfl (fun K hK => ?_) AllReadyH.nil
        (first | have N78 := Aside0.mk N7.out | have N78 := Aside0.mk N8.out.symm)
        have N87 := Aside0.mk N78.out.symm
        have hq0 := (blk_cell G7.out 0).trans rfl
        have hq1 := (blk_cell G7.out 1).trans rfl
        have hf0 := blk_frozen G7.out 0
        have hf1 := blk_frozen G7.out 1
        simp only [List.getElem?_toArray, List.getElem?_cons_zero, List.getElem?_cons_succ] at hq0 hq1
        go_simp
        replace G8 := Aside0.mk (blk_far (p := ⟨g7, 1, none⟩) (blk_far (p := ⟨g7, 0, none⟩) G8.out N87.out (.int .i64 x1)) N87.out (.int .i64 x2))
        replace G7 := Aside0.mk (blk_set (blk_set G7.out 0 (.int .i64 x1)) 1 (.int .i64 x2))
        replace hX := Aside0.mk ((hX.out.setCell (p := ⟨g7, 0, none⟩) hge7.out (.int .i64 x1)).setCell (p := ⟨g7, 1, none⟩) hge7.out (.int .i64 x2))
        clear hq0 hq1 hf0 hf1
        refine hK.out _ _ ?_ (fun hHeld => ?_)
        · exact hX.out
        clear hK K
        try simp only [Act.put, List.setIfInBounds_toArray, List.set_cons_zero, List.set_cons_succ]
        refine wpAnyH_ready (rs := [14]) (by kernel_rfl) (by simp) ?_
        refine AllReadyH.cons (o := { dst := none, op := Go.Op.store 53 (Go.Operand.tmp 8) (Go.Operand.tmp 25), type := 0, pos := "law.go:24", after := #[{ on := 12, ground := Go.Ground.data }, { on := 10, ground := Go.Ground.data }, { on := 13, ground := Go.Ground.chain }, { on := 0, ground := Go.Ground.phase }, { on := 1, ground := Go.Ground.phase }, { on := 2, ground := Go.Ground.phase }, { on := 3, ground := Go.Ground.phase }, { on := 4, ground := Go.Ground.phase }, { on := 5, ground := Go.Ground.phase }, { on := 6, ground := Go.Ground.phase }, { on := 7, ground := Go.Ground.phase }, { on := 8, ground := Go.Ground.phase }, { on := 9, ground := Go.Ground.phase }, { on := 10, ground := Go.Ground.phase }, { on := 11, ground := Go.Ground.phase }, { on := 12, ground := Go.Ground.phase }, { on := 13, ground := Go.Ground.phase }], guard := none }) rfl (fun K hK => ?_) AllReadyH.nil
        have hq0 := (blk_cell G8.out 0).trans rfl
        have hq1 := (blk_cell G8.out 1).trans rfl
        have hf0 := blk_frozen G8.out 0
        have hf1 := blk_frozen G8.out 1
        simp only [List.getElem?_toArray, List.getElem?_cons_zero, List.getElem?_cons_succ] at hq0 hq1
        go_simp
        replace G7 := Aside0.mk (blk_far (p := ⟨g8, 1, none⟩) (blk_far (p := ⟨g8, 0, none⟩) G7.out N78.out (.int .i64 y1)) N78.out (.int .i64 y2))
        replace G8 := Aside0.mk (blk_set (blk_set G8.out 0 (.int .i64 y1)) 1 (.int .i64 y2))
        replace hX := Aside0.mk ((hX.out.setCell (p := ⟨g8, 0, none⟩) hge8.out (.int .i64 y1)).setCell (p := ⟨g8, 1, none⟩) hge8.out (.int .i64 y2))
        clear hq0 hq1 hf0 hf1
        refine hK.out _ _ ?_ (fun hHeld => ?_)
        · exact hX.out
        clear hK K
        try simp only [Act.put, List.setIfInBounds_toArray, List.set_cons_zero, List.set_cons_succ]
        refine wpAnyH_done (by kernel_rfl) ?_ _
        try simp only [Act.put, List.setIfInBounds_toArray, List.set_cons_zero, List.set_cons_succ, List.getElem_toArray, List.getElem_cons_zero, List.getElem_cons_succ]
        refine NoPanic.normal ?_
        (try dsimp only [Exit.then])
        refine hKz.out _ _ ?_
        clear hHeld
        generalize World.setCell _ _ _ = Z at G7 G8 hX ⊢
        have h70 : Z.cell? ⟨g7, 0, none⟩ = some (.int .i64 x1) := (blk_cell G7.out 0).trans rfl
        have h71 : Z.cell? ⟨g7, 1, none⟩ = some (.int .i64 x2) := (blk_cell G7.out 1).trans rfl
        have h81 : Z.cell? ⟨g8, 1, none⟩ = some (.int .i64 y2) := (blk_cell G8.out 1).trans rfl
        have hr0 : Z.cell? ⟨w.heap.size + 1, 0, none⟩ = some (.int .i64 0) := (blk_cell (blk_below KR.out hX.out) 0).trans rfl
        have hr1 : Z.cell? ⟨w.heap.size + 1, 1, none⟩ = some (.int .i64 0) := (blk_cell (blk_below KR.out hX.out) 1).trans rfl
        have fr0 := blk_frozen (blk_below KR.out hX.out) 0
        have fr1 := blk_frozen (blk_below KR.out hX.out) 1
        clear G7 G8 hS0 hS1
        by_cases c7 : x2 = 0
        · have d7 : (x2 == 0) = true := by simp [c7]
          have hh := HR.out
          rw [if_pos (.inl c7)] at hh
          obtain ⟨rfl, rfl⟩ := Prod.mk.inj hh
          clear hh HR
          replace c7 := Aside0.mk c7
          go_wp2
          refine bodyPost_ret (results_cell_row rfl _ _ (w.heap.size + 1) 53 #[.int .i64 0, .int .i64 0] (0, 0) _ rfl (blk_set (blk_set (blk_below KR.out hX.out) 0 (.int .i64 0)) 1 (.int .i64 0)) Tryd.underlying53 rfl (by kernel_rfl)) rfl ?_
          exact ⟨by first | rfl | simp, ((below_step HB.out hX.out).setCell (p := ⟨w.heap.size + 1, 0, none⟩) (Nat.le_succ _) _).setCell (p := ⟨w.heap.size + 1, 1, none⟩) (Nat.le_succ _) _⟩
        · have d7 : (x2 == 0) = false := by simp [c7]
          by_cases c8 : y2 = 0
          · have d8 : (y2 == 0) = true := by simp [c8]
            have hh := HR.out
            rw [if_pos (.inr c8)] at hh
            obtain ⟨rfl, rfl⟩ := Prod.mk.inj hh
            clear hh HR
            replace c7 := Aside0.mk c7
            replace c8 := Aside0.mk c8
            go_wp2
            refine bodyPost_ret (results_cell_row rfl _ _ (w.heap.size + 1) 53 #[.int .i64 0, .int .i64 0] (0, 0) _ rfl (blk_set (blk_set (blk_below KR.out hX.out) 0 (.int .i64 0)) 1 (.int .i64 0)) Tryd.underlying53 rfl (by kernel_rfl)) rfl ?_
            exact ⟨by first | rfl | simp, ((below_step HB.out hX.out).setCell (p := ⟨w.heap.size + 1, 0, none⟩) (Nat.le_succ _) _).setCell (p := ⟨w.heap.size + 1, 1, none⟩) (Nat.le_succ _) _⟩
          · have d8 : (y2 == 0) = false := by simp [c8]
            have hh := HR.out
            rw [if_neg (fun h => h.elim c7 c8)] at hh
            obtain ⟨rfl, rfl⟩ := Prod.mk.inj hh
            clear hh HR
            replace c7 := Aside0.mk c7
            replace c8 := Aside0.mk c8
            go_wp2
            refine bodyPost_ret (results_cell_row rfl _ _ (w.heap.size + 1) 53 #[.int .i64 x1, .int .i64 y2] (0, 0) _ rfl (blk_set (blk_set (blk_below KR.out hX.out) 0 (.int .i64 x1)) 1 (.int .i64 y2)) Tryd.underlying53 rfl (by kernel_rfl)) rfl ?_
            exact ⟨by first | rfl | simp, ((below_step HB.out hX.out).setCell (p := ⟨w.heap.size + 1, 0, none⟩) (Nat.le_succ _) _).setCell (p := ⟨w.heap.size + 1, 1, none⟩) (Nat.le_succ _) _⟩
      · obtain ⟨g7, Y, e_, eY, hG, hB, hge7, hold⟩ := alloc_abs hX.out (.cells #[.int .i64 0, .int .i64 0] 53 (0, 0))
        go_simp
        (try simp only [e_, eY])
        (try have N8 := Aside0.mk (hold _ _ G8.out).2)
        (try replace G8 := Aside0.mk (hold _ _ G8.out).1)
        replace hX := Aside0.mk hB
        have G7 := Aside0.mk hG
        replace hge7 := Aside0.mk hge7
        clear hold hG hB e_ eY
        refine hK.out _ _ ?_ (fun hHeld => ?_)
        · exact hX.out
        clear hK K
        try simp only [Act.put, List.setIfInBounds_toArray, List.set_cons_zero, List.set_cons_succ]
        refine wpAnyH_ready (rs := [10]) (by kernel_rfl) (by simp) ?_
        refine AllReadyH.cons (o := { dst := some 25, op := Go.Op.call { callee := Go.Callee.value (Go.Operand.func 52), args := #[Go.Operand.tmp 22, Go.Operand.tmp 23, Go.Operand.tmp 24], argTypes := #[3, 3, 3] }, type := 53, pos := "law.go:24", after := #[{ on := 7, ground := Go.Ground.data }, { on := 8, ground := Go.Ground.data }, { on := 9, ground := Go.Ground.data }, { on := 4, ground := Go.Ground.chain }], guard := none }) rfl (fun K hK => ?_) AllReadyH.nil
        refine goes_ (N := some 25) («as» := #[.tmp 22, .tmp 23, .tmp 24]) Tryd.func52 (by kernel_rfl) rfl #[.int .i64 b1, .int .i64 n, .int .i64 s] (by kernel_rfl) rfl rfl (by kernel_rfl) ?_
        with_reducible refine (CB.out _).mono ?_
        rintro e X ⟨rfl, hb⟩
        refine ⟨_, rfl, ?_⟩
        (try replace G7 := Aside0.mk (blk_below G7.out hb))
        (try replace G8 := Aside0.mk (blk_below G8.out hb))
        replace hX := Aside0.mk (below_step hX.out hb)
        clear hb
        refine hK.out _ _ ?_ (fun hHeld => ?_)
        · exact hX.out
        clear hK K
        try simp only [Act.put, List.setIfInBounds_toArray, List.set_cons_zero, List.set_cons_succ]
        refine wpAnyH_ready (rs := [13]) (by kernel_rfl) (by simp) ?_
        refine AllReadyH.cons (o := { dst := none, op := Go.Op.store 53 (Go.Operand.tmp 7) (Go.Operand.tmp 19), type := 0, pos := "law.go:24", after := #[{ on := 11, ground := Go.Ground.data }, { on := 4, ground := Go.Ground.data }, { on := 10, ground := Go.Ground.chain }, { on := 0, ground := Go.Ground.phase }, { on := 1, ground := Go.Ground.phase }, { on := 2, ground := Go.Ground.phase }, { on := 3, ground := Go.Ground.phase }, { on := 4, ground := Go.Ground.phase }, { on := 5, ground := Go.Ground.textOnly Go.Departure.lateStores }, { on := 6, ground := Go.Ground.textOnly Go.Departure.lateStores }, { on := 7, ground := Go.Ground.textOnly Go.Departure.lateStores }, { on := 8, ground := Go.Ground.textOnly Go.Departure.lateStores }, { on := 9, ground := Go.Ground.textOnly Go.Departure.lateStores }, { on := 10, ground := Go.Ground.textOnly Go.Departure.lateStoresUnsure }, { on := 11, ground := Go.Ground.phase }, { on := 12, ground := Go.Ground.phase }], guard := none }) rfl (fun K hK => ?_) AllReadyH.nil
        (first | have N78 := Aside0.mk N7.out | have N78 := Aside0.mk N8.out.symm)
        have N87 := Aside0.mk N78.out.symm
        have hq0 := (blk_cell G7.out 0).trans rfl
        have hq1 := (blk_cell G7.out 1).trans rfl
        have hf0 := blk_frozen G7.out 0
        have hf1 := blk_frozen G7.out 1
        simp only [List.getElem?_toArray, List.getElem?_cons_zero, List.getElem?_cons_succ] at hq0 hq1
        go_simp
        replace G8 := Aside0.mk (blk_far (p := ⟨g7, 1, none⟩) (blk_far (p := ⟨g7, 0, none⟩) G8.out N87.out (.int .i64 x1)) N87.out (.int .i64 x2))
        replace G7 := Aside0.mk (blk_set (blk_set G7.out 0 (.int .i64 x1)) 1 (.int .i64 x2))
        replace hX := Aside0.mk ((hX.out.setCell (p := ⟨g7, 0, none⟩) hge7.out (.int .i64 x1)).setCell (p := ⟨g7, 1, none⟩) hge7.out (.int .i64 x2))
        clear hq0 hq1 hf0 hf1
        refine hK.out _ _ ?_ (fun hHeld => ?_)
        · exact hX.out
        clear hK K
        try simp only [Act.put, List.setIfInBounds_toArray, List.set_cons_zero, List.set_cons_succ]
        refine wpAnyH_ready (rs := [14]) (by kernel_rfl) (by simp) ?_
        refine AllReadyH.cons (o := { dst := none, op := Go.Op.store 53 (Go.Operand.tmp 8) (Go.Operand.tmp 25), type := 0, pos := "law.go:24", after := #[{ on := 12, ground := Go.Ground.data }, { on := 10, ground := Go.Ground.data }, { on := 13, ground := Go.Ground.chain }, { on := 0, ground := Go.Ground.phase }, { on := 1, ground := Go.Ground.phase }, { on := 2, ground := Go.Ground.phase }, { on := 3, ground := Go.Ground.phase }, { on := 4, ground := Go.Ground.phase }, { on := 5, ground := Go.Ground.phase }, { on := 6, ground := Go.Ground.phase }, { on := 7, ground := Go.Ground.phase }, { on := 8, ground := Go.Ground.phase }, { on := 9, ground := Go.Ground.phase }, { on := 10, ground := Go.Ground.phase }, { on := 11, ground := Go.Ground.phase }, { on := 12, ground := Go.Ground.phase }, { on := 13, ground := Go.Ground.phase }], guard := none }) rfl (fun K hK => ?_) AllReadyH.nil
        have hq0 := (blk_cell G8.out 0).trans rfl
        have hq1 := (blk_cell G8.out 1).trans rfl
        have hf0 := blk_frozen G8.out 0
        have hf1 := blk_frozen G8.out 1
        simp only [List.getElem?_toArray, List.getElem?_cons_zero, List.getElem?_cons_succ] at hq0 hq1
        go_simp
        replace G7 := Aside0.mk (blk_far (p := ⟨g8, 1, none⟩) (blk_far (p := ⟨g8, 0, none⟩) G7.out N78.out (.int .i64 y1)) N78.out (.int .i64 y2))
        replace G8 := Aside0.mk (blk_set (blk_set G8.out 0 (.int .i64 y1)) 1 (.int .i64 y2))
        replace hX := Aside0.mk ((hX.out.setCell (p := ⟨g8, 0, none⟩) hge8.out (.int .i64 y1)).setCell (p := ⟨g8, 1, none⟩) hge8.out (.int .i64 y2))
        clear hq0 hq1 hf0 hf1
        refine hK.out _ _ ?_ (fun hHeld => ?_)
        · exact hX.out
        clear hK K
        try simp only [Act.put, List.setIfInBounds_toArray, List.set_cons_zero, List.set_cons_succ]
        refine wpAnyH_done (by kernel_rfl) ?_ _
        try simp only [Act.put, List.setIfInBounds_toArray, List.set_cons_zero, List.set_cons_succ, List.getElem_toArray, List.getElem_cons_zero, List.getElem_cons_succ]
        refine NoPanic.normal ?_
        (try dsimp only [Exit.then])
        refine hKz.out _ _ ?_
        clear hHeld
        generalize World.setCell _ _ _ = Z at G7 G8 hX ⊢
        have h70 : Z.cell? ⟨g7, 0, none⟩ = some (.int .i64 x1) := (blk_cell G7.out 0).trans rfl
        have h71 : Z.cell? ⟨g7, 1, none⟩ = some (.int .i64 x2) := (blk_cell G7.out 1).trans rfl
        have h81 : Z.cell? ⟨g8, 1, none⟩ = some (.int .i64 y2) := (blk_cell G8.out 1).trans rfl
        have hr0 : Z.cell? ⟨w.heap.size + 1, 0, none⟩ = some (.int .i64 0) := (blk_cell (blk_below KR.out hX.out) 0).trans rfl
        have hr1 : Z.cell? ⟨w.heap.size + 1, 1, none⟩ = some (.int .i64 0) := (blk_cell (blk_below KR.out hX.out) 1).trans rfl
        have fr0 := blk_frozen (blk_below KR.out hX.out) 0
        have fr1 := blk_frozen (blk_below KR.out hX.out) 1
        clear G7 G8 hS0 hS1
        by_cases c7 : x2 = 0
        · have d7 : (x2 == 0) = true := by simp [c7]
          have hh := HR.out
          rw [if_pos (.inl c7)] at hh
          obtain ⟨rfl, rfl⟩ := Prod.mk.inj hh
          clear hh HR
          replace c7 := Aside0.mk c7
          go_wp2
          refine bodyPost_ret (results_cell_row rfl _ _ (w.heap.size + 1) 53 #[.int .i64 0, .int .i64 0] (0, 0) _ rfl (blk_set (blk_set (blk_below KR.out hX.out) 0 (.int .i64 0)) 1 (.int .i64 0)) Tryd.underlying53 rfl (by kernel_rfl)) rfl ?_
          exact ⟨by first | rfl | simp, ((below_step HB.out hX.out).setCell (p := ⟨w.heap.size + 1, 0, none⟩) (Nat.le_succ _) _).setCell (p := ⟨w.heap.size + 1, 1, none⟩) (Nat.le_succ _) _⟩
        · have d7 : (x2 == 0) = false := by simp [c7]
          by_cases c8 : y2 = 0
          · have d8 : (y2 == 0) = true := by simp [c8]
            have hh := HR.out
            rw [if_pos (.inr c8)] at hh
            obtain ⟨rfl, rfl⟩ := Prod.mk.inj hh
            clear hh HR
            replace c7 := Aside0.mk c7
            replace c8 := Aside0.mk c8
            go_wp2
            refine bodyPost_ret (results_cell_row rfl _ _ (w.heap.size + 1) 53 #[.int .i64 0, .int .i64 0] (0, 0) _ rfl (blk_set (blk_set (blk_below KR.out hX.out) 0 (.int .i64 0)) 1 (.int .i64 0)) Tryd.underlying53 rfl (by kernel_rfl)) rfl ?_
            exact ⟨by first | rfl | simp, ((below_step HB.out hX.out).setCell (p := ⟨w.heap.size + 1, 0, none⟩) (Nat.le_succ _) _).setCell (p := ⟨w.heap.size + 1, 1, none⟩) (Nat.le_succ _) _⟩
          · have d8 : (y2 == 0) = false := by simp [c8]
            have hh := HR.out
            rw [if_neg (fun h => h.elim c7 c8)] at hh
            obtain ⟨rfl, rfl⟩ := Prod.mk.inj hh
            clear hh HR
            replace c7 := Aside0.mk c7
            replace c8 := Aside0.mk c8
            go_wp2
            refine bodyPost_ret (results_cell_row rfl _ _ (w.heap.size + 1) 53 #[.int .i64 x1, .int .i64 y2] (0, 0) _ rfl (blk_set (blk_set (blk_below KR.out hX.out) 0 (.int .i64 x1)) 1 (.int .i64 y2)) Tryd.underlying53 rfl (by kernel_rfl)) rfl ?_
            exact ⟨by first | rfl | simp, ((below_step HB.out hX.out).setCell (p := ⟨w.heap.size + 1, 0, none⟩) (Nat.le_succ _) _).setCell (p := ⟨w.heap.size + 1, 1, none⟩) (Nat.le_succ _) _⟩
  · obtain ⟨g7, Y, e_, eY, hG, hB, hge7, hold⟩ := alloc_abs hX.out (.cells #[.int .i64 0, .int .i64 0] 53 (0, 0))
    go_simp
    (try simp only [e_, eY])
    (try have N8 := Aside0.mk (hold _ _ G8.out).2)
    (try replace G8 := Aside0.mk (hold _ _ G8.out).1)
    replace hX := Aside0.mk hB
    have G7 := Aside0.mk hG
    replace hge7 := Aside0.mk hge7
    clear hold hG hB e_ eY
    refine hK.out _ _ ?_ (fun hHeld => ?_)
    · exact hX.out
    clear hK K
    try simp only [Act.put, List.setIfInBounds_toArray, List.set_cons_zero, List.set_cons_succ]
    refine wpAnyH_ready (rs := [4, 12]) (by kernel_rfl) (by simp) ?_
    refine AllReadyH.cons (o := { dst := some 19, op := Go.Op.call { callee := Go.Callee.value (Go.Operand.func 52), args := #[Go.Operand.tmp 16, Go.Operand.tmp 17, Go.Operand.tmp 18], argTypes := #[3, 3, 3] }, type := 53, pos := "law.go:24", after := #[{ on := 1, ground := Go.Ground.data }, { on := 2, ground := Go.Ground.data }, { on := 3, ground := Go.Ground.data }], guard := none }) rfl (fun K hK => ?_) (AllReadyH.cons (o := { dst := some 8, op := Go.Op.alloc 53, type := 0, pos := "law.go:24", after := #[], guard := none }) rfl (fun K hK => ?_) AllReadyH.nil)
    · refine goes_ (N := some 19) («as» := #[.tmp 16, .tmp 17, .tmp 18]) Tryd.func52 (by kernel_rfl) rfl #[.int .i64 a0, .int .i64 n, .int .i64 s] (by kernel_rfl) rfl rfl (by kernel_rfl) ?_
      with_reducible refine (CA.out _).mono ?_
      rintro e X ⟨rfl, hb⟩
      refine ⟨_, rfl, ?_⟩
      (try replace G7 := Aside0.mk (blk_below G7.out hb))
      (try replace G8 := Aside0.mk (blk_below G8.out hb))
      replace hX := Aside0.mk (below_step hX.out hb)
      clear hb
      refine hK.out _ _ ?_ (fun hHeld => ?_)
      · exact hX.out
      clear hK K
      try simp only [Act.put, List.setIfInBounds_toArray, List.set_cons_zero, List.set_cons_succ]
      refine wpAnyH_ready (rs := [10, 12]) (by kernel_rfl) (by simp) ?_
      refine AllReadyH.cons (o := { dst := some 25, op := Go.Op.call { callee := Go.Callee.value (Go.Operand.func 52), args := #[Go.Operand.tmp 22, Go.Operand.tmp 23, Go.Operand.tmp 24], argTypes := #[3, 3, 3] }, type := 53, pos := "law.go:24", after := #[{ on := 7, ground := Go.Ground.data }, { on := 8, ground := Go.Ground.data }, { on := 9, ground := Go.Ground.data }, { on := 4, ground := Go.Ground.chain }], guard := none }) rfl (fun K hK => ?_) (AllReadyH.cons (o := { dst := some 8, op := Go.Op.alloc 53, type := 0, pos := "law.go:24", after := #[], guard := none }) rfl (fun K hK => ?_) AllReadyH.nil)
      · refine goes_ (N := some 25) («as» := #[.tmp 22, .tmp 23, .tmp 24]) Tryd.func52 (by kernel_rfl) rfl #[.int .i64 b1, .int .i64 n, .int .i64 s] (by kernel_rfl) rfl rfl (by kernel_rfl) ?_
        with_reducible refine (CB.out _).mono ?_
        rintro e X ⟨rfl, hb⟩
        refine ⟨_, rfl, ?_⟩
        (try replace G7 := Aside0.mk (blk_below G7.out hb))
        (try replace G8 := Aside0.mk (blk_below G8.out hb))
        replace hX := Aside0.mk (below_step hX.out hb)
        clear hb
        refine hK.out _ _ ?_ (fun hHeld => ?_)
        · exact hX.out
        clear hK K
        try simp only [Act.put, List.setIfInBounds_toArray, List.set_cons_zero, List.set_cons_succ]
        refine wpAnyH_ready (rs := [12]) (by kernel_rfl) (by simp) ?_
        refine AllReadyH.cons (o := { dst := some 8, op := Go.Op.alloc 53, type := 0, pos := "law.go:24", after := #[], guard := none }) rfl (fun K hK => ?_) AllReadyH.nil
        obtain ⟨g8, Y, e_, eY, hG, hB, hge8, hold⟩ := alloc_abs hX.out (.cells #[.int .i64 0, .int .i64 0] 53 (0, 0))
        go_simp
        (try simp only [e_, eY])
        (try have N7 := Aside0.mk (hold _ _ G7.out).2)
        (try replace G7 := Aside0.mk (hold _ _ G7.out).1)
        replace hX := Aside0.mk hB
        have G8 := Aside0.mk hG
        replace hge8 := Aside0.mk hge8
        clear hold hG hB e_ eY
        refine hK.out _ _ ?_ (fun hHeld => ?_)
        · exact hX.out
        clear hK K
        try simp only [Act.put, List.setIfInBounds_toArray, List.set_cons_zero, List.set_cons_succ]
        refine wpAnyH_ready (rs := [13]) (by kernel_rfl) (by simp) ?_
        refine AllReadyH.cons (o := { dst := none, op := Go.Op.store 53 (Go.Operand.tmp 7) (Go.Operand.tmp 19), type := 0, pos := "law.go:24", after := #[{ on := 11, ground := Go.Ground.data }, { on := 4, ground := Go.Ground.data }, { on := 10, ground := Go.Ground.chain }, { on := 0, ground := Go.Ground.phase }, { on := 1, ground := Go.Ground.phase }, { on := 2, ground := Go.Ground.phase }, { on := 3, ground := Go.Ground.phase }, { on := 4, ground := Go.Ground.phase }, { on := 5, ground := Go.Ground.textOnly Go.Departure.lateStores }, { on := 6, ground := Go.Ground.textOnly Go.Departure.lateStores }, { on := 7, ground := Go.Ground.textOnly Go.Departure.lateStores }, { on := 8, ground := Go.Ground.textOnly Go.Departure.lateStores }, { on := 9, ground := Go.Ground.textOnly Go.Departure.lateStores }, { on := 10, ground := Go.Ground.textOnly Go.Departure.lateStoresUnsure }, { on := 11, ground := Go.Ground.phase }, { on := 12, ground := Go.Ground.phase }], guard := none }) rfl (fun K hK => ?_) AllReadyH.nil
        (first | have N78 := Aside0.mk N7.out | have N78 := Aside0.mk N8.out.symm)
        have N87 := Aside0.mk N78.out.symm
        have hq0 := (blk_cell G7.out 0).trans rfl
        have hq1 := (blk_cell G7.out 1).trans rfl
        have hf0 := blk_frozen G7.out 0
        have hf1 := blk_frozen G7.out 1
        simp only [List.getElem?_toArray, List.getElem?_cons_zero, List.getElem?_cons_succ] at hq0 hq1
        go_simp
        replace G8 := Aside0.mk (blk_far (p := ⟨g7, 1, none⟩) (blk_far (p := ⟨g7, 0, none⟩) G8.out N87.out (.int .i64 x1)) N87.out (.int .i64 x2))
        replace G7 := Aside0.mk (blk_set (blk_set G7.out 0 (.int .i64 x1)) 1 (.int .i64 x2))
        replace hX := Aside0.mk ((hX.out.setCell (p := ⟨g7, 0, none⟩) hge7.out (.int .i64 x1)).setCell (p := ⟨g7, 1, none⟩) hge7.out (.int .i64 x2))
        clear hq0 hq1 hf0 hf1
        refine hK.out _ _ ?_ (fun hHeld => ?_)
        · exact hX.out
        clear hK K
        try simp only [Act.put, List.setIfInBounds_toArray, List.set_cons_zero, List.set_cons_succ]
        refine wpAnyH_ready (rs := [14]) (by kernel_rfl) (by simp) ?_
        refine AllReadyH.cons (o := { dst := none, op := Go.Op.store 53 (Go.Operand.tmp 8) (Go.Operand.tmp 25), type := 0, pos := "law.go:24", after := #[{ on := 12, ground := Go.Ground.data }, { on := 10, ground := Go.Ground.data }, { on := 13, ground := Go.Ground.chain }, { on := 0, ground := Go.Ground.phase }, { on := 1, ground := Go.Ground.phase }, { on := 2, ground := Go.Ground.phase }, { on := 3, ground := Go.Ground.phase }, { on := 4, ground := Go.Ground.phase }, { on := 5, ground := Go.Ground.phase }, { on := 6, ground := Go.Ground.phase }, { on := 7, ground := Go.Ground.phase }, { on := 8, ground := Go.Ground.phase }, { on := 9, ground := Go.Ground.phase }, { on := 10, ground := Go.Ground.phase }, { on := 11, ground := Go.Ground.phase }, { on := 12, ground := Go.Ground.phase }, { on := 13, ground := Go.Ground.phase }], guard := none }) rfl (fun K hK => ?_) AllReadyH.nil
        have hq0 := (blk_cell G8.out 0).trans rfl
        have hq1 := (blk_cell G8.out 1).trans rfl
        have hf0 := blk_frozen G8.out 0
        have hf1 := blk_frozen G8.out 1
        simp only [List.getElem?_toArray, List.getElem?_cons_zero, List.getElem?_cons_succ] at hq0 hq1
        go_simp
        replace G7 := Aside0.mk (blk_far (p := ⟨g8, 1, none⟩) (blk_far (p := ⟨g8, 0, none⟩) G7.out N78.out (.int .i64 y1)) N78.out (.int .i64 y2))
        replace G8 := Aside0.mk (blk_set (blk_set G8.out 0 (.int .i64 y1)) 1 (.int .i64 y2))
        replace hX := Aside0.mk ((hX.out.setCell (p := ⟨g8, 0, none⟩) hge8.out (.int .i64 y1)).setCell (p := ⟨g8, 1, none⟩) hge8.out (.int .i64 y2))
        clear hq0 hq1 hf0 hf1
        refine hK.out _ _ ?_ (fun hHeld => ?_)
        · exact hX.out
        clear hK K
        try simp only [Act.put, List.setIfInBounds_toArray, List.set_cons_zero, List.set_cons_succ]
        refine wpAnyH_done (by kernel_rfl) ?_ _
        try simp only [Act.put, List.setIfInBounds_toArray, List.set_cons_zero, List.set_cons_succ, List.getElem_toArray, List.getElem_cons_zero, List.getElem_cons_succ]
        refine NoPanic.normal ?_
        (try dsimp only [Exit.then])
        refine hKz.out _ _ ?_
        clear hHeld
        generalize World.setCell _ _ _ = Z at G7 G8 hX ⊢
        have h70 : Z.cell? ⟨g7, 0, none⟩ = some (.int .i64 x1) := (blk_cell G7.out 0).trans rfl
        have h71 : Z.cell? ⟨g7, 1, none⟩ = some (.int .i64 x2) := (blk_cell G7.out 1).trans rfl
        have h81 : Z.cell? ⟨g8, 1, none⟩ = some (.int .i64 y2) := (blk_cell G8.out 1).trans rfl
        have hr0 : Z.cell? ⟨w.heap.size + 1, 0, none⟩ = some (.int .i64 0) := (blk_cell (blk_below KR.out hX.out) 0).trans rfl
        have hr1 : Z.cell? ⟨w.heap.size + 1, 1, none⟩ = some (.int .i64 0) := (blk_cell (blk_below KR.out hX.out) 1).trans rfl
        have fr0 := blk_frozen (blk_below KR.out hX.out) 0
        have fr1 := blk_frozen (blk_below KR.out hX.out) 1
        clear G7 G8 hS0 hS1
        by_cases c7 : x2 = 0
        · have d7 : (x2 == 0) = true := by simp [c7]
          have hh := HR.out
          rw [if_pos (.inl c7)] at hh
          obtain ⟨rfl, rfl⟩ := Prod.mk.inj hh
          clear hh HR
          replace c7 := Aside0.mk c7
          go_wp2
          refine bodyPost_ret (results_cell_row rfl _ _ (w.heap.size + 1) 53 #[.int .i64 0, .int .i64 0] (0, 0) _ rfl (blk_set (blk_set (blk_below KR.out hX.out) 0 (.int .i64 0)) 1 (.int .i64 0)) Tryd.underlying53 rfl (by kernel_rfl)) rfl ?_
          exact ⟨by first | rfl | simp, ((below_step HB.out hX.out).setCell (p := ⟨w.heap.size + 1, 0, none⟩) (Nat.le_succ _) _).setCell (p := ⟨w.heap.size + 1, 1, none⟩) (Nat.le_succ _) _⟩
        · have d7 : (x2 == 0) = false := by simp [c7]
          by_cases c8 : y2 = 0
          · have d8 : (y2 == 0) = true := by simp [c8]
            have hh := HR.out
            rw [if_pos (.inr c8)] at hh
            obtain ⟨rfl, rfl⟩ := Prod.mk.inj hh
            clear hh HR
            replace c7 := Aside0.mk c7
            replace c8 := Aside0.mk c8
            go_wp2
            refine bodyPost_ret (results_cell_row rfl _ _ (w.heap.size + 1) 53 #[.int .i64 0, .int .i64 0] (0, 0) _ rfl (blk_set (blk_set (blk_below KR.out hX.out) 0 (.int .i64 0)) 1 (.int .i64 0)) Tryd.underlying53 rfl (by kernel_rfl)) rfl ?_
            exact ⟨by first | rfl | simp, ((below_step HB.out hX.out).setCell (p := ⟨w.heap.size + 1, 0, none⟩) (Nat.le_succ _) _).setCell (p := ⟨w.heap.size + 1, 1, none⟩) (Nat.le_succ _) _⟩
          · have d8 : (y2 == 0) = false := by simp [c8]
            have hh := HR.out
            rw [if_neg (fun h => h.elim c7 c8)] at hh
            obtain ⟨rfl, rfl⟩ := Prod.mk.inj hh
            clear hh HR
            replace c7 := Aside0.mk c7
            replace c8 := Aside0.mk c8
            go_wp2
            refine bodyPost_ret (results_cell_row rfl _ _ (w.heap.size + 1) 53 #[.int .i64 x1, .int .i64 y2] (0, 0) _ rfl (blk_set (blk_set (blk_below KR.out hX.out) 0 (.int .i64 x1)) 1 (.int .i64 y2)) Tryd.underlying53 rfl (by kernel_rfl)) rfl ?_
            exact ⟨by first | rfl | simp, ((below_step HB.out hX.out).setCell (p := ⟨w.heap.size + 1, 0, none⟩) (Nat.le_succ _) _).setCell (p := ⟨w.heap.size + 1, 1, none⟩) (Nat.le_succ _) _⟩
      · obtain ⟨g8, Y, e_, eY, hG, hB, hge8, hold⟩ := alloc_abs hX.out (.cells #[.int .i64 0, .int .i64 0] 53 (0, 0))
        go_simp
        (try simp only [e_, eY])
        (try have N7 := Aside0.mk (hold _ _ G7.out).2)
        (try replace G7 := Aside0.mk (hold _ _ G7.out).1)
        replace hX := Aside0.mk hB
        have G8 := Aside0.mk hG
        replace hge8 := Aside0.mk hge8
        clear hold hG hB e_ eY
        refine hK.out _ _ ?_ (fun hHeld => ?_)
        · exact hX.out
        clear hK K
        try simp only [Act.put, List.setIfInBounds_toArray, List.set_cons_zero, List.set_cons_succ]
        refine wpAnyH_ready (rs := [10]) (by kernel_rfl) (by simp) ?_
        refine AllReadyH.cons (o := { dst := some 25, op := Go.Op.call { callee := Go.Callee.value (Go.Operand.func 52), args := #[Go.Operand.tmp 22, Go.Operand.tmp 23, Go.Operand.tmp 24], argTypes := #[3, 3, 3] }, type := 53, pos := "law.go:24", after := #[{ on := 7, ground := Go.Ground.data }, { on := 8, ground := Go.Ground.data }, { on := 9, ground := Go.Ground.data }, { on := 4, ground := Go.Ground.chain }], guard := none }) rfl (fun K hK => ?_) AllReadyH.nil
        refine goes_ (N := some 25) («as» := #[.tmp 22, .tmp 23, .tmp 24]) Tryd.func52 (by kernel_rfl) rfl #[.int .i64 b1, .int .i64 n, .int .i64 s] (by kernel_rfl) rfl rfl (by kernel_rfl) ?_
        with_reducible refine (CB.out _).mono ?_
        rintro e X ⟨rfl, hb⟩
        refine ⟨_, rfl, ?_⟩
        (try replace G7 := Aside0.mk (blk_below G7.out hb))
        (try replace G8 := Aside0.mk (blk_below G8.out hb))
        replace hX := Aside0.mk (below_step hX.out hb)
        clear hb
        refine hK.out _ _ ?_ (fun hHeld => ?_)
        · exact hX.out
        clear hK K
        try simp only [Act.put, List.setIfInBounds_toArray, List.set_cons_zero, List.set_cons_succ]
        refine wpAnyH_ready (rs := [13]) (by kernel_rfl) (by simp) ?_
        refine AllReadyH.cons (o := { dst := none, op := Go.Op.store 53 (Go.Operand.tmp 7) (Go.Operand.tmp 19), type := 0, pos := "law.go:24", after := #[{ on := 11, ground := Go.Ground.data }, { on := 4, ground := Go.Ground.data }, { on := 10, ground := Go.Ground.chain }, { on := 0, ground := Go.Ground.phase }, { on := 1, ground := Go.Ground.phase }, { on := 2, ground := Go.Ground.phase }, { on := 3, ground := Go.Ground.phase }, { on := 4, ground := Go.Ground.phase }, { on := 5, ground := Go.Ground.textOnly Go.Departure.lateStores }, { on := 6, ground := Go.Ground.textOnly Go.Departure.lateStores }, { on := 7, ground := Go.Ground.textOnly Go.Departure.lateStores }, { on := 8, ground := Go.Ground.textOnly Go.Departure.lateStores }, { on := 9, ground := Go.Ground.textOnly Go.Departure.lateStores }, { on := 10, ground := Go.Ground.textOnly Go.Departure.lateStoresUnsure }, { on := 11, ground := Go.Ground.phase }, { on := 12, ground := Go.Ground.phase }], guard := none }) rfl (fun K hK => ?_) AllReadyH.nil
        (first | have N78 := Aside0.mk N7.out | have N78 := Aside0.mk N8.out.symm)
        have N87 := Aside0.mk N78.out.symm
        have hq0 := (blk_cell G7.out 0).trans rfl
        have hq1 := (blk_cell G7.out 1).trans rfl
        have hf0 := blk_frozen G7.out 0
        have hf1 := blk_frozen G7.out 1
        simp only [List.getElem?_toArray, List.getElem?_cons_zero, List.getElem?_cons_succ] at hq0 hq1
        go_simp
        replace G8 := Aside0.mk (blk_far (p := ⟨g7, 1, none⟩) (blk_far (p := ⟨g7, 0, none⟩) G8.out N87.out (.int .i64 x1)) N87.out (.int .i64 x2))
        replace G7 := Aside0.mk (blk_set (blk_set G7.out 0 (.int .i64 x1)) 1 (.int .i64 x2))
        replace hX := Aside0.mk ((hX.out.setCell (p := ⟨g7, 0, none⟩) hge7.out (.int .i64 x1)).setCell (p := ⟨g7, 1, none⟩) hge7.out (.int .i64 x2))
        clear hq0 hq1 hf0 hf1
        refine hK.out _ _ ?_ (fun hHeld => ?_)
        · exact hX.out
        clear hK K
        try simp only [Act.put, List.setIfInBounds_toArray, List.set_cons_zero, List.set_cons_succ]
        refine wpAnyH_ready (rs := [14]) (by kernel_rfl) (by simp) ?_
        refine AllReadyH.cons (o := { dst := none, op := Go.Op.store 53 (Go.Operand.tmp 8) (Go.Operand.tmp 25), type := 0, pos := "law.go:24", after := #[{ on := 12, ground := Go.Ground.data }, { on := 10, ground := Go.Ground.data }, { on := 13, ground := Go.Ground.chain }, { on := 0, ground := Go.Ground.phase }, { on := 1, ground := Go.Ground.phase }, { on := 2, ground := Go.Ground.phase }, { on := 3, ground := Go.Ground.phase }, { on := 4, ground := Go.Ground.phase }, { on := 5, ground := Go.Ground.phase }, { on := 6, ground := Go.Ground.phase }, { on := 7, ground := Go.Ground.phase }, { on := 8, ground := Go.Ground.phase }, { on := 9, ground := Go.Ground.phase }, { on := 10, ground := Go.Ground.phase }, { on := 11, ground := Go.Ground.phase }, { on := 12, ground := Go.Ground.phase }, { on := 13, ground := Go.Ground.phase }], guard := none }) rfl (fun K hK => ?_) AllReadyH.nil
        have hq0 := (blk_cell G8.out 0).trans rfl
        have hq1 := (blk_cell G8.out 1).trans rfl
        have hf0 := blk_frozen G8.out 0
        have hf1 := blk_frozen G8.out 1
        simp only [List.getElem?_toArray, List.getElem?_cons_zero, List.getElem?_cons_succ] at hq0 hq1
        go_simp
        replace G7 := Aside0.mk (blk_far (p := ⟨g8, 1, none⟩) (blk_far (p := ⟨g8, 0, none⟩) G7.out N78.out (.int .i64 y1)) N78.out (.int .i64 y2))
        replace G8 := Aside0.mk (blk_set (blk_set G8.out 0 (.int .i64 y1)) 1 (.int .i64 y2))
        replace hX := Aside0.mk ((hX.out.setCell (p := ⟨g8, 0, none⟩) hge8.out (.int .i64 y1)).setCell (p := ⟨g8, 1, none⟩) hge8.out (.int .i64 y2))
        clear hq0 hq1 hf0 hf1
        refine hK.out _ _ ?_ (fun hHeld => ?_)
        · exact hX.out
        clear hK K
        try simp only [Act.put, List.setIfInBounds_toArray, List.set_cons_zero, List.set_cons_succ]
        refine wpAnyH_done (by kernel_rfl) ?_ _
        try simp only [Act.put, List.setIfInBounds_toArray, List.set_cons_zero, List.set_cons_succ, List.getElem_toArray, List.getElem_cons_zero, List.getElem_cons_succ]
        refine NoPanic.normal ?_
        (try dsimp only [Exit.then])
        refine hKz.out _ _ ?_
        clear hHeld
        generalize World.setCell _ _ _ = Z at G7 G8 hX ⊢
        have h70 : Z.cell? ⟨g7, 0, none⟩ = some (.int .i64 x1) := (blk_cell G7.out 0).trans rfl
        have h71 : Z.cell? ⟨g7, 1, none⟩ = some (.int .i64 x2) := (blk_cell G7.out 1).trans rfl
        have h81 : Z.cell? ⟨g8, 1, none⟩ = some (.int .i64 y2) := (blk_cell G8.out 1).trans rfl
        have hr0 : Z.cell? ⟨w.heap.size + 1, 0, none⟩ = some (.int .i64 0) := (blk_cell (blk_below KR.out hX.out) 0).trans rfl
        have hr1 : Z.cell? ⟨w.heap.size + 1, 1, none⟩ = some (.int .i64 0) := (blk_cell (blk_below KR.out hX.out) 1).trans rfl
        have fr0 := blk_frozen (blk_below KR.out hX.out) 0
        have fr1 := blk_frozen (blk_below KR.out hX.out) 1
        clear G7 G8 hS0 hS1
        by_cases c7 : x2 = 0
        · have d7 : (x2 == 0) = true := by simp [c7]
          have hh := HR.out
          rw [if_pos (.inl c7)] at hh
          obtain ⟨rfl, rfl⟩ := Prod.mk.inj hh
          clear hh HR
          replace c7 := Aside0.mk c7
          go_wp2
          refine bodyPost_ret (results_cell_row rfl _ _ (w.heap.size + 1) 53 #[.int .i64 0, .int .i64 0] (0, 0) _ rfl (blk_set (blk_set (blk_below KR.out hX.out) 0 (.int .i64 0)) 1 (.int .i64 0)) Tryd.underlying53 rfl (by kernel_rfl)) rfl ?_
          exact ⟨by first | rfl | simp, ((below_step HB.out hX.out).setCell (p := ⟨w.heap.size + 1, 0, none⟩) (Nat.le_succ _) _).setCell (p := ⟨w.heap.size + 1, 1, none⟩) (Nat.le_succ _) _⟩
        · have d7 : (x2 == 0) = false := by simp [c7]
          by_cases c8 : y2 = 0
          · have d8 : (y2 == 0) = true := by simp [c8]
            have hh := HR.out
            rw [if_pos (.inr c8)] at hh
            obtain ⟨rfl, rfl⟩ := Prod.mk.inj hh
            clear hh HR
            replace c7 := Aside0.mk c7
            replace c8 := Aside0.mk c8
            go_wp2
            refine bodyPost_ret (results_cell_row rfl _ _ (w.heap.size + 1) 53 #[.int .i64 0, .int .i64 0] (0, 0) _ rfl (blk_set (blk_set (blk_below KR.out hX.out) 0 (.int .i64 0)) 1 (.int .i64 0)) Tryd.underlying53 rfl (by kernel_rfl)) rfl ?_
            exact ⟨by first | rfl | simp, ((below_step HB.out hX.out).setCell (p := ⟨w.heap.size + 1, 0, none⟩) (Nat.le_succ _) _).setCell (p := ⟨w.heap.size + 1, 1, none⟩) (Nat.le_succ _) _⟩
          · have d8 : (y2 == 0) = false := by simp [c8]
            have hh := HR.out
            rw [if_neg (fun h => h.elim c7 c8)] at hh
            obtain ⟨rfl, rfl⟩ := Prod.mk.inj hh
            clear hh HR
            replace c7 := Aside0.mk c7
            replace c8 := Aside0.mk c8
            go_wp2
            refine bodyPost_ret (results_cell_row rfl _ _ (w.heap.size + 1) 53 #[.int .i64 x1, .int .i64 y2] (0, 0) _ rfl (blk_set (blk_set (blk_below KR.out hX.out) 0 (.int .i64 x1)) 1 (.int .i64 y2)) Tryd.underlying53 rfl (by kernel_rfl)) rfl ?_
            exact ⟨by first | rfl | simp, ((below_step HB.out hX.out).setCell (p := ⟨w.heap.size + 1, 0, none⟩) (Nat.le_succ _) _).setCell (p := ⟨w.heap.size + 1, 1, none⟩) (Nat.le_succ _) _⟩
    · obtain ⟨g8, Y, e_, eY, hG, hB, hge8, hold⟩ := alloc_abs hX.out (.cells #[.int .i64 0, .int .i64 0] 53 (0, 0))
      go_simp
      (try simp only [e_, eY])
      (try have N7 := Aside0.mk (hold _ _ G7.out).2)
      (try replace G7 := Aside0.mk (hold _ _ G7.out).1)
      replace hX := Aside0.mk hB
      have G8 := Aside0.mk hG
      replace hge8 := Aside0.mk hge8
      clear hold hG hB e_ eY
      refine hK.out _ _ ?_ (fun hHeld => ?_)
      · exact hX.out
      clear hK K
      try simp only [Act.put, List.setIfInBounds_toArray, List.set_cons_zero, List.set_cons_succ]
      refine wpAnyH_ready (rs := [4]) (by kernel_rfl) (by simp) ?_
      refine AllReadyH.cons (o := { dst := some 19, op := Go.Op.call { callee := Go.Callee.value (Go.Operand.func 52), args := #[Go.Operand.tmp 16, Go.Operand.tmp 17, Go.Operand.tmp 18], argTypes := #[3, 3, 3] }, type := 53, pos := "law.go:24", after := #[{ on := 1, ground := Go.Ground.data }, { on := 2, ground := Go.Ground.data }, { on := 3, ground := Go.Ground.data }], guard := none }) rfl (fun K hK => ?_) AllReadyH.nil
      refine goes_ (N := some 19) («as» := #[.tmp 16, .tmp 17, .tmp 18]) Tryd.func52 (by kernel_rfl) rfl #[.int .i64 a0, .int .i64 n, .int .i64 s] (by kernel_rfl) rfl rfl (by kernel_rfl) ?_
      with_reducible refine (CA.out _).mono ?_
      rintro e X ⟨rfl, hb⟩
      refine ⟨_, rfl, ?_⟩
      (try replace G7 := Aside0.mk (blk_below G7.out hb))
      (try replace G8 := Aside0.mk (blk_below G8.out hb))
      replace hX := Aside0.mk (below_step hX.out hb)
      clear hb
      refine hK.out _ _ ?_ (fun hHeld => ?_)
      · exact hX.out
      clear hK K
      try simp only [Act.put, List.setIfInBounds_toArray, List.set_cons_zero, List.set_cons_succ]
      refine wpAnyH_ready (rs := [10]) (by kernel_rfl) (by simp) ?_
      refine AllReadyH.cons (o := { dst := some 25, op := Go.Op.call { callee := Go.Callee.value (Go.Operand.func 52), args := #[Go.Operand.tmp 22, Go.Operand.tmp 23, Go.Operand.tmp 24], argTypes := #[3, 3, 3] }, type := 53, pos := "law.go:24", after := #[{ on := 7, ground := Go.Ground.data }, { on := 8, ground := Go.Ground.data }, { on := 9, ground := Go.Ground.data }, { on := 4, ground := Go.Ground.chain }], guard := none }) rfl (fun K hK => ?_) AllReadyH.nil
      refine goes_ (N := some 25) («as» := #[.tmp 22, .tmp 23, .tmp 24]) Tryd.func52 (by kernel_rfl) rfl #[.int .i64 b1, .int .i64 n, .int .i64 s] (by kernel_rfl) rfl rfl (by kernel_rfl) ?_
      with_reducible refine (CB.out _).mono ?_
      rintro e X ⟨rfl, hb⟩
      refine ⟨_, rfl, ?_⟩
      (try replace G7 := Aside0.mk (blk_below G7.out hb))
      (try replace G8 := Aside0.mk (blk_below G8.out hb))
      replace hX := Aside0.mk (below_step hX.out hb)
      clear hb
      refine hK.out _ _ ?_ (fun hHeld => ?_)
      · exact hX.out
      clear hK K
      try simp only [Act.put, List.setIfInBounds_toArray, List.set_cons_zero, List.set_cons_succ]
      refine wpAnyH_ready (rs := [13]) (by kernel_rfl) (by simp) ?_
      refine AllReadyH.cons (o := { dst := none, op := Go.Op.store 53 (Go.Operand.tmp 7) (Go.Operand.tmp 19), type := 0, pos := "law.go:24", after := #[{ on := 11, ground := Go.Ground.data }, { on := 4, ground := Go.Ground.data }, { on := 10, ground := Go.Ground.chain }, { on := 0, ground := Go.Ground.phase }, { on := 1, ground := Go.Ground.phase }, { on := 2, ground := Go.Ground.phase }, { on := 3, ground := Go.Ground.phase }, { on := 4, ground := Go.Ground.phase }, { on := 5, ground := Go.Ground.textOnly Go.Departure.lateStores }, { on := 6, ground := Go.Ground.textOnly Go.Departure.lateStores }, { on := 7, ground := Go.Ground.textOnly Go.Departure.lateStores }, { on := 8, ground := Go.Ground.textOnly Go.Departure.lateStores }, { on := 9, ground := Go.Ground.textOnly Go.Departure.lateStores }, { on := 10, ground := Go.Ground.textOnly Go.Departure.lateStoresUnsure }, { on := 11, ground := Go.Ground.phase }, { on := 12, ground := Go.Ground.phase }], guard := none }) rfl (fun K hK => ?_) AllReadyH.nil
      (first | have N78 := Aside0.mk N7.out | have N78 := Aside0.mk N8.out.symm)
      have N87 := Aside0.mk N78.out.symm
      have hq0 := (blk_cell G7.out 0).trans rfl
      have hq1 := (blk_cell G7.out 1).trans rfl
      have hf0 := blk_frozen G7.out 0
      have hf1 := blk_frozen G7.out 1
      simp only [List.getElem?_toArray, List.getElem?_cons_zero, List.getElem?_cons_succ] at hq0 hq1
      go_simp
      replace G8 := Aside0.mk (blk_far (p := ⟨g7, 1, none⟩) (blk_far (p := ⟨g7, 0, none⟩) G8.out N87.out (.int .i64 x1)) N87.out (.int .i64 x2))
      replace G7 := Aside0.mk (blk_set (blk_set G7.out 0 (.int .i64 x1)) 1 (.int .i64 x2))
      replace hX := Aside0.mk ((hX.out.setCell (p := ⟨g7, 0, none⟩) hge7.out (.int .i64 x1)).setCell (p := ⟨g7, 1, none⟩) hge7.out (.int .i64 x2))
      clear hq0 hq1 hf0 hf1
      refine hK.out _ _ ?_ (fun hHeld => ?_)
      · exact hX.out
      clear hK K
      try simp only [Act.put, List.setIfInBounds_toArray, List.set_cons_zero, List.set_cons_succ]
      refine wpAnyH_ready (rs := [14]) (by kernel_rfl) (by simp) ?_
      refine AllReadyH.cons (o := { dst := none, op := Go.Op.store 53 (Go.Operand.tmp 8) (Go.Operand.tmp 25), type := 0, pos := "law.go:24", after := #[{ on := 12, ground := Go.Ground.data }, { on := 10, ground := Go.Ground.data }, { on := 13, ground := Go.Ground.chain }, { on := 0, ground := Go.Ground.phase }, { on := 1, ground := Go.Ground.phase }, { on := 2, ground := Go.Ground.phase }, { on := 3, ground := Go.Ground.phase }, { on := 4, ground := Go.Ground.phase }, { on := 5, ground := Go.Ground.phase }, { on := 6, ground := Go.Ground.phase }, { on := 7, ground := Go.Ground.phase }, { on := 8, ground := Go.Ground.phase }, { on := 9, ground := Go.Ground.phase }, { on := 10, ground := Go.Ground.phase }, { on := 11, ground := Go.Ground.phase }, { on := 12, ground := Go.Ground.phase }, { on := 13, ground := Go.Ground.phase }], guard := none }) rfl (fun K hK => ?_) AllReadyH.nil
      have hq0 := (blk_cell G8.out 0).trans rfl
      have hq1 := (blk_cell G8.out 1).trans rfl
      have hf0 := blk_frozen G8.out 0
      have hf1 := blk_frozen G8.out 1
      simp only [List.getElem?_toArray, List.getElem?_cons_zero, List.getElem?_cons_succ] at hq0 hq1
      go_simp
      replace G7 := Aside0.mk (blk_far (p := ⟨g8, 1, none⟩) (blk_far (p := ⟨g8, 0, none⟩) G7.out N78.out (.int .i64 y1)) N78.out (.int .i64 y2))
      replace G8 := Aside0.mk (blk_set (blk_set G8.out 0 (.int .i64 y1)) 1 (.int .i64 y2))
      replace hX := Aside0.mk ((hX.out.setCell (p := ⟨g8, 0, none⟩) hge8.out (.int .i64 y1)).setCell (p := ⟨g8, 1, none⟩) hge8.out (.int .i64 y2))
      clear hq0 hq1 hf0 hf1
      refine hK.out _ _ ?_ (fun hHeld => ?_)
      · exact hX.out
      clear hK K
      try simp only [Act.put, List.setIfInBounds_toArray, List.set_cons_zero, List.set_cons_succ]
      refine wpAnyH_done (by kernel_rfl) ?_ _
      try simp only [Act.put, List.setIfInBounds_toArray, List.set_cons_zero, List.set_cons_succ, List.getElem_toArray, List.getElem_cons_zero, List.getElem_cons_succ]
      refine NoPanic.normal ?_
      (try dsimp only [Exit.then])
      refine hKz.out _ _ ?_
      clear hHeld
      generalize World.setCell _ _ _ = Z at G7 G8 hX ⊢
      have h70 : Z.cell? ⟨g7, 0, none⟩ = some (.int .i64 x1) := (blk_cell G7.out 0).trans rfl
      have h71 : Z.cell? ⟨g7, 1, none⟩ = some (.int .i64 x2) := (blk_cell G7.out 1).trans rfl
      have h81 : Z.cell? ⟨g8, 1, none⟩ = some (.int .i64 y2) := (blk_cell G8.out 1).trans rfl
      have hr0 : Z.cell? ⟨w.heap.size + 1, 0, none⟩ = some (.int .i64 0) := (blk_cell (blk_below KR.out hX.out) 0).trans rfl
      have hr1 : Z.cell? ⟨w.heap.size + 1, 1, none⟩ = some (.int .i64 0) := (blk_cell (blk_below KR.out hX.out) 1).trans rfl
      have fr0 := blk_frozen (blk_below KR.out hX.out) 0
      have fr1 := blk_frozen (blk_below KR.out hX.out) 1
      clear G7 G8 hS0 hS1
      by_cases c7 : x2 = 0
      · have d7 : (x2 == 0) = true := by simp [c7]
        have hh := HR.out
        rw [if_pos (.inl c7)] at hh
        obtain ⟨rfl, rfl⟩ := Prod.mk.inj hh
        clear hh HR
        replace c7 := Aside0.mk c7
        go_wp2
        refine bodyPost_ret (results_cell_row rfl _ _ (w.heap.size + 1) 53 #[.int .i64 0, .int .i64 0] (0, 0) _ rfl (blk_set (blk_set (blk_below KR.out hX.out) 0 (.int .i64 0)) 1 (.int .i64 0)) Tryd.underlying53 rfl (by kernel_rfl)) rfl ?_
        exact ⟨by first | rfl | simp, ((below_step HB.out hX.out).setCell (p := ⟨w.heap.size + 1, 0, none⟩) (Nat.le_succ _) _).setCell (p := ⟨w.heap.size + 1, 1, none⟩) (Nat.le_succ _) _⟩
      · have d7 : (x2 == 0) = false := by simp [c7]
        by_cases c8 : y2 = 0
        · have d8 : (y2 == 0) = true := by simp [c8]
          have hh := HR.out
          rw [if_pos (.inr c8)] at hh
          obtain ⟨rfl, rfl⟩ := Prod.mk.inj hh
          clear hh HR
          replace c7 := Aside0.mk c7
          replace c8 := Aside0.mk c8
          go_wp2
          refine bodyPost_ret (results_cell_row rfl _ _ (w.heap.size + 1) 53 #[.int .i64 0, .int .i64 0] (0, 0) _ rfl (blk_set (blk_set (blk_below KR.out hX.out) 0 (.int .i64 0)) 1 (.int .i64 0)) Tryd.underlying53 rfl (by kernel_rfl)) rfl ?_
          exact ⟨by first | rfl | simp, ((below_step HB.out hX.out).setCell (p := ⟨w.heap.size + 1, 0, none⟩) (Nat.le_succ _) _).setCell (p := ⟨w.heap.size + 1, 1, none⟩) (Nat.le_succ _) _⟩
        · have d8 : (y2 == 0) = false := by simp [c8]
          have hh := HR.out
          rw [if_neg (fun h => h.elim c7 c8)] at hh
          obtain ⟨rfl, rfl⟩ := Prod.mk.inj hh
          clear hh HR
          replace c7 := Aside0.mk c7
          replace c8 := Aside0.mk c8
          go_wp2
          refine bodyPost_ret (results_cell_row rfl _ _ (w.heap.size + 1) 53 #[.int .i64 x1, .int .i64 y2] (0, 0) _ rfl (blk_set (blk_set (blk_below KR.out hX.out) 0 (.int .i64 x1)) 1 (.int .i64 y2)) Tryd.underlying53 rfl (by kernel_rfl)) rfl ?_
          exact ⟨by first | rfl | simp, ((below_step HB.out hX.out).setCell (p := ⟨w.heap.size + 1, 0, none⟩) (Nat.le_succ _) _).setCell (p := ⟨w.heap.size + 1, 1, none⟩) (Nat.le_succ _) _⟩
  · obtain ⟨g8, Y, e_, eY, hG, hB, hge8, hold⟩ := alloc_abs hX.out (.cells #[.int .i64 0, .int .i64 0] 53 (0, 0))
    go_simp
    (try simp only [e_, eY])
    (try have N7 := Aside0.mk (hold _ _ G7.out).2)
    (try replace G7 := Aside0.mk (hold _ _ G7.out).1)
    replace hX := Aside0.mk hB
    have G8 := Aside0.mk hG
    replace hge8 := Aside0.mk hge8
    clear hold hG hB e_ eY
    refine hK.out _ _ ?_ (fun hHeld => ?_)
    · exact hX.out
    clear hK K
    try simp only [Act.put, List.setIfInBounds_toArray, List.set_cons_zero, List.set_cons_succ]
    refine wpAnyH_ready (rs := [4, 11]) (by kernel_rfl) (by simp) ?_
    refine AllReadyH.cons (o := { dst := some 19, op := Go.Op.call { callee := Go.Callee.value (Go.Operand.func 52), args := #[Go.Operand.tmp 16, Go.Operand.tmp 17, Go.Operand.tmp 18], argTypes := #[3, 3, 3] }, type := 53, pos := "law.go:24", after := #[{ on := 1, ground := Go.Ground.data }, { on := 2, ground := Go.Ground.data }, { on := 3, ground := Go.Ground.data }], guard := none }) rfl (fun K hK => ?_) (AllReadyH.cons (o := { dst := some 7, op := Go.Op.alloc 53, type := 0, pos := "law.go:24", after := #[], guard := none }) rfl (fun K hK => ?_) AllReadyH.nil)
    · refine goes_ (N := some 19) («as» := #[.tmp 16, .tmp 17, .tmp 18]) Tryd.func52 (by kernel_rfl) rfl #[.int .i64 a0, .int .i64 n, .int .i64 s] (by kernel_rfl) rfl rfl (by kernel_rfl) ?_
      with_reducible refine (CA.out _).mono ?_
      rintro e X ⟨rfl, hb⟩
      refine ⟨_, rfl, ?_⟩
      (try replace G7 := Aside0.mk (blk_below G7.out hb))
      (try replace G8 := Aside0.mk (blk_below G8.out hb))
      replace hX := Aside0.mk (below_step hX.out hb)
      clear hb
      refine hK.out _ _ ?_ (fun hHeld => ?_)
      · exact hX.out
      clear hK K
      try simp only [Act.put, List.setIfInBounds_toArray, List.set_cons_zero, List.set_cons_succ]
      refine wpAnyH_ready (rs := [10, 11]) (by kernel_rfl) (by simp) ?_
      refine AllReadyH.cons (o := { dst := some 25, op := Go.Op.call { callee := Go.Callee.value (Go.Operand.func 52), args := #[Go.Operand.tmp 22, Go.Operand.tmp 23, Go.Operand.tmp 24], argTypes := #[3, 3, 3] }, type := 53, pos := "law.go:24", after := #[{ on := 7, ground := Go.Ground.data }, { on := 8, ground := Go.Ground.data }, { on := 9, ground := Go.Ground.data }, { on := 4, ground := Go.Ground.chain }], guard := none }) rfl (fun K hK => ?_) (AllReadyH.cons (o := { dst := some 7, op := Go.Op.alloc 53, type := 0, pos := "law.go:24", after := #[], guard := none }) rfl (fun K hK => ?_) AllReadyH.nil)
      · refine goes_ (N := some 25) («as» := #[.tmp 22, .tmp 23, .tmp 24]) Tryd.func52 (by kernel_rfl) rfl #[.int .i64 b1, .int .i64 n, .int .i64 s] (by kernel_rfl) rfl rfl (by kernel_rfl) ?_
        with_reducible refine (CB.out _).mono ?_
        rintro e X ⟨rfl, hb⟩
        refine ⟨_, rfl, ?_⟩
        (try replace G7 := Aside0.mk (blk_below G7.out hb))
        (try replace G8 := Aside0.mk (blk_below G8.out hb))
        replace hX := Aside0.mk (below_step hX.out hb)
        clear hb
        refine hK.out _ _ ?_ (fun hHeld => ?_)
        · exact hX.out
        clear hK K
        try simp only [Act.put, List.setIfInBounds_toArray, List.set_cons_zero, List.set_cons_succ]
        refine wpAnyH_ready (rs := [11]) (by kernel_rfl) (by simp) ?_
        refine AllReadyH.cons (o := { dst := some 7, op := Go.Op.alloc 53, type := 0, pos := "law.go:24", after := #[], guard := none }) rfl (fun K hK => ?_) AllReadyH.nil
        obtain ⟨g7, Y, e_, eY, hG, hB, hge7, hold⟩ := alloc_abs hX.out (.cells #[.int .i64 0, .int .i64 0] 53 (0, 0))
        go_simp
        (try simp only [e_, eY])
        (try have N8 := Aside0.mk (hold _ _ G8.out).2)
        (try replace G8 := Aside0.mk (hold _ _ G8.out).1)
        replace hX := Aside0.mk hB
        have G7 := Aside0.mk hG
        replace hge7 := Aside0.mk hge7
        clear hold hG hB e_ eY
        refine hK.out _ _ ?_ (fun hHeld => ?_)
        · exact hX.out
        clear hK K
        try simp only [Act.put, List.setIfInBounds_toArray, List.set_cons_zero, List.set_cons_succ]
        refine wpAnyH_ready (rs := [13]) (by kernel_rfl) (by simp) ?_
        refine AllReadyH.cons (o := { dst := none, op := Go.Op.store 53 (Go.Operand.tmp 7) (Go.Operand.tmp 19), type := 0, pos := "law.go:24", after := #[{ on := 11, ground := Go.Ground.data }, { on := 4, ground := Go.Ground.data }, { on := 10, ground := Go.Ground.chain }, { on := 0, ground := Go.Ground.phase }, { on := 1, ground := Go.Ground.phase }, { on := 2, ground := Go.Ground.phase }, { on := 3, ground := Go.Ground.phase }, { on := 4, ground := Go.Ground.phase }, { on := 5, ground := Go.Ground.textOnly Go.Departure.lateStores }, { on := 6, ground := Go.Ground.textOnly Go.Departure.lateStores }, { on := 7, ground := Go.Ground.textOnly Go.Departure.lateStores }, { on := 8, ground := Go.Ground.textOnly Go.Departure.lateStores }, { on := 9, ground := Go.Ground.textOnly Go.Departure.lateStores }, { on := 10, ground := Go.Ground.textOnly Go.Departure.lateStoresUnsure }, { on := 11, ground := Go.Ground.phase }, { on := 12, ground := Go.Ground.phase }], guard := none }) rfl (fun K hK => ?_) AllReadyH.nil
        (first | have N78 := Aside0.mk N7.out | have N78 := Aside0.mk N8.out.symm)
        have N87 := Aside0.mk N78.out.symm
        have hq0 := (blk_cell G7.out 0).trans rfl
        have hq1 := (blk_cell G7.out 1).trans rfl
        have hf0 := blk_frozen G7.out 0
        have hf1 := blk_frozen G7.out 1
        simp only [List.getElem?_toArray, List.getElem?_cons_zero, List.getElem?_cons_succ] at hq0 hq1
        go_simp
        replace G8 := Aside0.mk (blk_far (p := ⟨g7, 1, none⟩) (blk_far (p := ⟨g7, 0, none⟩) G8.out N87.out (.int .i64 x1)) N87.out (.int .i64 x2))
        replace G7 := Aside0.mk (blk_set (blk_set G7.out 0 (.int .i64 x1)) 1 (.int .i64 x2))
        replace hX := Aside0.mk ((hX.out.setCell (p := ⟨g7, 0, none⟩) hge7.out (.int .i64 x1)).setCell (p := ⟨g7, 1, none⟩) hge7.out (.int .i64 x2))
        clear hq0 hq1 hf0 hf1
        refine hK.out _ _ ?_ (fun hHeld => ?_)
        · exact hX.out
        clear hK K
        try simp only [Act.put, List.setIfInBounds_toArray, List.set_cons_zero, List.set_cons_succ]
        refine wpAnyH_ready (rs := [14]) (by kernel_rfl) (by simp) ?_
        refine AllReadyH.cons (o := { dst := none, op := Go.Op.store 53 (Go.Operand.tmp 8) (Go.Operand.tmp 25), type := 0, pos := "law.go:24", after := #[{ on := 12, ground := Go.Ground.data }, { on := 10, ground := Go.Ground.data }, { on := 13, ground := Go.Ground.chain }, { on := 0, ground := Go.Ground.phase }, { on := 1, ground := Go.Ground.phase }, { on := 2, ground := Go.Ground.phase }, { on := 3, ground := Go.Ground.phase }, { on := 4, ground := Go.Ground.phase }, { on := 5, ground := Go.Ground.phase }, { on := 6, ground := Go.Ground.phase }, { on := 7, ground := Go.Ground.phase }, { on := 8, ground := Go.Ground.phase }, { on := 9, ground := Go.Ground.phase }, { on := 10, ground := Go.Ground.phase }, { on := 11, ground := Go.Ground.phase }, { on := 12, ground := Go.Ground.phase }, { on := 13, ground := Go.Ground.phase }], guard := none }) rfl (fun K hK => ?_) AllReadyH.nil
        have hq0 := (blk_cell G8.out 0).trans rfl
        have hq1 := (blk_cell G8.out 1).trans rfl
        have hf0 := blk_frozen G8.out 0
        have hf1 := blk_frozen G8.out 1
        simp only [List.getElem?_toArray, List.getElem?_cons_zero, List.getElem?_cons_succ] at hq0 hq1
        go_simp
        replace G7 := Aside0.mk (blk_far (p := ⟨g8, 1, none⟩) (blk_far (p := ⟨g8, 0, none⟩) G7.out N78.out (.int .i64 y1)) N78.out (.int .i64 y2))
        replace G8 := Aside0.mk (blk_set (blk_set G8.out 0 (.int .i64 y1)) 1 (.int .i64 y2))
        replace hX := Aside0.mk ((hX.out.setCell (p := ⟨g8, 0, none⟩) hge8.out (.int .i64 y1)).setCell (p := ⟨g8, 1, none⟩) hge8.out (.int .i64 y2))
        clear hq0 hq1 hf0 hf1
        refine hK.out _ _ ?_ (fun hHeld => ?_)
        · exact hX.out
        clear hK K
        try simp only [Act.put, List.setIfInBounds_toArray, List.set_cons_zero, List.set_cons_succ]
        refine wpAnyH_done (by kernel_rfl) ?_ _
        try simp only [Act.put, List.setIfInBounds_toArray, List.set_cons_zero, List.set_cons_succ, List.getElem_toArray, List.getElem_cons_zero, List.getElem_cons_succ]
        refine NoPanic.normal ?_
        (try dsimp only [Exit.then])
        refine hKz.out _ _ ?_
        clear hHeld
        generalize World.setCell _ _ _ = Z at G7 G8 hX ⊢
        have h70 : Z.cell? ⟨g7, 0, none⟩ = some (.int .i64 x1) := (blk_cell G7.out 0).trans rfl
        have h71 : Z.cell? ⟨g7, 1, none⟩ = some (.int .i64 x2) := (blk_cell G7.out 1).trans rfl
        have h81 : Z.cell? ⟨g8, 1, none⟩ = some (.int .i64 y2) := (blk_cell G8.out 1).trans rfl
        have hr0 : Z.cell? ⟨w.heap.size + 1, 0, none⟩ = some (.int .i64 0) := (blk_cell (blk_below KR.out hX.out) 0).trans rfl
        have hr1 : Z.cell? ⟨w.heap.size + 1, 1, none⟩ = some (.int .i64 0) := (blk_cell (blk_below KR.out hX.out) 1).trans rfl
        have fr0 := blk_frozen (blk_below KR.out hX.out) 0
        have fr1 := blk_frozen (blk_below KR.out hX.out) 1
        clear G7 G8 hS0 hS1
        by_cases c7 : x2 = 0
        · have d7 : (x2 == 0) = true := by simp [c7]
          have hh := HR.out
          rw [if_pos (.inl c7)] at hh
          obtain ⟨rfl, rfl⟩ := Prod.mk.inj hh
          clear hh HR
          replace c7 := Aside0.mk c7
          go_wp2
          refine bodyPost_ret (results_cell_row rfl _ _ (w.heap.size + 1) 53 #[.int .i64 0, .int .i64 0] (0, 0) _ rfl (blk_set (blk_set (blk_below KR.out hX.out) 0 (.int .i64 0)) 1 (.int .i64 0)) Tryd.underlying53 rfl (by kernel_rfl)) rfl ?_
          exact ⟨by first | rfl | simp, ((below_step HB.out hX.out).setCell (p := ⟨w.heap.size + 1, 0, none⟩) (Nat.le_succ _) _).setCell (p := ⟨w.heap.size + 1, 1, none⟩) (Nat.le_succ _) _⟩
        · have d7 : (x2 == 0) = false := by simp [c7]
          by_cases c8 : y2 = 0
          · have d8 : (y2 == 0) = true := by simp [c8]
            have hh := HR.out
            rw [if_pos (.inr c8)] at hh
            obtain ⟨rfl, rfl⟩ := Prod.mk.inj hh
            clear hh HR
            replace c7 := Aside0.mk c7
            replace c8 := Aside0.mk c8
            go_wp2
            refine bodyPost_ret (results_cell_row rfl _ _ (w.heap.size + 1) 53 #[.int .i64 0, .int .i64 0] (0, 0) _ rfl (blk_set (blk_set (blk_below KR.out hX.out) 0 (.int .i64 0)) 1 (.int .i64 0)) Tryd.underlying53 rfl (by kernel_rfl)) rfl ?_
            exact ⟨by first | rfl | simp, ((below_step HB.out hX.out).setCell (p := ⟨w.heap.size + 1, 0, none⟩) (Nat.le_succ _) _).setCell (p := ⟨w.heap.size + 1, 1, none⟩) (Nat.le_succ _) _⟩
          · have d8 : (y2 == 0) = false := by simp [c8]
            have hh := HR.out
            rw [if_neg (fun h => h.elim c7 c8)] at hh
            obtain ⟨rfl, rfl⟩ := Prod.mk.inj hh
            clear hh HR
            replace c7 := Aside0.mk c7
            replace c8 := Aside0.mk c8
            go_wp2
            refine bodyPost_ret (results_cell_row rfl _ _ (w.heap.size + 1) 53 #[.int .i64 x1, .int .i64 y2] (0, 0) _ rfl (blk_set (blk_set (blk_below KR.out hX.out) 0 (.int .i64 x1)) 1 (.int .i64 y2)) Tryd.underlying53 rfl (by kernel_rfl)) rfl ?_
            exact ⟨by first | rfl | simp, ((below_step HB.out hX.out).setCell (p := ⟨w.heap.size + 1, 0, none⟩) (Nat.le_succ _) _).setCell (p := ⟨w.heap.size + 1, 1, none⟩) (Nat.le_succ _) _⟩
      · obtain ⟨g7, Y, e_, eY, hG, hB, hge7, hold⟩ := alloc_abs hX.out (.cells #[.int .i64 0, .int .i64 0] 53 (0, 0))
        go_simp
        (try simp only [e_, eY])
        (try have N8 := Aside0.mk (hold _ _ G8.out).2)
        (try replace G8 := Aside0.mk (hold _ _ G8.out).1)
        replace hX := Aside0.mk hB
        have G7 := Aside0.mk hG
        replace hge7 := Aside0.mk hge7
        clear hold hG hB e_ eY
        refine hK.out _ _ ?_ (fun hHeld => ?_)
        · exact hX.out
        clear hK K
        try simp only [Act.put, List.setIfInBounds_toArray, List.set_cons_zero, List.set_cons_succ]
        refine wpAnyH_ready (rs := [10]) (by kernel_rfl) (by simp) ?_
        refine AllReadyH.cons (o := { dst := some 25, op := Go.Op.call { callee := Go.Callee.value (Go.Operand.func 52), args := #[Go.Operand.tmp 22, Go.Operand.tmp 23, Go.Operand.tmp 24], argTypes := #[3, 3, 3] }, type := 53, pos := "law.go:24", after := #[{ on := 7, ground := Go.Ground.data }, { on := 8, ground := Go.Ground.data }, { on := 9, ground := Go.Ground.data }, { on := 4, ground := Go.Ground.chain }], guard := none }) rfl (fun K hK => ?_) AllReadyH.nil
        refine goes_ (N := some 25) («as» := #[.tmp 22, .tmp 23, .tmp 24]) Tryd.func52 (by kernel_rfl) rfl #[.int .i64 b1, .int .i64 n, .int .i64 s] (by kernel_rfl) rfl rfl (by kernel_rfl) ?_
        with_reducible refine (CB.out _).mono ?_
        rintro e X ⟨rfl, hb⟩
        refine ⟨_, rfl, ?_⟩
        (try replace G7 := Aside0.mk (blk_below G7.out hb))
        (try replace G8 := Aside0.mk (blk_below G8.out hb))
        replace hX := Aside0.mk (below_step hX.out hb)
        clear hb
        refine hK.out _ _ ?_ (fun hHeld => ?_)
        · exact hX.out
        clear hK K
        try simp only [Act.put, List.setIfInBounds_toArray, List.set_cons_zero, List.set_cons_succ]
        refine wpAnyH_ready (rs := [13]) (by kernel_rfl) (by simp) ?_
        refine AllReadyH.cons (o := { dst := none, op := Go.Op.store 53 (Go.Operand.tmp 7) (Go.Operand.tmp 19), type := 0, pos := "law.go:24", after := #[{ on := 11, ground := Go.Ground.data }, { on := 4, ground := Go.Ground.data }, { on := 10, ground := Go.Ground.chain }, { on := 0, ground := Go.Ground.phase }, { on := 1, ground := Go.Ground.phase }, { on := 2, ground := Go.Ground.phase }, { on := 3, ground := Go.Ground.phase }, { on := 4, ground := Go.Ground.phase }, { on := 5, ground := Go.Ground.textOnly Go.Departure.lateStores }, { on := 6, ground := Go.Ground.textOnly Go.Departure.lateStores }, { on := 7, ground := Go.Ground.textOnly Go.Departure.lateStores }, { on := 8, ground := Go.Ground.textOnly Go.Departure.lateStores }, { on := 9, ground := Go.Ground.textOnly Go.Departure.lateStores }, { on := 10, ground := Go.Ground.textOnly Go.Departure.lateStoresUnsure }, { on := 11, ground := Go.Ground.phase }, { on := 12, ground := Go.Ground.phase }], guard := none }) rfl (fun K hK => ?_) AllReadyH.nil
        (first | have N78 := Aside0.mk N7.out | have N78 := Aside0.mk N8.out.symm)
        have N87 := Aside0.mk N78.out.symm
        have hq0 := (blk_cell G7.out 0).trans rfl
        have hq1 := (blk_cell G7.out 1).trans rfl
        have hf0 := blk_frozen G7.out 0
        have hf1 := blk_frozen G7.out 1
        simp only [List.getElem?_toArray, List.getElem?_cons_zero, List.getElem?_cons_succ] at hq0 hq1
        go_simp
        replace G8 := Aside0.mk (blk_far (p := ⟨g7, 1, none⟩) (blk_far (p := ⟨g7, 0, none⟩) G8.out N87.out (.int .i64 x1)) N87.out (.int .i64 x2))
        replace G7 := Aside0.mk (blk_set (blk_set G7.out 0 (.int .i64 x1)) 1 (.int .i64 x2))
        replace hX := Aside0.mk ((hX.out.setCell (p := ⟨g7, 0, none⟩) hge7.out (.int .i64 x1)).setCell (p := ⟨g7, 1, none⟩) hge7.out (.int .i64 x2))
        clear hq0 hq1 hf0 hf1
        refine hK.out _ _ ?_ (fun hHeld => ?_)
        · exact hX.out
        clear hK K
        try simp only [Act.put, List.setIfInBounds_toArray, List.set_cons_zero, List.set_cons_succ]
        refine wpAnyH_ready (rs := [14]) (by kernel_rfl) (by simp) ?_
        refine AllReadyH.cons (o := { dst := none, op := Go.Op.store 53 (Go.Operand.tmp 8) (Go.Operand.tmp 25), type := 0, pos := "law.go:24", after := #[{ on := 12, ground := Go.Ground.data }, { on := 10, ground := Go.Ground.data }, { on := 13, ground := Go.Ground.chain }, { on := 0, ground := Go.Ground.phase }, { on := 1, ground := Go.Ground.phase }, { on := 2, ground := Go.Ground.phase }, { on := 3, ground := Go.Ground.phase }, { on := 4, ground := Go.Ground.phase }, { on := 5, ground := Go.Ground.phase }, { on := 6, ground := Go.Ground.phase }, { on := 7, ground := Go.Ground.phase }, { on := 8, ground := Go.Ground.phase }, { on := 9, ground := Go.Ground.phase }, { on := 10, ground := Go.Ground.phase }, { on := 11, ground := Go.Ground.phase }, { on := 12, ground := Go.Ground.phase }, { on := 13, ground := Go.Ground.phase }], guard := none }) rfl (fun K hK => ?_) AllReadyH.nil
        have hq0 := (blk_cell G8.out 0).trans rfl
        have hq1 := (blk_cell G8.out 1).trans rfl
        have hf0 := blk_frozen G8.out 0
        have hf1 := blk_frozen G8.out 1
        simp only [List.getElem?_toArray, List.getElem?_cons_zero, List.getElem?_cons_succ] at hq0 hq1
        go_simp
        replace G7 := Aside0.mk (blk_far (p := ⟨g8, 1, none⟩) (blk_far (p := ⟨g8, 0, none⟩) G7.out N78.out (.int .i64 y1)) N78.out (.int .i64 y2))
        replace G8 := Aside0.mk (blk_set (blk_set G8.out 0 (.int .i64 y1)) 1 (.int .i64 y2))
        replace hX := Aside0.mk ((hX.out.setCell (p := ⟨g8, 0, none⟩) hge8.out (.int .i64 y1)).setCell (p := ⟨g8, 1, none⟩) hge8.out (.int .i64 y2))
        clear hq0 hq1 hf0 hf1
        refine hK.out _ _ ?_ (fun hHeld => ?_)
        · exact hX.out
        clear hK K
        try simp only [Act.put, List.setIfInBounds_toArray, List.set_cons_zero, List.set_cons_succ]
        refine wpAnyH_done (by kernel_rfl) ?_ _
        try simp only [Act.put, List.setIfInBounds_toArray, List.set_cons_zero, List.set_cons_succ, List.getElem_toArray, List.getElem_cons_zero, List.getElem_cons_succ]
        refine NoPanic.normal ?_
        (try dsimp only [Exit.then])
        refine hKz.out _ _ ?_
        clear hHeld
        generalize World.setCell _ _ _ = Z at G7 G8 hX ⊢
        have h70 : Z.cell? ⟨g7, 0, none⟩ = some (.int .i64 x1) := (blk_cell G7.out 0).trans rfl
        have h71 : Z.cell? ⟨g7, 1, none⟩ = some (.int .i64 x2) := (blk_cell G7.out 1).trans rfl
        have h81 : Z.cell? ⟨g8, 1, none⟩ = some (.int .i64 y2) := (blk_cell G8.out 1).trans rfl
        have hr0 : Z.cell? ⟨w.heap.size + 1, 0, none⟩ = some (.int .i64 0) := (blk_cell (blk_below KR.out hX.out) 0).trans rfl
        have hr1 : Z.cell? ⟨w.heap.size + 1, 1, none⟩ = some (.int .i64 0) := (blk_cell (blk_below KR.out hX.out) 1).trans rfl
        have fr0 := blk_frozen (blk_below KR.out hX.out) 0
        have fr1 := blk_frozen (blk_below KR.out hX.out) 1
        clear G7 G8 hS0 hS1
        by_cases c7 : x2 = 0
        · have d7 : (x2 == 0) = true := by simp [c7]
          have hh := HR.out
          rw [if_pos (.inl c7)] at hh
          obtain ⟨rfl, rfl⟩ := Prod.mk.inj hh
          clear hh HR
          replace c7 := Aside0.mk c7
          go_wp2
          refine bodyPost_ret (results_cell_row rfl _ _ (w.heap.size + 1) 53 #[.int .i64 0, .int .i64 0] (0, 0) _ rfl (blk_set (blk_set (blk_below KR.out hX.out) 0 (.int .i64 0)) 1 (.int .i64 0)) Tryd.underlying53 rfl (by kernel_rfl)) rfl ?_
          exact ⟨by first | rfl | simp, ((below_step HB.out hX.out).setCell (p := ⟨w.heap.size + 1, 0, none⟩) (Nat.le_succ _) _).setCell (p := ⟨w.heap.size + 1, 1, none⟩) (Nat.le_succ _) _⟩
        · have d7 : (x2 == 0) = false := by simp [c7]
          by_cases c8 : y2 = 0
          · have d8 : (y2 == 0) = true := by simp [c8]
            have hh := HR.out
            rw [if_pos (.inr c8)] at hh
            obtain ⟨rfl, rfl⟩ := Prod.mk.inj hh
            clear hh HR
            replace c7 := Aside0.mk c7
            replace c8 := Aside0.mk c8
            go_wp2
            refine bodyPost_ret (results_cell_row rfl _ _ (w.heap.size + 1) 53 #[.int .i64 0, .int .i64 0] (0, 0) _ rfl (blk_set (blk_set (blk_below KR.out hX.out) 0 (.int .i64 0)) 1 (.int .i64 0)) Tryd.underlying53 rfl (by kernel_rfl)) rfl ?_
            exact ⟨by first | rfl | simp, ((below_step HB.out hX.out).setCell (p := ⟨w.heap.size + 1, 0, none⟩) (Nat.le_succ _) _).setCell (p := ⟨w.heap.size + 1, 1, none⟩) (Nat.le_succ _) _⟩
          · have d8 : (y2 == 0) = false := by simp [c8]
            have hh := HR.out
            rw [if_neg (fun h => h.elim c7 c8)] at hh
            obtain ⟨rfl, rfl⟩ := Prod.mk.inj hh
            clear hh HR
            replace c7 := Aside0.mk c7
            replace c8 := Aside0.mk c8
            go_wp2
            refine bodyPost_ret (results_cell_row rfl _ _ (w.heap.size + 1) 53 #[.int .i64 x1, .int .i64 y2] (0, 0) _ rfl (blk_set (blk_set (blk_below KR.out hX.out) 0 (.int .i64 x1)) 1 (.int .i64 y2)) Tryd.underlying53 rfl (by kernel_rfl)) rfl ?_
            exact ⟨by first | rfl | simp, ((below_step HB.out hX.out).setCell (p := ⟨w.heap.size + 1, 0, none⟩) (Nat.le_succ _) _).setCell (p := ⟨w.heap.size + 1, 1, none⟩) (Nat.le_succ _) _⟩
    · obtain ⟨g7, Y, e_, eY, hG, hB, hge7, hold⟩ := alloc_abs hX.out (.cells #[.int .i64 0, .int .i64 0] 53 (0, 0))
      go_simp
      (try simp only [e_, eY])
      (try have N8 := Aside0.mk (hold _ _ G8.out).2)
      (try replace G8 := Aside0.mk (hold _ _ G8.out).1)
      replace hX := Aside0.mk hB
      have G7 := Aside0.mk hG
      replace hge7 := Aside0.mk hge7
      clear hold hG hB e_ eY
      refine hK.out _ _ ?_ (fun hHeld => ?_)
      · exact hX.out
      clear hK K
      try simp only [Act.put, List.setIfInBounds_toArray, List.set_cons_zero, List.set_cons_succ]
      refine wpAnyH_ready (rs := [4]) (by kernel_rfl) (by simp) ?_
      refine AllReadyH.cons (o := { dst := some 19, op := Go.Op.call { callee := Go.Callee.value (Go.Operand.func 52), args := #[Go.Operand.tmp 16, Go.Operand.tmp 17, Go.Operand.tmp 18], argTypes := #[3, 3, 3] }, type := 53, pos := "law.go:24", after := #[{ on := 1, ground := Go.Ground.data }, { on := 2, ground := Go.Ground.data }, { on := 3, ground := Go.Ground.data }], guard := none }) rfl (fun K hK => ?_) AllReadyH.nil
      refine goes_ (N := some 19) («as» := #[.tmp 16, .tmp 17, .tmp 18]) Tryd.func52 (by kernel_rfl) rfl #[.int .i64 a0, .int .i64 n, .int .i64 s] (by kernel_rfl) rfl rfl (by kernel_rfl) ?_
      with_reducible refine (CA.out _).mono ?_
      rintro e X ⟨rfl, hb⟩
      refine ⟨_, rfl, ?_⟩
      (try replace G7 := Aside0.mk (blk_below G7.out hb))
      (try replace G8 := Aside0.mk (blk_below G8.out hb))
      replace hX := Aside0.mk (below_step hX.out hb)
      clear hb
      refine hK.out _ _ ?_ (fun hHeld => ?_)
      · exact hX.out
      clear hK K
      try simp only [Act.put, List.setIfInBounds_toArray, List.set_cons_zero, List.set_cons_succ]
      refine wpAnyH_ready (rs := [10]) (by kernel_rfl) (by simp) ?_
      refine AllReadyH.cons (o := { dst := some 25, op := Go.Op.call { callee := Go.Callee.value (Go.Operand.func 52), args := #[Go.Operand.tmp 22, Go.Operand.tmp 23, Go.Operand.tmp 24], argTypes := #[3, 3, 3] }, type := 53, pos := "law.go:24", after := #[{ on := 7, ground := Go.Ground.data }, { on := 8, ground := Go.Ground.data }, { on := 9, ground := Go.Ground.data }, { on := 4, ground := Go.Ground.chain }], guard := none }) rfl (fun K hK => ?_) AllReadyH.nil
      refine goes_ (N := some 25) («as» := #[.tmp 22, .tmp 23, .tmp 24]) Tryd.func52 (by kernel_rfl) rfl #[.int .i64 b1, .int .i64 n, .int .i64 s] (by kernel_rfl) rfl rfl (by kernel_rfl) ?_
      with_reducible refine (CB.out _).mono ?_
      rintro e X ⟨rfl, hb⟩
      refine ⟨_, rfl, ?_⟩
      (try replace G7 := Aside0.mk (blk_below G7.out hb))
      (try replace G8 := Aside0.mk (blk_below G8.out hb))
      replace hX := Aside0.mk (below_step hX.out hb)
      clear hb
      refine hK.out _ _ ?_ (fun hHeld => ?_)
      · exact hX.out
      clear hK K
      try simp only [Act.put, List.setIfInBounds_toArray, List.set_cons_zero, List.set_cons_succ]
      refine wpAnyH_ready (rs := [13]) (by kernel_rfl) (by simp) ?_
      refine AllReadyH.cons (o := { dst := none, op := Go.Op.store 53 (Go.Operand.tmp 7) (Go.Operand.tmp 19), type := 0, pos := "law.go:24", after := #[{ on := 11, ground := Go.Ground.data }, { on := 4, ground := Go.Ground.data }, { on := 10, ground := Go.Ground.chain }, { on := 0, ground := Go.Ground.phase }, { on := 1, ground := Go.Ground.phase }, { on := 2, ground := Go.Ground.phase }, { on := 3, ground := Go.Ground.phase }, { on := 4, ground := Go.Ground.phase }, { on := 5, ground := Go.Ground.textOnly Go.Departure.lateStores }, { on := 6, ground := Go.Ground.textOnly Go.Departure.lateStores }, { on := 7, ground := Go.Ground.textOnly Go.Departure.lateStores }, { on := 8, ground := Go.Ground.textOnly Go.Departure.lateStores }, { on := 9, ground := Go.Ground.textOnly Go.Departure.lateStores }, { on := 10, ground := Go.Ground.textOnly Go.Departure.lateStoresUnsure }, { on := 11, ground := Go.Ground.phase }, { on := 12, ground := Go.Ground.phase }], guard := none }) rfl (fun K hK => ?_) AllReadyH.nil
      (first | have N78 := Aside0.mk N7.out | have N78 := Aside0.mk N8.out.symm)
      have N87 := Aside0.mk N78.out.symm
      have hq0 := (blk_cell G7.out 0).trans rfl
      have hq1 := (blk_cell G7.out 1).trans rfl
      have hf0 := blk_frozen G7.out 0
      have hf1 := blk_frozen G7.out 1
      simp only [List.getElem?_toArray, List.getElem?_cons_zero, List.getElem?_cons_succ] at hq0 hq1
      go_simp
      replace G8 := Aside0.mk (blk_far (p := ⟨g7, 1, none⟩) (blk_far (p := ⟨g7, 0, none⟩) G8.out N87.out (.int .i64 x1)) N87.out (.int .i64 x2))
      replace G7 := Aside0.mk (blk_set (blk_set G7.out 0 (.int .i64 x1)) 1 (.int .i64 x2))
      replace hX := Aside0.mk ((hX.out.setCell (p := ⟨g7, 0, none⟩) hge7.out (.int .i64 x1)).setCell (p := ⟨g7, 1, none⟩) hge7.out (.int .i64 x2))
      clear hq0 hq1 hf0 hf1
      refine hK.out _ _ ?_ (fun hHeld => ?_)
      · exact hX.out
      clear hK K
      try simp only [Act.put, List.setIfInBounds_toArray, List.set_cons_zero, List.set_cons_succ]
      refine wpAnyH_ready (rs := [14]) (by kernel_rfl) (by simp) ?_
      refine AllReadyH.cons (o := { dst := none, op := Go.Op.store 53 (Go.Operand.tmp 8) (Go.Operand.tmp 25), type := 0, pos := "law.go:24", after := #[{ on := 12, ground := Go.Ground.data }, { on := 10, ground := Go.Ground.data }, { on := 13, ground := Go.Ground.chain }, { on := 0, ground := Go.Ground.phase }, { on := 1, ground := Go.Ground.phase }, { on := 2, ground := Go.Ground.phase }, { on := 3, ground := Go.Ground.phase }, { on := 4, ground := Go.Ground.phase }, { on := 5, ground := Go.Ground.phase }, { on := 6, ground := Go.Ground.phase }, { on := 7, ground := Go.Ground.phase }, { on := 8, ground := Go.Ground.phase }, { on := 9, ground := Go.Ground.phase }, { on := 10, ground := Go.Ground.phase }, { on := 11, ground := Go.Ground.phase }, { on := 12, ground := Go.Ground.phase }, { on := 13, ground := Go.Ground.phase }], guard := none }) rfl (fun K hK => ?_) AllReadyH.nil
      have hq0 := (blk_cell G8.out 0).trans rfl
      have hq1 := (blk_cell G8.out 1).trans rfl
      have hf0 := blk_frozen G8.out 0
      have hf1 := blk_frozen G8.out 1
      simp only [List.getElem?_toArray, List.getElem?_cons_zero, List.getElem?_cons_succ] at hq0 hq1
      go_simp
      replace G7 := Aside0.mk (blk_far (p := ⟨g8, 1, none⟩) (blk_far (p := ⟨g8, 0, none⟩) G7.out N78.out (.int .i64 y1)) N78.out (.int .i64 y2))
      replace G8 := Aside0.mk (blk_set (blk_set G8.out 0 (.int .i64 y1)) 1 (.int .i64 y2))
      replace hX := Aside0.mk ((hX.out.setCell (p := ⟨g8, 0, none⟩) hge8.out (.int .i64 y1)).setCell (p := ⟨g8, 1, none⟩) hge8.out (.int .i64 y2))
      clear hq0 hq1 hf0 hf1
      refine hK.out _ _ ?_ (fun hHeld => ?_)
      · exact hX.out
      clear hK K
      try simp only [Act.put, List.setIfInBounds_toArray, List.set_cons_zero, List.set_cons_succ]
      refine wpAnyH_done (by kernel_rfl) ?_ _
      try simp only [Act.put, List.setIfInBounds_toArray, List.set_cons_zero, List.set_cons_succ, List.getElem_toArray, List.getElem_cons_zero, List.getElem_cons_succ]
      refine NoPanic.normal ?_
      (try dsimp only [Exit.then])
      refine hKz.out _ _ ?_
      clear hHeld
      generalize World.setCell _ _ _ = Z at G7 G8 hX ⊢
      have h70 : Z.cell? ⟨g7, 0, none⟩ = some (.int .i64 x1) := (blk_cell G7.out 0).trans rfl
      have h71 : Z.cell? ⟨g7, 1, none⟩ = some (.int .i64 x2) := (blk_cell G7.out 1).trans rfl
      have h81 : Z.cell? ⟨g8, 1, none⟩ = some (.int .i64 y2) := (blk_cell G8.out 1).trans rfl
      have hr0 : Z.cell? ⟨w.heap.size + 1, 0, none⟩ = some (.int .i64 0) := (blk_cell (blk_below KR.out hX.out) 0).trans rfl
      have hr1 : Z.cell? ⟨w.heap.size + 1, 1, none⟩ = some (.int .i64 0) := (blk_cell (blk_below KR.out hX.out) 1).trans rfl
      have fr0 := blk_frozen (blk_below KR.out hX.out) 0
      have fr1 := blk_frozen (blk_below KR.out hX.out) 1
      clear G7 G8 hS0 hS1
      by_cases c7 : x2 = 0
      · have d7 : (x2 == 0) = true := by simp [c7]
        have hh := HR.out
        rw [if_pos (.inl c7)] at hh
        obtain ⟨rfl, rfl⟩ := Prod.mk.inj hh
        clear hh HR
        replace c7 := Aside0.mk c7
        go_wp2
        refine bodyPost_ret (results_cell_row rfl _ _ (w.heap.size + 1) 53 #[.int .i64 0, .int .i64 0] (0, 0) _ rfl (blk_set (blk_set (blk_below KR.out hX.out) 0 (.int .i64 0)) 1 (.int .i64 0)) Tryd.underlying53 rfl (by kernel_rfl)) rfl ?_
        exact ⟨by first | rfl | simp, ((below_step HB.out hX.out).setCell (p := ⟨w.heap.size + 1, 0, none⟩) (Nat.le_succ _) _).setCell (p := ⟨w.heap.size + 1, 1, none⟩) (Nat.le_succ _) _⟩
      · have d7 : (x2 == 0) = false := by simp [c7]
        by_cases c8 : y2 = 0
        · have d8 : (y2 == 0) = true := by simp [c8]
          have hh := HR.out
          rw [if_pos (.inr c8)] at hh
          obtain ⟨rfl, rfl⟩ := Prod.mk.inj hh
          clear hh HR
          replace c7 := Aside0.mk c7
          replace c8 := Aside0.mk c8
          go_wp2
          refine bodyPost_ret (results_cell_row rfl _ _ (w.heap.size + 1) 53 #[.int .i64 0, .int .i64 0] (0, 0) _ rfl (blk_set (blk_set (blk_below KR.out hX.out) 0 (.int .i64 0)) 1 (.int .i64 0)) Tryd.underlying53 rfl (by kernel_rfl)) rfl ?_
          exact ⟨by first | rfl | simp, ((below_step HB.out hX.out).setCell (p := ⟨w.heap.size + 1, 0, none⟩) (Nat.le_succ _) _).setCell (p := ⟨w.heap.size + 1, 1, none⟩) (Nat.le_succ _) _⟩
        · have d8 : (y2 == 0) = false := by simp [c8]
          have hh := HR.out
          rw [if_neg (fun h => h.elim c7 c8)] at hh
          obtain ⟨rfl, rfl⟩ := Prod.mk.inj hh
          clear hh HR
          replace c7 := Aside0.mk c7
          replace c8 := Aside0.mk c8
          go_wp2
          refine bodyPost_ret (results_cell_row rfl _ _ (w.heap.size + 1) 53 #[.int .i64 x1, .int .i64 y2] (0, 0) _ rfl (blk_set (blk_set (blk_below KR.out hX.out) 0 (.int .i64 x1)) 1 (.int .i64 y2)) Tryd.underlying53 rfl (by kernel_rfl)) rfl ?_
          exact ⟨by first | rfl | simp, ((below_step HB.out hX.out).setCell (p := ⟨w.heap.size + 1, 0, none⟩) (Nat.le_succ _) _).setCell (p := ⟨w.heap.size + 1, 1, none⟩) (Nat.le_succ _) _⟩
set_option maxRecDepth 100000 in
set_option maxHeartbeats 4000000 in
theorem bytes_none (a0 a1 : Int) (c : Bool) (n s : Int) (hge : a0 ≥ a1) (w : World) :
    Calls Tryd.prog 35 #[.agg #[.int .i64 a0, .int .i64 a1, .bool c], .int .i64 n, .int .i64 s] w fun e w' => e = .returned (.agg #[.int .i64 0, .int .i64 0]) ∧ Below w.heap.size w w' := by
  have d0 : decide (a0 ≥ a1) = true := decide_eq_true hge
  have d0' : decide (a1 ≤ a0) = true := decide_eq_true hge
  clear hge
  go_enter Tryd.func35, Tryd.ntmps35
  have KR := blk_new (w.alloc (.cells #[.int .i64 a0, .int .i64 a1, .bool c] 50 (0, 0))) (.cells #[.int .i64 0, .int .i64 0] 53 (0, 0))
  rw [alloc_size] at KR
  have HB := below_alloc (below_alloc (Below.refl w.heap.size w) (.cells #[.int .i64 a0, .int .i64 a1, .bool c] 50 (0, 0))) (.cells #[.int .i64 0, .int .i64 0] 53 (0, 0))
  replace KR := Aside0.mk KR
  replace HB := Aside0.mk HB
  go_wp2
  refine bodyPost_ret (results_cell_row rfl _ _ (w.heap.size + 1) 53 #[.int .i64 0, .int .i64 0] (0, 0) _ rfl KR.out Tryd.underlying53 rfl (by kernel_rfl)) rfl ?_
  exact ⟨by first | rfl | simp, HB.out⟩
end Go.Proofs.YtcnlmpjoghogbaaDoor.Ag
namespace Go.Proofs.YtcnlmpjoghogbaaDoor.PAll
open Go.RowKit Go.Proofs.YtcnlmpjoghogbaaDoor.Xw Go.Proofs.YtcnlmpjoghogbaaDoorW.PrintWords Go.Proofs.YtcnlmpjoghogbaaDoorW.PrintLast Go.Proofs.YtcnlmpjoghogbaaDoorW.PrintMore
attribute [local go_sem] max2_int min2_int max_two min_two max_three min_three max_four min_four   -- for this text's walks alone
set_option linter.unusedVariables false
set_option linter.unusedSimpArgs false
theorem eqA53 (d : Nat) (w : World) (x0 y0 : Int) (x1 y1 : Int) :
    (Op.equalIn (d + 2) 53 (.agg #[.int .i64 x0, .int .i64 x1]) (.agg #[.int .i64 y0, .int .i64 y1])).run Tryd.prog w = .ok (x0 == y0 && (x1 == y1)) w := by
  refine eqA_of Tryd.underlying53 (by kernel_rfl) ?_
  refine eqf_cons (by rfl) (by go_simp; rfl) (by go_simp; rfl) (by go_simp) ?_
  exact eqf_last (by rfl) (by go_simp; rfl) (by go_simp; rfl) (by go_simp)
end Go.Proofs.YtcnlmpjoghogbaaDoor.PAll
