/- What the law PlanMakes leans on (part 3 of 7): Go functions as plain functions, that the code comes to them, and what these answer. -/
import Derived.Test.YtcnlmpjoghogbaaDoorKPlanMakes1
namespace Go.Proofs.YtcnlmpjoghogbaaDoor.PAll
open Go.RowKit Go.Proofs.YtcnlmpjoghogbaaDoor.Xw Go.Proofs.YtcnlmpjoghogbaaDoorW.PrintWords Go.Proofs.YtcnlmpjoghogbaaDoorW.PrintLast Go.Proofs.YtcnlmpjoghogbaaDoorW.PrintMore
attribute [local go_sem] max2_int min2_int max_two min_two max_three min_three max_four min_four   -- for this text's walks alone
set_option linter.unusedVariables false
set_option linter.unusedSimpArgs false
mutual
def spenceref24_Numbers.l0 : Nat → List Int → List (S50) → Int → Int → Option (List Int)
  | 0, _, _, _, _ => none
  | k + 1, x3, x7, x8, x9 => if x9 < x8 then (if 0 ≤ x9 then (if x9 < (x7.length : Int) then (spenceref24_Numbers.l1 k x3 0 x7 x8 x9 ((rd_T50 x7 x9).f0) ((rd_T50 x7 x9).f1) ((rd_T50 x7 x9).f2)) else (none)) else (none)) else (some x3)
def spenceref24_Numbers.l1 : Nat → List Int → Int → List (S50) → Int → Int → Int → Int → Bool → Option (List Int)
  | 0, _, _, _, _, _, _, _, _ => none
  | k + 1, x3, x6, x7, x8, x9, x228000, x228001, x228002 => if x6 ≤ 4096 then (if x6 ≥ x228000 then (if x6 < x228001 then (if x3.length < 17592186044416 then (spenceref24_Numbers.l1 k (x3 ++ [x6]) (wrap64 (x6 + 1)) x7 x8 x9 x228000 x228001 x228002) else (none)) else (spenceref24_Numbers.l1 k x3 (wrap64 (x6 + 1)) x7 x8 x9 x228000 x228001 x228002)) else (spenceref24_Numbers.l1 k x3 (wrap64 (x6 + 1)) x7 x8 x9 x228000 x228001 x228002)) else (spenceref24_Numbers.l0 k x3 x7 x8 (wrap64 (x9 + 1)))
end
def spenceref24_Numbers.f (k : Nat) (l0 : List (S50)) : Option (List Int) := spenceref24_Numbers.l0 k ([] : List Int) l0 (l0.length : Int) 0
theorem spenceref24_Numbers.mono_l : ∀ k, (∀ y0 y1 y2 y3, LeO (spenceref24_Numbers.l0 k y0 y1 y2 y3) (spenceref24_Numbers.l0 (k + 1) y0 y1 y2 y3)) ∧ (∀ y0 y1 y2 y3 y4 y5 y6 y7, LeO (spenceref24_Numbers.l1 k y0 y1 y2 y3 y4 y5 y6 y7) (spenceref24_Numbers.l1 (k + 1) y0 y1 y2 y3 y4 y5 y6 y7))
  | 0 => ⟨fun _ _ _ _ r h => by simp [spenceref24_Numbers.l0] at h, fun _ _ _ _ _ _ _ _ r h => by simp [spenceref24_Numbers.l1] at h⟩
  | k + 1 => by
    obtain ⟨ih0, ih1⟩ := spenceref24_Numbers.mono_l k
    refine ⟨?_, ?_⟩
    · intro y0 y1 y2 y3
      unfold spenceref24_Numbers.l0
      repeat' first
      | (with_reducible exact ih0 _ _ _ _)
      | (with_reducible exact ih1 _ _ _ _ _ _ _ _)
      | (with_reducible exact LeO.refl _)
      | (with_reducible exact LeO.none _)
      | (with_reducible refine LeO.ite ?_ ?_)
      | (with_reducible refine LeO.bind ?_ (fun _ => ?_))
      | exact ih0 _ _ _ _
      | exact ih1 _ _ _ _ _ _ _ _
      | exact LeO.none _
      | refine LeO.ite ?_ ?_
      | refine LeO.bind ?_ (fun _ => ?_)
    · intro y0 y1 y2 y3 y4 y5 y6 y7
      unfold spenceref24_Numbers.l1
      repeat' first
      | (with_reducible exact ih0 _ _ _ _)
      | (with_reducible exact ih1 _ _ _ _ _ _ _ _)
      | (with_reducible exact LeO.refl _)
      | (with_reducible exact LeO.none _)
      | (with_reducible refine LeO.ite ?_ ?_)
      | (with_reducible refine LeO.bind ?_ (fun _ => ?_))
      | exact ih0 _ _ _ _
      | exact ih1 _ _ _ _ _ _ _ _
      | exact LeO.none _
      | refine LeO.ite ?_ ?_
      | refine LeO.bind ?_ (fun _ => ?_)
theorem spenceref24_Numbers.mono : ∀ a0 k, LeO (spenceref24_Numbers.f k a0) (spenceref24_Numbers.f (k + 1) a0) := by
  intro a0 k
  obtain ⟨ih0, ih1⟩ := spenceref24_Numbers.mono_l k
  unfold spenceref24_Numbers.f
  repeat' first
      | (with_reducible exact ih0 _ _ _ _)
      | (with_reducible exact ih1 _ _ _ _ _ _ _ _)
      | (with_reducible exact LeO.refl _)
      | (with_reducible exact LeO.none _)
      | (with_reducible refine LeO.ite ?_ ?_)
      | (with_reducible refine LeO.bind ?_ (fun _ => ?_))
      | exact ih0 _ _ _ _
      | exact ih1 _ _ _ _ _ _ _ _
      | exact LeO.none _
      | refine LeO.ite ?_ ?_
      | refine LeO.bind ?_ (fun _ => ?_)
set_option maxHeartbeats 8000000 in
set_option maxRecDepth 100000 in
theorem spenceref24_Numbers.calls (k : Nat) (A0 : Option Addr) (c0 : Nat) (l0 : List (S50)) (r : List Int) (w : World) (hr0 : Kd.C k50 w A0 l0.length l0) (hc0 : l0.length ≤ c0) (h : spenceref24_Numbers.f k l0 = some r) :
    Calls Tryd.prog 30 #[.slice A0 l0.length c0] w fun e w' => ∃ v0_ : Value, e = .returned (v0_) ∧ Kd.R (Kd.int .i64) 3 w' w.heap.size (fun _ => True) v0_ r ∧ Below w.heap.size w w' := by
  have hu50 := Tryd.underlying50
  have HR0 := AsZ.mk hr0
  have HC0 := AsZ.mk hc0
  clear hr0 hc0
  have HB := AsZ.mk (Below.refl w.heap.size w)
  have H : (spenceref24_Numbers.l0 k ([] : List Int) l0 (l0.length : Int) 0) = some r := h
  clear h
  have H' := AsZ.mk H
  clear H
  go_enter Tryd.func30, Tryd.ntmps30
  go_wp2
  go_loopg [3, 9] k (fun kq v3 v9 w' => ∃ (x3_1 : List Int) (x9_1 : Int), v9 = .int .i64 x9_1 ∧ AsZ (spenceref24_Numbers.l0 kq x3_1 l0 (l0.length : Int) x9_1 = some r) ∧ AsZ (kq ≤ k) ∧ AsZ (Kd.R (Kd.int .i64) 3 w' w.heap.size (fun _ => True) v3 x3_1) ∧ AsZ (Below w.heap.size w w'))
  case atStart => exact ⟨(([] : List Int)), (0), (by first | rfl | (simp; done) | (simp [*]; done)), H', ⟨Nat.le_refl _⟩, ⟨by first | exact Kd.R_nil _ _ _ _ _ | exact Kd.N_nil _ _ _ _ _ | exact Kd.V_nil _ _ _ _ _ | exact Kd.Q_nil _ _ _ _ _ | exact Kd.S_nil _ _ _ _ _⟩, ⟨by repeat (first | (with_reducible first | exact HB.out | apply aBl | apply pBd | apply dBl) | exact HB.out)⟩⟩
  case round =>
    clear H'
    obtain ⟨x3_1, x9_1, rfl, HA, HK1, HO_3, HB⟩ := hrel
    cases gk with
    | zero => exact absurd HA.out (by simp [spenceref24_Numbers.l0])
    | succ k1 =>
      have H := HA.out
      clear HA
      simp only [spenceref24_Numbers.l0] at H
      by_cases c2 : x9_1 < (l0.length : Int)
      · rw [if_pos c2] at H
        have c2b0 : decide (x9_1 < (l0.length : Int)) = true := decide_eq_true c2
        clear c2
        by_cases c3 : 0 ≤ x9_1
        · rw [if_pos c3] at H
          have c3b0 : decide (0 ≤ x9_1) = true := decide_eq_true c3
          clear c3
          by_cases c4 : x9_1 < (l0.length : Int)
          · rw [if_pos c4] at H
            have c4b0 : decide (x9_1 < (l0.length : Int)) = true := decide_eq_true c4
            clear c4
            have H' := AsZ.mk H
            clear H
            have p226 : 0 ≤ (x9_1 : Int) := of_decide_eq_true (by first | (with_reducible assumption) | assumption)
            have q226 : x9_1 < (l0.length : Int) := of_decide_eq_true (by first | (with_reducible assumption) | assumption)
            obtain ⟨ad226, e226, hx226_0, hx226_1, hx226_2⟩ := at_T50 HR0.out x9_1 p226 q226
            cases e226
            replace hx226_0 := (HB.out.cell (World.block_lt_of_cell? w _ hx226_0)).trans hx226_0
            replace hx226_1 := (HB.out.cell (World.block_lt_of_cell? w _ hx226_1)).trans hx226_1
            replace hx226_2 := (HB.out.cell (World.block_lt_of_cell? w _ hx226_2)).trans hx226_2
            replace p226 := eq_true p226
            replace q226 := eq_true q226
            go_wp2_with (first | ((with_reducible refine gDs (N := 5) rfl ?_); refine bEv ?hg (N := 5) ?hd (cs := #[.int .i64 0, .int .i64 0, .bool false]) (t := 50) ?hr ?_; (case hd => rfl); (case hg => rfl); (case hr => first | (go_simp; done) | (go_simp; rfl)); intro gb227 hg w5 hbox hb; have n0_ := AsZ.mk (Kd.R_below (by (with_reducible repeat (first | apply Kd.R_alloc | apply Kd.R_drewN | apply Kd.R_drew)); exact HO_3.out) hb); have n1_ := AsZ.mk (tBl (by repeat (first | (with_reducible first | exact HB.out | apply aBl | apply pBd | apply dBl) | exact HB.out)) hb); have n2_ := AsZ.mk (hbox); have n3_ := AsZ.mk ((by rw [hg]; exact (zBl (by repeat (first | (with_reducible first | exact HB.out | apply aBl | apply pBd | apply dBl) | exact HB.out))) : w.heap.size ≤ gb227)); have n4_ := AsZ.mk ((by rw [hg]; exact (zBl (by repeat (first | (with_reducible first | exact HB.out | apply aBl | apply pBd | apply dBl) | exact HB.out))) : w.heap.size ≤ gb227)); clear HO_3; clear HB; have HO_3 := n0_; have HB := n1_; have BK227 := n2_; have GW227 := n3_; have GE227 := n4_; clear n0_ n1_ n2_ n3_ n4_; clear hb hbox hg; obtain ⟨hcz6_0, hcz6_1, hcz6_2⟩ := celN3 BK227.out; obtain ⟨hfz6_0, hfz6_1, hfz6_2⟩ := fzN3 BK227.out))
            go_loopg [3, 6] k1 (fun kq v3 v6 w' => ∃ (x3_2 : List Int) (x6_2 : Int), v6 = .int .i64 x6_2 ∧ AsZ (spenceref24_Numbers.l1 kq x3_2 x6_2 l0 (l0.length : Int) x9_1 ((rd_T50 l0 x9_1).f0) ((rd_T50 l0 x9_1).f1) ((rd_T50 l0 x9_1).f2) = some r) ∧ AsZ (kq ≤ k1) ∧ AsZ (Kd.R (Kd.int .i64) 3 w' w.heap.size (fun _ => True) v3 x3_2) ∧ AsZ (w'.heap[gb227]? = some (.cells #[.int .i64 ((rd_T50 l0 x9_1).f0), .int .i64 ((rd_T50 l0 x9_1).f1), .bool ((rd_T50 l0 x9_1).f2)] 50 (0, 0))) ∧ AsZ (Below w.heap.size w w'))
            case atStart => exact ⟨(x3_1), (0), (by first | rfl | (simp; done) | (simp [*]; done)), H', ⟨Nat.le_refl _⟩, ⟨by (with_reducible repeat (first | apply Kd.R_alloc | apply Kd.R_drewN | apply Kd.R_drew)); exact Kd.R_mono (Kd.R_far (p := ⟨gb227, 2, none⟩) (Kd.R_far (p := ⟨gb227, 1, none⟩) (Kd.R_far (p := ⟨gb227, 0, none⟩) (Kd.R_types HO_3.out BK227.out (by decide)) (fun _ hk => hk.2) (.int .i64 ((rd_T50 l0 x9_1).f0))) (fun _ hk => hk.2) (.int .i64 ((rd_T50 l0 x9_1).f1))) (fun _ hk => hk.2) (.bool ((rd_T50 l0 x9_1).f2))) (fun _ hk => trivial)⟩, ⟨by (with_reducible repeat first | apply bDn | apply bDr | apply bAl); refine bPu (cs := #[.int .i64 ((rd_T50 l0 x9_1).f0), .int .i64 ((rd_T50 l0 x9_1).f1), .bool false]) ?_ 2 _ rfl; (with_reducible repeat first | apply bDn | apply bDr | apply bAl); refine bPu (cs := #[.int .i64 ((rd_T50 l0 x9_1).f0), .int .i64 0, .bool false]) ?_ 1 _ rfl; (with_reducible repeat first | apply bDn | apply bDr | apply bAl); refine bPu (cs := #[.int .i64 0, .int .i64 0, .bool false]) ?_ 0 _ rfl; (with_reducible repeat first | apply bDn | apply bDr | apply bAl); exact BK227.out⟩, ⟨by repeat (first | (with_reducible first | exact HB.out | apply aBl | apply pBd | apply dBl | refine sBl ?_ GE227.out) | exact HB.out)⟩⟩
            case round =>
              clear H'
              try clear c2
              try clear c2b0
              try clear p2
              try clear q2
              try clear hx2
              try clear c3
              try clear c3b0
              try clear c4
              try clear c4b0
              try clear hcz6_0
              try clear hcz6_1
              try clear hcz6_2
              try clear hfz6_0
              try clear hfz6_1
              try clear hfz6_2
              try clear hx226_0
              try clear hx226_1
              try clear hx226_2
              try clear p226
              try clear q226
              obtain ⟨x3_2, x6_2, rfl, HA, HK2, HO_3, BK227, HB⟩ := hrel
              cases gk with
              | zero => exact absurd HA.out (by simp [spenceref24_Numbers.l1])
              | succ k2 =>
                have H := HA.out
                clear HA
                simp only [spenceref24_Numbers.l1] at H
                by_cases c7 : x6_2 ≤ 4096
                · rw [if_pos c7] at H
                  have c7b0 : decide (x6_2 ≤ 4096) = true := decide_eq_true c7
                  clear c7
                  by_cases c8 : x6_2 ≥ ((rd_T50 l0 x9_1).f0)
                  · rw [if_pos c8] at H
                    have c8b0 : decide (((rd_T50 l0 x9_1).f0) ≤ x6_2) = true := decide_eq_true c8
                    clear c8
                    by_cases c9 : x6_2 < ((rd_T50 l0 x9_1).f1)
                    · rw [if_pos c9] at H
                      have c9b0 : decide (x6_2 < ((rd_T50 l0 x9_1).f1)) = true := decide_eq_true c9
                      clear c9
                      by_cases c10 : x3_2.length < 17592186044416
                      · rw [if_pos c10] at H
                        have LMc10 := AsZ.mk c10
                        clear c10
                        obtain ⟨y228, hy228⟩ : ∃ y_ : List Int, y_ = (x3_2 ++ [x6_2]) := ⟨_, rfl⟩
                        replace H : (spenceref24_Numbers.l1 k2 y228 (wrap64 (x6_2 + 1)) l0 (l0.length : Int) x9_1 ((rd_T50 l0 x9_1).f0) ((rd_T50 l0 x9_1).f1) ((rd_T50 l0 x9_1).f2)) = some r := by first | (rw [hy228]; with_reducible exact H) | (have H2_ := (Option.bind_some _ _).symm.trans H; rw [hy228]; with_reducible exact H2_) | (have H2_ := (Option.bind_some _ _).symm.trans H; with_reducible exact H2_) | with_reducible exact H | (rw [hy228]; exact H) | exact H
                        have Ny228 := AsZ.mk hy228
                        clear hy228
                        have H' := AsZ.mk H
                        clear H
                        obtain ⟨hcz11_0, hcz11_1, hcz11_2⟩ := celN3 BK227.out
                        obtain ⟨hfz11_0, hfz11_1, hfz11_2⟩ := fzN3 BK227.out
                        go_wp2_with (first | ((with_reducible refine gate_builtin (b := .append) (xs := #[.tmp 27, .tmp 29]) rfl ?_); at_builtin; refine Kd.R_append (Kd.int .i64) (w0 := w) w.heap.size rfl (.tmp 27) (.tmp 29) 22 3 (.int .i64 0) 8 rfl Tryd.underlying22 info3 rfl (by decide) (by omega) u3 x3_2 x6_2 [.int .i64 x6_2] (fun _ => True) (fun _ => False) rfl rfl ?aP (fun _ hk => hk.elim) ?aF ?aO ?aB ?aS ?aL ?_; (case aP => exact rfl); (case aB => exact (by repeat (first | (with_reducible first | exact HB.out | apply aBl | apply pBd | apply dBl | refine sBl ?_ GE227.out) | exact HB.out))); (case aF => exact (fun _ _ => trivial)); (case aO => exact (by (with_reducible repeat (first | apply Kd.R_alloc | apply Kd.R_drewN | apply Kd.R_drew)); exact HO_3.out)); (case aS => exact (zBl (by repeat (first | (with_reducible first | exact HB.out | apply aBl | apply pBd | apply dBl | refine sBl ?_ GE227.out) | exact HB.out)))); (case aL => have := LMc10.out; omega); intro v229 w12 ho hb hg hat; rw [← Ny228.out] at ho; have n0_ := AsZ.mk (blk_grown (g := gb227) (o := .cells #[.int .i64 ((rd_T50 l0 x9_1).f0), .int .i64 ((rd_T50 l0 x9_1).f1), .bool ((rd_T50 l0 x9_1).f2)] 50 (0, 0)) (by (with_reducible repeat first | apply bDn | apply bDr | apply bAl); exact BK227.out) hg (Kd.R_ne HO_3.out BK227.out (by decide))); have n1_ := AsZ.mk (hb); have n2_ := AsZ.mk (ho); clear BK227; clear HB; clear HO_3; have BK227 := n0_; have HB := n1_; have HO230 := n2_; clear n0_ n1_ n2_; clear ho hb hg hat))
                        go_roundg k2
                        case measure => have := HK1.out; have := HK2.out; omega
                        case rel => exact ⟨(y228), (wrap64 (x6_2 + 1)), (by first | rfl | (simp; done) | (simp [*]; done)), H', ⟨by have := HK1.out; have := HK2.out; omega⟩, ⟨by (with_reducible repeat (first | apply Kd.R_alloc | apply Kd.R_drewN | apply Kd.R_drew)); exact HO230.out⟩, ⟨by (with_reducible repeat first | apply bDn | apply bDr | apply bAl); exact BK227.out⟩, ⟨by repeat (first | (with_reducible first | exact HB.out | apply aBl | apply pBd | apply dBl | refine sBl ?_ GE227.out) | exact HB.out)⟩⟩
                      · rw [if_neg c10] at H
                        exact absurd H (by simp)
                    · rw [if_neg c9] at H
                      have c9b0 : decide (x6_2 < ((rd_T50 l0 x9_1).f1)) = false := decide_eq_false c9
                      clear c9
                      have H' := AsZ.mk H
                      clear H
                      obtain ⟨hcz13_0, hcz13_1, hcz13_2⟩ := celN3 BK227.out
                      obtain ⟨hfz13_0, hfz13_1, hfz13_2⟩ := fzN3 BK227.out
                      go_wp2
                      go_roundg k2
                      case measure => have := HK1.out; have := HK2.out; omega
                      case rel => exact ⟨(x3_2), (wrap64 (x6_2 + 1)), (by first | rfl | (simp; done) | (simp [*]; done)), H', ⟨by have := HK1.out; have := HK2.out; omega⟩, ⟨by (with_reducible repeat (first | apply Kd.R_alloc | apply Kd.R_drewN | apply Kd.R_drew)); exact HO_3.out⟩, ⟨by (with_reducible repeat first | apply bDn | apply bDr | apply bAl); exact BK227.out⟩, ⟨by repeat (first | (with_reducible first | exact HB.out | apply aBl | apply pBd | apply dBl | refine sBl ?_ GE227.out) | exact HB.out)⟩⟩
                  · rw [if_neg c8] at H
                    have c8b0 : decide (((rd_T50 l0 x9_1).f0) ≤ x6_2) = false := decide_eq_false c8
                    clear c8
                    have H' := AsZ.mk H
                    clear H
                    obtain ⟨hcz14_0, hcz14_1, hcz14_2⟩ := celN3 BK227.out
                    obtain ⟨hfz14_0, hfz14_1, hfz14_2⟩ := fzN3 BK227.out
                    go_wp2
                    go_roundg k2
                    case measure => have := HK1.out; have := HK2.out; omega
                    case rel => exact ⟨(x3_2), (wrap64 (x6_2 + 1)), (by first | rfl | (simp; done) | (simp [*]; done)), H', ⟨by have := HK1.out; have := HK2.out; omega⟩, ⟨by (with_reducible repeat (first | apply Kd.R_alloc | apply Kd.R_drewN | apply Kd.R_drew)); exact HO_3.out⟩, ⟨by (with_reducible repeat first | apply bDn | apply bDr | apply bAl); exact BK227.out⟩, ⟨by repeat (first | (with_reducible first | exact HB.out | apply aBl | apply pBd | apply dBl | refine sBl ?_ GE227.out) | exact HB.out)⟩⟩
                · rw [if_neg c7] at H
                  have c7b0 : decide (x6_2 ≤ 4096) = false := decide_eq_false c7
                  clear c7
                  have H' := AsZ.mk H
                  clear H
                  go_wp2
                  go_roundg k2
                  case measure => have := HK1.out; have := HK2.out; omega
                  case rel => exact ⟨(x3_2), (wrap64 (x9_1 + 1)), (by first | rfl | (simp; done) | (simp [*]; done)), H', ⟨by have := HK1.out; have := HK2.out; omega⟩, ⟨by (with_reducible repeat (first | apply Kd.R_alloc | apply Kd.R_drewN | apply Kd.R_drew)); exact HO_3.out⟩, ⟨by repeat (first | (with_reducible first | exact HB.out | apply aBl | apply pBd | apply dBl | refine sBl ?_ GE227.out) | exact HB.out)⟩⟩
          · rw [if_neg c4] at H
            exact absurd H (by simp)
        · rw [if_neg c3] at H
          exact absurd H (by simp)
      · rw [if_neg c2] at H
        have c2b0 : decide (x9_1 < (l0.length : Int)) = false := decide_eq_false c2
        clear c2
        obtain rfl := Option.some.inj H
        go_wp2
        go_ret
        exact ⟨_, by first | rfl | (simp [eWn, eWs] <;> rfl) | (simp [*, eWn, eWs] <;> rfl), by (with_reducible repeat (first | apply Kd.R_alloc | apply Kd.R_drewN | apply Kd.R_drew)); exact HO_3.out, by repeat (first | (with_reducible first | exact HB.out | apply aBl | apply pBd | apply dBl) | exact HB.out)⟩
mutual
def runs_Cap.l0 : Nat → Int → List (S50) → List (S50) → Int → Int → Option ((List (S50)))
  | 0, _, _, _, _, _ => none
  | k + 1, x1, x5, x13, x14, x15 => if x15 < x14 then (if 0 ≤ x15 then (if x15 < (x13.length : Int) then ((runs_bounds.f ((rd_T50 x13 x15).f0) ((rd_T50 x13 x15).f1) ((rd_T50 x13 x15).f2)).bind fun bt233 => (if bt233.1 ≥ bt233.2 then (runs_Cap.l0 k x1 x5 x13 x14 (wrap64 (x15 + 1))) else (runs_Cap.l1 k x1 x5 bt233.1 bt233.2 x13 x14 x15 ((rd_T50 x13 x15).f0) ((rd_T50 x13 x15).f1) ((rd_T50 x13 x15).f2)))) else (none)) else (none)) else (some x5)
def runs_Cap.l1 : Nat → Int → List (S50) → Int → Int → List (S50) → Int → Int → Int → Int → Bool → Option ((List (S50)))
  | 0, _, _, _, _, _, _, _, _, _, _ => none
  | k + 1, x1, x5, x8, x9, x13, x14, x15, x233000, x233001, x233002 => if x8 < x9 then (if x1 < (wrap64 (x9 - x8)) then (if x5.length < 5864062014805 then (runs_Cap.l1 k x1 (x5 ++ [(⟨x8, wrap64 (x8 + x1), x233002⟩ : S50)]) (wrap64 (x8 + x1)) x9 x13 x14 x15 x233000 x233001 x233002) else (none)) else (if x5.length < 5864062014805 then (runs_Cap.l1 k x1 (x5 ++ [(⟨x8, x9, x233002⟩ : S50)]) x9 x9 x13 x14 x15 x233000 x233001 x233002) else (none))) else (runs_Cap.l0 k x1 x5 x13 x14 (wrap64 (x15 + 1)))
end
def runs_Cap.f (k : Nat) (l0 : List (S50)) (a1 : Int) : Option ((List (S50))) := runs_Cap.l0 k (mx a1 1) ([] : List (S50)) l0 (l0.length : Int) 0
theorem runs_Cap.mono_l : ∀ k, (∀ y0 y1 y2 y3 y4, LeO (runs_Cap.l0 k y0 y1 y2 y3 y4) (runs_Cap.l0 (k + 1) y0 y1 y2 y3 y4)) ∧ (∀ y0 y1 y2 y3 y4 y5 y6 y7 y8 y9, LeO (runs_Cap.l1 k y0 y1 y2 y3 y4 y5 y6 y7 y8 y9) (runs_Cap.l1 (k + 1) y0 y1 y2 y3 y4 y5 y6 y7 y8 y9))
  | 0 => ⟨fun _ _ _ _ _ r h => by simp [runs_Cap.l0] at h, fun _ _ _ _ _ _ _ _ _ _ r h => by simp [runs_Cap.l1] at h⟩
  | k + 1 => by
    obtain ⟨ih0, ih1⟩ := runs_Cap.mono_l k
    refine ⟨?_, ?_⟩
    · intro y0 y1 y2 y3 y4
      unfold runs_Cap.l0
      repeat' first
      | (with_reducible exact ih0 _ _ _ _ _)
      | (with_reducible exact ih1 _ _ _ _ _ _ _ _ _ _)
      | (with_reducible exact LeO.refl _)
      | (with_reducible exact LeO.none _)
      | (with_reducible refine LeO.ite ?_ ?_)
      | (with_reducible refine LeO.bind ?_ (fun _ => ?_))
      | exact ih0 _ _ _ _ _
      | exact ih1 _ _ _ _ _ _ _ _ _ _
      | exact LeO.none _
      | refine LeO.ite ?_ ?_
      | refine LeO.bind ?_ (fun _ => ?_)
    · intro y0 y1 y2 y3 y4 y5 y6 y7 y8 y9
      unfold runs_Cap.l1
      repeat' first
      | (with_reducible exact ih0 _ _ _ _ _)
      | (with_reducible exact ih1 _ _ _ _ _ _ _ _ _ _)
      | (with_reducible exact LeO.refl _)
      | (with_reducible exact LeO.none _)
      | (with_reducible refine LeO.ite ?_ ?_)
      | (with_reducible refine LeO.bind ?_ (fun _ => ?_))
      | exact ih0 _ _ _ _ _
      | exact ih1 _ _ _ _ _ _ _ _ _ _
      | exact LeO.none _
      | refine LeO.ite ?_ ?_
      | refine LeO.bind ?_ (fun _ => ?_)
theorem runs_Cap.mono : ∀ a0 a1 k, LeO (runs_Cap.f k a0 a1) (runs_Cap.f (k + 1) a0 a1) := by
  intro a0 a1 k
  obtain ⟨ih0, ih1⟩ := runs_Cap.mono_l k
  unfold runs_Cap.f
  repeat' first
      | (with_reducible exact ih0 _ _ _ _ _)
      | (with_reducible exact ih1 _ _ _ _ _ _ _ _ _ _)
      | (with_reducible exact LeO.refl _)
      | (with_reducible exact LeO.none _)
      | (with_reducible refine LeO.ite ?_ ?_)
      | (with_reducible refine LeO.bind ?_ (fun _ => ?_))
      | exact ih0 _ _ _ _ _
      | exact ih1 _ _ _ _ _ _ _ _ _ _
      | exact LeO.none _
      | refine LeO.ite ?_ ?_
      | refine LeO.bind ?_ (fun _ => ?_)
set_option maxHeartbeats 8000000 in
set_option maxRecDepth 100000 in
theorem runs_Cap.calls (k : Nat) (A0 : Option Addr) (c0 : Nat) (l0 : List (S50)) (a1 : Int) (r : List (S50)) (w : World) (hr0 : Kd.C k50 w A0 l0.length l0) (hc0 : l0.length ≤ c0) (h : runs_Cap.f k l0 a1 = some r) :
    Calls Tryd.prog 31 #[.slice A0 l0.length c0, .int .i64 a1] w fun e w' => ∃ v0_ : Value, e = .returned (v0_) ∧ Kd.R k50 50 w' w.heap.size (fun _ => True) v0_ r ∧ Below w.heap.size w w' := by
  have hu50 := Tryd.underlying50
  have HR0 := AsZ.mk hr0
  have HC0 := AsZ.mk hc0
  clear hr0 hc0
  have HB := AsZ.mk (Below.refl w.heap.size w)
  have H : (runs_Cap.l0 k (mx a1 1) ([] : List (S50)) l0 (l0.length : Int) 0) = some r := h
  clear h
  obtain ⟨ji3, hji3⟩ : ∃ j_ : Int, (mx a1 1) = j_ := ⟨_, rfl⟩
  replace H : (runs_Cap.l0 k ji3 ([] : List (S50)) l0 (l0.length : Int) 0) = some r := by first | (rw [hji3] at H; exact H) | (simp only [hji3] at H ⊢; exact H)
  (try (have hji3l : 1 ≤ ji3 := by (rw [← hji3]; unfold mx; (repeat' split) <;> omega)))
  (try (have hji3m : 0 ≤ ji3 := by omega))
  have hji3_ : (if a1 < 1 then 1 else a1) = ji3 := hji3
  have H' := AsZ.mk H
  clear H
  go_enter Tryd.func31, Tryd.ntmps31
  go_wp2
  try (with_reducible apply wp_scope_straight; go_wp2)
  try (with_reducible apply wp_label; go_wp2)
  go_loopg [5, 15] k (fun kq v5 v15 w' => ∃ (x5_1 : List (S50)) (x15_1 : Int), v15 = .int .i64 x15_1 ∧ AsZ (runs_Cap.l0 kq ji3 x5_1 l0 (l0.length : Int) x15_1 = some r) ∧ AsZ (kq ≤ k) ∧ AsZ (Kd.R k50 50 w' w.heap.size (fun _ => True) v5 x5_1) ∧ AsZ (Below w.heap.size w w'))
  case atStart => exact ⟨(([] : List (S50))), (0), (by first | rfl | (simp; done) | (simp [*]; done)), H', ⟨Nat.le_refl _⟩, ⟨by first | exact Kd.R_nil _ _ _ _ _ | exact Kd.N_nil _ _ _ _ _ | exact Kd.V_nil _ _ _ _ _ | exact Kd.Q_nil _ _ _ _ _ | exact Kd.S_nil _ _ _ _ _⟩, ⟨by repeat (first | (with_reducible first | exact HB.out | apply aBl | apply pBd | apply dBl) | exact HB.out)⟩⟩
  case round =>
    clear H'
    try clear p2
    try clear c3
    obtain ⟨x5_1, x15_1, rfl, HA, HK1, HO_5, HB⟩ := hrel
    cases gk with
    | zero => exact absurd HA.out (by simp [runs_Cap.l0])
    | succ k1 =>
      have H := HA.out
      clear HA
      simp only [runs_Cap.l0] at H
      by_cases c4 : x15_1 < (l0.length : Int)
      · rw [if_pos c4] at H
        have c4b0 : decide (x15_1 < (l0.length : Int)) = true := decide_eq_true c4
        clear c4
        by_cases c5 : 0 ≤ x15_1
        · rw [if_pos c5] at H
          have c5b0 : decide (0 ≤ x15_1) = true := decide_eq_true c5
          clear c5
          by_cases c6 : x15_1 < (l0.length : Int)
          · rw [if_pos c6] at H
            have c6b0 : decide (x15_1 < (l0.length : Int)) = true := decide_eq_true c6
            clear c6
            replace H := Option.bind_eq_some_iff.mp H
            obtain ⟨⟨t233, t234⟩, A70, H⟩ := H
            replace H : (if t233 ≥ t234 then (runs_Cap.l0 k1 ji3 x5_1 l0 (l0.length : Int) (wrap64 (x15_1 + 1))) else (runs_Cap.l1 k1 ji3 x5_1 t233 t234 l0 (l0.length : Int) x15_1 ((rd_T50 l0 x15_1).f0) ((rd_T50 l0 x15_1).f1) ((rd_T50 l0 x15_1).f2))) = some r := H
            have A7 := AsZ.mk A70
            clear A70
            by_cases c8 : t233 ≥ t234
            · rw [if_pos c8] at H
              have c8b0 : decide (t234 ≤ t233) = true := decide_eq_true c8
              clear c8
              have H' := AsZ.mk H
              clear H
              have p231 : 0 ≤ (x15_1 : Int) := of_decide_eq_true (by first | (with_reducible assumption) | assumption)
              have q231 : x15_1 < (l0.length : Int) := of_decide_eq_true (by first | (with_reducible assumption) | assumption)
              obtain ⟨ad231, e231, hx231_0, hx231_1, hx231_2⟩ := at_T50 HR0.out x15_1 p231 q231
              cases e231
              replace hx231_0 := (HB.out.cell (World.block_lt_of_cell? w _ hx231_0)).trans hx231_0
              replace hx231_1 := (HB.out.cell (World.block_lt_of_cell? w _ hx231_1)).trans hx231_1
              replace hx231_2 := (HB.out.cell (World.block_lt_of_cell? w _ hx231_2)).trans hx231_2
              replace p231 := eq_true p231
              replace q231 := eq_true q231
              go_wp2_with (first | ((with_reducible refine gDs (N := 7) rfl ?_); refine bEv ?hg (N := 7) ?hd (cs := #[.int .i64 0, .int .i64 0, .bool false]) (t := 50) ?hr ?_; (case hd => rfl); (case hg => rfl); (case hr => first | (go_simp; done) | (go_simp; rfl)); intro gb232 hg w9 hbox hb; have n0_ := AsZ.mk (Kd.R_below (Kd.R_elderB (by (with_reducible repeat (first | apply Kd.R_alloc | apply Kd.R_drewN | apply Kd.R_drew)); exact HO_5.out) gb232 (Nat.le_of_eq hg.symm)) hb); have n1_ := AsZ.mk (tBl (by repeat (first | (with_reducible first | exact HB.out | apply aBl | apply pBd | apply dBl) | exact HB.out)) hb); have n2_ := AsZ.mk (hbox); have n3_ := AsZ.mk ((by rw [hg]; exact (zBl (by repeat (first | (with_reducible first | exact HB.out | apply aBl | apply pBd | apply dBl) | exact HB.out))) : w.heap.size ≤ gb232)); have n4_ := AsZ.mk ((by rw [hg]; exact (zBl (by repeat (first | (with_reducible first | exact HB.out | apply aBl | apply pBd | apply dBl) | exact HB.out))) : w.heap.size ≤ gb232)); clear HO_5; clear HB; have HO_5 := n0_; have HB := n1_; have BK232 := n2_; have GW232 := n3_; have GE232 := n4_; clear n0_ n1_ n2_ n3_ n4_; clear hb hbox hg; obtain ⟨hcz10_0, hcz10_1, hcz10_2⟩ := celN3 BK232.out; obtain ⟨hfz10_0, hfz10_1, hfz10_2⟩ := fzN3 BK232.out) | ((with_reducible refine gCa (f := 50) rfl ?_); refine gLl (some 21) rfl rfl Tryd.func50 (by kernel_rfl) rfl #[.agg #[.int .i64 ((rd_T50 l0 x15_1).f0), .int .i64 ((rd_T50 l0 x15_1).f1), .bool ((rd_T50 l0 x15_1).f2)]] rfl (by (try simp only [List.map_toArray, List.map_cons, List.map_nil]); first | done | rfl | (simp only [List.length_drop, List.length_take]; rfl)) ?_; (with_reducible refine (runs_bounds.calls ((rd_T50 l0 x15_1).f0) ((rd_T50 l0 x15_1).f1) ((rd_T50 l0 x15_1).f2) t233 t234 _ A7.out).mono ?_); rintro e w11 ⟨rfl, hb⟩; refine ⟨_, rfl, ?_⟩; have n0_ := AsZ.mk (Kd.R_below (by (with_reducible repeat (first | apply Kd.R_alloc | apply Kd.R_drewN | apply Kd.R_drew)); exact (Kd.R_mono (Kd.R_far (p := ⟨gb232, 2, none⟩) (Kd.R_far (p := ⟨gb232, 1, none⟩) (Kd.R_far (p := ⟨gb232, 0, none⟩) (Kd.R_mono HO_5.out (fun k_ hk => (⟨hk, hk.2⟩ : _ ∧ k_ ≠ gb232))) (fun _ hk => hk.2) (.int .i64 ((rd_T50 l0 x15_1).f0))) (fun _ hk => hk.2) (.int .i64 ((rd_T50 l0 x15_1).f1))) (fun _ hk => hk.2) (.bool ((rd_T50 l0 x15_1).f2))) (fun _ h_ => h_.1))) hb); have n1_ := AsZ.mk (bBl (g := gb232) (o := .cells #[.int .i64 ((rd_T50 l0 x15_1).f0), .int .i64 ((rd_T50 l0 x15_1).f1), .bool ((rd_T50 l0 x15_1).f2)] 50 (0, 0)) (by (with_reducible repeat first | apply bDn | apply bDr | apply bAl); refine bPu (cs := #[.int .i64 ((rd_T50 l0 x15_1).f0), .int .i64 ((rd_T50 l0 x15_1).f1), .bool false]) ?_ 2 _ rfl; (with_reducible repeat first | apply bDn | apply bDr | apply bAl); refine bPu (cs := #[.int .i64 ((rd_T50 l0 x15_1).f0), .int .i64 0, .bool false]) ?_ 1 _ rfl; (with_reducible repeat first | apply bDn | apply bDr | apply bAl); refine bPu (cs := #[.int .i64 0, .int .i64 0, .bool false]) ?_ 0 _ rfl; (with_reducible repeat first | apply bDn | apply bDr | apply bAl); exact BK232.out) hb); have n2_ := AsZ.mk (tBl (by repeat (first | (with_reducible first | exact HB.out | apply aBl | apply pBd | apply dBl | refine sBl ?_ GE232.out) | exact HB.out)) hb); clear HO_5; clear BK232; clear HB; have HO_5 := n0_; have BK232 := n1_; have HB := n2_; clear n0_ n1_ n2_; (try clear hb); (try clear hb2); (try clear hk); (try clear hi)))
              try (with_reducible apply wp_scope_straight; go_wp2_with (first | ((with_reducible refine gDs (N := 7) rfl ?_); refine bEv ?hg (N := 7) ?hd (cs := #[.int .i64 0, .int .i64 0, .bool false]) (t := 50) ?hr ?_; (case hd => rfl); (case hg => rfl); (case hr => first | (go_simp; done) | (go_simp; rfl)); intro gb232 hg w9 hbox hb; have n0_ := AsZ.mk (Kd.R_below (Kd.R_elderB (by (with_reducible repeat (first | apply Kd.R_alloc | apply Kd.R_drewN | apply Kd.R_drew)); exact HO_5.out) gb232 (Nat.le_of_eq hg.symm)) hb); have n1_ := AsZ.mk (tBl (by repeat (first | (with_reducible first | exact HB.out | apply aBl | apply pBd | apply dBl) | exact HB.out)) hb); have n2_ := AsZ.mk (hbox); have n3_ := AsZ.mk ((by rw [hg]; exact (zBl (by repeat (first | (with_reducible first | exact HB.out | apply aBl | apply pBd | apply dBl) | exact HB.out))) : w.heap.size ≤ gb232)); have n4_ := AsZ.mk ((by rw [hg]; exact (zBl (by repeat (first | (with_reducible first | exact HB.out | apply aBl | apply pBd | apply dBl) | exact HB.out))) : w.heap.size ≤ gb232)); clear HO_5; clear HB; have HO_5 := n0_; have HB := n1_; have BK232 := n2_; have GW232 := n3_; have GE232 := n4_; clear n0_ n1_ n2_ n3_ n4_; clear hb hbox hg; obtain ⟨hcz10_0, hcz10_1, hcz10_2⟩ := celN3 BK232.out; obtain ⟨hfz10_0, hfz10_1, hfz10_2⟩ := fzN3 BK232.out) | ((with_reducible refine gCa (f := 50) rfl ?_); refine gLl (some 21) rfl rfl Tryd.func50 (by kernel_rfl) rfl #[.agg #[.int .i64 ((rd_T50 l0 x15_1).f0), .int .i64 ((rd_T50 l0 x15_1).f1), .bool ((rd_T50 l0 x15_1).f2)]] rfl (by (try simp only [List.map_toArray, List.map_cons, List.map_nil]); first | done | rfl | (simp only [List.length_drop, List.length_take]; rfl)) ?_; (with_reducible refine (runs_bounds.calls ((rd_T50 l0 x15_1).f0) ((rd_T50 l0 x15_1).f1) ((rd_T50 l0 x15_1).f2) t233 t234 _ A7.out).mono ?_); rintro e w11 ⟨rfl, hb⟩; refine ⟨_, rfl, ?_⟩; have n0_ := AsZ.mk (Kd.R_below (by (with_reducible repeat (first | apply Kd.R_alloc | apply Kd.R_drewN | apply Kd.R_drew)); exact (Kd.R_mono (Kd.R_far (p := ⟨gb232, 2, none⟩) (Kd.R_far (p := ⟨gb232, 1, none⟩) (Kd.R_far (p := ⟨gb232, 0, none⟩) (Kd.R_mono HO_5.out (fun k_ hk => (⟨hk, hk.2⟩ : _ ∧ k_ ≠ gb232))) (fun _ hk => hk.2) (.int .i64 ((rd_T50 l0 x15_1).f0))) (fun _ hk => hk.2) (.int .i64 ((rd_T50 l0 x15_1).f1))) (fun _ hk => hk.2) (.bool ((rd_T50 l0 x15_1).f2))) (fun _ h_ => h_.1))) hb); have n1_ := AsZ.mk (bBl (g := gb232) (o := .cells #[.int .i64 ((rd_T50 l0 x15_1).f0), .int .i64 ((rd_T50 l0 x15_1).f1), .bool ((rd_T50 l0 x15_1).f2)] 50 (0, 0)) (by (with_reducible repeat first | apply bDn | apply bDr | apply bAl); refine bPu (cs := #[.int .i64 ((rd_T50 l0 x15_1).f0), .int .i64 ((rd_T50 l0 x15_1).f1), .bool false]) ?_ 2 _ rfl; (with_reducible repeat first | apply bDn | apply bDr | apply bAl); refine bPu (cs := #[.int .i64 ((rd_T50 l0 x15_1).f0), .int .i64 0, .bool false]) ?_ 1 _ rfl; (with_reducible repeat first | apply bDn | apply bDr | apply bAl); refine bPu (cs := #[.int .i64 0, .int .i64 0, .bool false]) ?_ 0 _ rfl; (with_reducible repeat first | apply bDn | apply bDr | apply bAl); exact BK232.out) hb); have n2_ := AsZ.mk (tBl (by repeat (first | (with_reducible first | exact HB.out | apply aBl | apply pBd | apply dBl | refine sBl ?_ GE232.out) | exact HB.out)) hb); clear HO_5; clear BK232; clear HB; have HO_5 := n0_; have BK232 := n1_; have HB := n2_; clear n0_ n1_ n2_; (try clear hb); (try clear hb2); (try clear hk); (try clear hi))))
              try (with_reducible apply wp_label; go_wp2_with (first | ((with_reducible refine gDs (N := 7) rfl ?_); refine bEv ?hg (N := 7) ?hd (cs := #[.int .i64 0, .int .i64 0, .bool false]) (t := 50) ?hr ?_; (case hd => rfl); (case hg => rfl); (case hr => first | (go_simp; done) | (go_simp; rfl)); intro gb232 hg w9 hbox hb; have n0_ := AsZ.mk (Kd.R_below (Kd.R_elderB (by (with_reducible repeat (first | apply Kd.R_alloc | apply Kd.R_drewN | apply Kd.R_drew)); exact HO_5.out) gb232 (Nat.le_of_eq hg.symm)) hb); have n1_ := AsZ.mk (tBl (by repeat (first | (with_reducible first | exact HB.out | apply aBl | apply pBd | apply dBl) | exact HB.out)) hb); have n2_ := AsZ.mk (hbox); have n3_ := AsZ.mk ((by rw [hg]; exact (zBl (by repeat (first | (with_reducible first | exact HB.out | apply aBl | apply pBd | apply dBl) | exact HB.out))) : w.heap.size ≤ gb232)); have n4_ := AsZ.mk ((by rw [hg]; exact (zBl (by repeat (first | (with_reducible first | exact HB.out | apply aBl | apply pBd | apply dBl) | exact HB.out))) : w.heap.size ≤ gb232)); clear HO_5; clear HB; have HO_5 := n0_; have HB := n1_; have BK232 := n2_; have GW232 := n3_; have GE232 := n4_; clear n0_ n1_ n2_ n3_ n4_; clear hb hbox hg; obtain ⟨hcz10_0, hcz10_1, hcz10_2⟩ := celN3 BK232.out; obtain ⟨hfz10_0, hfz10_1, hfz10_2⟩ := fzN3 BK232.out) | ((with_reducible refine gCa (f := 50) rfl ?_); refine gLl (some 21) rfl rfl Tryd.func50 (by kernel_rfl) rfl #[.agg #[.int .i64 ((rd_T50 l0 x15_1).f0), .int .i64 ((rd_T50 l0 x15_1).f1), .bool ((rd_T50 l0 x15_1).f2)]] rfl (by (try simp only [List.map_toArray, List.map_cons, List.map_nil]); first | done | rfl | (simp only [List.length_drop, List.length_take]; rfl)) ?_; (with_reducible refine (runs_bounds.calls ((rd_T50 l0 x15_1).f0) ((rd_T50 l0 x15_1).f1) ((rd_T50 l0 x15_1).f2) t233 t234 _ A7.out).mono ?_); rintro e w11 ⟨rfl, hb⟩; refine ⟨_, rfl, ?_⟩; have n0_ := AsZ.mk (Kd.R_below (by (with_reducible repeat (first | apply Kd.R_alloc | apply Kd.R_drewN | apply Kd.R_drew)); exact (Kd.R_mono (Kd.R_far (p := ⟨gb232, 2, none⟩) (Kd.R_far (p := ⟨gb232, 1, none⟩) (Kd.R_far (p := ⟨gb232, 0, none⟩) (Kd.R_mono HO_5.out (fun k_ hk => (⟨hk, hk.2⟩ : _ ∧ k_ ≠ gb232))) (fun _ hk => hk.2) (.int .i64 ((rd_T50 l0 x15_1).f0))) (fun _ hk => hk.2) (.int .i64 ((rd_T50 l0 x15_1).f1))) (fun _ hk => hk.2) (.bool ((rd_T50 l0 x15_1).f2))) (fun _ h_ => h_.1))) hb); have n1_ := AsZ.mk (bBl (g := gb232) (o := .cells #[.int .i64 ((rd_T50 l0 x15_1).f0), .int .i64 ((rd_T50 l0 x15_1).f1), .bool ((rd_T50 l0 x15_1).f2)] 50 (0, 0)) (by (with_reducible repeat first | apply bDn | apply bDr | apply bAl); refine bPu (cs := #[.int .i64 ((rd_T50 l0 x15_1).f0), .int .i64 ((rd_T50 l0 x15_1).f1), .bool false]) ?_ 2 _ rfl; (with_reducible repeat first | apply bDn | apply bDr | apply bAl); refine bPu (cs := #[.int .i64 ((rd_T50 l0 x15_1).f0), .int .i64 0, .bool false]) ?_ 1 _ rfl; (with_reducible repeat first | apply bDn | apply bDr | apply bAl); refine bPu (cs := #[.int .i64 0, .int .i64 0, .bool false]) ?_ 0 _ rfl; (with_reducible repeat first | apply bDn | apply bDr | apply bAl); exact BK232.out) hb); have n2_ := AsZ.mk (tBl (by repeat (first | (with_reducible first | exact HB.out | apply aBl | apply pBd | apply dBl | refine sBl ?_ GE232.out) | exact HB.out)) hb); clear HO_5; clear BK232; clear HB; have HO_5 := n0_; have BK232 := n1_; have HB := n2_; clear n0_ n1_ n2_; (try clear hb); (try clear hb2); (try clear hk); (try clear hi))))
              go_roundg k1
              case measure => have := HK1.out; omega
              case rel => exact ⟨(x5_1), (wrap64 (x15_1 + 1)), (by first | rfl | (simp; done) | (simp [*]; done)), H', ⟨by have := HK1.out; omega⟩, ⟨by (with_reducible repeat (first | apply Kd.R_alloc | apply Kd.R_drewN | apply Kd.R_drew)); exact Kd.R_mono HO_5.out (fun _ hk => trivial)⟩, ⟨by repeat (first | (with_reducible first | exact HB.out | apply aBl | apply pBd | apply dBl | refine sBl ?_ GE232.out) | exact HB.out)⟩⟩
            · rw [if_neg c8] at H
              have c8b0 : decide (t234 ≤ t233) = false := decide_eq_false c8
              clear c8
              have H' := AsZ.mk H
              clear H
              have p231 : 0 ≤ (x15_1 : Int) := of_decide_eq_true (by first | (with_reducible assumption) | assumption)
              have q231 : x15_1 < (l0.length : Int) := of_decide_eq_true (by first | (with_reducible assumption) | assumption)
              obtain ⟨ad231, e231, hx231_0, hx231_1, hx231_2⟩ := at_T50 HR0.out x15_1 p231 q231
              cases e231
              replace hx231_0 := (HB.out.cell (World.block_lt_of_cell? w _ hx231_0)).trans hx231_0
              replace hx231_1 := (HB.out.cell (World.block_lt_of_cell? w _ hx231_1)).trans hx231_1
              replace hx231_2 := (HB.out.cell (World.block_lt_of_cell? w _ hx231_2)).trans hx231_2
              replace p231 := eq_true p231
              replace q231 := eq_true q231
              go_wp2_with (first | ((with_reducible refine gDs (N := 7) rfl ?_); refine bEv ?hg (N := 7) ?hd (cs := #[.int .i64 0, .int .i64 0, .bool false]) (t := 50) ?hr ?_; (case hd => rfl); (case hg => rfl); (case hr => first | (go_simp; done) | (go_simp; rfl)); intro gb232 hg w12 hbox hb; have n0_ := AsZ.mk (Kd.R_below (Kd.R_elderB (by (with_reducible repeat (first | apply Kd.R_alloc | apply Kd.R_drewN | apply Kd.R_drew)); exact HO_5.out) gb232 (Nat.le_of_eq hg.symm)) hb); have n1_ := AsZ.mk (tBl (by repeat (first | (with_reducible first | exact HB.out | apply aBl | apply pBd | apply dBl) | exact HB.out)) hb); have n2_ := AsZ.mk (hbox); have n3_ := AsZ.mk ((by rw [hg]; exact (zBl (by repeat (first | (with_reducible first | exact HB.out | apply aBl | apply pBd | apply dBl) | exact HB.out))) : w.heap.size ≤ gb232)); have n4_ := AsZ.mk ((by rw [hg]; exact (zBl (by repeat (first | (with_reducible first | exact HB.out | apply aBl | apply pBd | apply dBl) | exact HB.out))) : w.heap.size ≤ gb232)); clear HO_5; clear HB; have HO_5 := n0_; have HB := n1_; have BK232 := n2_; have GW232 := n3_; have GE232 := n4_; clear n0_ n1_ n2_ n3_ n4_; clear hb hbox hg; obtain ⟨hcz13_0, hcz13_1, hcz13_2⟩ := celN3 BK232.out; obtain ⟨hfz13_0, hfz13_1, hfz13_2⟩ := fzN3 BK232.out) | ((with_reducible refine gCa (f := 50) rfl ?_); refine gLl (some 21) rfl rfl Tryd.func50 (by kernel_rfl) rfl #[.agg #[.int .i64 ((rd_T50 l0 x15_1).f0), .int .i64 ((rd_T50 l0 x15_1).f1), .bool ((rd_T50 l0 x15_1).f2)]] rfl (by (try simp only [List.map_toArray, List.map_cons, List.map_nil]); first | done | rfl | (simp only [List.length_drop, List.length_take]; rfl)) ?_; (with_reducible refine (runs_bounds.calls ((rd_T50 l0 x15_1).f0) ((rd_T50 l0 x15_1).f1) ((rd_T50 l0 x15_1).f2) t233 t234 _ A7.out).mono ?_); rintro e w14 ⟨rfl, hb⟩; refine ⟨_, rfl, ?_⟩; have n0_ := AsZ.mk (Kd.R_below (by (with_reducible repeat (first | apply Kd.R_alloc | apply Kd.R_drewN | apply Kd.R_drew)); exact (Kd.R_mono (Kd.R_far (p := ⟨gb232, 2, none⟩) (Kd.R_far (p := ⟨gb232, 1, none⟩) (Kd.R_far (p := ⟨gb232, 0, none⟩) (Kd.R_mono HO_5.out (fun k_ hk => (⟨hk, hk.2⟩ : _ ∧ k_ ≠ gb232))) (fun _ hk => hk.2) (.int .i64 ((rd_T50 l0 x15_1).f0))) (fun _ hk => hk.2) (.int .i64 ((rd_T50 l0 x15_1).f1))) (fun _ hk => hk.2) (.bool ((rd_T50 l0 x15_1).f2))) (fun _ h_ => h_.1))) hb); have n1_ := AsZ.mk (bBl (g := gb232) (o := .cells #[.int .i64 ((rd_T50 l0 x15_1).f0), .int .i64 ((rd_T50 l0 x15_1).f1), .bool ((rd_T50 l0 x15_1).f2)] 50 (0, 0)) (by (with_reducible repeat first | apply bDn | apply bDr | apply bAl); refine bPu (cs := #[.int .i64 ((rd_T50 l0 x15_1).f0), .int .i64 ((rd_T50 l0 x15_1).f1), .bool false]) ?_ 2 _ rfl; (with_reducible repeat first | apply bDn | apply bDr | apply bAl); refine bPu (cs := #[.int .i64 ((rd_T50 l0 x15_1).f0), .int .i64 0, .bool false]) ?_ 1 _ rfl; (with_reducible repeat first | apply bDn | apply bDr | apply bAl); refine bPu (cs := #[.int .i64 0, .int .i64 0, .bool false]) ?_ 0 _ rfl; (with_reducible repeat first | apply bDn | apply bDr | apply bAl); exact BK232.out) hb); have n2_ := AsZ.mk (tBl (by repeat (first | (with_reducible first | exact HB.out | apply aBl | apply pBd | apply dBl | refine sBl ?_ GE232.out) | exact HB.out)) hb); clear HO_5; clear BK232; clear HB; have HO_5 := n0_; have BK232 := n1_; have HB := n2_; clear n0_ n1_ n2_; (try clear hb); (try clear hb2); (try clear hk); (try clear hi)))
              try (with_reducible apply wp_scope_straight; go_wp2_with (first | ((with_reducible refine gDs (N := 7) rfl ?_); refine bEv ?hg (N := 7) ?hd (cs := #[.int .i64 0, .int .i64 0, .bool false]) (t := 50) ?hr ?_; (case hd => rfl); (case hg => rfl); (case hr => first | (go_simp; done) | (go_simp; rfl)); intro gb232 hg w12 hbox hb; have n0_ := AsZ.mk (Kd.R_below (Kd.R_elderB (by (with_reducible repeat (first | apply Kd.R_alloc | apply Kd.R_drewN | apply Kd.R_drew)); exact HO_5.out) gb232 (Nat.le_of_eq hg.symm)) hb); have n1_ := AsZ.mk (tBl (by repeat (first | (with_reducible first | exact HB.out | apply aBl | apply pBd | apply dBl) | exact HB.out)) hb); have n2_ := AsZ.mk (hbox); have n3_ := AsZ.mk ((by rw [hg]; exact (zBl (by repeat (first | (with_reducible first | exact HB.out | apply aBl | apply pBd | apply dBl) | exact HB.out))) : w.heap.size ≤ gb232)); have n4_ := AsZ.mk ((by rw [hg]; exact (zBl (by repeat (first | (with_reducible first | exact HB.out | apply aBl | apply pBd | apply dBl) | exact HB.out))) : w.heap.size ≤ gb232)); clear HO_5; clear HB; have HO_5 := n0_; have HB := n1_; have BK232 := n2_; have GW232 := n3_; have GE232 := n4_; clear n0_ n1_ n2_ n3_ n4_; clear hb hbox hg; obtain ⟨hcz13_0, hcz13_1, hcz13_2⟩ := celN3 BK232.out; obtain ⟨hfz13_0, hfz13_1, hfz13_2⟩ := fzN3 BK232.out) | ((with_reducible refine gCa (f := 50) rfl ?_); refine gLl (some 21) rfl rfl Tryd.func50 (by kernel_rfl) rfl #[.agg #[.int .i64 ((rd_T50 l0 x15_1).f0), .int .i64 ((rd_T50 l0 x15_1).f1), .bool ((rd_T50 l0 x15_1).f2)]] rfl (by (try simp only [List.map_toArray, List.map_cons, List.map_nil]); first | done | rfl | (simp only [List.length_drop, List.length_take]; rfl)) ?_; (with_reducible refine (runs_bounds.calls ((rd_T50 l0 x15_1).f0) ((rd_T50 l0 x15_1).f1) ((rd_T50 l0 x15_1).f2) t233 t234 _ A7.out).mono ?_); rintro e w14 ⟨rfl, hb⟩; refine ⟨_, rfl, ?_⟩; have n0_ := AsZ.mk (Kd.R_below (by (with_reducible repeat (first | apply Kd.R_alloc | apply Kd.R_drewN | apply Kd.R_drew)); exact (Kd.R_mono (Kd.R_far (p := ⟨gb232, 2, none⟩) (Kd.R_far (p := ⟨gb232, 1, none⟩) (Kd.R_far (p := ⟨gb232, 0, none⟩) (Kd.R_mono HO_5.out (fun k_ hk => (⟨hk, hk.2⟩ : _ ∧ k_ ≠ gb232))) (fun _ hk => hk.2) (.int .i64 ((rd_T50 l0 x15_1).f0))) (fun _ hk => hk.2) (.int .i64 ((rd_T50 l0 x15_1).f1))) (fun _ hk => hk.2) (.bool ((rd_T50 l0 x15_1).f2))) (fun _ h_ => h_.1))) hb); have n1_ := AsZ.mk (bBl (g := gb232) (o := .cells #[.int .i64 ((rd_T50 l0 x15_1).f0), .int .i64 ((rd_T50 l0 x15_1).f1), .bool ((rd_T50 l0 x15_1).f2)] 50 (0, 0)) (by (with_reducible repeat first | apply bDn | apply bDr | apply bAl); refine bPu (cs := #[.int .i64 ((rd_T50 l0 x15_1).f0), .int .i64 ((rd_T50 l0 x15_1).f1), .bool false]) ?_ 2 _ rfl; (with_reducible repeat first | apply bDn | apply bDr | apply bAl); refine bPu (cs := #[.int .i64 ((rd_T50 l0 x15_1).f0), .int .i64 0, .bool false]) ?_ 1 _ rfl; (with_reducible repeat first | apply bDn | apply bDr | apply bAl); refine bPu (cs := #[.int .i64 0, .int .i64 0, .bool false]) ?_ 0 _ rfl; (with_reducible repeat first | apply bDn | apply bDr | apply bAl); exact BK232.out) hb); have n2_ := AsZ.mk (tBl (by repeat (first | (with_reducible first | exact HB.out | apply aBl | apply pBd | apply dBl | refine sBl ?_ GE232.out) | exact HB.out)) hb); clear HO_5; clear BK232; clear HB; have HO_5 := n0_; have BK232 := n1_; have HB := n2_; clear n0_ n1_ n2_; (try clear hb); (try clear hb2); (try clear hk); (try clear hi))))
              try (with_reducible apply wp_label; go_wp2_with (first | ((with_reducible refine gDs (N := 7) rfl ?_); refine bEv ?hg (N := 7) ?hd (cs := #[.int .i64 0, .int .i64 0, .bool false]) (t := 50) ?hr ?_; (case hd => rfl); (case hg => rfl); (case hr => first | (go_simp; done) | (go_simp; rfl)); intro gb232 hg w12 hbox hb; have n0_ := AsZ.mk (Kd.R_below (Kd.R_elderB (by (with_reducible repeat (first | apply Kd.R_alloc | apply Kd.R_drewN | apply Kd.R_drew)); exact HO_5.out) gb232 (Nat.le_of_eq hg.symm)) hb); have n1_ := AsZ.mk (tBl (by repeat (first | (with_reducible first | exact HB.out | apply aBl | apply pBd | apply dBl) | exact HB.out)) hb); have n2_ := AsZ.mk (hbox); have n3_ := AsZ.mk ((by rw [hg]; exact (zBl (by repeat (first | (with_reducible first | exact HB.out | apply aBl | apply pBd | apply dBl) | exact HB.out))) : w.heap.size ≤ gb232)); have n4_ := AsZ.mk ((by rw [hg]; exact (zBl (by repeat (first | (with_reducible first | exact HB.out | apply aBl | apply pBd | apply dBl) | exact HB.out))) : w.heap.size ≤ gb232)); clear HO_5; clear HB; have HO_5 := n0_; have HB := n1_; have BK232 := n2_; have GW232 := n3_; have GE232 := n4_; clear n0_ n1_ n2_ n3_ n4_; clear hb hbox hg; obtain ⟨hcz13_0, hcz13_1, hcz13_2⟩ := celN3 BK232.out; obtain ⟨hfz13_0, hfz13_1, hfz13_2⟩ := fzN3 BK232.out) | ((with_reducible refine gCa (f := 50) rfl ?_); refine gLl (some 21) rfl rfl Tryd.func50 (by kernel_rfl) rfl #[.agg #[.int .i64 ((rd_T50 l0 x15_1).f0), .int .i64 ((rd_T50 l0 x15_1).f1), .bool ((rd_T50 l0 x15_1).f2)]] rfl (by (try simp only [List.map_toArray, List.map_cons, List.map_nil]); first | done | rfl | (simp only [List.length_drop, List.length_take]; rfl)) ?_; (with_reducible refine (runs_bounds.calls ((rd_T50 l0 x15_1).f0) ((rd_T50 l0 x15_1).f1) ((rd_T50 l0 x15_1).f2) t233 t234 _ A7.out).mono ?_); rintro e w14 ⟨rfl, hb⟩; refine ⟨_, rfl, ?_⟩; have n0_ := AsZ.mk (Kd.R_below (by (with_reducible repeat (first | apply Kd.R_alloc | apply Kd.R_drewN | apply Kd.R_drew)); exact (Kd.R_mono (Kd.R_far (p := ⟨gb232, 2, none⟩) (Kd.R_far (p := ⟨gb232, 1, none⟩) (Kd.R_far (p := ⟨gb232, 0, none⟩) (Kd.R_mono HO_5.out (fun k_ hk => (⟨hk, hk.2⟩ : _ ∧ k_ ≠ gb232))) (fun _ hk => hk.2) (.int .i64 ((rd_T50 l0 x15_1).f0))) (fun _ hk => hk.2) (.int .i64 ((rd_T50 l0 x15_1).f1))) (fun _ hk => hk.2) (.bool ((rd_T50 l0 x15_1).f2))) (fun _ h_ => h_.1))) hb); have n1_ := AsZ.mk (bBl (g := gb232) (o := .cells #[.int .i64 ((rd_T50 l0 x15_1).f0), .int .i64 ((rd_T50 l0 x15_1).f1), .bool ((rd_T50 l0 x15_1).f2)] 50 (0, 0)) (by (with_reducible repeat first | apply bDn | apply bDr | apply bAl); refine bPu (cs := #[.int .i64 ((rd_T50 l0 x15_1).f0), .int .i64 ((rd_T50 l0 x15_1).f1), .bool false]) ?_ 2 _ rfl; (with_reducible repeat first | apply bDn | apply bDr | apply bAl); refine bPu (cs := #[.int .i64 ((rd_T50 l0 x15_1).f0), .int .i64 0, .bool false]) ?_ 1 _ rfl; (with_reducible repeat first | apply bDn | apply bDr | apply bAl); refine bPu (cs := #[.int .i64 0, .int .i64 0, .bool false]) ?_ 0 _ rfl; (with_reducible repeat first | apply bDn | apply bDr | apply bAl); exact BK232.out) hb); have n2_ := AsZ.mk (tBl (by repeat (first | (with_reducible first | exact HB.out | apply aBl | apply pBd | apply dBl | refine sBl ?_ GE232.out) | exact HB.out)) hb); clear HO_5; clear BK232; clear HB; have HO_5 := n0_; have BK232 := n1_; have HB := n2_; clear n0_ n1_ n2_; (try clear hb); (try clear hb2); (try clear hk); (try clear hi))))
              go_loopg [5, 8] k1 (fun kq v5 v8 w' => ∃ (x5_2 : List (S50)) (x8_2 : Int), v8 = .int .i64 x8_2 ∧ AsZ (runs_Cap.l1 kq ji3 x5_2 x8_2 t234 l0 (l0.length : Int) x15_1 ((rd_T50 l0 x15_1).f0) ((rd_T50 l0 x15_1).f1) ((rd_T50 l0 x15_1).f2) = some r) ∧ AsZ (kq ≤ k1) ∧ AsZ (Kd.R k50 50 w' w.heap.size (fun k_ => k_ ≠ gb232) v5 x5_2) ∧ AsZ (w'.heap[gb232]? = some (.cells #[.int .i64 ((rd_T50 l0 x15_1).f0), .int .i64 ((rd_T50 l0 x15_1).f1), .bool ((rd_T50 l0 x15_1).f2)] 50 (0, 0))) ∧ AsZ (Below w.heap.size w w'))
              case atStart => exact ⟨(x5_1), (t233), (by first | rfl | (simp; done) | (simp [*]; done)), H', ⟨Nat.le_refl _⟩, ⟨by (with_reducible repeat (first | apply Kd.R_alloc | apply Kd.R_drewN | apply Kd.R_drew)); exact Kd.R_mono HO_5.out (fun _ hk => hk.2)⟩, ⟨by (with_reducible repeat first | apply bDn | apply bDr | apply bAl); exact BK232.out⟩, ⟨by repeat (first | (with_reducible first | exact HB.out | apply aBl | apply pBd | apply dBl | refine sBl ?_ GE232.out) | exact HB.out)⟩⟩
              case round =>
                clear H'
                try clear p2
                try clear q2
                try clear hx2
                try clear c3
                try clear c4
                try clear c4b0
                try clear c5
                try clear c5b0
                try clear c6
                try clear c6b0
                try clear p6
                try clear c8
                try clear c8b0
                try clear hcz10_0
                try clear hcz10_1
                try clear hcz10_2
                try clear hcz13_0
                try clear hcz13_1
                try clear hcz13_2
                try clear hfz10_0
                try clear hfz10_1
                try clear hfz10_2
                try clear hfz13_0
                try clear hfz13_1
                try clear hfz13_2
                try clear hx231_0
                try clear hx231_1
                try clear hx231_2
                try clear p2
                try clear p231
                try clear q231
                obtain ⟨x5_2, x8_2, rfl, HA, HK2, HO_5, BK232, HB⟩ := hrel
                cases gk with
                | zero => exact absurd HA.out (by simp [runs_Cap.l1])
                | succ k2 =>
                  have H := HA.out
                  clear HA
                  simp only [runs_Cap.l1] at H
                  by_cases c15 : x8_2 < t234
                  · rw [if_pos c15] at H
                    have c15b0 : decide (x8_2 < t234) = true := decide_eq_true c15
                    clear c15
                    by_cases c16 : ji3 < (wrap64 (t234 - x8_2))
                    · rw [if_pos c16] at H
                      have c16b0 : decide (ji3 < (wrap64 (t234 - x8_2))) = true := decide_eq_true c16
                      clear c16
                      by_cases c17 : x5_2.length < 5864062014805
                      · rw [if_pos c17] at H
                        have LMc17 := AsZ.mk c17
                        clear c17
                        obtain ⟨y235, hy235⟩ : ∃ y_ : List (S50), y_ = (x5_2 ++ [(⟨x8_2, wrap64 (x8_2 + ji3), ((rd_T50 l0 x15_1).f2)⟩ : S50)]) := ⟨_, rfl⟩
                        replace H : (runs_Cap.l1 k2 ji3 y235 (wrap64 (x8_2 + ji3)) t234 l0 (l0.length : Int) x15_1 ((rd_T50 l0 x15_1).f0) ((rd_T50 l0 x15_1).f1) ((rd_T50 l0 x15_1).f2)) = some r := by first | (rw [hy235]; with_reducible exact H) | (have H2_ := (Option.bind_some _ _).symm.trans H; rw [hy235]; with_reducible exact H2_) | (have H2_ := (Option.bind_some _ _).symm.trans H; with_reducible exact H2_) | with_reducible exact H | (rw [hy235]; exact H) | exact H
                        have Ny235 := AsZ.mk hy235
                        clear hy235
                        have H' := AsZ.mk H
                        clear H
                        obtain ⟨hcz18_0, hcz18_1, hcz18_2⟩ := celN3 BK232.out
                        obtain ⟨hfz18_0, hfz18_1, hfz18_2⟩ := fzN3 BK232.out
                        go_wp2_with (first | ((with_reducible refine gate_builtin (b := .append) (xs := #[.tmp 39, .tmp 45]) rfl ?_); at_builtin; refine Kd.R_append k50 (w0 := w) w.heap.size rfl (.tmp 39) (.tmp 45) 40 50 (.agg #[(.int .i64 0), (.int .i64 0), (.bool false)]) 24 rfl Tryd.underlying40 info50 rfl (by decide) (by omega) u5 x5_2 (⟨x8_2, wrap64 (x8_2 + ji3), ((rd_T50 l0 x15_1).f2)⟩ : S50) [.int .i64 x8_2, .int .i64 (wrap64 (x8_2 + ji3)), .bool ((rd_T50 l0 x15_1).f2)] (fun k_ => k_ ≠ gb232) (fun _ => False) rfl rfl ?aP (fun _ hk => hk.elim) ?aF ?aO ?aB ?aS ?aL ?_; (case aP => exact k50_mkM _ _ _ (⟨x8_2, wrap64 (x8_2 + ji3), ((rd_T50 l0 x15_1).f2)⟩ : S50)); (case aB => exact (by repeat (first | (with_reducible first | exact HB.out | apply aBl | apply pBd | apply dBl | refine sBl ?_ GE232.out) | exact HB.out))); (case aF => exact (fun k_ hk => Kd.freshB (g := gb232) (o := .cells #[.int .i64 ((rd_T50 l0 x15_1).f0), .int .i64 ((rd_T50 l0 x15_1).f1), .bool ((rd_T50 l0 x15_1).f2)] 50 (0, 0)) (by (with_reducible repeat first | apply bDn | apply bDr | apply bAl); exact BK232.out) k_ hk)); (case aO => exact (by (with_reducible repeat (first | apply Kd.R_alloc | apply Kd.R_drewN | apply Kd.R_drew)); exact HO_5.out)); (case aS => exact (zBl (by repeat (first | (with_reducible first | exact HB.out | apply aBl | apply pBd | apply dBl | refine sBl ?_ GE232.out) | exact HB.out)))); (case aL => have := LMc17.out; omega); intro v236 w19 ho hb hg hat; rw [← Ny235.out] at ho; have n0_ := AsZ.mk (blk_grown (g := gb232) (o := .cells #[.int .i64 ((rd_T50 l0 x15_1).f0), .int .i64 ((rd_T50 l0 x15_1).f1), .bool ((rd_T50 l0 x15_1).f2)] 50 (0, 0)) (by (with_reducible repeat first | apply bDn | apply bDr | apply bAl); exact BK232.out) hg (Kd.R_away HO_5.out (fun _ hk => hk))); have n1_ := AsZ.mk (hb); have n2_ := AsZ.mk (ho); clear BK232; clear HB; clear HO_5; have BK232 := n0_; have HB := n1_; have HO237 := n2_; clear n0_ n1_ n2_; clear ho hb hg hat))
                        try (with_reducible apply wp_scope_straight; go_wp2_with (first | ((with_reducible refine gate_builtin (b := .append) (xs := #[.tmp 39, .tmp 45]) rfl ?_); at_builtin; refine Kd.R_append k50 (w0 := w) w.heap.size rfl (.tmp 39) (.tmp 45) 40 50 (.agg #[(.int .i64 0), (.int .i64 0), (.bool false)]) 24 rfl Tryd.underlying40 info50 rfl (by decide) (by omega) u5 x5_2 (⟨x8_2, wrap64 (x8_2 + ji3), ((rd_T50 l0 x15_1).f2)⟩ : S50) [.int .i64 x8_2, .int .i64 (wrap64 (x8_2 + ji3)), .bool ((rd_T50 l0 x15_1).f2)] (fun k_ => k_ ≠ gb232) (fun _ => False) rfl rfl ?aP (fun _ hk => hk.elim) ?aF ?aO ?aB ?aS ?aL ?_; (case aP => exact k50_mkM _ _ _ (⟨x8_2, wrap64 (x8_2 + ji3), ((rd_T50 l0 x15_1).f2)⟩ : S50)); (case aB => exact (by repeat (first | (with_reducible first | exact HB.out | apply aBl | apply pBd | apply dBl | refine sBl ?_ GE232.out) | exact HB.out))); (case aF => exact (fun k_ hk => Kd.freshB (g := gb232) (o := .cells #[.int .i64 ((rd_T50 l0 x15_1).f0), .int .i64 ((rd_T50 l0 x15_1).f1), .bool ((rd_T50 l0 x15_1).f2)] 50 (0, 0)) (by (with_reducible repeat first | apply bDn | apply bDr | apply bAl); exact BK232.out) k_ hk)); (case aO => exact (by (with_reducible repeat (first | apply Kd.R_alloc | apply Kd.R_drewN | apply Kd.R_drew)); exact HO_5.out)); (case aS => exact (zBl (by repeat (first | (with_reducible first | exact HB.out | apply aBl | apply pBd | apply dBl | refine sBl ?_ GE232.out) | exact HB.out)))); (case aL => have := LMc17.out; omega); intro v236 w19 ho hb hg hat; rw [← Ny235.out] at ho; have n0_ := AsZ.mk (blk_grown (g := gb232) (o := .cells #[.int .i64 ((rd_T50 l0 x15_1).f0), .int .i64 ((rd_T50 l0 x15_1).f1), .bool ((rd_T50 l0 x15_1).f2)] 50 (0, 0)) (by (with_reducible repeat first | apply bDn | apply bDr | apply bAl); exact BK232.out) hg (Kd.R_away HO_5.out (fun _ hk => hk))); have n1_ := AsZ.mk (hb); have n2_ := AsZ.mk (ho); clear BK232; clear HB; clear HO_5; have BK232 := n0_; have HB := n1_; have HO237 := n2_; clear n0_ n1_ n2_; clear ho hb hg hat)))
                        try (with_reducible apply wp_label; go_wp2_with (first | ((with_reducible refine gate_builtin (b := .append) (xs := #[.tmp 39, .tmp 45]) rfl ?_); at_builtin; refine Kd.R_append k50 (w0 := w) w.heap.size rfl (.tmp 39) (.tmp 45) 40 50 (.agg #[(.int .i64 0), (.int .i64 0), (.bool false)]) 24 rfl Tryd.underlying40 info50 rfl (by decide) (by omega) u5 x5_2 (⟨x8_2, wrap64 (x8_2 + ji3), ((rd_T50 l0 x15_1).f2)⟩ : S50) [.int .i64 x8_2, .int .i64 (wrap64 (x8_2 + ji3)), .bool ((rd_T50 l0 x15_1).f2)] (fun k_ => k_ ≠ gb232) (fun _ => False) rfl rfl ?aP (fun _ hk => hk.elim) ?aF ?aO ?aB ?aS ?aL ?_; (case aP => exact k50_mkM _ _ _ (⟨x8_2, wrap64 (x8_2 + ji3), ((rd_T50 l0 x15_1).f2)⟩ : S50)); (case aB => exact (by repeat (first | (with_reducible first | exact HB.out | apply aBl | apply pBd | apply dBl | refine sBl ?_ GE232.out) | exact HB.out))); (case aF => exact (fun k_ hk => Kd.freshB (g := gb232) (o := .cells #[.int .i64 ((rd_T50 l0 x15_1).f0), .int .i64 ((rd_T50 l0 x15_1).f1), .bool ((rd_T50 l0 x15_1).f2)] 50 (0, 0)) (by (with_reducible repeat first | apply bDn | apply bDr | apply bAl); exact BK232.out) k_ hk)); (case aO => exact (by (with_reducible repeat (first | apply Kd.R_alloc | apply Kd.R_drewN | apply Kd.R_drew)); exact HO_5.out)); (case aS => exact (zBl (by repeat (first | (with_reducible first | exact HB.out | apply aBl | apply pBd | apply dBl | refine sBl ?_ GE232.out) | exact HB.out)))); (case aL => have := LMc17.out; omega); intro v236 w19 ho hb hg hat; rw [← Ny235.out] at ho; have n0_ := AsZ.mk (blk_grown (g := gb232) (o := .cells #[.int .i64 ((rd_T50 l0 x15_1).f0), .int .i64 ((rd_T50 l0 x15_1).f1), .bool ((rd_T50 l0 x15_1).f2)] 50 (0, 0)) (by (with_reducible repeat first | apply bDn | apply bDr | apply bAl); exact BK232.out) hg (Kd.R_away HO_5.out (fun _ hk => hk))); have n1_ := AsZ.mk (hb); have n2_ := AsZ.mk (ho); clear BK232; clear HB; clear HO_5; have BK232 := n0_; have HB := n1_; have HO237 := n2_; clear n0_ n1_ n2_; clear ho hb hg hat)))
                        go_roundg k2
                        case measure => have := HK1.out; have := HK2.out; omega
                        case rel => exact ⟨(y235), (wrap64 (x8_2 + ji3)), (by first | rfl | (simp; done) | (simp only [← hji3] <;> (first | rfl | simp)) | (simp [*]; done)), H', ⟨by have := HK1.out; have := HK2.out; omega⟩, ⟨by (with_reducible repeat (first | apply Kd.R_alloc | apply Kd.R_drewN | apply Kd.R_drew)); exact HO237.out⟩, ⟨by (with_reducible repeat first | apply bDn | apply bDr | apply bAl); exact BK232.out⟩, ⟨by repeat (first | (with_reducible first | exact HB.out | apply aBl | apply pBd | apply dBl | refine sBl ?_ GE232.out) | exact HB.out)⟩⟩
                      · rw [if_neg c17] at H
                        exact absurd H (by simp)
                    · rw [if_neg c16] at H
                      have c16b0 : decide (ji3 < (wrap64 (t234 - x8_2))) = false := decide_eq_false c16
                      clear c16
                      by_cases c20 : x5_2.length < 5864062014805
                      · rw [if_pos c20] at H
                        have LMc20 := AsZ.mk c20
                        clear c20
                        obtain ⟨y238, hy238⟩ : ∃ y_ : List (S50), y_ = (x5_2 ++ [(⟨x8_2, t234, ((rd_T50 l0 x15_1).f2)⟩ : S50)]) := ⟨_, rfl⟩
                        replace H : (runs_Cap.l1 k2 ji3 y238 t234 t234 l0 (l0.length : Int) x15_1 ((rd_T50 l0 x15_1).f0) ((rd_T50 l0 x15_1).f1) ((rd_T50 l0 x15_1).f2)) = some r := by first | (rw [hy238]; with_reducible exact H) | (have H2_ := (Option.bind_some _ _).symm.trans H; rw [hy238]; with_reducible exact H2_) | (have H2_ := (Option.bind_some _ _).symm.trans H; with_reducible exact H2_) | with_reducible exact H | (rw [hy238]; exact H) | exact H
                        have Ny238 := AsZ.mk hy238
                        clear hy238
                        have H' := AsZ.mk H
                        clear H
                        obtain ⟨hcz21_0, hcz21_1, hcz21_2⟩ := celN3 BK232.out
                        obtain ⟨hfz21_0, hfz21_1, hfz21_2⟩ := fzN3 BK232.out
                        go_wp2_with (first | ((with_reducible refine gate_builtin (b := .append) (xs := #[.tmp 39, .tmp 45]) rfl ?_); at_builtin; refine Kd.R_append k50 (w0 := w) w.heap.size rfl (.tmp 39) (.tmp 45) 40 50 (.agg #[(.int .i64 0), (.int .i64 0), (.bool false)]) 24 rfl Tryd.underlying40 info50 rfl (by decide) (by omega) u5 x5_2 (⟨x8_2, t234, ((rd_T50 l0 x15_1).f2)⟩ : S50) [.int .i64 x8_2, .int .i64 t234, .bool ((rd_T50 l0 x15_1).f2)] (fun k_ => k_ ≠ gb232) (fun _ => False) rfl rfl ?aP (fun _ hk => hk.elim) ?aF ?aO ?aB ?aS ?aL ?_; (case aP => exact k50_mkM _ _ _ (⟨x8_2, t234, ((rd_T50 l0 x15_1).f2)⟩ : S50)); (case aB => exact (by repeat (first | (with_reducible first | exact HB.out | apply aBl | apply pBd | apply dBl | refine sBl ?_ GE232.out) | exact HB.out))); (case aF => exact (fun k_ hk => Kd.freshB (g := gb232) (o := .cells #[.int .i64 ((rd_T50 l0 x15_1).f0), .int .i64 ((rd_T50 l0 x15_1).f1), .bool ((rd_T50 l0 x15_1).f2)] 50 (0, 0)) (by (with_reducible repeat first | apply bDn | apply bDr | apply bAl); exact BK232.out) k_ hk)); (case aO => exact (by (with_reducible repeat (first | apply Kd.R_alloc | apply Kd.R_drewN | apply Kd.R_drew)); exact HO_5.out)); (case aS => exact (zBl (by repeat (first | (with_reducible first | exact HB.out | apply aBl | apply pBd | apply dBl | refine sBl ?_ GE232.out) | exact HB.out)))); (case aL => have := LMc20.out; omega); intro v239 w22 ho hb hg hat; rw [← Ny238.out] at ho; have n0_ := AsZ.mk (blk_grown (g := gb232) (o := .cells #[.int .i64 ((rd_T50 l0 x15_1).f0), .int .i64 ((rd_T50 l0 x15_1).f1), .bool ((rd_T50 l0 x15_1).f2)] 50 (0, 0)) (by (with_reducible repeat first | apply bDn | apply bDr | apply bAl); exact BK232.out) hg (Kd.R_away HO_5.out (fun _ hk => hk))); have n1_ := AsZ.mk (hb); have n2_ := AsZ.mk (ho); clear BK232; clear HB; clear HO_5; have BK232 := n0_; have HB := n1_; have HO240 := n2_; clear n0_ n1_ n2_; clear ho hb hg hat))
                        try (with_reducible apply wp_scope_straight; go_wp2_with (first | ((with_reducible refine gate_builtin (b := .append) (xs := #[.tmp 39, .tmp 45]) rfl ?_); at_builtin; refine Kd.R_append k50 (w0 := w) w.heap.size rfl (.tmp 39) (.tmp 45) 40 50 (.agg #[(.int .i64 0), (.int .i64 0), (.bool false)]) 24 rfl Tryd.underlying40 info50 rfl (by decide) (by omega) u5 x5_2 (⟨x8_2, t234, ((rd_T50 l0 x15_1).f2)⟩ : S50) [.int .i64 x8_2, .int .i64 t234, .bool ((rd_T50 l0 x15_1).f2)] (fun k_ => k_ ≠ gb232) (fun _ => False) rfl rfl ?aP (fun _ hk => hk.elim) ?aF ?aO ?aB ?aS ?aL ?_; (case aP => exact k50_mkM _ _ _ (⟨x8_2, t234, ((rd_T50 l0 x15_1).f2)⟩ : S50)); (case aB => exact (by repeat (first | (with_reducible first | exact HB.out | apply aBl | apply pBd | apply dBl | refine sBl ?_ GE232.out) | exact HB.out))); (case aF => exact (fun k_ hk => Kd.freshB (g := gb232) (o := .cells #[.int .i64 ((rd_T50 l0 x15_1).f0), .int .i64 ((rd_T50 l0 x15_1).f1), .bool ((rd_T50 l0 x15_1).f2)] 50 (0, 0)) (by (with_reducible repeat first | apply bDn | apply bDr | apply bAl); exact BK232.out) k_ hk)); (case aO => exact (by (with_reducible repeat (first | apply Kd.R_alloc | apply Kd.R_drewN | apply Kd.R_drew)); exact HO_5.out)); (case aS => exact (zBl (by repeat (first | (with_reducible first | exact HB.out | apply aBl | apply pBd | apply dBl | refine sBl ?_ GE232.out) | exact HB.out)))); (case aL => have := LMc20.out; omega); intro v239 w22 ho hb hg hat; rw [← Ny238.out] at ho; have n0_ := AsZ.mk (blk_grown (g := gb232) (o := .cells #[.int .i64 ((rd_T50 l0 x15_1).f0), .int .i64 ((rd_T50 l0 x15_1).f1), .bool ((rd_T50 l0 x15_1).f2)] 50 (0, 0)) (by (with_reducible repeat first | apply bDn | apply bDr | apply bAl); exact BK232.out) hg (Kd.R_away HO_5.out (fun _ hk => hk))); have n1_ := AsZ.mk (hb); have n2_ := AsZ.mk (ho); clear BK232; clear HB; clear HO_5; have BK232 := n0_; have HB := n1_; have HO240 := n2_; clear n0_ n1_ n2_; clear ho hb hg hat)))
                        try (with_reducible apply wp_label; go_wp2_with (first | ((with_reducible refine gate_builtin (b := .append) (xs := #[.tmp 39, .tmp 45]) rfl ?_); at_builtin; refine Kd.R_append k50 (w0 := w) w.heap.size rfl (.tmp 39) (.tmp 45) 40 50 (.agg #[(.int .i64 0), (.int .i64 0), (.bool false)]) 24 rfl Tryd.underlying40 info50 rfl (by decide) (by omega) u5 x5_2 (⟨x8_2, t234, ((rd_T50 l0 x15_1).f2)⟩ : S50) [.int .i64 x8_2, .int .i64 t234, .bool ((rd_T50 l0 x15_1).f2)] (fun k_ => k_ ≠ gb232) (fun _ => False) rfl rfl ?aP (fun _ hk => hk.elim) ?aF ?aO ?aB ?aS ?aL ?_; (case aP => exact k50_mkM _ _ _ (⟨x8_2, t234, ((rd_T50 l0 x15_1).f2)⟩ : S50)); (case aB => exact (by repeat (first | (with_reducible first | exact HB.out | apply aBl | apply pBd | apply dBl | refine sBl ?_ GE232.out) | exact HB.out))); (case aF => exact (fun k_ hk => Kd.freshB (g := gb232) (o := .cells #[.int .i64 ((rd_T50 l0 x15_1).f0), .int .i64 ((rd_T50 l0 x15_1).f1), .bool ((rd_T50 l0 x15_1).f2)] 50 (0, 0)) (by (with_reducible repeat first | apply bDn | apply bDr | apply bAl); exact BK232.out) k_ hk)); (case aO => exact (by (with_reducible repeat (first | apply Kd.R_alloc | apply Kd.R_drewN | apply Kd.R_drew)); exact HO_5.out)); (case aS => exact (zBl (by repeat (first | (with_reducible first | exact HB.out | apply aBl | apply pBd | apply dBl | refine sBl ?_ GE232.out) | exact HB.out)))); (case aL => have := LMc20.out; omega); intro v239 w22 ho hb hg hat; rw [← Ny238.out] at ho; have n0_ := AsZ.mk (blk_grown (g := gb232) (o := .cells #[.int .i64 ((rd_T50 l0 x15_1).f0), .int .i64 ((rd_T50 l0 x15_1).f1), .bool ((rd_T50 l0 x15_1).f2)] 50 (0, 0)) (by (with_reducible repeat first | apply bDn | apply bDr | apply bAl); exact BK232.out) hg (Kd.R_away HO_5.out (fun _ hk => hk))); have n1_ := AsZ.mk (hb); have n2_ := AsZ.mk (ho); clear BK232; clear HB; clear HO_5; have BK232 := n0_; have HB := n1_; have HO240 := n2_; clear n0_ n1_ n2_; clear ho hb hg hat)))
                        go_roundg k2
                        case measure => have := HK1.out; have := HK2.out; omega
                        case rel => exact ⟨(y238), (t234), (by first | rfl | (simp; done) | (simp [*]; done)), H', ⟨by have := HK1.out; have := HK2.out; omega⟩, ⟨by (with_reducible repeat (first | apply Kd.R_alloc | apply Kd.R_drewN | apply Kd.R_drew)); exact HO240.out⟩, ⟨by (with_reducible repeat first | apply bDn | apply bDr | apply bAl); exact BK232.out⟩, ⟨by repeat (first | (with_reducible first | exact HB.out | apply aBl | apply pBd | apply dBl | refine sBl ?_ GE232.out) | exact HB.out)⟩⟩
                      · rw [if_neg c20] at H
                        exact absurd H (by simp)
                  · rw [if_neg c15] at H
                    have c15b0 : decide (x8_2 < t234) = false := decide_eq_false c15
                    clear c15
                    have H' := AsZ.mk H
                    clear H
                    go_wp2
                    try (with_reducible apply wp_scope_straight; go_wp2)
                    try (with_reducible apply wp_label; go_wp2)
                    go_roundg k2
                    case measure => have := HK1.out; have := HK2.out; omega
                    case rel => exact ⟨(x5_2), (wrap64 (x15_1 + 1)), (by first | rfl | (simp; done) | (simp [*]; done)), H', ⟨by have := HK1.out; have := HK2.out; omega⟩, ⟨by (with_reducible repeat (first | apply Kd.R_alloc | apply Kd.R_drewN | apply Kd.R_drew)); exact Kd.R_mono HO_5.out (fun _ hk => trivial)⟩, ⟨by repeat (first | (with_reducible first | exact HB.out | apply aBl | apply pBd | apply dBl | refine sBl ?_ GE232.out) | exact HB.out)⟩⟩
          · rw [if_neg c6] at H
            exact absurd H (by simp)
        · rw [if_neg c5] at H
          exact absurd H (by simp)
      · rw [if_neg c4] at H
        have c4b0 : decide (x15_1 < (l0.length : Int)) = false := decide_eq_false c4
        clear c4
        obtain rfl := Option.some.inj H
        go_wp2
        try (with_reducible apply wp_scope_straight; go_wp2)
        try (with_reducible apply wp_label; go_wp2)
        try rw [Exit.noGoto_ret]
        go_ret
        exact ⟨_, by first | rfl | (simp [eWn, eWs] <;> rfl) | (simp only [← hji3]; first | rfl | (simp [eWn, eWs] <;> rfl)) | (simp [*, eWn, eWs] <;> rfl), by (with_reducible repeat (first | apply Kd.R_alloc | apply Kd.R_drewN | apply Kd.R_drew)); exact HO_5.out, by repeat (first | (with_reducible first | exact HB.out | apply aBl | apply pBd | apply dBl) | exact HB.out)⟩
end Go.Proofs.YtcnlmpjoghogbaaDoor.PAll
namespace Go.Proofs.YtcnlmpjoghogbaaDoor.PAll
open Go.RowKit Go.Proofs.YtcnlmpjoghogbaaDoor.Xw Go.Proofs.YtcnlmpjoghogbaaDoorW.PrintWords Go.Proofs.YtcnlmpjoghogbaaDoorW.PrintLast Go.Proofs.YtcnlmpjoghogbaaDoorW.PrintMore
attribute [local go_sem] max2_int min2_int max_two min_two max_three min_three max_four min_four   -- for this text's walks alone
set_option linter.unusedVariables false
set_option linter.unusedSimpArgs false
mutual
def spenceref24_Cap.j0 : Nat → List (S50) → Int → Option ((List (S50)))
  | 0, _, _ => none
  | k + 1, x0, x1 => spenceref24_Cap.l0 k x1 ([] : List (S50)) x0 (x0.length : Int) 0
def spenceref24_Cap.l0 : Nat → Int → List (S50) → List (S50) → Int → Int → Option ((List (S50)))
  | 0, _, _, _, _, _ => none
  | k + 1, x1, x5, x14, x15, x16 => if x16 < x15 then (if 0 ≤ x16 then (if x16 < (x14.length : Int) then ((spenceref24_Numbers.f k (([(⟨(rd_T50 x14 x16).f0, (rd_T50 x14 x16).f1, (rd_T50 x14 x16).f2⟩ : S50)] : List (S50)))).bind fun t246 => (spenceref24_Cap.l1 k x1 x5 0 x14 x15 x16 t246 (t246.length : Int) 0 ((rd_T50 x14 x16).f0) ((rd_T50 x14 x16).f1) ((rd_T50 x14 x16).f2))) else (none)) else (none)) else (some x5)
def spenceref24_Cap.l1 : Nat → Int → List (S50) → Int → List (S50) → Int → Int → List Int → Int → Int → Int → Int → Bool → Option ((List (S50)))
  | 0, _, _, _, _, _, _, _, _, _, _, _, _ => none
  | k + 1, x1, x5, x8, x14, x15, x16, x22, x23, x24, x243000, x243001, x243002 => if x24 < x23 then (if 0 ≤ x24 then (if x24 < (x22.length : Int) then (if x8 > 0 then (if 0 ≤ (wrap64 ((x5.length : Int) - 1)) then (if (wrap64 ((x5.length : Int) - 1)) < (x5.length : Int) then ((some (x5.set ((wrap64 ((x5.length : Int) - 1)) : Int).toNat (⟨(rd_T50 x5 (wrap64 ((x5.length : Int) - 1))).f0, wrap64 ((rd x22 x24) + 1), (rd_T50 x5 (wrap64 ((x5.length : Int) - 1))).f2⟩ : S50) : List (S50))).bind fun y250 => (if (wrap64 (x8 + 1)) = x1 then (spenceref24_Cap.l1 k x1 y250 0 x14 x15 x16 x22 x23 (wrap64 (x24 + 1)) x243000 x243001 x243002) else (spenceref24_Cap.l1 k x1 y250 (wrap64 (x8 + 1)) x14 x15 x16 x22 x23 (wrap64 (x24 + 1)) x243000 x243001 x243002))) else (none)) else (none)) else (if x5.length < 5864062014805 then ((some (x5 ++ [(⟨rd x22 x24, wrap64 ((rd x22 x24) + 1), x243002⟩ : S50)] : List (S50))).bind fun y251 => (if (wrap64 (x8 + 1)) = x1 then (spenceref24_Cap.l1 k x1 y251 0 x14 x15 x16 x22 x23 (wrap64 (x24 + 1)) x243000 x243001 x243002) else (spenceref24_Cap.l1 k x1 y251 (wrap64 (x8 + 1)) x14 x15 x16 x22 x23 (wrap64 (x24 + 1)) x243000 x243001 x243002))) else (none))) else (none)) else (none)) else (spenceref24_Cap.l0 k x1 x5 x14 x15 (wrap64 (x16 + 1)))
end
def spenceref24_Cap.f (k : Nat) (l0 : List (S50)) (a1 : Int) : Option ((List (S50))) := if a1 < 1 then (spenceref24_Cap.j0 k l0 1) else (spenceref24_Cap.j0 k l0 a1)
theorem spenceref24_Cap.mono_l : ∀ k, (∀ y0 y1, LeO (spenceref24_Cap.j0 k y0 y1) (spenceref24_Cap.j0 (k + 1) y0 y1)) ∧ (∀ y0 y1 y2 y3 y4, LeO (spenceref24_Cap.l0 k y0 y1 y2 y3 y4) (spenceref24_Cap.l0 (k + 1) y0 y1 y2 y3 y4)) ∧ (∀ y0 y1 y2 y3 y4 y5 y6 y7 y8 y9 y10 y11, LeO (spenceref24_Cap.l1 k y0 y1 y2 y3 y4 y5 y6 y7 y8 y9 y10 y11) (spenceref24_Cap.l1 (k + 1) y0 y1 y2 y3 y4 y5 y6 y7 y8 y9 y10 y11))
  | 0 => ⟨fun _ _ r h => by simp [spenceref24_Cap.j0] at h, fun _ _ _ _ _ r h => by simp [spenceref24_Cap.l0] at h, fun _ _ _ _ _ _ _ _ _ _ _ _ r h => by simp [spenceref24_Cap.l1] at h⟩
  | k + 1 => by
    obtain ⟨ih0, ih1, ih2⟩ := spenceref24_Cap.mono_l k
    refine ⟨?_, ?_, ?_⟩
    · intro y0 y1
      unfold spenceref24_Cap.j0
      repeat' first
      | (with_reducible exact ih0 _ _)
      | (with_reducible exact ih1 _ _ _ _ _)
      | (with_reducible exact ih2 _ _ _ _ _ _ _ _ _ _ _ _)
      | (with_reducible exact spenceref24_Numbers.mono _ _)
      | (with_reducible exact LeO.refl _)
      | (with_reducible exact LeO.none _)
      | (with_reducible refine LeO.ite ?_ ?_)
      | (with_reducible refine LeO.bind ?_ (fun _ => ?_))
      | exact ih0 _ _
      | exact ih1 _ _ _ _ _
      | exact ih2 _ _ _ _ _ _ _ _ _ _ _ _
      | exact spenceref24_Numbers.mono _ _
      | exact LeO.none _
      | refine LeO.ite ?_ ?_
      | refine LeO.bind ?_ (fun _ => ?_)
    · intro y0 y1 y2 y3 y4
      unfold spenceref24_Cap.l0
      repeat' first
      | (with_reducible exact ih0 _ _)
      | (with_reducible exact ih1 _ _ _ _ _)
      | (with_reducible exact ih2 _ _ _ _ _ _ _ _ _ _ _ _)
      | (with_reducible exact spenceref24_Numbers.mono _ _)
      | (with_reducible exact LeO.refl _)
      | (with_reducible exact LeO.none _)
      | (with_reducible refine LeO.ite ?_ ?_)
      | (with_reducible refine LeO.bind ?_ (fun _ => ?_))
      | exact ih0 _ _
      | exact ih1 _ _ _ _ _
      | exact ih2 _ _ _ _ _ _ _ _ _ _ _ _
      | exact spenceref24_Numbers.mono _ _
      | exact LeO.none _
      | refine LeO.ite ?_ ?_
      | refine LeO.bind ?_ (fun _ => ?_)
    · intro y0 y1 y2 y3 y4 y5 y6 y7 y8 y9 y10 y11
      unfold spenceref24_Cap.l1
      repeat' first
      | (with_reducible exact ih0 _ _)
      | (with_reducible exact ih1 _ _ _ _ _)
      | (with_reducible exact ih2 _ _ _ _ _ _ _ _ _ _ _ _)
      | (with_reducible exact spenceref24_Numbers.mono _ _)
      | (with_reducible exact LeO.refl _)
      | (with_reducible exact LeO.none _)
      | (with_reducible refine LeO.ite ?_ ?_)
      | (with_reducible refine LeO.bind ?_ (fun _ => ?_))
      | exact ih0 _ _
      | exact ih1 _ _ _ _ _
      | exact ih2 _ _ _ _ _ _ _ _ _ _ _ _
      | exact spenceref24_Numbers.mono _ _
      | exact LeO.none _
      | refine LeO.ite ?_ ?_
      | refine LeO.bind ?_ (fun _ => ?_)
theorem spenceref24_Cap.mono : ∀ a0 a1 k, LeO (spenceref24_Cap.f k a0 a1) (spenceref24_Cap.f (k + 1) a0 a1) := by
  intro a0 a1 k
  obtain ⟨ih0, ih1, ih2⟩ := spenceref24_Cap.mono_l k
  unfold spenceref24_Cap.f
  repeat' first
      | (with_reducible exact ih0 _ _)
      | (with_reducible exact ih1 _ _ _ _ _)
      | (with_reducible exact ih2 _ _ _ _ _ _ _ _ _ _ _ _)
      | (with_reducible exact spenceref24_Numbers.mono _ _)
      | (with_reducible exact LeO.refl _)
      | (with_reducible exact LeO.none _)
      | (with_reducible refine LeO.ite ?_ ?_)
      | (with_reducible refine LeO.bind ?_ (fun _ => ?_))
      | exact ih0 _ _
      | exact ih1 _ _ _ _ _
      | exact ih2 _ _ _ _ _ _ _ _ _ _ _ _
      | exact spenceref24_Numbers.mono _ _
      | exact LeO.none _
      | refine LeO.ite ?_ ?_
      | refine LeO.bind ?_ (fun _ => ?_)
set_option maxHeartbeats 8000000 in
set_option maxRecDepth 100000 in
theorem spenceref24_Cap.calls (k : Nat) (A0 : Option Addr) (c0 : Nat) (l0 : List (S50)) (a1 : Int) (r : List (S50)) (w : World) (hr0 : Kd.C k50 w A0 l0.length l0) (hc0 : l0.length ≤ c0) (h : spenceref24_Cap.f k l0 a1 = some r) :
    Calls Tryd.prog 32 #[.slice A0 l0.length c0, .int .i64 a1] w fun e w' => ∃ v0_ : Value, e = .returned (v0_) ∧ Kd.R k50 50 w' w.heap.size (fun _ => True) v0_ r ∧ Below w.heap.size w w' := by
  have hu50 := Tryd.underlying50
  have HR0 := AsZ.mk hr0
  have HC0 := AsZ.mk hc0
  clear hr0 hc0
  have HB := AsZ.mk (Below.refl w.heap.size w)
  have H : (if a1 < 1 then (spenceref24_Cap.j0 k l0 1) else (spenceref24_Cap.j0 k l0 a1)) = some r := h
  clear h
  have HC3 := AsZ.mk H
  clear H
  go_enter Tryd.func32, Tryd.ntmps32
  go_upto_if 13 with (fail)
  go_cut [1] (fun v1 wc => ∃ (kq : Nat) (x1_2 : Int), v1 = .int .i64 x1_2 ∧ AsZ (spenceref24_Cap.j0 kq l0 x1_2 = some r) ∧ AsZ (kq ≤ k) ∧ AsZ (Below w.heap.size w wc))
  case first =>
    have H := HC3.out
    clear HC3
    by_cases c4 : a1 < 1
    · rw [if_pos c4] at H
      have c4b0 : decide (a1 < 1) = true := decide_eq_true c4
      clear c4
      (first | rw [c4b0] | (simp only [i64_w, i32_w]; rw [c4b0]) | skip)
      have H' := AsZ.mk H
      clear H
      go_wp2
      go_meet
      case rel => exact ⟨_, (1), (by first | rfl | (simp; done) | (simp [*]; done)), H', ⟨by first | omega | exact Nat.le_refl _⟩, ⟨by repeat (first | (with_reducible first | exact HB.out | apply aBl | apply pBd | apply dBl) | exact HB.out)⟩⟩
    · rw [if_neg c4] at H
      have c4b0 : decide (a1 < 1) = false := decide_eq_false c4
      clear c4
      (first | rw [c4b0] | (simp only [i64_w, i32_w]; rw [c4b0]) | skip)
      have H' := AsZ.mk H
      clear H
      go_wp2
      go_meet
      case rel => exact ⟨_, (a1), (by first | rfl | (simp; done) | (simp [*]; done)), H', ⟨by first | omega | exact Nat.le_refl _⟩, ⟨by repeat (first | (with_reducible first | exact HB.out | apply aBl | apply pBd | apply dBl) | exact HB.out)⟩⟩
  case rest =>
    clear HC3
    try clear p2
    try clear c3
    try clear c4
    try clear c4b0
    obtain ⟨kq, x1_2, rfl, HA, HJ2, HB⟩ := hcut
    cases kq with
    | zero => exact absurd HA.out (by simp [spenceref24_Cap.j0])
    | succ kj2 =>
      have H := HA.out
      clear HA
      simp only [spenceref24_Cap.j0] at H
      have H' := AsZ.mk H
      clear H
      go_wp2
      go_loopg [5, 16] kj2 (fun kq v5 v16 w' => ∃ (x5_2 : List (S50)) (x16_2 : Int), v16 = .int .i64 x16_2 ∧ AsZ (spenceref24_Cap.l0 kq x1_2 x5_2 l0 (l0.length : Int) x16_2 = some r) ∧ AsZ (kq ≤ kj2) ∧ AsZ (Kd.R k50 50 w' w.heap.size (fun _ => True) v5 x5_2) ∧ AsZ (Below w.heap.size w w'))
      case atStart => exact ⟨(([] : List (S50))), (0), (by first | rfl | (simp; done) | (simp [*]; done)), H', ⟨Nat.le_refl _⟩, ⟨by first | exact Kd.R_nil _ _ _ _ _ | exact Kd.N_nil _ _ _ _ _ | exact Kd.V_nil _ _ _ _ _ | exact Kd.Q_nil _ _ _ _ _ | exact Kd.S_nil _ _ _ _ _⟩, ⟨by repeat (first | (with_reducible first | exact HB.out | apply aBl | apply pBd | apply dBl) | exact HB.out)⟩⟩
      case round =>
        clear H'
        try clear p2
        try clear c3
        try clear c4
        try clear c4b0
        try clear p2
        obtain ⟨x5_2, x16_2, rfl, HA, HK2, HO_5, HB⟩ := hrel
        cases gk with
        | zero => exact absurd HA.out (by simp [spenceref24_Cap.l0])
        | succ k2 =>
          have H := HA.out
          clear HA
          simp only [spenceref24_Cap.l0] at H
          by_cases c5 : x16_2 < (l0.length : Int)
          · rw [if_pos c5] at H
            have c5b0 : decide (x16_2 < (l0.length : Int)) = true := decide_eq_true c5
            clear c5
            by_cases c6 : 0 ≤ x16_2
            · rw [if_pos c6] at H
              have c6b0 : decide (0 ≤ x16_2) = true := decide_eq_true c6
              clear c6
              by_cases c7 : x16_2 < (l0.length : Int)
              · rw [if_pos c7] at H
                have c7b0 : decide (x16_2 < (l0.length : Int)) = true := decide_eq_true c7
                clear c7
                obtain ⟨y243, hy243⟩ : ∃ y_ : List (S50), y_ = (([(⟨(rd_T50 l0 x16_2).f0, (rd_T50 l0 x16_2).f1, (rd_T50 l0 x16_2).f2⟩ : S50)] : List (S50))) := ⟨_, rfl⟩
                replace H : ((spenceref24_Numbers.f k2 y243).bind fun t246 => (spenceref24_Cap.l1 k2 x1_2 x5_2 0 l0 (l0.length : Int) x16_2 t246 (t246.length : Int) 0 ((rd_T50 l0 x16_2).f0) ((rd_T50 l0 x16_2).f1) ((rd_T50 l0 x16_2).f2))) = some r := by first | (rw [hy243]; with_reducible exact H) | (have H2_ := (Option.bind_some _ _).symm.trans H; rw [hy243]; with_reducible exact H2_) | (have H2_ := (Option.bind_some _ _).symm.trans H; with_reducible exact H2_) | with_reducible exact H | (rw [hy243]; exact H) | exact H
                have Ny243 := AsZ.mk hy243
                clear hy243
                replace H := Option.bind_eq_some_iff.mp H
                obtain ⟨t246, A80, H⟩ := H
                replace H : (spenceref24_Cap.l1 k2 x1_2 x5_2 0 l0 (l0.length : Int) x16_2 t246 (t246.length : Int) 0 ((rd_T50 l0 x16_2).f0) ((rd_T50 l0 x16_2).f1) ((rd_T50 l0 x16_2).f2)) = some r := H
                have A8 := AsZ.mk A80
                clear A80
                have H' := AsZ.mk H
                clear H
                have p241 : 0 ≤ (x16_2 : Int) := of_decide_eq_true (by first | (with_reducible assumption) | assumption)
                have q241 : x16_2 < (l0.length : Int) := of_decide_eq_true (by first | (with_reducible assumption) | assumption)
                obtain ⟨ad241, e241, hx241_0, hx241_1, hx241_2⟩ := at_T50 HR0.out x16_2 p241 q241
                cases e241
                replace hx241_0 := (HB.out.cell (World.block_lt_of_cell? w _ hx241_0)).trans hx241_0
                replace hx241_1 := (HB.out.cell (World.block_lt_of_cell? w _ hx241_1)).trans hx241_1
                replace hx241_2 := (HB.out.cell (World.block_lt_of_cell? w _ hx241_2)).trans hx241_2
                replace p241 := eq_true p241
                replace q241 := eq_true q241
                go_wp2_with (first | ((with_reducible refine gDs (N := 7) rfl ?_); refine bEv ?hg (N := 7) ?hd (cs := #[.int .i64 0, .int .i64 0, .bool false]) (t := 50) ?hr ?_; (case hd => rfl); (case hg => rfl); (case hr => first | (go_simp; done) | (go_simp; rfl)); intro gb242 hg w9 hbox hb; have n0_ := AsZ.mk (Kd.R_below (Kd.R_elderB (by (with_reducible repeat (first | apply Kd.R_alloc | apply Kd.R_drewN | apply Kd.R_drew)); exact HO_5.out) gb242 (Nat.le_of_eq hg.symm)) hb); have n1_ := AsZ.mk (tBl (by repeat (first | (with_reducible first | exact HB.out | apply aBl | apply pBd | apply dBl) | exact HB.out)) hb); have n2_ := AsZ.mk (hbox); have n3_ := AsZ.mk ((by rw [hg]; exact (zBl (by repeat (first | (with_reducible first | exact HB.out | apply aBl | apply pBd | apply dBl) | exact HB.out))) : w.heap.size ≤ gb242)); have n4_ := AsZ.mk ((by rw [hg]; exact (zBl (by repeat (first | (with_reducible first | exact HB.out | apply aBl | apply pBd | apply dBl) | exact HB.out))) : w.heap.size ≤ gb242)); clear HO_5; clear HB; have HO_5 := n0_; have HB := n1_; have BK242 := n2_; have GW242 := n3_; have GE242 := n4_; clear n0_ n1_ n2_ n3_ n4_; clear hb hbox hg; obtain ⟨hcz10_0, hcz10_1, hcz10_2⟩ := celN3 BK242.out; obtain ⟨hfz10_0, hfz10_1, hfz10_2⟩ := fzN3 BK242.out) | ((with_reducible refine gDs (N := 21) rfl ?_); refine Kd.R_lit k50 _ 50 ?hg (N := 21) ?hd (xs := ([(⟨(rd_T50 l0 x16_2).f0, (rd_T50 l0 x16_2).f1, (rd_T50 l0 x16_2).f2⟩ : S50)] : List (S50))) (inner := [.int .i64 ((rd_T50 l0 x16_2).f0), .int .i64 ((rd_T50 l0 x16_2).f1), .bool ((rd_T50 l0 x16_2).f2)]) (ok := fun _ => True) (okp := fun _ => True) ?hr ?hp (fun _ hk => hk) trivial (Below.refl _ _) (Nat.le_refl _) (by simp) ?_; (case hd => rfl); (case hg => rfl); (case hr => first | (go_simp; done) | (go_simp; rfl)); (case hp => exact (Reps.c3 (show Kd.M k50 _ _ _ (⟨(rd_T50 l0 x16_2).f0, (rd_T50 l0 x16_2).f1, (rd_T50 l0 x16_2).f2⟩ : S50) [.int .i64 ((rd_T50 l0 x16_2).f0), .int .i64 ((rd_T50 l0 x16_2).f1), .bool ((rd_T50 l0 x16_2).f2)] from (k50_mkM _ _ _ (⟨(rd_T50 l0 x16_2).f0, (rd_T50 l0 x16_2).f1, (rd_T50 l0 x16_2).f2⟩ : S50) )) (Reps.none _ _))); intro v244 w11 ho12 hb hg_ hnew_; clear hg_ hnew_; (first | rw [← Ny243.out] at ho12 | (simp only [Int.reduceToNat] at ho12; rw [← Ny243.out] at ho12)); have n0_ := AsZ.mk (Kd.R_elder' (by (with_reducible repeat (first | apply Kd.R_alloc | apply Kd.R_drewN | apply Kd.R_drew)); exact (Kd.R_mono (Kd.R_far (p := ⟨gb242, 2, none⟩) (Kd.R_far (p := ⟨gb242, 1, none⟩) (Kd.R_far (p := ⟨gb242, 0, none⟩) (Kd.R_mono HO_5.out (fun k_ hk => (⟨hk, hk.2⟩ : _ ∧ k_ ≠ gb242))) (fun _ hk => hk.2) (.int .i64 ((rd_T50 l0 x16_2).f0))) (fun _ hk => hk.2) (.int .i64 ((rd_T50 l0 x16_2).f1))) (fun _ hk => hk.2) (.bool ((rd_T50 l0 x16_2).f2))) (fun _ h_ => h_.1))) (Kd.R_base ho12) hb); have n1_ := AsZ.mk (Kd.R_lower (Kd.R_newB (Kd.R_new' ho12 (Kd.R_lt (by (with_reducible repeat (first | apply Kd.R_alloc | apply Kd.R_drewN | apply Kd.R_drew)); exact (Kd.R_mono (Kd.R_far (p := ⟨gb242, 2, none⟩) (Kd.R_far (p := ⟨gb242, 1, none⟩) (Kd.R_far (p := ⟨gb242, 0, none⟩) (Kd.R_mono HO_5.out (fun k_ hk => (⟨hk, hk.2⟩ : _ ∧ k_ ≠ gb242))) (fun _ hk => hk.2) (.int .i64 ((rd_T50 l0 x16_2).f0))) (fun _ hk => hk.2) (.int .i64 ((rd_T50 l0 x16_2).f1))) (fun _ hk => hk.2) (.bool ((rd_T50 l0 x16_2).f2))) (fun _ h_ => h_.1))))) (g := gb242) (o := .cells #[.int .i64 ((rd_T50 l0 x16_2).f0), .int .i64 ((rd_T50 l0 x16_2).f1), .bool ((rd_T50 l0 x16_2).f2)] 50 (0, 0)) (by (with_reducible repeat first | apply bDn | apply bDr | apply bAl); refine bPu (cs := #[.int .i64 ((rd_T50 l0 x16_2).f0), .int .i64 ((rd_T50 l0 x16_2).f1), .bool false]) ?_ 2 _ rfl; (with_reducible repeat first | apply bDn | apply bDr | apply bAl); refine bPu (cs := #[.int .i64 ((rd_T50 l0 x16_2).f0), .int .i64 0, .bool false]) ?_ 1 _ rfl; (with_reducible repeat first | apply bDn | apply bDr | apply bAl); refine bPu (cs := #[.int .i64 0, .int .i64 0, .bool false]) ?_ 0 _ rfl; (with_reducible repeat first | apply bDn | apply bDr | apply bAl); exact BK242.out)) (zBl (by repeat (first | (with_reducible first | exact HB.out | apply aBl | apply pBd | apply dBl | refine sBl ?_ GE242.out) | exact HB.out)))); have n2_ := AsZ.mk (bBl (g := gb242) (o := .cells #[.int .i64 ((rd_T50 l0 x16_2).f0), .int .i64 ((rd_T50 l0 x16_2).f1), .bool ((rd_T50 l0 x16_2).f2)] 50 (0, 0)) (by (with_reducible repeat first | apply bDn | apply bDr | apply bAl); refine bPu (cs := #[.int .i64 ((rd_T50 l0 x16_2).f0), .int .i64 ((rd_T50 l0 x16_2).f1), .bool false]) ?_ 2 _ rfl; (with_reducible repeat first | apply bDn | apply bDr | apply bAl); refine bPu (cs := #[.int .i64 ((rd_T50 l0 x16_2).f0), .int .i64 0, .bool false]) ?_ 1 _ rfl; (with_reducible repeat first | apply bDn | apply bDr | apply bAl); refine bPu (cs := #[.int .i64 0, .int .i64 0, .bool false]) ?_ 0 _ rfl; (with_reducible repeat first | apply bDn | apply bDr | apply bAl); exact BK242.out) hb); have n3_ := AsZ.mk (tBl (by repeat (first | (with_reducible first | exact HB.out | apply aBl | apply pBd | apply dBl | refine sBl ?_ GE242.out) | exact HB.out)) hb); clear HO_5; clear BK242; clear HB; have HO_5 := n0_; have HO245 := n1_; have BK242 := n2_; have HB := n3_; clear n0_ n1_ n2_ n3_; clear hb ho12; obtain ⟨Ao13, co13, eo13⟩ := Kd.R_slice HO245.out; subst eo13) | ((with_reducible refine gCa (f := 30) rfl ?_); refine gLl (some 22) rfl rfl Tryd.func30 (by kernel_rfl) rfl #[.slice Ao13 y243.length co13] rfl (by (try simp only [List.map_toArray, List.map_cons, List.map_nil]); first | done | rfl | (simp only [List.length_drop, List.length_take]; rfl)) ?_; (with_reducible refine (spenceref24_Numbers.calls k2 _ _ y243 t246 _ ?side1 ?side2 A8.out).mono ?_); (case side1 => repeat (first | exact (Kd.R_reads' HO245.out).2.2 | (with_reducible refine Kd.C_alloc ?_ _) | (with_reducible refine Kd.C_drewN ?_ _) | (with_reducible refine Kd.C_drew ?_))); (case side2 => exact (Kd.R_reads' HO245.out).2.1); rintro e w14 ⟨v247, rfl, ho0, hb⟩; refine ⟨_, rfl, ?_⟩; have n0_ := AsZ.mk (Kd.R_below (by (with_reducible repeat (first | apply Kd.R_alloc | apply Kd.R_drewN | apply Kd.R_drew)); exact HO_5.out) hb); have n1_ := AsZ.mk (Kd.R_below (by (with_reducible repeat (first | apply Kd.R_alloc | apply Kd.R_drewN | apply Kd.R_drew)); exact HO245.out) hb); have n2_ := AsZ.mk (Kd.R_lower ho0 (zBl (by repeat (first | (with_reducible first | exact HB.out | apply aBl | apply pBd | apply dBl | refine sBl ?_ GE242.out) | exact HB.out)))); have n3_ := AsZ.mk (bBl (g := gb242) (o := .cells #[.int .i64 ((rd_T50 l0 x16_2).f0), .int .i64 ((rd_T50 l0 x16_2).f1), .bool ((rd_T50 l0 x16_2).f2)] 50 (0, 0)) (by (with_reducible repeat first | apply bDn | apply bDr | apply bAl); exact BK242.out) hb); have n4_ := AsZ.mk (tBl (by repeat (first | (with_reducible first | exact HB.out | apply aBl | apply pBd | apply dBl | refine sBl ?_ GE242.out) | exact HB.out)) hb); clear HO_5; clear HO245; clear BK242; clear HB; have HO_5 := n0_; have HO245 := n1_; have HO248 := n2_; have BK242 := n3_; have HB := n4_; clear n0_ n1_ n2_ n3_ n4_; (try clear hb); (try clear hb2); (try clear hk); (try clear hi); (try clear ho0); obtain ⟨Ao15, co15, eo15⟩ := Kd.R_slice HO248.out; subst eo15))
                go_loopg [5, 8, 24] k2 (fun kq v5 v8 v24 w' => ∃ (x5_3 : List (S50)) (x8_3 : Int) (x24_3 : Int) (x243001_3 : Int), v8 = .int .i64 x8_3 ∧ v24 = .int .i64 x24_3 ∧ AsZ (spenceref24_Cap.l1 kq x1_2 x5_3 x8_3 l0 (l0.length : Int) x16_2 t246 (t246.length : Int) x24_3 ((rd_T50 l0 x16_2).f0) x243001_3 ((rd_T50 l0 x16_2).f2) = some r) ∧ AsZ (kq ≤ k2) ∧ AsZ (Kd.R k50 50 w' w.heap.size (fun k_ => k_ ≠ gb242) v5 x5_3) ∧ AsZ (Kd.R (Kd.int .i64) 3 w' w.heap.size (fun _ => True) (.slice Ao15 t246.length co15) t246) ∧ AsZ (w'.heap[gb242]? = some (.cells #[.int .i64 ((rd_T50 l0 x16_2).f0), .int .i64 x243001_3, .bool ((rd_T50 l0 x16_2).f2)] 50 (0, 0))) ∧ AsZ (Below w.heap.size w w'))
                case atStart => exact ⟨(x5_2), (0), (0), ((rd_T50 l0 x16_2).f1), (by first | rfl | (simp; done) | (simp [*]; done)), (by first | rfl | (simp; done) | (simp [*]; done)), H', ⟨Nat.le_refl _⟩, ⟨by (with_reducible repeat (first | apply Kd.R_alloc | apply Kd.R_drewN | apply Kd.R_drew)); exact Kd.R_mono HO_5.out (fun _ hk => hk.1.2)⟩, ⟨by (with_reducible repeat (first | apply Kd.R_alloc | apply Kd.R_drewN | apply Kd.R_drew)); exact HO248.out⟩, ⟨by (with_reducible repeat first | apply bDn | apply bDr | apply bAl); exact BK242.out⟩, ⟨by repeat (first | (with_reducible first | exact HB.out | apply aBl | apply pBd | apply dBl | refine sBl ?_ GE242.out) | exact HB.out)⟩⟩
                case round =>
                  clear H'
                  try clear p2
                  try clear q2
                  try clear hx2
                  try clear c3
                  try clear c4
                  try clear c4b0
                  try clear c5
                  try clear c5b0
                  try clear c6
                  try clear c6b0
                  try clear c7
                  try clear c7b0
                  try clear hcz10_0
                  try clear hcz10_1
                  try clear hcz10_2
                  try clear hfz10_0
                  try clear hfz10_1
                  try clear hfz10_2
                  try clear hx241_0
                  try clear hx241_1
                  try clear hx241_2
                  try clear p2
                  try clear p241
                  try clear q241
                  obtain ⟨x5_3, x8_3, x24_3, x243001_3, rfl, rfl, HA, HK3, HO_5, HO_22, BK242, HB⟩ := hrel
                  cases gk with
                  | zero => exact absurd HA.out (by simp [spenceref24_Cap.l1])
                  | succ k3 =>
                    have H := HA.out
                    clear HA
                    simp only [spenceref24_Cap.l1] at H
                    by_cases c16 : x24_3 < (t246.length : Int)
                    · rw [if_pos c16] at H
                      have c16b0 : decide (x24_3 < (t246.length : Int)) = true := decide_eq_true c16
                      clear c16
                      by_cases c17 : 0 ≤ x24_3
                      · rw [if_pos c17] at H
                        have c17b0 : decide (0 ≤ x24_3) = true := decide_eq_true c17
                        clear c17
                        by_cases c18 : x24_3 < (t246.length : Int)
                        · rw [if_pos c18] at H
                          have c18b0 : decide (x24_3 < (t246.length : Int)) = true := decide_eq_true c18
                          clear c18
                          by_cases c19 : x8_3 > 0
                          · rw [if_pos c19] at H
                            have c19b0 : decide (0 < x8_3) = true := decide_eq_true c19
                            clear c19
                            obtain ⟨ji20, hji20⟩ : ∃ j_ : Int, (wrap64 ((x5_3.length : Int) - 1)) = j_ := ⟨_, rfl⟩
                            replace H : (if 0 ≤ (ji20) then (if (ji20) < (x5_3.length : Int) then ((some (x5_3.set ((ji20) : Int).toNat (⟨(rd_T50 x5_3 (ji20)).f0, wrap64 ((rd t246 x24_3) + 1), (rd_T50 x5_3 (ji20)).f2⟩ : S50) : List (S50))).bind fun y250 => (if (wrap64 (x8_3 + 1)) = x1_2 then (spenceref24_Cap.l1 k3 x1_2 y250 0 l0 (l0.length : Int) x16_2 t246 (t246.length : Int) (wrap64 (x24_3 + 1)) ((rd_T50 l0 x16_2).f0) x243001_3 ((rd_T50 l0 x16_2).f2)) else (spenceref24_Cap.l1 k3 x1_2 y250 (wrap64 (x8_3 + 1)) l0 (l0.length : Int) x16_2 t246 (t246.length : Int) (wrap64 (x24_3 + 1)) ((rd_T50 l0 x16_2).f0) x243001_3 ((rd_T50 l0 x16_2).f2)))) else (none)) else (none)) = some r := by first | (rw [hji20] at H; exact H) | (simp only [hji20] at H ⊢; exact H)
                            have hji20w : (IntKind.i64.wrap ((x5_3.length : Int) - 1)) = ji20 := (i64_w _).trans hji20
                            by_cases c21 : 0 ≤ (ji20)
                            · rw [if_pos c21] at H
                              have c21b0 : decide (0 ≤ (ji20)) = true := decide_eq_true c21
                              clear c21
                              by_cases c22 : (ji20) < (x5_3.length : Int)
                              · rw [if_pos c22] at H
                                have c22b0 : decide ((ji20) < (x5_3.length : Int)) = true := decide_eq_true c22
                                clear c22
                                obtain ⟨y250, hy250⟩ : ∃ y_ : List (S50), y_ = (x5_3.set ((ji20) : Int).toNat (⟨(rd_T50 x5_3 (ji20)).f0, wrap64 ((rd t246 x24_3) + 1), (rd_T50 x5_3 (ji20)).f2⟩ : S50)) := ⟨_, rfl⟩
                                replace H : (if (wrap64 (x8_3 + 1)) = x1_2 then (spenceref24_Cap.l1 k3 x1_2 y250 0 l0 (l0.length : Int) x16_2 t246 (t246.length : Int) (wrap64 (x24_3 + 1)) ((rd_T50 l0 x16_2).f0) x243001_3 ((rd_T50 l0 x16_2).f2)) else (spenceref24_Cap.l1 k3 x1_2 y250 (wrap64 (x8_3 + 1)) l0 (l0.length : Int) x16_2 t246 (t246.length : Int) (wrap64 (x24_3 + 1)) ((rd_T50 l0 x16_2).f0) x243001_3 ((rd_T50 l0 x16_2).f2))) = some r := by first | (rw [hy250]; with_reducible exact H) | (have H2_ := (Option.bind_some _ _).symm.trans H; rw [hy250]; with_reducible exact H2_) | (have H2_ := (Option.bind_some _ _).symm.trans H; with_reducible exact H2_) | with_reducible exact H | (rw [hy250]; exact H) | exact H
                                have Ny250 := AsZ.mk hy250
                                clear hy250
                                by_cases c24 : (wrap64 (x8_3 + 1)) = x1_2
                                · rw [if_pos c24] at H
                                  have c24b0 : ((wrap64 (x8_3 + 1)) == x1_2) = true := beq_iff_eq.mpr c24
                                  have c24b1 : ((wrap64 (x8_3 + 1)) != x1_2) = false := bne_eq_false_iff_eq.mpr c24
                                  clear c24
                                  have H' := AsZ.mk H
                                  clear H
                                  have p249 : 0 ≤ (x24_3 : Int) := of_decide_eq_true (by first | (with_reducible assumption) | assumption)
                                  have q249 : x24_3 < (t246.length : Int) := of_decide_eq_true (by first | (with_reducible assumption) | assumption)
                                  obtain ⟨ad249, e249, hx249_0⟩ := Kd.at_int (Kd.R_reads' HO_22.out).2.2 x24_3 p249 q249
                                  cases e249
                                  replace p249 := eq_true p249
                                  replace q249 := eq_true q249
                                  obtain ⟨Ao25, co25, eo25⟩ := Kd.R_slice HO_5.out
                                  subst eo25
                                  have p23 : 0 ≤ ((ji20) : Int) := of_decide_eq_true (by first | (with_reducible assumption) | assumption)
                                  have q23 : ((ji20) : Int) < ((x5_3.length : Int) : Int) := of_decide_eq_true (by first | (with_reducible assumption) | assumption)
                                  obtain ⟨go23, co23, eo23, gb23, gl23, cl23, HG23⟩ := Kd.R_form HO_5.out (by omega)
                                  (first | cases eo23 | (injection eo23 with ea_ en_ ec_; (first | subst ea_ | (injection ea_ with ea_; subst ea_)); subst ec_; clear en_))
                                  have GB23 := AsZ.mk gb23
                                  have GG23 := AsZ.mk HG23
                                  clear gb23 gl23 HG23
                                  obtain ⟨ce23, hcl23, hM23, hcc23, hfr23⟩ := Kd.R_elem HO_5.out z50 ((ji20) : Int) p23 q23
                                  obtain rfl := k50_openM hM23
                                  have hx23_0 : wr.cell? ⟨go23, ((ji20) : Int).toNat * 3, none⟩ = some (.int .i64 ((rd_T50 x5_3 (ji20)).f0)) := hcc23 0 _ rfl
                                  have hx23_1 : wr.cell? ⟨go23, ((ji20) : Int).toNat * 3 + 1, none⟩ = some (.int .i64 ((rd_T50 x5_3 (ji20)).f1)) := hcc23 1 _ rfl
                                  have hx23_2 : wr.cell? ⟨go23, ((ji20) : Int).toNat * 3 + 2, none⟩ = some (.bool ((rd_T50 x5_3 (ji20)).f2)) := hcc23 2 _ rfl
                                  have hf23_0 : wr.frozen? ⟨go23, ((ji20) : Int).toNat * 3, none⟩ = false := hfr23 0
                                  have hf23_1 : wr.frozen? ⟨go23, ((ji20) : Int).toNat * 3 + 1, none⟩ = false := hfr23 1
                                  have hf23_2 : wr.frozen? ⟨go23, ((ji20) : Int).toNat * 3 + 2, none⟩ = false := hfr23 2
                                  clear hcl23 hcc23 hfr23 hM23
                                  replace p23 := eq_true p23
                                  replace q23 := eq_true q23
                                  have HX26 := AsZ.mk (show Kd.R k50 50 wr w.heap.size (fun k_ => k_ ≠ gb242) (.slice (some ⟨go23, 0, none⟩) x5_3.length co25) x5_3 from (by (with_reducible repeat (first | apply Kd.R_alloc | apply Kd.R_drewN | apply Kd.R_drew)); exact HO_5.out))
                                  obtain ⟨ce26, hcl26, hM26, hcc26, hfr26⟩ := Kd.R_elem HX26.out z50 ((ji20) : Int) (of_decide_eq_true (by first | (with_reducible assumption) | assumption)) (by have h_ : ((ji20) : Int) < ((x5_3.length : Int) : Int) := of_decide_eq_true (by first | (with_reducible assumption) | assumption); first | exact h_ | (have e_ := (Kd.R_reads' HO_5.out).1; omega) | simpa using h_)
                                  obtain rfl := k50_openM hM26
                                  have HP26 := Kd.R_seg HX26.out ((ji20) : Int) (of_decide_eq_true (by first | (with_reducible assumption) | assumption)) (by have h_ : ((ji20) : Int) < ((x5_3.length : Int) : Int) := of_decide_eq_true (by first | (with_reducible assumption) | assumption); first | exact h_ | (have e_ := (Kd.R_reads' HO_5.out).1; omega) | simpa using h_) (seg := [.int .i64 (wrap64 ((rd t246 x24_3) + 1))]) (j := 1) hcl26 hcc26 (show 2 ≤ 3 from by decide) (x' := (⟨(rd_T50 x5_3 (ji20)).f0, wrap64 ((rd t246 x24_3) + 1), (rd_T50 x5_3 (ji20)).f2⟩ : S50)) (k50_mkM _ _ _ (⟨(rd_T50 x5_3 (ji20)).f0, wrap64 ((rd t246 x24_3) + 1), (rd_T50 x5_3 (ji20)).f2⟩ : S50) ) (fun _ hk => hk)
                                  have hx26_1 := hcc26 1 _ rfl
                                  (try simp only [show (k50).sz = 3 from rfl, Nat.mul_one, Nat.add_zero] at hx26_1)
                                  have hf26_1 := hfr26 1
                                  (try simp only [show (k50).sz = 3 from rfl, Nat.mul_one, Nat.add_zero] at hf26_1)
                                  clear hcl26 hcc26 hfr26 hM26
                                  go_wp2_with (first | ((with_reducible refine gate_store (t := 3) (p := 38) rfl ?_); refine store_event (t := 3) (p := 38) (v := ?vo_w27) (w1 := (wr.setCell ⟨go23, ((ji20) : Int).toNat * 3 + 1, none⟩ (.int .i64 (wrap64 ((rd t246 x24_3) + 1))))) ?hg ?ho ?hn ?hr ?_; (case ho => rfl); (case hg => rfl); (case hn => rfl); (case hr => first | (go_simp; done) | (go_simp; rfl)); intro w27 hw; have hg : wr.grownBy w27 (some go23) := (by rw [hw]; exact HP26.2); have hp_ : Kd.R k50 50 w27 w.heap.size (fun k_ => k_ ≠ gb242) (.slice (some ⟨go23, 0, none⟩) x5_3.length co25) y250 := (by rw [hw, Ny250.out]; exact HP26.1); clear HP26; have n0_ := AsZ.mk (hp_); have n1_ := AsZ.mk (Kd.R_over' (v := (.slice (some ⟨go23, 0, none⟩) x5_3.length co25)) (by (with_reducible repeat (first | apply Kd.R_alloc | apply Kd.R_drewN | apply Kd.R_drew)); exact HO_22.out) (Kd.R_typed HO_5.out) (by decide) hg); have n2_ := AsZ.mk (blk_grown (g := gb242) (o := .cells #[.int .i64 ((rd_T50 l0 x16_2).f0), .int .i64 x243001_3, .bool ((rd_T50 l0 x16_2).f2)] 50 (0, 0)) (by (with_reducible repeat first | apply bDn | apply bDr | apply bAl); exact BK242.out) hg (Kd.R_away HO_5.out (fun _ hk => hk))); have n3_ := AsZ.mk ((by rw [hw]; exact sBl (HB.out) GB23.out : Below w.heap.size w w27)); clear HO_5; clear HO_22; clear BK242; clear HB; have HO_5 := n0_; have HO_22 := n1_; have BK242 := n2_; have HB := n3_; clear n0_ n1_ n2_ n3_; clear hg hw hp_))
                                  go_roundg k3
                                  case measure => have := HJ2.out; have := HK2.out; have := HK3.out; omega
                                  case rel => exact ⟨(y250), (0), (wrap64 (x24_3 + 1)), (x243001_3), (by first | rfl | (simp; done) | (simp [*]; done)), (by first | rfl | (simp; done) | (simp [*]; done)), H', ⟨by have := HJ2.out; have := HK2.out; have := HK3.out; omega⟩, ⟨by (with_reducible repeat (first | apply Kd.R_alloc | apply Kd.R_drewN | apply Kd.R_drew)); exact HO_5.out⟩, ⟨by (with_reducible repeat (first | apply Kd.R_alloc | apply Kd.R_drewN | apply Kd.R_drew)); exact HO_22.out⟩, ⟨by (with_reducible repeat first | apply bDn | apply bDr | apply bAl); exact BK242.out⟩, ⟨by repeat (first | (with_reducible first | exact HB.out | apply aBl | apply pBd | apply dBl | refine sBl ?_ GE242.out) | exact HB.out)⟩⟩
                                · rw [if_neg c24] at H
                                  have c24b0 : ((wrap64 (x8_3 + 1)) == x1_2) = false := beq_eq_false_iff_ne.mpr c24
                                  have c24b1 : ((wrap64 (x8_3 + 1)) != x1_2) = true := bne_iff_ne.mpr c24
                                  have H' := AsZ.mk H
                                  clear H
                                  have p249 : 0 ≤ (x24_3 : Int) := of_decide_eq_true (by first | (with_reducible assumption) | assumption)
                                  have q249 : x24_3 < (t246.length : Int) := of_decide_eq_true (by first | (with_reducible assumption) | assumption)
                                  obtain ⟨ad249, e249, hx249_0⟩ := Kd.at_int (Kd.R_reads' HO_22.out).2.2 x24_3 p249 q249
                                  cases e249
                                  replace p249 := eq_true p249
                                  replace q249 := eq_true q249
                                  obtain ⟨Ao28, co28, eo28⟩ := Kd.R_slice HO_5.out
                                  subst eo28
                                  have p23 : 0 ≤ ((ji20) : Int) := of_decide_eq_true (by first | (with_reducible assumption) | assumption)
                                  have q23 : ((ji20) : Int) < ((x5_3.length : Int) : Int) := of_decide_eq_true (by first | (with_reducible assumption) | assumption)
                                  obtain ⟨go23, co23, eo23, gb23, gl23, cl23, HG23⟩ := Kd.R_form HO_5.out (by omega)
                                  (first | cases eo23 | (injection eo23 with ea_ en_ ec_; (first | subst ea_ | (injection ea_ with ea_; subst ea_)); subst ec_; clear en_))
                                  have GB23 := AsZ.mk gb23
                                  have GG23 := AsZ.mk HG23
                                  clear gb23 gl23 HG23
                                  obtain ⟨ce23, hcl23, hM23, hcc23, hfr23⟩ := Kd.R_elem HO_5.out z50 ((ji20) : Int) p23 q23
                                  obtain rfl := k50_openM hM23
                                  have hx23_0 : wr.cell? ⟨go23, ((ji20) : Int).toNat * 3, none⟩ = some (.int .i64 ((rd_T50 x5_3 (ji20)).f0)) := hcc23 0 _ rfl
                                  have hx23_1 : wr.cell? ⟨go23, ((ji20) : Int).toNat * 3 + 1, none⟩ = some (.int .i64 ((rd_T50 x5_3 (ji20)).f1)) := hcc23 1 _ rfl
                                  have hx23_2 : wr.cell? ⟨go23, ((ji20) : Int).toNat * 3 + 2, none⟩ = some (.bool ((rd_T50 x5_3 (ji20)).f2)) := hcc23 2 _ rfl
                                  have hf23_0 : wr.frozen? ⟨go23, ((ji20) : Int).toNat * 3, none⟩ = false := hfr23 0
                                  have hf23_1 : wr.frozen? ⟨go23, ((ji20) : Int).toNat * 3 + 1, none⟩ = false := hfr23 1
                                  have hf23_2 : wr.frozen? ⟨go23, ((ji20) : Int).toNat * 3 + 2, none⟩ = false := hfr23 2
                                  clear hcl23 hcc23 hfr23 hM23
                                  replace p23 := eq_true p23
                                  replace q23 := eq_true q23
                                  have HX29 := AsZ.mk (show Kd.R k50 50 wr w.heap.size (fun k_ => k_ ≠ gb242) (.slice (some ⟨go23, 0, none⟩) x5_3.length co28) x5_3 from (by (with_reducible repeat (first | apply Kd.R_alloc | apply Kd.R_drewN | apply Kd.R_drew)); exact HO_5.out))
                                  obtain ⟨ce29, hcl29, hM29, hcc29, hfr29⟩ := Kd.R_elem HX29.out z50 ((ji20) : Int) (of_decide_eq_true (by first | (with_reducible assumption) | assumption)) (by have h_ : ((ji20) : Int) < ((x5_3.length : Int) : Int) := of_decide_eq_true (by first | (with_reducible assumption) | assumption); first | exact h_ | (have e_ := (Kd.R_reads' HO_5.out).1; omega) | simpa using h_)
                                  obtain rfl := k50_openM hM29
                                  have HP29 := Kd.R_seg HX29.out ((ji20) : Int) (of_decide_eq_true (by first | (with_reducible assumption) | assumption)) (by have h_ : ((ji20) : Int) < ((x5_3.length : Int) : Int) := of_decide_eq_true (by first | (with_reducible assumption) | assumption); first | exact h_ | (have e_ := (Kd.R_reads' HO_5.out).1; omega) | simpa using h_) (seg := [.int .i64 (wrap64 ((rd t246 x24_3) + 1))]) (j := 1) hcl29 hcc29 (show 2 ≤ 3 from by decide) (x' := (⟨(rd_T50 x5_3 (ji20)).f0, wrap64 ((rd t246 x24_3) + 1), (rd_T50 x5_3 (ji20)).f2⟩ : S50)) (k50_mkM _ _ _ (⟨(rd_T50 x5_3 (ji20)).f0, wrap64 ((rd t246 x24_3) + 1), (rd_T50 x5_3 (ji20)).f2⟩ : S50) ) (fun _ hk => hk)
                                  have hx29_1 := hcc29 1 _ rfl
                                  (try simp only [show (k50).sz = 3 from rfl, Nat.mul_one, Nat.add_zero] at hx29_1)
                                  have hf29_1 := hfr29 1
                                  (try simp only [show (k50).sz = 3 from rfl, Nat.mul_one, Nat.add_zero] at hf29_1)
                                  clear hcl29 hcc29 hfr29 hM29
                                  go_wp2_with (first | ((with_reducible refine gate_store (t := 3) (p := 38) rfl ?_); refine store_event (t := 3) (p := 38) (v := ?vo_w30) (w1 := (wr.setCell ⟨go23, ((ji20) : Int).toNat * 3 + 1, none⟩ (.int .i64 (wrap64 ((rd t246 x24_3) + 1))))) ?hg ?ho ?hn ?hr ?_; (case ho => rfl); (case hg => rfl); (case hn => rfl); (case hr => first | (go_simp; done) | (go_simp; rfl)); intro w30 hw; have hg : wr.grownBy w30 (some go23) := (by rw [hw]; exact HP29.2); have hp_ : Kd.R k50 50 w30 w.heap.size (fun k_ => k_ ≠ gb242) (.slice (some ⟨go23, 0, none⟩) x5_3.length co28) y250 := (by rw [hw, Ny250.out]; exact HP29.1); clear HP29; have n0_ := AsZ.mk (hp_); have n1_ := AsZ.mk (Kd.R_over' (v := (.slice (some ⟨go23, 0, none⟩) x5_3.length co28)) (by (with_reducible repeat (first | apply Kd.R_alloc | apply Kd.R_drewN | apply Kd.R_drew)); exact HO_22.out) (Kd.R_typed HO_5.out) (by decide) hg); have n2_ := AsZ.mk (blk_grown (g := gb242) (o := .cells #[.int .i64 ((rd_T50 l0 x16_2).f0), .int .i64 x243001_3, .bool ((rd_T50 l0 x16_2).f2)] 50 (0, 0)) (by (with_reducible repeat first | apply bDn | apply bDr | apply bAl); exact BK242.out) hg (Kd.R_away HO_5.out (fun _ hk => hk))); have n3_ := AsZ.mk ((by rw [hw]; exact sBl (HB.out) GB23.out : Below w.heap.size w w30)); clear HO_5; clear HO_22; clear BK242; clear HB; have HO_5 := n0_; have HO_22 := n1_; have BK242 := n2_; have HB := n3_; clear n0_ n1_ n2_ n3_; clear hg hw hp_))
                                  go_roundg k3
                                  case measure => have := HJ2.out; have := HK2.out; have := HK3.out; omega
                                  case rel => exact ⟨(y250), (wrap64 (x8_3 + 1)), (wrap64 (x24_3 + 1)), (x243001_3), (by first | rfl | (simp; done) | (simp [*]; done)), (by first | rfl | (simp; done) | (simp [*]; done)), H', ⟨by have := HJ2.out; have := HK2.out; have := HK3.out; omega⟩, ⟨by (with_reducible repeat (first | apply Kd.R_alloc | apply Kd.R_drewN | apply Kd.R_drew)); exact HO_5.out⟩, ⟨by (with_reducible repeat (first | apply Kd.R_alloc | apply Kd.R_drewN | apply Kd.R_drew)); exact HO_22.out⟩, ⟨by (with_reducible repeat first | apply bDn | apply bDr | apply bAl); exact BK242.out⟩, ⟨by repeat (first | (with_reducible first | exact HB.out | apply aBl | apply pBd | apply dBl | refine sBl ?_ GE242.out) | exact HB.out)⟩⟩
                              · rw [if_neg c22] at H
                                exact absurd H (by simp)
                            · rw [if_neg c21] at H
                              exact absurd H (by simp)
                          · rw [if_neg c19] at H
                            have c19b0 : decide (0 < x8_3) = false := decide_eq_false c19
                            clear c19
                            by_cases c31 : x5_3.length < 5864062014805
                            · rw [if_pos c31] at H
                              have LMc31 := AsZ.mk c31
                              clear c31
                              obtain ⟨y251, hy251⟩ : ∃ y_ : List (S50), y_ = (x5_3 ++ [(⟨rd t246 x24_3, wrap64 ((rd t246 x24_3) + 1), ((rd_T50 l0 x16_2).f2)⟩ : S50)]) := ⟨_, rfl⟩
                              replace H : (if (wrap64 (x8_3 + 1)) = x1_2 then (spenceref24_Cap.l1 k3 x1_2 y251 0 l0 (l0.length : Int) x16_2 t246 (t246.length : Int) (wrap64 (x24_3 + 1)) ((rd_T50 l0 x16_2).f0) x243001_3 ((rd_T50 l0 x16_2).f2)) else (spenceref24_Cap.l1 k3 x1_2 y251 (wrap64 (x8_3 + 1)) l0 (l0.length : Int) x16_2 t246 (t246.length : Int) (wrap64 (x24_3 + 1)) ((rd_T50 l0 x16_2).f0) x243001_3 ((rd_T50 l0 x16_2).f2))) = some r := by first | (rw [hy251]; with_reducible exact H) | (have H2_ := (Option.bind_some _ _).symm.trans H; rw [hy251]; with_reducible exact H2_) | (have H2_ := (Option.bind_some _ _).symm.trans H; with_reducible exact H2_) | with_reducible exact H | (rw [hy251]; exact H) | exact H
                              have Ny251 := AsZ.mk hy251
                              clear hy251
                              by_cases c32 : (wrap64 (x8_3 + 1)) = x1_2
                              · rw [if_pos c32] at H
                                have c32b0 : ((wrap64 (x8_3 + 1)) == x1_2) = true := beq_iff_eq.mpr c32
                                have c32b1 : ((wrap64 (x8_3 + 1)) != x1_2) = false := bne_eq_false_iff_eq.mpr c32
                                clear c32
                                have H' := AsZ.mk H
                                clear H
                                have p249 : 0 ≤ (x24_3 : Int) := of_decide_eq_true (by first | (with_reducible assumption) | assumption)
                                have q249 : x24_3 < (t246.length : Int) := of_decide_eq_true (by first | (with_reducible assumption) | assumption)
                                obtain ⟨ad249, e249, hx249_0⟩ := Kd.at_int (Kd.R_reads' HO_22.out).2.2 x24_3 p249 q249
                                cases e249
                                replace p249 := eq_true p249
                                replace q249 := eq_true q249
                                obtain ⟨Ao33, co33, eo33⟩ := Kd.R_slice HO_5.out
                                subst eo33
                                obtain ⟨hcz34_0, hcz34_1, hcz34_2⟩ := celN3 BK242.out
                                obtain ⟨hfz34_0, hfz34_1, hfz34_2⟩ := fzN3 BK242.out
                                go_wp2_with (first | ((with_reducible refine gate_builtin (b := .append) (xs := #[.tmp 39, .tmp 46]) rfl ?_); at_builtin; refine Kd.R_append k50 (w0 := w) w.heap.size rfl (.tmp 39) (.tmp 46) 40 50 (.agg #[(.int .i64 0), (.int .i64 0), (.bool false)]) 24 rfl Tryd.underlying40 info50 rfl (by decide) (by omega) (.slice Ao33 x5_3.length co33) x5_3 (⟨rd t246 x24_3, wrap64 ((rd t246 x24_3) + 1), ((rd_T50 l0 x16_2).f2)⟩ : S50) [.int .i64 (rd t246 x24_3), .int .i64 (wrap64 ((rd t246 x24_3) + 1)), .bool ((rd_T50 l0 x16_2).f2)] (fun k_ => k_ ≠ gb242) (fun _ => False) rfl rfl ?aP (fun _ hk => hk.elim) ?aF ?aO ?aB ?aS ?aL ?_; (case aP => exact k50_mkM _ _ _ (⟨rd t246 x24_3, wrap64 ((rd t246 x24_3) + 1), ((rd_T50 l0 x16_2).f2)⟩ : S50)); (case aB => exact (by repeat (first | (with_reducible first | exact HB.out | apply aBl | apply pBd | apply dBl | refine sBl ?_ GE242.out) | exact HB.out))); (case aF => exact (fun k_ hk => Kd.freshB (g := gb242) (o := .cells #[.int .i64 ((rd_T50 l0 x16_2).f0), .int .i64 x243001_3, .bool ((rd_T50 l0 x16_2).f2)] 50 (0, 0)) (by (with_reducible repeat first | apply bDn | apply bDr | apply bAl); exact BK242.out) k_ hk)); (case aO => exact (by (with_reducible repeat (first | apply Kd.R_alloc | apply Kd.R_drewN | apply Kd.R_drew)); exact HO_5.out)); (case aS => exact (zBl (by repeat (first | (with_reducible first | exact HB.out | apply aBl | apply pBd | apply dBl | refine sBl ?_ GE242.out) | exact HB.out)))); (case aL => have := LMc31.out; omega); intro v252 w35 ho hb hg hat; rw [← Ny251.out] at ho; have n0_ := AsZ.mk (Kd.R_over' (by (with_reducible repeat (first | apply Kd.R_alloc | apply Kd.R_drewN | apply Kd.R_drew)); exact HO_22.out) (Kd.R_typed (by (with_reducible repeat (first | apply Kd.R_alloc | apply Kd.R_drewN | apply Kd.R_drew)); exact HO_5.out)) (by decide) hg); have n1_ := AsZ.mk (blk_grown (g := gb242) (o := .cells #[.int .i64 ((rd_T50 l0 x16_2).f0), .int .i64 x243001_3, .bool ((rd_T50 l0 x16_2).f2)] 50 (0, 0)) (by (with_reducible repeat first | apply bDn | apply bDr | apply bAl); exact BK242.out) hg (Kd.R_away HO_5.out (fun _ hk => hk))); have n2_ := AsZ.mk (hb); have n3_ := AsZ.mk (ho); clear HO_22; clear BK242; clear HB; clear HO_5; have HO_22 := n0_; have BK242 := n1_; have HB := n2_; have HO253 := n3_; clear n0_ n1_ n2_ n3_; clear ho hb hg hat))
                                go_roundg k3
                                case measure => have := HJ2.out; have := HK2.out; have := HK3.out; omega
                                case rel => exact ⟨(y251), (0), (wrap64 (x24_3 + 1)), (x243001_3), (by first | rfl | (simp; done) | (simp [*]; done)), (by first | rfl | (simp; done) | (simp [*]; done)), H', ⟨by have := HJ2.out; have := HK2.out; have := HK3.out; omega⟩, ⟨by (with_reducible repeat (first | apply Kd.R_alloc | apply Kd.R_drewN | apply Kd.R_drew)); exact HO253.out⟩, ⟨by (with_reducible repeat (first | apply Kd.R_alloc | apply Kd.R_drewN | apply Kd.R_drew)); exact HO_22.out⟩, ⟨by (with_reducible repeat first | apply bDn | apply bDr | apply bAl); exact BK242.out⟩, ⟨by repeat (first | (with_reducible first | exact HB.out | apply aBl | apply pBd | apply dBl | refine sBl ?_ GE242.out) | exact HB.out)⟩⟩
                              · rw [if_neg c32] at H
                                have c32b0 : ((wrap64 (x8_3 + 1)) == x1_2) = false := beq_eq_false_iff_ne.mpr c32
                                have c32b1 : ((wrap64 (x8_3 + 1)) != x1_2) = true := bne_iff_ne.mpr c32
                                have H' := AsZ.mk H
                                clear H
                                have p249 : 0 ≤ (x24_3 : Int) := of_decide_eq_true (by first | (with_reducible assumption) | assumption)
                                have q249 : x24_3 < (t246.length : Int) := of_decide_eq_true (by first | (with_reducible assumption) | assumption)
                                obtain ⟨ad249, e249, hx249_0⟩ := Kd.at_int (Kd.R_reads' HO_22.out).2.2 x24_3 p249 q249
                                cases e249
                                replace p249 := eq_true p249
                                replace q249 := eq_true q249
                                obtain ⟨Ao36, co36, eo36⟩ := Kd.R_slice HO_5.out
                                subst eo36
                                obtain ⟨hcz37_0, hcz37_1, hcz37_2⟩ := celN3 BK242.out
                                obtain ⟨hfz37_0, hfz37_1, hfz37_2⟩ := fzN3 BK242.out
                                go_wp2_with (first | ((with_reducible refine gate_builtin (b := .append) (xs := #[.tmp 39, .tmp 46]) rfl ?_); at_builtin; refine Kd.R_append k50 (w0 := w) w.heap.size rfl (.tmp 39) (.tmp 46) 40 50 (.agg #[(.int .i64 0), (.int .i64 0), (.bool false)]) 24 rfl Tryd.underlying40 info50 rfl (by decide) (by omega) (.slice Ao36 x5_3.length co36) x5_3 (⟨rd t246 x24_3, wrap64 ((rd t246 x24_3) + 1), ((rd_T50 l0 x16_2).f2)⟩ : S50) [.int .i64 (rd t246 x24_3), .int .i64 (wrap64 ((rd t246 x24_3) + 1)), .bool ((rd_T50 l0 x16_2).f2)] (fun k_ => k_ ≠ gb242) (fun _ => False) rfl rfl ?aP (fun _ hk => hk.elim) ?aF ?aO ?aB ?aS ?aL ?_; (case aP => exact k50_mkM _ _ _ (⟨rd t246 x24_3, wrap64 ((rd t246 x24_3) + 1), ((rd_T50 l0 x16_2).f2)⟩ : S50)); (case aB => exact (by repeat (first | (with_reducible first | exact HB.out | apply aBl | apply pBd | apply dBl | refine sBl ?_ GE242.out) | exact HB.out))); (case aF => exact (fun k_ hk => Kd.freshB (g := gb242) (o := .cells #[.int .i64 ((rd_T50 l0 x16_2).f0), .int .i64 x243001_3, .bool ((rd_T50 l0 x16_2).f2)] 50 (0, 0)) (by (with_reducible repeat first | apply bDn | apply bDr | apply bAl); exact BK242.out) k_ hk)); (case aO => exact (by (with_reducible repeat (first | apply Kd.R_alloc | apply Kd.R_drewN | apply Kd.R_drew)); exact HO_5.out)); (case aS => exact (zBl (by repeat (first | (with_reducible first | exact HB.out | apply aBl | apply pBd | apply dBl | refine sBl ?_ GE242.out) | exact HB.out)))); (case aL => have := LMc31.out; omega); intro v252 w38 ho hb hg hat; rw [← Ny251.out] at ho; have n0_ := AsZ.mk (Kd.R_over' (by (with_reducible repeat (first | apply Kd.R_alloc | apply Kd.R_drewN | apply Kd.R_drew)); exact HO_22.out) (Kd.R_typed (by (with_reducible repeat (first | apply Kd.R_alloc | apply Kd.R_drewN | apply Kd.R_drew)); exact HO_5.out)) (by decide) hg); have n1_ := AsZ.mk (blk_grown (g := gb242) (o := .cells #[.int .i64 ((rd_T50 l0 x16_2).f0), .int .i64 x243001_3, .bool ((rd_T50 l0 x16_2).f2)] 50 (0, 0)) (by (with_reducible repeat first | apply bDn | apply bDr | apply bAl); exact BK242.out) hg (Kd.R_away HO_5.out (fun _ hk => hk))); have n2_ := AsZ.mk (hb); have n3_ := AsZ.mk (ho); clear HO_22; clear BK242; clear HB; clear HO_5; have HO_22 := n0_; have BK242 := n1_; have HB := n2_; have HO253 := n3_; clear n0_ n1_ n2_ n3_; clear ho hb hg hat))
                                go_roundg k3
                                case measure => have := HJ2.out; have := HK2.out; have := HK3.out; omega
                                case rel => exact ⟨(y251), (wrap64 (x8_3 + 1)), (wrap64 (x24_3 + 1)), (x243001_3), (by first | rfl | (simp; done) | (simp [*]; done)), (by first | rfl | (simp; done) | (simp [*]; done)), H', ⟨by have := HJ2.out; have := HK2.out; have := HK3.out; omega⟩, ⟨by (with_reducible repeat (first | apply Kd.R_alloc | apply Kd.R_drewN | apply Kd.R_drew)); exact HO253.out⟩, ⟨by (with_reducible repeat (first | apply Kd.R_alloc | apply Kd.R_drewN | apply Kd.R_drew)); exact HO_22.out⟩, ⟨by (with_reducible repeat first | apply bDn | apply bDr | apply bAl); exact BK242.out⟩, ⟨by repeat (first | (with_reducible first | exact HB.out | apply aBl | apply pBd | apply dBl | refine sBl ?_ GE242.out) | exact HB.out)⟩⟩
                            · rw [if_neg c31] at H
                              exact absurd H (by simp)
                        · rw [if_neg c18] at H
                          exact absurd H (by simp)
                      · rw [if_neg c17] at H
                        exact absurd H (by simp)
                    · rw [if_neg c16] at H
                      have c16b0 : decide (x24_3 < (t246.length : Int)) = false := decide_eq_false c16
                      clear c16
                      have H' := AsZ.mk H
                      clear H
                      go_wp2
                      go_roundg k3
                      case measure => have := HJ2.out; have := HK2.out; have := HK3.out; omega
                      case rel => exact ⟨(x5_3), (wrap64 (x16_2 + 1)), (by first | rfl | (simp; done) | (simp [*]; done)), H', ⟨by have := HJ2.out; have := HK2.out; have := HK3.out; omega⟩, ⟨by (with_reducible repeat (first | apply Kd.R_alloc | apply Kd.R_drewN | apply Kd.R_drew)); exact Kd.R_mono HO_5.out (fun _ hk => trivial)⟩, ⟨by repeat (first | (with_reducible first | exact HB.out | apply aBl | apply pBd | apply dBl | refine sBl ?_ GE242.out) | exact HB.out)⟩⟩
              · rw [if_neg c7] at H
                exact absurd H (by simp)
            · rw [if_neg c6] at H
              exact absurd H (by simp)
          · rw [if_neg c5] at H
            have c5b0 : decide (x16_2 < (l0.length : Int)) = false := decide_eq_false c5
            clear c5
            obtain rfl := Option.some.inj H
            go_wp2
            go_ret
            exact ⟨_, by first | rfl | (simp [eWn, eWs] <;> rfl) | (simp [*, eWn, eWs] <;> rfl), by (with_reducible repeat (first | apply Kd.R_alloc | apply Kd.R_drewN | apply Kd.R_drew)); exact HO_5.out, by repeat (first | (with_reducible first | exact HB.out | apply aBl | apply pBd | apply dBl) | exact HB.out)⟩
end Go.Proofs.YtcnlmpjoghogbaaDoor.PAll
namespace Go.Proofs.YtcnlmpjoghogbaaDoor.PAll
open Go.RowKit Go.Proofs.YtcnlmpjoghogbaaDoor.Xw Go.Proofs.YtcnlmpjoghogbaaDoorW.PrintWords Go.Proofs.YtcnlmpjoghogbaaDoorW.PrintLast Go.Proofs.YtcnlmpjoghogbaaDoorW.PrintMore
attribute [local go_sem] max2_int min2_int max_two min_two max_three min_three max_four min_four   -- for this text's walks alone
set_option linter.unusedVariables false
set_option linter.unusedSimpArgs false
mutual
def runs_Slices.l0 : Nat → List Int → List (S50) → Int → Int → Option (List Int)
  | 0, _, _, _, _ => none
  | k + 1, x3, x9, x10, x11 => if x11 < x10 then (if 0 ≤ x11 then (if x11 < (x9.length : Int) then ((runs_bounds.f ((rd_T50 x9 x11).f0) ((rd_T50 x9 x11).f1) ((rd_T50 x9 x11).f2)).bind fun bt182 => (runs_Slices.l1 k x3 bt182.2 bt182.1 x9 x10 x11)) else (none)) else (none)) else (some x3)
def runs_Slices.l1 : Nat → List Int → Int → Int → List (S50) → Int → Int → Option (List Int)
  | 0, _, _, _, _, _, _ => none
  | k + 1, x3, x7, x8, x9, x10, x11 => if x8 < x7 then (if x3.length < 17592186044416 then (runs_Slices.l1 k (x3 ++ [x8]) x7 (wrap64 (x8 + 1)) x9 x10 x11) else (none)) else (runs_Slices.l0 k x3 x9 x10 (wrap64 (x11 + 1)))
end
def runs_Slices.f (k : Nat) (l0 : List (S50)) : Option (List Int) := runs_Slices.l0 k ([] : List Int) l0 (l0.length : Int) 0
theorem runs_Slices.mono_l : ∀ k, (∀ y0 y1 y2 y3, LeO (runs_Slices.l0 k y0 y1 y2 y3) (runs_Slices.l0 (k + 1) y0 y1 y2 y3)) ∧ (∀ y0 y1 y2 y3 y4 y5, LeO (runs_Slices.l1 k y0 y1 y2 y3 y4 y5) (runs_Slices.l1 (k + 1) y0 y1 y2 y3 y4 y5))
  | 0 => ⟨fun _ _ _ _ r h => by simp [runs_Slices.l0] at h, fun _ _ _ _ _ _ r h => by simp [runs_Slices.l1] at h⟩
  | k + 1 => by
    obtain ⟨ih0, ih1⟩ := runs_Slices.mono_l k
    refine ⟨?_, ?_⟩
    · intro y0 y1 y2 y3
      unfold runs_Slices.l0
      repeat' first
      | (with_reducible exact ih0 _ _ _ _)
      | (with_reducible exact ih1 _ _ _ _ _ _)
      | (with_reducible exact LeO.refl _)
      | (with_reducible exact LeO.none _)
      | (with_reducible refine LeO.ite ?_ ?_)
      | (with_reducible refine LeO.bind ?_ (fun _ => ?_))
      | exact ih0 _ _ _ _
      | exact ih1 _ _ _ _ _ _
      | exact LeO.none _
      | refine LeO.ite ?_ ?_
      | refine LeO.bind ?_ (fun _ => ?_)
    · intro y0 y1 y2 y3 y4 y5
      unfold runs_Slices.l1
      repeat' first
      | (with_reducible exact ih0 _ _ _ _)
      | (with_reducible exact ih1 _ _ _ _ _ _)
      | (with_reducible exact LeO.refl _)
      | (with_reducible exact LeO.none _)
      | (with_reducible refine LeO.ite ?_ ?_)
      | (with_reducible refine LeO.bind ?_ (fun _ => ?_))
      | exact ih0 _ _ _ _
      | exact ih1 _ _ _ _ _ _
      | exact LeO.none _
      | refine LeO.ite ?_ ?_
      | refine LeO.bind ?_ (fun _ => ?_)
theorem runs_Slices.mono : ∀ a0 k, LeO (runs_Slices.f k a0) (runs_Slices.f (k + 1) a0) := by
  intro a0 k
  obtain ⟨ih0, ih1⟩ := runs_Slices.mono_l k
  unfold runs_Slices.f
  repeat' first
      | (with_reducible exact ih0 _ _ _ _)
      | (with_reducible exact ih1 _ _ _ _ _ _)
      | (with_reducible exact LeO.refl _)
      | (with_reducible exact LeO.none _)
      | (with_reducible refine LeO.ite ?_ ?_)
      | (with_reducible refine LeO.bind ?_ (fun _ => ?_))
      | exact ih0 _ _ _ _
      | exact ih1 _ _ _ _ _ _
      | exact LeO.none _
      | refine LeO.ite ?_ ?_
      | refine LeO.bind ?_ (fun _ => ?_)
def runs_Apart.l0 : Nat → List (S50) → List (S50) → Int → Int → Option (Bool)
  | 0, _, _, _, _ => none
  | k + 1, x0, x7, x8, x9 => if x9 < x8 then (if 0 ≤ x9 then (if x9 < (x7.length : Int) then ((runs_bounds.f ((rd_T50 x7 x9).f0) ((rd_T50 x7 x9).f1) ((rd_T50 x7 x9).f2)).bind fun bt189 => (if bt189.1 = ((rd_T50 x7 x9).f0) then (if bt189.2 = ((rd_T50 x7 x9).f1) then (if bt189.1 ≥ bt189.2 then (some false) else (if x9 > 0 then (if 0 ≤ (wrap64 (x9 - 1)) then (if (wrap64 (x9 - 1)) < (x0.length : Int) then (if ((rd_T50 x0 (wrap64 (x9 - 1))).f1) > bt189.1 then (some false) else (runs_Apart.l0 k x0 x7 x8 (wrap64 (x9 + 1)))) else (none)) else (none)) else (runs_Apart.l0 k x0 x7 x8 (wrap64 (x9 + 1))))) else (some false)) else (some false))) else (none)) else (none)) else (some true)
def runs_Apart.f (k : Nat) (l0 : List (S50)) : Option (Bool) := runs_Apart.l0 k l0 l0 (l0.length : Int) 0
theorem runs_Apart.mono_l : ∀ k, (∀ y0 y1 y2 y3, LeO (runs_Apart.l0 k y0 y1 y2 y3) (runs_Apart.l0 (k + 1) y0 y1 y2 y3))
  | 0 => fun _ _ _ _ r h => by simp [runs_Apart.l0] at h
  | k + 1 => by
    have ih0 := runs_Apart.mono_l k
    · intro y0 y1 y2 y3
      unfold runs_Apart.l0
      repeat' first
      | (with_reducible exact ih0 _ _ _ _)
      | (with_reducible exact LeO.refl _)
      | (with_reducible exact LeO.none _)
      | (with_reducible refine LeO.ite ?_ ?_)
      | (with_reducible refine LeO.bind ?_ (fun _ => ?_))
      | exact ih0 _ _ _ _
      | exact LeO.none _
      | refine LeO.ite ?_ ?_
      | refine LeO.bind ?_ (fun _ => ?_)
theorem runs_Apart.mono : ∀ a0 k, LeO (runs_Apart.f k a0) (runs_Apart.f (k + 1) a0) := by
  intro a0 k
  have ih0 := runs_Apart.mono_l k
  unfold runs_Apart.f
  repeat' first
      | (with_reducible exact ih0 _ _ _ _)
      | (with_reducible exact LeO.refl _)
      | (with_reducible exact LeO.none _)
      | (with_reducible refine LeO.ite ?_ ?_)
      | (with_reducible refine LeO.bind ?_ (fun _ => ?_))
      | exact ih0 _ _ _ _
      | exact LeO.none _
      | refine LeO.ite ?_ ?_
      | refine LeO.bind ?_ (fun _ => ?_)
def runs_Count.l0 : Nat → Int → List (S50) → Int → Int → Option (Int)
  | 0, _, _, _, _ => none
  | k + 1, x3, x8, x9, x10 => if x10 < x9 then (if 0 ≤ x10 then (if x10 < (x8.length : Int) then ((runs_bounds.f ((rd_T50 x8 x10).f0) ((rd_T50 x8 x10).f1) ((rd_T50 x8 x10).f2)).bind fun bt194 => (runs_Count.l0 k (wrap64 (x3 + (mx (wrap64 (bt194.2 - bt194.1)) 0))) x8 x9 (wrap64 (x10 + 1)))) else (none)) else (none)) else (some x3)
def runs_Count.f (k : Nat) (l0 : List (S50)) : Option (Int) := runs_Count.l0 k 0 l0 (l0.length : Int) 0
theorem runs_Count.mono_l : ∀ k, (∀ y0 y1 y2 y3, LeO (runs_Count.l0 k y0 y1 y2 y3) (runs_Count.l0 (k + 1) y0 y1 y2 y3))
  | 0 => fun _ _ _ _ r h => by simp [runs_Count.l0] at h
  | k + 1 => by
    have ih0 := runs_Count.mono_l k
    · intro y0 y1 y2 y3
      unfold runs_Count.l0
      repeat' first
      | (with_reducible exact ih0 _ _ _ _)
      | (with_reducible exact LeO.refl _)
      | (with_reducible exact LeO.none _)
      | (with_reducible refine LeO.ite ?_ ?_)
      | (with_reducible refine LeO.bind ?_ (fun _ => ?_))
      | exact ih0 _ _ _ _
      | exact LeO.none _
      | refine LeO.ite ?_ ?_
      | refine LeO.bind ?_ (fun _ => ?_)
theorem runs_Count.mono : ∀ a0 k, LeO (runs_Count.f k a0) (runs_Count.f (k + 1) a0) := by
  intro a0 k
  have ih0 := runs_Count.mono_l k
  unfold runs_Count.f
  repeat' first
      | (with_reducible exact ih0 _ _ _ _)
      | (with_reducible exact LeO.refl _)
      | (with_reducible exact LeO.none _)
      | (with_reducible refine LeO.ite ?_ ?_)
      | (with_reducible refine LeO.bind ?_ (fun _ => ?_))
      | exact ih0 _ _ _ _
      | exact LeO.none _
      | refine LeO.ite ?_ ?_
      | refine LeO.bind ?_ (fun _ => ?_)
end Go.Proofs.YtcnlmpjoghogbaaDoor.PAll
namespace Go.Proofs.YtcnlmpjoghogbaaDoor.PAll
open Go.Proofs.YtcnlmpjoghogbaaDoor.Ag (row_load row_store ag_gate ag_gate_st row_store2)
open Go.RowKit Go.Proofs.YtcnlmpjoghogbaaDoor.Xw Go.Proofs.YtcnlmpjoghogbaaDoorW.PrintWords Go.Proofs.YtcnlmpjoghogbaaDoorW.PrintLast Go.Proofs.YtcnlmpjoghogbaaDoorW.PrintMore
attribute [local go_sem] max2_int min2_int max_two min_two max_three min_three max_four min_four   -- for this text's walks alone
attribute [local go_sem ↓] Ag.ldMap_eq
set_option linter.unusedVariables false
set_option linter.unusedSimpArgs false
def spencelaw27_RunsSplits.j0 : Nat → List Int → List Int → Bool → Option (Bool)
  | 0, _, _, _ => none
  | k + 1, x0, x1, x16 => if x16 = true then (some true) else ((bitmap_Of.f x1).bind fun t197 => ((runs_Split.f x0 t197).bind fun t198 => ((spenceref24_Split.f k x0 x1).bind fun t201 => ((spenceref24_Runs.f k t198 t201).bind fun t204 => (if t204 = true then ((runs_Missing.f t198).bind fun t205 => ((spenceref24_Missing.f k t201).bind fun t208 => ((spenceref24_Runs.f k t205 t208).bind fun t211 => (if t211 = true then ((runs_Slices.f k t198).bind fun t212 => ((spenceref24_Sorted.f k x0).bind fun t215 => ((spenceref01_Ints.f k t212 t215).bind fun t218 => (if t218 = true then ((runs_Apart.f k t198).bind fun t219 => (if t219 = true then ((runs_Count.f k t198).bind fun t220 => ((spenceref24_Sorted.f k x0).bind fun t221 => (some (t220 == (t221.length : Int))))) else (some false))) else (some false))))) else (some false))))) else (some false))))))
def spencelaw27_RunsSplits.f (k : Nat) (l0 : List Int) (l1 : List Int) : Option (Bool) := (spencelaw27_awake.f).bind fun t196 => (if t196 = true then (if (l0.length : Int) > 60 then (spencelaw27_RunsSplits.j0 k l0 l1 true) else (spencelaw27_RunsSplits.j0 k l0 l1 (decide ((l1.length : Int) > 60)))) else (some false))
theorem spencelaw27_RunsSplits.mono_l : ∀ k, (∀ y0 y1 y2, LeO (spencelaw27_RunsSplits.j0 k y0 y1 y2) (spencelaw27_RunsSplits.j0 (k + 1) y0 y1 y2))
  | 0 => fun _ _ _ r h => by simp [spencelaw27_RunsSplits.j0] at h
  | k + 1 => by
    have ih0 := spencelaw27_RunsSplits.mono_l k
    · intro y0 y1 y2
      unfold spencelaw27_RunsSplits.j0
      repeat' first
      | (with_reducible exact ih0 _ _ _)
      | (with_reducible exact runs_Apart.mono _ _)
      | (with_reducible exact runs_Count.mono _ _)
      | (with_reducible exact runs_Slices.mono _ _)
      | (with_reducible exact spenceref01_Ints.mono _ _ _)
      | (with_reducible exact spenceref24_Missing.mono _ _)
      | (with_reducible exact spenceref24_Runs.mono _ _ _)
      | (with_reducible exact spenceref24_Sorted.mono _ _)
      | (with_reducible exact spenceref24_Split.mono _ _ _)
      | (with_reducible exact LeO.refl _)
      | (with_reducible exact LeO.none _)
      | (with_reducible refine LeO.ite ?_ ?_)
      | (with_reducible refine LeO.bind ?_ (fun _ => ?_))
      | exact ih0 _ _ _
      | exact runs_Apart.mono _ _
      | exact runs_Count.mono _ _
      | exact runs_Slices.mono _ _
      | exact spenceref01_Ints.mono _ _ _
      | exact spenceref24_Missing.mono _ _
      | exact spenceref24_Runs.mono _ _ _
      | exact spenceref24_Sorted.mono _ _
      | exact spenceref24_Split.mono _ _ _
      | exact LeO.none _
      | refine LeO.ite ?_ ?_
      | refine LeO.bind ?_ (fun _ => ?_)
theorem spencelaw27_RunsSplits.mono : ∀ a0 a1 k, LeO (spencelaw27_RunsSplits.f k a0 a1) (spencelaw27_RunsSplits.f (k + 1) a0 a1) := by
  intro a0 a1 k
  have ih0 := spencelaw27_RunsSplits.mono_l k
  unfold spencelaw27_RunsSplits.f
  repeat' first
      | (with_reducible exact ih0 _ _ _)
      | (with_reducible exact runs_Apart.mono _ _)
      | (with_reducible exact runs_Count.mono _ _)
      | (with_reducible exact runs_Slices.mono _ _)
      | (with_reducible exact spenceref01_Ints.mono _ _ _)
      | (with_reducible exact spenceref24_Missing.mono _ _)
      | (with_reducible exact spenceref24_Runs.mono _ _ _)
      | (with_reducible exact spenceref24_Sorted.mono _ _)
      | (with_reducible exact spenceref24_Split.mono _ _ _)
      | (with_reducible exact LeO.refl _)
      | (with_reducible exact LeO.none _)
      | (with_reducible refine LeO.ite ?_ ?_)
      | (with_reducible refine LeO.bind ?_ (fun _ => ?_))
      | exact ih0 _ _ _
      | exact runs_Apart.mono _ _
      | exact runs_Count.mono _ _
      | exact runs_Slices.mono _ _
      | exact spenceref01_Ints.mono _ _ _
      | exact spenceref24_Missing.mono _ _
      | exact spenceref24_Runs.mono _ _ _
      | exact spenceref24_Sorted.mono _ _
      | exact spenceref24_Split.mono _ _ _
      | exact LeO.none _
      | refine LeO.ite ?_ ?_
      | refine LeO.bind ?_ (fun _ => ?_)
def spencelaw27_Few.l0 : Nat → List (S50) → List (S50) → Int → Int → Option (Bool)
  | 0, _, _, _, _ => none
  | k + 1, x0, x5, x6, x7 => if x7 < x6 then (if 0 ≤ x7 then (if x7 < (x5.length : Int) then (if ((rd_T50 x5 x7).f0) < (-1000) then (some false) else (if ((rd_T50 x5 x7).f0) > 5000 then (some false) else (if ((rd_T50 x5 x7).f1) < (-1000) then (some false) else (if ((rd_T50 x5 x7).f1) > 5000 then (some false) else (if (wrap64 (((rd_T50 x5 x7).f1) - ((rd_T50 x5 x7).f0))) > 500 then (some false) else (spencelaw27_Few.l0 k x0 x5 x6 (wrap64 (x7 + 1)))))))) else (none)) else (none)) else (some (decide ((x0.length : Int) ≤ 20)))
def spencelaw27_Few.f (k : Nat) (l0 : List (S50)) : Option (Bool) := spencelaw27_Few.l0 k l0 l0 (l0.length : Int) 0
theorem spencelaw27_Few.mono_l : ∀ k, (∀ y0 y1 y2 y3, LeO (spencelaw27_Few.l0 k y0 y1 y2 y3) (spencelaw27_Few.l0 (k + 1) y0 y1 y2 y3))
  | 0 => fun _ _ _ _ r h => by simp [spencelaw27_Few.l0] at h
  | k + 1 => by
    have ih0 := spencelaw27_Few.mono_l k
    · intro y0 y1 y2 y3
      unfold spencelaw27_Few.l0
      repeat' first
      | (with_reducible exact ih0 _ _ _ _)
      | (with_reducible exact LeO.refl _)
      | (with_reducible exact LeO.none _)
      | (with_reducible refine LeO.ite ?_ ?_)
      | (with_reducible refine LeO.bind ?_ (fun _ => ?_))
      | exact ih0 _ _ _ _
      | exact LeO.none _
      | refine LeO.ite ?_ ?_
      | refine LeO.bind ?_ (fun _ => ?_)
theorem spencelaw27_Few.mono : ∀ a0 k, LeO (spencelaw27_Few.f k a0) (spencelaw27_Few.f (k + 1) a0) := by
  intro a0 k
  have ih0 := spencelaw27_Few.mono_l k
  unfold spencelaw27_Few.f
  repeat' first
      | (with_reducible exact ih0 _ _ _ _)
      | (with_reducible exact LeO.refl _)
      | (with_reducible exact LeO.none _)
      | (with_reducible refine LeO.ite ?_ ?_)
      | (with_reducible refine LeO.bind ?_ (fun _ => ?_))
      | exact ih0 _ _ _ _
      | exact LeO.none _
      | refine LeO.ite ?_ ?_
      | refine LeO.bind ?_ (fun _ => ?_)
end Go.Proofs.YtcnlmpjoghogbaaDoor.PAll
namespace Go.Proofs.YtcnlmpjoghogbaaDoor.PAll
open Go.RowKit Go.Proofs.YtcnlmpjoghogbaaDoor.Xw Go.Proofs.YtcnlmpjoghogbaaDoorW.PrintWords Go.Proofs.YtcnlmpjoghogbaaDoorW.PrintLast Go.Proofs.YtcnlmpjoghogbaaDoorW.PrintMore
attribute [local go_sem] max2_int min2_int max_two min_two max_three min_three max_four min_four   -- for this text's walks alone
set_option linter.unusedVariables false
set_option linter.unusedSimpArgs false
def spencelaw27_RunsCaps.l0 : Nat → List (S50) → Int → List Int → List (S50) → Bool → List (S50) → Int → Int → Option (Bool)
  | 0, _, _, _, _, _, _, _, _ => none
  | k + 1, x0, x1, x5, x6, x7, x20, x21, x22 => if x22 < x21 then (if 0 ≤ x22 then (if x22 < (x20.length : Int) then (if x7 = true then (if ((rd_T50 x20 x22).f0) ≥ 0 then (if ((rd_T50 x20 x22).f0) < ((rd_T50 x20 x22).f1) then (if ((rd_T50 x20 x22).f1) ≤ 4097 then (if x22 = 0 then (spencelaw27_RunsCaps.l0 k x0 x1 x5 x6 true x20 x21 (wrap64 (x22 + 1))) else (if 0 ≤ (wrap64 (x22 - 1)) then (if (wrap64 (x22 - 1)) < (x0.length : Int) then (spencelaw27_RunsCaps.l0 k x0 x1 x5 x6 (decide (((rd_T50 x0 (wrap64 (x22 - 1))).f1) ≤ ((rd_T50 x20 x22).f0))) x20 x21 (wrap64 (x22 + 1))) else (none)) else (none))) else (spencelaw27_RunsCaps.l0 k x0 x1 x5 x6 false x20 x21 (wrap64 (x22 + 1)))) else (spencelaw27_RunsCaps.l0 k x0 x1 x5 x6 false x20 x21 (wrap64 (x22 + 1)))) else (spencelaw27_RunsCaps.l0 k x0 x1 x5 x6 false x20 x21 (wrap64 (x22 + 1)))) else (spencelaw27_RunsCaps.l0 k x0 x1 x5 x6 false x20 x21 (wrap64 (x22 + 1)))) else (none)) else (none)) else ((spenceref24_Cap.f k x0 x1).bind fun t265 => ((spenceref24_Runs.f k x6 t265).bind fun t268 => (if t268 = true then ((runs_Slices.f k x0).bind fun t269 => ((spenceref01_Ints.f k t269 x5).bind fun t272 => (if t272 = true then ((runs_Slices.f k x6).bind fun t273 => ((spenceref01_Ints.f k t273 x5).bind fun t276 => (if t276 = true then ((runs_Count.f k x0).bind fun t277 => (if t277 = (x5.length : Int) then ((runs_Apart.f k x0).bind fun t278 => (if (t278 == x7) = true then ((runs_Missing.f x0).bind fun t279 => ((spenceref24_Missing.f k x0).bind fun t282 => ((spenceref24_Runs.f k t279 t282).bind fun t285 => (some t285)))) else (some false))) else (some false))) else (some false)))) else (some false)))) else (some false))))
def spencelaw27_RunsCaps.f (k : Nat) (l0 : List (S50)) (a1 : Int) : Option (Bool) := (spencelaw27_awake.f).bind fun t254 => (if t254 = true then ((spencelaw27_Few.f k l0).bind fun t255 => (if t255 = true then ((spenceref24_Numbers.f k l0).bind fun t256 => ((runs_Cap.f k l0 a1).bind fun t259 => (spencelaw27_RunsCaps.l0 k l0 a1 t256 t259 true l0 (l0.length : Int) 0))) else (some true))) else (some false))
theorem spencelaw27_RunsCaps.mono_l : ∀ k, (∀ y0 y1 y2 y3 y4 y5 y6 y7, LeO (spencelaw27_RunsCaps.l0 k y0 y1 y2 y3 y4 y5 y6 y7) (spencelaw27_RunsCaps.l0 (k + 1) y0 y1 y2 y3 y4 y5 y6 y7))
  | 0 => fun _ _ _ _ _ _ _ _ r h => by simp [spencelaw27_RunsCaps.l0] at h
  | k + 1 => by
    have ih0 := spencelaw27_RunsCaps.mono_l k
    · intro y0 y1 y2 y3 y4 y5 y6 y7
      unfold spencelaw27_RunsCaps.l0
      repeat' first
      | (with_reducible exact ih0 _ _ _ _ _ _ _ _)
      | (with_reducible exact runs_Apart.mono _ _)
      | (with_reducible exact runs_Cap.mono _ _ _)
      | (with_reducible exact runs_Count.mono _ _)
      | (with_reducible exact runs_Slices.mono _ _)
      | (with_reducible exact spencelaw27_Few.mono _ _)
      | (with_reducible exact spenceref01_Ints.mono _ _ _)
      | (with_reducible exact spenceref24_Cap.mono _ _ _)
      | (with_reducible exact spenceref24_Missing.mono _ _)
      | (with_reducible exact spenceref24_Numbers.mono _ _)
      | (with_reducible exact spenceref24_Runs.mono _ _ _)
      | (with_reducible exact LeO.refl _)
      | (with_reducible exact LeO.none _)
      | (with_reducible refine LeO.ite ?_ ?_)
      | (with_reducible refine LeO.bind ?_ (fun _ => ?_))
      | exact ih0 _ _ _ _ _ _ _ _
      | exact runs_Apart.mono _ _
      | exact runs_Cap.mono _ _ _
      | exact runs_Count.mono _ _
      | exact runs_Slices.mono _ _
      | exact spencelaw27_Few.mono _ _
      | exact spenceref01_Ints.mono _ _ _
      | exact spenceref24_Cap.mono _ _ _
      | exact spenceref24_Missing.mono _ _
      | exact spenceref24_Numbers.mono _ _
      | exact spenceref24_Runs.mono _ _ _
      | exact LeO.none _
      | refine LeO.ite ?_ ?_
      | refine LeO.bind ?_ (fun _ => ?_)
theorem spencelaw27_RunsCaps.mono : ∀ a0 a1 k, LeO (spencelaw27_RunsCaps.f k a0 a1) (spencelaw27_RunsCaps.f (k + 1) a0 a1) := by
  intro a0 a1 k
  have ih0 := spencelaw27_RunsCaps.mono_l k
  unfold spencelaw27_RunsCaps.f
  repeat' first
      | (with_reducible exact ih0 _ _ _ _ _ _ _ _)
      | (with_reducible exact runs_Apart.mono _ _)
      | (with_reducible exact runs_Cap.mono _ _ _)
      | (with_reducible exact runs_Count.mono _ _)
      | (with_reducible exact runs_Slices.mono _ _)
      | (with_reducible exact spencelaw27_Few.mono _ _)
      | (with_reducible exact spenceref01_Ints.mono _ _ _)
      | (with_reducible exact spenceref24_Cap.mono _ _ _)
      | (with_reducible exact spenceref24_Missing.mono _ _)
      | (with_reducible exact spenceref24_Numbers.mono _ _)
      | (with_reducible exact spenceref24_Runs.mono _ _ _)
      | (with_reducible exact LeO.refl _)
      | (with_reducible exact LeO.none _)
      | (with_reducible refine LeO.ite ?_ ?_)
      | (with_reducible refine LeO.bind ?_ (fun _ => ?_))
      | exact ih0 _ _ _ _ _ _ _ _
      | exact runs_Apart.mono _ _
      | exact runs_Cap.mono _ _ _
      | exact runs_Count.mono _ _
      | exact runs_Slices.mono _ _
      | exact spencelaw27_Few.mono _ _
      | exact spenceref01_Ints.mono _ _ _
      | exact spenceref24_Cap.mono _ _ _
      | exact spenceref24_Missing.mono _ _
      | exact spenceref24_Numbers.mono _ _
      | exact spenceref24_Runs.mono _ _ _
      | exact LeO.none _
      | refine LeO.ite ?_ ?_
      | refine LeO.bind ?_ (fun _ => ?_)
def cuts_Right.f (a0 : Int) (a1 : Int) : Option (Bool) := if a0 ≥ 0 then (if a0 ≤ 4096 then (if a1 ≥ 1 then (some (decide (a1 ≤ 64))) else (some false)) else (some false)) else (some false)
set_option maxHeartbeats 8000000 in
set_option maxRecDepth 100000 in
theorem cuts_Right.calls (a0 : Int) (a1 : Int) (r : Bool) (w : World) (h : cuts_Right.f a0 a1 = some r) :
    Calls Tryd.prog 71 #[.int .i64 a0, .int .i64 a1] w fun e w' => e = .returned (.bool r) ∧ Drawn0 w w' := by
  have H : (if a0 ≥ 0 then (if a0 ≤ 4096 then (if a1 ≥ 1 then (some (decide (a1 ≤ 64))) else (some false)) else (some false)) else (some false)) = some r := h
  clear h
  by_cases c3 : a0 ≥ 0
  · rw [if_pos c3] at H
    have c3b0 : decide (0 ≤ a0) = true := decide_eq_true c3
    clear c3
    by_cases c4 : a0 ≤ 4096
    · rw [if_pos c4] at H
      have c4b0 : decide (a0 ≤ 4096) = true := decide_eq_true c4
      clear c4
      by_cases c5 : a1 ≥ 1
      · rw [if_pos c5] at H
        have c5b0 : decide (1 ≤ a1) = true := decide_eq_true c5
        clear c5
        obtain rfl := Option.some.inj H
        go_enter Tryd.func71, Tryd.ntmps71
        go_wp2
        go_ret
        exact ⟨by first | rfl | (simp; done) | (simp [*]; done) | exact nEm _ | exact eEm _, by repeat (first | exact Drawn0.refl _ | apply Drawn0.step)⟩
      · rw [if_neg c5] at H
        have c5b0 : decide (1 ≤ a1) = false := decide_eq_false c5
        clear c5
        obtain rfl := Option.some.inj H
        go_enter Tryd.func71, Tryd.ntmps71
        go_wp2
        go_ret
        exact ⟨by first | rfl | (simp; done) | (simp [*]; done) | exact nEm _ | exact eEm _, by repeat (first | exact Drawn0.refl _ | apply Drawn0.step)⟩
    · rw [if_neg c4] at H
      have c4b0 : decide (a0 ≤ 4096) = false := decide_eq_false c4
      clear c4
      obtain rfl := Option.some.inj H
      go_enter Tryd.func71, Tryd.ntmps71
      go_wp2
      go_ret
      exact ⟨by first | rfl | (simp; done) | (simp [*]; done) | exact nEm _ | exact eEm _, by repeat (first | exact Drawn0.refl _ | apply Drawn0.step)⟩
  · rw [if_neg c3] at H
    have c3b0 : decide (0 ≤ a0) = false := decide_eq_false c3
    clear c3
    obtain rfl := Option.some.inj H
    go_enter Tryd.func71, Tryd.ntmps71
    go_wp2
    go_ret
    exact ⟨by first | rfl | (simp; done) | (simp [*]; done) | exact nEm _ | exact eEm _, by repeat (first | exact Drawn0.refl _ | apply Drawn0.step)⟩
def cuts_Count.f (a0 : Int) (a1 : Int) : Option (Int) := (cuts_Right.f a0 a1).bind fun t286 => (if t286 = true then (if a1 = 0 then (none) else (some (wrap64 (Int.tdiv (wrap64 ((wrap64 (a0 + a1)) - 1)) a1)))) else (some 0))
set_option maxHeartbeats 8000000 in
set_option maxRecDepth 100000 in
theorem cuts_Count.calls (a0 : Int) (a1 : Int) (r : Int) (w : World) (h : cuts_Count.f a0 a1 = some r) :
    Calls Tryd.prog 64 #[.int .i64 a0, .int .i64 a1] w fun e w' => e = .returned (.int .i64 r) ∧ Drawn0 w w' := by
  have H : ((cuts_Right.f a0 a1).bind fun t286 => (if t286 = true then (if a1 = 0 then (none) else (some (wrap64 (Int.tdiv (wrap64 ((wrap64 (a0 + a1)) - 1)) a1)))) else (some 0))) = some r := h
  clear h
  replace H := Option.bind_eq_some_iff.mp H
  obtain ⟨t286, A30, H⟩ := H
  replace H : (if t286 = true then (if a1 = 0 then (none) else (some (wrap64 (Int.tdiv (wrap64 ((wrap64 (a0 + a1)) - 1)) a1)))) else (some 0)) = some r := H
  have A3 := AsZ.mk A30
  clear A30
  by_cases c4 : t286 = true
  · subst c4
    have H1 : (if a1 = 0 then (none) else (some (wrap64 (Int.tdiv (wrap64 ((wrap64 (a0 + a1)) - 1)) a1)))) = some r := by rw [if_pos rfl] at H; exact H
    clear H
    have H := H1
    clear H1
    by_cases c5 : a1 = 0
    · rw [if_pos c5] at H
      exact absurd H (by simp)
    · rw [if_neg c5] at H
      have c5b0 : (a1 == 0) = false := beq_eq_false_iff_ne.mpr c5
      have c5b1 : (a1 != 0) = true := bne_iff_ne.mpr c5
      obtain rfl := Option.some.inj H
      go_enter Tryd.func64, Tryd.ntmps64
      go_wp2_with (first | ((with_reducible refine gCa (f := 71) rfl ?_); refine gLl (some 7) rfl rfl Tryd.func71 (by kernel_rfl) rfl #[.int .i64 a0, .int .i64 a1] rfl (by (try simp only [List.map_toArray, List.map_cons, List.map_nil]); first | done | rfl | (simp only [List.length_drop, List.length_take]; rfl)) ?_; (with_reducible refine (cuts_Right.calls a0 a1 true _ A3.out).mono ?_); rintro e w' ⟨rfl, ⟨nd, rfl⟩⟩; refine ⟨_, rfl, ?_⟩))
      go_ret
      exact ⟨by first | rfl | (simp; done) | (simp [*]; done) | exact nEm _ | exact eEm _, by repeat (first | exact Drawn0.refl _ | apply Drawn0.step)⟩
  · replace c4 := Bool.eq_false_iff.mpr c4
    subst c4
    have H1 : (some 0) = some r := by rw [if_neg (show ¬ (false = true) by decide)] at H; exact H
    clear H
    have H := H1
    clear H1
    obtain rfl := Option.some.inj H
    go_enter Tryd.func64, Tryd.ntmps64
    go_wp2_with (first | ((with_reducible refine gCa (f := 71) rfl ?_); refine gLl (some 7) rfl rfl Tryd.func71 (by kernel_rfl) rfl #[.int .i64 a0, .int .i64 a1] rfl (by (try simp only [List.map_toArray, List.map_cons, List.map_nil]); first | done | rfl | (simp only [List.length_drop, List.length_take]; rfl)) ?_; (with_reducible refine (cuts_Right.calls a0 a1 false _ A3.out).mono ?_); rintro e w' ⟨rfl, ⟨nd, rfl⟩⟩; refine ⟨_, rfl, ?_⟩))
    go_ret
    exact ⟨by first | rfl | (simp; done) | (simp [*]; done) | exact nEm _ | exact eEm _, by repeat (first | exact Drawn0.refl _ | apply Drawn0.step)⟩
end Go.Proofs.YtcnlmpjoghogbaaDoor.PAll
