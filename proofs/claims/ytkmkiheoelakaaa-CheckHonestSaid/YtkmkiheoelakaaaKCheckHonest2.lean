/- What the law CheckHonest leans on (part 3 of 7): Go functions as plain functions, that the code comes to them, and what these answer. -/
import Derived.Test.YtkmkiheoelakaaaKCheckHonest1
namespace Go.Proofs.Ytkmkiheoelakaaa.PAll
open Go.RowKit Go.Proofs.Ytkmkiheoelakaaa.Xw Go.Proofs.YtkmkiheoelakaaaW.PrintWords Go.Proofs.YtkmkiheoelakaaaW.PrintLast Go.Proofs.YtkmkiheoelakaaaW.PrintMore
attribute [local go_sem] max2_int min2_int max_two min_two max_three min_three max_four min_four   -- for this text's walks alone
set_option linter.unusedVariables false
set_option linter.unusedSimpArgs false
mutual
def r4Cont.j0 : Nat → ByteArray → ByteArray → Bool → Bool → Int → Int → Int → Option (Bool × Int × Int × Int × Int)
  | 0, _, _, _, _, _, _, _ => none
  | k + 1, x8, x9, x44, x151000, x151001, x151002, x151003 => if x44 = true then (some (false, 0, 0, 0, 3)) else (if x8.toList = ([42] : List UInt8) then (r4Cont.j1 k x9 false x151000 x151001 x151002 x151003) else ((r1Cut.f k x8 45).bind fun bt158 => ((r1Pars.f k bt158.1).bind fun bt161 => ((r1Pars.f k bt158.2.1).bind fun bt163 => (if bt158.2.2 = true then (if bt161.2 = 3 then (some (false, 0, 0, 0, 3)) else (if bt163.2 = 3 then (some (false, 0, 0, 0, 3)) else (if bt161.2 = 0 then (r4Cont.j1 k x9 (bt163.2 != 0) true bt161.1 (wrap64 (bt163.1 + 1)) x151003) else (r4Cont.j1 k x9 true true bt161.1 (wrap64 (bt163.1 + 1)) x151003)))) else (some (false, 0, 0, 0, 3)))))))
def r4Cont.j1 : Nat → ByteArray → Bool → Bool → Int → Int → Int → Option (Bool × Int × Int × Int × Int)
  | 0, _, _, _, _, _, _ => none
  | k + 1, x9, x11, x151000, x151001, x151002, x151003 => if x9.toList = ([42] : List UInt8) then (r4Cont.j2 k x11 x151000 x151001 x151002 x151003) else ((r1Pars.f k x9).bind fun bt165 => (if bt165.2 = 3 then (some (false, 0, 0, 0, 3)) else (if x11 = true then (r4Cont.j2 k true x151000 x151001 x151002 bt165.1) else (r4Cont.j2 k (bt165.2 != 0) x151000 x151001 x151002 bt165.1))))
def r4Cont.j2 : Nat → Bool → Bool → Int → Int → Int → Option (Bool × Int × Int × Int × Int)
  | 0, _, _, _, _, _ => none
  | k + 1, x11, x151000, x151001, x151002, x151003 => if x11 = true then (some (false, 0, 0, 0, 9)) else ((r4RC.f k x151000 x151001 x151002 x151003).bind fun t167 => (if t167 = true then (some (x151000, x151001, x151002, x151003, 0)) else (some (false, 0, 0, 0, 3))))
end
def r4Cont.f (k : Nat) (a0 : ByteArray) : Option (Bool × Int × Int × Int × Int) := (r1Cut.f k a0 32).bind fun bt151 => ((r1Cut.f k bt151.2.1 47).bind fun bt154 => (if bt151.2.2 = true then (if bt154.2.2 = true then ((r1Low.f k bt151.1).bind fun t157 => (r4Cont.j0 k bt154.1 bt154.2.1 (t157.toList != ([98, 121, 116, 101, 115] : List UInt8)) false 0 0 (-1))) else (r4Cont.j0 k bt154.1 bt154.2.1 true false 0 0 (-1))) else (r4Cont.j0 k bt154.1 bt154.2.1 true false 0 0 (-1))))
theorem r4Cont.mono_l : ∀ k, (∀ y0 y1 y2 y3 y4 y5 y6, LeO (r4Cont.j0 k y0 y1 y2 y3 y4 y5 y6) (r4Cont.j0 (k + 1) y0 y1 y2 y3 y4 y5 y6)) ∧ (∀ y0 y1 y2 y3 y4 y5, LeO (r4Cont.j1 k y0 y1 y2 y3 y4 y5) (r4Cont.j1 (k + 1) y0 y1 y2 y3 y4 y5)) ∧ (∀ y0 y1 y2 y3 y4, LeO (r4Cont.j2 k y0 y1 y2 y3 y4) (r4Cont.j2 (k + 1) y0 y1 y2 y3 y4))
  | 0 => ⟨fun _ _ _ _ _ _ _ r h => by simp [r4Cont.j0] at h, fun _ _ _ _ _ _ r h => by simp [r4Cont.j1] at h, fun _ _ _ _ _ r h => by simp [r4Cont.j2] at h⟩
  | k + 1 => by
    obtain ⟨ih0, ih1, ih2⟩ := r4Cont.mono_l k
    refine ⟨?_, ?_, ?_⟩
    · intro y0 y1 y2 y3 y4 y5 y6
      unfold r4Cont.j0
      repeat' first
      | (with_reducible exact ih0 _ _ _ _ _ _ _)
      | (with_reducible exact ih1 _ _ _ _ _ _)
      | (with_reducible exact ih2 _ _ _ _ _)
      | (with_reducible exact r1Cut.mono _ _ _)
      | (with_reducible exact r1Low.mono _ _)
      | (with_reducible exact r1Pars.mono _ _)
      | (with_reducible exact r4RC.mono _ _ _ _ _)
      | (with_reducible exact LeO.refl _)
      | (with_reducible exact LeO.none _)
      | (with_reducible refine LeO.ite ?_ ?_)
      | (with_reducible refine LeO.bind ?_ (fun _ => ?_))
      | exact ih0 _ _ _ _ _ _ _
      | exact ih1 _ _ _ _ _ _
      | exact ih2 _ _ _ _ _
      | exact r1Cut.mono _ _ _
      | exact r1Low.mono _ _
      | exact r1Pars.mono _ _
      | exact r4RC.mono _ _ _ _ _
      | exact LeO.none _
      | refine LeO.ite ?_ ?_
      | refine LeO.bind ?_ (fun _ => ?_)
    · intro y0 y1 y2 y3 y4 y5
      unfold r4Cont.j1
      repeat' first
      | (with_reducible exact ih0 _ _ _ _ _ _ _)
      | (with_reducible exact ih1 _ _ _ _ _ _)
      | (with_reducible exact ih2 _ _ _ _ _)
      | (with_reducible exact r1Cut.mono _ _ _)
      | (with_reducible exact r1Low.mono _ _)
      | (with_reducible exact r1Pars.mono _ _)
      | (with_reducible exact r4RC.mono _ _ _ _ _)
      | (with_reducible exact LeO.refl _)
      | (with_reducible exact LeO.none _)
      | (with_reducible refine LeO.ite ?_ ?_)
      | (with_reducible refine LeO.bind ?_ (fun _ => ?_))
      | exact ih0 _ _ _ _ _ _ _
      | exact ih1 _ _ _ _ _ _
      | exact ih2 _ _ _ _ _
      | exact r1Cut.mono _ _ _
      | exact r1Low.mono _ _
      | exact r1Pars.mono _ _
      | exact r4RC.mono _ _ _ _ _
      | exact LeO.none _
      | refine LeO.ite ?_ ?_
      | refine LeO.bind ?_ (fun _ => ?_)
    · intro y0 y1 y2 y3 y4
      unfold r4Cont.j2
      repeat' first
      | (with_reducible exact ih0 _ _ _ _ _ _ _)
      | (with_reducible exact ih1 _ _ _ _ _ _)
      | (with_reducible exact ih2 _ _ _ _ _)
      | (with_reducible exact r1Cut.mono _ _ _)
      | (with_reducible exact r1Low.mono _ _)
      | (with_reducible exact r1Pars.mono _ _)
      | (with_reducible exact r4RC.mono _ _ _ _ _)
      | (with_reducible exact LeO.refl _)
      | (with_reducible exact LeO.none _)
      | (with_reducible refine LeO.ite ?_ ?_)
      | (with_reducible refine LeO.bind ?_ (fun _ => ?_))
      | exact ih0 _ _ _ _ _ _ _
      | exact ih1 _ _ _ _ _ _
      | exact ih2 _ _ _ _ _
      | exact r1Cut.mono _ _ _
      | exact r1Low.mono _ _
      | exact r1Pars.mono _ _
      | exact r4RC.mono _ _ _ _ _
      | exact LeO.none _
      | refine LeO.ite ?_ ?_
      | refine LeO.bind ?_ (fun _ => ?_)
theorem r4Cont.mono : ∀ a0 k, LeO (r4Cont.f k a0) (r4Cont.f (k + 1) a0) := by
  intro a0 k
  obtain ⟨ih0, ih1, ih2⟩ := r4Cont.mono_l k
  unfold r4Cont.f
  repeat' first
      | (with_reducible exact ih0 _ _ _ _ _ _ _)
      | (with_reducible exact ih1 _ _ _ _ _ _)
      | (with_reducible exact ih2 _ _ _ _ _)
      | (with_reducible exact r1Cut.mono _ _ _)
      | (with_reducible exact r1Low.mono _ _)
      | (with_reducible exact r1Pars.mono _ _)
      | (with_reducible exact r4RC.mono _ _ _ _ _)
      | (with_reducible exact LeO.refl _)
      | (with_reducible exact LeO.none _)
      | (with_reducible refine LeO.ite ?_ ?_)
      | (with_reducible refine LeO.bind ?_ (fun _ => ?_))
      | exact ih0 _ _ _ _ _ _ _
      | exact ih1 _ _ _ _ _ _
      | exact ih2 _ _ _ _ _
      | exact r1Cut.mono _ _ _
      | exact r1Low.mono _ _
      | exact r1Pars.mono _ _
      | exact r4RC.mono _ _ _ _ _
      | exact LeO.none _
      | refine LeO.ite ?_ ?_
      | refine LeO.bind ?_ (fun _ => ?_)
set_option maxHeartbeats 8000000 in
set_option maxRecDepth 100000 in
theorem r4Cont.calls (k : Nat) (a0 : ByteArray) (r1 : Bool) (r2 : Int) (r3 : Int) (r4 : Int) (r5 : Int) (w : World) (h : r4Cont.f k a0 = some (r1, r2, r3, r4, r5)) :
    Calls Try.prog 17 #[.string a0] w fun e w' => e = .returned (.tuple #[.agg #[.bool r1, .int .i64 r2, .int .i64 r3, .int .i64 r4], .int .i64 r5]) ∧ Below w.heap.size w w' := by
  have hu40 := Try.underlying40
  have hu23 := Try.underlying23
  have HB := AsZ.mk (Below.refl w.heap.size w)
  have H : ((r1Cut.f k a0 32).bind fun bt151 => ((r1Cut.f k bt151.2.1 47).bind fun bt154 => (if bt151.2.2 = true then (if bt154.2.2 = true then ((r1Low.f k bt151.1).bind fun t157 => (r4Cont.j0 k bt154.1 bt154.2.1 (t157.toList != ([98, 121, 116, 101, 115] : List UInt8)) false 0 0 (-1))) else (r4Cont.j0 k bt154.1 bt154.2.1 true false 0 0 (-1))) else (r4Cont.j0 k bt154.1 bt154.2.1 true false 0 0 (-1))))) = some (r1, r2, r3, r4, r5) := h
  clear h
  replace H := Option.bind_eq_some_iff.mp H
  obtain ⟨⟨t151, t152, t153⟩, A20, H⟩ := H
  replace H : ((r1Cut.f k t152 47).bind fun bt154 => (if t153 = true then (if bt154.2.2 = true then ((r1Low.f k t151).bind fun t157 => (r4Cont.j0 k bt154.1 bt154.2.1 (t157.toList != ([98, 121, 116, 101, 115] : List UInt8)) false 0 0 (-1))) else (r4Cont.j0 k bt154.1 bt154.2.1 true false 0 0 (-1))) else (r4Cont.j0 k bt154.1 bt154.2.1 true false 0 0 (-1)))) = some (r1, r2, r3, r4, r5) := H
  have A2 := AsZ.mk A20
  clear A20
  replace H := Option.bind_eq_some_iff.mp H
  obtain ⟨⟨t154, t155, t156⟩, A30, H⟩ := H
  replace H : (if t153 = true then (if t156 = true then ((r1Low.f k t151).bind fun t157 => (r4Cont.j0 k t154 t155 (t157.toList != ([98, 121, 116, 101, 115] : List UInt8)) false 0 0 (-1))) else (r4Cont.j0 k t154 t155 true false 0 0 (-1))) else (r4Cont.j0 k t154 t155 true false 0 0 (-1))) = some (r1, r2, r3, r4, r5) := H
  have A3 := AsZ.mk A30
  clear A30
  have HC4 := AsZ.mk H
  clear H
  go_enter Try.func17, Try.ntmps17
  go_upto_region 4 with (first | ((with_reducible refine gDs (N := 2) rfl ?_); refine bEv ?hg (N := 2) ?hd (cs := #[.bool false, .int .i64 0, .int .i64 0, .int .i64 0]) (t := 40) ?hr ?_; (case hd => rfl); (case hg => rfl); (case hr => first | (go_simp; done) | (go_simp; rfl)); intro gb149 hg w5 hbox hb; have n0_ := AsZ.mk (tBl (by repeat (first | (with_reducible first | exact HB.out | apply aBl | apply pBd | apply dBl) | exact HB.out)) hb); have n1_ := AsZ.mk (hbox); have n2_ := AsZ.mk ((by rw [hg]; exact (zBl (by repeat (first | (with_reducible first | exact HB.out | apply aBl | apply pBd | apply dBl) | exact HB.out))) : w.heap.size ≤ gb149)); have n3_ := AsZ.mk ((by rw [hg]; exact (zBl (by repeat (first | (with_reducible first | exact HB.out | apply aBl | apply pBd | apply dBl) | exact HB.out))) : w.heap.size ≤ gb149)); clear HB; have HB := n0_; have BK149 := n1_; have GW149 := n2_; have GE149 := n3_; clear n0_ n1_ n2_ n3_; clear hb hbox hg) | ((with_reducible refine gDs (N := 4) rfl ?_); refine bEv ?hg (N := 4) ?hd (cs := #[.bool false, .int .i64 0, .int .i64 0, .int .i64 0]) (t := 40) ?hr ?_; (case hd => rfl); (case hg => rfl); (case hr => first | (go_simp; done) | (go_simp; rfl)); intro gb150 hg w6 hbox hb; have n0_ := AsZ.mk (bBl (g := gb149) (o := .cells #[.bool false, .int .i64 0, .int .i64 0, .int .i64 0] 40 (0, 0)) (by (with_reducible repeat first | apply bDn | apply bDr | apply bAl); exact BK149.out) hb); have n1_ := AsZ.mk (tBl (by repeat (first | (with_reducible first | exact HB.out | apply aBl | apply pBd | apply dBl | refine sBl ?_ GE149.out) | exact HB.out)) hb); have n2_ := AsZ.mk (hbox); have n3_ := AsZ.mk ((by rw [hg]; exact (zBl (by repeat (first | (with_reducible first | exact HB.out | apply aBl | apply pBd | apply dBl | refine sBl ?_ GE149.out) | exact HB.out))) : w.heap.size ≤ gb150)); have n4_ := AsZ.mk ((by rw [hg]; exact (zBl (by repeat (first | (with_reducible first | exact HB.out | apply aBl | apply pBd | apply dBl | refine sBl ?_ GE149.out) | exact HB.out))) : w.heap.size ≤ gb150)); have n5_ := AsZ.mk ((by rw [hg]; exact Nat.ne_of_lt (bLt (g := gb149) (o := .cells #[.bool false, .int .i64 0, .int .i64 0, .int .i64 0] 40 (0, 0)) (by (with_reducible repeat first | apply bDn | apply bDr | apply bAl); exact BK149.out)) : gb149 ≠ gb150)); have n6_ := AsZ.mk ((by rw [hg]; exact Nat.ne_of_gt (bLt (g := gb149) (o := .cells #[.bool false, .int .i64 0, .int .i64 0, .int .i64 0] 40 (0, 0)) (by (with_reducible repeat first | apply bDn | apply bDr | apply bAl); exact BK149.out)) : gb150 ≠ gb149)); clear BK149; clear HB; have BK149 := n0_; have HB := n1_; have BK150 := n2_; have GW150 := n3_; have GE150 := n4_; have NB149_150 := n5_; have NB150_149 := n6_; clear n0_ n1_ n2_ n3_ n4_ n5_ n6_; clear hb hbox hg; have hnb7 := NB150_149.out; have hnc7 := NB149_150.out; obtain ⟨hcz8_0, hcz8_1, hcz8_2, hcz8_3⟩ := celN4 BK150.out; obtain ⟨hfz8_0, hfz8_1, hfz8_2, hfz8_3⟩ := fzN4 BK150.out) | ((with_reducible refine gCa (f := 24) rfl ?_); refine gLl (some 24) rfl rfl Try.func24 (by kernel_rfl) rfl #[.string a0, .int .u8 32] rfl (by (try simp only [List.map_toArray, List.map_cons, List.map_nil]); first | done | rfl | (simp only [List.length_drop, List.length_take]; rfl)) ?_; (with_reducible refine (r1Cut.calls k a0 32 t151 t152 t153 _ A2.out).mono ?_); rintro e w' ⟨rfl, ⟨nd, rfl⟩⟩; refine ⟨_, rfl, ?_⟩) | ((with_reducible refine gCa (f := 24) rfl ?_); refine gLl (some 30) rfl rfl Try.func24 (by kernel_rfl) rfl #[.string t152, .int .u8 47] rfl (by (try simp only [List.map_toArray, List.map_cons, List.map_nil]); first | done | rfl | (simp only [List.length_drop, List.length_take]; rfl)) ?_; (with_reducible refine (r1Cut.calls k t152 47 t154 t155 t156 _ A3.out).mono ?_); rintro e w' ⟨rfl, ⟨nd, rfl⟩⟩; refine ⟨_, rfl, ?_⟩))
  (try simp only [Act.put, List.setIfInBounds_toArray, List.set_cons_zero, List.set_cons_succ])
  go_cut [44] (fun v44 wc => ∃ (kq : Nat) (x44_3 : Bool), v44 = .bool x44_3 ∧ AsZ (r4Cont.j0 kq t154 t155 x44_3 false 0 0 (-1) = some (r1, r2, r3, r4, r5)) ∧ AsZ (kq ≤ k) ∧ AsZ (wc.heap[gb149]? = some (.cells #[.bool false, .int .i64 0, .int .i64 0, .int .i64 0] 40 (0, 0))) ∧ AsZ (wc.heap[gb150]? = some (.cells #[.bool false, .int .i64 0, .int .i64 0, .int .i64 (-1)] 40 (0, 0))) ∧ AsZ (Below w.heap.size w wc))
  case first =>
    have H := HC4.out
    clear HC4
    by_cases c9 : t153 = true
    · subst c9
      have H1 : (if t156 = true then ((r1Low.f k t151).bind fun t157 => (r4Cont.j0 k t154 t155 (t157.toList != ([98, 121, 116, 101, 115] : List UInt8)) false 0 0 (-1))) else (r4Cont.j0 k t154 t155 true false 0 0 (-1))) = some (r1, r2, r3, r4, r5) := by rw [if_pos rfl] at H; exact H
      clear H
      have H := H1
      clear H1
      by_cases c10 : t156 = true
      · subst c10
        have H1 : ((r1Low.f k t151).bind fun t157 => (r4Cont.j0 k t154 t155 (t157.toList != ([98, 121, 116, 101, 115] : List UInt8)) false 0 0 (-1))) = some (r1, r2, r3, r4, r5) := by rw [if_pos rfl] at H; exact H
        clear H
        have H := H1
        clear H1
        replace H := Option.bind_eq_some_iff.mp H
        obtain ⟨t157, A110, H⟩ := H
        replace H : (r4Cont.j0 k t154 t155 (t157.toList != ([98, 121, 116, 101, 115] : List UInt8)) false 0 0 (-1)) = some (r1, r2, r3, r4, r5) := H
        have A11 := AsZ.mk A110
        clear A110
        have H' := AsZ.mk H
        clear H
        go_wp2_with (first | (go_at_call 25; (with_reducible refine (r1Low.calls k t151 t157 _ A11.out).mono ?_); rintro e w12 ⟨rfl, hb⟩; have n0_ := AsZ.mk (bBl (g := gb149) (o := .cells #[.bool false, .int .i64 0, .int .i64 0, .int .i64 0] 40 (0, 0)) (by (with_reducible repeat first | apply bDn | apply bDr | apply bAl); refine bFr ?_ NB149_150.out _; (with_reducible repeat first | apply bDn | apply bDr | apply bAl); refine bFr ?_ NB149_150.out _; (with_reducible repeat first | apply bDn | apply bDr | apply bAl); refine bFr ?_ NB149_150.out _; (with_reducible repeat first | apply bDn | apply bDr | apply bAl); refine bFr ?_ NB149_150.out _; (with_reducible repeat first | apply bDn | apply bDr | apply bAl); exact BK149.out) hb); have n1_ := AsZ.mk (bBl (g := gb150) (o := .cells #[.bool false, .int .i64 0, .int .i64 0, .int .i64 (-1)] 40 (0, 0)) (by (with_reducible repeat first | apply bDn | apply bDr | apply bAl); refine bPu (cs := #[.bool false, .int .i64 0, .int .i64 0, .int .i64 0]) ?_ 3 _ rfl; (with_reducible repeat first | apply bDn | apply bDr | apply bAl); refine bPu (cs := #[.bool false, .int .i64 0, .int .i64 0, .int .i64 0]) ?_ 2 _ rfl; (with_reducible repeat first | apply bDn | apply bDr | apply bAl); refine bPu (cs := #[.bool false, .int .i64 0, .int .i64 0, .int .i64 0]) ?_ 1 _ rfl; (with_reducible repeat first | apply bDn | apply bDr | apply bAl); refine bPu (cs := #[.bool false, .int .i64 0, .int .i64 0, .int .i64 0]) ?_ 0 _ rfl; (with_reducible repeat first | apply bDn | apply bDr | apply bAl); exact BK150.out) hb); have n2_ := AsZ.mk (tBl (by repeat (first | (with_reducible first | exact HB.out | apply aBl | apply pBd | apply dBl | refine sBl ?_ GE149.out | refine sBl ?_ GE150.out) | exact HB.out)) hb); clear BK149; clear BK150; clear HB; have BK149 := n0_; have BK150 := n1_; have HB := n2_; clear n0_ n1_ n2_; (try clear hb); (try clear hb2); (try clear hk); (try clear hi)))
        go_meet
        case rel => exact ⟨_, ((t157.toList != ([98, 121, 116, 101, 115] : List UInt8))), (by first | rfl | (simp; done) | (simp [*]; done)), H', ⟨by first | omega | exact Nat.le_refl _⟩, ⟨by (with_reducible repeat first | apply bDn | apply bDr | apply bAl); exact BK149.out⟩, ⟨by (with_reducible repeat first | apply bDn | apply bDr | apply bAl); exact BK150.out⟩, ⟨by repeat (first | (with_reducible first | exact HB.out | apply aBl | apply pBd | apply dBl | refine sBl ?_ GE149.out | refine sBl ?_ GE150.out) | exact HB.out)⟩⟩
      · replace c10 := Bool.eq_false_iff.mpr c10
        subst c10
        have H1 : (r4Cont.j0 k t154 t155 true false 0 0 (-1)) = some (r1, r2, r3, r4, r5) := by rw [if_neg (show ¬ (false = true) by decide)] at H; exact H
        clear H
        have H := H1
        clear H1
        have H' := AsZ.mk H
        clear H
        go_wp2
        go_meet
        case rel => exact ⟨_, (true), (by first | rfl | (simp; done) | (simp [*]; done)), H', ⟨by first | omega | exact Nat.le_refl _⟩, ⟨by (with_reducible repeat first | apply bDn | apply bDr | apply bAl); refine bFr ?_ NB149_150.out _; (with_reducible repeat first | apply bDn | apply bDr | apply bAl); refine bFr ?_ NB149_150.out _; (with_reducible repeat first | apply bDn | apply bDr | apply bAl); refine bFr ?_ NB149_150.out _; (with_reducible repeat first | apply bDn | apply bDr | apply bAl); refine bFr ?_ NB149_150.out _; (with_reducible repeat first | apply bDn | apply bDr | apply bAl); exact BK149.out⟩, ⟨by (with_reducible repeat first | apply bDn | apply bDr | apply bAl); refine bPu (cs := #[.bool false, .int .i64 0, .int .i64 0, .int .i64 0]) ?_ 3 _ rfl; (with_reducible repeat first | apply bDn | apply bDr | apply bAl); refine bPu (cs := #[.bool false, .int .i64 0, .int .i64 0, .int .i64 0]) ?_ 2 _ rfl; (with_reducible repeat first | apply bDn | apply bDr | apply bAl); refine bPu (cs := #[.bool false, .int .i64 0, .int .i64 0, .int .i64 0]) ?_ 1 _ rfl; (with_reducible repeat first | apply bDn | apply bDr | apply bAl); refine bPu (cs := #[.bool false, .int .i64 0, .int .i64 0, .int .i64 0]) ?_ 0 _ rfl; (with_reducible repeat first | apply bDn | apply bDr | apply bAl); exact BK150.out⟩, ⟨by repeat (first | (with_reducible first | exact HB.out | apply aBl | apply pBd | apply dBl | refine sBl ?_ GE149.out | refine sBl ?_ GE150.out) | exact HB.out)⟩⟩
    · replace c9 := Bool.eq_false_iff.mpr c9
      subst c9
      have H1 : (r4Cont.j0 k t154 t155 true false 0 0 (-1)) = some (r1, r2, r3, r4, r5) := by rw [if_neg (show ¬ (false = true) by decide)] at H; exact H
      clear H
      have H := H1
      clear H1
      have H' := AsZ.mk H
      clear H
      go_wp2
      go_meet
      case rel => exact ⟨_, (true), (by first | rfl | (simp; done) | (simp [*]; done)), H', ⟨by first | omega | exact Nat.le_refl _⟩, ⟨by (with_reducible repeat first | apply bDn | apply bDr | apply bAl); refine bFr ?_ NB149_150.out _; (with_reducible repeat first | apply bDn | apply bDr | apply bAl); refine bFr ?_ NB149_150.out _; (with_reducible repeat first | apply bDn | apply bDr | apply bAl); refine bFr ?_ NB149_150.out _; (with_reducible repeat first | apply bDn | apply bDr | apply bAl); refine bFr ?_ NB149_150.out _; (with_reducible repeat first | apply bDn | apply bDr | apply bAl); exact BK149.out⟩, ⟨by (with_reducible repeat first | apply bDn | apply bDr | apply bAl); refine bPu (cs := #[.bool false, .int .i64 0, .int .i64 0, .int .i64 0]) ?_ 3 _ rfl; (with_reducible repeat first | apply bDn | apply bDr | apply bAl); refine bPu (cs := #[.bool false, .int .i64 0, .int .i64 0, .int .i64 0]) ?_ 2 _ rfl; (with_reducible repeat first | apply bDn | apply bDr | apply bAl); refine bPu (cs := #[.bool false, .int .i64 0, .int .i64 0, .int .i64 0]) ?_ 1 _ rfl; (with_reducible repeat first | apply bDn | apply bDr | apply bAl); refine bPu (cs := #[.bool false, .int .i64 0, .int .i64 0, .int .i64 0]) ?_ 0 _ rfl; (with_reducible repeat first | apply bDn | apply bDr | apply bAl); exact BK150.out⟩, ⟨by repeat (first | (with_reducible first | exact HB.out | apply aBl | apply pBd | apply dBl | refine sBl ?_ GE149.out | refine sBl ?_ GE150.out) | exact HB.out)⟩⟩
  case rest =>
    clear HC4
    try clear c1
    try clear c2
    try clear p2
    try clear c7
    try clear c9
    try clear c10
    try clear hcz8_0
    try clear hcz8_1
    try clear hcz8_2
    try clear hcz8_3
    try clear hfz8_0
    try clear hfz8_1
    try clear hfz8_2
    try clear hfz8_3
    obtain ⟨kq, x44_3, rfl, HA, HJ3, BK149, BK150, HB⟩ := hcut
    cases kq with
    | zero => exact absurd HA.out (by simp [r4Cont.j0])
    | succ kj3 =>
      have H := HA.out
      clear HA
      simp only [r4Cont.j0] at H
      by_cases c13 : x44_3 = true
      · subst c13
        have H1 : (some (false, 0, 0, 0, 3)) = some (r1, r2, r3, r4, r5) := by rw [if_pos rfl] at H; exact H
        clear H
        have H := H1
        clear H1
        simp only [Option.some.injEq, Prod.mk.injEq] at H
        obtain ⟨rfl, rfl, rfl, rfl, rfl⟩ := H
        have hnb14 := NB149_150.out
        have hnc14 := NB150_149.out
        obtain ⟨hcz15_0, hcz15_1, hcz15_2, hcz15_3⟩ := celN4 BK149.out
        obtain ⟨hfz15_0, hfz15_1, hfz15_2, hfz15_3⟩ := fzN4 BK149.out
        go_wp2
        refine bodyPost_ret (results_ct rfl _ _ gb149 40 #[.bool false, .int .i64 0, .int .i64 0, .int .i64 0] (0, 0) _ rfl (by (with_reducible repeat first | apply bDn | apply bDr | apply bAl); refine bPu (cs := #[.bool false, .int .i64 0, .int .i64 0, .int .i64 0]) ?_ 3 _ rfl; (with_reducible repeat first | apply bDn | apply bDr | apply bAl); refine bPu (cs := #[.bool false, .int .i64 0, .int .i64 0, .int .i64 0]) ?_ 2 _ rfl; (with_reducible repeat first | apply bDn | apply bDr | apply bAl); refine bPu (cs := #[.bool false, .int .i64 0, .int .i64 0, .int .i64 0]) ?_ 1 _ rfl; (with_reducible repeat first | apply bDn | apply bDr | apply bAl); refine bPu (cs := #[.bool false, .int .i64 0, .int .i64 0, .int .i64 0]) ?_ 0 _ rfl; (with_reducible repeat first | apply bDn | apply bDr | apply bAl); exact BK149.out) Try.underlying40 rfl (by kernel_rfl)) rfl ?_
        exact ⟨by first | rfl | exact nEm _ | exact eEm _ | (simp [eWn, eWs] <;> rfl) | (simp [*, eWn, eWs] <;> rfl), by repeat (first | (with_reducible first | exact HB.out | apply aBl | apply pBd | apply dBl | refine sBl ?_ GE149.out | refine sBl ?_ GE150.out) | exact HB.out)⟩
      · replace c13 := Bool.eq_false_iff.mpr c13
        subst c13
        have H1 : (if t154.toList = ([42] : List UInt8) then (r4Cont.j1 kj3 t155 false false 0 0 (-1)) else ((r1Cut.f kj3 t154 45).bind fun bt158 => ((r1Pars.f kj3 bt158.1).bind fun bt161 => ((r1Pars.f kj3 bt158.2.1).bind fun bt163 => (if bt158.2.2 = true then (if bt161.2 = 3 then (some (false, 0, 0, 0, 3)) else (if bt163.2 = 3 then (some (false, 0, 0, 0, 3)) else (if bt161.2 = 0 then (r4Cont.j1 kj3 t155 (bt163.2 != 0) true bt161.1 (wrap64 (bt163.1 + 1)) (-1)) else (r4Cont.j1 kj3 t155 true true bt161.1 (wrap64 (bt163.1 + 1)) (-1))))) else (some (false, 0, 0, 0, 3))))))) = some (r1, r2, r3, r4, r5) := by rw [if_neg (show ¬ (false = true) by decide)] at H; exact H
        clear H
        have H := H1
        clear H1
        have HC16 := AsZ.mk H
        clear H
        go_upto_if 47 with (fail)
        go_cut [11] (fun v11 wc => ∃ (kq : Nat) (x11_15 : Bool) (x150000_15 : Bool) (x150001_15 : Int) (x150002_15 : Int) (x150003_15 : Int) (x151000_15 : Bool) (x151001_15 : Int) (x151002_15 : Int), v11 = .bool x11_15 ∧ AsZ (r4Cont.j1 kq t155 x11_15 x151000_15 x151001_15 x151002_15 (-1) = some (r1, r2, r3, r4, r5)) ∧ AsZ (kq ≤ kj3) ∧ AsZ (wc.heap[gb149]? = some (.cells #[.bool x150000_15, .int .i64 x150001_15, .int .i64 x150002_15, .int .i64 x150003_15] 40 (0, 0))) ∧ AsZ (wc.heap[gb150]? = some (.cells #[.bool x151000_15, .int .i64 x151001_15, .int .i64 x151002_15, .int .i64 (-1)] 40 (0, 0))) ∧ AsZ (Below w.heap.size w wc))
        case first =>
          have H := HC16.out
          clear HC16
          by_cases c17 : t154.toList = ([42] : List UInt8)
          · rw [if_pos c17] at H
            have c17b0 : (t154.toList == ([42] : List UInt8)) = true := beq_iff_eq.mpr c17
            have c17b1 : (t154.toList != ([42] : List UInt8)) = false := bne_eq_false_iff_eq.mpr c17
            clear c17
            (first | rw [c17b0] | (simp only [i64_w, i32_w]; rw [c17b0]) | skip)
            have H' := AsZ.mk H
            clear H
            go_wp2
            go_meet
            case rel => exact ⟨_, (false), (false), (0), (0), (0), (false), (0), (0), (by first | rfl | (simp; done) | (simp [*]; done)), H', ⟨by have := HJ3.out; first | omega | exact Nat.le_refl _⟩, ⟨by (with_reducible repeat first | apply bDn | apply bDr | apply bAl); exact BK149.out⟩, ⟨by (with_reducible repeat first | apply bDn | apply bDr | apply bAl); exact BK150.out⟩, ⟨by repeat (first | (with_reducible first | exact HB.out | apply aBl | apply pBd | apply dBl | refine sBl ?_ GE149.out | refine sBl ?_ GE150.out) | exact HB.out)⟩⟩
          · rw [if_neg c17] at H
            have c17b0 : (t154.toList == ([42] : List UInt8)) = false := beq_eq_false_iff_ne.mpr c17
            have c17b1 : (t154.toList != ([42] : List UInt8)) = true := bne_iff_ne.mpr c17
            (first | rw [c17b0] | (simp only [i64_w, i32_w]; rw [c17b0]) | skip)
            replace H := Option.bind_eq_some_iff.mp H
            obtain ⟨⟨t158, t159, t160⟩, A180, H⟩ := H
            replace H : ((r1Pars.f kj3 t158).bind fun bt161 => ((r1Pars.f kj3 t159).bind fun bt163 => (if t160 = true then (if bt161.2 = 3 then (some (false, 0, 0, 0, 3)) else (if bt163.2 = 3 then (some (false, 0, 0, 0, 3)) else (if bt161.2 = 0 then (r4Cont.j1 kj3 t155 (bt163.2 != 0) true bt161.1 (wrap64 (bt163.1 + 1)) (-1)) else (r4Cont.j1 kj3 t155 true true bt161.1 (wrap64 (bt163.1 + 1)) (-1))))) else (some (false, 0, 0, 0, 3))))) = some (r1, r2, r3, r4, r5) := H
            have A18 := AsZ.mk A180
            clear A180
            replace H := Option.bind_eq_some_iff.mp H
            obtain ⟨⟨t161, t162⟩, A190, H⟩ := H
            replace H : ((r1Pars.f kj3 t159).bind fun bt163 => (if t160 = true then (if t162 = 3 then (some (false, 0, 0, 0, 3)) else (if bt163.2 = 3 then (some (false, 0, 0, 0, 3)) else (if t162 = 0 then (r4Cont.j1 kj3 t155 (bt163.2 != 0) true t161 (wrap64 (bt163.1 + 1)) (-1)) else (r4Cont.j1 kj3 t155 true true t161 (wrap64 (bt163.1 + 1)) (-1))))) else (some (false, 0, 0, 0, 3)))) = some (r1, r2, r3, r4, r5) := H
            have A19 := AsZ.mk A190
            clear A190
            replace H := Option.bind_eq_some_iff.mp H
            obtain ⟨⟨t163, t164⟩, A200, H⟩ := H
            replace H : (if t160 = true then (if t162 = 3 then (some (false, 0, 0, 0, 3)) else (if t164 = 3 then (some (false, 0, 0, 0, 3)) else (if t162 = 0 then (r4Cont.j1 kj3 t155 (t164 != 0) true t161 (wrap64 (t163 + 1)) (-1)) else (r4Cont.j1 kj3 t155 true true t161 (wrap64 (t163 + 1)) (-1))))) else (some (false, 0, 0, 0, 3))) = some (r1, r2, r3, r4, r5) := H
            have A20 := AsZ.mk A200
            clear A200
            by_cases c21 : t160 = true
            · subst c21
              have H1 : (if t162 = 3 then (some (false, 0, 0, 0, 3)) else (if t164 = 3 then (some (false, 0, 0, 0, 3)) else (if t162 = 0 then (r4Cont.j1 kj3 t155 (t164 != 0) true t161 (wrap64 (t163 + 1)) (-1)) else (r4Cont.j1 kj3 t155 true true t161 (wrap64 (t163 + 1)) (-1))))) = some (r1, r2, r3, r4, r5) := by rw [if_pos rfl] at H; exact H
              clear H
              have H := H1
              clear H1
              by_cases c22 : t162 = 3
              · rw [if_pos c22] at H
                have c22b0 : (t162 == 3) = true := beq_iff_eq.mpr c22
                have c22b1 : (t162 != 3) = false := bne_eq_false_iff_eq.mpr c22
                clear c22
                simp only [Option.some.injEq, Prod.mk.injEq] at H
                obtain ⟨rfl, rfl, rfl, rfl, rfl⟩ := H
                go_wp2_with (first | ((with_reducible refine gCa (f := 24) rfl ?_); refine gLl (some 50) rfl rfl Try.func24 (by kernel_rfl) rfl #[.string t154, .int .u8 45] rfl (by (try simp only [List.map_toArray, List.map_cons, List.map_nil]); first | done | rfl | (simp only [List.length_drop, List.length_take]; rfl)) ?_; (with_reducible refine (r1Cut.calls kj3 t154 45 t158 t159 true _ A18.out).mono ?_); rintro e w' ⟨rfl, ⟨nd, rfl⟩⟩; refine ⟨_, rfl, ?_⟩; (try (rw [drewN_self wc]; generalize hq_ : World.drewN wc _ = wc; have n0_ : AsZ (wc.heap[gb149]? = some (.cells #[.bool false, .int .i64 0, .int .i64 0, .int .i64 0] 40 (0, 0))) := ⟨by rw [← hq_]; exact (by (with_reducible repeat first | apply bDn | apply bDr | apply bAl); exact BK149.out)⟩; have n1_ : AsZ (wc.heap[gb150]? = some (.cells #[.bool false, .int .i64 0, .int .i64 0, .int .i64 (-1)] 40 (0, 0))) := ⟨by rw [← hq_]; exact (by (with_reducible repeat first | apply bDn | apply bDr | apply bAl); exact BK150.out)⟩; have n2_ : AsZ (Below w.heap.size w wc) := ⟨by rw [← hq_]; exact (by repeat (first | (with_reducible first | exact HB.out | apply aBl | apply pBd | apply dBl | refine sBl ?_ GE149.out | refine sBl ?_ GE150.out) | exact HB.out))⟩; clear BK149 BK150 HB hq_; have BK149 := n0_; have BK150 := n1_; have HB := n2_; clear n0_ n1_ n2_))) | ((with_reducible refine gCa (f := 26) rfl ?_); refine gLl (some 56) rfl rfl Try.func26 (by kernel_rfl) rfl #[.string t158] rfl (by (try simp only [List.map_toArray, List.map_cons, List.map_nil]); first | done | rfl | (simp only [List.length_drop, List.length_take]; rfl)) ?_; (with_reducible refine (r1Pars.calls kj3 t158 t161 t162 _ A19.out).mono ?_); rintro e w' ⟨rfl, ⟨nd, rfl⟩⟩; refine ⟨_, rfl, ?_⟩; (try (rw [drewN_self wc]; generalize hq_ : World.drewN wc _ = wc; have n0_ : AsZ (wc.heap[gb149]? = some (.cells #[.bool false, .int .i64 0, .int .i64 0, .int .i64 0] 40 (0, 0))) := ⟨by rw [← hq_]; exact (by (with_reducible repeat first | apply bDn | apply bDr | apply bAl); exact BK149.out)⟩; have n1_ : AsZ (wc.heap[gb150]? = some (.cells #[.bool false, .int .i64 0, .int .i64 0, .int .i64 (-1)] 40 (0, 0))) := ⟨by rw [← hq_]; exact (by (with_reducible repeat first | apply bDn | apply bDr | apply bAl); exact BK150.out)⟩; have n2_ : AsZ (Below w.heap.size w wc) := ⟨by rw [← hq_]; exact (by repeat (first | (with_reducible first | exact HB.out | apply aBl | apply pBd | apply dBl | refine sBl ?_ GE149.out | refine sBl ?_ GE150.out) | exact HB.out))⟩; clear BK149 BK150 HB hq_; have BK149 := n0_; have BK150 := n1_; have HB := n2_; clear n0_ n1_ n2_))) | ((with_reducible refine gCa (f := 26) rfl ?_); refine gLl (some 61) rfl rfl Try.func26 (by kernel_rfl) rfl #[.string t159] rfl (by (try simp only [List.map_toArray, List.map_cons, List.map_nil]); first | done | rfl | (simp only [List.length_drop, List.length_take]; rfl)) ?_; (with_reducible refine (r1Pars.calls kj3 t159 t163 t164 _ A20.out).mono ?_); rintro e w' ⟨rfl, ⟨nd, rfl⟩⟩; refine ⟨_, rfl, ?_⟩; (try (rw [drewN_self wc]; generalize hq_ : World.drewN wc _ = wc; have n0_ : AsZ (wc.heap[gb149]? = some (.cells #[.bool false, .int .i64 0, .int .i64 0, .int .i64 0] 40 (0, 0))) := ⟨by rw [← hq_]; exact (by (with_reducible repeat first | apply bDn | apply bDr | apply bAl); exact BK149.out)⟩; have n1_ : AsZ (wc.heap[gb150]? = some (.cells #[.bool false, .int .i64 0, .int .i64 0, .int .i64 (-1)] 40 (0, 0))) := ⟨by rw [← hq_]; exact (by (with_reducible repeat first | apply bDn | apply bDr | apply bAl); exact BK150.out)⟩; have n2_ : AsZ (Below w.heap.size w wc) := ⟨by rw [← hq_]; exact (by repeat (first | (with_reducible first | exact HB.out | apply aBl | apply pBd | apply dBl | refine sBl ?_ GE149.out | refine sBl ?_ GE150.out) | exact HB.out))⟩; clear BK149 BK150 HB hq_; have BK149 := n0_; have BK150 := n1_; have HB := n2_; clear n0_ n1_ n2_)); have hnb23 := NB149_150.out; have hnc23 := NB150_149.out; obtain ⟨hcz24_0, hcz24_1, hcz24_2, hcz24_3⟩ := celN4 BK149.out; obtain ⟨hfz24_0, hfz24_1, hfz24_2, hfz24_3⟩ := fzN4 BK149.out))
                refine bodyPost_ret (results_ct rfl _ _ gb149 40 #[.bool false, .int .i64 0, .int .i64 0, .int .i64 0] (0, 0) _ rfl (by (with_reducible repeat first | apply bDn | apply bDr | apply bAl); refine bPu (cs := #[.bool false, .int .i64 0, .int .i64 0, .int .i64 0]) ?_ 3 _ rfl; (with_reducible repeat first | apply bDn | apply bDr | apply bAl); refine bPu (cs := #[.bool false, .int .i64 0, .int .i64 0, .int .i64 0]) ?_ 2 _ rfl; (with_reducible repeat first | apply bDn | apply bDr | apply bAl); refine bPu (cs := #[.bool false, .int .i64 0, .int .i64 0, .int .i64 0]) ?_ 1 _ rfl; (with_reducible repeat first | apply bDn | apply bDr | apply bAl); refine bPu (cs := #[.bool false, .int .i64 0, .int .i64 0, .int .i64 0]) ?_ 0 _ rfl; (with_reducible repeat first | apply bDn | apply bDr | apply bAl); exact BK149.out) Try.underlying40 rfl (by kernel_rfl)) rfl ?_
                exact ⟨by first | rfl | exact nEm _ | exact eEm _ | (simp [eWn, eWs] <;> rfl) | (simp [*, eWn, eWs] <;> rfl), by repeat (first | (with_reducible first | exact HB.out | apply aBl | apply pBd | apply dBl | refine sBl ?_ GE149.out | refine sBl ?_ GE150.out) | exact HB.out)⟩
              · rw [if_neg c22] at H
                have c22b0 : (t162 == 3) = false := beq_eq_false_iff_ne.mpr c22
                have c22b1 : (t162 != 3) = true := bne_iff_ne.mpr c22
                by_cases c25 : t164 = 3
                · rw [if_pos c25] at H
                  have c25b0 : (t164 == 3) = true := beq_iff_eq.mpr c25
                  have c25b1 : (t164 != 3) = false := bne_eq_false_iff_eq.mpr c25
                  clear c25
                  simp only [Option.some.injEq, Prod.mk.injEq] at H
                  obtain ⟨rfl, rfl, rfl, rfl, rfl⟩ := H
                  go_wp2_with (first | ((with_reducible refine gCa (f := 24) rfl ?_); refine gLl (some 50) rfl rfl Try.func24 (by kernel_rfl) rfl #[.string t154, .int .u8 45] rfl (by (try simp only [List.map_toArray, List.map_cons, List.map_nil]); first | done | rfl | (simp only [List.length_drop, List.length_take]; rfl)) ?_; (with_reducible refine (r1Cut.calls kj3 t154 45 t158 t159 true _ A18.out).mono ?_); rintro e w' ⟨rfl, ⟨nd, rfl⟩⟩; refine ⟨_, rfl, ?_⟩; (try (rw [drewN_self wc]; generalize hq_ : World.drewN wc _ = wc; have n0_ : AsZ (wc.heap[gb149]? = some (.cells #[.bool false, .int .i64 0, .int .i64 0, .int .i64 0] 40 (0, 0))) := ⟨by rw [← hq_]; exact (by (with_reducible repeat first | apply bDn | apply bDr | apply bAl); exact BK149.out)⟩; have n1_ : AsZ (wc.heap[gb150]? = some (.cells #[.bool false, .int .i64 0, .int .i64 0, .int .i64 (-1)] 40 (0, 0))) := ⟨by rw [← hq_]; exact (by (with_reducible repeat first | apply bDn | apply bDr | apply bAl); exact BK150.out)⟩; have n2_ : AsZ (Below w.heap.size w wc) := ⟨by rw [← hq_]; exact (by repeat (first | (with_reducible first | exact HB.out | apply aBl | apply pBd | apply dBl | refine sBl ?_ GE149.out | refine sBl ?_ GE150.out) | exact HB.out))⟩; clear BK149 BK150 HB hq_; have BK149 := n0_; have BK150 := n1_; have HB := n2_; clear n0_ n1_ n2_))) | ((with_reducible refine gCa (f := 26) rfl ?_); refine gLl (some 56) rfl rfl Try.func26 (by kernel_rfl) rfl #[.string t158] rfl (by (try simp only [List.map_toArray, List.map_cons, List.map_nil]); first | done | rfl | (simp only [List.length_drop, List.length_take]; rfl)) ?_; (with_reducible refine (r1Pars.calls kj3 t158 t161 t162 _ A19.out).mono ?_); rintro e w' ⟨rfl, ⟨nd, rfl⟩⟩; refine ⟨_, rfl, ?_⟩; (try (rw [drewN_self wc]; generalize hq_ : World.drewN wc _ = wc; have n0_ : AsZ (wc.heap[gb149]? = some (.cells #[.bool false, .int .i64 0, .int .i64 0, .int .i64 0] 40 (0, 0))) := ⟨by rw [← hq_]; exact (by (with_reducible repeat first | apply bDn | apply bDr | apply bAl); exact BK149.out)⟩; have n1_ : AsZ (wc.heap[gb150]? = some (.cells #[.bool false, .int .i64 0, .int .i64 0, .int .i64 (-1)] 40 (0, 0))) := ⟨by rw [← hq_]; exact (by (with_reducible repeat first | apply bDn | apply bDr | apply bAl); exact BK150.out)⟩; have n2_ : AsZ (Below w.heap.size w wc) := ⟨by rw [← hq_]; exact (by repeat (first | (with_reducible first | exact HB.out | apply aBl | apply pBd | apply dBl | refine sBl ?_ GE149.out | refine sBl ?_ GE150.out) | exact HB.out))⟩; clear BK149 BK150 HB hq_; have BK149 := n0_; have BK150 := n1_; have HB := n2_; clear n0_ n1_ n2_))) | ((with_reducible refine gCa (f := 26) rfl ?_); refine gLl (some 61) rfl rfl Try.func26 (by kernel_rfl) rfl #[.string t159] rfl (by (try simp only [List.map_toArray, List.map_cons, List.map_nil]); first | done | rfl | (simp only [List.length_drop, List.length_take]; rfl)) ?_; (with_reducible refine (r1Pars.calls kj3 t159 t163 t164 _ A20.out).mono ?_); rintro e w' ⟨rfl, ⟨nd, rfl⟩⟩; refine ⟨_, rfl, ?_⟩; (try (rw [drewN_self wc]; generalize hq_ : World.drewN wc _ = wc; have n0_ : AsZ (wc.heap[gb149]? = some (.cells #[.bool false, .int .i64 0, .int .i64 0, .int .i64 0] 40 (0, 0))) := ⟨by rw [← hq_]; exact (by (with_reducible repeat first | apply bDn | apply bDr | apply bAl); exact BK149.out)⟩; have n1_ : AsZ (wc.heap[gb150]? = some (.cells #[.bool false, .int .i64 0, .int .i64 0, .int .i64 (-1)] 40 (0, 0))) := ⟨by rw [← hq_]; exact (by (with_reducible repeat first | apply bDn | apply bDr | apply bAl); exact BK150.out)⟩; have n2_ : AsZ (Below w.heap.size w wc) := ⟨by rw [← hq_]; exact (by repeat (first | (with_reducible first | exact HB.out | apply aBl | apply pBd | apply dBl | refine sBl ?_ GE149.out | refine sBl ?_ GE150.out) | exact HB.out))⟩; clear BK149 BK150 HB hq_; have BK149 := n0_; have BK150 := n1_; have HB := n2_; clear n0_ n1_ n2_)); have hnb26 := NB149_150.out; have hnc26 := NB150_149.out; obtain ⟨hcz27_0, hcz27_1, hcz27_2, hcz27_3⟩ := celN4 BK149.out; obtain ⟨hfz27_0, hfz27_1, hfz27_2, hfz27_3⟩ := fzN4 BK149.out))
                  refine bodyPost_ret (results_ct rfl _ _ gb149 40 #[.bool false, .int .i64 0, .int .i64 0, .int .i64 0] (0, 0) _ rfl (by (with_reducible repeat first | apply bDn | apply bDr | apply bAl); refine bPu (cs := #[.bool false, .int .i64 0, .int .i64 0, .int .i64 0]) ?_ 3 _ rfl; (with_reducible repeat first | apply bDn | apply bDr | apply bAl); refine bPu (cs := #[.bool false, .int .i64 0, .int .i64 0, .int .i64 0]) ?_ 2 _ rfl; (with_reducible repeat first | apply bDn | apply bDr | apply bAl); refine bPu (cs := #[.bool false, .int .i64 0, .int .i64 0, .int .i64 0]) ?_ 1 _ rfl; (with_reducible repeat first | apply bDn | apply bDr | apply bAl); refine bPu (cs := #[.bool false, .int .i64 0, .int .i64 0, .int .i64 0]) ?_ 0 _ rfl; (with_reducible repeat first | apply bDn | apply bDr | apply bAl); exact BK149.out) Try.underlying40 rfl (by kernel_rfl)) rfl ?_
                  exact ⟨by first | rfl | exact nEm _ | exact eEm _ | (simp [eWn, eWs] <;> rfl) | (simp [*, eWn, eWs] <;> rfl), by repeat (first | (with_reducible first | exact HB.out | apply aBl | apply pBd | apply dBl | refine sBl ?_ GE149.out | refine sBl ?_ GE150.out) | exact HB.out)⟩
                · rw [if_neg c25] at H
                  have c25b0 : (t164 == 3) = false := beq_eq_false_iff_ne.mpr c25
                  have c25b1 : (t164 != 3) = true := bne_iff_ne.mpr c25
                  by_cases c28 : t162 = 0
                  · rw [if_pos c28] at H
                    have c28b0 : (t162 == 0) = true := beq_iff_eq.mpr c28
                    have c28b1 : (t162 != 0) = false := bne_eq_false_iff_eq.mpr c28
                    clear c28
                    have H' := AsZ.mk H
                    clear H
                    go_wp2_with (first | ((with_reducible refine gCa (f := 24) rfl ?_); refine gLl (some 50) rfl rfl Try.func24 (by kernel_rfl) rfl #[.string t154, .int .u8 45] rfl (by (try simp only [List.map_toArray, List.map_cons, List.map_nil]); first | done | rfl | (simp only [List.length_drop, List.length_take]; rfl)) ?_; (with_reducible refine (r1Cut.calls kj3 t154 45 t158 t159 true _ A18.out).mono ?_); rintro e w' ⟨rfl, ⟨nd, rfl⟩⟩; refine ⟨_, rfl, ?_⟩; (try (rw [drewN_self wc]; generalize hq_ : World.drewN wc _ = wc; have n0_ : AsZ (wc.heap[gb149]? = some (.cells #[.bool false, .int .i64 0, .int .i64 0, .int .i64 0] 40 (0, 0))) := ⟨by rw [← hq_]; exact (by (with_reducible repeat first | apply bDn | apply bDr | apply bAl); exact BK149.out)⟩; have n1_ : AsZ (wc.heap[gb150]? = some (.cells #[.bool false, .int .i64 0, .int .i64 0, .int .i64 (-1)] 40 (0, 0))) := ⟨by rw [← hq_]; exact (by (with_reducible repeat first | apply bDn | apply bDr | apply bAl); exact BK150.out)⟩; have n2_ : AsZ (Below w.heap.size w wc) := ⟨by rw [← hq_]; exact (by repeat (first | (with_reducible first | exact HB.out | apply aBl | apply pBd | apply dBl | refine sBl ?_ GE149.out | refine sBl ?_ GE150.out) | exact HB.out))⟩; clear BK149 BK150 HB hq_; have BK149 := n0_; have BK150 := n1_; have HB := n2_; clear n0_ n1_ n2_))) | ((with_reducible refine gCa (f := 26) rfl ?_); refine gLl (some 56) rfl rfl Try.func26 (by kernel_rfl) rfl #[.string t158] rfl (by (try simp only [List.map_toArray, List.map_cons, List.map_nil]); first | done | rfl | (simp only [List.length_drop, List.length_take]; rfl)) ?_; (with_reducible refine (r1Pars.calls kj3 t158 t161 t162 _ A19.out).mono ?_); rintro e w' ⟨rfl, ⟨nd, rfl⟩⟩; refine ⟨_, rfl, ?_⟩; (try (rw [drewN_self wc]; generalize hq_ : World.drewN wc _ = wc; have n0_ : AsZ (wc.heap[gb149]? = some (.cells #[.bool false, .int .i64 0, .int .i64 0, .int .i64 0] 40 (0, 0))) := ⟨by rw [← hq_]; exact (by (with_reducible repeat first | apply bDn | apply bDr | apply bAl); exact BK149.out)⟩; have n1_ : AsZ (wc.heap[gb150]? = some (.cells #[.bool false, .int .i64 0, .int .i64 0, .int .i64 (-1)] 40 (0, 0))) := ⟨by rw [← hq_]; exact (by (with_reducible repeat first | apply bDn | apply bDr | apply bAl); exact BK150.out)⟩; have n2_ : AsZ (Below w.heap.size w wc) := ⟨by rw [← hq_]; exact (by repeat (first | (with_reducible first | exact HB.out | apply aBl | apply pBd | apply dBl | refine sBl ?_ GE149.out | refine sBl ?_ GE150.out) | exact HB.out))⟩; clear BK149 BK150 HB hq_; have BK149 := n0_; have BK150 := n1_; have HB := n2_; clear n0_ n1_ n2_))) | ((with_reducible refine gCa (f := 26) rfl ?_); refine gLl (some 61) rfl rfl Try.func26 (by kernel_rfl) rfl #[.string t159] rfl (by (try simp only [List.map_toArray, List.map_cons, List.map_nil]); first | done | rfl | (simp only [List.length_drop, List.length_take]; rfl)) ?_; (with_reducible refine (r1Pars.calls kj3 t159 t163 t164 _ A20.out).mono ?_); rintro e w' ⟨rfl, ⟨nd, rfl⟩⟩; refine ⟨_, rfl, ?_⟩; (try (rw [drewN_self wc]; generalize hq_ : World.drewN wc _ = wc; have n0_ : AsZ (wc.heap[gb149]? = some (.cells #[.bool false, .int .i64 0, .int .i64 0, .int .i64 0] 40 (0, 0))) := ⟨by rw [← hq_]; exact (by (with_reducible repeat first | apply bDn | apply bDr | apply bAl); exact BK149.out)⟩; have n1_ : AsZ (wc.heap[gb150]? = some (.cells #[.bool false, .int .i64 0, .int .i64 0, .int .i64 (-1)] 40 (0, 0))) := ⟨by rw [← hq_]; exact (by (with_reducible repeat first | apply bDn | apply bDr | apply bAl); exact BK150.out)⟩; have n2_ : AsZ (Below w.heap.size w wc) := ⟨by rw [← hq_]; exact (by repeat (first | (with_reducible first | exact HB.out | apply aBl | apply pBd | apply dBl | refine sBl ?_ GE149.out | refine sBl ?_ GE150.out) | exact HB.out))⟩; clear BK149 BK150 HB hq_; have BK149 := n0_; have BK150 := n1_; have HB := n2_; clear n0_ n1_ n2_)); have hnb29 := NB150_149.out; have hnc29 := NB149_150.out; obtain ⟨hcz30_0, hcz30_1, hcz30_2, hcz30_3⟩ := celN4 BK150.out; obtain ⟨hfz30_0, hfz30_1, hfz30_2, hfz30_3⟩ := fzN4 BK150.out))
                    go_meet
                    case rel => exact ⟨_, ((t164 != 0)), (false), (0), (0), (0), (true), (t161), (wrap64 (t163 + 1)), (by first | rfl | (simp; done) | (simp [*]; done)), H', ⟨by have := HJ3.out; first | omega | exact Nat.le_refl _⟩, ⟨by (with_reducible repeat first | apply bDn | apply bDr | apply bAl); refine bFr ?_ NB149_150.out _; (with_reducible repeat first | apply bDn | apply bDr | apply bAl); refine bFr ?_ NB149_150.out _; (with_reducible repeat first | apply bDn | apply bDr | apply bAl); refine bFr ?_ NB149_150.out _; (with_reducible repeat first | apply bDn | apply bDr | apply bAl); exact BK149.out⟩, ⟨by (with_reducible repeat first | apply bDn | apply bDr | apply bAl); refine bPu (cs := #[.bool true, .int .i64 t161, .int .i64 0, .int .i64 (-1)]) ?_ 2 _ rfl; (with_reducible repeat first | apply bDn | apply bDr | apply bAl); refine bPu (cs := #[.bool true, .int .i64 0, .int .i64 0, .int .i64 (-1)]) ?_ 1 _ rfl; (with_reducible repeat first | apply bDn | apply bDr | apply bAl); refine bPu (cs := #[.bool false, .int .i64 0, .int .i64 0, .int .i64 (-1)]) ?_ 0 _ rfl; (with_reducible repeat first | apply bDn | apply bDr | apply bAl); exact BK150.out⟩, ⟨by repeat (first | (with_reducible first | exact HB.out | apply aBl | apply pBd | apply dBl | refine sBl ?_ GE149.out | refine sBl ?_ GE150.out) | exact HB.out)⟩⟩
                  · rw [if_neg c28] at H
                    have c28b0 : (t162 == 0) = false := beq_eq_false_iff_ne.mpr c28
                    have c28b1 : (t162 != 0) = true := bne_iff_ne.mpr c28
                    have H' := AsZ.mk H
                    clear H
                    go_wp2_with (first | ((with_reducible refine gCa (f := 24) rfl ?_); refine gLl (some 50) rfl rfl Try.func24 (by kernel_rfl) rfl #[.string t154, .int .u8 45] rfl (by (try simp only [List.map_toArray, List.map_cons, List.map_nil]); first | done | rfl | (simp only [List.length_drop, List.length_take]; rfl)) ?_; (with_reducible refine (r1Cut.calls kj3 t154 45 t158 t159 true _ A18.out).mono ?_); rintro e w' ⟨rfl, ⟨nd, rfl⟩⟩; refine ⟨_, rfl, ?_⟩; (try (rw [drewN_self wc]; generalize hq_ : World.drewN wc _ = wc; have n0_ : AsZ (wc.heap[gb149]? = some (.cells #[.bool false, .int .i64 0, .int .i64 0, .int .i64 0] 40 (0, 0))) := ⟨by rw [← hq_]; exact (by (with_reducible repeat first | apply bDn | apply bDr | apply bAl); exact BK149.out)⟩; have n1_ : AsZ (wc.heap[gb150]? = some (.cells #[.bool false, .int .i64 0, .int .i64 0, .int .i64 (-1)] 40 (0, 0))) := ⟨by rw [← hq_]; exact (by (with_reducible repeat first | apply bDn | apply bDr | apply bAl); exact BK150.out)⟩; have n2_ : AsZ (Below w.heap.size w wc) := ⟨by rw [← hq_]; exact (by repeat (first | (with_reducible first | exact HB.out | apply aBl | apply pBd | apply dBl | refine sBl ?_ GE149.out | refine sBl ?_ GE150.out) | exact HB.out))⟩; clear BK149 BK150 HB hq_; have BK149 := n0_; have BK150 := n1_; have HB := n2_; clear n0_ n1_ n2_))) | ((with_reducible refine gCa (f := 26) rfl ?_); refine gLl (some 56) rfl rfl Try.func26 (by kernel_rfl) rfl #[.string t158] rfl (by (try simp only [List.map_toArray, List.map_cons, List.map_nil]); first | done | rfl | (simp only [List.length_drop, List.length_take]; rfl)) ?_; (with_reducible refine (r1Pars.calls kj3 t158 t161 t162 _ A19.out).mono ?_); rintro e w' ⟨rfl, ⟨nd, rfl⟩⟩; refine ⟨_, rfl, ?_⟩; (try (rw [drewN_self wc]; generalize hq_ : World.drewN wc _ = wc; have n0_ : AsZ (wc.heap[gb149]? = some (.cells #[.bool false, .int .i64 0, .int .i64 0, .int .i64 0] 40 (0, 0))) := ⟨by rw [← hq_]; exact (by (with_reducible repeat first | apply bDn | apply bDr | apply bAl); exact BK149.out)⟩; have n1_ : AsZ (wc.heap[gb150]? = some (.cells #[.bool false, .int .i64 0, .int .i64 0, .int .i64 (-1)] 40 (0, 0))) := ⟨by rw [← hq_]; exact (by (with_reducible repeat first | apply bDn | apply bDr | apply bAl); exact BK150.out)⟩; have n2_ : AsZ (Below w.heap.size w wc) := ⟨by rw [← hq_]; exact (by repeat (first | (with_reducible first | exact HB.out | apply aBl | apply pBd | apply dBl | refine sBl ?_ GE149.out | refine sBl ?_ GE150.out) | exact HB.out))⟩; clear BK149 BK150 HB hq_; have BK149 := n0_; have BK150 := n1_; have HB := n2_; clear n0_ n1_ n2_))) | ((with_reducible refine gCa (f := 26) rfl ?_); refine gLl (some 61) rfl rfl Try.func26 (by kernel_rfl) rfl #[.string t159] rfl (by (try simp only [List.map_toArray, List.map_cons, List.map_nil]); first | done | rfl | (simp only [List.length_drop, List.length_take]; rfl)) ?_; (with_reducible refine (r1Pars.calls kj3 t159 t163 t164 _ A20.out).mono ?_); rintro e w' ⟨rfl, ⟨nd, rfl⟩⟩; refine ⟨_, rfl, ?_⟩; (try (rw [drewN_self wc]; generalize hq_ : World.drewN wc _ = wc; have n0_ : AsZ (wc.heap[gb149]? = some (.cells #[.bool false, .int .i64 0, .int .i64 0, .int .i64 0] 40 (0, 0))) := ⟨by rw [← hq_]; exact (by (with_reducible repeat first | apply bDn | apply bDr | apply bAl); exact BK149.out)⟩; have n1_ : AsZ (wc.heap[gb150]? = some (.cells #[.bool false, .int .i64 0, .int .i64 0, .int .i64 (-1)] 40 (0, 0))) := ⟨by rw [← hq_]; exact (by (with_reducible repeat first | apply bDn | apply bDr | apply bAl); exact BK150.out)⟩; have n2_ : AsZ (Below w.heap.size w wc) := ⟨by rw [← hq_]; exact (by repeat (first | (with_reducible first | exact HB.out | apply aBl | apply pBd | apply dBl | refine sBl ?_ GE149.out | refine sBl ?_ GE150.out) | exact HB.out))⟩; clear BK149 BK150 HB hq_; have BK149 := n0_; have BK150 := n1_; have HB := n2_; clear n0_ n1_ n2_)); have hnb31 := NB150_149.out; have hnc31 := NB149_150.out; obtain ⟨hcz32_0, hcz32_1, hcz32_2, hcz32_3⟩ := celN4 BK150.out; obtain ⟨hfz32_0, hfz32_1, hfz32_2, hfz32_3⟩ := fzN4 BK150.out))
                    go_meet
                    case rel => exact ⟨_, (true), (false), (0), (0), (0), (true), (t161), (wrap64 (t163 + 1)), (by first | rfl | (simp; done) | (simp [*]; done)), H', ⟨by have := HJ3.out; first | omega | exact Nat.le_refl _⟩, ⟨by (with_reducible repeat first | apply bDn | apply bDr | apply bAl); refine bFr ?_ NB149_150.out _; (with_reducible repeat first | apply bDn | apply bDr | apply bAl); refine bFr ?_ NB149_150.out _; (with_reducible repeat first | apply bDn | apply bDr | apply bAl); refine bFr ?_ NB149_150.out _; (with_reducible repeat first | apply bDn | apply bDr | apply bAl); exact BK149.out⟩, ⟨by (with_reducible repeat first | apply bDn | apply bDr | apply bAl); refine bPu (cs := #[.bool true, .int .i64 t161, .int .i64 0, .int .i64 (-1)]) ?_ 2 _ rfl; (with_reducible repeat first | apply bDn | apply bDr | apply bAl); refine bPu (cs := #[.bool true, .int .i64 0, .int .i64 0, .int .i64 (-1)]) ?_ 1 _ rfl; (with_reducible repeat first | apply bDn | apply bDr | apply bAl); refine bPu (cs := #[.bool false, .int .i64 0, .int .i64 0, .int .i64 (-1)]) ?_ 0 _ rfl; (with_reducible repeat first | apply bDn | apply bDr | apply bAl); exact BK150.out⟩, ⟨by repeat (first | (with_reducible first | exact HB.out | apply aBl | apply pBd | apply dBl | refine sBl ?_ GE149.out | refine sBl ?_ GE150.out) | exact HB.out)⟩⟩
            · replace c21 := Bool.eq_false_iff.mpr c21
              subst c21
              have H1 : (some (false, 0, 0, 0, 3)) = some (r1, r2, r3, r4, r5) := by rw [if_neg (show ¬ (false = true) by decide)] at H; exact H
              clear H
              have H := H1
              clear H1
              simp only [Option.some.injEq, Prod.mk.injEq] at H
              obtain ⟨rfl, rfl, rfl, rfl, rfl⟩ := H
              go_wp2_with (first | ((with_reducible refine gCa (f := 24) rfl ?_); refine gLl (some 50) rfl rfl Try.func24 (by kernel_rfl) rfl #[.string t154, .int .u8 45] rfl (by (try simp only [List.map_toArray, List.map_cons, List.map_nil]); first | done | rfl | (simp only [List.length_drop, List.length_take]; rfl)) ?_; (with_reducible refine (r1Cut.calls kj3 t154 45 t158 t159 false _ A18.out).mono ?_); rintro e w' ⟨rfl, ⟨nd, rfl⟩⟩; refine ⟨_, rfl, ?_⟩; (try (rw [drewN_self wc]; generalize hq_ : World.drewN wc _ = wc; have n0_ : AsZ (wc.heap[gb149]? = some (.cells #[.bool false, .int .i64 0, .int .i64 0, .int .i64 0] 40 (0, 0))) := ⟨by rw [← hq_]; exact (by (with_reducible repeat first | apply bDn | apply bDr | apply bAl); exact BK149.out)⟩; have n1_ : AsZ (wc.heap[gb150]? = some (.cells #[.bool false, .int .i64 0, .int .i64 0, .int .i64 (-1)] 40 (0, 0))) := ⟨by rw [← hq_]; exact (by (with_reducible repeat first | apply bDn | apply bDr | apply bAl); exact BK150.out)⟩; have n2_ : AsZ (Below w.heap.size w wc) := ⟨by rw [← hq_]; exact (by repeat (first | (with_reducible first | exact HB.out | apply aBl | apply pBd | apply dBl | refine sBl ?_ GE149.out | refine sBl ?_ GE150.out) | exact HB.out))⟩; clear BK149 BK150 HB hq_; have BK149 := n0_; have BK150 := n1_; have HB := n2_; clear n0_ n1_ n2_))) | ((with_reducible refine gCa (f := 26) rfl ?_); refine gLl (some 56) rfl rfl Try.func26 (by kernel_rfl) rfl #[.string t158] rfl (by (try simp only [List.map_toArray, List.map_cons, List.map_nil]); first | done | rfl | (simp only [List.length_drop, List.length_take]; rfl)) ?_; (with_reducible refine (r1Pars.calls kj3 t158 t161 t162 _ A19.out).mono ?_); rintro e w' ⟨rfl, ⟨nd, rfl⟩⟩; refine ⟨_, rfl, ?_⟩; (try (rw [drewN_self wc]; generalize hq_ : World.drewN wc _ = wc; have n0_ : AsZ (wc.heap[gb149]? = some (.cells #[.bool false, .int .i64 0, .int .i64 0, .int .i64 0] 40 (0, 0))) := ⟨by rw [← hq_]; exact (by (with_reducible repeat first | apply bDn | apply bDr | apply bAl); exact BK149.out)⟩; have n1_ : AsZ (wc.heap[gb150]? = some (.cells #[.bool false, .int .i64 0, .int .i64 0, .int .i64 (-1)] 40 (0, 0))) := ⟨by rw [← hq_]; exact (by (with_reducible repeat first | apply bDn | apply bDr | apply bAl); exact BK150.out)⟩; have n2_ : AsZ (Below w.heap.size w wc) := ⟨by rw [← hq_]; exact (by repeat (first | (with_reducible first | exact HB.out | apply aBl | apply pBd | apply dBl | refine sBl ?_ GE149.out | refine sBl ?_ GE150.out) | exact HB.out))⟩; clear BK149 BK150 HB hq_; have BK149 := n0_; have BK150 := n1_; have HB := n2_; clear n0_ n1_ n2_))) | ((with_reducible refine gCa (f := 26) rfl ?_); refine gLl (some 61) rfl rfl Try.func26 (by kernel_rfl) rfl #[.string t159] rfl (by (try simp only [List.map_toArray, List.map_cons, List.map_nil]); first | done | rfl | (simp only [List.length_drop, List.length_take]; rfl)) ?_; (with_reducible refine (r1Pars.calls kj3 t159 t163 t164 _ A20.out).mono ?_); rintro e w' ⟨rfl, ⟨nd, rfl⟩⟩; refine ⟨_, rfl, ?_⟩; (try (rw [drewN_self wc]; generalize hq_ : World.drewN wc _ = wc; have n0_ : AsZ (wc.heap[gb149]? = some (.cells #[.bool false, .int .i64 0, .int .i64 0, .int .i64 0] 40 (0, 0))) := ⟨by rw [← hq_]; exact (by (with_reducible repeat first | apply bDn | apply bDr | apply bAl); exact BK149.out)⟩; have n1_ : AsZ (wc.heap[gb150]? = some (.cells #[.bool false, .int .i64 0, .int .i64 0, .int .i64 (-1)] 40 (0, 0))) := ⟨by rw [← hq_]; exact (by (with_reducible repeat first | apply bDn | apply bDr | apply bAl); exact BK150.out)⟩; have n2_ : AsZ (Below w.heap.size w wc) := ⟨by rw [← hq_]; exact (by repeat (first | (with_reducible first | exact HB.out | apply aBl | apply pBd | apply dBl | refine sBl ?_ GE149.out | refine sBl ?_ GE150.out) | exact HB.out))⟩; clear BK149 BK150 HB hq_; have BK149 := n0_; have BK150 := n1_; have HB := n2_; clear n0_ n1_ n2_)); have hnb33 := NB149_150.out; have hnc33 := NB150_149.out; obtain ⟨hcz34_0, hcz34_1, hcz34_2, hcz34_3⟩ := celN4 BK149.out; obtain ⟨hfz34_0, hfz34_1, hfz34_2, hfz34_3⟩ := fzN4 BK149.out))
              refine bodyPost_ret (results_ct rfl _ _ gb149 40 #[.bool false, .int .i64 0, .int .i64 0, .int .i64 0] (0, 0) _ rfl (by (with_reducible repeat first | apply bDn | apply bDr | apply bAl); refine bPu (cs := #[.bool false, .int .i64 0, .int .i64 0, .int .i64 0]) ?_ 3 _ rfl; (with_reducible repeat first | apply bDn | apply bDr | apply bAl); refine bPu (cs := #[.bool false, .int .i64 0, .int .i64 0, .int .i64 0]) ?_ 2 _ rfl; (with_reducible repeat first | apply bDn | apply bDr | apply bAl); refine bPu (cs := #[.bool false, .int .i64 0, .int .i64 0, .int .i64 0]) ?_ 1 _ rfl; (with_reducible repeat first | apply bDn | apply bDr | apply bAl); refine bPu (cs := #[.bool false, .int .i64 0, .int .i64 0, .int .i64 0]) ?_ 0 _ rfl; (with_reducible repeat first | apply bDn | apply bDr | apply bAl); exact BK149.out) Try.underlying40 rfl (by kernel_rfl)) rfl ?_
              exact ⟨by first | rfl | exact nEm _ | exact eEm _ | (simp [eWn, eWs] <;> rfl) | (simp [*, eWn, eWs] <;> rfl), by repeat (first | (with_reducible first | exact HB.out | apply aBl | apply pBd | apply dBl | refine sBl ?_ GE149.out | refine sBl ?_ GE150.out) | exact HB.out)⟩
        case rest =>
          clear HC16
          try clear c1
          try clear c2
          try clear p2
          try clear c3
          try clear p6
          try clear c7
          try clear c9
          try clear c10
          try clear c13
          try clear c14
          try clear c17
          try clear c17b0
          try clear c17b1
          try clear c21
          try clear c22
          try clear c22b0
          try clear c22b1
          try clear c23
          try clear c24
          try clear c25
          try clear c25b0
          try clear c25b1
          try clear c26
          try clear c28
          try clear c28b0
          try clear c28b1
          try clear c29
          try clear c31
          try clear c33
          try clear hcz15_0
          try clear hcz15_1
          try clear hcz15_2
          try clear hcz15_3
          try clear hcz24_0
          try clear hcz24_1
          try clear hcz24_2
          try clear hcz24_3
          try clear hcz27_0
          try clear hcz27_1
          try clear hcz27_2
          try clear hcz27_3
          try clear hcz30_0
          try clear hcz30_1
          try clear hcz30_2
          try clear hcz30_3
          try clear hcz32_0
          try clear hcz32_1
          try clear hcz32_2
          try clear hcz32_3
          try clear hcz34_0
          try clear hcz34_1
          try clear hcz34_2
          try clear hcz34_3
          try clear hcz8_0
          try clear hcz8_1
          try clear hcz8_2
          try clear hcz8_3
          try clear hfz15_0
          try clear hfz15_1
          try clear hfz15_2
          try clear hfz15_3
          try clear hfz24_0
          try clear hfz24_1
          try clear hfz24_2
          try clear hfz24_3
          try clear hfz27_0
          try clear hfz27_1
          try clear hfz27_2
          try clear hfz27_3
          try clear hfz30_0
          try clear hfz30_1
          try clear hfz30_2
          try clear hfz30_3
          try clear hfz32_0
          try clear hfz32_1
          try clear hfz32_2
          try clear hfz32_3
          try clear hfz34_0
          try clear hfz34_1
          try clear hfz34_2
          try clear hfz34_3
          try clear hfz8_0
          try clear hfz8_1
          try clear hfz8_2
          try clear hfz8_3
          try clear p2
          obtain ⟨kq, x11_15, x150000_15, x150001_15, x150002_15, x150003_15, x151000_15, x151001_15, x151002_15, rfl, HA, HJ15, BK149, BK150, HB⟩ := hcut
          cases kq with
          | zero => exact absurd HA.out (by simp [r4Cont.j1])
          | succ kj15 =>
            have H := HA.out
            clear HA
            simp only [r4Cont.j1] at H
            have HC35 := AsZ.mk H
            clear H
            go_upto_if 88 with (fail)
            go_cut [11] (fun v11 wc => ∃ (kq : Nat) (x11_34 : Bool) (x150000_34 : Bool) (x150001_34 : Int) (x150002_34 : Int) (x150003_34 : Int) (x151003_34 : Int), v11 = .bool x11_34 ∧ AsZ (r4Cont.j2 kq x11_34 x151000_15 x151001_15 x151002_15 x151003_34 = some (r1, r2, r3, r4, r5)) ∧ AsZ (kq ≤ kj15) ∧ AsZ (wc.heap[gb149]? = some (.cells #[.bool x150000_34, .int .i64 x150001_34, .int .i64 x150002_34, .int .i64 x150003_34] 40 (0, 0))) ∧ AsZ (wc.heap[gb150]? = some (.cells #[.bool x151000_15, .int .i64 x151001_15, .int .i64 x151002_15, .int .i64 x151003_34] 40 (0, 0))) ∧ AsZ (Below w.heap.size w wc))
            case first =>
              have H := HC35.out
              clear HC35
              by_cases c36 : t155.toList = ([42] : List UInt8)
              · rw [if_pos c36] at H
                have c36b0 : (t155.toList == ([42] : List UInt8)) = true := beq_iff_eq.mpr c36
                have c36b1 : (t155.toList != ([42] : List UInt8)) = false := bne_eq_false_iff_eq.mpr c36
                clear c36
                (first | rw [c36b0] | (simp only [i64_w, i32_w]; rw [c36b0]) | skip)
                have H' := AsZ.mk H
                clear H
                go_wp2
                go_meet
                case rel => exact ⟨_, (x11_15), (x150000_15), (x150001_15), (x150002_15), (x150003_15), ((-1)), (by first | rfl | (simp; done) | (simp [*]; done)), H', ⟨by have := HJ3.out; have := HJ15.out; first | omega | exact Nat.le_refl _⟩, ⟨by (with_reducible repeat first | apply bDn | apply bDr | apply bAl); exact BK149.out⟩, ⟨by (with_reducible repeat first | apply bDn | apply bDr | apply bAl); exact BK150.out⟩, ⟨by repeat (first | (with_reducible first | exact HB.out | apply aBl | apply pBd | apply dBl | refine sBl ?_ GE149.out | refine sBl ?_ GE150.out) | exact HB.out)⟩⟩
              · rw [if_neg c36] at H
                have c36b0 : (t155.toList == ([42] : List UInt8)) = false := beq_eq_false_iff_ne.mpr c36
                have c36b1 : (t155.toList != ([42] : List UInt8)) = true := bne_iff_ne.mpr c36
                (first | rw [c36b0] | (simp only [i64_w, i32_w]; rw [c36b0]) | skip)
                replace H := Option.bind_eq_some_iff.mp H
                obtain ⟨⟨t165, t166⟩, A370, H⟩ := H
                replace H : (if t166 = 3 then (some (false, 0, 0, 0, 3)) else (if x11_15 = true then (r4Cont.j2 kj15 true x151000_15 x151001_15 x151002_15 t165) else (r4Cont.j2 kj15 (t166 != 0) x151000_15 x151001_15 x151002_15 t165))) = some (r1, r2, r3, r4, r5) := H
                have A37 := AsZ.mk A370
                clear A370
                by_cases c38 : t166 = 3
                · rw [if_pos c38] at H
                  have c38b0 : (t166 == 3) = true := beq_iff_eq.mpr c38
                  have c38b1 : (t166 != 3) = false := bne_eq_false_iff_eq.mpr c38
                  clear c38
                  simp only [Option.some.injEq, Prod.mk.injEq] at H
                  obtain ⟨rfl, rfl, rfl, rfl, rfl⟩ := H
                  go_wp2_with (first | ((with_reducible refine gCa (f := 26) rfl ?_); refine gLl (some 91) rfl rfl Try.func26 (by kernel_rfl) rfl #[.string t155] rfl (by (try simp only [List.map_toArray, List.map_cons, List.map_nil]); first | done | rfl | (simp only [List.length_drop, List.length_take]; rfl)) ?_; (with_reducible refine (r1Pars.calls kj15 t155 t165 t166 _ A37.out).mono ?_); rintro e w' ⟨rfl, ⟨nd, rfl⟩⟩; refine ⟨_, rfl, ?_⟩; (try (rw [drewN_self wc]; generalize hq_ : World.drewN wc _ = wc; have n0_ : AsZ (wc.heap[gb149]? = some (.cells #[.bool x150000_15, .int .i64 x150001_15, .int .i64 x150002_15, .int .i64 x150003_15] 40 (0, 0))) := ⟨by rw [← hq_]; exact (by (with_reducible repeat first | apply bDn | apply bDr | apply bAl); exact BK149.out)⟩; have n1_ : AsZ (wc.heap[gb150]? = some (.cells #[.bool x151000_15, .int .i64 x151001_15, .int .i64 x151002_15, .int .i64 (-1)] 40 (0, 0))) := ⟨by rw [← hq_]; exact (by (with_reducible repeat first | apply bDn | apply bDr | apply bAl); exact BK150.out)⟩; have n2_ : AsZ (Below w.heap.size w wc) := ⟨by rw [← hq_]; exact (by repeat (first | (with_reducible first | exact HB.out | apply aBl | apply pBd | apply dBl | refine sBl ?_ GE149.out | refine sBl ?_ GE150.out) | exact HB.out))⟩; clear BK149 BK150 HB hq_; have BK149 := n0_; have BK150 := n1_; have HB := n2_; clear n0_ n1_ n2_)); have hnb39 := NB149_150.out; have hnc39 := NB150_149.out; obtain ⟨hcz40_0, hcz40_1, hcz40_2, hcz40_3⟩ := celN4 BK149.out; obtain ⟨hfz40_0, hfz40_1, hfz40_2, hfz40_3⟩ := fzN4 BK149.out))
                  refine bodyPost_ret (results_ct rfl _ _ gb149 40 #[.bool false, .int .i64 0, .int .i64 0, .int .i64 0] (0, 0) _ rfl (by (with_reducible repeat first | apply bDn | apply bDr | apply bAl); refine bPu (cs := #[.bool false, .int .i64 0, .int .i64 0, .int .i64 x150003_15]) ?_ 3 _ rfl; (with_reducible repeat first | apply bDn | apply bDr | apply bAl); refine bPu (cs := #[.bool false, .int .i64 0, .int .i64 x150002_15, .int .i64 x150003_15]) ?_ 2 _ rfl; (with_reducible repeat first | apply bDn | apply bDr | apply bAl); refine bPu (cs := #[.bool false, .int .i64 x150001_15, .int .i64 x150002_15, .int .i64 x150003_15]) ?_ 1 _ rfl; (with_reducible repeat first | apply bDn | apply bDr | apply bAl); refine bPu (cs := #[.bool x150000_15, .int .i64 x150001_15, .int .i64 x150002_15, .int .i64 x150003_15]) ?_ 0 _ rfl; (with_reducible repeat first | apply bDn | apply bDr | apply bAl); exact BK149.out) Try.underlying40 rfl (by kernel_rfl)) rfl ?_
                  exact ⟨by first | rfl | exact nEm _ | exact eEm _ | (simp [eWn, eWs] <;> rfl) | (simp [*, eWn, eWs] <;> rfl), by repeat (first | (with_reducible first | exact HB.out | apply aBl | apply pBd | apply dBl | refine sBl ?_ GE149.out | refine sBl ?_ GE150.out) | exact HB.out)⟩
                · rw [if_neg c38] at H
                  have c38b0 : (t166 == 3) = false := beq_eq_false_iff_ne.mpr c38
                  have c38b1 : (t166 != 3) = true := bne_iff_ne.mpr c38
                  by_cases c41 : x11_15 = true
                  · subst c41
                    have H1 : (r4Cont.j2 kj15 true x151000_15 x151001_15 x151002_15 t165) = some (r1, r2, r3, r4, r5) := by rw [if_pos rfl] at H; exact H
                    clear H
                    have H := H1
                    clear H1
                    have H' := AsZ.mk H
                    clear H
                    go_wp2_with (first | ((with_reducible refine gCa (f := 26) rfl ?_); refine gLl (some 91) rfl rfl Try.func26 (by kernel_rfl) rfl #[.string t155] rfl (by (try simp only [List.map_toArray, List.map_cons, List.map_nil]); first | done | rfl | (simp only [List.length_drop, List.length_take]; rfl)) ?_; (with_reducible refine (r1Pars.calls kj15 t155 t165 t166 _ A37.out).mono ?_); rintro e w' ⟨rfl, ⟨nd, rfl⟩⟩; refine ⟨_, rfl, ?_⟩; (try (rw [drewN_self wc]; generalize hq_ : World.drewN wc _ = wc; have n0_ : AsZ (wc.heap[gb149]? = some (.cells #[.bool x150000_15, .int .i64 x150001_15, .int .i64 x150002_15, .int .i64 x150003_15] 40 (0, 0))) := ⟨by rw [← hq_]; exact (by (with_reducible repeat first | apply bDn | apply bDr | apply bAl); exact BK149.out)⟩; have n1_ : AsZ (wc.heap[gb150]? = some (.cells #[.bool x151000_15, .int .i64 x151001_15, .int .i64 x151002_15, .int .i64 (-1)] 40 (0, 0))) := ⟨by rw [← hq_]; exact (by (with_reducible repeat first | apply bDn | apply bDr | apply bAl); exact BK150.out)⟩; have n2_ : AsZ (Below w.heap.size w wc) := ⟨by rw [← hq_]; exact (by repeat (first | (with_reducible first | exact HB.out | apply aBl | apply pBd | apply dBl | refine sBl ?_ GE149.out | refine sBl ?_ GE150.out) | exact HB.out))⟩; clear BK149 BK150 HB hq_; have BK149 := n0_; have BK150 := n1_; have HB := n2_; clear n0_ n1_ n2_)); have hnb42 := NB150_149.out; have hnc42 := NB149_150.out; obtain ⟨hcz43_0, hcz43_1, hcz43_2, hcz43_3⟩ := celN4 BK150.out; obtain ⟨hfz43_0, hfz43_1, hfz43_2, hfz43_3⟩ := fzN4 BK150.out))
                    go_meet
                    case rel => exact ⟨_, (true), (x150000_15), (x150001_15), (x150002_15), (x150003_15), (t165), (by first | rfl | (simp; done) | (simp [*]; done)), H', ⟨by have := HJ3.out; have := HJ15.out; first | omega | exact Nat.le_refl _⟩, ⟨by (with_reducible repeat first | apply bDn | apply bDr | apply bAl); refine bFr ?_ NB149_150.out _; (with_reducible repeat first | apply bDn | apply bDr | apply bAl); exact BK149.out⟩, ⟨by (with_reducible repeat first | apply bDn | apply bDr | apply bAl); refine bPu (cs := #[.bool x151000_15, .int .i64 x151001_15, .int .i64 x151002_15, .int .i64 (-1)]) ?_ 3 _ rfl; (with_reducible repeat first | apply bDn | apply bDr | apply bAl); exact BK150.out⟩, ⟨by repeat (first | (with_reducible first | exact HB.out | apply aBl | apply pBd | apply dBl | refine sBl ?_ GE149.out | refine sBl ?_ GE150.out) | exact HB.out)⟩⟩
                  · replace c41 := Bool.eq_false_iff.mpr c41
                    subst c41
                    have H1 : (r4Cont.j2 kj15 (t166 != 0) x151000_15 x151001_15 x151002_15 t165) = some (r1, r2, r3, r4, r5) := by rw [if_neg (show ¬ (false = true) by decide)] at H; exact H
                    clear H
                    have H := H1
                    clear H1
                    have H' := AsZ.mk H
                    clear H
                    go_wp2_with (first | ((with_reducible refine gCa (f := 26) rfl ?_); refine gLl (some 91) rfl rfl Try.func26 (by kernel_rfl) rfl #[.string t155] rfl (by (try simp only [List.map_toArray, List.map_cons, List.map_nil]); first | done | rfl | (simp only [List.length_drop, List.length_take]; rfl)) ?_; (with_reducible refine (r1Pars.calls kj15 t155 t165 t166 _ A37.out).mono ?_); rintro e w' ⟨rfl, ⟨nd, rfl⟩⟩; refine ⟨_, rfl, ?_⟩; (try (rw [drewN_self wc]; generalize hq_ : World.drewN wc _ = wc; have n0_ : AsZ (wc.heap[gb149]? = some (.cells #[.bool x150000_15, .int .i64 x150001_15, .int .i64 x150002_15, .int .i64 x150003_15] 40 (0, 0))) := ⟨by rw [← hq_]; exact (by (with_reducible repeat first | apply bDn | apply bDr | apply bAl); exact BK149.out)⟩; have n1_ : AsZ (wc.heap[gb150]? = some (.cells #[.bool x151000_15, .int .i64 x151001_15, .int .i64 x151002_15, .int .i64 (-1)] 40 (0, 0))) := ⟨by rw [← hq_]; exact (by (with_reducible repeat first | apply bDn | apply bDr | apply bAl); exact BK150.out)⟩; have n2_ : AsZ (Below w.heap.size w wc) := ⟨by rw [← hq_]; exact (by repeat (first | (with_reducible first | exact HB.out | apply aBl | apply pBd | apply dBl | refine sBl ?_ GE149.out | refine sBl ?_ GE150.out) | exact HB.out))⟩; clear BK149 BK150 HB hq_; have BK149 := n0_; have BK150 := n1_; have HB := n2_; clear n0_ n1_ n2_)); have hnb44 := NB150_149.out; have hnc44 := NB149_150.out; obtain ⟨hcz45_0, hcz45_1, hcz45_2, hcz45_3⟩ := celN4 BK150.out; obtain ⟨hfz45_0, hfz45_1, hfz45_2, hfz45_3⟩ := fzN4 BK150.out))
                    go_meet
                    case rel => exact ⟨_, ((t166 != 0)), (x150000_15), (x150001_15), (x150002_15), (x150003_15), (t165), (by first | rfl | (simp; done) | (simp [*]; done)), H', ⟨by have := HJ3.out; have := HJ15.out; first | omega | exact Nat.le_refl _⟩, ⟨by (with_reducible repeat first | apply bDn | apply bDr | apply bAl); refine bFr ?_ NB149_150.out _; (with_reducible repeat first | apply bDn | apply bDr | apply bAl); exact BK149.out⟩, ⟨by (with_reducible repeat first | apply bDn | apply bDr | apply bAl); refine bPu (cs := #[.bool x151000_15, .int .i64 x151001_15, .int .i64 x151002_15, .int .i64 (-1)]) ?_ 3 _ rfl; (with_reducible repeat first | apply bDn | apply bDr | apply bAl); exact BK150.out⟩, ⟨by repeat (first | (with_reducible first | exact HB.out | apply aBl | apply pBd | apply dBl | refine sBl ?_ GE149.out | refine sBl ?_ GE150.out) | exact HB.out)⟩⟩
            case rest =>
              clear HC35
              try clear c1
              try clear c2
              try clear p2
              try clear c3
              try clear c4
              try clear p6
              try clear c7
              try clear c9
              try clear c10
              try clear c13
              try clear c14
              try clear c17
              try clear c17b0
              try clear c17b1
              try clear c21
              try clear c22
              try clear c22b0
              try clear c22b1
              try clear c23
              try clear c24
              try clear c25
              try clear c25b0
              try clear c25b1
              try clear c26
              try clear c28
              try clear c28b0
              try clear c28b1
              try clear c29
              try clear c31
              try clear c33
              try clear c36
              try clear c36b0
              try clear c36b1
              try clear c38
              try clear c38b0
              try clear c38b1
              try clear c39
              try clear c41
              try clear c42
              try clear c44
              try clear hcz15_0
              try clear hcz15_1
              try clear hcz15_2
              try clear hcz15_3
              try clear hcz24_0
              try clear hcz24_1
              try clear hcz24_2
              try clear hcz24_3
              try clear hcz27_0
              try clear hcz27_1
              try clear hcz27_2
              try clear hcz27_3
              try clear hcz30_0
              try clear hcz30_1
              try clear hcz30_2
              try clear hcz30_3
              try clear hcz32_0
              try clear hcz32_1
              try clear hcz32_2
              try clear hcz32_3
              try clear hcz34_0
              try clear hcz34_1
              try clear hcz34_2
              try clear hcz34_3
              try clear hcz40_0
              try clear hcz40_1
              try clear hcz40_2
              try clear hcz40_3
              try clear hcz43_0
              try clear hcz43_1
              try clear hcz43_2
              try clear hcz43_3
              try clear hcz45_0
              try clear hcz45_1
              try clear hcz45_2
              try clear hcz45_3
              try clear hcz8_0
              try clear hcz8_1
              try clear hcz8_2
              try clear hcz8_3
              try clear hfz15_0
              try clear hfz15_1
              try clear hfz15_2
              try clear hfz15_3
              try clear hfz24_0
              try clear hfz24_1
              try clear hfz24_2
              try clear hfz24_3
              try clear hfz27_0
              try clear hfz27_1
              try clear hfz27_2
              try clear hfz27_3
              try clear hfz30_0
              try clear hfz30_1
              try clear hfz30_2
              try clear hfz30_3
              try clear hfz32_0
              try clear hfz32_1
              try clear hfz32_2
              try clear hfz32_3
              try clear hfz34_0
              try clear hfz34_1
              try clear hfz34_2
              try clear hfz34_3
              try clear hfz40_0
              try clear hfz40_1
              try clear hfz40_2
              try clear hfz40_3
              try clear hfz43_0
              try clear hfz43_1
              try clear hfz43_2
              try clear hfz43_3
              try clear hfz45_0
              try clear hfz45_1
              try clear hfz45_2
              try clear hfz45_3
              try clear hfz8_0
              try clear hfz8_1
              try clear hfz8_2
              try clear hfz8_3
              try clear p2
              try clear p6
              obtain ⟨kq, x11_34, x150000_34, x150001_34, x150002_34, x150003_34, x151003_34, rfl, HA, HJ34, BK149, BK150, HB⟩ := hcut
              cases kq with
              | zero => exact absurd HA.out (by simp [r4Cont.j2])
              | succ kj34 =>
                have H := HA.out
                clear HA
                simp only [r4Cont.j2] at H
                by_cases c46 : x11_34 = true
                · subst c46
                  have H1 : (some (false, 0, 0, 0, 9)) = some (r1, r2, r3, r4, r5) := by rw [if_pos rfl] at H; exact H
                  clear H
                  have H := H1
                  clear H1
                  simp only [Option.some.injEq, Prod.mk.injEq] at H
                  obtain ⟨rfl, rfl, rfl, rfl, rfl⟩ := H
                  have hnb47 := NB149_150.out
                  have hnc47 := NB150_149.out
                  obtain ⟨hcz48_0, hcz48_1, hcz48_2, hcz48_3⟩ := celN4 BK149.out
                  obtain ⟨hfz48_0, hfz48_1, hfz48_2, hfz48_3⟩ := fzN4 BK149.out
                  go_wp2
                  refine bodyPost_ret (results_ct rfl _ _ gb149 40 #[.bool false, .int .i64 0, .int .i64 0, .int .i64 0] (0, 0) _ rfl (by (with_reducible repeat first | apply bDn | apply bDr | apply bAl); refine bPu (cs := #[.bool false, .int .i64 0, .int .i64 0, .int .i64 x150003_34]) ?_ 3 _ rfl; (with_reducible repeat first | apply bDn | apply bDr | apply bAl); refine bPu (cs := #[.bool false, .int .i64 0, .int .i64 x150002_34, .int .i64 x150003_34]) ?_ 2 _ rfl; (with_reducible repeat first | apply bDn | apply bDr | apply bAl); refine bPu (cs := #[.bool false, .int .i64 x150001_34, .int .i64 x150002_34, .int .i64 x150003_34]) ?_ 1 _ rfl; (with_reducible repeat first | apply bDn | apply bDr | apply bAl); refine bPu (cs := #[.bool x150000_34, .int .i64 x150001_34, .int .i64 x150002_34, .int .i64 x150003_34]) ?_ 0 _ rfl; (with_reducible repeat first | apply bDn | apply bDr | apply bAl); exact BK149.out) Try.underlying40 rfl (by kernel_rfl)) rfl ?_
                  exact ⟨by first | rfl | exact nEm _ | exact eEm _ | (simp [eWn, eWs] <;> rfl) | (simp [*, eWn, eWs] <;> rfl), by repeat (first | (with_reducible first | exact HB.out | apply aBl | apply pBd | apply dBl | refine sBl ?_ GE149.out | refine sBl ?_ GE150.out) | exact HB.out)⟩
                · replace c46 := Bool.eq_false_iff.mpr c46
                  subst c46
                  have H1 : ((r4RC.f kj34 x151000_15 x151001_15 x151002_15 x151003_34).bind fun t167 => (if t167 = true then (some (x151000_15, x151001_15, x151002_15, x151003_34, 0)) else (some (false, 0, 0, 0, 3)))) = some (r1, r2, r3, r4, r5) := by rw [if_neg (show ¬ (false = true) by decide)] at H; exact H
                  clear H
                  have H := H1
                  clear H1
                  replace H := Option.bind_eq_some_iff.mp H
                  obtain ⟨t167, A490, H⟩ := H
                  replace H : (if t167 = true then (some (x151000_15, x151001_15, x151002_15, x151003_34, 0)) else (some (false, 0, 0, 0, 3))) = some (r1, r2, r3, r4, r5) := H
                  have A49 := AsZ.mk A490
                  clear A490
                  by_cases c50 : t167 = true
                  · subst c50
                    have H1 : (some (x151000_15, x151001_15, x151002_15, x151003_34, 0)) = some (r1, r2, r3, r4, r5) := by rw [if_pos rfl] at H; exact H
                    clear H
                    have H := H1
                    clear H1
                    simp only [Option.some.injEq, Prod.mk.injEq] at H
                    obtain ⟨rfl, rfl, rfl, rfl, rfl⟩ := H
                    have hnb51 := NB150_149.out
                    have hnc51 := NB149_150.out
                    obtain ⟨hcz52_0, hcz52_1, hcz52_2, hcz52_3⟩ := celN4 BK150.out
                    obtain ⟨hfz52_0, hfz52_1, hfz52_2, hfz52_3⟩ := fzN4 BK150.out
                    go_wp2_with (first | ((with_reducible refine gCa (f := 21) rfl ?_); refine gLl (some 107) rfl rfl Try.func21 (by kernel_rfl) rfl #[.agg #[.bool x151000_15, .int .i64 x151001_15, .int .i64 x151002_15, .int .i64 x151003_34]] rfl (by (try simp only [List.map_toArray, List.map_cons, List.map_nil]); first | done | rfl | (simp only [List.length_drop, List.length_take]; rfl)) ?_; (with_reducible refine (r4RC.calls kj34 x151000_15 x151001_15 x151002_15 x151003_34 true _ A49.out).mono ?_); rintro e w53 ⟨rfl, hb⟩; refine ⟨_, rfl, ?_⟩; have n0_ := AsZ.mk (bBl (g := gb149) (o := .cells #[.bool x150000_34, .int .i64 x150001_34, .int .i64 x150002_34, .int .i64 x150003_34] 40 (0, 0)) (by (with_reducible repeat first | apply bDn | apply bDr | apply bAl); exact BK149.out) hb); have n1_ := AsZ.mk (bBl (g := gb150) (o := .cells #[.bool x151000_15, .int .i64 x151001_15, .int .i64 x151002_15, .int .i64 x151003_34] 40 (0, 0)) (by (with_reducible repeat first | apply bDn | apply bDr | apply bAl); exact BK150.out) hb); have n2_ := AsZ.mk (tBl (by repeat (first | (with_reducible first | exact HB.out | apply aBl | apply pBd | apply dBl | refine sBl ?_ GE149.out | refine sBl ?_ GE150.out) | exact HB.out)) hb); clear BK149; clear BK150; clear HB; have BK149 := n0_; have BK150 := n1_; have HB := n2_; clear n0_ n1_ n2_; (try clear hb); (try clear hb2); (try clear hk); (try clear hi); obtain ⟨hcz54_0, hcz54_1, hcz54_2, hcz54_3⟩ := celN4 BK150.out; obtain ⟨hfz54_0, hfz54_1, hfz54_2, hfz54_3⟩ := fzN4 BK150.out; obtain ⟨hcz55_0, hcz55_1, hcz55_2, hcz55_3⟩ := celN4 BK149.out; obtain ⟨hfz55_0, hfz55_1, hfz55_2, hfz55_3⟩ := fzN4 BK149.out))
                    refine bodyPost_ret (results_ct rfl _ _ gb149 40 #[.bool x151000_15, .int .i64 x151001_15, .int .i64 x151002_15, .int .i64 x151003_34] (0, 0) _ rfl (by (with_reducible repeat first | apply bDn | apply bDr | apply bAl); refine bPu (cs := #[.bool x151000_15, .int .i64 x151001_15, .int .i64 x151002_15, .int .i64 x150003_34]) ?_ 3 _ rfl; (with_reducible repeat first | apply bDn | apply bDr | apply bAl); refine bPu (cs := #[.bool x151000_15, .int .i64 x151001_15, .int .i64 x150002_34, .int .i64 x150003_34]) ?_ 2 _ rfl; (with_reducible repeat first | apply bDn | apply bDr | apply bAl); refine bPu (cs := #[.bool x151000_15, .int .i64 x150001_34, .int .i64 x150002_34, .int .i64 x150003_34]) ?_ 1 _ rfl; (with_reducible repeat first | apply bDn | apply bDr | apply bAl); refine bPu (cs := #[.bool x150000_34, .int .i64 x150001_34, .int .i64 x150002_34, .int .i64 x150003_34]) ?_ 0 _ rfl; (with_reducible repeat first | apply bDn | apply bDr | apply bAl); exact BK149.out) Try.underlying40 rfl (by kernel_rfl)) rfl ?_
                    exact ⟨by first | rfl | exact nEm _ | exact eEm _ | (simp [eWn, eWs] <;> rfl) | (simp [*, eWn, eWs] <;> rfl), by repeat (first | (with_reducible first | exact HB.out | apply aBl | apply pBd | apply dBl | refine sBl ?_ GE149.out | refine sBl ?_ GE150.out) | exact HB.out)⟩
                  · replace c50 := Bool.eq_false_iff.mpr c50
                    subst c50
                    have H1 : (some (false, 0, 0, 0, 3)) = some (r1, r2, r3, r4, r5) := by rw [if_neg (show ¬ (false = true) by decide)] at H; exact H
                    clear H
                    have H := H1
                    clear H1
                    simp only [Option.some.injEq, Prod.mk.injEq] at H
                    obtain ⟨rfl, rfl, rfl, rfl, rfl⟩ := H
                    have hnb56 := NB150_149.out
                    have hnc56 := NB149_150.out
                    obtain ⟨hcz57_0, hcz57_1, hcz57_2, hcz57_3⟩ := celN4 BK150.out
                    obtain ⟨hfz57_0, hfz57_1, hfz57_2, hfz57_3⟩ := fzN4 BK150.out
                    go_wp2_with (first | ((with_reducible refine gCa (f := 21) rfl ?_); refine gLl (some 107) rfl rfl Try.func21 (by kernel_rfl) rfl #[.agg #[.bool x151000_15, .int .i64 x151001_15, .int .i64 x151002_15, .int .i64 x151003_34]] rfl (by (try simp only [List.map_toArray, List.map_cons, List.map_nil]); first | done | rfl | (simp only [List.length_drop, List.length_take]; rfl)) ?_; (with_reducible refine (r4RC.calls kj34 x151000_15 x151001_15 x151002_15 x151003_34 false _ A49.out).mono ?_); rintro e w58 ⟨rfl, hb⟩; refine ⟨_, rfl, ?_⟩; have n0_ := AsZ.mk (bBl (g := gb149) (o := .cells #[.bool x150000_34, .int .i64 x150001_34, .int .i64 x150002_34, .int .i64 x150003_34] 40 (0, 0)) (by (with_reducible repeat first | apply bDn | apply bDr | apply bAl); exact BK149.out) hb); have n1_ := AsZ.mk (bBl (g := gb150) (o := .cells #[.bool x151000_15, .int .i64 x151001_15, .int .i64 x151002_15, .int .i64 x151003_34] 40 (0, 0)) (by (with_reducible repeat first | apply bDn | apply bDr | apply bAl); exact BK150.out) hb); have n2_ := AsZ.mk (tBl (by repeat (first | (with_reducible first | exact HB.out | apply aBl | apply pBd | apply dBl | refine sBl ?_ GE149.out | refine sBl ?_ GE150.out) | exact HB.out)) hb); clear BK149; clear BK150; clear HB; have BK149 := n0_; have BK150 := n1_; have HB := n2_; clear n0_ n1_ n2_; (try clear hb); (try clear hb2); (try clear hk); (try clear hi); obtain ⟨hcz59_0, hcz59_1, hcz59_2, hcz59_3⟩ := celN4 BK149.out; obtain ⟨hfz59_0, hfz59_1, hfz59_2, hfz59_3⟩ := fzN4 BK149.out))
                    refine bodyPost_ret (results_ct rfl _ _ gb149 40 #[.bool false, .int .i64 0, .int .i64 0, .int .i64 0] (0, 0) _ rfl (by (with_reducible repeat first | apply bDn | apply bDr | apply bAl); refine bPu (cs := #[.bool false, .int .i64 0, .int .i64 0, .int .i64 x150003_34]) ?_ 3 _ rfl; (with_reducible repeat first | apply bDn | apply bDr | apply bAl); refine bPu (cs := #[.bool false, .int .i64 0, .int .i64 x150002_34, .int .i64 x150003_34]) ?_ 2 _ rfl; (with_reducible repeat first | apply bDn | apply bDr | apply bAl); refine bPu (cs := #[.bool false, .int .i64 x150001_34, .int .i64 x150002_34, .int .i64 x150003_34]) ?_ 1 _ rfl; (with_reducible repeat first | apply bDn | apply bDr | apply bAl); refine bPu (cs := #[.bool x150000_34, .int .i64 x150001_34, .int .i64 x150002_34, .int .i64 x150003_34]) ?_ 0 _ rfl; (with_reducible repeat first | apply bDn | apply bDr | apply bAl); exact BK149.out) Try.underlying40 rfl (by kernel_rfl)) rfl ?_
                    exact ⟨by first | rfl | exact nEm _ | exact eEm _ | (simp [eWn, eWs] <;> rfl) | (simp [*, eWn, eWs] <;> rfl), by repeat (first | (with_reducible first | exact HB.out | apply aBl | apply pBd | apply dBl | refine sBl ?_ GE149.out | refine sBl ?_ GE150.out) | exact HB.out)⟩
end Go.Proofs.Ytkmkiheoelakaaa.PAll
namespace Go.Proofs.Ytkmkiheoelakaaa.PAll
open Go.RowKit Go.Proofs.Ytkmkiheoelakaaa.Xw Go.Proofs.YtkmkiheoelakaaaW.PrintWords Go.Proofs.YtkmkiheoelakaaaW.PrintLast Go.Proofs.YtkmkiheoelakaaaW.PrintMore
attribute [local go_sem] max2_int min2_int max_two min_two max_three min_three max_four min_four   -- for this text's walks alone
set_option linter.unusedVariables false
set_option linter.unusedSimpArgs false
def spenceref24_Faulty.f (k : Nat) (a0 : Int) (a1_0 : Int) (a1_1 : ByteArray) (a1_2 : Int) (a1_3 : ByteArray) (l1_4 : List Int) : Option (Int × ByteArray × Int × ByteArray × List Int) := if a0 = 1 then (some (503, (⟨#[]⟩ : ByteArray), 0, (⟨#[]⟩ : ByteArray), ([] : List Int))) else (if a0 = 5 then (some (404, (⟨#[]⟩ : ByteArray), 0, (⟨#[]⟩ : ByteArray), ([] : List Int))) else (if a0 = 4 then (if a1_1.size + 1 ≤ 9223372036854775807 then (some (a1_0, a1_1 ++ (⟨#[34]⟩ : ByteArray), a1_2, a1_3, l1_4)) else (none)) else (if a0 = 2 then (if (l1_4.length : Int) > 0 then (if 0 ≤ (wrap64 ((l1_4.length : Int) - 1)) then (if (wrap64 ((l1_4.length : Int) - 1)) ≤ (l1_4.length : Int) then (some (a1_0, a1_1, a1_2, a1_3, (l1_4.take ((wrap64 ((l1_4.length : Int) - 1)) : Int).toNat))) else (none)) else (none)) else (some (a1_0, a1_1, a1_2, a1_3, l1_4))) else (if a0 = 3 then ((r4Cont.f k a1_3).bind fun bt175 => (if bt175.2.2.2.2 = 0 then (if bt175.1 = true then ((r4PC.f k bt175.1 (wrap64 (bt175.2.1 + 1)) (wrap64 (bt175.2.2.1 + 1)) bt175.2.2.2.1).bind fun t181 => (some (a1_0, a1_1, a1_2, t181, l1_4))) else (some (a1_0, a1_1, a1_2, a1_3, l1_4))) else (some (a1_0, a1_1, a1_2, a1_3, l1_4)))) else (some (a1_0, a1_1, a1_2, a1_3, l1_4))))))
theorem spenceref24_Faulty.mono : ∀ a0 a1 a2 a3 a4 a5 k, LeO (spenceref24_Faulty.f k a0 a1 a2 a3 a4 a5) (spenceref24_Faulty.f (k + 1) a0 a1 a2 a3 a4 a5) := by
  intro a0 a1 a2 a3 a4 a5 k
  unfold spenceref24_Faulty.f
  repeat' first
      | (with_reducible exact r4Cont.mono _ _)
      | (with_reducible exact r4PC.mono _ _ _ _ _)
      | (with_reducible exact LeO.refl _)
      | (with_reducible exact LeO.none _)
      | (with_reducible refine LeO.ite ?_ ?_)
      | (with_reducible refine LeO.bind ?_ (fun _ => ?_))
      | exact r4Cont.mono _ _
      | exact r4PC.mono _ _ _ _ _
      | exact LeO.none _
      | refine LeO.ite ?_ ?_
      | refine LeO.bind ?_ (fun _ => ?_)
set_option maxHeartbeats 8000000 in
set_option maxRecDepth 100000 in
theorem spenceref24_Faulty.calls (k : Nat) (a0 : Int) (a1_0 : Int) (a1_1 : ByteArray) (a1_2 : Int) (a1_3 : ByteArray) (P1_4_ : Nat → Prop) (A1_4 : Option Addr) (c1_4 : Nat) (l1_4 : List Int) (r1 : Int) (r2 : ByteArray) (r3 : Int) (r4 : ByteArray) (r5 : List Int) (w : World) (hs1_4 : Kd.V (Kd.int .u8) 5 w w.heap.size (fun k_ => P1_4_ k_) (.slice A1_4 l1_4.length c1_4) l1_4) (h : spenceref24_Faulty.f k a0 a1_0 a1_1 a1_2 a1_3 l1_4 = some (r1, r2, r3, r4, r5)) :
    Calls Try.prog 9 #[.int .i64 a0, .agg #[.int .i64 a1_0, .string a1_1, .int .i64 a1_2, .string a1_3, .slice A1_4 l1_4.length c1_4]] w fun e w' => ∃ v4_ : Value, e = .returned (.agg #[.int .i64 r1, .string r2, .int .i64 r3, .string r4, v4_]) ∧ Kd.V (Kd.int .u8) 5 w' w.heap.size (fun k_ => (P1_4_ k_ ∨ w.heap.size ≤ k_)) v4_ r5 ∧ Below w.heap.size w w' := by
  have hu31 := Try.underlying31
  have hu40 := Try.underlying40
  have HO1_4 := AsZ.mk (show Kd.V (Kd.int .u8) 5 w w.heap.size (fun k_ => (P1_4_ k_ ∨ w.heap.size ≤ k_)) (.slice A1_4 l1_4.length c1_4) l1_4 from Kd.V_mono hs1_4 (fun k_ hk => .inl hk))
  have HB := AsZ.mk (Below.refl w.heap.size w)
  have H : (if a0 = 1 then (some (503, (⟨#[]⟩ : ByteArray), 0, (⟨#[]⟩ : ByteArray), ([] : List Int))) else (if a0 = 5 then (some (404, (⟨#[]⟩ : ByteArray), 0, (⟨#[]⟩ : ByteArray), ([] : List Int))) else (if a0 = 4 then (if a1_1.size + 1 ≤ 9223372036854775807 then (some (a1_0, a1_1 ++ (⟨#[34]⟩ : ByteArray), a1_2, a1_3, l1_4)) else (none)) else (if a0 = 2 then (if (l1_4.length : Int) > 0 then (if 0 ≤ (wrap64 ((l1_4.length : Int) - 1)) then (if (wrap64 ((l1_4.length : Int) - 1)) ≤ (l1_4.length : Int) then (some (a1_0, a1_1, a1_2, a1_3, (l1_4.take ((wrap64 ((l1_4.length : Int) - 1)) : Int).toNat))) else (none)) else (none)) else (some (a1_0, a1_1, a1_2, a1_3, l1_4))) else (if a0 = 3 then ((r4Cont.f k a1_3).bind fun bt175 => (if bt175.2.2.2.2 = 0 then (if bt175.1 = true then ((r4PC.f k bt175.1 (wrap64 (bt175.2.1 + 1)) (wrap64 (bt175.2.2.1 + 1)) bt175.2.2.2.1).bind fun t181 => (some (a1_0, a1_1, a1_2, t181, l1_4))) else (some (a1_0, a1_1, a1_2, a1_3, l1_4))) else (some (a1_0, a1_1, a1_2, a1_3, l1_4)))) else (some (a1_0, a1_1, a1_2, a1_3, l1_4))))))) = some (r1, r2, r3, r4, r5) := h
  clear h
  by_cases c3 : a0 = 1
  · rw [if_pos c3] at H
    have c3b0 : (a0 == 1) = true := beq_iff_eq.mpr c3
    have c3b1 : (a0 != 1) = false := bne_eq_false_iff_eq.mpr c3
    clear c3
    simp only [Option.some.injEq, Prod.mk.injEq] at H
    obtain ⟨rfl, rfl, rfl, rfl, rfl⟩ := H
    go_enter Try.func9, Try.ntmps9
    go_wp2_with (first | ((with_reducible refine gDs (N := 3) rfl ?_); refine bEv ?hg (N := 3) ?hd (cs := #[.int .i64 a1_0, .string a1_1, .int .i64 a1_2, .string a1_3, .slice A1_4 l1_4.length c1_4]) (t := 31) ?hr ?_; (case hd => rfl); (case hg => rfl); (case hr => first | (go_simp; done) | (go_simp; rfl)); intro gb168 hg w4 hbox hb; have n0_ := AsZ.mk (Kd.V_below (Kd.V_elderB (by (with_reducible repeat (first | apply Kd.V_alloc | apply Kd.V_drewN | apply Kd.V_drew)); exact HO1_4.out) gb168 (Nat.le_of_eq hg.symm)) hb); have n1_ := AsZ.mk (tBl (by repeat (first | (with_reducible first | exact HB.out | apply aBl | apply pBd | apply dBl) | exact HB.out)) hb); have n2_ := AsZ.mk (hbox); have n3_ := AsZ.mk ((by rw [hg]; exact (zBl (by repeat (first | (with_reducible first | exact HB.out | apply aBl | apply pBd | apply dBl) | exact HB.out))) : w.heap.size ≤ gb168)); have n4_ := AsZ.mk ((by rw [hg]; exact (zBl (by repeat (first | (with_reducible first | exact HB.out | apply aBl | apply pBd | apply dBl) | exact HB.out))) : w.heap.size ≤ gb168)); clear HO1_4; clear HB; have HO1_4 := n0_; have HB := n1_; have BK168 := n2_; have GW168 := n3_; have GE168 := n4_; clear n0_ n1_ n2_ n3_ n4_; clear hb hbox hg) | ((with_reducible refine gDs (N := 4) rfl ?_); refine bEv ?hg (N := 4) ?hd (cs := #[.int .i64 0, .string (⟨#[]⟩ : ByteArray), .int .i64 0, .string (⟨#[]⟩ : ByteArray), .slice none 0 0]) (t := 31) ?hr ?_; (case hd => rfl); (case hg => rfl); (case hr => first | (go_simp; done) | (go_simp; rfl)); intro gb169 hg w5 hbox hb; have n0_ := AsZ.mk (Kd.V_below (Kd.V_elderB (by (with_reducible repeat (first | apply Kd.V_alloc | apply Kd.V_drewN | apply Kd.V_drew)); exact HO1_4.out) gb169 (Nat.le_of_eq hg.symm)) hb); have n1_ := AsZ.mk (bBl (g := gb168) (o := .cells #[.int .i64 a1_0, .string a1_1, .int .i64 a1_2, .string a1_3, .slice A1_4 l1_4.length c1_4] 31 (0, 0)) (by (with_reducible repeat first | apply bDn | apply bDr | apply bAl); exact BK168.out) hb); have n2_ := AsZ.mk (tBl (by repeat (first | (with_reducible first | exact HB.out | apply aBl | apply pBd | apply dBl | refine sBl ?_ GE168.out) | exact HB.out)) hb); have n3_ := AsZ.mk (hbox); have n4_ := AsZ.mk ((by rw [hg]; exact (zBl (by repeat (first | (with_reducible first | exact HB.out | apply aBl | apply pBd | apply dBl | refine sBl ?_ GE168.out) | exact HB.out))) : w.heap.size ≤ gb169)); have n5_ := AsZ.mk ((by rw [hg]; exact (zBl (by repeat (first | (with_reducible first | exact HB.out | apply aBl | apply pBd | apply dBl | refine sBl ?_ GE168.out) | exact HB.out))) : w.heap.size ≤ gb169)); have n6_ := AsZ.mk ((by rw [hg]; exact Nat.ne_of_lt (bLt (g := gb168) (o := .cells #[.int .i64 a1_0, .string a1_1, .int .i64 a1_2, .string a1_3, .slice A1_4 l1_4.length c1_4] 31 (0, 0)) (by (with_reducible repeat first | apply bDn | apply bDr | apply bAl); exact BK168.out)) : gb168 ≠ gb169)); have n7_ := AsZ.mk ((by rw [hg]; exact Nat.ne_of_gt (bLt (g := gb168) (o := .cells #[.int .i64 a1_0, .string a1_1, .int .i64 a1_2, .string a1_3, .slice A1_4 l1_4.length c1_4] 31 (0, 0)) (by (with_reducible repeat first | apply bDn | apply bDr | apply bAl); exact BK168.out)) : gb169 ≠ gb168)); clear HO1_4; clear BK168; clear HB; have HO1_4 := n0_; have BK168 := n1_; have HB := n2_; have BK169 := n3_; have GW169 := n4_; have GE169 := n5_; have NB168_169 := n6_; have NB169_168 := n7_; clear n0_ n1_ n2_ n3_ n4_ n5_ n6_ n7_; clear hb hbox hg; have hnb6 := NB169_168.out; have hnc6 := NB168_169.out; obtain ⟨hcz7_0, hcz7_1, hcz7_2, hcz7_3, hcz7_4⟩ := celN5 BK169.out; obtain ⟨hfz7_0, hfz7_1, hfz7_2, hfz7_3, hfz7_4⟩ := fzN5 BK169.out))
    refine bodyPost_ret (results_cell_row rfl _ _ gb169 31 #[.int .i64 503, .string (⟨#[]⟩ : ByteArray), .int .i64 0, .string (⟨#[]⟩ : ByteArray), .slice none 0 0] (0, 0) _ rfl (by (with_reducible repeat first | apply bDn | apply bDr | apply bAl); refine bPu (cs := #[.int .i64 503, .string (⟨#[]⟩ : ByteArray), .int .i64 0, .string (⟨#[]⟩ : ByteArray), .slice none 0 0]) ?_ 4 _ rfl; (with_reducible repeat first | apply bDn | apply bDr | apply bAl); refine bPu (cs := #[.int .i64 503, .string (⟨#[]⟩ : ByteArray), .int .i64 0, .string (⟨#[]⟩ : ByteArray), .slice none 0 0]) ?_ 3 _ rfl; (with_reducible repeat first | apply bDn | apply bDr | apply bAl); refine bPu (cs := #[.int .i64 503, .string (⟨#[]⟩ : ByteArray), .int .i64 0, .string (⟨#[]⟩ : ByteArray), .slice none 0 0]) ?_ 2 _ rfl; (with_reducible repeat first | apply bDn | apply bDr | apply bAl); refine bPu (cs := #[.int .i64 503, .string (⟨#[]⟩ : ByteArray), .int .i64 0, .string (⟨#[]⟩ : ByteArray), .slice none 0 0]) ?_ 1 _ rfl; (with_reducible repeat first | apply bDn | apply bDr | apply bAl); refine bPu (cs := #[.int .i64 0, .string (⟨#[]⟩ : ByteArray), .int .i64 0, .string (⟨#[]⟩ : ByteArray), .slice none 0 0]) ?_ 0 _ rfl; (with_reducible repeat first | apply bDn | apply bDr | apply bAl); exact BK169.out) Try.underlying31 rfl (by kernel_rfl)) rfl ?_
    exact ⟨_, by first | rfl | (simp [eWn, eWs] <;> rfl) | (simp [*, eWn, eWs] <;> rfl), (by first | exact Kd.V_nil _ _ _ _ _), by repeat (first | (with_reducible first | exact HB.out | apply aBl | apply pBd | apply dBl | refine sBl ?_ GE168.out | refine sBl ?_ GE169.out) | exact HB.out)⟩
  · rw [if_neg c3] at H
    have c3b0 : (a0 == 1) = false := beq_eq_false_iff_ne.mpr c3
    have c3b1 : (a0 != 1) = true := bne_iff_ne.mpr c3
    by_cases c8 : a0 = 5
    · rw [if_pos c8] at H
      have c8b0 : (a0 == 5) = true := beq_iff_eq.mpr c8
      have c8b1 : (a0 != 5) = false := bne_eq_false_iff_eq.mpr c8
      clear c8
      simp only [Option.some.injEq, Prod.mk.injEq] at H
      obtain ⟨rfl, rfl, rfl, rfl, rfl⟩ := H
      go_enter Try.func9, Try.ntmps9
      go_wp2_with (first | ((with_reducible refine gDs (N := 3) rfl ?_); refine bEv ?hg (N := 3) ?hd (cs := #[.int .i64 a1_0, .string a1_1, .int .i64 a1_2, .string a1_3, .slice A1_4 l1_4.length c1_4]) (t := 31) ?hr ?_; (case hd => rfl); (case hg => rfl); (case hr => first | (go_simp; done) | (go_simp; rfl)); intro gb168 hg w9 hbox hb; have n0_ := AsZ.mk (Kd.V_below (Kd.V_elderB (by (with_reducible repeat (first | apply Kd.V_alloc | apply Kd.V_drewN | apply Kd.V_drew)); exact HO1_4.out) gb168 (Nat.le_of_eq hg.symm)) hb); have n1_ := AsZ.mk (tBl (by repeat (first | (with_reducible first | exact HB.out | apply aBl | apply pBd | apply dBl) | exact HB.out)) hb); have n2_ := AsZ.mk (hbox); have n3_ := AsZ.mk ((by rw [hg]; exact (zBl (by repeat (first | (with_reducible first | exact HB.out | apply aBl | apply pBd | apply dBl) | exact HB.out))) : w.heap.size ≤ gb168)); have n4_ := AsZ.mk ((by rw [hg]; exact (zBl (by repeat (first | (with_reducible first | exact HB.out | apply aBl | apply pBd | apply dBl) | exact HB.out))) : w.heap.size ≤ gb168)); clear HO1_4; clear HB; have HO1_4 := n0_; have HB := n1_; have BK168 := n2_; have GW168 := n3_; have GE168 := n4_; clear n0_ n1_ n2_ n3_ n4_; clear hb hbox hg) | ((with_reducible refine gDs (N := 4) rfl ?_); refine bEv ?hg (N := 4) ?hd (cs := #[.int .i64 0, .string (⟨#[]⟩ : ByteArray), .int .i64 0, .string (⟨#[]⟩ : ByteArray), .slice none 0 0]) (t := 31) ?hr ?_; (case hd => rfl); (case hg => rfl); (case hr => first | (go_simp; done) | (go_simp; rfl)); intro gb169 hg w10 hbox hb; have n0_ := AsZ.mk (Kd.V_below (Kd.V_elderB (by (with_reducible repeat (first | apply Kd.V_alloc | apply Kd.V_drewN | apply Kd.V_drew)); exact HO1_4.out) gb169 (Nat.le_of_eq hg.symm)) hb); have n1_ := AsZ.mk (bBl (g := gb168) (o := .cells #[.int .i64 a1_0, .string a1_1, .int .i64 a1_2, .string a1_3, .slice A1_4 l1_4.length c1_4] 31 (0, 0)) (by (with_reducible repeat first | apply bDn | apply bDr | apply bAl); exact BK168.out) hb); have n2_ := AsZ.mk (tBl (by repeat (first | (with_reducible first | exact HB.out | apply aBl | apply pBd | apply dBl | refine sBl ?_ GE168.out) | exact HB.out)) hb); have n3_ := AsZ.mk (hbox); have n4_ := AsZ.mk ((by rw [hg]; exact (zBl (by repeat (first | (with_reducible first | exact HB.out | apply aBl | apply pBd | apply dBl | refine sBl ?_ GE168.out) | exact HB.out))) : w.heap.size ≤ gb169)); have n5_ := AsZ.mk ((by rw [hg]; exact (zBl (by repeat (first | (with_reducible first | exact HB.out | apply aBl | apply pBd | apply dBl | refine sBl ?_ GE168.out) | exact HB.out))) : w.heap.size ≤ gb169)); have n6_ := AsZ.mk ((by rw [hg]; exact Nat.ne_of_lt (bLt (g := gb168) (o := .cells #[.int .i64 a1_0, .string a1_1, .int .i64 a1_2, .string a1_3, .slice A1_4 l1_4.length c1_4] 31 (0, 0)) (by (with_reducible repeat first | apply bDn | apply bDr | apply bAl); exact BK168.out)) : gb168 ≠ gb169)); have n7_ := AsZ.mk ((by rw [hg]; exact Nat.ne_of_gt (bLt (g := gb168) (o := .cells #[.int .i64 a1_0, .string a1_1, .int .i64 a1_2, .string a1_3, .slice A1_4 l1_4.length c1_4] 31 (0, 0)) (by (with_reducible repeat first | apply bDn | apply bDr | apply bAl); exact BK168.out)) : gb169 ≠ gb168)); clear HO1_4; clear BK168; clear HB; have HO1_4 := n0_; have BK168 := n1_; have HB := n2_; have BK169 := n3_; have GW169 := n4_; have GE169 := n5_; have NB168_169 := n6_; have NB169_168 := n7_; clear n0_ n1_ n2_ n3_ n4_ n5_ n6_ n7_; clear hb hbox hg; have hnb11 := NB169_168.out; have hnc11 := NB168_169.out; obtain ⟨hcz12_0, hcz12_1, hcz12_2, hcz12_3, hcz12_4⟩ := celN5 BK169.out; obtain ⟨hfz12_0, hfz12_1, hfz12_2, hfz12_3, hfz12_4⟩ := fzN5 BK169.out))
      refine bodyPost_ret (results_cell_row rfl _ _ gb169 31 #[.int .i64 404, .string (⟨#[]⟩ : ByteArray), .int .i64 0, .string (⟨#[]⟩ : ByteArray), .slice none 0 0] (0, 0) _ rfl (by (with_reducible repeat first | apply bDn | apply bDr | apply bAl); refine bPu (cs := #[.int .i64 404, .string (⟨#[]⟩ : ByteArray), .int .i64 0, .string (⟨#[]⟩ : ByteArray), .slice none 0 0]) ?_ 4 _ rfl; (with_reducible repeat first | apply bDn | apply bDr | apply bAl); refine bPu (cs := #[.int .i64 404, .string (⟨#[]⟩ : ByteArray), .int .i64 0, .string (⟨#[]⟩ : ByteArray), .slice none 0 0]) ?_ 3 _ rfl; (with_reducible repeat first | apply bDn | apply bDr | apply bAl); refine bPu (cs := #[.int .i64 404, .string (⟨#[]⟩ : ByteArray), .int .i64 0, .string (⟨#[]⟩ : ByteArray), .slice none 0 0]) ?_ 2 _ rfl; (with_reducible repeat first | apply bDn | apply bDr | apply bAl); refine bPu (cs := #[.int .i64 404, .string (⟨#[]⟩ : ByteArray), .int .i64 0, .string (⟨#[]⟩ : ByteArray), .slice none 0 0]) ?_ 1 _ rfl; (with_reducible repeat first | apply bDn | apply bDr | apply bAl); refine bPu (cs := #[.int .i64 0, .string (⟨#[]⟩ : ByteArray), .int .i64 0, .string (⟨#[]⟩ : ByteArray), .slice none 0 0]) ?_ 0 _ rfl; (with_reducible repeat first | apply bDn | apply bDr | apply bAl); exact BK169.out) Try.underlying31 rfl (by kernel_rfl)) rfl ?_
      exact ⟨_, by first | rfl | (simp [eWn, eWs] <;> rfl) | (simp [*, eWn, eWs] <;> rfl), (by first | exact Kd.V_nil _ _ _ _ _), by repeat (first | (with_reducible first | exact HB.out | apply aBl | apply pBd | apply dBl | refine sBl ?_ GE168.out | refine sBl ?_ GE169.out) | exact HB.out)⟩
    · rw [if_neg c8] at H
      have c8b0 : (a0 == 5) = false := beq_eq_false_iff_ne.mpr c8
      have c8b1 : (a0 != 5) = true := bne_iff_ne.mpr c8
      by_cases c13 : a0 = 4
      · rw [if_pos c13] at H
        have c13b0 : (a0 == 4) = true := beq_iff_eq.mpr c13
        have c13b1 : (a0 != 4) = false := bne_eq_false_iff_eq.mpr c13
        clear c13
        by_cases c14 : a1_1.size + 1 ≤ 9223372036854775807
        · rw [if_pos c14] at H
          have c14b0 := eq_true c14
          have c14b1 : decide (a1_1.size + 1 ≤ 9223372036854775807) = true := decide_eq_true c14
          try have c14b2 : (9223372036854775807 < a1_1.size + 1) = False := eq_false (Nat.not_lt.2 c14)
          simp only [Option.some.injEq, Prod.mk.injEq] at H
          obtain ⟨rfl, rfl, rfl, rfl, rfl⟩ := H
          go_enter Try.func9, Try.ntmps9
          go_wp2_with (first | ((with_reducible refine gDs (N := 3) rfl ?_); refine bEv ?hg (N := 3) ?hd (cs := #[.int .i64 a1_0, .string a1_1, .int .i64 a1_2, .string a1_3, .slice A1_4 l1_4.length c1_4]) (t := 31) ?hr ?_; (case hd => rfl); (case hg => rfl); (case hr => first | (go_simp; done) | (go_simp; rfl)); intro gb168 hg w15 hbox hb; have n0_ := AsZ.mk (Kd.V_below (Kd.V_elderB (by (with_reducible repeat (first | apply Kd.V_alloc | apply Kd.V_drewN | apply Kd.V_drew)); exact HO1_4.out) gb168 (Nat.le_of_eq hg.symm)) hb); have n1_ := AsZ.mk (tBl (by repeat (first | (with_reducible first | exact HB.out | apply aBl | apply pBd | apply dBl) | exact HB.out)) hb); have n2_ := AsZ.mk (hbox); have n3_ := AsZ.mk ((by rw [hg]; exact (zBl (by repeat (first | (with_reducible first | exact HB.out | apply aBl | apply pBd | apply dBl) | exact HB.out))) : w.heap.size ≤ gb168)); have n4_ := AsZ.mk ((by rw [hg]; exact (zBl (by repeat (first | (with_reducible first | exact HB.out | apply aBl | apply pBd | apply dBl) | exact HB.out))) : w.heap.size ≤ gb168)); clear HO1_4; clear HB; have HO1_4 := n0_; have HB := n1_; have BK168 := n2_; have GW168 := n3_; have GE168 := n4_; clear n0_ n1_ n2_ n3_ n4_; clear hb hbox hg) | ((with_reducible refine gDs (N := 4) rfl ?_); refine bEv ?hg (N := 4) ?hd (cs := #[.int .i64 0, .string (⟨#[]⟩ : ByteArray), .int .i64 0, .string (⟨#[]⟩ : ByteArray), .slice none 0 0]) (t := 31) ?hr ?_; (case hd => rfl); (case hg => rfl); (case hr => first | (go_simp; done) | (go_simp; rfl)); intro gb169 hg w16 hbox hb; have n0_ := AsZ.mk (Kd.V_below (Kd.V_elderB (by (with_reducible repeat (first | apply Kd.V_alloc | apply Kd.V_drewN | apply Kd.V_drew)); exact HO1_4.out) gb169 (Nat.le_of_eq hg.symm)) hb); have n1_ := AsZ.mk (bBl (g := gb168) (o := .cells #[.int .i64 a1_0, .string a1_1, .int .i64 a1_2, .string a1_3, .slice A1_4 l1_4.length c1_4] 31 (0, 0)) (by (with_reducible repeat first | apply bDn | apply bDr | apply bAl); exact BK168.out) hb); have n2_ := AsZ.mk (tBl (by repeat (first | (with_reducible first | exact HB.out | apply aBl | apply pBd | apply dBl | refine sBl ?_ GE168.out) | exact HB.out)) hb); have n3_ := AsZ.mk (hbox); have n4_ := AsZ.mk ((by rw [hg]; exact (zBl (by repeat (first | (with_reducible first | exact HB.out | apply aBl | apply pBd | apply dBl | refine sBl ?_ GE168.out) | exact HB.out))) : w.heap.size ≤ gb169)); have n5_ := AsZ.mk ((by rw [hg]; exact (zBl (by repeat (first | (with_reducible first | exact HB.out | apply aBl | apply pBd | apply dBl | refine sBl ?_ GE168.out) | exact HB.out))) : w.heap.size ≤ gb169)); have n6_ := AsZ.mk ((by rw [hg]; exact Nat.ne_of_lt (bLt (g := gb168) (o := .cells #[.int .i64 a1_0, .string a1_1, .int .i64 a1_2, .string a1_3, .slice A1_4 l1_4.length c1_4] 31 (0, 0)) (by (with_reducible repeat first | apply bDn | apply bDr | apply bAl); exact BK168.out)) : gb168 ≠ gb169)); have n7_ := AsZ.mk ((by rw [hg]; exact Nat.ne_of_gt (bLt (g := gb168) (o := .cells #[.int .i64 a1_0, .string a1_1, .int .i64 a1_2, .string a1_3, .slice A1_4 l1_4.length c1_4] 31 (0, 0)) (by (with_reducible repeat first | apply bDn | apply bDr | apply bAl); exact BK168.out)) : gb169 ≠ gb168)); clear HO1_4; clear BK168; clear HB; have HO1_4 := n0_; have BK168 := n1_; have HB := n2_; have BK169 := n3_; have GW169 := n4_; have GE169 := n5_; have NB168_169 := n6_; have NB169_168 := n7_; clear n0_ n1_ n2_ n3_ n4_ n5_ n6_ n7_; clear hb hbox hg; have hnb17 := NB168_169.out; have hnc17 := NB169_168.out; obtain ⟨hcz18_0, hcz18_1, hcz18_2, hcz18_3, hcz18_4⟩ := celN5 BK168.out; obtain ⟨hfz18_0, hfz18_1, hfz18_2, hfz18_3, hfz18_4⟩ := fzN5 BK168.out; obtain ⟨hcz19_0, hcz19_1, hcz19_2, hcz19_3, hcz19_4⟩ := celN5 BK169.out; obtain ⟨hfz19_0, hfz19_1, hfz19_2, hfz19_3, hfz19_4⟩ := fzN5 BK169.out))
          refine bodyPost_ret (results_cell_row rfl _ _ gb169 31 #[.int .i64 a1_0, .string (a1_1 ++ (⟨#[34]⟩ : ByteArray)), .int .i64 a1_2, .string a1_3, .slice A1_4 l1_4.length c1_4] (0, 0) _ rfl (by (with_reducible repeat first | apply bDn | apply bDr | apply bAl); refine bPu (cs := #[.int .i64 a1_0, .string (a1_1 ++ (⟨#[34]⟩ : ByteArray)), .int .i64 a1_2, .string a1_3, .slice none 0 0]) ?_ 4 _ rfl; (with_reducible repeat first | apply bDn | apply bDr | apply bAl); refine bPu (cs := #[.int .i64 a1_0, .string (a1_1 ++ (⟨#[34]⟩ : ByteArray)), .int .i64 a1_2, .string (⟨#[]⟩ : ByteArray), .slice none 0 0]) ?_ 3 _ rfl; (with_reducible repeat first | apply bDn | apply bDr | apply bAl); refine bPu (cs := #[.int .i64 a1_0, .string (a1_1 ++ (⟨#[34]⟩ : ByteArray)), .int .i64 0, .string (⟨#[]⟩ : ByteArray), .slice none 0 0]) ?_ 2 _ rfl; (with_reducible repeat first | apply bDn | apply bDr | apply bAl); refine bPu (cs := #[.int .i64 a1_0, .string (⟨#[]⟩ : ByteArray), .int .i64 0, .string (⟨#[]⟩ : ByteArray), .slice none 0 0]) ?_ 1 _ rfl; (with_reducible repeat first | apply bDn | apply bDr | apply bAl); refine bPu (cs := #[.int .i64 0, .string (⟨#[]⟩ : ByteArray), .int .i64 0, .string (⟨#[]⟩ : ByteArray), .slice none 0 0]) ?_ 0 _ rfl; (with_reducible repeat first | apply bDn | apply bDr | apply bAl); refine bFr ?_ NB169_168.out _; (with_reducible repeat first | apply bDn | apply bDr | apply bAl); exact BK169.out) Try.underlying31 rfl (by kernel_rfl)) rfl ?_
          exact ⟨_, by first | rfl | (simp [eWn, eWs] <;> rfl) | (simp [*, eWn, eWs] <;> rfl), by (with_reducible repeat (first | apply Kd.V_alloc | apply Kd.V_drewN | apply Kd.V_drew)); exact Kd.V_mono (Kd.V_far (p := ⟨gb169, 4, none⟩) (Kd.V_far (p := ⟨gb169, 3, none⟩) (Kd.V_far (p := ⟨gb169, 2, none⟩) (Kd.V_far (p := ⟨gb169, 1, none⟩) (Kd.V_far (p := ⟨gb169, 0, none⟩) (Kd.V_far (p := ⟨gb168, 1, none⟩) (Kd.V_mono (Kd.V_mono HO1_4.out (fun k_ hk => (⟨hk, hk.1.2⟩ : _ ∧ k_ ≠ gb168))) (fun k_ hk => (⟨hk, hk.1.2⟩ : _ ∧ k_ ≠ gb169))) (fun _ hk => hk.1.2) (.string (a1_1 ++ (⟨#[34]⟩ : ByteArray)))) (fun _ hk => hk.2) (.int .i64 a1_0)) (fun _ hk => hk.2) (.string (a1_1 ++ (⟨#[34]⟩ : ByteArray)))) (fun _ hk => hk.2) (.int .i64 a1_2)) (fun _ hk => hk.2) (.string a1_3)) (fun _ hk => hk.2) (.slice A1_4 l1_4.length c1_4)) (fun _ hk => hk.1.1.1.1), by repeat (first | (with_reducible first | exact HB.out | apply aBl | apply pBd | apply dBl | refine sBl ?_ GE168.out | refine sBl ?_ GE169.out) | exact HB.out)⟩
        · rw [if_neg c14] at H
          exact absurd H (by simp)
      · rw [if_neg c13] at H
        have c13b0 : (a0 == 4) = false := beq_eq_false_iff_ne.mpr c13
        have c13b1 : (a0 != 4) = true := bne_iff_ne.mpr c13
        by_cases c20 : a0 = 2
        · rw [if_pos c20] at H
          have c20b0 : (a0 == 2) = true := beq_iff_eq.mpr c20
          have c20b1 : (a0 != 2) = false := bne_eq_false_iff_eq.mpr c20
          clear c20
          by_cases c21 : (l1_4.length : Int) > 0
          · rw [if_pos c21] at H
            have c21b0 : decide (0 < (l1_4.length : Int)) = true := decide_eq_true c21
            have c21b1 : decide (0 < l1_4.length) = true := decide_eq_true (by omega)
            clear c21
            obtain ⟨ji22, hji22⟩ : ∃ j_ : Int, (wrap64 ((l1_4.length : Int) - 1)) = j_ := ⟨_, rfl⟩
            replace H : (if 0 ≤ (ji22) then (if (ji22) ≤ (l1_4.length : Int) then (some (a1_0, a1_1, a1_2, a1_3, (l1_4.take ((ji22) : Int).toNat))) else (none)) else (none)) = some (r1, r2, r3, r4, r5) := by first | (rw [hji22] at H; exact H) | (simp only [hji22] at H ⊢; exact H)
            have hji22w : (IntKind.i64.wrap ((l1_4.length : Int) - 1)) = ji22 := (i64_w _).trans hji22
            by_cases c23 : 0 ≤ (ji22)
            · rw [if_pos c23] at H
              have c23b0 := eq_true c23
              have c23b1 : decide (0 ≤ (ji22)) = true := decide_eq_true c23
              clear c23
              by_cases c24 : (ji22) ≤ (l1_4.length : Int)
              · rw [if_pos c24] at H
                have c24b0 := eq_true c24
                have c24b1 : decide ((ji22) ≤ (l1_4.length : Int)) = true := decide_eq_true c24
                clear c24
                obtain ⟨y170, hy170⟩ : ∃ y_ : List Int, y_ = (l1_4.take ((ji22) : Int).toNat) := ⟨_, rfl⟩
                replace H : (some (a1_0, a1_1, a1_2, a1_3, y170)) = some (r1, r2, r3, r4, r5) := by first | (rw [hy170]; with_reducible exact H) | (have H2_ := (Option.bind_some _ _).symm.trans H; rw [hy170]; with_reducible exact H2_) | (have H2_ := (Option.bind_some _ _).symm.trans H; with_reducible exact H2_) | with_reducible exact H | (rw [hy170]; exact H) | exact H
                have Ny170 := AsZ.mk hy170
                clear hy170
                simp only [Option.some.injEq, Prod.mk.injEq] at H
                obtain ⟨rfl, rfl, rfl, rfl, rfl⟩ := H
                go_enter Try.func9, Try.ntmps9
                go_wp2_with (first | ((with_reducible refine gDs (N := 3) rfl ?_); refine bEv ?hg (N := 3) ?hd (cs := #[.int .i64 a1_0, .string a1_1, .int .i64 a1_2, .string a1_3, .slice A1_4 l1_4.length c1_4]) (t := 31) ?hr ?_; (case hd => rfl); (case hg => rfl); (case hr => first | (go_simp; done) | (go_simp; rfl)); intro gb168 hg w25 hbox hb; have n0_ := AsZ.mk (Kd.V_below (Kd.V_elderB (by (with_reducible repeat (first | apply Kd.V_alloc | apply Kd.V_drewN | apply Kd.V_drew)); exact HO1_4.out) gb168 (Nat.le_of_eq hg.symm)) hb); have n1_ := AsZ.mk (tBl (by repeat (first | (with_reducible first | exact HB.out | apply aBl | apply pBd | apply dBl) | exact HB.out)) hb); have n2_ := AsZ.mk (hbox); have n3_ := AsZ.mk ((by rw [hg]; exact (zBl (by repeat (first | (with_reducible first | exact HB.out | apply aBl | apply pBd | apply dBl) | exact HB.out))) : w.heap.size ≤ gb168)); have n4_ := AsZ.mk ((by rw [hg]; exact (zBl (by repeat (first | (with_reducible first | exact HB.out | apply aBl | apply pBd | apply dBl) | exact HB.out))) : w.heap.size ≤ gb168)); clear HO1_4; clear HB; have HO1_4 := n0_; have HB := n1_; have BK168 := n2_; have GW168 := n3_; have GE168 := n4_; clear n0_ n1_ n2_ n3_ n4_; clear hb hbox hg) | ((with_reducible refine gDs (N := 4) rfl ?_); refine bEv ?hg (N := 4) ?hd (cs := #[.int .i64 0, .string (⟨#[]⟩ : ByteArray), .int .i64 0, .string (⟨#[]⟩ : ByteArray), .slice none 0 0]) (t := 31) ?hr ?_; (case hd => rfl); (case hg => rfl); (case hr => first | (go_simp; done) | (go_simp; rfl)); intro gb169 hg w26 hbox hb; have n0_ := AsZ.mk (Kd.V_below (Kd.V_elderB (by (with_reducible repeat (first | apply Kd.V_alloc | apply Kd.V_drewN | apply Kd.V_drew)); exact HO1_4.out) gb169 (Nat.le_of_eq hg.symm)) hb); have n1_ := AsZ.mk (bBl (g := gb168) (o := .cells #[.int .i64 a1_0, .string a1_1, .int .i64 a1_2, .string a1_3, .slice A1_4 l1_4.length c1_4] 31 (0, 0)) (by (with_reducible repeat first | apply bDn | apply bDr | apply bAl); exact BK168.out) hb); have n2_ := AsZ.mk (tBl (by repeat (first | (with_reducible first | exact HB.out | apply aBl | apply pBd | apply dBl | refine sBl ?_ GE168.out) | exact HB.out)) hb); have n3_ := AsZ.mk (hbox); have n4_ := AsZ.mk ((by rw [hg]; exact (zBl (by repeat (first | (with_reducible first | exact HB.out | apply aBl | apply pBd | apply dBl | refine sBl ?_ GE168.out) | exact HB.out))) : w.heap.size ≤ gb169)); have n5_ := AsZ.mk ((by rw [hg]; exact (zBl (by repeat (first | (with_reducible first | exact HB.out | apply aBl | apply pBd | apply dBl | refine sBl ?_ GE168.out) | exact HB.out))) : w.heap.size ≤ gb169)); have n6_ := AsZ.mk ((by rw [hg]; exact Nat.ne_of_lt (bLt (g := gb168) (o := .cells #[.int .i64 a1_0, .string a1_1, .int .i64 a1_2, .string a1_3, .slice A1_4 l1_4.length c1_4] 31 (0, 0)) (by (with_reducible repeat first | apply bDn | apply bDr | apply bAl); exact BK168.out)) : gb168 ≠ gb169)); have n7_ := AsZ.mk ((by rw [hg]; exact Nat.ne_of_gt (bLt (g := gb168) (o := .cells #[.int .i64 a1_0, .string a1_1, .int .i64 a1_2, .string a1_3, .slice A1_4 l1_4.length c1_4] 31 (0, 0)) (by (with_reducible repeat first | apply bDn | apply bDr | apply bAl); exact BK168.out)) : gb169 ≠ gb168)); clear HO1_4; clear BK168; clear HB; have HO1_4 := n0_; have BK168 := n1_; have HB := n2_; have BK169 := n3_; have GW169 := n4_; have GE169 := n5_; have NB168_169 := n6_; have NB169_168 := n7_; clear n0_ n1_ n2_ n3_ n4_ n5_ n6_ n7_; clear hb hbox hg; have hnb27 := NB168_169.out; have hnc27 := NB169_168.out; obtain ⟨hcz28_0, hcz28_1, hcz28_2, hcz28_3, hcz28_4⟩ := celN5 BK168.out; obtain ⟨hfz28_0, hfz28_1, hfz28_2, hfz28_3, hfz28_4⟩ := fzN5 BK168.out; have q29 : ((ji22) : Int) ≤ ((l1_4.length : Int) : Int) := of_decide_eq_true (by first | (with_reducible assumption) | assumption); obtain ⟨i029, hi029, _, hsz29, _⟩ := info_parts info5; have hroom29 : l1_4.length ≤ c1_4 := (Kd.V_reads' HO1_4.out).2.1; have hC29 : Kd.F (Kd.int .u8) _ _ A1_4 l1_4.length l1_4 := (Kd.V_at (base := w.heap.size) HO1_4.out).2.2; have hcut29 := cut_to (P := Try.prog) 29 5 .i64 Try.underlying29 hi029 A1_4 l1_4.length c1_4 (ji22) (of_decide_eq_true (by first | (with_reducible assumption) | assumption)) q29 hroom29; have hr29 := Kd.F_take (m := ((ji22) : Int).toNat) hC29 (by omega); have hy29 : y170.length = ((ji22) : Int).toNat := (by rw [Ny170.out, List.length_take]; omega); rw [← Ny170.out] at hr29; rw [← hy29] at hcut29; have HO174 := AsZ.mk (show Kd.V (Kd.int .u8) 5 _ w.heap.size _ (.slice A1_4 y170.length c1_4) y170 from Kd.V_mk (by omega) hr29); have HC174 := AsZ.mk (show y170.length ≤ c1_4 from by omega); clear hr29 hC29 hroom29 hi029 hsz29; have KY29 := AsZ.mk hy29; clear hy29; replace q29 := eq_true q29; obtain ⟨hcz30_0, hcz30_1, hcz30_2, hcz30_3, hcz30_4⟩ := celN5 BK169.out; obtain ⟨hfz30_0, hfz30_1, hfz30_2, hfz30_3, hfz30_4⟩ := fzN5 BK169.out))
                refine bodyPost_ret (results_cell_row rfl _ _ gb169 31 #[.int .i64 a1_0, .string a1_1, .int .i64 a1_2, .string a1_3, .slice A1_4 y170.length c1_4] (0, 0) _ rfl (by (with_reducible repeat first | apply bDn | apply bDr | apply bAl); refine bPu (cs := #[.int .i64 a1_0, .string a1_1, .int .i64 a1_2, .string a1_3, .slice none 0 0]) ?_ 4 _ rfl; (with_reducible repeat first | apply bDn | apply bDr | apply bAl); refine bPu (cs := #[.int .i64 a1_0, .string a1_1, .int .i64 a1_2, .string (⟨#[]⟩ : ByteArray), .slice none 0 0]) ?_ 3 _ rfl; (with_reducible repeat first | apply bDn | apply bDr | apply bAl); refine bPu (cs := #[.int .i64 a1_0, .string a1_1, .int .i64 0, .string (⟨#[]⟩ : ByteArray), .slice none 0 0]) ?_ 2 _ rfl; (with_reducible repeat first | apply bDn | apply bDr | apply bAl); refine bPu (cs := #[.int .i64 a1_0, .string (⟨#[]⟩ : ByteArray), .int .i64 0, .string (⟨#[]⟩ : ByteArray), .slice none 0 0]) ?_ 1 _ rfl; (with_reducible repeat first | apply bDn | apply bDr | apply bAl); refine bPu (cs := #[.int .i64 0, .string (⟨#[]⟩ : ByteArray), .int .i64 0, .string (⟨#[]⟩ : ByteArray), .slice none 0 0]) ?_ 0 _ rfl; (with_reducible repeat first | apply bDn | apply bDr | apply bAl); refine bFr ?_ NB169_168.out _; (with_reducible repeat first | apply bDn | apply bDr | apply bAl); exact BK169.out) Try.underlying31 rfl (by kernel_rfl)) rfl ?_
                exact ⟨_, by first | rfl | (simp [eWn, eWs] <;> rfl) | (simp only [← hji22]; first | rfl | (simp [eWn, eWs] <;> rfl)) | (simp [*, eWn, eWs] <;> rfl), by (with_reducible repeat (first | apply Kd.V_alloc | apply Kd.V_drewN | apply Kd.V_drew)); exact Kd.V_mono (Kd.V_far (p := ⟨gb169, 4, none⟩) (Kd.V_far (p := ⟨gb169, 3, none⟩) (Kd.V_far (p := ⟨gb169, 2, none⟩) (Kd.V_far (p := ⟨gb169, 1, none⟩) (Kd.V_far (p := ⟨gb169, 0, none⟩) (Kd.V_far (p := ⟨gb168, 4, none⟩) (Kd.V_mono (Kd.V_mono HO174.out (fun k_ hk => (⟨hk, hk.1.2⟩ : _ ∧ k_ ≠ gb168))) (fun k_ hk => (⟨hk, hk.1.2⟩ : _ ∧ k_ ≠ gb169))) (fun _ hk => hk.1.2) (.slice A1_4 y170.length c1_4)) (fun _ hk => hk.2) (.int .i64 a1_0)) (fun _ hk => hk.2) (.string a1_1)) (fun _ hk => hk.2) (.int .i64 a1_2)) (fun _ hk => hk.2) (.string a1_3)) (fun _ hk => hk.2) (.slice A1_4 y170.length c1_4)) (fun _ hk => hk.1.1.1.1), by repeat (first | (with_reducible first | exact HB.out | apply aBl | apply pBd | apply dBl | refine sBl ?_ GE168.out | refine sBl ?_ GE169.out) | exact HB.out)⟩
              · rw [if_neg c24] at H
                exact absurd H (by simp)
            · rw [if_neg c23] at H
              exact absurd H (by simp)
          · rw [if_neg c21] at H
            have c21b0 : decide (0 < (l1_4.length : Int)) = false := decide_eq_false c21
            have c21b1 : decide (0 < l1_4.length) = false := decide_eq_false (by omega)
            clear c21
            simp only [Option.some.injEq, Prod.mk.injEq] at H
            obtain ⟨rfl, rfl, rfl, rfl, rfl⟩ := H
            go_enter Try.func9, Try.ntmps9
            go_wp2_with (first | ((with_reducible refine gDs (N := 3) rfl ?_); refine bEv ?hg (N := 3) ?hd (cs := #[.int .i64 a1_0, .string a1_1, .int .i64 a1_2, .string a1_3, .slice A1_4 l1_4.length c1_4]) (t := 31) ?hr ?_; (case hd => rfl); (case hg => rfl); (case hr => first | (go_simp; done) | (go_simp; rfl)); intro gb168 hg w31 hbox hb; have n0_ := AsZ.mk (Kd.V_below (Kd.V_elderB (by (with_reducible repeat (first | apply Kd.V_alloc | apply Kd.V_drewN | apply Kd.V_drew)); exact HO1_4.out) gb168 (Nat.le_of_eq hg.symm)) hb); have n1_ := AsZ.mk (tBl (by repeat (first | (with_reducible first | exact HB.out | apply aBl | apply pBd | apply dBl) | exact HB.out)) hb); have n2_ := AsZ.mk (hbox); have n3_ := AsZ.mk ((by rw [hg]; exact (zBl (by repeat (first | (with_reducible first | exact HB.out | apply aBl | apply pBd | apply dBl) | exact HB.out))) : w.heap.size ≤ gb168)); have n4_ := AsZ.mk ((by rw [hg]; exact (zBl (by repeat (first | (with_reducible first | exact HB.out | apply aBl | apply pBd | apply dBl) | exact HB.out))) : w.heap.size ≤ gb168)); clear HO1_4; clear HB; have HO1_4 := n0_; have HB := n1_; have BK168 := n2_; have GW168 := n3_; have GE168 := n4_; clear n0_ n1_ n2_ n3_ n4_; clear hb hbox hg) | ((with_reducible refine gDs (N := 4) rfl ?_); refine bEv ?hg (N := 4) ?hd (cs := #[.int .i64 0, .string (⟨#[]⟩ : ByteArray), .int .i64 0, .string (⟨#[]⟩ : ByteArray), .slice none 0 0]) (t := 31) ?hr ?_; (case hd => rfl); (case hg => rfl); (case hr => first | (go_simp; done) | (go_simp; rfl)); intro gb169 hg w32 hbox hb; have n0_ := AsZ.mk (Kd.V_below (Kd.V_elderB (by (with_reducible repeat (first | apply Kd.V_alloc | apply Kd.V_drewN | apply Kd.V_drew)); exact HO1_4.out) gb169 (Nat.le_of_eq hg.symm)) hb); have n1_ := AsZ.mk (bBl (g := gb168) (o := .cells #[.int .i64 a1_0, .string a1_1, .int .i64 a1_2, .string a1_3, .slice A1_4 l1_4.length c1_4] 31 (0, 0)) (by (with_reducible repeat first | apply bDn | apply bDr | apply bAl); exact BK168.out) hb); have n2_ := AsZ.mk (tBl (by repeat (first | (with_reducible first | exact HB.out | apply aBl | apply pBd | apply dBl | refine sBl ?_ GE168.out) | exact HB.out)) hb); have n3_ := AsZ.mk (hbox); have n4_ := AsZ.mk ((by rw [hg]; exact (zBl (by repeat (first | (with_reducible first | exact HB.out | apply aBl | apply pBd | apply dBl | refine sBl ?_ GE168.out) | exact HB.out))) : w.heap.size ≤ gb169)); have n5_ := AsZ.mk ((by rw [hg]; exact (zBl (by repeat (first | (with_reducible first | exact HB.out | apply aBl | apply pBd | apply dBl | refine sBl ?_ GE168.out) | exact HB.out))) : w.heap.size ≤ gb169)); have n6_ := AsZ.mk ((by rw [hg]; exact Nat.ne_of_lt (bLt (g := gb168) (o := .cells #[.int .i64 a1_0, .string a1_1, .int .i64 a1_2, .string a1_3, .slice A1_4 l1_4.length c1_4] 31 (0, 0)) (by (with_reducible repeat first | apply bDn | apply bDr | apply bAl); exact BK168.out)) : gb168 ≠ gb169)); have n7_ := AsZ.mk ((by rw [hg]; exact Nat.ne_of_gt (bLt (g := gb168) (o := .cells #[.int .i64 a1_0, .string a1_1, .int .i64 a1_2, .string a1_3, .slice A1_4 l1_4.length c1_4] 31 (0, 0)) (by (with_reducible repeat first | apply bDn | apply bDr | apply bAl); exact BK168.out)) : gb169 ≠ gb168)); clear HO1_4; clear BK168; clear HB; have HO1_4 := n0_; have BK168 := n1_; have HB := n2_; have BK169 := n3_; have GW169 := n4_; have GE169 := n5_; have NB168_169 := n6_; have NB169_168 := n7_; clear n0_ n1_ n2_ n3_ n4_ n5_ n6_ n7_; clear hb hbox hg; have hnb33 := NB168_169.out; have hnc33 := NB169_168.out; obtain ⟨hcz34_0, hcz34_1, hcz34_2, hcz34_3, hcz34_4⟩ := celN5 BK168.out; obtain ⟨hfz34_0, hfz34_1, hfz34_2, hfz34_3, hfz34_4⟩ := fzN5 BK168.out; obtain ⟨hcz35_0, hcz35_1, hcz35_2, hcz35_3, hcz35_4⟩ := celN5 BK169.out; obtain ⟨hfz35_0, hfz35_1, hfz35_2, hfz35_3, hfz35_4⟩ := fzN5 BK169.out))
            refine bodyPost_ret (results_cell_row rfl _ _ gb169 31 #[.int .i64 a1_0, .string a1_1, .int .i64 a1_2, .string a1_3, .slice A1_4 l1_4.length c1_4] (0, 0) _ rfl (by (with_reducible repeat first | apply bDn | apply bDr | apply bAl); refine bPu (cs := #[.int .i64 a1_0, .string a1_1, .int .i64 a1_2, .string a1_3, .slice none 0 0]) ?_ 4 _ rfl; (with_reducible repeat first | apply bDn | apply bDr | apply bAl); refine bPu (cs := #[.int .i64 a1_0, .string a1_1, .int .i64 a1_2, .string (⟨#[]⟩ : ByteArray), .slice none 0 0]) ?_ 3 _ rfl; (with_reducible repeat first | apply bDn | apply bDr | apply bAl); refine bPu (cs := #[.int .i64 a1_0, .string a1_1, .int .i64 0, .string (⟨#[]⟩ : ByteArray), .slice none 0 0]) ?_ 2 _ rfl; (with_reducible repeat first | apply bDn | apply bDr | apply bAl); refine bPu (cs := #[.int .i64 a1_0, .string (⟨#[]⟩ : ByteArray), .int .i64 0, .string (⟨#[]⟩ : ByteArray), .slice none 0 0]) ?_ 1 _ rfl; (with_reducible repeat first | apply bDn | apply bDr | apply bAl); refine bPu (cs := #[.int .i64 0, .string (⟨#[]⟩ : ByteArray), .int .i64 0, .string (⟨#[]⟩ : ByteArray), .slice none 0 0]) ?_ 0 _ rfl; (with_reducible repeat first | apply bDn | apply bDr | apply bAl); exact BK169.out) Try.underlying31 rfl (by kernel_rfl)) rfl ?_
            exact ⟨_, by first | rfl | (simp [eWn, eWs] <;> rfl) | (simp [*, eWn, eWs] <;> rfl), by (with_reducible repeat (first | apply Kd.V_alloc | apply Kd.V_drewN | apply Kd.V_drew)); exact Kd.V_mono (Kd.V_far (p := ⟨gb169, 4, none⟩) (Kd.V_far (p := ⟨gb169, 3, none⟩) (Kd.V_far (p := ⟨gb169, 2, none⟩) (Kd.V_far (p := ⟨gb169, 1, none⟩) (Kd.V_far (p := ⟨gb169, 0, none⟩) (Kd.V_mono HO1_4.out (fun k_ hk => (⟨hk, hk.2⟩ : _ ∧ k_ ≠ gb169))) (fun _ hk => hk.2) (.int .i64 a1_0)) (fun _ hk => hk.2) (.string a1_1)) (fun _ hk => hk.2) (.int .i64 a1_2)) (fun _ hk => hk.2) (.string a1_3)) (fun _ hk => hk.2) (.slice A1_4 l1_4.length c1_4)) (fun _ hk => hk.1.1.1), by repeat (first | (with_reducible first | exact HB.out | apply aBl | apply pBd | apply dBl | refine sBl ?_ GE168.out | refine sBl ?_ GE169.out) | exact HB.out)⟩
        · rw [if_neg c20] at H
          have c20b0 : (a0 == 2) = false := beq_eq_false_iff_ne.mpr c20
          have c20b1 : (a0 != 2) = true := bne_iff_ne.mpr c20
          by_cases c36 : a0 = 3
          · rw [if_pos c36] at H
            have c36b0 : (a0 == 3) = true := beq_iff_eq.mpr c36
            have c36b1 : (a0 != 3) = false := bne_eq_false_iff_eq.mpr c36
            clear c36
            replace H := Option.bind_eq_some_iff.mp H
            obtain ⟨⟨t175, t176, t177, t178, t179⟩, A370, H⟩ := H
            replace H : (if t179 = 0 then (if t175 = true then ((r4PC.f k t175 (wrap64 (t176 + 1)) (wrap64 (t177 + 1)) t178).bind fun t181 => (some (a1_0, a1_1, a1_2, t181, l1_4))) else (some (a1_0, a1_1, a1_2, a1_3, l1_4))) else (some (a1_0, a1_1, a1_2, a1_3, l1_4))) = some (r1, r2, r3, r4, r5) := H
            have A37 := AsZ.mk A370
            clear A370
            by_cases c38 : t179 = 0
            · rw [if_pos c38] at H
              have c38b0 : (t179 == 0) = true := beq_iff_eq.mpr c38
              have c38b1 : (t179 != 0) = false := bne_eq_false_iff_eq.mpr c38
              clear c38
              by_cases c39 : t175 = true
              · subst c39
                have H1 : ((r4PC.f k true (wrap64 (t176 + 1)) (wrap64 (t177 + 1)) t178).bind fun t181 => (some (a1_0, a1_1, a1_2, t181, l1_4))) = some (r1, r2, r3, r4, r5) := by rw [if_pos rfl] at H; exact H
                clear H
                have H := H1
                clear H1
                replace H := Option.bind_eq_some_iff.mp H
                obtain ⟨t181, A400, H⟩ := H
                replace H : (some (a1_0, a1_1, a1_2, t181, l1_4)) = some (r1, r2, r3, r4, r5) := H
                have A40 := AsZ.mk A400
                clear A400
                simp only [Option.some.injEq, Prod.mk.injEq] at H
                obtain ⟨rfl, rfl, rfl, rfl, rfl⟩ := H
                go_enter Try.func9, Try.ntmps9
                go_upto_region 16 with (first | ((with_reducible refine gDs (N := 3) rfl ?_); refine bEv ?hg (N := 3) ?hd (cs := #[.int .i64 a1_0, .string a1_1, .int .i64 a1_2, .string a1_3, .slice A1_4 l1_4.length c1_4]) (t := 31) ?hr ?_; (case hd => rfl); (case hg => rfl); (case hr => first | (go_simp; done) | (go_simp; rfl)); intro gb168 hg w41 hbox hb; have n0_ := AsZ.mk (Kd.V_below (Kd.V_elderB (by (with_reducible repeat (first | apply Kd.V_alloc | apply Kd.V_drewN | apply Kd.V_drew)); exact HO1_4.out) gb168 (Nat.le_of_eq hg.symm)) hb); have n1_ := AsZ.mk (tBl (by repeat (first | (with_reducible first | exact HB.out | apply aBl | apply pBd | apply dBl) | exact HB.out)) hb); have n2_ := AsZ.mk (hbox); have n3_ := AsZ.mk ((by rw [hg]; exact (zBl (by repeat (first | (with_reducible first | exact HB.out | apply aBl | apply pBd | apply dBl) | exact HB.out))) : w.heap.size ≤ gb168)); have n4_ := AsZ.mk ((by rw [hg]; exact (zBl (by repeat (first | (with_reducible first | exact HB.out | apply aBl | apply pBd | apply dBl) | exact HB.out))) : w.heap.size ≤ gb168)); clear HO1_4; clear HB; have HO1_4 := n0_; have HB := n1_; have BK168 := n2_; have GW168 := n3_; have GE168 := n4_; clear n0_ n1_ n2_ n3_ n4_; clear hb hbox hg) | ((with_reducible refine gDs (N := 4) rfl ?_); refine bEv ?hg (N := 4) ?hd (cs := #[.int .i64 0, .string (⟨#[]⟩ : ByteArray), .int .i64 0, .string (⟨#[]⟩ : ByteArray), .slice none 0 0]) (t := 31) ?hr ?_; (case hd => rfl); (case hg => rfl); (case hr => first | (go_simp; done) | (go_simp; rfl)); intro gb169 hg w42 hbox hb; have n0_ := AsZ.mk (Kd.V_below (Kd.V_elderB (by (with_reducible repeat (first | apply Kd.V_alloc | apply Kd.V_drewN | apply Kd.V_drew)); exact HO1_4.out) gb169 (Nat.le_of_eq hg.symm)) hb); have n1_ := AsZ.mk (bBl (g := gb168) (o := .cells #[.int .i64 a1_0, .string a1_1, .int .i64 a1_2, .string a1_3, .slice A1_4 l1_4.length c1_4] 31 (0, 0)) (by (with_reducible repeat first | apply bDn | apply bDr | apply bAl); exact BK168.out) hb); have n2_ := AsZ.mk (tBl (by repeat (first | (with_reducible first | exact HB.out | apply aBl | apply pBd | apply dBl | refine sBl ?_ GE168.out) | exact HB.out)) hb); have n3_ := AsZ.mk (hbox); have n4_ := AsZ.mk ((by rw [hg]; exact (zBl (by repeat (first | (with_reducible first | exact HB.out | apply aBl | apply pBd | apply dBl | refine sBl ?_ GE168.out) | exact HB.out))) : w.heap.size ≤ gb169)); have n5_ := AsZ.mk ((by rw [hg]; exact (zBl (by repeat (first | (with_reducible first | exact HB.out | apply aBl | apply pBd | apply dBl | refine sBl ?_ GE168.out) | exact HB.out))) : w.heap.size ≤ gb169)); have n6_ := AsZ.mk ((by rw [hg]; exact Nat.ne_of_lt (bLt (g := gb168) (o := .cells #[.int .i64 a1_0, .string a1_1, .int .i64 a1_2, .string a1_3, .slice A1_4 l1_4.length c1_4] 31 (0, 0)) (by (with_reducible repeat first | apply bDn | apply bDr | apply bAl); exact BK168.out)) : gb168 ≠ gb169)); have n7_ := AsZ.mk ((by rw [hg]; exact Nat.ne_of_gt (bLt (g := gb168) (o := .cells #[.int .i64 a1_0, .string a1_1, .int .i64 a1_2, .string a1_3, .slice A1_4 l1_4.length c1_4] 31 (0, 0)) (by (with_reducible repeat first | apply bDn | apply bDr | apply bAl); exact BK168.out)) : gb169 ≠ gb168)); clear HO1_4; clear BK168; clear HB; have HO1_4 := n0_; have BK168 := n1_; have HB := n2_; have BK169 := n3_; have GW169 := n4_; have GE169 := n5_; have NB168_169 := n6_; have NB169_168 := n7_; clear n0_ n1_ n2_ n3_ n4_ n5_ n6_ n7_; clear hb hbox hg; have hnb43 := NB168_169.out; have hnc43 := NB169_168.out; obtain ⟨hcz44_0, hcz44_1, hcz44_2, hcz44_3, hcz44_4⟩ := celN5 BK168.out; obtain ⟨hfz44_0, hfz44_1, hfz44_2, hfz44_3, hfz44_4⟩ := fzN5 BK168.out) | ((with_reducible refine gCa (f := 17) rfl ?_); refine gLl (some 39) rfl rfl Try.func17 (by kernel_rfl) rfl #[.string a1_3] rfl (by (try simp only [List.map_toArray, List.map_cons, List.map_nil]); first | done | rfl | (simp only [List.length_drop, List.length_take]; rfl)) ?_; (with_reducible refine (r4Cont.calls k a1_3 true t176 t177 t178 t179 _ A37.out).mono ?_); rintro e w45 ⟨rfl, hb⟩; refine ⟨_, rfl, ?_⟩; have n0_ := AsZ.mk (Kd.V_below (by (with_reducible repeat (first | apply Kd.V_alloc | apply Kd.V_drewN | apply Kd.V_drew)); exact HO1_4.out) hb); have n1_ := AsZ.mk (bBl (g := gb168) (o := .cells #[.int .i64 a1_0, .string a1_1, .int .i64 a1_2, .string a1_3, .slice A1_4 l1_4.length c1_4] 31 (0, 0)) (by (with_reducible repeat first | apply bDn | apply bDr | apply bAl); exact BK168.out) hb); have n2_ := AsZ.mk (bBl (g := gb169) (o := .cells #[.int .i64 0, .string (⟨#[]⟩ : ByteArray), .int .i64 0, .string (⟨#[]⟩ : ByteArray), .slice none 0 0] 31 (0, 0)) (by (with_reducible repeat first | apply bDn | apply bDr | apply bAl); exact BK169.out) hb); have n3_ := AsZ.mk (tBl (by repeat (first | (with_reducible first | exact HB.out | apply aBl | apply pBd | apply dBl | refine sBl ?_ GE168.out | refine sBl ?_ GE169.out) | exact HB.out)) hb); clear HO1_4; clear BK168; clear BK169; clear HB; have HO1_4 := n0_; have BK168 := n1_; have BK169 := n2_; have HB := n3_; clear n0_ n1_ n2_ n3_; (try clear hb); (try clear hb2); (try clear hk); (try clear hi)) | ((with_reducible refine gDs (N := 5) rfl ?_); refine bEv ?hg (N := 5) ?hd (cs := #[.bool false, .int .i64 0, .int .i64 0, .int .i64 0]) (t := 40) ?hr ?_; (case hd => rfl); (case hg => rfl); (case hr => first | (go_simp; done) | (go_simp; rfl)); intro gb180 hg w46 hbox hb; have n0_ := AsZ.mk (Kd.V_below (Kd.V_elderB (by (with_reducible repeat (first | apply Kd.V_alloc | apply Kd.V_drewN | apply Kd.V_drew)); exact HO1_4.out) gb180 (Nat.le_of_eq hg.symm)) hb); have n1_ := AsZ.mk (bBl (g := gb168) (o := .cells #[.int .i64 a1_0, .string a1_1, .int .i64 a1_2, .string a1_3, .slice A1_4 l1_4.length c1_4] 31 (0, 0)) (by (with_reducible repeat first | apply bDn | apply bDr | apply bAl); exact BK168.out) hb); have n2_ := AsZ.mk (bBl (g := gb169) (o := .cells #[.int .i64 0, .string (⟨#[]⟩ : ByteArray), .int .i64 0, .string (⟨#[]⟩ : ByteArray), .slice none 0 0] 31 (0, 0)) (by (with_reducible repeat first | apply bDn | apply bDr | apply bAl); exact BK169.out) hb); have n3_ := AsZ.mk (tBl (by repeat (first | (with_reducible first | exact HB.out | apply aBl | apply pBd | apply dBl | refine sBl ?_ GE168.out | refine sBl ?_ GE169.out) | exact HB.out)) hb); have n4_ := AsZ.mk (hbox); have n5_ := AsZ.mk ((by rw [hg]; exact (zBl (by repeat (first | (with_reducible first | exact HB.out | apply aBl | apply pBd | apply dBl | refine sBl ?_ GE168.out | refine sBl ?_ GE169.out) | exact HB.out))) : w.heap.size ≤ gb180)); have n6_ := AsZ.mk ((by rw [hg]; exact (zBl (by repeat (first | (with_reducible first | exact HB.out | apply aBl | apply pBd | apply dBl | refine sBl ?_ GE168.out | refine sBl ?_ GE169.out) | exact HB.out))) : w.heap.size ≤ gb180)); have n7_ := AsZ.mk ((by rw [hg]; exact Nat.ne_of_lt (bLt (g := gb168) (o := .cells #[.int .i64 a1_0, .string a1_1, .int .i64 a1_2, .string a1_3, .slice A1_4 l1_4.length c1_4] 31 (0, 0)) (by (with_reducible repeat first | apply bDn | apply bDr | apply bAl); exact BK168.out)) : gb168 ≠ gb180)); have n8_ := AsZ.mk ((by rw [hg]; exact Nat.ne_of_gt (bLt (g := gb168) (o := .cells #[.int .i64 a1_0, .string a1_1, .int .i64 a1_2, .string a1_3, .slice A1_4 l1_4.length c1_4] 31 (0, 0)) (by (with_reducible repeat first | apply bDn | apply bDr | apply bAl); exact BK168.out)) : gb180 ≠ gb168)); have n9_ := AsZ.mk ((by rw [hg]; exact Nat.ne_of_lt (bLt (g := gb169) (o := .cells #[.int .i64 0, .string (⟨#[]⟩ : ByteArray), .int .i64 0, .string (⟨#[]⟩ : ByteArray), .slice none 0 0] 31 (0, 0)) (by (with_reducible repeat first | apply bDn | apply bDr | apply bAl); exact BK169.out)) : gb169 ≠ gb180)); have n10_ := AsZ.mk ((by rw [hg]; exact Nat.ne_of_gt (bLt (g := gb169) (o := .cells #[.int .i64 0, .string (⟨#[]⟩ : ByteArray), .int .i64 0, .string (⟨#[]⟩ : ByteArray), .slice none 0 0] 31 (0, 0)) (by (with_reducible repeat first | apply bDn | apply bDr | apply bAl); exact BK169.out)) : gb180 ≠ gb169)); clear HO1_4; clear BK168; clear BK169; clear HB; have HO1_4 := n0_; have BK168 := n1_; have BK169 := n2_; have HB := n3_; have BK180 := n4_; have GW180 := n5_; have GE180 := n6_; have NB168_180 := n7_; have NB180_168 := n8_; have NB169_180 := n9_; have NB180_169 := n10_; clear n0_ n1_ n2_ n3_ n4_ n5_ n6_ n7_ n8_ n9_ n10_; clear hb hbox hg; have hnb47 := NB180_168.out; have hnc47 := NB168_180.out; have hnb48 := NB180_169.out; have hnc48 := NB169_180.out; obtain ⟨hcz49_0, hcz49_1, hcz49_2, hcz49_3⟩ := celN4 BK180.out; obtain ⟨hfz49_0, hfz49_1, hfz49_2, hfz49_3⟩ := fzN4 BK180.out))
                obtain ⟨W9_, hW9_⟩ : ∃ W9_ : World, W9_ = ((((((w46.setCell ⟨gb180, 0, none⟩ (.bool true)).setCell ⟨gb180, 1, none⟩ (.int .i64 t176)).setCell ⟨gb180, 2, none⟩ (.int .i64 t177)).setCell ⟨gb180, 3, none⟩ (.int .i64 t178)).setCell ⟨gb180, 1, none⟩ (.int .i64 (wrap64 (t176 + 1)))).setCell ⟨gb180, 2, none⟩ (.int .i64 (wrap64 (t177 + 1)))) := ⟨_, rfl⟩
                have m0_ := AsZ.mk (Kd.V_mono (Kd.V_far (p := ⟨gb180, 2, none⟩) (Kd.V_far (p := ⟨gb180, 1, none⟩) (Kd.V_far (p := ⟨gb180, 3, none⟩) (Kd.V_far (p := ⟨gb180, 2, none⟩) (Kd.V_far (p := ⟨gb180, 1, none⟩) (Kd.V_far (p := ⟨gb180, 0, none⟩) (Kd.V_mono HO1_4.out (fun k_ hk => (⟨hk, hk.2⟩ : _ ∧ k_ ≠ gb180))) (fun _ hk => hk.2) (.bool true)) (fun _ hk => hk.2) (.int .i64 t176)) (fun _ hk => hk.2) (.int .i64 t177)) (fun _ hk => hk.2) (.int .i64 t178)) (fun _ hk => hk.2) (.int .i64 (wrap64 (t176 + 1)))) (fun _ hk => hk.2) (.int .i64 (wrap64 (t177 + 1)))) (fun _ h_ => h_.1))
                rw [← hW9_] at m0_
                have m1_ := AsZ.mk (show W9_.heap[gb168]? = some (.cells #[.int .i64 a1_0, .string a1_1, .int .i64 a1_2, .string a1_3, .slice A1_4 l1_4.length c1_4] 31 (0, 0)) from by rw [hW9_]; exact (by (with_reducible repeat first | apply bDn | apply bDr | apply bAl); refine bFr ?_ NB168_180.out _; (with_reducible repeat first | apply bDn | apply bDr | apply bAl); refine bFr ?_ NB168_180.out _; (with_reducible repeat first | apply bDn | apply bDr | apply bAl); refine bFr ?_ NB168_180.out _; (with_reducible repeat first | apply bDn | apply bDr | apply bAl); refine bFr ?_ NB168_180.out _; (with_reducible repeat first | apply bDn | apply bDr | apply bAl); refine bFr ?_ NB168_180.out _; (with_reducible repeat first | apply bDn | apply bDr | apply bAl); refine bFr ?_ NB168_180.out _; (with_reducible repeat first | apply bDn | apply bDr | apply bAl); exact BK168.out))
                have m2_ := AsZ.mk (show W9_.heap[gb169]? = some (.cells #[.int .i64 0, .string (⟨#[]⟩ : ByteArray), .int .i64 0, .string (⟨#[]⟩ : ByteArray), .slice none 0 0] 31 (0, 0)) from by rw [hW9_]; exact (by (with_reducible repeat first | apply bDn | apply bDr | apply bAl); refine bFr ?_ NB169_180.out _; (with_reducible repeat first | apply bDn | apply bDr | apply bAl); refine bFr ?_ NB169_180.out _; (with_reducible repeat first | apply bDn | apply bDr | apply bAl); refine bFr ?_ NB169_180.out _; (with_reducible repeat first | apply bDn | apply bDr | apply bAl); refine bFr ?_ NB169_180.out _; (with_reducible repeat first | apply bDn | apply bDr | apply bAl); refine bFr ?_ NB169_180.out _; (with_reducible repeat first | apply bDn | apply bDr | apply bAl); refine bFr ?_ NB169_180.out _; (with_reducible repeat first | apply bDn | apply bDr | apply bAl); exact BK169.out))
                have m3_ := AsZ.mk (show W9_.heap[gb180]? = some (.cells #[.bool true, .int .i64 (wrap64 (t176 + 1)), .int .i64 (wrap64 (t177 + 1)), .int .i64 t178] 40 (0, 0)) from by rw [hW9_]; exact (by (with_reducible repeat first | apply bDn | apply bDr | apply bAl); refine bPu (cs := #[.bool true, .int .i64 (wrap64 (t176 + 1)), .int .i64 t177, .int .i64 t178]) ?_ 2 _ rfl; (with_reducible repeat first | apply bDn | apply bDr | apply bAl); refine bPu (cs := #[.bool true, .int .i64 t176, .int .i64 t177, .int .i64 t178]) ?_ 1 _ rfl; (with_reducible repeat first | apply bDn | apply bDr | apply bAl); refine bPu (cs := #[.bool true, .int .i64 t176, .int .i64 t177, .int .i64 0]) ?_ 3 _ rfl; (with_reducible repeat first | apply bDn | apply bDr | apply bAl); refine bPu (cs := #[.bool true, .int .i64 t176, .int .i64 0, .int .i64 0]) ?_ 2 _ rfl; (with_reducible repeat first | apply bDn | apply bDr | apply bAl); refine bPu (cs := #[.bool true, .int .i64 0, .int .i64 0, .int .i64 0]) ?_ 1 _ rfl; (with_reducible repeat first | apply bDn | apply bDr | apply bAl); refine bPu (cs := #[.bool false, .int .i64 0, .int .i64 0, .int .i64 0]) ?_ 0 _ rfl; (with_reducible repeat first | apply bDn | apply bDr | apply bAl); exact BK180.out))
                have m4_ := AsZ.mk (show Below w.heap.size w W9_ from by rw [hW9_]; (repeat (first | (with_reducible first | exact HB.out | apply aBl | apply pBd | apply dBl | refine sBl ?_ GE168.out | refine sBl ?_ GE169.out | refine sBl ?_ GE180.out) | exact HB.out)))
                rw [← hW9_]
                clear hW9_
                clear HO1_4
                clear BK168
                clear BK169
                clear BK180
                clear HB
                have HO1_4 := m0_
                have BK168 := m1_
                have BK169 := m2_
                have BK180 := m3_
                have HB := m4_
                clear m0_ m1_ m2_ m3_ m4_
                have hqgb168_0 : W9_.cell? ⟨gb168, 0, none⟩ = some (.int .i64 a1_0) := (bCe BK168.out 0).trans rfl
                have hfgb168_0 := bFz BK168.out 0
                have hqgb168_1 : W9_.cell? ⟨gb168, 1, none⟩ = some (.string a1_1) := (bCe BK168.out 1).trans rfl
                have hfgb168_1 := bFz BK168.out 1
                have hqgb168_2 : W9_.cell? ⟨gb168, 2, none⟩ = some (.int .i64 a1_2) := (bCe BK168.out 2).trans rfl
                have hfgb168_2 := bFz BK168.out 2
                have hqgb168_3 : W9_.cell? ⟨gb168, 3, none⟩ = some (.string a1_3) := (bCe BK168.out 3).trans rfl
                have hfgb168_3 := bFz BK168.out 3
                have hqgb168_4 : W9_.cell? ⟨gb168, 4, none⟩ = some (.slice A1_4 l1_4.length c1_4) := (bCe BK168.out 4).trans rfl
                have hfgb168_4 := bFz BK168.out 4
                have hqgb169_0 : W9_.cell? ⟨gb169, 0, none⟩ = some (.int .i64 0) := (bCe BK169.out 0).trans rfl
                have hfgb169_0 := bFz BK169.out 0
                have hqgb169_1 : W9_.cell? ⟨gb169, 1, none⟩ = some (.string (⟨#[]⟩ : ByteArray)) := (bCe BK169.out 1).trans rfl
                have hfgb169_1 := bFz BK169.out 1
                have hqgb169_2 : W9_.cell? ⟨gb169, 2, none⟩ = some (.int .i64 0) := (bCe BK169.out 2).trans rfl
                have hfgb169_2 := bFz BK169.out 2
                have hqgb169_3 : W9_.cell? ⟨gb169, 3, none⟩ = some (.string (⟨#[]⟩ : ByteArray)) := (bCe BK169.out 3).trans rfl
                have hfgb169_3 := bFz BK169.out 3
                have hqgb169_4 : W9_.cell? ⟨gb169, 4, none⟩ = some (.slice none 0 0) := (bCe BK169.out 4).trans rfl
                have hfgb169_4 := bFz BK169.out 4
                have hqgb180_0 : W9_.cell? ⟨gb180, 0, none⟩ = some (.bool true) := (bCe BK180.out 0).trans rfl
                have hfgb180_0 := bFz BK180.out 0
                have hqgb180_1 : W9_.cell? ⟨gb180, 1, none⟩ = some (.int .i64 (wrap64 (t176 + 1))) := (bCe BK180.out 1).trans rfl
                have hfgb180_1 := bFz BK180.out 1
                have hqgb180_2 : W9_.cell? ⟨gb180, 2, none⟩ = some (.int .i64 (wrap64 (t177 + 1))) := (bCe BK180.out 2).trans rfl
                have hfgb180_2 := bFz BK180.out 2
                have hqgb180_3 : W9_.cell? ⟨gb180, 3, none⟩ = some (.int .i64 t178) := (bCe BK180.out 3).trans rfl
                have hfgb180_3 := bFz BK180.out 3
                go_wp2_with (first | ((with_reducible refine gCa (f := 14) rfl ?_); refine gLl (some 61) rfl rfl Try.func14 (by kernel_rfl) rfl #[.agg #[.bool true, .int .i64 (wrap64 (t176 + 1)), .int .i64 (wrap64 (t177 + 1)), .int .i64 t178]] rfl (by (try simp only [List.map_toArray, List.map_cons, List.map_nil]); first | done | rfl | (simp only [List.length_drop, List.length_take]; rfl)) ?_; (with_reducible refine (r4PC.calls k true (wrap64 (t176 + 1)) (wrap64 (t177 + 1)) t178 t181 _ A40.out).mono ?_); rintro e w50 ⟨rfl, hb⟩; refine ⟨_, rfl, ?_⟩; have n0_ := AsZ.mk (Kd.V_below HO1_4.out hb); have n1_ := AsZ.mk (bBl (g := gb168) (o := .cells #[.int .i64 a1_0, .string a1_1, .int .i64 a1_2, .string a1_3, .slice A1_4 l1_4.length c1_4] 31 (0, 0)) BK168.out hb); have n2_ := AsZ.mk (bBl (g := gb169) (o := .cells #[.int .i64 0, .string (⟨#[]⟩ : ByteArray), .int .i64 0, .string (⟨#[]⟩ : ByteArray), .slice none 0 0] 31 (0, 0)) BK169.out hb); have n3_ := AsZ.mk (bBl (g := gb180) (o := .cells #[.bool true, .int .i64 (wrap64 (t176 + 1)), .int .i64 (wrap64 (t177 + 1)), .int .i64 t178] 40 (0, 0)) BK180.out hb); have n4_ := AsZ.mk (tBl HB.out hb); clear HO1_4; clear BK168; clear BK169; clear BK180; clear HB; have HO1_4 := n0_; have BK168 := n1_; have BK169 := n2_; have BK180 := n3_; have HB := n4_; clear n0_ n1_ n2_ n3_ n4_; (try clear hb); (try clear hb2); (try clear hk); (try clear hi); obtain ⟨hcz51_0, hcz51_1, hcz51_2, hcz51_3, hcz51_4⟩ := celN5 BK168.out; obtain ⟨hfz51_0, hfz51_1, hfz51_2, hfz51_3, hfz51_4⟩ := fzN5 BK168.out; obtain ⟨hcz52_0, hcz52_1, hcz52_2, hcz52_3, hcz52_4⟩ := celN5 BK169.out; obtain ⟨hfz52_0, hfz52_1, hfz52_2, hfz52_3, hfz52_4⟩ := fzN5 BK169.out))
                refine bodyPost_ret (results_cell_row rfl _ _ gb169 31 #[.int .i64 a1_0, .string a1_1, .int .i64 a1_2, .string t181, .slice A1_4 l1_4.length c1_4] (0, 0) _ rfl (by (with_reducible repeat first | apply bDn | apply bDr | apply bAl); refine bPu (cs := #[.int .i64 a1_0, .string a1_1, .int .i64 a1_2, .string t181, .slice none 0 0]) ?_ 4 _ rfl; (with_reducible repeat first | apply bDn | apply bDr | apply bAl); refine bPu (cs := #[.int .i64 a1_0, .string a1_1, .int .i64 a1_2, .string (⟨#[]⟩ : ByteArray), .slice none 0 0]) ?_ 3 _ rfl; (with_reducible repeat first | apply bDn | apply bDr | apply bAl); refine bPu (cs := #[.int .i64 a1_0, .string a1_1, .int .i64 0, .string (⟨#[]⟩ : ByteArray), .slice none 0 0]) ?_ 2 _ rfl; (with_reducible repeat first | apply bDn | apply bDr | apply bAl); refine bPu (cs := #[.int .i64 a1_0, .string (⟨#[]⟩ : ByteArray), .int .i64 0, .string (⟨#[]⟩ : ByteArray), .slice none 0 0]) ?_ 1 _ rfl; (with_reducible repeat first | apply bDn | apply bDr | apply bAl); refine bPu (cs := #[.int .i64 0, .string (⟨#[]⟩ : ByteArray), .int .i64 0, .string (⟨#[]⟩ : ByteArray), .slice none 0 0]) ?_ 0 _ rfl; (with_reducible repeat first | apply bDn | apply bDr | apply bAl); refine bFr ?_ NB169_168.out _; (with_reducible repeat first | apply bDn | apply bDr | apply bAl); exact BK169.out) Try.underlying31 rfl (by kernel_rfl)) rfl ?_
                exact ⟨_, by first | rfl | (simp [eWn, eWs] <;> rfl) | (simp [*, eWn, eWs] <;> rfl), by (with_reducible repeat (first | apply Kd.V_alloc | apply Kd.V_drewN | apply Kd.V_drew)); exact Kd.V_mono (Kd.V_far (p := ⟨gb169, 4, none⟩) (Kd.V_far (p := ⟨gb169, 3, none⟩) (Kd.V_far (p := ⟨gb169, 2, none⟩) (Kd.V_far (p := ⟨gb169, 1, none⟩) (Kd.V_far (p := ⟨gb169, 0, none⟩) (Kd.V_far (p := ⟨gb168, 3, none⟩) (Kd.V_mono (Kd.V_mono HO1_4.out (fun k_ hk => (⟨hk, hk.1.1.2⟩ : _ ∧ k_ ≠ gb168))) (fun k_ hk => (⟨hk, hk.1.1.2⟩ : _ ∧ k_ ≠ gb169))) (fun _ hk => hk.1.2) (.string t181)) (fun _ hk => hk.2) (.int .i64 a1_0)) (fun _ hk => hk.2) (.string a1_1)) (fun _ hk => hk.2) (.int .i64 a1_2)) (fun _ hk => hk.2) (.string t181)) (fun _ hk => hk.2) (.slice A1_4 l1_4.length c1_4)) (fun _ hk => hk.1.1.1.1.1), by repeat (first | (with_reducible first | exact HB.out | apply aBl | apply pBd | apply dBl | refine sBl ?_ GE168.out | refine sBl ?_ GE169.out | refine sBl ?_ GE180.out) | exact HB.out)⟩
              · replace c39 := Bool.eq_false_iff.mpr c39
                subst c39
                have H1 : (some (a1_0, a1_1, a1_2, a1_3, l1_4)) = some (r1, r2, r3, r4, r5) := by rw [if_neg (show ¬ (false = true) by decide)] at H; exact H
                clear H
                have H := H1
                clear H1
                simp only [Option.some.injEq, Prod.mk.injEq] at H
                obtain ⟨rfl, rfl, rfl, rfl, rfl⟩ := H
                go_enter Try.func9, Try.ntmps9
                go_wp2_with (first | ((with_reducible refine gDs (N := 3) rfl ?_); refine bEv ?hg (N := 3) ?hd (cs := #[.int .i64 a1_0, .string a1_1, .int .i64 a1_2, .string a1_3, .slice A1_4 l1_4.length c1_4]) (t := 31) ?hr ?_; (case hd => rfl); (case hg => rfl); (case hr => first | (go_simp; done) | (go_simp; rfl)); intro gb168 hg w53 hbox hb; have n0_ := AsZ.mk (Kd.V_below (Kd.V_elderB (by (with_reducible repeat (first | apply Kd.V_alloc | apply Kd.V_drewN | apply Kd.V_drew)); exact HO1_4.out) gb168 (Nat.le_of_eq hg.symm)) hb); have n1_ := AsZ.mk (tBl (by repeat (first | (with_reducible first | exact HB.out | apply aBl | apply pBd | apply dBl) | exact HB.out)) hb); have n2_ := AsZ.mk (hbox); have n3_ := AsZ.mk ((by rw [hg]; exact (zBl (by repeat (first | (with_reducible first | exact HB.out | apply aBl | apply pBd | apply dBl) | exact HB.out))) : w.heap.size ≤ gb168)); have n4_ := AsZ.mk ((by rw [hg]; exact (zBl (by repeat (first | (with_reducible first | exact HB.out | apply aBl | apply pBd | apply dBl) | exact HB.out))) : w.heap.size ≤ gb168)); clear HO1_4; clear HB; have HO1_4 := n0_; have HB := n1_; have BK168 := n2_; have GW168 := n3_; have GE168 := n4_; clear n0_ n1_ n2_ n3_ n4_; clear hb hbox hg) | ((with_reducible refine gDs (N := 4) rfl ?_); refine bEv ?hg (N := 4) ?hd (cs := #[.int .i64 0, .string (⟨#[]⟩ : ByteArray), .int .i64 0, .string (⟨#[]⟩ : ByteArray), .slice none 0 0]) (t := 31) ?hr ?_; (case hd => rfl); (case hg => rfl); (case hr => first | (go_simp; done) | (go_simp; rfl)); intro gb169 hg w54 hbox hb; have n0_ := AsZ.mk (Kd.V_below (Kd.V_elderB (by (with_reducible repeat (first | apply Kd.V_alloc | apply Kd.V_drewN | apply Kd.V_drew)); exact HO1_4.out) gb169 (Nat.le_of_eq hg.symm)) hb); have n1_ := AsZ.mk (bBl (g := gb168) (o := .cells #[.int .i64 a1_0, .string a1_1, .int .i64 a1_2, .string a1_3, .slice A1_4 l1_4.length c1_4] 31 (0, 0)) (by (with_reducible repeat first | apply bDn | apply bDr | apply bAl); exact BK168.out) hb); have n2_ := AsZ.mk (tBl (by repeat (first | (with_reducible first | exact HB.out | apply aBl | apply pBd | apply dBl | refine sBl ?_ GE168.out) | exact HB.out)) hb); have n3_ := AsZ.mk (hbox); have n4_ := AsZ.mk ((by rw [hg]; exact (zBl (by repeat (first | (with_reducible first | exact HB.out | apply aBl | apply pBd | apply dBl | refine sBl ?_ GE168.out) | exact HB.out))) : w.heap.size ≤ gb169)); have n5_ := AsZ.mk ((by rw [hg]; exact (zBl (by repeat (first | (with_reducible first | exact HB.out | apply aBl | apply pBd | apply dBl | refine sBl ?_ GE168.out) | exact HB.out))) : w.heap.size ≤ gb169)); have n6_ := AsZ.mk ((by rw [hg]; exact Nat.ne_of_lt (bLt (g := gb168) (o := .cells #[.int .i64 a1_0, .string a1_1, .int .i64 a1_2, .string a1_3, .slice A1_4 l1_4.length c1_4] 31 (0, 0)) (by (with_reducible repeat first | apply bDn | apply bDr | apply bAl); exact BK168.out)) : gb168 ≠ gb169)); have n7_ := AsZ.mk ((by rw [hg]; exact Nat.ne_of_gt (bLt (g := gb168) (o := .cells #[.int .i64 a1_0, .string a1_1, .int .i64 a1_2, .string a1_3, .slice A1_4 l1_4.length c1_4] 31 (0, 0)) (by (with_reducible repeat first | apply bDn | apply bDr | apply bAl); exact BK168.out)) : gb169 ≠ gb168)); clear HO1_4; clear BK168; clear HB; have HO1_4 := n0_; have BK168 := n1_; have HB := n2_; have BK169 := n3_; have GW169 := n4_; have GE169 := n5_; have NB168_169 := n6_; have NB169_168 := n7_; clear n0_ n1_ n2_ n3_ n4_ n5_ n6_ n7_; clear hb hbox hg; have hnb55 := NB168_169.out; have hnc55 := NB169_168.out; obtain ⟨hcz56_0, hcz56_1, hcz56_2, hcz56_3, hcz56_4⟩ := celN5 BK168.out; obtain ⟨hfz56_0, hfz56_1, hfz56_2, hfz56_3, hfz56_4⟩ := fzN5 BK168.out) | ((with_reducible refine gCa (f := 17) rfl ?_); refine gLl (some 39) rfl rfl Try.func17 (by kernel_rfl) rfl #[.string a1_3] rfl (by (try simp only [List.map_toArray, List.map_cons, List.map_nil]); first | done | rfl | (simp only [List.length_drop, List.length_take]; rfl)) ?_; (with_reducible refine (r4Cont.calls k a1_3 false t176 t177 t178 t179 _ A37.out).mono ?_); rintro e w57 ⟨rfl, hb⟩; refine ⟨_, rfl, ?_⟩; have n0_ := AsZ.mk (Kd.V_below (by (with_reducible repeat (first | apply Kd.V_alloc | apply Kd.V_drewN | apply Kd.V_drew)); exact HO1_4.out) hb); have n1_ := AsZ.mk (bBl (g := gb168) (o := .cells #[.int .i64 a1_0, .string a1_1, .int .i64 a1_2, .string a1_3, .slice A1_4 l1_4.length c1_4] 31 (0, 0)) (by (with_reducible repeat first | apply bDn | apply bDr | apply bAl); exact BK168.out) hb); have n2_ := AsZ.mk (bBl (g := gb169) (o := .cells #[.int .i64 0, .string (⟨#[]⟩ : ByteArray), .int .i64 0, .string (⟨#[]⟩ : ByteArray), .slice none 0 0] 31 (0, 0)) (by (with_reducible repeat first | apply bDn | apply bDr | apply bAl); exact BK169.out) hb); have n3_ := AsZ.mk (tBl (by repeat (first | (with_reducible first | exact HB.out | apply aBl | apply pBd | apply dBl | refine sBl ?_ GE168.out | refine sBl ?_ GE169.out) | exact HB.out)) hb); clear HO1_4; clear BK168; clear BK169; clear HB; have HO1_4 := n0_; have BK168 := n1_; have BK169 := n2_; have HB := n3_; clear n0_ n1_ n2_ n3_; (try clear hb); (try clear hb2); (try clear hk); (try clear hi)) | ((with_reducible refine gDs (N := 5) rfl ?_); refine bEv ?hg (N := 5) ?hd (cs := #[.bool false, .int .i64 0, .int .i64 0, .int .i64 0]) (t := 40) ?hr ?_; (case hd => rfl); (case hg => rfl); (case hr => first | (go_simp; done) | (go_simp; rfl)); intro gb180 hg w58 hbox hb; have n0_ := AsZ.mk (Kd.V_below (Kd.V_elderB (by (with_reducible repeat (first | apply Kd.V_alloc | apply Kd.V_drewN | apply Kd.V_drew)); exact HO1_4.out) gb180 (Nat.le_of_eq hg.symm)) hb); have n1_ := AsZ.mk (bBl (g := gb168) (o := .cells #[.int .i64 a1_0, .string a1_1, .int .i64 a1_2, .string a1_3, .slice A1_4 l1_4.length c1_4] 31 (0, 0)) (by (with_reducible repeat first | apply bDn | apply bDr | apply bAl); exact BK168.out) hb); have n2_ := AsZ.mk (bBl (g := gb169) (o := .cells #[.int .i64 0, .string (⟨#[]⟩ : ByteArray), .int .i64 0, .string (⟨#[]⟩ : ByteArray), .slice none 0 0] 31 (0, 0)) (by (with_reducible repeat first | apply bDn | apply bDr | apply bAl); exact BK169.out) hb); have n3_ := AsZ.mk (tBl (by repeat (first | (with_reducible first | exact HB.out | apply aBl | apply pBd | apply dBl | refine sBl ?_ GE168.out | refine sBl ?_ GE169.out) | exact HB.out)) hb); have n4_ := AsZ.mk (hbox); have n5_ := AsZ.mk ((by rw [hg]; exact (zBl (by repeat (first | (with_reducible first | exact HB.out | apply aBl | apply pBd | apply dBl | refine sBl ?_ GE168.out | refine sBl ?_ GE169.out) | exact HB.out))) : w.heap.size ≤ gb180)); have n6_ := AsZ.mk ((by rw [hg]; exact (zBl (by repeat (first | (with_reducible first | exact HB.out | apply aBl | apply pBd | apply dBl | refine sBl ?_ GE168.out | refine sBl ?_ GE169.out) | exact HB.out))) : w.heap.size ≤ gb180)); have n7_ := AsZ.mk ((by rw [hg]; exact Nat.ne_of_lt (bLt (g := gb168) (o := .cells #[.int .i64 a1_0, .string a1_1, .int .i64 a1_2, .string a1_3, .slice A1_4 l1_4.length c1_4] 31 (0, 0)) (by (with_reducible repeat first | apply bDn | apply bDr | apply bAl); exact BK168.out)) : gb168 ≠ gb180)); have n8_ := AsZ.mk ((by rw [hg]; exact Nat.ne_of_gt (bLt (g := gb168) (o := .cells #[.int .i64 a1_0, .string a1_1, .int .i64 a1_2, .string a1_3, .slice A1_4 l1_4.length c1_4] 31 (0, 0)) (by (with_reducible repeat first | apply bDn | apply bDr | apply bAl); exact BK168.out)) : gb180 ≠ gb168)); have n9_ := AsZ.mk ((by rw [hg]; exact Nat.ne_of_lt (bLt (g := gb169) (o := .cells #[.int .i64 0, .string (⟨#[]⟩ : ByteArray), .int .i64 0, .string (⟨#[]⟩ : ByteArray), .slice none 0 0] 31 (0, 0)) (by (with_reducible repeat first | apply bDn | apply bDr | apply bAl); exact BK169.out)) : gb169 ≠ gb180)); have n10_ := AsZ.mk ((by rw [hg]; exact Nat.ne_of_gt (bLt (g := gb169) (o := .cells #[.int .i64 0, .string (⟨#[]⟩ : ByteArray), .int .i64 0, .string (⟨#[]⟩ : ByteArray), .slice none 0 0] 31 (0, 0)) (by (with_reducible repeat first | apply bDn | apply bDr | apply bAl); exact BK169.out)) : gb180 ≠ gb169)); clear HO1_4; clear BK168; clear BK169; clear HB; have HO1_4 := n0_; have BK168 := n1_; have BK169 := n2_; have HB := n3_; have BK180 := n4_; have GW180 := n5_; have GE180 := n6_; have NB168_180 := n7_; have NB180_168 := n8_; have NB169_180 := n9_; have NB180_169 := n10_; clear n0_ n1_ n2_ n3_ n4_ n5_ n6_ n7_ n8_ n9_ n10_; clear hb hbox hg; have hnb59 := NB180_168.out; have hnc59 := NB168_180.out; have hnb60 := NB180_169.out; have hnc60 := NB169_180.out; obtain ⟨hcz61_0, hcz61_1, hcz61_2, hcz61_3⟩ := celN4 BK180.out; obtain ⟨hfz61_0, hfz61_1, hfz61_2, hfz61_3⟩ := fzN4 BK180.out; obtain ⟨hcz62_0, hcz62_1, hcz62_2, hcz62_3, hcz62_4⟩ := celN5 BK168.out; obtain ⟨hfz62_0, hfz62_1, hfz62_2, hfz62_3, hfz62_4⟩ := fzN5 BK168.out; obtain ⟨hcz63_0, hcz63_1, hcz63_2, hcz63_3, hcz63_4⟩ := celN5 BK169.out; obtain ⟨hfz63_0, hfz63_1, hfz63_2, hfz63_3, hfz63_4⟩ := fzN5 BK169.out))
                refine bodyPost_ret (results_cell_row rfl _ _ gb169 31 #[.int .i64 a1_0, .string a1_1, .int .i64 a1_2, .string a1_3, .slice A1_4 l1_4.length c1_4] (0, 0) _ rfl (by (with_reducible repeat first | apply bDn | apply bDr | apply bAl); refine bPu (cs := #[.int .i64 a1_0, .string a1_1, .int .i64 a1_2, .string a1_3, .slice none 0 0]) ?_ 4 _ rfl; (with_reducible repeat first | apply bDn | apply bDr | apply bAl); refine bPu (cs := #[.int .i64 a1_0, .string a1_1, .int .i64 a1_2, .string (⟨#[]⟩ : ByteArray), .slice none 0 0]) ?_ 3 _ rfl; (with_reducible repeat first | apply bDn | apply bDr | apply bAl); refine bPu (cs := #[.int .i64 a1_0, .string a1_1, .int .i64 0, .string (⟨#[]⟩ : ByteArray), .slice none 0 0]) ?_ 2 _ rfl; (with_reducible repeat first | apply bDn | apply bDr | apply bAl); refine bPu (cs := #[.int .i64 a1_0, .string (⟨#[]⟩ : ByteArray), .int .i64 0, .string (⟨#[]⟩ : ByteArray), .slice none 0 0]) ?_ 1 _ rfl; (with_reducible repeat first | apply bDn | apply bDr | apply bAl); refine bPu (cs := #[.int .i64 0, .string (⟨#[]⟩ : ByteArray), .int .i64 0, .string (⟨#[]⟩ : ByteArray), .slice none 0 0]) ?_ 0 _ rfl; (with_reducible repeat first | apply bDn | apply bDr | apply bAl); refine bFr ?_ NB169_180.out _; (with_reducible repeat first | apply bDn | apply bDr | apply bAl); refine bFr ?_ NB169_180.out _; (with_reducible repeat first | apply bDn | apply bDr | apply bAl); refine bFr ?_ NB169_180.out _; (with_reducible repeat first | apply bDn | apply bDr | apply bAl); refine bFr ?_ NB169_180.out _; (with_reducible repeat first | apply bDn | apply bDr | apply bAl); exact BK169.out) Try.underlying31 rfl (by kernel_rfl)) rfl ?_
                exact ⟨_, by first | rfl | (simp [eWn, eWs] <;> rfl) | (simp [*, eWn, eWs] <;> rfl), by (with_reducible repeat (first | apply Kd.V_alloc | apply Kd.V_drewN | apply Kd.V_drew)); exact Kd.V_mono (Kd.V_far (p := ⟨gb169, 4, none⟩) (Kd.V_far (p := ⟨gb169, 3, none⟩) (Kd.V_far (p := ⟨gb169, 2, none⟩) (Kd.V_far (p := ⟨gb169, 1, none⟩) (Kd.V_far (p := ⟨gb169, 0, none⟩) (Kd.V_far (p := ⟨gb180, 3, none⟩) (Kd.V_far (p := ⟨gb180, 2, none⟩) (Kd.V_far (p := ⟨gb180, 1, none⟩) (Kd.V_far (p := ⟨gb180, 0, none⟩) (Kd.V_mono (Kd.V_mono HO1_4.out (fun k_ hk => (⟨hk, hk.2⟩ : _ ∧ k_ ≠ gb180))) (fun k_ hk => (⟨hk, hk.1.1.2⟩ : _ ∧ k_ ≠ gb169))) (fun _ hk => hk.1.2) (.bool false)) (fun _ hk => hk.1.2) (.int .i64 t176)) (fun _ hk => hk.1.2) (.int .i64 t177)) (fun _ hk => hk.1.2) (.int .i64 t178)) (fun _ hk => hk.2) (.int .i64 a1_0)) (fun _ hk => hk.2) (.string a1_1)) (fun _ hk => hk.2) (.int .i64 a1_2)) (fun _ hk => hk.2) (.string a1_3)) (fun _ hk => hk.2) (.slice A1_4 l1_4.length c1_4)) (fun _ hk => hk.1.1.1.1.1), by repeat (first | (with_reducible first | exact HB.out | apply aBl | apply pBd | apply dBl | refine sBl ?_ GE168.out | refine sBl ?_ GE169.out | refine sBl ?_ GE180.out) | exact HB.out)⟩
            · rw [if_neg c38] at H
              have c38b0 : (t179 == 0) = false := beq_eq_false_iff_ne.mpr c38
              have c38b1 : (t179 != 0) = true := bne_iff_ne.mpr c38
              simp only [Option.some.injEq, Prod.mk.injEq] at H
              obtain ⟨rfl, rfl, rfl, rfl, rfl⟩ := H
              go_enter Try.func9, Try.ntmps9
              go_wp2_with (first | ((with_reducible refine gDs (N := 3) rfl ?_); refine bEv ?hg (N := 3) ?hd (cs := #[.int .i64 a1_0, .string a1_1, .int .i64 a1_2, .string a1_3, .slice A1_4 l1_4.length c1_4]) (t := 31) ?hr ?_; (case hd => rfl); (case hg => rfl); (case hr => first | (go_simp; done) | (go_simp; rfl)); intro gb168 hg w64 hbox hb; have n0_ := AsZ.mk (Kd.V_below (Kd.V_elderB (by (with_reducible repeat (first | apply Kd.V_alloc | apply Kd.V_drewN | apply Kd.V_drew)); exact HO1_4.out) gb168 (Nat.le_of_eq hg.symm)) hb); have n1_ := AsZ.mk (tBl (by repeat (first | (with_reducible first | exact HB.out | apply aBl | apply pBd | apply dBl) | exact HB.out)) hb); have n2_ := AsZ.mk (hbox); have n3_ := AsZ.mk ((by rw [hg]; exact (zBl (by repeat (first | (with_reducible first | exact HB.out | apply aBl | apply pBd | apply dBl) | exact HB.out))) : w.heap.size ≤ gb168)); have n4_ := AsZ.mk ((by rw [hg]; exact (zBl (by repeat (first | (with_reducible first | exact HB.out | apply aBl | apply pBd | apply dBl) | exact HB.out))) : w.heap.size ≤ gb168)); clear HO1_4; clear HB; have HO1_4 := n0_; have HB := n1_; have BK168 := n2_; have GW168 := n3_; have GE168 := n4_; clear n0_ n1_ n2_ n3_ n4_; clear hb hbox hg) | ((with_reducible refine gDs (N := 4) rfl ?_); refine bEv ?hg (N := 4) ?hd (cs := #[.int .i64 0, .string (⟨#[]⟩ : ByteArray), .int .i64 0, .string (⟨#[]⟩ : ByteArray), .slice none 0 0]) (t := 31) ?hr ?_; (case hd => rfl); (case hg => rfl); (case hr => first | (go_simp; done) | (go_simp; rfl)); intro gb169 hg w65 hbox hb; have n0_ := AsZ.mk (Kd.V_below (Kd.V_elderB (by (with_reducible repeat (first | apply Kd.V_alloc | apply Kd.V_drewN | apply Kd.V_drew)); exact HO1_4.out) gb169 (Nat.le_of_eq hg.symm)) hb); have n1_ := AsZ.mk (bBl (g := gb168) (o := .cells #[.int .i64 a1_0, .string a1_1, .int .i64 a1_2, .string a1_3, .slice A1_4 l1_4.length c1_4] 31 (0, 0)) (by (with_reducible repeat first | apply bDn | apply bDr | apply bAl); exact BK168.out) hb); have n2_ := AsZ.mk (tBl (by repeat (first | (with_reducible first | exact HB.out | apply aBl | apply pBd | apply dBl | refine sBl ?_ GE168.out) | exact HB.out)) hb); have n3_ := AsZ.mk (hbox); have n4_ := AsZ.mk ((by rw [hg]; exact (zBl (by repeat (first | (with_reducible first | exact HB.out | apply aBl | apply pBd | apply dBl | refine sBl ?_ GE168.out) | exact HB.out))) : w.heap.size ≤ gb169)); have n5_ := AsZ.mk ((by rw [hg]; exact (zBl (by repeat (first | (with_reducible first | exact HB.out | apply aBl | apply pBd | apply dBl | refine sBl ?_ GE168.out) | exact HB.out))) : w.heap.size ≤ gb169)); have n6_ := AsZ.mk ((by rw [hg]; exact Nat.ne_of_lt (bLt (g := gb168) (o := .cells #[.int .i64 a1_0, .string a1_1, .int .i64 a1_2, .string a1_3, .slice A1_4 l1_4.length c1_4] 31 (0, 0)) (by (with_reducible repeat first | apply bDn | apply bDr | apply bAl); exact BK168.out)) : gb168 ≠ gb169)); have n7_ := AsZ.mk ((by rw [hg]; exact Nat.ne_of_gt (bLt (g := gb168) (o := .cells #[.int .i64 a1_0, .string a1_1, .int .i64 a1_2, .string a1_3, .slice A1_4 l1_4.length c1_4] 31 (0, 0)) (by (with_reducible repeat first | apply bDn | apply bDr | apply bAl); exact BK168.out)) : gb169 ≠ gb168)); clear HO1_4; clear BK168; clear HB; have HO1_4 := n0_; have BK168 := n1_; have HB := n2_; have BK169 := n3_; have GW169 := n4_; have GE169 := n5_; have NB168_169 := n6_; have NB169_168 := n7_; clear n0_ n1_ n2_ n3_ n4_ n5_ n6_ n7_; clear hb hbox hg; have hnb66 := NB168_169.out; have hnc66 := NB169_168.out; obtain ⟨hcz67_0, hcz67_1, hcz67_2, hcz67_3, hcz67_4⟩ := celN5 BK168.out; obtain ⟨hfz67_0, hfz67_1, hfz67_2, hfz67_3, hfz67_4⟩ := fzN5 BK168.out) | ((with_reducible refine gCa (f := 17) rfl ?_); refine gLl (some 39) rfl rfl Try.func17 (by kernel_rfl) rfl #[.string a1_3] rfl (by (try simp only [List.map_toArray, List.map_cons, List.map_nil]); first | done | rfl | (simp only [List.length_drop, List.length_take]; rfl)) ?_; (with_reducible refine (r4Cont.calls k a1_3 t175 t176 t177 t178 t179 _ A37.out).mono ?_); rintro e w68 ⟨rfl, hb⟩; refine ⟨_, rfl, ?_⟩; have n0_ := AsZ.mk (Kd.V_below (by (with_reducible repeat (first | apply Kd.V_alloc | apply Kd.V_drewN | apply Kd.V_drew)); exact HO1_4.out) hb); have n1_ := AsZ.mk (bBl (g := gb168) (o := .cells #[.int .i64 a1_0, .string a1_1, .int .i64 a1_2, .string a1_3, .slice A1_4 l1_4.length c1_4] 31 (0, 0)) (by (with_reducible repeat first | apply bDn | apply bDr | apply bAl); exact BK168.out) hb); have n2_ := AsZ.mk (bBl (g := gb169) (o := .cells #[.int .i64 0, .string (⟨#[]⟩ : ByteArray), .int .i64 0, .string (⟨#[]⟩ : ByteArray), .slice none 0 0] 31 (0, 0)) (by (with_reducible repeat first | apply bDn | apply bDr | apply bAl); exact BK169.out) hb); have n3_ := AsZ.mk (tBl (by repeat (first | (with_reducible first | exact HB.out | apply aBl | apply pBd | apply dBl | refine sBl ?_ GE168.out | refine sBl ?_ GE169.out) | exact HB.out)) hb); clear HO1_4; clear BK168; clear BK169; clear HB; have HO1_4 := n0_; have BK168 := n1_; have BK169 := n2_; have HB := n3_; clear n0_ n1_ n2_ n3_; (try clear hb); (try clear hb2); (try clear hk); (try clear hi)) | ((with_reducible refine gDs (N := 5) rfl ?_); refine bEv ?hg (N := 5) ?hd (cs := #[.bool false, .int .i64 0, .int .i64 0, .int .i64 0]) (t := 40) ?hr ?_; (case hd => rfl); (case hg => rfl); (case hr => first | (go_simp; done) | (go_simp; rfl)); intro gb180 hg w69 hbox hb; have n0_ := AsZ.mk (Kd.V_below (Kd.V_elderB (by (with_reducible repeat (first | apply Kd.V_alloc | apply Kd.V_drewN | apply Kd.V_drew)); exact HO1_4.out) gb180 (Nat.le_of_eq hg.symm)) hb); have n1_ := AsZ.mk (bBl (g := gb168) (o := .cells #[.int .i64 a1_0, .string a1_1, .int .i64 a1_2, .string a1_3, .slice A1_4 l1_4.length c1_4] 31 (0, 0)) (by (with_reducible repeat first | apply bDn | apply bDr | apply bAl); exact BK168.out) hb); have n2_ := AsZ.mk (bBl (g := gb169) (o := .cells #[.int .i64 0, .string (⟨#[]⟩ : ByteArray), .int .i64 0, .string (⟨#[]⟩ : ByteArray), .slice none 0 0] 31 (0, 0)) (by (with_reducible repeat first | apply bDn | apply bDr | apply bAl); exact BK169.out) hb); have n3_ := AsZ.mk (tBl (by repeat (first | (with_reducible first | exact HB.out | apply aBl | apply pBd | apply dBl | refine sBl ?_ GE168.out | refine sBl ?_ GE169.out) | exact HB.out)) hb); have n4_ := AsZ.mk (hbox); have n5_ := AsZ.mk ((by rw [hg]; exact (zBl (by repeat (first | (with_reducible first | exact HB.out | apply aBl | apply pBd | apply dBl | refine sBl ?_ GE168.out | refine sBl ?_ GE169.out) | exact HB.out))) : w.heap.size ≤ gb180)); have n6_ := AsZ.mk ((by rw [hg]; exact (zBl (by repeat (first | (with_reducible first | exact HB.out | apply aBl | apply pBd | apply dBl | refine sBl ?_ GE168.out | refine sBl ?_ GE169.out) | exact HB.out))) : w.heap.size ≤ gb180)); have n7_ := AsZ.mk ((by rw [hg]; exact Nat.ne_of_lt (bLt (g := gb168) (o := .cells #[.int .i64 a1_0, .string a1_1, .int .i64 a1_2, .string a1_3, .slice A1_4 l1_4.length c1_4] 31 (0, 0)) (by (with_reducible repeat first | apply bDn | apply bDr | apply bAl); exact BK168.out)) : gb168 ≠ gb180)); have n8_ := AsZ.mk ((by rw [hg]; exact Nat.ne_of_gt (bLt (g := gb168) (o := .cells #[.int .i64 a1_0, .string a1_1, .int .i64 a1_2, .string a1_3, .slice A1_4 l1_4.length c1_4] 31 (0, 0)) (by (with_reducible repeat first | apply bDn | apply bDr | apply bAl); exact BK168.out)) : gb180 ≠ gb168)); have n9_ := AsZ.mk ((by rw [hg]; exact Nat.ne_of_lt (bLt (g := gb169) (o := .cells #[.int .i64 0, .string (⟨#[]⟩ : ByteArray), .int .i64 0, .string (⟨#[]⟩ : ByteArray), .slice none 0 0] 31 (0, 0)) (by (with_reducible repeat first | apply bDn | apply bDr | apply bAl); exact BK169.out)) : gb169 ≠ gb180)); have n10_ := AsZ.mk ((by rw [hg]; exact Nat.ne_of_gt (bLt (g := gb169) (o := .cells #[.int .i64 0, .string (⟨#[]⟩ : ByteArray), .int .i64 0, .string (⟨#[]⟩ : ByteArray), .slice none 0 0] 31 (0, 0)) (by (with_reducible repeat first | apply bDn | apply bDr | apply bAl); exact BK169.out)) : gb180 ≠ gb169)); clear HO1_4; clear BK168; clear BK169; clear HB; have HO1_4 := n0_; have BK168 := n1_; have BK169 := n2_; have HB := n3_; have BK180 := n4_; have GW180 := n5_; have GE180 := n6_; have NB168_180 := n7_; have NB180_168 := n8_; have NB169_180 := n9_; have NB180_169 := n10_; clear n0_ n1_ n2_ n3_ n4_ n5_ n6_ n7_ n8_ n9_ n10_; clear hb hbox hg; have hnb70 := NB180_168.out; have hnc70 := NB168_180.out; have hnb71 := NB180_169.out; have hnc71 := NB169_180.out; obtain ⟨hcz72_0, hcz72_1, hcz72_2, hcz72_3⟩ := celN4 BK180.out; obtain ⟨hfz72_0, hfz72_1, hfz72_2, hfz72_3⟩ := fzN4 BK180.out; obtain ⟨hcz73_0, hcz73_1, hcz73_2, hcz73_3, hcz73_4⟩ := celN5 BK168.out; obtain ⟨hfz73_0, hfz73_1, hfz73_2, hfz73_3, hfz73_4⟩ := fzN5 BK168.out; obtain ⟨hcz74_0, hcz74_1, hcz74_2, hcz74_3, hcz74_4⟩ := celN5 BK169.out; obtain ⟨hfz74_0, hfz74_1, hfz74_2, hfz74_3, hfz74_4⟩ := fzN5 BK169.out))
              refine bodyPost_ret (results_cell_row rfl _ _ gb169 31 #[.int .i64 a1_0, .string a1_1, .int .i64 a1_2, .string a1_3, .slice A1_4 l1_4.length c1_4] (0, 0) _ rfl (by (with_reducible repeat first | apply bDn | apply bDr | apply bAl); refine bPu (cs := #[.int .i64 a1_0, .string a1_1, .int .i64 a1_2, .string a1_3, .slice none 0 0]) ?_ 4 _ rfl; (with_reducible repeat first | apply bDn | apply bDr | apply bAl); refine bPu (cs := #[.int .i64 a1_0, .string a1_1, .int .i64 a1_2, .string (⟨#[]⟩ : ByteArray), .slice none 0 0]) ?_ 3 _ rfl; (with_reducible repeat first | apply bDn | apply bDr | apply bAl); refine bPu (cs := #[.int .i64 a1_0, .string a1_1, .int .i64 0, .string (⟨#[]⟩ : ByteArray), .slice none 0 0]) ?_ 2 _ rfl; (with_reducible repeat first | apply bDn | apply bDr | apply bAl); refine bPu (cs := #[.int .i64 a1_0, .string (⟨#[]⟩ : ByteArray), .int .i64 0, .string (⟨#[]⟩ : ByteArray), .slice none 0 0]) ?_ 1 _ rfl; (with_reducible repeat first | apply bDn | apply bDr | apply bAl); refine bPu (cs := #[.int .i64 0, .string (⟨#[]⟩ : ByteArray), .int .i64 0, .string (⟨#[]⟩ : ByteArray), .slice none 0 0]) ?_ 0 _ rfl; (with_reducible repeat first | apply bDn | apply bDr | apply bAl); refine bFr ?_ NB169_180.out _; (with_reducible repeat first | apply bDn | apply bDr | apply bAl); refine bFr ?_ NB169_180.out _; (with_reducible repeat first | apply bDn | apply bDr | apply bAl); refine bFr ?_ NB169_180.out _; (with_reducible repeat first | apply bDn | apply bDr | apply bAl); refine bFr ?_ NB169_180.out _; (with_reducible repeat first | apply bDn | apply bDr | apply bAl); exact BK169.out) Try.underlying31 rfl (by kernel_rfl)) rfl ?_
              exact ⟨_, by first | rfl | (simp [eWn, eWs] <;> rfl) | (simp [*, eWn, eWs] <;> rfl), by (with_reducible repeat (first | apply Kd.V_alloc | apply Kd.V_drewN | apply Kd.V_drew)); exact Kd.V_mono (Kd.V_far (p := ⟨gb169, 4, none⟩) (Kd.V_far (p := ⟨gb169, 3, none⟩) (Kd.V_far (p := ⟨gb169, 2, none⟩) (Kd.V_far (p := ⟨gb169, 1, none⟩) (Kd.V_far (p := ⟨gb169, 0, none⟩) (Kd.V_far (p := ⟨gb180, 3, none⟩) (Kd.V_far (p := ⟨gb180, 2, none⟩) (Kd.V_far (p := ⟨gb180, 1, none⟩) (Kd.V_far (p := ⟨gb180, 0, none⟩) (Kd.V_mono (Kd.V_mono HO1_4.out (fun k_ hk => (⟨hk, hk.2⟩ : _ ∧ k_ ≠ gb180))) (fun k_ hk => (⟨hk, hk.1.1.2⟩ : _ ∧ k_ ≠ gb169))) (fun _ hk => hk.1.2) (.bool t175)) (fun _ hk => hk.1.2) (.int .i64 t176)) (fun _ hk => hk.1.2) (.int .i64 t177)) (fun _ hk => hk.1.2) (.int .i64 t178)) (fun _ hk => hk.2) (.int .i64 a1_0)) (fun _ hk => hk.2) (.string a1_1)) (fun _ hk => hk.2) (.int .i64 a1_2)) (fun _ hk => hk.2) (.string a1_3)) (fun _ hk => hk.2) (.slice A1_4 l1_4.length c1_4)) (fun _ hk => hk.1.1.1.1.1), by repeat (first | (with_reducible first | exact HB.out | apply aBl | apply pBd | apply dBl | refine sBl ?_ GE168.out | refine sBl ?_ GE169.out | refine sBl ?_ GE180.out) | exact HB.out)⟩
          · rw [if_neg c36] at H
            have c36b0 : (a0 == 3) = false := beq_eq_false_iff_ne.mpr c36
            have c36b1 : (a0 != 3) = true := bne_iff_ne.mpr c36
            simp only [Option.some.injEq, Prod.mk.injEq] at H
            obtain ⟨rfl, rfl, rfl, rfl, rfl⟩ := H
            go_enter Try.func9, Try.ntmps9
            go_wp2_with (first | ((with_reducible refine gDs (N := 3) rfl ?_); refine bEv ?hg (N := 3) ?hd (cs := #[.int .i64 a1_0, .string a1_1, .int .i64 a1_2, .string a1_3, .slice A1_4 l1_4.length c1_4]) (t := 31) ?hr ?_; (case hd => rfl); (case hg => rfl); (case hr => first | (go_simp; done) | (go_simp; rfl)); intro gb168 hg w75 hbox hb; have n0_ := AsZ.mk (Kd.V_below (Kd.V_elderB (by (with_reducible repeat (first | apply Kd.V_alloc | apply Kd.V_drewN | apply Kd.V_drew)); exact HO1_4.out) gb168 (Nat.le_of_eq hg.symm)) hb); have n1_ := AsZ.mk (tBl (by repeat (first | (with_reducible first | exact HB.out | apply aBl | apply pBd | apply dBl) | exact HB.out)) hb); have n2_ := AsZ.mk (hbox); have n3_ := AsZ.mk ((by rw [hg]; exact (zBl (by repeat (first | (with_reducible first | exact HB.out | apply aBl | apply pBd | apply dBl) | exact HB.out))) : w.heap.size ≤ gb168)); have n4_ := AsZ.mk ((by rw [hg]; exact (zBl (by repeat (first | (with_reducible first | exact HB.out | apply aBl | apply pBd | apply dBl) | exact HB.out))) : w.heap.size ≤ gb168)); clear HO1_4; clear HB; have HO1_4 := n0_; have HB := n1_; have BK168 := n2_; have GW168 := n3_; have GE168 := n4_; clear n0_ n1_ n2_ n3_ n4_; clear hb hbox hg) | ((with_reducible refine gDs (N := 4) rfl ?_); refine bEv ?hg (N := 4) ?hd (cs := #[.int .i64 0, .string (⟨#[]⟩ : ByteArray), .int .i64 0, .string (⟨#[]⟩ : ByteArray), .slice none 0 0]) (t := 31) ?hr ?_; (case hd => rfl); (case hg => rfl); (case hr => first | (go_simp; done) | (go_simp; rfl)); intro gb169 hg w76 hbox hb; have n0_ := AsZ.mk (Kd.V_below (Kd.V_elderB (by (with_reducible repeat (first | apply Kd.V_alloc | apply Kd.V_drewN | apply Kd.V_drew)); exact HO1_4.out) gb169 (Nat.le_of_eq hg.symm)) hb); have n1_ := AsZ.mk (bBl (g := gb168) (o := .cells #[.int .i64 a1_0, .string a1_1, .int .i64 a1_2, .string a1_3, .slice A1_4 l1_4.length c1_4] 31 (0, 0)) (by (with_reducible repeat first | apply bDn | apply bDr | apply bAl); exact BK168.out) hb); have n2_ := AsZ.mk (tBl (by repeat (first | (with_reducible first | exact HB.out | apply aBl | apply pBd | apply dBl | refine sBl ?_ GE168.out) | exact HB.out)) hb); have n3_ := AsZ.mk (hbox); have n4_ := AsZ.mk ((by rw [hg]; exact (zBl (by repeat (first | (with_reducible first | exact HB.out | apply aBl | apply pBd | apply dBl | refine sBl ?_ GE168.out) | exact HB.out))) : w.heap.size ≤ gb169)); have n5_ := AsZ.mk ((by rw [hg]; exact (zBl (by repeat (first | (with_reducible first | exact HB.out | apply aBl | apply pBd | apply dBl | refine sBl ?_ GE168.out) | exact HB.out))) : w.heap.size ≤ gb169)); have n6_ := AsZ.mk ((by rw [hg]; exact Nat.ne_of_lt (bLt (g := gb168) (o := .cells #[.int .i64 a1_0, .string a1_1, .int .i64 a1_2, .string a1_3, .slice A1_4 l1_4.length c1_4] 31 (0, 0)) (by (with_reducible repeat first | apply bDn | apply bDr | apply bAl); exact BK168.out)) : gb168 ≠ gb169)); have n7_ := AsZ.mk ((by rw [hg]; exact Nat.ne_of_gt (bLt (g := gb168) (o := .cells #[.int .i64 a1_0, .string a1_1, .int .i64 a1_2, .string a1_3, .slice A1_4 l1_4.length c1_4] 31 (0, 0)) (by (with_reducible repeat first | apply bDn | apply bDr | apply bAl); exact BK168.out)) : gb169 ≠ gb168)); clear HO1_4; clear BK168; clear HB; have HO1_4 := n0_; have BK168 := n1_; have HB := n2_; have BK169 := n3_; have GW169 := n4_; have GE169 := n5_; have NB168_169 := n6_; have NB169_168 := n7_; clear n0_ n1_ n2_ n3_ n4_ n5_ n6_ n7_; clear hb hbox hg; have hnb77 := NB168_169.out; have hnc77 := NB169_168.out; obtain ⟨hcz78_0, hcz78_1, hcz78_2, hcz78_3, hcz78_4⟩ := celN5 BK168.out; obtain ⟨hfz78_0, hfz78_1, hfz78_2, hfz78_3, hfz78_4⟩ := fzN5 BK168.out; obtain ⟨hcz79_0, hcz79_1, hcz79_2, hcz79_3, hcz79_4⟩ := celN5 BK169.out; obtain ⟨hfz79_0, hfz79_1, hfz79_2, hfz79_3, hfz79_4⟩ := fzN5 BK169.out))
            refine bodyPost_ret (results_cell_row rfl _ _ gb169 31 #[.int .i64 a1_0, .string a1_1, .int .i64 a1_2, .string a1_3, .slice A1_4 l1_4.length c1_4] (0, 0) _ rfl (by (with_reducible repeat first | apply bDn | apply bDr | apply bAl); refine bPu (cs := #[.int .i64 a1_0, .string a1_1, .int .i64 a1_2, .string a1_3, .slice none 0 0]) ?_ 4 _ rfl; (with_reducible repeat first | apply bDn | apply bDr | apply bAl); refine bPu (cs := #[.int .i64 a1_0, .string a1_1, .int .i64 a1_2, .string (⟨#[]⟩ : ByteArray), .slice none 0 0]) ?_ 3 _ rfl; (with_reducible repeat first | apply bDn | apply bDr | apply bAl); refine bPu (cs := #[.int .i64 a1_0, .string a1_1, .int .i64 0, .string (⟨#[]⟩ : ByteArray), .slice none 0 0]) ?_ 2 _ rfl; (with_reducible repeat first | apply bDn | apply bDr | apply bAl); refine bPu (cs := #[.int .i64 a1_0, .string (⟨#[]⟩ : ByteArray), .int .i64 0, .string (⟨#[]⟩ : ByteArray), .slice none 0 0]) ?_ 1 _ rfl; (with_reducible repeat first | apply bDn | apply bDr | apply bAl); refine bPu (cs := #[.int .i64 0, .string (⟨#[]⟩ : ByteArray), .int .i64 0, .string (⟨#[]⟩ : ByteArray), .slice none 0 0]) ?_ 0 _ rfl; (with_reducible repeat first | apply bDn | apply bDr | apply bAl); exact BK169.out) Try.underlying31 rfl (by kernel_rfl)) rfl ?_
            exact ⟨_, by first | rfl | (simp [eWn, eWs] <;> rfl) | (simp [*, eWn, eWs] <;> rfl), by (with_reducible repeat (first | apply Kd.V_alloc | apply Kd.V_drewN | apply Kd.V_drew)); exact Kd.V_mono (Kd.V_far (p := ⟨gb169, 4, none⟩) (Kd.V_far (p := ⟨gb169, 3, none⟩) (Kd.V_far (p := ⟨gb169, 2, none⟩) (Kd.V_far (p := ⟨gb169, 1, none⟩) (Kd.V_far (p := ⟨gb169, 0, none⟩) (Kd.V_mono HO1_4.out (fun k_ hk => (⟨hk, hk.2⟩ : _ ∧ k_ ≠ gb169))) (fun _ hk => hk.2) (.int .i64 a1_0)) (fun _ hk => hk.2) (.string a1_1)) (fun _ hk => hk.2) (.int .i64 a1_2)) (fun _ hk => hk.2) (.string a1_3)) (fun _ hk => hk.2) (.slice A1_4 l1_4.length c1_4)) (fun _ hk => hk.1.1.1), by repeat (first | (with_reducible first | exact HB.out | apply aBl | apply pBd | apply dBl | refine sBl ?_ GE168.out | refine sBl ?_ GE169.out) | exact HB.out)⟩
def etag_may.f (a0 : Int) : Option (Bool) := if a0 ≥ 128 then (some true) else (if a0 = 33 then (some true) else (if a0 = 127 then (some false) else (some (decide (a0 ≥ 35)))))
set_option maxHeartbeats 8000000 in
set_option maxRecDepth 100000 in
theorem etag_may.calls (a0 : Int) (r : Bool) (w : World) (h : etag_may.f a0 = some r) :
    Calls Try.prog 37 #[.int .u8 a0] w fun e w' => e = .returned (.bool r) ∧ Drawn0 w w' := by
  have H : (if a0 ≥ 128 then (some true) else (if a0 = 33 then (some true) else (if a0 = 127 then (some false) else (some (decide (a0 ≥ 35)))))) = some r := h
  clear h
  by_cases c2 : a0 ≥ 128
  · rw [if_pos c2] at H
    have c2b0 : decide (128 ≤ a0) = true := decide_eq_true c2
    clear c2
    obtain rfl := Option.some.inj H
    go_enter Try.func37, Try.ntmps37
    go_wp2
    go_ret
    exact ⟨by first | rfl | (simp; done) | (simp [*]; done) | exact nEm _ | exact eEm _, by repeat (first | exact Drawn0.refl _ | apply Drawn0.step)⟩
  · rw [if_neg c2] at H
    have c2b0 : decide (128 ≤ a0) = false := decide_eq_false c2
    clear c2
    by_cases c3 : a0 = 33
    · rw [if_pos c3] at H
      have c3b0 : (a0 == 33) = true := beq_iff_eq.mpr c3
      have c3b1 : (a0 != 33) = false := bne_eq_false_iff_eq.mpr c3
      clear c3
      obtain rfl := Option.some.inj H
      go_enter Try.func37, Try.ntmps37
      go_wp2
      go_ret
      exact ⟨by first | rfl | (simp; done) | (simp [*]; done) | exact nEm _ | exact eEm _, by repeat (first | exact Drawn0.refl _ | apply Drawn0.step)⟩
    · rw [if_neg c3] at H
      have c3b0 : (a0 == 33) = false := beq_eq_false_iff_ne.mpr c3
      have c3b1 : (a0 != 33) = true := bne_iff_ne.mpr c3
      by_cases c4 : a0 = 127
      · rw [if_pos c4] at H
        have c4b0 : (a0 == 127) = true := beq_iff_eq.mpr c4
        have c4b1 : (a0 != 127) = false := bne_eq_false_iff_eq.mpr c4
        clear c4
        obtain rfl := Option.some.inj H
        go_enter Try.func37, Try.ntmps37
        go_wp2
        go_ret
        exact ⟨by first | rfl | (simp; done) | (simp [*]; done) | exact nEm _ | exact eEm _, by repeat (first | exact Drawn0.refl _ | apply Drawn0.step)⟩
      · rw [if_neg c4] at H
        have c4b0 : (a0 == 127) = false := beq_eq_false_iff_ne.mpr c4
        have c4b1 : (a0 != 127) = true := bne_iff_ne.mpr c4
        obtain rfl := Option.some.inj H
        go_enter Try.func37, Try.ntmps37
        go_wp2
        go_ret
        exact ⟨by first | rfl | (simp; done) | (simp [*]; done) | exact nEm _ | exact eEm _, by repeat (first | exact Drawn0.refl _ | apply Drawn0.step)⟩
def etag_plain.l0 : Nat → ByteArray → Int → Int → Option (Bool)
  | 0, _, _, _ => none
  | k + 1, x0, x5, x6 => if x6 < x5 then (if 0 ≤ x6 then (if x6 < (x0.size : Int) then ((etag_may.f (bt x0 x6)).bind fun t182 => (if t182 = true then (etag_plain.l0 k x0 x5 (wrap64 (x6 + 1))) else (some false))) else (none)) else (none)) else (some true)
def etag_plain.f (k : Nat) (a0 : ByteArray) : Option (Bool) := etag_plain.l0 k a0 (a0.size : Int) 0
theorem etag_plain.mono_l : ∀ k, (∀ y0 y1 y2, LeO (etag_plain.l0 k y0 y1 y2) (etag_plain.l0 (k + 1) y0 y1 y2))
  | 0 => fun _ _ _ r h => by simp [etag_plain.l0] at h
  | k + 1 => by
    have ih0 := etag_plain.mono_l k
    · intro y0 y1 y2
      unfold etag_plain.l0
      repeat' first
      | (with_reducible exact ih0 _ _ _)
      | (with_reducible exact LeO.refl _)
      | (with_reducible exact LeO.none _)
      | (with_reducible refine LeO.ite ?_ ?_)
      | (with_reducible refine LeO.bind ?_ (fun _ => ?_))
      | exact ih0 _ _ _
      | exact LeO.none _
      | refine LeO.ite ?_ ?_
      | refine LeO.bind ?_ (fun _ => ?_)
theorem etag_plain.mono : ∀ a0 k, LeO (etag_plain.f k a0) (etag_plain.f (k + 1) a0) := by
  intro a0 k
  have ih0 := etag_plain.mono_l k
  unfold etag_plain.f
  repeat' first
      | (with_reducible exact ih0 _ _ _)
      | (with_reducible exact LeO.refl _)
      | (with_reducible exact LeO.none _)
      | (with_reducible refine LeO.ite ?_ ?_)
      | (with_reducible refine LeO.bind ?_ (fun _ => ?_))
      | exact ih0 _ _ _
      | exact LeO.none _
      | refine LeO.ite ?_ ?_
      | refine LeO.bind ?_ (fun _ => ?_)
set_option maxHeartbeats 8000000 in
set_option maxRecDepth 100000 in
theorem etag_plain.calls (k : Nat) (a0 : ByteArray) (r : Bool) (w : World) (h : etag_plain.f k a0 = some r) :
    Calls Try.prog 31 #[.string a0] w fun e w' => e = .returned (.bool r) ∧ Drawn0 w w' := by
  have H : (etag_plain.l0 k a0 (a0.size : Int) 0) = some r := h
  clear h
  have H' := AsZ.mk H
  clear H
  go_enter Try.func31, Try.ntmps31
  go_wp2
  go_loopg [6] k (fun kq v6 w' => ∃ (x6_1 : Int), v6 = .int .i64 x6_1 ∧ AsZ (etag_plain.l0 kq a0 (a0.size : Int) x6_1 = some r) ∧ AsZ (kq ≤ k) ∧ Drawn0 w w')
  case atStart => exact ⟨(0), (by first | rfl | (simp; done) | (simp [*]; done)), H', ⟨Nat.le_refl _⟩, by repeat (first | exact Drawn0.refl _ | apply Drawn0.step)⟩
  case round =>
    clear H'
    obtain ⟨x6_1, rfl, HA, HK1, ⟨m1, rfl⟩⟩ := hrel
    cases gk with
    | zero => exact absurd HA.out (by simp [etag_plain.l0])
    | succ k1 =>
      have H := HA.out
      clear HA
      simp only [etag_plain.l0] at H
      by_cases c2 : x6_1 < (a0.size : Int)
      · rw [if_pos c2] at H
        have c2b0 : decide (x6_1 < (a0.size : Int)) = true := decide_eq_true c2
        clear c2
        by_cases c3 : 0 ≤ x6_1
        · rw [if_pos c3] at H
          have c3b0 : decide (0 ≤ x6_1) = true := decide_eq_true c3
          clear c3
          by_cases c4 : x6_1 < (a0.size : Int)
          · rw [if_pos c4] at H
            have c4b0 : decide (x6_1 < (a0.size : Int)) = true := decide_eq_true c4
            clear c4
            replace H := Option.bind_eq_some_iff.mp H
            obtain ⟨t182, A60, H⟩ := H
            replace H : (if t182 = true then (etag_plain.l0 k1 a0 (a0.size : Int) (wrap64 (x6_1 + 1))) else (some false)) = some r := H
            have A6 := AsZ.mk A60
            clear A60
            by_cases c7 : t182 = true
            · subst c7
              have H1 : (etag_plain.l0 k1 a0 (a0.size : Int) (wrap64 (x6_1 + 1))) = some r := by rw [if_pos rfl] at H; exact H
              clear H
              have H := H1
              clear H1
              have H' := AsZ.mk H
              clear H
              have p5 : 0 ≤ (x6_1 : Int) := of_decide_eq_true (by first | (with_reducible assumption) | assumption)
              have q5 : x6_1 < (a0.size : Int) := of_decide_eq_true (by first | (with_reducible assumption) | assumption)
              have hx5 := bt_at a0 x6_1
              replace p5 := eq_true p5
              replace q5 := eq_true q5
              go_wp2_with (first | ((with_reducible refine gCa (f := 37) rfl ?_); refine gLl (some 12) rfl rfl Try.func37 (by kernel_rfl) rfl #[.int .u8 (bt a0 x6_1)] rfl (by (try simp only [List.map_toArray, List.map_cons, List.map_nil]); first | done | rfl | (simp only [List.length_drop, List.length_take]; rfl)) ?_; (with_reducible refine (etag_may.calls (bt a0 x6_1) true _ A6.out).mono ?_); rintro e w' ⟨rfl, ⟨nd, rfl⟩⟩; refine ⟨_, rfl, ?_⟩))
              go_roundg k1
              case measure => have := HK1.out; omega
              case rel => exact ⟨(wrap64 (x6_1 + 1)), (by first | rfl | (simp; done) | (simp [*]; done)), H', ⟨by have := HK1.out; omega⟩, by repeat (first | exact Drawn0.refl _ | apply Drawn0.step)⟩
            · replace c7 := Bool.eq_false_iff.mpr c7
              subst c7
              have H1 : (some false) = some r := by rw [if_neg (show ¬ (false = true) by decide)] at H; exact H
              clear H
              have H := H1
              clear H1
              obtain rfl := Option.some.inj H
              have p5 : 0 ≤ (x6_1 : Int) := of_decide_eq_true (by first | (with_reducible assumption) | assumption)
              have q5 : x6_1 < (a0.size : Int) := of_decide_eq_true (by first | (with_reducible assumption) | assumption)
              have hx5 := bt_at a0 x6_1
              replace p5 := eq_true p5
              replace q5 := eq_true q5
              go_wp2_with (first | ((with_reducible refine gCa (f := 37) rfl ?_); refine gLl (some 12) rfl rfl Try.func37 (by kernel_rfl) rfl #[.int .u8 (bt a0 x6_1)] rfl (by (try simp only [List.map_toArray, List.map_cons, List.map_nil]); first | done | rfl | (simp only [List.length_drop, List.length_take]; rfl)) ?_; (with_reducible refine (etag_may.calls (bt a0 x6_1) false _ A6.out).mono ?_); rintro e w' ⟨rfl, ⟨nd, rfl⟩⟩; refine ⟨_, rfl, ?_⟩))
              go_ret
              exact ⟨by first | rfl | (simp; done) | (simp [*]; done) | exact nEm _ | exact eEm _, by repeat (first | exact Drawn0.refl _ | apply Drawn0.step)⟩
          · rw [if_neg c4] at H
            exact absurd H (by simp)
        · rw [if_neg c3] at H
          exact absurd H (by simp)
      · rw [if_neg c2] at H
        have c2b0 : decide (x6_1 < (a0.size : Int)) = false := decide_eq_false c2
        clear c2
        obtain rfl := Option.some.inj H
        go_wp2
        go_ret
        exact ⟨by first | rfl | (simp; done) | (simp [*]; done) | exact nEm _ | exact eEm _, by repeat (first | exact Drawn0.refl _ | apply Drawn0.step)⟩
def etag_Right.f (k : Nat) (a0_0 : Bool) (a0_1 : ByteArray) : Option (Bool) := (etag_plain.f k a0_1).bind fun t184 => (if t184 = true then (some (decide ((a0_1.size : Int) ≤ 40))) else (some false))
theorem etag_Right.mono : ∀ a0 a1 k, LeO (etag_Right.f k a0 a1) (etag_Right.f (k + 1) a0 a1) := by
  intro a0 a1 k
  unfold etag_Right.f
  repeat' first
      | (with_reducible exact etag_plain.mono _ _)
      | (with_reducible exact LeO.refl _)
      | (with_reducible exact LeO.none _)
      | (with_reducible refine LeO.ite ?_ ?_)
      | (with_reducible refine LeO.bind ?_ (fun _ => ?_))
      | exact etag_plain.mono _ _
      | exact LeO.none _
      | refine LeO.ite ?_ ?_
      | refine LeO.bind ?_ (fun _ => ?_)
set_option maxHeartbeats 8000000 in
set_option maxRecDepth 100000 in
theorem etag_Right.calls (k : Nat) (a0_0 : Bool) (a0_1 : ByteArray) (r : Bool) (w : World) (h : etag_Right.f k a0_0 a0_1 = some r) :
    Calls Try.prog 27 #[.agg #[.bool a0_0, .string a0_1]] w fun e w' => e = .returned (.bool r) ∧ Below w.heap.size w w' := by
  have hu58 := Try.underlying58
  have HB := AsZ.mk (Below.refl w.heap.size w)
  have H : ((etag_plain.f k a0_1).bind fun t184 => (if t184 = true then (some (decide ((a0_1.size : Int) ≤ 40))) else (some false))) = some r := h
  clear h
  replace H := Option.bind_eq_some_iff.mp H
  obtain ⟨t184, A20, H⟩ := H
  replace H : (if t184 = true then (some (decide ((a0_1.size : Int) ≤ 40))) else (some false)) = some r := H
  have A2 := AsZ.mk A20
  clear A20
  by_cases c3 : t184 = true
  · subst c3
    have H1 : (some (decide ((a0_1.size : Int) ≤ 40))) = some r := by rw [if_pos rfl] at H; exact H
    clear H
    have H := H1
    clear H1
    obtain rfl := Option.some.inj H
    go_enter Try.func27, Try.ntmps27
    go_wp2_with (first | ((with_reducible refine gDs (N := 1) rfl ?_); (try (refine gate_guard (by rfl) ?_; dsimp only)); refine bEv ?hg (N := 1) ?hd (cs := #[.bool a0_0, .string a0_1]) (t := 58) ?hr ?_; (case hd => rfl); (case hg => rfl); (case hr => first | (go_simp; done) | (go_simp; rfl)); intro gb183 hg w4 hbox hb; have n0_ := AsZ.mk (tBl (by repeat (first | (with_reducible first | exact HB.out | apply aBl | apply pBd | apply dBl) | exact HB.out)) hb); have n1_ := AsZ.mk (hbox); have n2_ := AsZ.mk ((by rw [hg]; exact (zBl (by repeat (first | (with_reducible first | exact HB.out | apply aBl | apply pBd | apply dBl) | exact HB.out))) : w.heap.size ≤ gb183)); have n3_ := AsZ.mk ((by rw [hg]; exact (zBl (by repeat (first | (with_reducible first | exact HB.out | apply aBl | apply pBd | apply dBl) | exact HB.out))) : w.heap.size ≤ gb183)); clear HB; have HB := n0_; have BK183 := n1_; have GW183 := n2_; have GE183 := n3_; clear n0_ n1_ n2_ n3_; clear hb hbox hg; obtain ⟨hcz5_0, hcz5_1⟩ := celN2 BK183.out; obtain ⟨hfz5_0, hfz5_1⟩ := fzN2 BK183.out) | ((with_reducible refine gCa (f := 31) rfl ?_); refine gLl (some 5) rfl rfl Try.func31 (by kernel_rfl) rfl #[.string a0_1] rfl (by (try simp only [List.map_toArray, List.map_cons, List.map_nil]); first | done | rfl | (simp only [List.length_drop, List.length_take]; rfl)) ?_; (with_reducible refine (etag_plain.calls k a0_1 true _ A2.out).mono ?_); rintro e w' ⟨rfl, ⟨nd, rfl⟩⟩; refine ⟨_, rfl, ?_⟩))
    go_ret
    exact ⟨by first | rfl | exact nEm _ | exact eEm _ | (simp [eWn, eWs] <;> rfl) | (simp [*, eWn, eWs] <;> rfl), by repeat (first | (with_reducible first | exact HB.out | apply aBl | apply pBd | apply dBl | refine sBl ?_ GE183.out) | exact HB.out)⟩
  · replace c3 := Bool.eq_false_iff.mpr c3
    subst c3
    have H1 : (some false) = some r := by rw [if_neg (show ¬ (false = true) by decide)] at H; exact H
    clear H
    have H := H1
    clear H1
    obtain rfl := Option.some.inj H
    go_enter Try.func27, Try.ntmps27
    go_wp2_with (first | ((with_reducible refine gDs (N := 1) rfl ?_); (try (refine gate_guard (by rfl) ?_; dsimp only)); refine bEv ?hg (N := 1) ?hd (cs := #[.bool a0_0, .string a0_1]) (t := 58) ?hr ?_; (case hd => rfl); (case hg => rfl); (case hr => first | (go_simp; done) | (go_simp; rfl)); intro gb183 hg w6 hbox hb; have n0_ := AsZ.mk (tBl (by repeat (first | (with_reducible first | exact HB.out | apply aBl | apply pBd | apply dBl) | exact HB.out)) hb); have n1_ := AsZ.mk (hbox); have n2_ := AsZ.mk ((by rw [hg]; exact (zBl (by repeat (first | (with_reducible first | exact HB.out | apply aBl | apply pBd | apply dBl) | exact HB.out))) : w.heap.size ≤ gb183)); have n3_ := AsZ.mk ((by rw [hg]; exact (zBl (by repeat (first | (with_reducible first | exact HB.out | apply aBl | apply pBd | apply dBl) | exact HB.out))) : w.heap.size ≤ gb183)); clear HB; have HB := n0_; have BK183 := n1_; have GW183 := n2_; have GE183 := n3_; clear n0_ n1_ n2_ n3_; clear hb hbox hg; obtain ⟨hcz7_0, hcz7_1⟩ := celN2 BK183.out; obtain ⟨hfz7_0, hfz7_1⟩ := fzN2 BK183.out) | ((with_reducible refine gCa (f := 31) rfl ?_); refine gLl (some 5) rfl rfl Try.func31 (by kernel_rfl) rfl #[.string a0_1] rfl (by (try simp only [List.map_toArray, List.map_cons, List.map_nil]); first | done | rfl | (simp only [List.length_drop, List.length_take]; rfl)) ?_; (with_reducible refine (etag_plain.calls k a0_1 false _ A2.out).mono ?_); rintro e w' ⟨rfl, ⟨nd, rfl⟩⟩; refine ⟨_, rfl, ?_⟩))
    go_ret
    exact ⟨by first | rfl | exact nEm _ | exact eEm _ | (simp [eWn, eWs] <;> rfl) | (simp [*, eWn, eWs] <;> rfl), by repeat (first | (with_reducible first | exact HB.out | apply aBl | apply pBd | apply dBl | refine sBl ?_ GE183.out) | exact HB.out)⟩
def check_Tag.f (k : Nat) (a0 : ByteArray) : Option (Bool) := if a0.toList = ([] : List UInt8) then (some false) else ((etag_Right.f k false a0).bind fun t185 => (some t185))
theorem check_Tag.mono : ∀ a0 k, LeO (check_Tag.f k a0) (check_Tag.f (k + 1) a0) := by
  intro a0 k
  unfold check_Tag.f
  repeat' first
      | (with_reducible exact etag_Right.mono _ _ _)
      | (with_reducible exact LeO.refl _)
      | (with_reducible exact LeO.none _)
      | (with_reducible refine LeO.ite ?_ ?_)
      | (with_reducible refine LeO.bind ?_ (fun _ => ?_))
      | exact etag_Right.mono _ _ _
      | exact LeO.none _
      | refine LeO.ite ?_ ?_
      | refine LeO.bind ?_ (fun _ => ?_)
set_option maxHeartbeats 8000000 in
set_option maxRecDepth 100000 in
theorem check_Tag.calls (k : Nat) (a0 : ByteArray) (r : Bool) (w : World) (h : check_Tag.f k a0 = some r) :
    Calls Try.prog 18 #[.string a0] w fun e w' => e = .returned (.bool r) ∧ Below w.heap.size w w' := by
  have hu58 := Try.underlying58
  have HB := AsZ.mk (Below.refl w.heap.size w)
  have H : (if a0.toList = ([] : List UInt8) then (some false) else ((etag_Right.f k false a0).bind fun t185 => (some t185))) = some r := h
  clear h
  by_cases c2 : a0.toList = ([] : List UInt8)
  · rw [if_pos c2] at H
    have c2b0 : (a0.toList == ([] : List UInt8)) = true := beq_iff_eq.mpr c2
    have c2b1 : (a0.toList != ([] : List UInt8)) = false := bne_eq_false_iff_eq.mpr c2
    clear c2
    obtain rfl := Option.some.inj H
    go_enter Try.func18, Try.ntmps18
    go_wp2
    go_ret
    exact ⟨by first | rfl | exact nEm _ | exact eEm _ | (simp [eWn, eWs] <;> rfl) | (simp [*, eWn, eWs] <;> rfl), by repeat (first | (with_reducible first | exact HB.out | apply aBl | apply pBd | apply dBl) | exact HB.out)⟩
  · rw [if_neg c2] at H
    have c2b0 : (a0.toList == ([] : List UInt8)) = false := beq_eq_false_iff_ne.mpr c2
    have c2b1 : (a0.toList != ([] : List UInt8)) = true := bne_iff_ne.mpr c2
    replace H := Option.bind_eq_some_iff.mp H
    obtain ⟨t185, A30, H⟩ := H
    replace H : (some t185) = some r := H
    have A3 := AsZ.mk A30
    clear A30
    obtain rfl := Option.some.inj H
    go_enter Try.func18, Try.ntmps18
    go_wp2_with (first | (go_at_call 27; (with_reducible refine (etag_Right.calls k false a0 t185 _ A3.out).mono ?_); rintro e w4 ⟨rfl, hb⟩; have n0_ := AsZ.mk (tBl (by repeat (first | (with_reducible first | exact HB.out | apply aBl | apply pBd | apply dBl) | exact HB.out)) hb); clear HB; have HB := n0_; clear n0_; (try clear hb); (try clear hb2); (try clear hk); (try clear hi)))
    go_ret
    exact ⟨by first | rfl | exact nEm _ | exact eEm _ | (simp [eWn, eWs] <;> rfl) | (simp [*, eWn, eWs] <;> rfl), by repeat (first | (with_reducible first | exact HB.out | apply aBl | apply pBd | apply dBl) | exact HB.out)⟩
def strings_IndexByte.f (a0 : ByteArray) (a1 : Int) : Option Int := some (idxb a0 a1)
theorem strings_IndexByte.calls (a0 : ByteArray) (a1 : Int) (r : Int) (w : World) (h : strings_IndexByte.f a0 a1 = some r) :
    Calls Try.prog 38 #[.string a0, .int .u8 a1] w fun e w' => e = .returned (.int .i64 r) ∧ Drawn0 w w' := by
  obtain rfl := Option.some.inj h
  have hext : ∀ (s : ByteArray) (c : Int) (w : World), (callFunc 43 #[.string s, .int .u8 c]).run Try.prog w = .ok (.value (.int .i64 (idxb s c))) w := fun s c w => by
    rw [run_callFunc_indexByte Try.func43 (by kernel_rfl) (by kernel_rfl) (by kernel_rfl) (by kernel_rfl), Lib.run_indexByteString]; rfl
  go_enter Try.func38, Try.ntmps38
  go_wp2
  go_ret
  exact ⟨rfl, Drawn0.refl _⟩
def text_Cut.f (a0 : ByteArray) (a1 : Int) : Option (ByteArray × ByteArray × Bool) := (strings_IndexByte.f a0 a1).bind fun t186 => (if t186 < 0 then (some (a0, (⟨#[]⟩ : ByteArray), false)) else (if 0 ≤ t186 then (if t186 ≤ (a0.size : Int) then (if 0 ≤ (wrap64 (t186 + 1)) then (if (wrap64 (t186 + 1)) ≤ (a0.size : Int) then (some (a0.extract 0 (t186 : Int).toNat, a0.extract ((wrap64 (t186 + 1)) : Int).toNat a0.size, true)) else (none)) else (none)) else (none)) else (none)))
set_option maxHeartbeats 8000000 in
set_option maxRecDepth 100000 in
theorem text_Cut.calls (a0 : ByteArray) (a1 : Int) (r1 : ByteArray) (r2 : ByteArray) (r3 : Bool) (w : World) (h : text_Cut.f a0 a1 = some (r1, r2, r3)) :
    Calls Try.prog 32 #[.string a0, .int .u8 a1] w fun e w' => e = .returned (.tuple #[.string r1, .string r2, .bool r3]) ∧ Drawn0 w w' := by
  have H : ((strings_IndexByte.f a0 a1).bind fun t186 => (if t186 < 0 then (some (a0, (⟨#[]⟩ : ByteArray), false)) else (if 0 ≤ t186 then (if t186 ≤ (a0.size : Int) then (if 0 ≤ (wrap64 (t186 + 1)) then (if (wrap64 (t186 + 1)) ≤ (a0.size : Int) then (some (a0.extract 0 (t186 : Int).toNat, a0.extract ((wrap64 (t186 + 1)) : Int).toNat a0.size, true)) else (none)) else (none)) else (none)) else (none)))) = some (r1, r2, r3) := h
  clear h
  replace H := Option.bind_eq_some_iff.mp H
  obtain ⟨t186, A30, H⟩ := H
  replace H : (if t186 < 0 then (some (a0, (⟨#[]⟩ : ByteArray), false)) else (if 0 ≤ t186 then (if t186 ≤ (a0.size : Int) then (if 0 ≤ (wrap64 (t186 + 1)) then (if (wrap64 (t186 + 1)) ≤ (a0.size : Int) then (some (a0.extract 0 (t186 : Int).toNat, a0.extract ((wrap64 (t186 + 1)) : Int).toNat a0.size, true)) else (none)) else (none)) else (none)) else (none))) = some (r1, r2, r3) := H
  have A3 := AsZ.mk A30
  clear A30
  by_cases c4 : t186 < 0
  · rw [if_pos c4] at H
    have c4b0 : decide (t186 < 0) = true := decide_eq_true c4
    clear c4
    simp only [Option.some.injEq, Prod.mk.injEq] at H
    obtain ⟨rfl, rfl, rfl⟩ := H
    go_enter Try.func32, Try.ntmps32
    go_wp2_with (first | (go_at_call 38; (with_reducible refine (strings_IndexByte.calls a0 a1 t186 _ A3.out).mono ?_); rintro e w' ⟨rfl, ⟨nd, rfl⟩⟩; (try first | exact ⟨rfl, _, World.drewN_drewN _ _ _⟩ | exact ⟨rfl, _, Eq.trans (World.drewN_drewN _ _ _) (congrArg (World.drewN _) (Nat.add_assoc _ _ _))⟩)))
    repeat (go_quiet (first | (go_at_call 38; (with_reducible refine (strings_IndexByte.calls a0 a1 t186 _ A3.out).mono ?_); rintro e w' ⟨rfl, ⟨nd, rfl⟩⟩; (try first | exact ⟨rfl, _, World.drewN_drewN _ _ _⟩ | exact ⟨rfl, _, Eq.trans (World.drewN_drewN _ _ _) (congrArg (World.drewN _) (Nat.add_assoc _ _ _))⟩))); try go_wp2_with (first | (go_at_call 38; (with_reducible refine (strings_IndexByte.calls a0 a1 t186 _ A3.out).mono ?_); rintro e w' ⟨rfl, ⟨nd, rfl⟩⟩; (try first | exact ⟨rfl, _, World.drewN_drewN _ _ _⟩ | exact ⟨rfl, _, Eq.trans (World.drewN_drewN _ _ _) (congrArg (World.drewN _) (Nat.add_assoc _ _ _))⟩))))
    go_ret3
    exact ⟨by first | rfl | (simp; done) | (simp [*]; done) | exact nEm _ | exact eEm _, by repeat (first | exact Drawn0.refl _ | apply Drawn0.step)⟩
  · rw [if_neg c4] at H
    have c4b0 : decide (t186 < 0) = false := decide_eq_false c4
    clear c4
    by_cases c5 : 0 ≤ t186
    · rw [if_pos c5] at H
      have c5b0 := eq_true c5
      have c5b1 : decide (0 ≤ t186) = true := decide_eq_true c5
      clear c5
      by_cases c6 : t186 ≤ (a0.size : Int)
      · rw [if_pos c6] at H
        have c6b0 := eq_true c6
        have c6b1 : decide (t186 ≤ (a0.size : Int)) = true := decide_eq_true c6
        clear c6
        obtain ⟨ji7, hji7⟩ : ∃ j_ : Int, (wrap64 (t186 + 1)) = j_ := ⟨_, rfl⟩
        replace H : (if 0 ≤ (ji7) then (if (ji7) ≤ (a0.size : Int) then (some (a0.extract 0 (t186 : Int).toNat, a0.extract ((ji7) : Int).toNat a0.size, true)) else (none)) else (none)) = some (r1, r2, r3) := by first | (rw [hji7] at H; exact H) | (simp only [hji7] at H ⊢; exact H)
        (try rw [hji7] at A3)
        have hji7w : (IntKind.i64.wrap (t186 + 1)) = ji7 := (i64_w _).trans hji7
        by_cases c8 : 0 ≤ (ji7)
        · rw [if_pos c8] at H
          have c8b0 := eq_true c8
          have c8b1 : decide (0 ≤ (ji7)) = true := decide_eq_true c8
          clear c8
          by_cases c9 : (ji7) ≤ (a0.size : Int)
          · rw [if_pos c9] at H
            have c9b0 := eq_true c9
            have c9b1 : decide ((ji7) ≤ (a0.size : Int)) = true := decide_eq_true c9
            clear c9
            simp only [Option.some.injEq, Prod.mk.injEq] at H
            obtain ⟨rfl, rfl, rfl⟩ := H
            go_enter Try.func32, Try.ntmps32
            go_wp2_with (first | (go_at_call 38; (with_reducible refine (strings_IndexByte.calls a0 a1 t186 _ A3.out).mono ?_); rintro e w' ⟨rfl, ⟨nd, rfl⟩⟩; (try first | exact ⟨rfl, _, World.drewN_drewN _ _ _⟩ | exact ⟨rfl, _, Eq.trans (World.drewN_drewN _ _ _) (congrArg (World.drewN _) (Nat.add_assoc _ _ _))⟩)))
            repeat (go_quiet (first | (go_at_call 38; (with_reducible refine (strings_IndexByte.calls a0 a1 t186 _ A3.out).mono ?_); rintro e w' ⟨rfl, ⟨nd, rfl⟩⟩; (try first | exact ⟨rfl, _, World.drewN_drewN _ _ _⟩ | exact ⟨rfl, _, Eq.trans (World.drewN_drewN _ _ _) (congrArg (World.drewN _) (Nat.add_assoc _ _ _))⟩))); try go_wp2_with (first | (go_at_call 38; (with_reducible refine (strings_IndexByte.calls a0 a1 t186 _ A3.out).mono ?_); rintro e w' ⟨rfl, ⟨nd, rfl⟩⟩; (try first | exact ⟨rfl, _, World.drewN_drewN _ _ _⟩ | exact ⟨rfl, _, Eq.trans (World.drewN_drewN _ _ _) (congrArg (World.drewN _) (Nat.add_assoc _ _ _))⟩))))
            go_ret3
            exact ⟨by first | rfl | (simp; done) | (simp only [← hji7] <;> (first | rfl | simp)) | (simp [*]; done), by repeat (first | exact Drawn0.refl _ | apply Drawn0.step)⟩
          · rw [if_neg c9] at H
            exact absurd H (by simp)
        · rw [if_neg c8] at H
          exact absurd H (by simp)
      · rw [if_neg c6] at H
        exact absurd H (by simp)
    · rw [if_neg c5] at H
      exact absurd H (by simp)
def text_Lower.f (a0 : ByteArray) : Option ByteArray := if a0.size ≤ 9223372036854775807 then some (strOfNums ((bytesOf a0).map lowI)) else none
set_option maxHeartbeats 2000000 in
theorem text_Lower.calls (a0 : ByteArray) (r : ByteArray) (w : World) (h : text_Lower.f a0 = some r) :
    Calls Try.prog 39 #[.string a0] w fun e w' => e = .returned (.string r) ∧ Below w.heap.size w w' := by
  have hs : a0.size ≤ 9223372036854775807 := by
    by_cases hs : a0.size ≤ 9223372036854775807
    · exact hs
    · unfold text_Lower.f at h; rw [if_neg hs] at h; cases h
  have hr0 : r = strOfNums ((bytesOf a0).map lowI) := by unfold text_Lower.f at h; rw [if_pos hs] at h; exact (Option.some.inj h).symm
  subst hr0
  clear h
  have kb := fun (s : ByteArray) W => print_bytes (P := Try.prog) 9 29 5 Try.underlying9 Try.underlying29 Try.underlying5 s W
  have hfin : ∀ (W : World) (cap : Nat), (∀ j, j < a0.size → W.cell? ⟨w.heap.size, j, none⟩ = some (.int .u8 (lowAt a0 a0.size j))) →
      (convert 29 9 (.slice (some ⟨w.heap.size, 0, none⟩) a0.size cap)).run Try.prog W = .ok (.string (strOfNums ((bytesOf a0).map lowI))) W := fun W cap hc =>
    run_convert_bytes_arg W 29 5 Try.underlying29 Try.underlying5 w.heap.size 0 a0.size cap _ (low_end a0).1 (fun i hi => by rw [Nat.zero_add, hc i hi, (low_end a0).2 i hi]) 9 Try.underlying9
  have L0 : LowIn a0 w.heap.size 0 w (Lib.bytesWorld w 5 a0) := ⟨fun j hj => low_cell w 5 a0 j hj, fun j hj => low_frozen w 5 a0 j hj, bytes_below (Below.refl _ _) (Nat.le_refl _) 5 a0⟩
  have hfinH := Lib.hid hfin
  clear hfin
  go_enter Try.func39, Try.ntmps39
  go_wp2
  go_loopw [10] (fun i wr => ∃ k : Nat, k ≤ a0.size ∧ i = .int .i64 k ∧ LowIn a0 w.heap.size k w wr) (fun i _ => a0.size - (intOf i).toNat)
  case atStart => exact ⟨0, Nat.zero_le _, rfl, L0⟩
  case round =>
    clear L0
    obtain ⟨k, hk, rfl, L⟩ := hrel
    by_cases hlt : k < a0.size
    · have hc : wr.cell? ⟨w.heap.size, k, none⟩ = some (.int .u8 (bt a0 k)) := by have := L.cells k hlt; unfold lowAt at this; rwa [if_neg (by omega)] at this
      have hf := L.free k hlt
      have hr := bt_range a0 k
      by_cases hA : 65 ≤ bt a0 k
      · by_cases hZ : bt a0 k ≤ 90
        · go_wp2
          go_roundw
          case rel => exact ⟨k + 1, by omega, by go_num, ⟨low_next a0 k wr w.heap.size _ (by unfold lowI; rw [if_pos ⟨hA, hZ⟩]) hlt L.cells, fun j hj => by rw [World.frozen?_setCell]; exact L.free j hj, L.below.setCell (p := ⟨w.heap.size, k, none⟩) (Nat.le_refl _) _⟩⟩
          case measure => simp [intOf]; omega
        · go_wp2
          go_roundw
          case rel => exact ⟨k + 1, by omega, by go_num, ⟨low_stay a0 k wr w.heap.size (by unfold lowI; rw [if_neg (by omega)]) L.cells, L.free, L.below⟩⟩
          case measure => simp [intOf]; omega
      · go_wp2
        go_roundw
        case rel => exact ⟨k + 1, by omega, by go_num, ⟨low_stay a0 k wr w.heap.size (by unfold lowI; rw [if_neg (by omega)]) L.cells, L.free, L.below⟩⟩
        case measure => simp [intOf]; omega
    · obtain rfl : k = a0.size := by omega
      have hcv := fun cap => hfinH.out wr cap L.cells
      go_wp2
      go_ret
      exact ⟨rfl, L.below⟩
end Go.Proofs.Ytkmkiheoelakaaa.PAll
namespace Go.Proofs.Ytkmkiheoelakaaa.PAll
open Go.RowKit Go.Proofs.Ytkmkiheoelakaaa.Xw Go.Proofs.YtkmkiheoelakaaaW.PrintWords Go.Proofs.YtkmkiheoelakaaaW.PrintLast Go.Proofs.YtkmkiheoelakaaaW.PrintMore
attribute [local go_sem] max2_int min2_int max_two min_two max_three min_three max_four min_four   -- for this text's walks alone
set_option linter.unusedVariables false
set_option linter.unusedSimpArgs false
def text_Fold.f (a0 : ByteArray) (a1 : ByteArray) : Option (Bool) := (text_Lower.f a0).bind fun t187 => ((text_Lower.f a1).bind fun t188 => (some (t187.toList == t188.toList)))
set_option maxHeartbeats 8000000 in
set_option maxRecDepth 100000 in
theorem text_Fold.calls (a0 : ByteArray) (a1 : ByteArray) (r : Bool) (w : World) (h : text_Fold.f a0 a1 = some r) :
    Calls Try.prog 33 #[.string a0, .string a1] w fun e w' => e = .returned (.bool r) ∧ Below w.heap.size w w' := by
  have HB := AsZ.mk (Below.refl w.heap.size w)
  have H : ((text_Lower.f a0).bind fun t187 => ((text_Lower.f a1).bind fun t188 => (some (t187.toList == t188.toList)))) = some r := h
  clear h
  replace H := Option.bind_eq_some_iff.mp H
  obtain ⟨t187, A30, H⟩ := H
  replace H : ((text_Lower.f a1).bind fun t188 => (some (t187.toList == t188.toList))) = some r := H
  have A3 := AsZ.mk A30
  clear A30
  replace H := Option.bind_eq_some_iff.mp H
  obtain ⟨t188, A40, H⟩ := H
  replace H : (some (t187.toList == t188.toList)) = some r := H
  have A4 := AsZ.mk A40
  clear A40
  obtain rfl := Option.some.inj H
  go_enter Try.func33, Try.ntmps33
  go_wp2_with (first | ((with_reducible refine gCa (f := 39) rfl ?_); refine gLl (some 6) rfl rfl Try.func39 (by kernel_rfl) rfl #[.string a0] rfl (by (try simp only [List.map_toArray, List.map_cons, List.map_nil]); first | done | rfl | (simp only [List.length_drop, List.length_take]; rfl)) ?_; (with_reducible refine (text_Lower.calls a0 t187 _ A3.out).mono ?_); rintro e w5 ⟨rfl, hb⟩; refine ⟨_, rfl, ?_⟩; have n0_ := AsZ.mk (tBl (by repeat (first | (with_reducible first | exact HB.out | apply aBl | apply pBd | apply dBl) | exact HB.out)) hb); clear HB; have HB := n0_; clear n0_; (try clear hb); (try clear hb2); (try clear hk); (try clear hi)) | ((with_reducible refine gCa (f := 39) rfl ?_); refine gLl (some 8) rfl rfl Try.func39 (by kernel_rfl) rfl #[.string a1] rfl (by (try simp only [List.map_toArray, List.map_cons, List.map_nil]); first | done | rfl | (simp only [List.length_drop, List.length_take]; rfl)) ?_; (with_reducible refine (text_Lower.calls a1 t188 _ A4.out).mono ?_); rintro e w6 ⟨rfl, hb⟩; refine ⟨_, rfl, ?_⟩; have n0_ := AsZ.mk (tBl (by repeat (first | (with_reducible first | exact HB.out | apply aBl | apply pBd | apply dBl) | exact HB.out)) hb); clear HB; have HB := n0_; clear n0_; (try clear hb); (try clear hb2); (try clear hk); (try clear hi)))
  go_ret
  exact ⟨by first | rfl | exact nEm _ | exact eEm _ | (simp [eWn, eWs] <;> rfl) | (simp [*, eWn, eWs] <;> rfl), by repeat (first | (with_reducible first | exact HB.out | apply aBl | apply pBd | apply dBl) | exact HB.out)⟩
def nums_digit.f (a0 : Int) : Option (Int × Bool) := if a0 < 48 then (some (0, false)) else (if a0 > 57 then (some (0, false)) else (some ((a0 - 48) % 256, true)))
set_option maxHeartbeats 8000000 in
set_option maxRecDepth 100000 in
theorem nums_digit.calls (a0 : Int) (r1 : Int) (r2 : Bool) (w : World) (h : nums_digit.f a0 = some (r1, r2)) :
    Calls Try.prog 42 #[.int .u8 a0] w fun e w' => e = .returned (.tuple #[.int .i64 r1, .bool r2]) ∧ Drawn0 w w' := by
  have H : (if a0 < 48 then (some (0, false)) else (if a0 > 57 then (some (0, false)) else (some ((a0 - 48) % 256, true)))) = some (r1, r2) := h
  clear h
  by_cases c2 : a0 < 48
  · rw [if_pos c2] at H
    have c2b0 : decide (a0 < 48) = true := decide_eq_true c2
    clear c2
    simp only [Option.some.injEq, Prod.mk.injEq] at H
    obtain ⟨rfl, rfl⟩ := H
    go_enter Try.func42, Try.ntmps42
    go_wp2
    go_ret2
    exact ⟨by first | rfl | (simp; done) | (simp [*]; done) | exact nEm _ | exact eEm _, by repeat (first | exact Drawn0.refl _ | apply Drawn0.step)⟩
  · rw [if_neg c2] at H
    have c2b0 : decide (a0 < 48) = false := decide_eq_false c2
    clear c2
    by_cases c3 : a0 > 57
    · rw [if_pos c3] at H
      have c3b0 : decide (57 < a0) = true := decide_eq_true c3
      clear c3
      simp only [Option.some.injEq, Prod.mk.injEq] at H
      obtain ⟨rfl, rfl⟩ := H
      go_enter Try.func42, Try.ntmps42
      go_wp2
      go_ret2
      exact ⟨by first | rfl | (simp; done) | (simp [*]; done) | exact nEm _ | exact eEm _, by repeat (first | exact Drawn0.refl _ | apply Drawn0.step)⟩
    · rw [if_neg c3] at H
      have c3b0 : decide (57 < a0) = false := decide_eq_false c3
      clear c3
      simp only [Option.some.injEq, Prod.mk.injEq] at H
      obtain ⟨rfl, rfl⟩ := H
      go_enter Try.func42, Try.ntmps42
      go_wp2
      go_ret2
      exact ⟨by first | rfl | (simp; done) | (simp [*]; done) | exact nEm _ | exact eEm _, by repeat (first | exact Drawn0.refl _ | apply Drawn0.step)⟩
def nums_Parse.l0 : Nat → ByteArray → Int → Bool → Int → Int → Option (Int × Int)
  | 0, _, _, _, _, _ => none
  | k + 1, x0, x4, x5, x10, x11 => if x11 < x10 then (if 0 ≤ x11 then (if x11 < (x0.size : Int) then ((nums_digit.f (bt x0 x11)).bind fun bt189 => (if bt189.2 = true then (if x5 = true then (nums_Parse.l0 k x0 x4 x5 x10 (wrap64 (x11 + 1))) else (if x4 > (wrap64 (Int.tdiv (wrap64 (4611686018427387903 - bt189.1)) 10)) then (nums_Parse.l0 k x0 x4 true x10 (wrap64 (x11 + 1))) else (nums_Parse.l0 k x0 (wrap64 ((wrap64 (10 * x4)) + bt189.1)) x5 x10 (wrap64 (x11 + 1))))) else (some (0, 3)))) else (none)) else (none)) else (if x0.toList = ([] : List UInt8) then (some (0, 3)) else (if x5 = true then (some (0, 9)) else (some (x4, 0))))
def nums_Parse.f (k : Nat) (a0 : ByteArray) : Option (Int × Int) := nums_Parse.l0 k a0 0 false (a0.size : Int) 0
theorem nums_Parse.mono_l : ∀ k, (∀ y0 y1 y2 y3 y4, LeO (nums_Parse.l0 k y0 y1 y2 y3 y4) (nums_Parse.l0 (k + 1) y0 y1 y2 y3 y4))
  | 0 => fun _ _ _ _ _ r h => by simp [nums_Parse.l0] at h
  | k + 1 => by
    have ih0 := nums_Parse.mono_l k
    · intro y0 y1 y2 y3 y4
      unfold nums_Parse.l0
      repeat' first
      | (with_reducible exact ih0 _ _ _ _ _)
      | (with_reducible exact LeO.refl _)
      | (with_reducible exact LeO.none _)
      | (with_reducible refine LeO.ite ?_ ?_)
      | (with_reducible refine LeO.bind ?_ (fun _ => ?_))
      | exact ih0 _ _ _ _ _
      | exact LeO.none _
      | refine LeO.ite ?_ ?_
      | refine LeO.bind ?_ (fun _ => ?_)
theorem nums_Parse.mono : ∀ a0 k, LeO (nums_Parse.f k a0) (nums_Parse.f (k + 1) a0) := by
  intro a0 k
  have ih0 := nums_Parse.mono_l k
  unfold nums_Parse.f
  repeat' first
      | (with_reducible exact ih0 _ _ _ _ _)
      | (with_reducible exact LeO.refl _)
      | (with_reducible exact LeO.none _)
      | (with_reducible refine LeO.ite ?_ ?_)
      | (with_reducible refine LeO.bind ?_ (fun _ => ?_))
      | exact ih0 _ _ _ _ _
      | exact LeO.none _
      | refine LeO.ite ?_ ?_
      | refine LeO.bind ?_ (fun _ => ?_)
set_option maxHeartbeats 8000000 in
set_option maxRecDepth 100000 in
theorem nums_Parse.calls (k : Nat) (a0 : ByteArray) (r1 : Int) (r2 : Int) (w : World) (h : nums_Parse.f k a0 = some (r1, r2)) :
    Calls Try.prog 40 #[.string a0] w fun e w' => e = .returned (.tuple #[.int .i64 r1, .int .i64 r2]) ∧ Drawn0 w w' := by
  have H : (nums_Parse.l0 k a0 0 false (a0.size : Int) 0) = some (r1, r2) := h
  clear h
  have H' := AsZ.mk H
  clear H
  go_enter Try.func40, Try.ntmps40
  go_wp2
  try (with_reducible apply wp_scope_straight; go_wp2)
  try (with_reducible apply wp_label; go_wp2)
  go_loopg [4, 5, 11] k (fun kq v4 v5 v11 w' => ∃ (x4_1 : Int) (x5_1 : Bool) (x11_1 : Int), v4 = .int .i64 x4_1 ∧ v5 = .bool x5_1 ∧ v11 = .int .i64 x11_1 ∧ AsZ (nums_Parse.l0 kq a0 x4_1 x5_1 (a0.size : Int) x11_1 = some (r1, r2)) ∧ AsZ (kq ≤ k) ∧ Drawn0 w w')
  case atStart => exact ⟨(0), (false), (0), (by first | rfl | (simp; done) | (simp [*]; done)), (by first | rfl | (simp; done) | (simp [*]; done)), (by first | rfl | (simp; done) | (simp [*]; done)), H', ⟨Nat.le_refl _⟩, by repeat (first | exact Drawn0.refl _ | apply Drawn0.step)⟩
  case round =>
    clear H'
    obtain ⟨x4_1, x5_1, x11_1, rfl, rfl, rfl, HA, HK1, ⟨m1, rfl⟩⟩ := hrel
    cases gk with
    | zero => exact absurd HA.out (by simp [nums_Parse.l0])
    | succ k1 =>
      have H := HA.out
      clear HA
      simp only [nums_Parse.l0] at H
      by_cases c2 : x11_1 < (a0.size : Int)
      · rw [if_pos c2] at H
        have c2b0 : decide (x11_1 < (a0.size : Int)) = true := decide_eq_true c2
        clear c2
        by_cases c3 : 0 ≤ x11_1
        · rw [if_pos c3] at H
          have c3b0 : decide (0 ≤ x11_1) = true := decide_eq_true c3
          clear c3
          by_cases c4 : x11_1 < (a0.size : Int)
          · rw [if_pos c4] at H
            have c4b0 : decide (x11_1 < (a0.size : Int)) = true := decide_eq_true c4
            clear c4
            replace H := Option.bind_eq_some_iff.mp H
            obtain ⟨⟨t189, t190⟩, A60, H⟩ := H
            replace H : (if t190 = true then (if x5_1 = true then (nums_Parse.l0 k1 a0 x4_1 x5_1 (a0.size : Int) (wrap64 (x11_1 + 1))) else (if x4_1 > (wrap64 (Int.tdiv (wrap64 (4611686018427387903 - t189)) 10)) then (nums_Parse.l0 k1 a0 x4_1 true (a0.size : Int) (wrap64 (x11_1 + 1))) else (nums_Parse.l0 k1 a0 (wrap64 ((wrap64 (10 * x4_1)) + t189)) x5_1 (a0.size : Int) (wrap64 (x11_1 + 1))))) else (some (0, 3))) = some (r1, r2) := H
            have A6 := AsZ.mk A60
            clear A60
            by_cases c7 : t190 = true
            · subst c7
              have H1 : (if x5_1 = true then (nums_Parse.l0 k1 a0 x4_1 x5_1 (a0.size : Int) (wrap64 (x11_1 + 1))) else (if x4_1 > (wrap64 (Int.tdiv (wrap64 (4611686018427387903 - t189)) 10)) then (nums_Parse.l0 k1 a0 x4_1 true (a0.size : Int) (wrap64 (x11_1 + 1))) else (nums_Parse.l0 k1 a0 (wrap64 ((wrap64 (10 * x4_1)) + t189)) x5_1 (a0.size : Int) (wrap64 (x11_1 + 1))))) = some (r1, r2) := by rw [if_pos rfl] at H; exact H
              clear H
              have H := H1
              clear H1
              by_cases c8 : x5_1 = true
              · subst c8
                have H1 : (nums_Parse.l0 k1 a0 x4_1 true (a0.size : Int) (wrap64 (x11_1 + 1))) = some (r1, r2) := by rw [if_pos rfl] at H; exact H
                clear H
                have H := H1
                clear H1
                have H' := AsZ.mk H
                clear H
                have p5 : 0 ≤ (x11_1 : Int) := of_decide_eq_true (by first | (with_reducible assumption) | assumption)
                have q5 : x11_1 < (a0.size : Int) := of_decide_eq_true (by first | (with_reducible assumption) | assumption)
                have hx5 := bt_at a0 x11_1
                replace p5 := eq_true p5
                replace q5 := eq_true q5
                go_wp2_with (first | ((with_reducible refine gCa (f := 42) rfl ?_); refine gLl (some 18) rfl rfl Try.func42 (by kernel_rfl) rfl #[.int .u8 (bt a0 x11_1)] rfl (by (try simp only [List.map_toArray, List.map_cons, List.map_nil]); first | done | rfl | (simp only [List.length_drop, List.length_take]; rfl)) ?_; (with_reducible refine (nums_digit.calls (bt a0 x11_1) t189 true _ A6.out).mono ?_); rintro e w' ⟨rfl, ⟨nd, rfl⟩⟩; refine ⟨_, rfl, ?_⟩))
                try (with_reducible apply wp_scope_straight; go_wp2_with (first | ((with_reducible refine gCa (f := 42) rfl ?_); refine gLl (some 18) rfl rfl Try.func42 (by kernel_rfl) rfl #[.int .u8 (bt a0 x11_1)] rfl (by (try simp only [List.map_toArray, List.map_cons, List.map_nil]); first | done | rfl | (simp only [List.length_drop, List.length_take]; rfl)) ?_; (with_reducible refine (nums_digit.calls (bt a0 x11_1) t189 true _ A6.out).mono ?_); rintro e w' ⟨rfl, ⟨nd, rfl⟩⟩; refine ⟨_, rfl, ?_⟩)))
                try (with_reducible apply wp_label; go_wp2_with (first | ((with_reducible refine gCa (f := 42) rfl ?_); refine gLl (some 18) rfl rfl Try.func42 (by kernel_rfl) rfl #[.int .u8 (bt a0 x11_1)] rfl (by (try simp only [List.map_toArray, List.map_cons, List.map_nil]); first | done | rfl | (simp only [List.length_drop, List.length_take]; rfl)) ?_; (with_reducible refine (nums_digit.calls (bt a0 x11_1) t189 true _ A6.out).mono ?_); rintro e w' ⟨rfl, ⟨nd, rfl⟩⟩; refine ⟨_, rfl, ?_⟩)))
                go_roundg k1
                case measure => have := HK1.out; omega
                case rel => exact ⟨(x4_1), (true), (wrap64 (x11_1 + 1)), (by first | rfl | (simp; done) | (simp [*]; done)), (by first | rfl | (simp; done) | (simp [*]; done)), (by first | rfl | (simp; done) | (simp [*]; done)), H', ⟨by have := HK1.out; omega⟩, by repeat (first | exact Drawn0.refl _ | apply Drawn0.step)⟩
              · replace c8 := Bool.eq_false_iff.mpr c8
                subst c8
                have H1 : (if x4_1 > (wrap64 (Int.tdiv (wrap64 (4611686018427387903 - t189)) 10)) then (nums_Parse.l0 k1 a0 x4_1 true (a0.size : Int) (wrap64 (x11_1 + 1))) else (nums_Parse.l0 k1 a0 (wrap64 ((wrap64 (10 * x4_1)) + t189)) false (a0.size : Int) (wrap64 (x11_1 + 1)))) = some (r1, r2) := by rw [if_neg (show ¬ (false = true) by decide)] at H; exact H
                clear H
                have H := H1
                clear H1
                by_cases c9 : x4_1 > (wrap64 (Int.tdiv (wrap64 (4611686018427387903 - t189)) 10))
                · rw [if_pos c9] at H
                  have c9b0 : decide ((wrap64 (Int.tdiv (wrap64 (4611686018427387903 - t189)) 10)) < x4_1) = true := decide_eq_true c9
                  clear c9
                  have H' := AsZ.mk H
                  clear H
                  have p5 : 0 ≤ (x11_1 : Int) := of_decide_eq_true (by first | (with_reducible assumption) | assumption)
                  have q5 : x11_1 < (a0.size : Int) := of_decide_eq_true (by first | (with_reducible assumption) | assumption)
                  have hx5 := bt_at a0 x11_1
                  replace p5 := eq_true p5
                  replace q5 := eq_true q5
                  go_wp2_with (first | ((with_reducible refine gCa (f := 42) rfl ?_); refine gLl (some 18) rfl rfl Try.func42 (by kernel_rfl) rfl #[.int .u8 (bt a0 x11_1)] rfl (by (try simp only [List.map_toArray, List.map_cons, List.map_nil]); first | done | rfl | (simp only [List.length_drop, List.length_take]; rfl)) ?_; (with_reducible refine (nums_digit.calls (bt a0 x11_1) t189 true _ A6.out).mono ?_); rintro e w' ⟨rfl, ⟨nd, rfl⟩⟩; refine ⟨_, rfl, ?_⟩))
                  try (with_reducible apply wp_scope_straight; go_wp2_with (first | ((with_reducible refine gCa (f := 42) rfl ?_); refine gLl (some 18) rfl rfl Try.func42 (by kernel_rfl) rfl #[.int .u8 (bt a0 x11_1)] rfl (by (try simp only [List.map_toArray, List.map_cons, List.map_nil]); first | done | rfl | (simp only [List.length_drop, List.length_take]; rfl)) ?_; (with_reducible refine (nums_digit.calls (bt a0 x11_1) t189 true _ A6.out).mono ?_); rintro e w' ⟨rfl, ⟨nd, rfl⟩⟩; refine ⟨_, rfl, ?_⟩)))
                  try (with_reducible apply wp_label; go_wp2_with (first | ((with_reducible refine gCa (f := 42) rfl ?_); refine gLl (some 18) rfl rfl Try.func42 (by kernel_rfl) rfl #[.int .u8 (bt a0 x11_1)] rfl (by (try simp only [List.map_toArray, List.map_cons, List.map_nil]); first | done | rfl | (simp only [List.length_drop, List.length_take]; rfl)) ?_; (with_reducible refine (nums_digit.calls (bt a0 x11_1) t189 true _ A6.out).mono ?_); rintro e w' ⟨rfl, ⟨nd, rfl⟩⟩; refine ⟨_, rfl, ?_⟩)))
                  go_roundg k1
                  case measure => have := HK1.out; omega
                  case rel => exact ⟨(x4_1), (true), (wrap64 (x11_1 + 1)), (by first | rfl | (simp; done) | (simp [*]; done)), (by first | rfl | (simp; done) | (simp [*]; done)), (by first | rfl | (simp; done) | (simp [*]; done)), H', ⟨by have := HK1.out; omega⟩, by repeat (first | exact Drawn0.refl _ | apply Drawn0.step)⟩
                · rw [if_neg c9] at H
                  have c9b0 : decide ((wrap64 (Int.tdiv (wrap64 (4611686018427387903 - t189)) 10)) < x4_1) = false := decide_eq_false c9
                  clear c9
                  have H' := AsZ.mk H
                  clear H
                  have p5 : 0 ≤ (x11_1 : Int) := of_decide_eq_true (by first | (with_reducible assumption) | assumption)
                  have q5 : x11_1 < (a0.size : Int) := of_decide_eq_true (by first | (with_reducible assumption) | assumption)
                  have hx5 := bt_at a0 x11_1
                  replace p5 := eq_true p5
                  replace q5 := eq_true q5
                  go_wp2_with (first | ((with_reducible refine gCa (f := 42) rfl ?_); refine gLl (some 18) rfl rfl Try.func42 (by kernel_rfl) rfl #[.int .u8 (bt a0 x11_1)] rfl (by (try simp only [List.map_toArray, List.map_cons, List.map_nil]); first | done | rfl | (simp only [List.length_drop, List.length_take]; rfl)) ?_; (with_reducible refine (nums_digit.calls (bt a0 x11_1) t189 true _ A6.out).mono ?_); rintro e w' ⟨rfl, ⟨nd, rfl⟩⟩; refine ⟨_, rfl, ?_⟩))
                  try (with_reducible apply wp_scope_straight; go_wp2_with (first | ((with_reducible refine gCa (f := 42) rfl ?_); refine gLl (some 18) rfl rfl Try.func42 (by kernel_rfl) rfl #[.int .u8 (bt a0 x11_1)] rfl (by (try simp only [List.map_toArray, List.map_cons, List.map_nil]); first | done | rfl | (simp only [List.length_drop, List.length_take]; rfl)) ?_; (with_reducible refine (nums_digit.calls (bt a0 x11_1) t189 true _ A6.out).mono ?_); rintro e w' ⟨rfl, ⟨nd, rfl⟩⟩; refine ⟨_, rfl, ?_⟩)))
                  try (with_reducible apply wp_label; go_wp2_with (first | ((with_reducible refine gCa (f := 42) rfl ?_); refine gLl (some 18) rfl rfl Try.func42 (by kernel_rfl) rfl #[.int .u8 (bt a0 x11_1)] rfl (by (try simp only [List.map_toArray, List.map_cons, List.map_nil]); first | done | rfl | (simp only [List.length_drop, List.length_take]; rfl)) ?_; (with_reducible refine (nums_digit.calls (bt a0 x11_1) t189 true _ A6.out).mono ?_); rintro e w' ⟨rfl, ⟨nd, rfl⟩⟩; refine ⟨_, rfl, ?_⟩)))
                  go_roundg k1
                  case measure => have := HK1.out; omega
                  case rel => exact ⟨(wrap64 ((wrap64 (10 * x4_1)) + t189)), (false), (wrap64 (x11_1 + 1)), (by first | rfl | (simp; done) | (simp [*]; done)), (by first | rfl | (simp; done) | (simp [*]; done)), (by first | rfl | (simp; done) | (simp [*]; done)), H', ⟨by have := HK1.out; omega⟩, by repeat (first | exact Drawn0.refl _ | apply Drawn0.step)⟩
            · replace c7 := Bool.eq_false_iff.mpr c7
              subst c7
              have H1 : (some (0, 3)) = some (r1, r2) := by rw [if_neg (show ¬ (false = true) by decide)] at H; exact H
              clear H
              have H := H1
              clear H1
              simp only [Option.some.injEq, Prod.mk.injEq] at H
              obtain ⟨rfl, rfl⟩ := H
              have p5 : 0 ≤ (x11_1 : Int) := of_decide_eq_true (by first | (with_reducible assumption) | assumption)
              have q5 : x11_1 < (a0.size : Int) := of_decide_eq_true (by first | (with_reducible assumption) | assumption)
              have hx5 := bt_at a0 x11_1
              replace p5 := eq_true p5
              replace q5 := eq_true q5
              go_wp2_with (first | ((with_reducible refine gCa (f := 42) rfl ?_); refine gLl (some 18) rfl rfl Try.func42 (by kernel_rfl) rfl #[.int .u8 (bt a0 x11_1)] rfl (by (try simp only [List.map_toArray, List.map_cons, List.map_nil]); first | done | rfl | (simp only [List.length_drop, List.length_take]; rfl)) ?_; (with_reducible refine (nums_digit.calls (bt a0 x11_1) t189 false _ A6.out).mono ?_); rintro e w' ⟨rfl, ⟨nd, rfl⟩⟩; refine ⟨_, rfl, ?_⟩))
              try (with_reducible apply wp_scope_straight; go_wp2_with (first | ((with_reducible refine gCa (f := 42) rfl ?_); refine gLl (some 18) rfl rfl Try.func42 (by kernel_rfl) rfl #[.int .u8 (bt a0 x11_1)] rfl (by (try simp only [List.map_toArray, List.map_cons, List.map_nil]); first | done | rfl | (simp only [List.length_drop, List.length_take]; rfl)) ?_; (with_reducible refine (nums_digit.calls (bt a0 x11_1) t189 false _ A6.out).mono ?_); rintro e w' ⟨rfl, ⟨nd, rfl⟩⟩; refine ⟨_, rfl, ?_⟩)))
              try (with_reducible apply wp_label; go_wp2_with (first | ((with_reducible refine gCa (f := 42) rfl ?_); refine gLl (some 18) rfl rfl Try.func42 (by kernel_rfl) rfl #[.int .u8 (bt a0 x11_1)] rfl (by (try simp only [List.map_toArray, List.map_cons, List.map_nil]); first | done | rfl | (simp only [List.length_drop, List.length_take]; rfl)) ?_; (with_reducible refine (nums_digit.calls (bt a0 x11_1) t189 false _ A6.out).mono ?_); rintro e w' ⟨rfl, ⟨nd, rfl⟩⟩; refine ⟨_, rfl, ?_⟩)))
              try rw [Exit.noGoto_ret]
              go_ret2
              exact ⟨by first | rfl | (simp; done) | (simp [*]; done) | exact nEm _ | exact eEm _, by repeat (first | exact Drawn0.refl _ | apply Drawn0.step)⟩
          · rw [if_neg c4] at H
            exact absurd H (by simp)
        · rw [if_neg c3] at H
          exact absurd H (by simp)
      · rw [if_neg c2] at H
        have c2b0 : decide (x11_1 < (a0.size : Int)) = false := decide_eq_false c2
        clear c2
        by_cases c10 : a0.toList = ([] : List UInt8)
        · rw [if_pos c10] at H
          have c10b0 : (a0.toList == ([] : List UInt8)) = true := beq_iff_eq.mpr c10
          have c10b1 : (a0.toList != ([] : List UInt8)) = false := bne_eq_false_iff_eq.mpr c10
          clear c10
          simp only [Option.some.injEq, Prod.mk.injEq] at H
          obtain ⟨rfl, rfl⟩ := H
          go_wp2
          try (with_reducible apply wp_scope_straight; go_wp2)
          try (with_reducible apply wp_label; go_wp2)
          try rw [Exit.noGoto_ret]
          go_ret2
          exact ⟨by first | rfl | (simp; done) | (simp [*]; done) | exact nEm _ | exact eEm _, by repeat (first | exact Drawn0.refl _ | apply Drawn0.step)⟩
        · rw [if_neg c10] at H
          have c10b0 : (a0.toList == ([] : List UInt8)) = false := beq_eq_false_iff_ne.mpr c10
          have c10b1 : (a0.toList != ([] : List UInt8)) = true := bne_iff_ne.mpr c10
          by_cases c11 : x5_1 = true
          · subst c11
            have H1 : (some (0, 9)) = some (r1, r2) := by rw [if_pos rfl] at H; exact H
            clear H
            have H := H1
            clear H1
            simp only [Option.some.injEq, Prod.mk.injEq] at H
            obtain ⟨rfl, rfl⟩ := H
            go_wp2
            try (with_reducible apply wp_scope_straight; go_wp2)
            try (with_reducible apply wp_label; go_wp2)
            try rw [Exit.noGoto_ret]
            go_ret2
            exact ⟨by first | rfl | (simp; done) | (simp [*]; done) | exact nEm _ | exact eEm _, by repeat (first | exact Drawn0.refl _ | apply Drawn0.step)⟩
          · replace c11 := Bool.eq_false_iff.mpr c11
            subst c11
            have H1 : (some (x4_1, 0)) = some (r1, r2) := by rw [if_neg (show ¬ (false = true) by decide)] at H; exact H
            clear H
            have H := H1
            clear H1
            simp only [Option.some.injEq, Prod.mk.injEq] at H
            obtain ⟨rfl, rfl⟩ := H
            go_wp2
            try (with_reducible apply wp_scope_straight; go_wp2)
            try (with_reducible apply wp_label; go_wp2)
            try rw [Exit.noGoto_ret]
            go_ret2
            exact ⟨by first | rfl | (simp; done) | (simp [*]; done) | exact nEm _ | exact eEm _, by repeat (first | exact Drawn0.refl _ | apply Drawn0.step)⟩
/-- A state of type 67 at block g of W; what its slices lead to came in by w0. -/
def IsS67 (w0 W : World) (g : Nat) (f0 : Int) : Prop := W.heap[g]? = some (.cells #[.int .i64 f0] 67 (0, 0)) ∧ w0.heap.size ≤ g
theorem IsS67.grown {w0 W : World} {g : Nat} {f0 : Int} {W1 : World} {row : Option Nat} (h : IsS67 w0 W g f0) (hw : W.grownBy W1 row) (hne : some g ≠ row) : IsS67 w0 W1 g f0 := by
  obtain ⟨hb, hg⟩ := h
  exact ⟨blk_grown hb hw hne, hg⟩
theorem IsS67.kept {w0 W : World} {g : Nat} {f0 : Int} {W1 : World} {S : Nat → Prop} (h : IsS67 w0 W g f0) (hk : Kept W W1 S) (hne : ¬ S g) : IsS67 w0 W1 g f0 := by
  obtain ⟨hb, hg⟩ := h
  exact ⟨blk_kept hb hk hne, hg⟩
theorem IsS67.below {w0 W : World} {g : Nat} {f0 : Int} {W1 : World} (h : IsS67 w0 W g f0) (hw : Below W.heap.size W W1) : IsS67 w0 W1 g f0 := h.grown (grown_of_below hw none) (by simp)
theorem IsS67.alloc {w0 W : World} {g : Nat} {f0 : Int} (h : IsS67 w0 W g f0) (o : Obj) : IsS67 w0 (W.alloc o) g f0 := h.below (aBl (Below.refl _ _) o)
theorem IsS67.drewN {w0 W : World} {g : Nat} {f0 : Int} (h : IsS67 w0 W g f0) (m : Nat) : IsS67 w0 (W.drewN m) g f0 := h
theorem IsS67.drew {w0 W : World} {g : Nat} {f0 : Int} (h : IsS67 w0 W g f0) : IsS67 w0 W.drew g f0 := h
theorem IsS67.apart {w0 W : World} {g : Nat} {f0 : Int} {α : Type} {d : Kd α} {e : Nat} {base : Nat} {ok : Nat → Prop} {v : Value} {xs : List α} (h : IsS67 w0 W g f0) (ho : d.R e W base ok v xs) (ht : ∀ q, q ∈ e :: d.E → q ≠ 67) : d.R e W base (fun k => ok k ∧ k ≠ g) v xs := by
  obtain ⟨hb, hg⟩ := h
  exact Kd.R_types ho hb ht
theorem IsS67.own_ne {w0 W : World} {g : Nat} {f0 : Int} {α : Type} {d : Kd α} {e : Nat} {base : Nat} {ok : Nat → Prop} {v : Value} {xs : List α} (h : IsS67 w0 W g f0) (ho : d.R e W base ok v xs) (ht : e ≠ 67) : some g ≠ v.ownBlock := by
  obtain ⟨hb, hg⟩ := h
  exact Kd.R_ne ho hb ht
theorem IsS67.ge {w0 W : World} {g : Nat} {f0 : Int} (h : IsS67 w0 W g f0) : w0.heap.size ≤ g := by
  obtain ⟨hb, hg⟩ := h
  exact hg
theorem cellS67_0 {W : World} {g : Nat} {f0 : Int} (h : W.heap[g]? = some (.cells #[.int .i64 f0] 67 (0, 0))) : W.cell? ⟨g, 0, none⟩ = some (.int .i64 f0) := (bCe h 0).trans rfl
theorem IsS67.set_0 {w0 W : World} {g : Nat} {f0 : Int} (h : IsS67 w0 W g f0) (x : Int) : IsS67 w0 (W.setCell ⟨g, 0, none⟩ (.int .i64 x)) g x := by
  obtain ⟨hb, hg⟩ := h
  exact ⟨by simpa using blk_set hb 0 (.int .i64 x), hg⟩
def crNum.f (k : Nat) (s0_0 : Int) (a1 : ByteArray) : Option (Int × Int) := (nums_Parse.f k a1).bind fun bt191 => (if bt191.2 = 3 then (some (bt191.1, bt191.2)) else (if s0_0 = 0 then (some (bt191.1, bt191.2)) else (some (bt191.1, s0_0))))
theorem crNum.mono : ∀ a0 a1 k, LeO (crNum.f k a0 a1) (crNum.f (k + 1) a0 a1) := by
  intro a0 a1 k
  unfold crNum.f
  repeat' first
      | (with_reducible exact nums_Parse.mono _ _)
      | (with_reducible exact LeO.refl _)
      | (with_reducible exact LeO.none _)
      | (with_reducible refine LeO.ite ?_ ?_)
      | (with_reducible refine LeO.bind ?_ (fun _ => ?_))
      | exact nums_Parse.mono _ _
      | exact LeO.none _
      | refine LeO.ite ?_ ?_
      | refine LeO.bind ?_ (fun _ => ?_)
set_option maxHeartbeats 8000000 in
set_option maxRecDepth 100000 in
theorem crNum.calls (k : Nat) (g : Nat) (s0_0 : Int) (a1 : ByteArray) (r1 : Int) (r2 : Int) (w0 w : World) (hI : IsS67 w0 w g s0_0) (hB : Below w0.heap.size w0 w) (h : crNum.f k s0_0 a1 = some (r1, r2)) :
    Calls Try.prog 34 #[.pointer (some ⟨g, 0, none⟩), .string a1] w fun e w' => e = .returned (.int .i64 r1) ∧ IsS67 w0 w' g r2 ∧ Below w0.heap.size w0 w' ∧ KeepBut w w' g none := by
  have HI0 := AsZ.mk hI
  have HK := AsZ.mk (KeepBut.refl w g none)
  have HL := AsZ.mk hB.size
  clear hI
  have HW0 := AsZ.mk hB.size
  have HB := AsZ.mk hB
  clear hB
  have H : ((nums_Parse.f k a1).bind fun bt191 => (if bt191.2 = 3 then (some (bt191.1, bt191.2)) else (if s0_0 = 0 then (some (bt191.1, bt191.2)) else (some (bt191.1, s0_0))))) = some (r1, r2) := h
  clear h
  replace H := Option.bind_eq_some_iff.mp H
  obtain ⟨⟨t191, t192⟩, A30, H⟩ := H
  replace H : (if t192 = 3 then (some (t191, t192)) else (if s0_0 = 0 then (some (t191, t192)) else (some (t191, s0_0)))) = some (r1, r2) := H
  have A3 := AsZ.mk A30
  clear A30
  by_cases c4 : t192 = 3
  · rw [if_pos c4] at H
    have c4b0 : (t192 == 3) = true := beq_iff_eq.mpr c4
    have c4b1 : (t192 != 3) = false := bne_eq_false_iff_eq.mpr c4
    clear c4
    simp only [Option.some.injEq, Prod.mk.injEq] at H
    obtain ⟨rfl, rfl⟩ := H
    go_enter Try.func34, Try.ntmps34
    go_wp2_with (first | ((with_reducible refine gCa (f := 40) rfl ?_); refine gLl (some 9) rfl rfl Try.func40 (by kernel_rfl) rfl #[.string a1] rfl (by (try simp only [List.map_toArray, List.map_cons, List.map_nil]); first | done | rfl | (simp only [List.length_drop, List.length_take]; rfl)) ?_; (with_reducible refine (nums_Parse.calls k a1 t191 t192 _ A3.out).mono ?_); rintro e w' ⟨rfl, ⟨nd, rfl⟩⟩; refine ⟨_, rfl, ?_⟩; (try (rw [drewN_self w]; generalize hq_ : World.drewN w _ = wq_; have n0_ : AsZ (IsS67 w0 wq_ g s0_0) := ⟨by rw [← hq_]; exact (by repeat (first | (with_reducible first | exact HI0.out | apply IsS67.alloc | apply IsS67.drewN | apply IsS67.drew | apply IsS67.set_0) | exact HI0.out))⟩; have n1_ : AsZ (KeepBut w wq_ g none) := ⟨by rw [← hq_]; exact (by repeat (first | (with_reducible first | exact HK.out | apply KeepBut.set_ | apply keep_drewN | apply keep_drew | apply keep_alloc) | exact HK.out))⟩; have n2_ : AsZ (Below w0.heap.size w0 wq_) := ⟨by rw [← hq_]; exact (by repeat (first | (with_reducible first | exact HB.out | apply aBl | apply pBd | apply dBl | refine sBl ?_ (IsS67.ge HI0.out)) | exact HB.out))⟩; clear HI0 HK HB hq_; have HI0 := n0_; have HK := n1_; have HB := n2_; clear n0_ n1_ n2_)); obtain ⟨HGz5, hgz5⟩ := HI0.out; have hcz5_0 := cellS67_0 HGz5; have hfz5_0 := bFz HGz5 0; clear HGz5 hgz5))
    go_ret
    exact ⟨by first | rfl | exact nEm _ | exact eEm _ | (simp [eWn, eWs] <;> rfl) | (simp [*, eWn, eWs] <;> rfl), by repeat (first | (with_reducible first | exact HI0.out | apply IsS67.alloc | apply IsS67.drewN | apply IsS67.drew | apply IsS67.set_0) | exact HI0.out), by repeat (first | (with_reducible first | exact HB.out | apply aBl | apply pBd | apply dBl | refine sBl ?_ (IsS67.ge HI0.out)) | exact HB.out), by repeat (first | (with_reducible first | exact HK.out | apply KeepBut.set_ | apply keep_drewN | apply keep_drew | apply keep_alloc) | exact HK.out)⟩
  · rw [if_neg c4] at H
    have c4b0 : (t192 == 3) = false := beq_eq_false_iff_ne.mpr c4
    have c4b1 : (t192 != 3) = true := bne_iff_ne.mpr c4
    by_cases c6 : s0_0 = 0
    · rw [if_pos c6] at H
      have c6b0 : (s0_0 == 0) = true := beq_iff_eq.mpr c6
      have c6b1 : (s0_0 != 0) = false := bne_eq_false_iff_eq.mpr c6
      clear c6
      simp only [Option.some.injEq, Prod.mk.injEq] at H
      obtain ⟨rfl, rfl⟩ := H
      go_enter Try.func34, Try.ntmps34
      go_wp2_with (first | ((with_reducible refine gCa (f := 40) rfl ?_); refine gLl (some 9) rfl rfl Try.func40 (by kernel_rfl) rfl #[.string a1] rfl (by (try simp only [List.map_toArray, List.map_cons, List.map_nil]); first | done | rfl | (simp only [List.length_drop, List.length_take]; rfl)) ?_; (with_reducible refine (nums_Parse.calls k a1 t191 t192 _ A3.out).mono ?_); rintro e w' ⟨rfl, ⟨nd, rfl⟩⟩; refine ⟨_, rfl, ?_⟩; (try (rw [drewN_self w]; generalize hq_ : World.drewN w _ = wq_; have n0_ : AsZ (IsS67 w0 wq_ g s0_0) := ⟨by rw [← hq_]; exact (by repeat (first | (with_reducible first | exact HI0.out | apply IsS67.alloc | apply IsS67.drewN | apply IsS67.drew | apply IsS67.set_0) | exact HI0.out))⟩; have n1_ : AsZ (KeepBut w wq_ g none) := ⟨by rw [← hq_]; exact (by repeat (first | (with_reducible first | exact HK.out | apply KeepBut.set_ | apply keep_drewN | apply keep_drew | apply keep_alloc) | exact HK.out))⟩; have n2_ : AsZ (Below w0.heap.size w0 wq_) := ⟨by rw [← hq_]; exact (by repeat (first | (with_reducible first | exact HB.out | apply aBl | apply pBd | apply dBl | refine sBl ?_ (IsS67.ge HI0.out)) | exact HB.out))⟩; clear HI0 HK HB hq_; have HI0 := n0_; have HK := n1_; have HB := n2_; clear n0_ n1_ n2_)); obtain ⟨HGz7, hgz7⟩ := HI0.out; have hcz7_0 := cellS67_0 HGz7; have hfz7_0 := bFz HGz7 0; clear HGz7 hgz7))
      go_ret
      exact ⟨by first | rfl | exact nEm _ | exact eEm _ | (simp [eWn, eWs] <;> rfl) | (simp [*, eWn, eWs] <;> rfl), by repeat (first | (with_reducible first | exact HI0.out | apply IsS67.alloc | apply IsS67.drewN | apply IsS67.drew | apply IsS67.set_0) | exact HI0.out), by repeat (first | (with_reducible first | exact HB.out | apply aBl | apply pBd | apply dBl | refine sBl ?_ (IsS67.ge HI0.out)) | exact HB.out), by repeat (first | (with_reducible first | exact HK.out | apply KeepBut.set_ | apply keep_drewN | apply keep_drew | apply keep_alloc) | exact HK.out)⟩
    · rw [if_neg c6] at H
      have c6b0 : (s0_0 == 0) = false := beq_eq_false_iff_ne.mpr c6
      have c6b1 : (s0_0 != 0) = true := bne_iff_ne.mpr c6
      simp only [Option.some.injEq, Prod.mk.injEq] at H
      obtain ⟨rfl, rfl⟩ := H
      go_enter Try.func34, Try.ntmps34
      go_wp2_with (first | ((with_reducible refine gCa (f := 40) rfl ?_); refine gLl (some 9) rfl rfl Try.func40 (by kernel_rfl) rfl #[.string a1] rfl (by (try simp only [List.map_toArray, List.map_cons, List.map_nil]); first | done | rfl | (simp only [List.length_drop, List.length_take]; rfl)) ?_; (with_reducible refine (nums_Parse.calls k a1 t191 t192 _ A3.out).mono ?_); rintro e w' ⟨rfl, ⟨nd, rfl⟩⟩; refine ⟨_, rfl, ?_⟩; obtain ⟨HGz8, hgz8⟩ := HI0.out; have hcz8_0 := cellS67_0 HGz8; have hfz8_0 := bFz HGz8 0; clear HGz8 hgz8))
      go_ret
      exact ⟨by first | rfl | exact nEm _ | exact eEm _ | (simp [eWn, eWs] <;> rfl) | (simp [*, eWn, eWs] <;> rfl), by repeat (first | (with_reducible first | exact HI0.out | apply IsS67.alloc | apply IsS67.drewN | apply IsS67.drew | apply IsS67.set_0) | exact HI0.out), by repeat (first | (with_reducible first | exact HB.out | apply aBl | apply pBd | apply dBl | refine sBl ?_ (IsS67.ge HI0.out)) | exact HB.out), by repeat (first | (with_reducible first | exact HK.out | apply KeepBut.set_ | apply keep_drewN | apply keep_drew | apply keep_alloc) | exact HK.out)⟩
def nums_Fits.f (a0 : Int) (a1 : Int) (a2 : Int) : Option (Bool) := if a0 ≥ a1 then (some (decide (a0 ≤ a2))) else (some false)
set_option maxHeartbeats 8000000 in
set_option maxRecDepth 100000 in
theorem nums_Fits.calls (a0 : Int) (a1 : Int) (a2 : Int) (r : Bool) (w : World) (h : nums_Fits.f a0 a1 a2 = some r) :
    Calls Try.prog 23 #[.int .i64 a0, .int .i64 a1, .int .i64 a2] w fun e w' => e = .returned (.bool r) ∧ Drawn0 w w' := by
  have H : (if a0 ≥ a1 then (some (decide (a0 ≤ a2))) else (some false)) = some r := h
  clear h
  by_cases c4 : a0 ≥ a1
  · rw [if_pos c4] at H
    have c4b0 : decide (a1 ≤ a0) = true := decide_eq_true c4
    clear c4
    obtain rfl := Option.some.inj H
    go_enter Try.func23, Try.ntmps23
    go_wp2
    go_ret
    exact ⟨by first | rfl | (simp; done) | (simp [*]; done) | exact nEm _ | exact eEm _, by repeat (first | exact Drawn0.refl _ | apply Drawn0.step)⟩
  · rw [if_neg c4] at H
    have c4b0 : decide (a1 ≤ a0) = false := decide_eq_false c4
    clear c4
    obtain rfl := Option.some.inj H
    go_enter Try.func23, Try.ntmps23
    go_wp2
    go_ret
    exact ⟨by first | rfl | (simp; done) | (simp [*]; done) | exact nEm _ | exact eEm _, by repeat (first | exact Drawn0.refl _ | apply Drawn0.step)⟩
def span_Right.f (a0_0 : Int) (a0_1 : Int) : Option (Bool) := if a0_0 ≥ 0 then (if a0_0 < a0_1 then (some (decide (a0_1 ≤ 4611686018427387903))) else (some false)) else (some false)
set_option maxHeartbeats 8000000 in
set_option maxRecDepth 100000 in
theorem span_Right.calls (a0_0 : Int) (a0_1 : Int) (r : Bool) (w : World) (h : span_Right.f a0_0 a0_1 = some r) :
    Calls Try.prog 36 #[.agg #[.int .i64 a0_0, .int .i64 a0_1]] w fun e w' => e = .returned (.bool r) ∧ Below w.heap.size w w' := by
  have hu23 := Try.underlying23
  have HB := AsZ.mk (Below.refl w.heap.size w)
  have H : (if a0_0 ≥ 0 then (if a0_0 < a0_1 then (some (decide (a0_1 ≤ 4611686018427387903))) else (some false)) else (some false)) = some r := h
  clear h
  by_cases c2 : a0_0 ≥ 0
  · rw [if_pos c2] at H
    have c2b0 : decide (0 ≤ a0_0) = true := decide_eq_true c2
    clear c2
    by_cases c3 : a0_0 < a0_1
    · rw [if_pos c3] at H
      have c3b0 : decide (a0_0 < a0_1) = true := decide_eq_true c3
      clear c3
      obtain rfl := Option.some.inj H
      go_enter Try.func36, Try.ntmps36
      go_wp2_with (first | ((with_reducible refine gDs (N := 1) rfl ?_); refine bEv ?hg (N := 1) ?hd (cs := #[.int .i64 a0_0, .int .i64 a0_1]) (t := 23) ?hr ?_; (case hd => rfl); (case hg => rfl); (case hr => first | (go_simp; done) | (go_simp; rfl)); intro gb193 hg w4 hbox hb; have n0_ := AsZ.mk (tBl (by repeat (first | (with_reducible first | exact HB.out | apply aBl | apply pBd | apply dBl) | exact HB.out)) hb); have n1_ := AsZ.mk (hbox); have n2_ := AsZ.mk ((by rw [hg]; exact (zBl (by repeat (first | (with_reducible first | exact HB.out | apply aBl | apply pBd | apply dBl) | exact HB.out))) : w.heap.size ≤ gb193)); have n3_ := AsZ.mk ((by rw [hg]; exact (zBl (by repeat (first | (with_reducible first | exact HB.out | apply aBl | apply pBd | apply dBl) | exact HB.out))) : w.heap.size ≤ gb193)); clear HB; have HB := n0_; have BK193 := n1_; have GW193 := n2_; have GE193 := n3_; clear n0_ n1_ n2_ n3_; clear hb hbox hg; obtain ⟨hcz5_0, hcz5_1⟩ := celN2 BK193.out; obtain ⟨hfz5_0, hfz5_1⟩ := fzN2 BK193.out))
      go_ret
      exact ⟨by first | rfl | exact nEm _ | exact eEm _ | (simp [eWn, eWs] <;> rfl) | (simp [*, eWn, eWs] <;> rfl), by repeat (first | (with_reducible first | exact HB.out | apply aBl | apply pBd | apply dBl | refine sBl ?_ GE193.out) | exact HB.out)⟩
    · rw [if_neg c3] at H
      have c3b0 : decide (a0_0 < a0_1) = false := decide_eq_false c3
      clear c3
      obtain rfl := Option.some.inj H
      go_enter Try.func36, Try.ntmps36
      go_wp2_with (first | ((with_reducible refine gDs (N := 1) rfl ?_); refine bEv ?hg (N := 1) ?hd (cs := #[.int .i64 a0_0, .int .i64 a0_1]) (t := 23) ?hr ?_; (case hd => rfl); (case hg => rfl); (case hr => first | (go_simp; done) | (go_simp; rfl)); intro gb193 hg w6 hbox hb; have n0_ := AsZ.mk (tBl (by repeat (first | (with_reducible first | exact HB.out | apply aBl | apply pBd | apply dBl) | exact HB.out)) hb); have n1_ := AsZ.mk (hbox); have n2_ := AsZ.mk ((by rw [hg]; exact (zBl (by repeat (first | (with_reducible first | exact HB.out | apply aBl | apply pBd | apply dBl) | exact HB.out))) : w.heap.size ≤ gb193)); have n3_ := AsZ.mk ((by rw [hg]; exact (zBl (by repeat (first | (with_reducible first | exact HB.out | apply aBl | apply pBd | apply dBl) | exact HB.out))) : w.heap.size ≤ gb193)); clear HB; have HB := n0_; have BK193 := n1_; have GW193 := n2_; have GE193 := n3_; clear n0_ n1_ n2_ n3_; clear hb hbox hg; obtain ⟨hcz7_0, hcz7_1⟩ := celN2 BK193.out; obtain ⟨hfz7_0, hfz7_1⟩ := fzN2 BK193.out))
      go_ret
      exact ⟨by first | rfl | exact nEm _ | exact eEm _ | (simp [eWn, eWs] <;> rfl) | (simp [*, eWn, eWs] <;> rfl), by repeat (first | (with_reducible first | exact HB.out | apply aBl | apply pBd | apply dBl | refine sBl ?_ GE193.out) | exact HB.out)⟩
  · rw [if_neg c2] at H
    have c2b0 : decide (0 ≤ a0_0) = false := decide_eq_false c2
    clear c2
    obtain rfl := Option.some.inj H
    go_enter Try.func36, Try.ntmps36
    go_wp2_with (first | ((with_reducible refine gDs (N := 1) rfl ?_); refine bEv ?hg (N := 1) ?hd (cs := #[.int .i64 a0_0, .int .i64 a0_1]) (t := 23) ?hr ?_; (case hd => rfl); (case hg => rfl); (case hr => first | (go_simp; done) | (go_simp; rfl)); intro gb193 hg w8 hbox hb; have n0_ := AsZ.mk (tBl (by repeat (first | (with_reducible first | exact HB.out | apply aBl | apply pBd | apply dBl) | exact HB.out)) hb); have n1_ := AsZ.mk (hbox); have n2_ := AsZ.mk ((by rw [hg]; exact (zBl (by repeat (first | (with_reducible first | exact HB.out | apply aBl | apply pBd | apply dBl) | exact HB.out))) : w.heap.size ≤ gb193)); have n3_ := AsZ.mk ((by rw [hg]; exact (zBl (by repeat (first | (with_reducible first | exact HB.out | apply aBl | apply pBd | apply dBl) | exact HB.out))) : w.heap.size ≤ gb193)); clear HB; have HB := n0_; have BK193 := n1_; have GW193 := n2_; have GE193 := n3_; clear n0_ n1_ n2_ n3_; clear hb hbox hg; obtain ⟨hcz9_0, hcz9_1⟩ := celN2 BK193.out; obtain ⟨hfz9_0, hfz9_1⟩ := fzN2 BK193.out))
    go_ret
    exact ⟨by first | rfl | exact nEm _ | exact eEm _ | (simp [eWn, eWs] <;> rfl) | (simp [*, eWn, eWs] <;> rfl), by repeat (first | (with_reducible first | exact HB.out | apply aBl | apply pBd | apply dBl | refine sBl ?_ GE193.out) | exact HB.out)⟩
end Go.Proofs.Ytkmkiheoelakaaa.PAll
namespace Go.Proofs.Ytkmkiheoelakaaa.PAll
open Go.RowKit Go.Proofs.Ytkmkiheoelakaaa.Xw Go.Proofs.YtkmkiheoelakaaaW.PrintWords Go.Proofs.YtkmkiheoelakaaaW.PrintLast Go.Proofs.YtkmkiheoelakaaaW.PrintMore
attribute [local go_sem] max2_int min2_int max_two min_two max_three min_three max_four min_four   -- for this text's walks alone
set_option linter.unusedVariables false
set_option linter.unusedSimpArgs false
attribute [local go_sem high] eqA23
def crange_Right.j0 : Nat → Bool → Bool → Int → Int → Int → Option (Bool)
  | 0, _, _, _, _, _ => none
  | k + 1, x11, x195000, x195001, x195002, x195003 => if x11 = true then (some false) else (if x195000 = true then ((span_Right.f x195001 x195002).bind fun t196 => (if t196 = true then (if x195003 = (-1) then (some true) else (some (decide (x195002 ≤ x195003)))) else (some false))) else (if (x195001 == 0 && (x195002 == 0)) = true then (some (x195003 != (-1))) else (some false)))
def crange_Right.f (k : Nat) (a0_0 : Bool) (a0_1 : Int) (a0_2 : Int) (a0_3 : Int) : Option (Bool) := if a0_3 = (-1) then (crange_Right.j0 k false a0_0 a0_1 a0_2 a0_3) else ((nums_Fits.f a0_3 0 4611686018427387903).bind fun t195 => (crange_Right.j0 k (!t195) a0_0 a0_1 a0_2 a0_3))
theorem crange_Right.mono_l : ∀ k, (∀ y0 y1 y2 y3 y4, LeO (crange_Right.j0 k y0 y1 y2 y3 y4) (crange_Right.j0 (k + 1) y0 y1 y2 y3 y4))
  | 0 => fun _ _ _ _ _ r h => by simp [crange_Right.j0] at h
  | k + 1 => by
    have ih0 := crange_Right.mono_l k
    · intro y0 y1 y2 y3 y4
      unfold crange_Right.j0
      repeat' first
      | (with_reducible exact ih0 _ _ _ _ _)
      | (with_reducible exact LeO.refl _)
      | (with_reducible exact LeO.none _)
      | (with_reducible refine LeO.ite ?_ ?_)
      | (with_reducible refine LeO.bind ?_ (fun _ => ?_))
      | exact ih0 _ _ _ _ _
      | exact LeO.none _
      | refine LeO.ite ?_ ?_
      | refine LeO.bind ?_ (fun _ => ?_)
theorem crange_Right.mono : ∀ a0 a1 a2 a3 k, LeO (crange_Right.f k a0 a1 a2 a3) (crange_Right.f (k + 1) a0 a1 a2 a3) := by
  intro a0 a1 a2 a3 k
  have ih0 := crange_Right.mono_l k
  unfold crange_Right.f
  repeat' first
      | (with_reducible exact ih0 _ _ _ _ _)
      | (with_reducible exact LeO.refl _)
      | (with_reducible exact LeO.none _)
      | (with_reducible refine LeO.ite ?_ ?_)
      | (with_reducible refine LeO.bind ?_ (fun _ => ?_))
      | exact ih0 _ _ _ _ _
      | exact LeO.none _
      | refine LeO.ite ?_ ?_
      | refine LeO.bind ?_ (fun _ => ?_)
set_option maxHeartbeats 8000000 in
set_option maxRecDepth 100000 in
theorem crange_Right.calls (k : Nat) (a0_0 : Bool) (a0_1 : Int) (a0_2 : Int) (a0_3 : Int) (r : Bool) (w : World) (h : crange_Right.f k a0_0 a0_1 a0_2 a0_3 = some r) :
    Calls Try.prog 35 #[.agg #[.bool a0_0, .int .i64 a0_1, .int .i64 a0_2, .int .i64 a0_3]] w fun e w' => e = .returned (.bool r) ∧ Below w.heap.size w w' := by
  have hu40 := Try.underlying40
  have hu23 := Try.underlying23
  have HB := AsZ.mk (Below.refl w.heap.size w)
  have H : (if a0_3 = (-1) then (crange_Right.j0 k false a0_0 a0_1 a0_2 a0_3) else ((nums_Fits.f a0_3 0 4611686018427387903).bind fun t195 => (crange_Right.j0 k (!t195) a0_0 a0_1 a0_2 a0_3))) = some r := h
  clear h
  have HC2 := AsZ.mk H
  clear H
  go_enter Try.func35, Try.ntmps35
  go_upto_region 1 with (first | ((with_reducible refine gDs (N := 1) rfl ?_); refine bEv ?hg (N := 1) ?hd (cs := #[.bool a0_0, .int .i64 a0_1, .int .i64 a0_2, .int .i64 a0_3]) (t := 40) ?hr ?_; (case hd => rfl); (case hg => rfl); (case hr => first | (go_simp; done) | (go_simp; rfl)); intro gb194 hg w3 hbox hb; have n0_ := AsZ.mk (tBl (by repeat (first | (with_reducible first | exact HB.out | apply aBl | apply pBd | apply dBl) | exact HB.out)) hb); have n1_ := AsZ.mk (hbox); have n2_ := AsZ.mk ((by rw [hg]; exact (zBl (by repeat (first | (with_reducible first | exact HB.out | apply aBl | apply pBd | apply dBl) | exact HB.out))) : w.heap.size ≤ gb194)); have n3_ := AsZ.mk ((by rw [hg]; exact (zBl (by repeat (first | (with_reducible first | exact HB.out | apply aBl | apply pBd | apply dBl) | exact HB.out))) : w.heap.size ≤ gb194)); clear HB; have HB := n0_; have BK194 := n1_; have GW194 := n2_; have GE194 := n3_; clear n0_ n1_ n2_ n3_; clear hb hbox hg))
  (try simp only [Act.put, List.setIfInBounds_toArray, List.set_cons_zero, List.set_cons_succ])
  go_cut [11] (fun v11 wc => ∃ (kq : Nat) (x11_1 : Bool), v11 = .bool x11_1 ∧ AsZ (crange_Right.j0 kq x11_1 a0_0 a0_1 a0_2 a0_3 = some r) ∧ AsZ (kq ≤ k) ∧ AsZ (wc.heap[gb194]? = some (.cells #[.bool a0_0, .int .i64 a0_1, .int .i64 a0_2, .int .i64 a0_3] 40 (0, 0))) ∧ AsZ (Below w.heap.size w wc))
  case first =>
    have H := HC2.out
    clear HC2
    by_cases c4 : a0_3 = (-1)
    · rw [if_pos c4] at H
      have c4b0 : (a0_3 == (-1)) = true := beq_iff_eq.mpr c4
      have c4b1 : (a0_3 != (-1)) = false := bne_eq_false_iff_eq.mpr c4
      clear c4
      (first | rw [c4b0] | (simp only [i64_w, i32_w]; rw [c4b0]) | skip)
      have H' := AsZ.mk H
      clear H
      obtain ⟨hcz5_0, hcz5_1, hcz5_2, hcz5_3⟩ := celN4 BK194.out
      obtain ⟨hfz5_0, hfz5_1, hfz5_2, hfz5_3⟩ := fzN4 BK194.out
      go_wp2
      go_meet
      case rel => exact ⟨_, (false), (by first | rfl | (simp; done) | (simp [*]; done)), H', ⟨by first | omega | exact Nat.le_refl _⟩, ⟨by (with_reducible repeat first | apply bDn | apply bDr | apply bAl); exact BK194.out⟩, ⟨by repeat (first | (with_reducible first | exact HB.out | apply aBl | apply pBd | apply dBl | refine sBl ?_ GE194.out) | exact HB.out)⟩⟩
    · rw [if_neg c4] at H
      have c4b0 : (a0_3 == (-1)) = false := beq_eq_false_iff_ne.mpr c4
      have c4b1 : (a0_3 != (-1)) = true := bne_iff_ne.mpr c4
      (first | rw [c4b0] | (simp only [i64_w, i32_w]; rw [c4b0]) | skip)
      replace H := Option.bind_eq_some_iff.mp H
      obtain ⟨t195, A60, H⟩ := H
      replace H : (crange_Right.j0 k (!t195) a0_0 a0_1 a0_2 a0_3) = some r := H
      have A6 := AsZ.mk A60
      clear A60
      have H' := AsZ.mk H
      clear H
      obtain ⟨hcz7_0, hcz7_1, hcz7_2, hcz7_3⟩ := celN4 BK194.out
      obtain ⟨hfz7_0, hfz7_1, hfz7_2, hfz7_3⟩ := fzN4 BK194.out
      go_wp2_with (first | (go_at_call 23; (with_reducible refine (nums_Fits.calls a0_3 0 4611686018427387903 t195 _ A6.out).mono ?_); rintro e w' ⟨rfl, ⟨nd, rfl⟩⟩))
      go_meet
      case rel => exact ⟨_, (!t195), (by first | rfl | (simp; done) | (simp [*]; done)), H', ⟨by first | omega | exact Nat.le_refl _⟩, ⟨by (with_reducible repeat first | apply bDn | apply bDr | apply bAl); exact BK194.out⟩, ⟨by repeat (first | (with_reducible first | exact HB.out | apply aBl | apply pBd | apply dBl | refine sBl ?_ GE194.out) | exact HB.out)⟩⟩
  case rest =>
    clear HC2
    try clear p2
    try clear c3
    try clear c4
    try clear c4b0
    try clear c4b1
    try clear hcz5_0
    try clear hcz5_1
    try clear hcz5_2
    try clear hcz5_3
    try clear hcz7_0
    try clear hcz7_1
    try clear hcz7_2
    try clear hcz7_3
    try clear hfz5_0
    try clear hfz5_1
    try clear hfz5_2
    try clear hfz5_3
    try clear hfz7_0
    try clear hfz7_1
    try clear hfz7_2
    try clear hfz7_3
    obtain ⟨kq, x11_1, rfl, HA, HJ1, BK194, HB⟩ := hcut
    cases kq with
    | zero => exact absurd HA.out (by simp [crange_Right.j0])
    | succ kj1 =>
      have H := HA.out
      clear HA
      simp only [crange_Right.j0] at H
      by_cases c8 : x11_1 = true
      · subst c8
        have H1 : (some false) = some r := by rw [if_pos rfl] at H; exact H
        clear H
        have H := H1
        clear H1
        obtain rfl := Option.some.inj H
        go_wp2
        go_ret
        exact ⟨by first | rfl | exact nEm _ | exact eEm _ | (simp [eWn, eWs] <;> rfl) | (simp [*, eWn, eWs] <;> rfl), by repeat (first | (with_reducible first | exact HB.out | apply aBl | apply pBd | apply dBl | refine sBl ?_ GE194.out) | exact HB.out)⟩
      · replace c8 := Bool.eq_false_iff.mpr c8
        subst c8
        have H1 : (if a0_0 = true then ((span_Right.f a0_1 a0_2).bind fun t196 => (if t196 = true then (if a0_3 = (-1) then (some true) else (some (decide (a0_2 ≤ a0_3)))) else (some false))) else (if (a0_1 == 0 && (a0_2 == 0)) = true then (some (a0_3 != (-1))) else (some false))) = some r := by rw [if_neg (show ¬ (false = true) by decide)] at H; exact H
        clear H
        have H := H1
        clear H1
        by_cases c9 : a0_0 = true
        · subst c9
          have H1 : ((span_Right.f a0_1 a0_2).bind fun t196 => (if t196 = true then (if a0_3 = (-1) then (some true) else (some (decide (a0_2 ≤ a0_3)))) else (some false))) = some r := by rw [if_pos rfl] at H; exact H
          clear H
          have H := H1
          clear H1
          replace H := Option.bind_eq_some_iff.mp H
          obtain ⟨t196, A100, H⟩ := H
          replace H : (if t196 = true then (if a0_3 = (-1) then (some true) else (some (decide (a0_2 ≤ a0_3)))) else (some false)) = some r := H
          have A10 := AsZ.mk A100
          clear A100
          by_cases c11 : t196 = true
          · subst c11
            have H1 : (if a0_3 = (-1) then (some true) else (some (decide (a0_2 ≤ a0_3)))) = some r := by rw [if_pos rfl] at H; exact H
            clear H
            have H := H1
            clear H1
            by_cases c12 : a0_3 = (-1)
            · rw [if_pos c12] at H
              have c12b0 : (a0_3 == (-1)) = true := beq_iff_eq.mpr c12
              have c12b1 : (a0_3 != (-1)) = false := bne_eq_false_iff_eq.mpr c12
              clear c12
              obtain rfl := Option.some.inj H
              obtain ⟨hcz13_0, hcz13_1, hcz13_2, hcz13_3⟩ := celN4 BK194.out
              obtain ⟨hfz13_0, hfz13_1, hfz13_2, hfz13_3⟩ := fzN4 BK194.out
              go_wp2_with (first | ((with_reducible refine gCa (f := 36) rfl ?_); refine gLl (some 26) rfl rfl Try.func36 (by kernel_rfl) rfl #[.agg #[.int .i64 a0_1, .int .i64 a0_2]] rfl (by (try simp only [List.map_toArray, List.map_cons, List.map_nil]); first | done | rfl | (simp only [List.length_drop, List.length_take]; rfl)) ?_; (with_reducible refine (span_Right.calls a0_1 a0_2 true _ A10.out).mono ?_); rintro e w14 ⟨rfl, hb⟩; refine ⟨_, rfl, ?_⟩; have n0_ := AsZ.mk (bBl (g := gb194) (o := .cells #[.bool true, .int .i64 a0_1, .int .i64 a0_2, .int .i64 a0_3] 40 (0, 0)) (by (with_reducible repeat first | apply bDn | apply bDr | apply bAl); exact BK194.out) hb); have n1_ := AsZ.mk (tBl (by repeat (first | (with_reducible first | exact HB.out | apply aBl | apply pBd | apply dBl | refine sBl ?_ GE194.out) | exact HB.out)) hb); clear BK194; clear HB; have BK194 := n0_; have HB := n1_; clear n0_ n1_; (try clear hb); (try clear hb2); (try clear hk); (try clear hi); obtain ⟨hcz15_0, hcz15_1, hcz15_2, hcz15_3⟩ := celN4 BK194.out; obtain ⟨hfz15_0, hfz15_1, hfz15_2, hfz15_3⟩ := fzN4 BK194.out))
              go_ret
              exact ⟨by first | rfl | exact nEm _ | exact eEm _ | (simp [eWn, eWs] <;> rfl) | (simp [*, eWn, eWs] <;> rfl), by repeat (first | (with_reducible first | exact HB.out | apply aBl | apply pBd | apply dBl | refine sBl ?_ GE194.out) | exact HB.out)⟩
            · rw [if_neg c12] at H
              have c12b0 : (a0_3 == (-1)) = false := beq_eq_false_iff_ne.mpr c12
              have c12b1 : (a0_3 != (-1)) = true := bne_iff_ne.mpr c12
              obtain rfl := Option.some.inj H
              obtain ⟨hcz16_0, hcz16_1, hcz16_2, hcz16_3⟩ := celN4 BK194.out
              obtain ⟨hfz16_0, hfz16_1, hfz16_2, hfz16_3⟩ := fzN4 BK194.out
              go_wp2_with (first | ((with_reducible refine gCa (f := 36) rfl ?_); refine gLl (some 26) rfl rfl Try.func36 (by kernel_rfl) rfl #[.agg #[.int .i64 a0_1, .int .i64 a0_2]] rfl (by (try simp only [List.map_toArray, List.map_cons, List.map_nil]); first | done | rfl | (simp only [List.length_drop, List.length_take]; rfl)) ?_; (with_reducible refine (span_Right.calls a0_1 a0_2 true _ A10.out).mono ?_); rintro e w17 ⟨rfl, hb⟩; refine ⟨_, rfl, ?_⟩; have n0_ := AsZ.mk (bBl (g := gb194) (o := .cells #[.bool true, .int .i64 a0_1, .int .i64 a0_2, .int .i64 a0_3] 40 (0, 0)) (by (with_reducible repeat first | apply bDn | apply bDr | apply bAl); exact BK194.out) hb); have n1_ := AsZ.mk (tBl (by repeat (first | (with_reducible first | exact HB.out | apply aBl | apply pBd | apply dBl | refine sBl ?_ GE194.out) | exact HB.out)) hb); clear BK194; clear HB; have BK194 := n0_; have HB := n1_; clear n0_ n1_; (try clear hb); (try clear hb2); (try clear hk); (try clear hi); obtain ⟨hcz18_0, hcz18_1, hcz18_2, hcz18_3⟩ := celN4 BK194.out; obtain ⟨hfz18_0, hfz18_1, hfz18_2, hfz18_3⟩ := fzN4 BK194.out))
              go_ret
              exact ⟨by first | rfl | exact nEm _ | exact eEm _ | (simp [eWn, eWs] <;> rfl) | (simp [*, eWn, eWs] <;> rfl), by repeat (first | (with_reducible first | exact HB.out | apply aBl | apply pBd | apply dBl | refine sBl ?_ GE194.out) | exact HB.out)⟩
          · replace c11 := Bool.eq_false_iff.mpr c11
            subst c11
            have H1 : (some false) = some r := by rw [if_neg (show ¬ (false = true) by decide)] at H; exact H
            clear H
            have H := H1
            clear H1
            obtain rfl := Option.some.inj H
            obtain ⟨hcz19_0, hcz19_1, hcz19_2, hcz19_3⟩ := celN4 BK194.out
            obtain ⟨hfz19_0, hfz19_1, hfz19_2, hfz19_3⟩ := fzN4 BK194.out
            go_wp2_with (first | ((with_reducible refine gCa (f := 36) rfl ?_); refine gLl (some 26) rfl rfl Try.func36 (by kernel_rfl) rfl #[.agg #[.int .i64 a0_1, .int .i64 a0_2]] rfl (by (try simp only [List.map_toArray, List.map_cons, List.map_nil]); first | done | rfl | (simp only [List.length_drop, List.length_take]; rfl)) ?_; (with_reducible refine (span_Right.calls a0_1 a0_2 false _ A10.out).mono ?_); rintro e w20 ⟨rfl, hb⟩; refine ⟨_, rfl, ?_⟩; have n0_ := AsZ.mk (bBl (g := gb194) (o := .cells #[.bool true, .int .i64 a0_1, .int .i64 a0_2, .int .i64 a0_3] 40 (0, 0)) (by (with_reducible repeat first | apply bDn | apply bDr | apply bAl); exact BK194.out) hb); have n1_ := AsZ.mk (tBl (by repeat (first | (with_reducible first | exact HB.out | apply aBl | apply pBd | apply dBl | refine sBl ?_ GE194.out) | exact HB.out)) hb); clear BK194; clear HB; have BK194 := n0_; have HB := n1_; clear n0_ n1_; (try clear hb); (try clear hb2); (try clear hk); (try clear hi)))
            go_ret
            exact ⟨by first | rfl | exact nEm _ | exact eEm _ | (simp [eWn, eWs] <;> rfl) | (simp [*, eWn, eWs] <;> rfl), by repeat (first | (with_reducible first | exact HB.out | apply aBl | apply pBd | apply dBl | refine sBl ?_ GE194.out) | exact HB.out)⟩
        · replace c9 := Bool.eq_false_iff.mpr c9
          subst c9
          have H1 : (if (a0_1 == 0 && (a0_2 == 0)) = true then (some (a0_3 != (-1))) else (some false)) = some r := by rw [if_neg (show ¬ (false = true) by decide)] at H; exact H
          clear H
          have H := H1
          clear H1
          by_cases c21 : (a0_1 == 0 && (a0_2 == 0)) = true
          · rw [if_pos c21] at H
            have c21b0 : (a0_1 == 0 && (a0_2 == 0)) = true := c21
            (try (have c21b1 : decide (a0_1 = 0 && (a0_2 == 0)) = true := by simpa using c21))
            (try (have c21b2 : (a0_1 == 0 && (a0_2 == 0)) = true := by simpa using c21))
            clear c21
            obtain rfl := Option.some.inj H
            obtain ⟨hcz22_0, hcz22_1, hcz22_2, hcz22_3⟩ := celN4 BK194.out
            obtain ⟨hfz22_0, hfz22_1, hfz22_2, hfz22_3⟩ := fzN4 BK194.out
            go_wp2
            go_ret
            exact ⟨by first | rfl | exact nEm _ | exact eEm _ | (simp [eWn, eWs] <;> rfl) | (simp [*, eWn, eWs] <;> rfl), by repeat (first | (with_reducible first | exact HB.out | apply aBl | apply pBd | apply dBl | refine sBl ?_ GE194.out) | exact HB.out)⟩
          · rw [if_neg c21] at H
            have c21b0 : (a0_1 == 0 && (a0_2 == 0)) = false := by simpa using c21
            (try (have c21b1 : decide (a0_1 = 0 && (a0_2 == 0)) = false := by simpa using c21))
            (try (have c21b2 : (a0_1 == 0 && (a0_2 == 0)) = false := by simpa using c21))
            (try (have c21b3 : ¬ (a0_1 = 0 && (a0_2 == 0)) := by simpa using c21))
            clear c21
            obtain rfl := Option.some.inj H
            obtain ⟨hcz23_0, hcz23_1, hcz23_2, hcz23_3⟩ := celN4 BK194.out
            obtain ⟨hfz23_0, hfz23_1, hfz23_2, hfz23_3⟩ := fzN4 BK194.out
            go_wp2
            go_ret
            exact ⟨by first | rfl | exact nEm _ | exact eEm _ | (simp [eWn, eWs] <;> rfl) | (simp [*, eWn, eWs] <;> rfl), by repeat (first | (with_reducible first | exact HB.out | apply aBl | apply pBd | apply dBl | refine sBl ?_ GE194.out) | exact HB.out)⟩
end Go.Proofs.Ytkmkiheoelakaaa.PAll
